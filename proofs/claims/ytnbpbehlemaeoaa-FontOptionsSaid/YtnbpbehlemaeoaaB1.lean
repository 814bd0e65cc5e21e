/- The laws by which a program's operations are followed: values, rows, calls, loops, maps. -/
import Derived.Calls
import Derived.Below
import Derived.Orders
import Derived.StillTail
import Derived.Laws.World
import Derived.WalkKit
import Derived.Deep.LoopGhost
import Derived.RangeFuncLeaves
import Derived.RangeFuncRecord
import Derived.Attr
import Derived.Maps.AppendAt
import Derived.Laws.OwnMore
namespace Go.IL
open Go.RowKit
/-- What is known of a value: by content where it is read only, by number where it leads to a row of the call's own. -/
inductive SV : Type
  | any
  | bool (b : Bool)
  | int (k : IntKind) (n : Int)
  | str (s : ByteArray)
  | raw (v : Value)
  | agg (cs : List SV)
  | tup (vs : List SV)
  | ptr (id i j : Nat)
  | ref (id off n : Nat)
  | sl (o : Bool) (xs : List (List SV))
  | rptr (o : Bool) (x : List SV) (j : Nat)
  | mp (o : Bool) (xs : List (List SV))
  | it (o : Bool) (xs : List (List SV)) (seen : List Nat)
  | nils
  | nilp
  | clo (f : FuncId) (caps : List SV)
  | cnd (g : Bool) (v : SV)
  deriving Inhabited
structure RI where
  b : Nat
  k : Nat
  sz : Nat
abbrev Rho := Nat → Option RI
/-- A block that is read only: one made since the call began and left alone, or (o) an old one. -/
def Im (O F : Nat → Prop) (o : Bool) (b : Nat) : Prop := F b ∨ (o = true ∧ O b)
inductive VRel (ρ : Rho) (O F : Nat → Prop) (w : World) : SV → Value → Prop
  | any (v : Value) : VRel ρ O F w .any v
  | bool (b : Bool) : VRel ρ O F w (.bool b) (.bool b)
  | int (k : IntKind) (n : Int) : VRel ρ O F w (.int k n) (.int k n)
  | str (s : ByteArray) : VRel ρ O F w (.str s) (.string s)
  | raw (v : Value) : VRel ρ O F w (.raw v) v
  | agg (cs : List SV) (vs : Array Value) (hl : cs.length = vs.size) (h : ∀ (i : Nat) (c : SV) (v : Value), cs[i]? = some c → vs[i]? = some v → VRel ρ O F w c v) : VRel ρ O F w (.agg cs) (.agg vs)
  | tup (cs : List SV) (vs : Array Value) (hl : cs.length = vs.size) (h : ∀ (i : Nat) (c : SV) (v : Value), cs[i]? = some c → vs[i]? = some v → VRel ρ O F w c v) : VRel ρ O F w (.tup cs) (.tuple vs)
  | ptr (id i j : Nat) (ri : RI) (h : ρ id = some ri) : VRel ρ O F w (.ptr id i j) (.pointer (some ⟨ri.b, i * ri.k + j, none⟩))
  | ref (id off n cap : Nat) (ri : RI) (h : ρ id = some ri) (hn : n ≤ cap) (hc : (off + cap) * ri.k = ri.sz) (hm : cap ≤ 9223372036854775807) : VRel ρ O F w (.ref id off n) (.slice (some ⟨ri.b, off * ri.k, none⟩) n cap)
  | sl (o : Bool) (xs : List (List SV)) (a : Option Addr) (cap k : Nat) (cs : Nat → Nat → Value) (hk : ∀ x ∈ xs, x.length = k) (hcap : xs.length ≤ cap) (hm : cap ≤ 9223372036854775807)
      (ha : 0 < xs.length → ∃ b off, a = some ⟨b, off, none⟩ ∧ Im O F o b ∧ ∀ i j, i < xs.length → j < k → w.cell? ⟨b, off + i * k + j, none⟩ = some (cs i j))
      (h : ∀ (i j : Nat) (x : List SV) (y : SV), xs[i]? = some x → x[j]? = some y → VRel ρ O F w y (cs i j)) : VRel ρ O F w (.sl o xs) (.slice a xs.length cap)
  | rptr (o : Bool) (x : List SV) (j b off : Nat) (cs : Nat → Value) (hb : Im O F o b) (ha : ∀ i, i < x.length → w.cell? ⟨b, off + i, none⟩ = some (cs i))
      (h : ∀ (i : Nat) (y : SV), x[i]? = some y → VRel ρ O F w y (cs i)) : VRel ρ O F w (.rptr o x j) (.pointer (some ⟨b, off + j, none⟩))
  | mp (o : Bool) (xs : List (List SV)) (b : Nat) (es : Array MapEntry) (cs : Nat → Nat → Value) (hb : Im O F o b) (hw : w.heap[b]? = some (.map es xs.length)) (hk : ∀ x ∈ xs, x.length = 2) (hn : es.size = xs.length)
      (he : ∀ i, i < xs.length → es[i]? = some ⟨cs i 0, cs i 1, i⟩) (h : ∀ (i j : Nat) (x : List SV) (y : SV), xs[i]? = some x → x[j]? = some y → VRel ρ O F w y (cs i j)) : VRel ρ O F w (.mp o xs) (.map (some b))
  | it (o : Bool) (xs : List (List SV)) (seen : List Nat) (r b : Nat) (es : Array MapEntry) (cs : Nat → Nat → Value) (hr : F r) (hrw : w.heap[r]? = some (.mapIter (some b) xs.length seen.toArray xs.length))
      (hb : Im O F o b) (hw : w.heap[b]? = some (.map es xs.length)) (hk : ∀ x ∈ xs, x.length = 2) (hn : es.size = xs.length)
      (he : ∀ i, i < xs.length → es[i]? = some ⟨cs i 0, cs i 1, i⟩) (h : ∀ (i j : Nat) (x : List SV) (y : SV), xs[i]? = some x → x[j]? = some y → VRel ρ O F w y (cs i j)) : VRel ρ O F w (.it o xs seen) (.pointer (some ⟨r, 0, none⟩))
  | nils : VRel ρ O F w .nils (.slice none 0 0)
  | nilp : VRel ρ O F w .nilp (.pointer none)
  | clo (f : FuncId) (cs : List SV) (vs : Array Value) (hl : cs.length = vs.size) (h : ∀ (i : Nat) (c : SV) (v : Value), cs[i]? = some c → vs[i]? = some v → VRel ρ O F w c v) : VRel ρ O F w (.clo f cs) (.func (.func f) #[] vs)
  | cnd (g : Bool) (s : SV) (v : Value) (h1 : g = true → VRel ρ O F w s v) (h0 : g = false → v = undef) : VRel ρ O F w (.cnd g s) v
theorem cell_of_heap {w w' : World} {b off : Nat} (h : w'.heap[b]? = w.heap[b]?) : w'.cell? ⟨b, off, none⟩ = w.cell? ⟨b, off, none⟩ := by
  simp only [World.cell?, h]
theorem VRel.mono {ρ ρ' : Rho} {O F O' F' : Nat → Prop} {w w' : World} (hρ : ∀ id ri, ρ id = some ri → ρ' id = some ri)
    (hI : ∀ o b, Im O F o b → Im O' F' o b ∧ w'.heap[b]? = w.heap[b]?) {s : SV} {v : Value} (h : VRel ρ O F w s v) : VRel ρ' O' F' w' s v := by
  induction h with
  | any v => exact .any v
  | bool b => exact .bool b
  | int k n => exact .int k n
  | str s => exact .str s
  | raw v => exact .raw v
  | agg cs vs hl _ ih => exact .agg cs vs hl ih
  | tup cs vs hl _ ih => exact .tup cs vs hl ih
  | ptr id i j ri h => exact .ptr id i j ri (hρ _ _ h)
  | ref id off n cap ri h hn hc hm => exact .ref id off n cap ri (hρ _ _ h) hn hc hm
  | sl o xs a cap k cs hk hcap hm ha _ ih =>
    refine .sl o xs a cap k cs hk hcap hm (fun hp => ?_) ih
    obtain ⟨b, off, e, hb, hc⟩ := ha hp
    obtain ⟨hb', hw⟩ := hI _ _ hb
    exact ⟨b, off, e, hb', fun i j hi hj => (cell_of_heap hw).trans (hc i j hi hj)⟩
  | rptr o x j b off cs hb ha _ ih =>
    obtain ⟨hb', hw⟩ := hI _ _ hb
    exact .rptr o x j b off cs hb' (fun i hi => (cell_of_heap hw).trans (ha i hi)) ih
  | mp o xs b es cs hb hw hk hn he _ ih =>
    obtain ⟨hb', hw'⟩ := hI _ _ hb
    exact .mp o xs b es cs hb' (hw'.trans hw) hk hn he ih
  | it o xs seen r b es cs hr hrw hb hw hk hn he _ ih =>
    obtain ⟨hb', hw'⟩ := hI _ _ hb
    obtain ⟨hr', hrw'⟩ := hI false _ (.inl hr)
    exact .it o xs seen r b es cs (hr'.resolve_right fun h => by cases h.1) (hrw'.trans hrw) hb' (hw'.trans hw) hk hn he ih
  | nils => exact .nils
  | nilp => exact .nilp
  | clo f cs vs hl _ ih => exact .clo f cs vs hl ih
  | cnd g s v _ h0 ih => exact .cnd g s v ih h0
/-- A row of the call's own: k cells an element. -/
structure Row where
  k : Nat
  elem : TypeId
  xs : List (List SV)
abbrev Heap := List (Option Row)
/-- Element types from softK on tell of a row that the model has marked, behind its end, as made of a text. -/
def softK : Nat := 4294967296
def tyE (e : TypeId) : TypeId := e % softK
def frE (e : TypeId) (n : Nat) : Nat × Nat := if e < softK then (0, 0) else (n, n + 1)
theorem tyE_hard {e : TypeId} (h : e < softK) : tyE e = e := Nat.mod_eq_of_lt h
theorem frE_hard {e : TypeId} {n : Nat} (h : e < softK) : frE e n = (0, 0) := if_pos h
structure RowIn (ρ : Rho) (O F : Nat → Prop) (w : World) (r : Row) (ri : RI) : Prop where
  k : ri.k = r.k
  no : ¬ O ri.b
  nf : ¬ F ri.b
  wf : ∀ x ∈ r.xs, x.length = r.k
  cells : ∃ arr, w.heap[ri.b]? = some (.cells arr (tyE r.elem) (frE r.elem arr.size)) ∧ arr.size = ri.sz ∧ r.xs.length * r.k ≤ arr.size ∧
    ∀ (i j : Nat) (x : List SV) (y : SV), r.xs[i]? = some x → x[j]? = some y → ∃ v, arr[i * r.k + j]? = some v ∧ VRel ρ O F w y v
structure Sat (ρ : Rho) (O F : Nat → Prop) (h : Heap) (w : World) : Prop where
  row : ∀ (id : Nat) (r : Row) (ri : RI), h[id]? = some (some r) → ρ id = some ri → RowIn ρ O F w r ri
  inj : ∀ (id id' : Nat) (r r' : Row) (ri ri' : RI), h[id]? = some (some r) → h[id']? = some (some r') → ρ id = some ri → ρ id' = some ri' → ri.b = ri'.b → id = id'
  lt : ∀ b, O b ∨ F b → b < w.heap.size
theorem RowIn.lt {ρ : Rho} {O F : Nat → Prop} {w : World} {r : Row} {ri : RI} (h : RowIn ρ O F w r ri) : ri.b < w.heap.size := by
  obtain ⟨arr, ha, _⟩ := h.cells
  exact (Array.getElem?_eq_some_iff.1 ha).1
/-! ### The temporaries -/
abbrev TM := List (Nat × SV)
def TM.get : TM → Nat → SV
  | [], _ => .any
  | (t, s) :: r, u => if t = u then s else TM.get r u
def TM.put (tm : TM) (d : Option Nat) (s : SV) : TM :=
  match d with
  | some d => (d, s) :: tm
  | none => tm
def ofConst : Value → SV
  | .bool b => .bool b
  | .int k n => .int k n
  | .string s => .str s
  | .slice none 0 0 => .nils
  | .pointer none => .nilp
  | v => .raw v
theorem ofConst_rel {ρ : Rho} {O F : Nat → Prop} {w : World} (v : Value) : VRel ρ O F w (ofConst v) v := by
  unfold ofConst
  split <;> constructor
def opnd (tm : TM) : Operand → SV
  | .tmp t => tm.get t
  | .const v => ofConst v
  | .global g => .raw (.pointer (some ⟨g, 0, none⟩))
  | .func f => .clo f []
theorem opnd_rel {ρ : Rho} {O F : Nat → Prop} {w : World} {tm : TM} {a : Act} (x : Operand) (h : ∀ t, x = .tmp t → VRel ρ O F w (tm.get t) (a.tmps.getD t undef)) :
    VRel ρ O F w (opnd tm x) (a.eval x) := by
  cases x with
  | tmp t => exact h t rfl
  | const v => exact ofConst_rel v
  | global g => exact .raw _
  | func f => exact .clo f [] #[] rfl (fun i c v h => by simp at h)
/-- What a step may do to memory: new blocks alone. -/
structure Ext (ρ : Rho) (F : Nat → Prop) (w : World) (ρ' : Rho) (F' : Nat → Prop) (w' : World) : Prop where
  rho : ∀ id ri, ρ id = some ri → ρ' id = some ri
  newb : ∀ id ri, ρ' id = some ri → ρ id = none → w.heap.size ≤ ri.b
  imm : ∀ b, F b → F' b
  newf : ∀ b, F' b → ¬ F b → w.heap.size ≤ b
  below : Below w.heap.size w w'
theorem Ext.refl (ρ : Rho) (F : Nat → Prop) (w : World) : Ext ρ F w ρ F w :=
  ⟨fun _ _ h => h, fun id ri h h' => (by rw [h'] at h; cases h), fun _ h => h, fun _ h h' => absurd h h', Below.refl _ _⟩
theorem Ext.trans {ρ ρ1 ρ2 : Rho} {F F1 F2 : Nat → Prop} {w w1 w2 : World} (h : Ext ρ F w ρ1 F1 w1) (k : Ext ρ1 F1 w1 ρ2 F2 w2) : Ext ρ F w ρ2 F2 w2 := by
  have hs := h.below.size
  refine ⟨fun id ri e => k.rho _ _ (h.rho _ _ e), fun id ri e e' => ?_, fun b e => k.imm _ (h.imm _ e), fun b e e' => ?_, h.below.trans (k.below.mono hs)⟩
  · cases h1 : ρ1 id with
    | none => exact Nat.le_trans hs (k.newb _ _ e h1)
    | some r1 =>
      have := k.rho _ _ h1
      rw [this] at e
      cases e
      exact h.newb _ _ h1 e'
  · by_cases h1 : F1 b
    · exact h.newf _ h1 e'
    · exact Nat.le_trans hs (k.newf _ e h1)
theorem VRel.ext {ρ ρ' : Rho} {O F F' : Nat → Prop} {w w' : World} (hlt : ∀ b, O b ∨ F b → b < w.heap.size) (hx : Ext ρ F w ρ' F' w') {s : SV} {v : Value} (h : VRel ρ O F w s v) : VRel ρ' O F' w' s v :=
  h.mono hx.rho fun o b hb => by
    have hb' : b < w.heap.size := hlt b (hb.elim .inr fun h => .inl h.2)
    exact ⟨hb.imp (hx.imm b) id, hx.below.block b hb'⟩
theorem RowIn.ext {ρ ρ' : Rho} {O F F' : Nat → Prop} {w w' : World} (hlt : ∀ b, O b ∨ F b → b < w.heap.size) (hx : Ext ρ F w ρ' F' w') {r : Row} {ri : RI} (h : RowIn ρ O F w r ri) : RowIn ρ' O F' w' r ri := by
  have hb := h.lt
  refine ⟨h.k, h.no, fun hf => ?_, h.wf, ?_⟩
  · have := hx.newf _ hf h.nf
    omega
  · obtain ⟨arr, h1, h2, h3, h4⟩ := h.cells
    refine ⟨arr, (hx.below.block _ hb).trans h1, h2, h3, fun i j x y e1 e2 => ?_⟩
    obtain ⟨v, hv, hr⟩ := h4 i j x y e1 e2
    exact ⟨v, hv, hr.ext hlt hx⟩
/-- The world's heap alone is looked at. -/
theorem VRel.heap {ρ : Rho} {O F : Nat → Prop} {w w' : World} (hh : w'.heap = w.heap) {s : SV} {v : Value} (h : VRel ρ O F w s v) : VRel ρ O F w' s v :=
  h.mono (fun _ _ h => h) fun o b hb => ⟨hb, by rw [hh]⟩
theorem Sat.heap {ρ : Rho} {O F : Nat → Prop} {h : Heap} {w w' : World} (hh : w'.heap = w.heap) (hs : Sat ρ O F h w) : Sat ρ O F h w' := by
  refine ⟨fun id r ri e1 e2 => ?_, hs.inj, fun b hb => by rw [hh]; exact hs.lt b hb⟩
  have hr := hs.row id r ri e1 e2
  refine ⟨hr.k, hr.no, hr.nf, hr.wf, ?_⟩
  obtain ⟨arr, h1, h2, h3, h4⟩ := hr.cells
  refine ⟨arr, by rw [hh]; exact h1, h2, h3, fun i j x y e1 e2 => ?_⟩
  obtain ⟨v, hv, hr⟩ := h4 i j x y e1 e2
  exact ⟨v, hv, hr.heap hh⟩
theorem Sat.pref {ρ : Rho} {O F : Nat → Prop} {h ext : Heap} {w : World} (hs : Sat ρ O F (h ++ ext) w) : Sat ρ O F h w :=
  have key : ∀ id r, h[id]? = some (some r) → (h ++ ext)[id]? = some (some r) := fun id r e => by
    rw [List.getElem?_append_left (List.getElem?_eq_some_iff.1 e).1]; exact e
  ⟨fun id r ri e => hs.row id r ri (key _ _ e), fun id id' r r' ri ri' e e' => hs.inj id id' r r' ri ri' (key _ _ e) (key _ _ e'), hs.lt⟩
def LRel (ρ : Rho) (O F : Nat → Prop) (w : World) (ts : List Nat) (tm : TM) (a : Act) : Prop := ∀ t ∈ ts, VRel ρ O F w (tm.get t) (a.tmps.getD t undef)
/-- An operation that leaves what lay as it lay: what it yields, and the rows that it makes. -/
def OpG (P : Program) (ops : Array Oper) (o : Oper) (tm : TM) (h : Heap) (sv : SV) (ext : Heap) : Prop :=
  ∀ (ρ : Rho) (O F : Nat → Prop) (w : World) (a : Act), Sat ρ O F h w → LRel ρ O F w (o.looksAt ops) tm a → (∀ id, h.length ≤ id → id < h.length + ext.length → ρ id = none) →
    ∀ (next : Act → World → Prop) (Q : Exit → Act → World → Prop),
      (∀ v ρ' F' w', Ext ρ F w ρ' F' w' → (∀ id, ρ' id ≠ ρ id → h.length ≤ id ∧ id < h.length + ext.length) → Sat ρ' O F' (h ++ ext) w' → VRel ρ' O F' w' sv v → next (a.put o.dst v) w') →
      if Region.wanted o (yielded ops a.tmps) = true then o.wp P a w next Q else next (a.put o.dst undef) w
/-- What the state is held against: the world at the start, and blocks of rows whose numbers stay. -/
structure Ctx where
  w : World
  r : Rho := fun _ => none
/-- What a loop over a function keeps its books in. -/
def book : Obj → Bool
  | .loop _ | .deferred _ => true
  | _ => false
structure Keep (O : Nat → Prop) (w0 w : World) : Prop where
  os : w.os = w0.os
  tape : w.tape = w0.tape
  output : w.output = w0.output
  size : w0.heap.size ≤ w.heap.size
  block : ∀ b, O b → w.heap[b]? = w0.heap[b]?
  books : ∀ (b : Nat) (o : Obj), w0.heap[b]? = some o → book o = true → w.heap[b]? = some o
theorem Keep.refl (O : Nat → Prop) (w : World) : Keep O w w := ⟨rfl, rfl, rfl, Nat.le_refl _, fun _ _ => rfl, fun _ _ h _ => h⟩
theorem Keep.below {O : Nat → Prop} {w0 w w' : World} (h : Keep O w0 w) (hlt : ∀ b, O b → b < w.heap.size) (hb : Below w.heap.size w w') : Keep O w0 w' :=
  ⟨hb.os.trans h.os, hb.tape.trans h.tape, hb.output.trans h.output, Nat.le_trans h.size hb.size, fun b ho => (hb.block b (hlt b ho)).trans (h.block b ho), fun b o e e' => (hb.block b (Array.getElem?_eq_some_iff.1 (h.books b o e e')).1).trans (h.books b o e e')⟩
theorem Keep.heap {O : Nat → Prop} {w0 w w' : World} (h : Keep O w0 w) (h1 : w'.heap = w.heap) (h2 : w'.os = w.os) (h3 : w'.tape = w.tape) (h4 : w'.output = w.output) : Keep O w0 w' :=
  ⟨h2.trans h.os, h3.trans h.tape, h4.trans h.output, by rw [h1]; exact h.size, fun b ho => by rw [h1]; exact h.block b ho, fun b o e e' => by rw [h1]; exact h.books b o e e'⟩
/-- The deferred calls: marks alone of loops over functions that are over. -/
def marks (ds : List Nat) : List Deferred := ds.map fun D => { target := .collected D, args := #[] }
def DefO (w0 : World) (a : Act) (w : World) : Prop := ∃ ds : List Nat, a.defers = marks ds ∧ ds.Nodup ∧ ∀ D ∈ ds, w0.heap.size ≤ D ∧ w.heap[D]? = some (Obj.deferred (some []))
theorem DefO.nil {w0 w : World} {a : Act} (h : a.defers = []) : DefO w0 a w := ⟨[], h, List.nodup_nil, fun D h => by cases h⟩
theorem DefO.next {w0 w w' : World} {a a' : Act} (h : DefO w0 a w) (ha : a'.defers = a.defers) (hw : ∀ D : Nat, w.heap[D]? = some (Obj.deferred (some [])) → w'.heap[D]? = some (Obj.deferred (some []))) : DefO w0 a' w' := by
  obtain ⟨ds, h1, h2, h3⟩ := h
  exact ⟨ds, ha.trans h1, h2, fun D hD => ⟨(h3 D hD).1, hw D (h3 D hD).2⟩⟩
structure St (O : Nat → Prop) (w0 : Ctx) (N : Nat) (ρ : Rho) (F : Nat → Prop) (tm : TM) (h : Heap) (a : Act) (w : World) : Prop where
  sat : Sat ρ O F h w
  defers : DefO w0.w a w
  size : a.tmps.size = N
  rel : ∀ t, VRel ρ O F w (tm.get t) (a.tmps.getD t undef)
  keep : Keep O w0.w w
  free : ∀ id, h.length ≤ id → ρ id = none
  rno : ∀ id ri, ρ id = some ri → ¬ O ri.b
  fno : ∀ b, F b → ¬ O b
  ext0 : ∀ id ri, w0.r id = some ri → ρ id = some ri
theorem Ext.rno {O : Nat → Prop} {ρ ρ' : Rho} {F F' : Nat → Prop} {w w' : World} (hx : Ext ρ F w ρ' F' w') (hlt : ∀ b, O b → b < w.heap.size) (h : ∀ id ri, ρ id = some ri → ¬ O ri.b) : ∀ id ri, ρ' id = some ri → ¬ O ri.b := by
  intro id ri e ho
  cases h1 : ρ id with
  | none => have := hx.newb id ri e h1; have := hlt _ ho; omega
  | some r0 => have h2 := hx.rho _ _ h1; rw [e] at h2; cases h2; exact h id _ h1 ho
theorem Ext.fno {O : Nat → Prop} {ρ ρ' : Rho} {F F' : Nat → Prop} {w w' : World} (hx : Ext ρ F w ρ' F' w') (hlt : ∀ b, O b → b < w.heap.size) (h : ∀ b, F b → ¬ O b) : ∀ b, F' b → ¬ O b := by
  intro b e ho
  by_cases h1 : F b
  · exact h b h1 ho
  · have := hx.newf b e h1; have := hlt _ ho; omega
/-- Operations i, i + 1, .. (k of them), one behind the other. -/
def SC (P : Program) (O : Nat → Prop) (w0 : Ctx) (N : Nat) (ops : Array Oper) (i k : Nat) (tm : TM) (h : Heap) (K : TM → Heap → Prop) : Prop :=
  ∀ (ρ : Rho) (F : Nat → Prop) (a : Act) (w : World) (Q : Exit → Act → World → Prop), St O w0 N ρ F tm h a w →
    (∀ ρ' F' tm' h' a' w', St O w0 N ρ' F' tm' h' a' w' → K tm' h' → Q .normal a' w') → wpOps P ops Q (List.range' i k) a w
/-- The same for operations that leave what lay as it lay: in whatever order. -/
def QC (P : Program) (N : Nat) (ops : Array Oper) : Nat → Nat → TM → Heap → (TM → Heap → Prop) → Prop
  | _, 0, tm, h, K => K tm h
  | i, k + 1, tm, h, K => ∃ o sv ext, ops[i]? = some o ∧ (∀ d, o.dst = some d → d < N) ∧ OpG P ops o tm h sv ext ∧ QC P N ops (i + 1) k (tm.put o.dst sv) (h ++ ext) K
theorem Act.put_getD {a : Act} {dst : Option Nat} {v : Value} {N : Nat} (hs : a.tmps.size = N) (hd : ∀ d, dst = some d → d < N) (t : Nat) :
    (a.put dst v).tmps.getD t undef = if dst = some t then v else a.tmps.getD t undef := by
  cases dst with
  | none => simp [Act.put]
  | some d =>
    have hlt := hd d rfl
    simp only [Act.put, Option.some.injEq]
    by_cases h : d = t
    · subst h
      simp [hs, hlt]
    · simp [h, Array.getElem?_setIfInBounds_ne h]
theorem TM.get_put (tm : TM) (dst : Option Nat) (s : SV) (t : Nat) : (tm.put dst s).get t = if dst = some t then s else tm.get t := by
  cases dst with
  | none => simp [TM.put]
  | some d => simp [TM.put, TM.get]
theorem Act.put_size (a : Act) (dst : Option Nat) (v : Value) : (a.put dst v).tmps.size = a.tmps.size := by cases dst <;> simp [Act.put]
theorem Act.put_defers' (a : Act) (dst : Option Nat) (v : Value) : (a.put dst v).defers = a.defers := by cases dst <;> simp [Act.put]
theorem St.step {O : Nat → Prop} {w0 : Ctx} {N : Nat} {ρ ρ' : Rho} {F F' : Nat → Prop} {tm : TM} {h h' : Heap} {a : Act} {w w' : World} {dst : Option Nat} {sv : SV} {v : Value}
    (hst : St O w0 N ρ F tm h a w) (hx : Ext ρ F w ρ' F' w') (hs : Sat ρ' O F' h' w') (hv : VRel ρ' O F' w' sv v) (hd : ∀ d, dst = some d → d < N) (hfree : ∀ id, h'.length ≤ id → ρ' id = none) :
    St O w0 N ρ' F' (tm.put dst sv) h' (a.put dst v) w' := by
  refine ⟨hs, hst.defers.next (Act.put_defers' _ _ _) fun D e => (hx.below.block D (Array.getElem?_eq_some_iff.1 e).1).trans e, by rw [Act.put_size]; exact hst.size, fun t => ?_, hst.keep.below (fun b hb => hst.sat.lt b (.inl hb)) hx.below, hfree, hx.rno (fun b hb => hst.sat.lt b (.inl hb)) hst.rno, hx.fno (fun b hb => hst.sat.lt b (.inl hb)) hst.fno, fun id ri e => hx.rho _ _ (hst.ext0 id ri e)⟩
  rw [Act.put_getD hst.size hd, TM.get_put]
  by_cases h : dst = some t
  · simp only [h, if_true]; exact hv
  · simp only [h, if_false]; exact (hst.rel t).ext hst.sat.lt hx
theorem SC.nil {P : Program} {O : Nat → Prop} {w0 : Ctx} {N : Nat} {ops : Array Oper} {i : Nat} {tm : TM} {h : Heap} {K : TM → Heap → Prop} (hk : K tm h) : SC P O w0 N ops i 0 tm h K :=
  fun _ _ _ _ _ hst hq => hq _ _ _ _ _ _ hst hk
theorem SC.quiet {P : Program} {O : Nat → Prop} {w0 : Ctx} {N : Nat} {ops : Array Oper} {i k : Nat} {tm : TM} {h : Heap} {K : TM → Heap → Prop} {o : Oper} {sv : SV} {ext : Heap}
    (ho : ops[i]? = some o) (hd : ∀ d, o.dst = some d → d < N) (hg : OpG P ops o tm h sv ext) (hr : SC P O w0 N ops (i + 1) k (tm.put o.dst sv) (h ++ ext) K) : SC P O w0 N ops i (k + 1) tm h K := by
  intro ρ F a w Q hst hq
  have hG := hg ρ O F w a hst.sat (fun t _ => hst.rel t) (fun id h1 _ => hst.free id h1) (wpOps P ops Q (List.range' (i + 1) k)) Q
    (fun v ρ' F' w' hx hid hs hv => hr ρ' F' (a.put o.dst v) w' Q (hst.step hx hs hv hd (fun id hid' => by
      have h1 : ρ id = none := hst.free id (by simp only [List.length_append] at hid'; omega)
      by_cases e : ρ' id = ρ id
      · rw [e]; exact h1
      · have := hid id e
        simp only [List.length_append] at hid'
        omega)) hq)
  rw [List.range'_succ, wpOps_cons]
  unfold wpOp
  simp only [ho]
  split
  · rename_i hw; simp only [hw, if_true] at hG; exact .inl hG
  · rename_i hw; simp only [hw] at hG; exact hG
end Go.IL

namespace Go.IL
open Go.RowKit
/-! ### A region that draws its order -/
def edgesB (ops : Array Oper) : Bool :=
  (List.range ops.size).all fun j => match ops[j]? with | some o => o.after.all fun e => !Region.binds .any e || decide (e.on < j) | none => true
/-- The first n: no two write one temporary; whoever looks at one waits for it. -/
def looksB (ops : Array Oper) (n : Nat) : Bool :=
  (List.range n).all fun j => match ops[j]? with
    | none => false
    | some oj => (List.range n).all fun i => match (ops[i]?).bind (·.dst) with
      | none => true
      | some d => (decide (i = j) || oj.dst != some d) && (!(oj.looksAt ops).contains d || (decide (i < j) && Region.waitsFor .any ops j i))
def drawB (ops : Array Oper) (n : Nat) : Bool :=
  edgesB ops && looksB ops n && decide (n ≤ ops.size) && (decide (n = ops.size) || (Region.sinkB .any ops n && Region.chainB .any ops n))
theorem edgesB_spec {ops : Array Oper} (h : edgesB ops = true) {j : Nat} {o : Oper} (ho : ops[j]? = some o) {e : Edge} (he : e ∈ o.after) (hb : Region.binds .any e = true) : e.on < j := by
  have hj : j < ops.size := (Array.getElem?_eq_some_iff.1 ho).1
  have h1 := List.all_eq_true.1 h j (List.mem_range.2 hj)
  simp only [ho] at h1
  have h2 := Array.all_eq_true_iff_forall_mem.1 h1 e he
  simpa [hb] using h2
theorem looksB_spec {ops : Array Oper} {n : Nat} (h : looksB ops n = true) {i j : Nat} (hi : i < n) (hj : j < n) {oi oj : Oper} {d : Nat} (hoi : ops[i]? = some oi) (hoj : ops[j]? = some oj) (hd : oi.dst = some d) :
    (i ≠ j → oj.dst ≠ some d) ∧ (d ∈ oj.looksAt ops → i < j ∧ Region.waitsFor .any ops j i = true) := by
  have h1 := List.all_eq_true.1 h j (List.mem_range.2 hj)
  simp only [hoj] at h1
  have h2 := List.all_eq_true.1 h1 i (List.mem_range.2 hi)
  simp only [hoi, Option.bind_some, hd, Bool.and_eq_true, Bool.or_eq_true, decide_eq_true_eq, bne_iff_ne, Bool.not_eq_true'] at h2
  refine ⟨fun hne => ?_, fun hm => ?_⟩
  · rcases h2.1 with e | e
    · exact absurd e hne
    · exact e
  · rcases h2.2 with e | e
    · have : (oj.looksAt ops).contains d = true := by simpa using hm
      rw [this] at e; cases e
    · exact e
theorem wpAny_of_wpOps {P : Program} {ops : Array Oper} {Q : Exit → Act → World → Prop} (n : Nat) (hc : Region.chainB .any ops n = true) :
    ∀ (k m : Nat) (listed : Array Bool) (a : Act) (w : World), m + k = ops.size → n ≤ m → listed.size = ops.size → (∀ t, m ≤ t → t < ops.size → listed.getD t true = false) → (∀ t, t < m → listed.getD t true = true) →
      (∀ j oj, ops[j]? = some oj → ∀ e ∈ oj.after, Region.binds .any e = true → e.on < j) → wpOps P ops Q (List.range' m k) a w → wpAny P .any ops Q k listed a w := by
  intro k
  induction k with
  | zero =>
    intro m listed a w hm _ hsz _ hlt _ h
    refine ⟨?_, by simpa [wpOps] using h⟩
    cases hr : Region.ready .any ops listed with
    | nil => rfl
    | cons i r =>
      have hi : i ∈ Region.ready .any ops listed := by rw [hr]; simp
      obtain ⟨h0, o, ho, _⟩ := mem_ready.1 hi
      have : i < ops.size := (Array.getElem?_eq_some_iff.1 ho).1
      rw [hlt i (by omega)] at h0
      cases h0
  | succ k ih =>
    intro m listed a w hm hn hsz hun hlt hedge h
    have hmlt : m < ops.size := by omega
    have hready : m ∈ Region.ready .any ops listed := by
      refine mem_ready.2 ⟨hun m (Nat.le_refl _) hmlt, ops[m], by simp [hmlt], fun e he hb => ?_⟩
      have h1 := hedge m _ (by simp [hmlt]) e he hb
      have h2 := hlt e.on h1
      have h3 : e.on < listed.size := by omega
      simp [h3] at h2 ⊢
      exact h2
    refine ⟨fun h0 => (by rw [h0] at hready; cases hready), fun i hi => ?_⟩
    obtain ⟨h0, o, ho, hall⟩ := mem_ready.1 hi
    have hilt : i < ops.size := (Array.getElem?_eq_some_iff.1 ho).1
    have him : i = m := by
      rcases Nat.lt_trichotomy i m with h' | h' | h'
      · rw [hlt i h'] at h0; cases h0
      · exact h'
      · exfalso
        have h1 := List.all_eq_true.1 hc i (List.mem_range.2 hilt)
        simp only [Bool.or_eq_true, decide_eq_true_eq] at h1
        rcases h1 with h1 | h1
        · omega
        · obtain ⟨o', ho', e, he, hb, hon⟩ := Region.waitsFor_spec h1
          rw [ho] at ho'; cases ho'
          have h2 := hall e he hb
          rw [hon] at h2
          have h3 := hun (i - 1) (by omega) (by omega)
          have := getD_both h3
          rw [h2] at this; cases this
    subst him
    rw [List.range'_succ, wpOps_cons] at h
    refine wpOp_mono (fun a' w' h' => ih (i + 1) _ a' w' (by omega) (by omega) (by simp [hsz]) (fun t ht ht' => ?_) (fun t ht => ?_) hedge h') h
    · rw [getD_set_ne true (by omega)]; exact hun t (by omega) ht'
    · by_cases e : i = t
      · subst e; simp [hsz, hilt]
      · rw [getD_set_ne true e]; exact hlt t (by omega)
/-- How many of the first n have come up. -/
def cnt (n : Nat) (listed : Array Bool) : Nat := (List.range n).countP fun i => listed.getD i false
theorem cnt_set {n i : Nat} {listed : Array Bool} (hi : i < n) (hl : i < listed.size) (h : listed.getD i false = false) : cnt n (listed.setIfInBounds i true) = cnt n listed + 1 := by
  unfold cnt
  induction n with
  | zero => omega
  | succ n ih =>
    rw [List.range_succ, List.countP_append, List.countP_append]
    by_cases e : i = n
    · subst e
      have h1 : (List.range i).countP (fun j => (listed.setIfInBounds i true).getD j false) = (List.range i).countP (fun j => listed.getD j false) := by
        refine List.countP_congr fun j hj => ?_
        have := List.mem_range.1 hj
        rw [getD_set_ne false (by omega)]
      rw [h1]
      have h2 : (listed.setIfInBounds i true).getD i false = true := by simp [hl]
      simp only [List.countP_singleton, h2, h]
      simp
    · rw [ih (by omega)]
      simp only [List.countP_singleton]
      rw [getD_set_ne false e]
      omega
theorem cnt_all {n : Nat} {listed : Array Bool} (h : ∀ i, i < n → listed.getD i false = true) : cnt n listed = n := by
  unfold cnt
  have := List.countP_eq_length (p := fun i => listed.getD i false) (l := List.range n)
  rw [this.2 (fun a ha => h a (List.mem_range.1 ha))]
  simp
theorem cnt_le (n : Nat) (listed : Array Bool) : cnt n listed ≤ n := by
  unfold cnt
  exact Nat.le_trans List.countP_le_length (by simp)
theorem cnt_lt {n i : Nat} {listed : Array Bool} (hi : i < n) (h : listed.getD i false = false) : cnt n listed < n := by
  rcases Nat.lt_or_ge (cnt n listed) n with h' | h'
  · exact h'
  · exfalso
    have e : cnt n listed = (List.range n).length := by have := cnt_le n listed; simp; omega
    unfold cnt at e
    have := (List.countP_eq_length).1 e i (List.mem_range.2 hi)
    rw [h] at this; cases this
/-- What a chain of quiet operations tells of each of them. -/
structure Chain (P : Program) (N : Nat) (ops : Array Oper) (n : Nat) (tmS : Nat → TM) (hS : Nat → Heap) (svS : Nat → SV) (exS : Nat → Heap) (i : Nat) : Prop where
  op : ∀ j, i ≤ j → j < n → ∃ o, ops[j]? = some o ∧ (∀ d, o.dst = some d → d < N) ∧ OpG P ops o (tmS j) (hS j) (svS j) (exS j) ∧ tmS (j + 1) = (tmS j).put o.dst (svS j)
  heap : ∀ j, i ≤ j → j < n → hS (j + 1) = hS j ++ exS j
theorem QC.chain {P : Program} {N : Nat} {ops : Array Oper} {K : TM → Heap → Prop} : ∀ (k i : Nat) (tm : TM) (h : Heap), QC P N ops i k tm h K →
    ∃ tmS hS svS exS, tmS i = tm ∧ hS i = h ∧ Chain P N ops (i + k) tmS hS svS exS i ∧ K (tmS (i + k)) (hS (i + k)) := by
  intro k
  induction k with
  | zero =>
    intro i tm h hq
    exact ⟨fun _ => tm, fun _ => h, fun _ => .any, fun _ => [], rfl, rfl, ⟨fun j h1 h2 => by omega, fun j h1 h2 => by omega⟩, hq⟩
  | succ k ih =>
    intro i tm h hq
    obtain ⟨o, sv, ext, ho, hd, hg, hr⟩ := hq
    obtain ⟨tmS, hS, svS, exS, e1, e2, hch, hk⟩ := ih (i + 1) _ _ hr
    refine ⟨fun j => if j = i then tm else tmS j, fun j => if j = i then h else hS j, fun j => if j = i then sv else svS j, fun j => if j = i then ext else exS j, by simp, by simp, ⟨fun j h1 h2 => ?_, fun j h1 h2 => ?_⟩, ?_⟩
    · by_cases e : j = i
      · subst e
        refine ⟨o, ho, hd, by simpa using hg, ?_⟩
        rw [if_neg (by omega)]
        simpa using e1
      · obtain ⟨o', ho', hd', hg', ht'⟩ := hch.op j (by omega) (by omega)
        refine ⟨o', ho', hd', by simpa [e] using hg', ?_⟩
        rw [if_neg (by omega)]
        simpa [e] using ht'
    · by_cases e : j = i
      · subst e
        rw [if_neg (by omega)]
        simpa using e2
      · have := hch.heap j (by omega) (by omega)
        rw [if_neg (by omega)]
        simpa [e] using this
    · dsimp only
      rw [if_neg (by omega), if_neg (by omega), show i + (k + 1) = i + 1 + k by omega]
      exact hk
section draw
variable {P : Program} {O : Nat → Prop} {w0 : Ctx} {N : Nat} {ops : Array Oper} {n : Nat} {tmS : Nat → TM} {hS : Nat → Heap} {svS : Nat → SV} {exS : Nat → Heap}
theorem Chain.len (hch : Chain P N ops n tmS hS svS exS 0) : ∀ i j, i ≤ j → j ≤ n → (hS i).length ≤ (hS j).length := by
  intro i j hij
  induction j with
  | zero => intro _; obtain rfl : i = 0 := by omega
            exact Nat.le_refl _
  | succ j ih =>
    intro hj
    by_cases e : i = j + 1
    · subst e; exact Nat.le_refl _
    · have h1 := ih (by omega) (by omega)
      have h2 := hch.heap j (by omega) (by omega)
      rw [h2, List.length_append]
      omega
theorem Chain.pre (hch : Chain P N ops n tmS hS svS exS 0) : ∀ i j, i ≤ j → j ≤ n → ∃ e, hS j = hS i ++ e := by
  intro i j hij
  induction j with
  | zero => intro _; obtain rfl : i = 0 := by omega
            exact ⟨[], by simp⟩
  | succ j ih =>
    intro hj
    by_cases e : i = j + 1
    · subst e; exact ⟨[], by simp⟩
    · obtain ⟨e1, h1⟩ := ih (by omega) (by omega)
      have h2 := hch.heap j (by omega) (by omega)
      exact ⟨e1 ++ exS j, by rw [h2, h1, List.append_assoc]⟩
theorem Chain.get (hch : Chain P N ops n tmS hS svS exS 0) (t : Nat) : ∀ j, j ≤ n →
    (∃ i o, i < j ∧ ops[i]? = some o ∧ o.dst = some t ∧ (tmS j).get t = svS i) ∨ ((∀ i o, i < j → ops[i]? = some o → o.dst ≠ some t) ∧ (tmS j).get t = (tmS 0).get t) := by
  intro j
  induction j with
  | zero => intro _; exact .inr ⟨fun i o h => by omega, rfl⟩
  | succ j ih =>
    intro hj
    obtain ⟨o, ho, hd, hg, ht⟩ := hch.op j (by omega) (by omega)
    rw [ht, TM.get_put]
    by_cases e : o.dst = some t
    · exact .inl ⟨j, o, by omega, ho, e, by simp [e]⟩
    · rw [if_neg e]
      rcases ih (by omega) with ⟨i, o', h1, h2, h3, h4⟩ | ⟨h1, h2⟩
      · exact .inl ⟨i, o', by omega, h2, h3, h4⟩
      · refine .inr ⟨fun i o' hi ho' => ?_, h2⟩
        by_cases e' : i = j
        · subst e'; rw [ho] at ho'; cases ho'; exact e
        · exact h1 i o' (by omega) ho'
structure DInv (P : Program) (O : Nat → Prop) (w0 : Ctx) (N : Nat) (ops : Array Oper) (n : Nat) (tm0 : TM) (hS : Nat → Heap) (svS : Nat → SV) (listed : Array Bool) (ρ : Rho) (F : Nat → Prop) (a : Act) (w : World) : Prop where
  sat : Sat ρ O F (hS n) w
  fresh : ∀ i, i < n → listed.getD i false = false → ∀ id, (hS i).length ≤ id → id < (hS (i + 1)).length → ρ id = none
  free : ∀ id, (hS n).length ≤ id → ρ id = none
  defers : DefO w0.w a w
  size : a.tmps.size = N
  done : ∀ i o d, i < n → listed.getD i false = true → ops[i]? = some o → o.dst = some d → VRel ρ O F w (svS i) (a.tmps.getD d undef)
  old : ∀ t, (∀ i o, i < n → listed.getD i false = true → ops[i]? = some o → o.dst ≠ some t) → VRel ρ O F w (tm0.get t) (a.tmps.getD t undef)
  keep : Keep O w0.w w
  rno : ∀ id ri, ρ id = some ri → ¬ O ri.b
  fno : ∀ b, F b → ¬ O b
  ext0 : ∀ id ri, w0.r id = some ri → ρ id = some ri
theorem DInv.next (hch : Chain P N ops n tmS hS svS exS 0) (hlk : looksB ops n = true) {listed : Array Bool} (hsz : listed.size = ops.size) (hn : n ≤ ops.size) {ρ : Rho} {F : Nat → Prop} {a : Act} {w : World}
    (inv : DInv P O w0 N ops n (tmS 0) hS svS listed ρ F a w) {j : Nat} (hj : j < n) (hr : j ∈ Region.ready .any ops listed)
    {Q : Exit → Act → World → Prop} {K : Act → World → Prop}
    (hk : ∀ ρ' F' a' w', DInv P O w0 N ops n (tmS 0) hS svS (listed.setIfInBounds j true) ρ' F' a' w' → K a' w') : wpOp P ops Q j K a w := by
  obtain ⟨hun, o, ho, hall⟩ := mem_ready.1 hr
  obtain ⟨o', ho', hd, hg, ht⟩ := hch.op j (by omega) hj
  rw [ho] at ho'; cases ho'
  have hheap := hch.heap j (by omega) hj
  obtain ⟨e1, he1⟩ := hch.pre j n (by omega) (Nat.le_refl _)
  obtain ⟨e2, he2⟩ := hch.pre (j + 1) n (by omega) (Nat.le_refl _)
  have hsat : Sat ρ O F (hS j) w := by have := inv.sat; rw [he1] at this; exact this.pref
  have hunf := getD_both hun
  have hloo : LRel ρ O F w (o.looksAt ops) (tmS j) a := by
    intro t htm
    by_cases hex : ∃ i oi, i < n ∧ ops[i]? = some oi ∧ oi.dst = some t
    · obtain ⟨i, oi, hi, hoi, hdi⟩ := hex
      have hsp := looksB_spec hlk hi hj hoi ho hdi
      obtain ⟨hij, hw⟩ := hsp.2 htm
      obtain ⟨oj, hoj, e, he, hb, hon⟩ := Region.waitsFor_spec hw
      rw [ho] at hoj; cases hoj
      have hli := hall e he hb
      rw [hon] at hli
      rcases hch.get t j (by omega) with ⟨i', o', h1, h2, h3, h4⟩ | ⟨h1, _⟩
      · have : i' = i := by
          by_cases e : i' = i
          · exact e
          · exact absurd hdi ((looksB_spec hlk (by omega) hi h2 hoi h3).1 e)
        subst this
        rw [h4]
        exact inv.done i' o' t hi hli h2 h3
      · exact absurd hdi (h1 i oi hij hoi)
    · rcases hch.get t j (by omega) with ⟨i', o', h1, h2, h3, _⟩ | ⟨_, h2⟩
      · exact absurd ⟨i', o', by omega, h2, h3⟩ hex
      · rw [h2]
        exact inv.old t (fun i o' hi _ ho' hd' => hex ⟨i, o', hi, ho', hd'⟩)
  have hlen : (hS (j + 1)).length = (hS j).length + (exS j).length := by rw [hheap, List.length_append]
  have hG := hg ρ O F w a hsat hloo (fun id h1 h2 => inv.fresh j hj hunf id h1 (by omega)) K Q ?_
  · unfold wpOp
    simp only [ho]
    split
    · rename_i hw; simp only [hw, if_true] at hG; exact .inl hG
    · rename_i hw; simp only [hw] at hG; exact hG
  · intro v ρ' F' w' hx hid hs hv
    rw [← hheap] at hs
    have hlt := inv.sat.lt
    have hsame : ∀ id, (hS (j + 1)).length ≤ id → ρ' id = ρ id := fun id h => by
      by_cases e : ρ' id = ρ id
      · exact e
      · have := hid id e; omega
    have hget : ∀ id, id < (hS (j + 1)).length → (hS n)[id]? = (hS (j + 1))[id]? := fun id h => by rw [he2, List.getElem?_append_left h]
    refine hk ρ' F' _ w' ⟨⟨fun id r ri h1 h2 => ?_, fun id id' r r' ri ri' h1 h1' h2 h2' hb => ?_, hs.lt⟩, fun i hi hl id h1 h2 => ?_, fun id h => ?_, inv.defers.next (Act.put_defers' _ _ _) fun D e => (hx.below.block D (Array.getElem?_eq_some_iff.1 e).1).trans e, by rw [Act.put_size]; exact inv.size,
      fun i oi d hi hl hoi hdi => ?_, fun t htn => ?_, inv.keep.below (fun b hb => hlt b (.inl hb)) hx.below, hx.rno (fun b hb => hlt b (.inl hb)) inv.rno, hx.fno (fun b hb => hlt b (.inl hb)) inv.fno, fun id ri e => hx.rho _ _ (inv.ext0 id ri e)⟩
    · rcases Nat.lt_or_ge id (hS (j + 1)).length with h | h
      · exact hs.row id r ri (by rw [← hget id h]; exact h1) h2
      · rw [hsame id h] at h2
        exact (inv.sat.row id r ri h1 h2).ext hlt hx
    · have hold : ∀ id r ri, (hS n)[id]? = some (some r) → ρ id = some ri → ri.b < w.heap.size := fun id r ri h1 h2 => (inv.sat.row id r ri h1 h2).lt
      have mixed : ∀ id id' r r' ri ri', (hS n)[id]? = some (some r) → (hS n)[id']? = some (some r') → ρ' id = some ri → ρ' id' = some ri' → ri.b = ri'.b → id < (hS (j + 1)).length → (hS (j + 1)).length ≤ id' → id = id' := by
        intro id id' r r' ri ri' h1 h1' h2 h2' hb h h'
        rw [hsame id' h'] at h2'
        cases hρ : ρ id with
        | none => have := hx.newb id ri h2 hρ; have := hold id' r' ri' h1' h2'; omega
        | some r0 =>
          have := hx.rho _ _ hρ
          rw [h2] at this; cases this
          exact inv.sat.inj id id' r r' ri ri' h1 h1' hρ h2' hb
      rcases Nat.lt_or_ge id (hS (j + 1)).length with h | h <;> rcases Nat.lt_or_ge id' (hS (j + 1)).length with h' | h'
      · exact hs.inj id id' r r' ri ri' (by rw [← hget id h]; exact h1) (by rw [← hget id' h']; exact h1') h2 h2' hb
      · exact mixed id id' r r' ri ri' h1 h1' h2 h2' hb h h'
      · exact (mixed id' id r' r ri' ri h1' h1 h2' h2 hb.symm h' h).symm
      · rw [hsame id h] at h2; rw [hsame id' h'] at h2'
        exact inv.sat.inj id id' r r' ri ri' h1 h1' h2 h2' hb
    · have hij : j ≠ i := by rintro rfl; simp [hsz, show j < ops.size by omega] at hl
      rw [getD_set_ne false hij] at hl
      have h0 := inv.fresh i hi hl id h1 h2
      by_cases e : ρ' id = ρ id
      · rw [e]; exact h0
      · have h3 := hid id e
        exfalso
        rcases Nat.lt_or_ge i j with h' | h'
        · have := hch.len (i + 1) j (by omega) (by omega); omega
        · have := hch.len (j + 1) i (by omega) (by omega); omega
    · have h1 := hch.len (j + 1) n (by omega) (Nat.le_refl _)
      rw [hsame id (by omega)]; exact inv.free id h
    · rw [Act.put_getD inv.size hd]
      by_cases hij : j = i
      · subst hij
        rw [ho] at hoi; cases hoi
        simp only [hdi, if_true]; exact hv
      · rw [getD_set_ne false hij] at hl
        have hne : o.dst ≠ some d := (looksB_spec hlk hi hj hoi ho hdi).1 (fun e => hij e.symm)
        rw [if_neg hne]
        exact (inv.done i oi d hi hl hoi hdi).ext hlt hx
    · have hne : o.dst ≠ some t := htn j o hj (by simp [hsz, show j < ops.size by omega]) ho
      rw [Act.put_getD inv.size hd, if_neg hne]
      refine (inv.old t fun i oi hi hl hoi => ?_).ext hlt hx
      exact htn i oi hi (getD_set_true hl) hoi
theorem DInv.st (hch : Chain P N ops n tmS hS svS exS 0) {listed : Array Bool} {ρ : Rho} {F : Nat → Prop} {a : Act} {w : World}
    (inv : DInv P O w0 N ops n (tmS 0) hS svS listed ρ F a w) (hall : ∀ i, i < n → listed.getD i false = true) : St O w0 N ρ F (tmS n) (hS n) a w := by
  refine ⟨inv.sat, inv.defers, inv.size, fun t => ?_, inv.keep, inv.free, inv.rno, inv.fno, inv.ext0⟩
  rcases hch.get t n (Nat.le_refl _) with ⟨i, o, h1, h2, h3, h4⟩ | ⟨h1, h2⟩
  · rw [h4]; exact inv.done i o t h1 (hall i h1) h2 h3
  · rw [h2]; exact inv.old t fun i o hi _ => h1 i o hi
theorem wpAny_of_draw (hch : Chain P N ops n tmS hS svS exS 0) (hdr : drawB ops n = true) {K : TM → Heap → Prop} (htail : SC P O w0 N ops n (ops.size - n) (tmS n) (hS n) K)
    {Q : Exit → Act → World → Prop} (hQ : ∀ ρ' F' tm' h' a' w', St O w0 N ρ' F' tm' h' a' w' → K tm' h' → Q .normal a' w') :
    ∀ (fuel : Nat) (listed : Array Bool) (ρ : Rho) (F : Nat → Prop) (a : Act) (w : World), HeadInv .any ops n listed → DInv P O w0 N ops n (tmS 0) hS svS listed ρ F a w → cnt n listed + fuel = ops.size →
      wpAny P .any ops Q fuel listed a w := by
  simp only [drawB, Bool.and_eq_true, Bool.or_eq_true, decide_eq_true_eq] at hdr
  obtain ⟨⟨⟨hed, hlk⟩, hn⟩, hsink⟩ := hdr
  have hedge : ∀ j oj, ops[j]? = some oj → ∀ e ∈ oj.after, Region.binds .any e = true → e.on < j := fun j oj h e he hb => edgesB_spec hed h he hb
  have hfin : ∀ (fuel : Nat) (listed : Array Bool) (ρ : Rho) (F : Nat → Prop) (a : Act) (w : World), HeadInv .any ops n listed → DInv P O w0 N ops n (tmS 0) hS svS listed ρ F a w → cnt n listed + fuel = ops.size →
      (∀ i, i < n → listed.getD i false = true) → wpAny P .any ops Q fuel listed a w := by
    intro fuel listed ρ F a w hI inv hc hall
    have hst := inv.st hch hall
    have hf : fuel = ops.size - n := by have := cnt_all hall; omega
    have hops := htail ρ F a w Q hst hQ
    rw [← hf] at hops
    rcases hsink with e | ⟨_, hcb⟩
    · have hf0 : fuel = 0 := by omega
      subst hf0
      refine ⟨?_, by simpa [wpOps] using hops⟩
      cases hr : Region.ready .any ops listed with
      | nil => rfl
      | cons i r =>
        have hi : i ∈ Region.ready .any ops listed := by rw [hr]; simp
        obtain ⟨h0, o, ho, _⟩ := mem_ready.1 hi
        have hlt : i < ops.size := (Array.getElem?_eq_some_iff.1 ho).1
        have h1 := hall i (by omega)
        rw [getD_both h0] at h1; cases h1
    · refine wpAny_of_wpOps n hcb fuel n listed a w (by omega) (Nat.le_refl _) hI.size hI.tail (fun t ht => ?_) hedge hops
      have h1 := hall t ht
      have h2 : t < listed.size := by rw [hI.size]; omega
      simp [h2] at h1 ⊢; exact h1
  intro fuel
  induction fuel with
  | zero =>
    intro listed ρ F a w hI inv hc
    refine hfin 0 listed ρ F a w hI inv hc fun i hi => ?_
    cases h : listed.getD i false with
    | true => rfl
    | false => have := cnt_lt hi h; omega
  | succ fuel ih =>
    intro listed ρ F a w hI inv hc
    by_cases hall : ∀ i, i < n → listed.getD i false = true
    · exact hfin _ listed ρ F a w hI inv hc hall
    · have hex : ∃ i, i < n ∧ listed.getD i false = false ∧ ∀ j, j < i → listed.getD j false = true := by
        have key : ∀ m, (∃ i, i < m ∧ i < n ∧ listed.getD i false = false) → ∃ i, i < n ∧ listed.getD i false = false ∧ ∀ j, j < i → listed.getD j false = true := by
          intro m
          induction m with
          | zero => rintro ⟨i, h, _⟩; omega
          | succ m ihm =>
            rintro ⟨i, h1, h2, h3⟩
            by_cases hlow : ∃ i', i' < m ∧ i' < n ∧ listed.getD i' false = false
            · exact ihm hlow
            · refine ⟨i, h2, h3, fun j hj => ?_⟩
              cases hb : listed.getD j false with
              | true => rfl
              | false => exact absurd ⟨j, by omega, by omega, hb⟩ hlow
        refine key n (Classical.byContradiction fun hno => hall fun i hi => ?_)
        cases hb : listed.getD i false with
        | true => rfl
        | false => exact absurd ⟨i, hi, hi, hb⟩ hno
      obtain ⟨m, hm, hmu, hml⟩ := hex
      have hmr : m ∈ Region.ready .any ops listed := by
        have hms : m < ops.size := by omega
        refine mem_ready.2 ⟨getD_in (by rw [hI.size]; exact hms) hmu, ops[m], by simp [hms], fun e he hb => hml _ (hedge m _ (by simp [hms]) e he hb)⟩
      refine ⟨fun h0 => (by rw [h0] at hmr; cases hmr), fun i hi => ?_⟩
      have hin : i < n := by
        obtain ⟨h0, o, ho, _⟩ := mem_ready.1 hi
        have hlt : i < ops.size := (Array.getElem?_eq_some_iff.1 ho).1
        rcases hsink with e | ⟨hs, hcb⟩
        · omega
        · by_cases hns : n < ops.size
          · rcases Nat.lt_or_ge i n with h | h
            · exact h
            · exact absurd hi (tail_waits hs hcb hns hI _ m rfl hm (getD_in (by rw [hI.size]; omega) hmu) i h)
          · omega
      have hun := (mem_ready.1 hi).1
      refine inv.next hch hlk hI.size hn hin hi fun ρ' F' a' w' inv' => ih _ ρ' F' a' w' (hI.set hi hin) inv' ?_
      rw [cnt_set hin (by rw [hI.size]; omega) (getD_both hun)]
      omega
end draw
/-- A region: n quiet operations in whatever order, then the others, one behind the other. -/
theorem wpAny_draws {P : Program} {O : Nat → Prop} {w0 : Ctx} {N : Nat} {ops : Array Oper} (n : Nat) (hdr : drawB ops n = true) {tm : TM} {h : Heap} {K : TM → Heap → Prop}
    (hq : QC P N ops 0 n tm h (fun tm' h' => SC P O w0 N ops n (ops.size - n) tm' h' K)) {ρ : Rho} {F : Nat → Prop} {a : Act} {w : World} (hst : St O w0 N ρ F tm h a w)
    {Q : Exit → Act → World → Prop} (hQ : ∀ ρ' F' tm' h' a' w', St O w0 N ρ' F' tm' h' a' w' → K tm' h' → Q .normal a' w') : wpAny P .any ops Q ops.size (Array.replicate ops.size false) a { w with drawn := w.drawn + 1 } := by
  obtain ⟨tmS, hS, svS, exS, e1, e2, hch, hk⟩ := QC.chain n 0 tm h hq
  rw [Nat.zero_add] at hch hk
  have hlen : h.length ≤ (hS n).length := by rw [← e2]; exact hch.len 0 n (Nat.zero_le _) (Nat.le_refl _)
  obtain ⟨e3, he3⟩ := hch.pre 0 n (Nat.zero_le _) (Nat.le_refl _)
  refine wpAny_of_draw hch hdr hk hQ ops.size _ ρ F a _ ⟨by simp, fun j oj hj hl => ?_, fun t _ ht => by simp [ht]⟩ ⟨?_, fun i hi _ id h1 _ => ?_, fun id h1 => hst.free id (by omega), hst.defers.next rfl (fun D e => e), hst.size, fun i o d _ hl => ?_, fun t _ => ?_, ?_, hst.rno, hst.fno, hst.ext0⟩ ?_
  · rw [getD_replicate_false] at hl; cases hl
  · have hs : Sat ρ O F (hS 0) w := by rw [e2]; exact hst.sat
    refine Sat.heap (w := w) rfl ⟨fun id r ri h1 h2 => ?_, fun id id' r r' ri ri' h1 h1' h2 h2' => ?_, hs.lt⟩
    · have hid : id < h.length := by
        rcases Nat.lt_or_ge id h.length with h' | h'
        · exact h'
        · rw [hst.free id h'] at h2; cases h2
      rw [he3, List.getElem?_append_left (by rw [e2]; exact hid)] at h1
      exact hs.row id r ri h1 h2
    · have hid : id < h.length := by
        rcases Nat.lt_or_ge id h.length with h' | h'
        · exact h'
        · rw [hst.free id h'] at h2; cases h2
      have hid' : id' < h.length := by
        rcases Nat.lt_or_ge id' h.length with h' | h'
        · exact h'
        · rw [hst.free id' h'] at h2'; cases h2'
      rw [he3, List.getElem?_append_left (by rw [e2]; exact hid)] at h1
      rw [he3, List.getElem?_append_left (by rw [e2]; exact hid')] at h1'
      exact hs.inj id id' r r' ri ri' h1 h1' h2 h2'
  · have := hch.len 0 i (Nat.zero_le _) (by omega)
    rw [e2] at this
    exact hst.free id (by omega)
  · rw [getD_replicate_false] at hl; cases hl
  · rw [e1]; exact VRel.heap (w := w) (w' := { w with drawn := w.drawn + 1 }) rfl (hst.rel t)
  · exact hst.keep.heap rfl rfl rfl rfl
  · have : cnt n (Array.replicate ops.size false) = 0 := by
      unfold cnt
      rw [List.countP_eq_zero]
      intro i _
      rw [getD_replicate_false]
      simp
    omega
theorem wp_region_draws {P : Program} {O : Nat → Prop} {w0 : Ctx} {N : Nat} {ops : Array Oper} {id : Nat} (hmix : P.follows .mixedOrders = true) (n : Nat) (hdr : drawB ops n = true) {tm : TM} {h : Heap} {K : TM → Heap → Prop}
    (hq : QC P N ops 0 n tm h (fun tm' h' => SC P O w0 N ops n (ops.size - n) tm' h' K)) {ρ : Rho} {F : Nat → Prop} {a : Act} {w : World} (hst : St O w0 N ρ F tm h a w)
    {Q : Exit → Act → World → Prop} (hQ : ∀ ρ' F' tm' h' a' w', St O w0 N ρ' F' tm' h' a' w' → K tm' h' → Q .normal a' w') : (Code.region id ops true).wp P Q a w :=
  wp_region_any hmix (wpAny_draws n hdr hq hst hQ)
theorem wp_region_seq {P : Program} {O : Nat → Prop} {w0 : Ctx} {N : Nat} {ops : Array Oper} {id : Nat} {tm : TM} {h : Heap} {K : TM → Heap → Prop}
    (hq : SC P O w0 N ops 0 ops.size tm h K) {ρ : Rho} {F : Nat → Prop} {a : Act} {w : World} (hst : St O w0 N ρ F tm h a w)
    {Q : Exit → Act → World → Prop} (hQ : ∀ ρ' F' tm' h' a' w', St O w0 N ρ' F' tm' h' a' w' → K tm' h' → Q .normal a' w') : (Code.region id ops false).wp P Q a w := by
  refine wp_region ?_
  rw [List.range_eq_range']
  exact hq ρ F a w Q hst hQ
end Go.IL

namespace Go.IL
open Go.RowKit
theorem run_bind {α β : Type} (P : Program) (s : Sem α) (f : α → Sem β) (w : World) : (s >>= f).run P w = (match s.run P w with | .ok a w' => (f a).run P w' | .halt h w' => .halt h w') := by
  show (s.bind f).run P w = _
  induction s generalizing w with
  | pure a => rfl
  | load m a k ih =>
    simp only [Sem.bind, Sem.run]
    split
    · exact ih _ _
    · split
      · exact ih _ _
      · rfl
  | store m a v k ih =>
    cases v <;> simp only [Sem.bind, Sem.run]
    all_goals (split <;> first | (split <;> first | rfl | exact ih _) | rfl)
  | new o k ih => simp only [Sem.bind, Sem.run]; exact ih _ _
  | shape r k ih => simp only [Sem.bind, Sem.run]; exact ih _ _
  | freeze a n k ih => simp only [Sem.bind, Sem.run]; exact ih _
  | frozen a k ih => simp only [Sem.bind, Sem.run]; exact ih _ _
  | getObj r k ih => simp only [Sem.bind, Sem.run]; split <;> first | rfl | exact ih _ _
  | setObj r o k ih => simp only [Sem.bind, Sem.run]; split <;> first | rfl | exact ih _
  | choose q k ih => simp only [Sem.bind, Sem.run]; split <;> exact ih _ _
  | sys c k ih => simp only [Sem.bind, Sem.run]; exact ih _ _
  | program k ih => simp only [Sem.bind, Sem.run]; exact ih _ _
  | mark m k ih => simp only [Sem.bind, Sem.run]; exact ih _
  | halt h => rfl
theorem run_pure {α : Type} (P : Program) (a : α) (w : World) : (pure a : Sem α).run P w = .ok a w := rfl
/-- An operation that makes nothing: under what its guard says. -/
def OpV (c : Bool) (P : Program) (o : Oper) (tm : TM) (h : Heap) (sv : SV) : Prop :=
  c = true → ∀ (ρ : Rho) (O F : Nat → Prop) (w : World) (a : Act), Sat ρ O F h w → (∀ x ∈ o.op.operands, VRel ρ O F w (opnd tm x) (a.eval x)) →
    ∃ v, (execOp a.eval o).run P w = .ok (.value v) w ∧ VRel ρ O F w sv v
theorem looksAt_operand {ops : Array Oper} {o : Oper} {t : Nat} (h : Operand.tmp t ∈ o.op.operands) : t ∈ o.looksAt ops :=
  List.mem_append_left _ (List.mem_filterMap.2 ⟨.tmp t, by simpa using h, rfl⟩)
theorem operands_rel {ops : Array Oper} {o : Oper} {ρ : Rho} {O F : Nat → Prop} {w : World} {tm : TM} {a : Act} (hl : LRel ρ O F w (o.looksAt ops) tm a) : ∀ x ∈ o.op.operands, VRel ρ O F w (opnd tm x) (a.eval x) :=
  fun x hx => opnd_rel x fun t e => hl t (looksAt_operand (e ▸ hx))
theorem Oper.wp_value {P : Program} {o : Oper} {a : Act} {w : World} {next : Act → World → Prop} {Q : Exit → Act → World → Prop} {v : Value} {w' : World}
    (hr : (execOp a.eval o).run P w = .ok (.value v) w') (h : next (a.put o.dst v) w') : o.wp P a w next Q := by
  simp only [Oper.wp, hr, Oper.upon]; exact h
theorem OpG.of_V {P : Program} {ops : Array Oper} {o : Oper} {tm : TM} {h : Heap} {sv : SV} (hg : o.guard = none) (hv : OpV true P o tm h sv) : OpG P ops o tm h sv [] := by
  intro ρ O F w a hs hl _ next Q hn
  rw [if_pos (by simp [Region.wanted, hg])]
  obtain ⟨v, hr, hrel⟩ := hv rfl ρ O F w a hs (operands_rel hl)
  exact Oper.wp_value hr (hn v ρ F w (Ext.refl _ _ _) (fun id h => absurd rfl h) (by simpa using hs) hrel)
/-- What a guard's temporary says. -/
def gcond : SV → Bool → Option Bool
  | .bool b, want => some (b == want)
  | .cnd g (.bool b), want => some (g && (b == want))
  | _, _ => none
theorem gcond_wanted {ops : Array Oper} {o : Oper} {j d : Nat} {want c : Bool} {tm : TM} {ρ : Rho} {O F : Nat → Prop} {w : World} {a : Act} (hg : o.guard = some (j, want)) (hd : (ops[j]?).bind (·.dst) = some d) (hc : gcond (tm.get d) want = some c)
    (hl : LRel ρ O F w (o.looksAt ops) tm a) (hda : d < a.tmps.size) : Region.wanted o (yielded ops a.tmps) = c := by
  have hm : d ∈ o.looksAt ops := List.mem_append_right _ (by simp [hg, hd])
  have hv := hl d hm
  unfold Region.wanted
  simp only [hg, yielded, hd, Option.bind_some]
  have e : a.tmps[d]? = some (a.tmps.getD d undef) := by simp [hda]
  rw [e]
  generalize a.tmps.getD d undef = v at *
  generalize hs : tm.get d = s at *
  cases s <;> simp only [gcond] at hc <;> try (cases hc; done)
  case bool b =>
    cases hv
    cases hc
    cases b <;> cases want <;> rfl
  case cnd g s =>
    cases s <;> simp only at hc <;> try (cases hc; done)
    case bool b =>
      cases hc
      cases hv with
      | cnd _ _ _ h1 h0 =>
        cases g with
        | true => cases h1 rfl; cases b <;> cases want <;> rfl
        | false => cases h0 rfl; cases want <;> rfl
/-- The same operation under a guard: its value is there where the guard says so. -/
theorem OpG.of_VG {P : Program} {ops : Array Oper} {o : Oper} {tm : TM} {h : Heap} {sv : SV} {j d : Nat} {want c : Bool} (hg : o.guard = some (j, want)) (hd : (ops[j]?).bind (·.dst) = some d) (hc : gcond (tm.get d) want = some c)
    (hv : OpV c P o tm h sv) : OpG P ops o tm h (.cnd c sv) [] := by
  intro ρ O F w a hs hl _ next Q hn
  have hkey : Region.wanted o (yielded ops a.tmps) = c ∨ (a.tmps.size ≤ d) := by
    rcases Nat.lt_or_ge d a.tmps.size with h' | h'
    · exact .inl (gcond_wanted hg hd hc hl h')
    · exact .inr h'
  have hrun : c = true → ∃ v, (execOp a.eval o).run P w = .ok (.value v) w ∧ VRel ρ O F w sv v := fun e => hv e ρ O F w a hs (operands_rel hl)
  rcases hkey with hkey | hkey
  · rw [hkey]
    cases c with
    | true =>
      rw [if_pos rfl]
      obtain ⟨v, hr, hrel⟩ := hrun rfl
      exact Oper.wp_value hr (hn v ρ F w (Ext.refl _ _ _) (fun id h => absurd rfl h) (by simpa using hs) (.cnd _ _ _ (fun _ => hrel) (fun h => by cases h)))
    | false =>
      rw [if_neg (by simp)]
      exact hn undef ρ F w (Ext.refl _ _ _) (fun id h => absurd rfl h) (by simpa using hs) (.cnd _ _ _ (fun h => by cases h) (fun _ => rfl))
  · -- a temporary that isn't there holds nothing
    have hm : d ∈ o.looksAt ops := List.mem_append_right _ (by simp [hg, hd])
    have hvd := hl d hm
    have e0 : a.tmps.getD d undef = undef := by simp [Array.getElem?_eq_none hkey]
    have hw : Region.wanted o (yielded ops a.tmps) = false := by
      unfold Region.wanted
      simp only [hg, yielded, hd, Option.bind_some, Array.getElem?_eq_none hkey]
      rfl
    rw [e0] at hvd
    have hcf : c = false := by
      generalize tm.get d = s at *
      cases s <;> simp only [gcond] at hc <;> try (cases hc; done)
      case bool b => cases hvd
      case cnd g s =>
        cases s <;> simp only at hc <;> try (cases hc; done)
        case bool b =>
          cases hc
          cases hvd with
          | cnd _ _ _ h1 h0 =>
            cases g with
            | true => have h2 := h1 rfl; cases h2
            | false => rfl
    rw [hw, if_neg (by simp)]
    exact hn undef ρ F w (Ext.refl _ _ _) (fun id h => absurd rfl h) (by simpa using hs) (.cnd _ _ _ (fun h => by rw [hcf] at h; cases h) (fun _ => rfl))
/-- An operand, under a guard. -/
def Opd (c : Bool) (tm : TM) (x : Operand) (s : SV) : Prop := opnd tm x = s ∨ ∃ g, opnd tm x = .cnd g s ∧ (c = true → g = true)
theorem Opd.rel {c : Bool} {tm : TM} {x : Operand} {s : SV} (h : Opd c tm x s) (hc : c = true) {ρ : Rho} {O F : Nat → Prop} {w : World} {v : Value} (hv : VRel ρ O F w (opnd tm x) v) : VRel ρ O F w s v := by
  rcases h with h | ⟨g, h, hg⟩
  · rw [← h]; exact hv
  · rw [h] at hv
    cases hv with
    | cnd _ _ _ h1 _ => exact h1 (hg hc)
/-! ### What is known of types -/
inductive Shape
  | int (k : IntKind) | bool | str | struct (fs : List (Nat × Nat × Bool)) | slice (e : TypeId) | array (n : Nat) (e : TypeId) | ptr (e : TypeId) | map (k e : TypeId) | func | other
structure TI where
  size : Nat
  bytes : Nat
  agg : Bool
  zero : List SV
  shape : Shape
abbrev Tab := TypeId → TI
def aggB (P : Program) (T : TypeId) : Option Bool := (P.underlying T).map fun d => match d with | .struct _ => true | .array _ _ => true | _ => false
def svIs : SV → Value → Bool
  | .int k n, .int k' n' => k == k' && n == n'
  | .bool b, .bool b' => b == b'
  | .str s, .string s' => s.data.toList == s'.data.toList
  | .nils, .slice none 0 0 => true
  | .nilp, .pointer none => true
  | .raw .nilFunc, .nilFunc => true
  | .raw .nilIface, .nilIface => true
  | .raw (.map none), .map none => true
  | _, _ => false
def shapeOk (P : Program) (T : TypeId) (s : Shape) : Bool :=
  match P.underlying T, s with
  | some (.int k), .int k' => k == k'
  | some .bool, .bool => true
  | some .string, .str => true
  | some (.struct fields), .struct fs => fields.size == fs.length && (List.range fs.length).all fun f => match fields[f]?, fs[f]? with
    | some fd, some e => fd.offset == e.1 && ((P.info? fd.type).map (·.size)) == some e.2.1 && decide (e.2.1 ≠ 0) && aggB P fd.type == some e.2.2
    | _, _ => false
  | some (.slice e), .slice e' => e == e'
  | some (.array n e), .array n' e' => n == n' && e == e'
  | some (.pointer e), .ptr e' => e == e'
  | some (.map k e), .map k' e' => k == k' && e == e'
  | some (.func _ _ _), .func => true
  | _, _ => false
def zeroOk (z : Value) (agg : Bool) (l : List SV) : Bool :=
  (match z, agg with | .agg _, true => true | .agg _, false => false | .tuple _, _ => false | _, true => false | _, false => true) &&
  z.cells.size == l.length && (List.range l.length).all fun i => match z.cells[i]?, l[i]? with | some v, some s => svIs s v | _, _ => false
def tyOk (P : Program) (T : TypeId) (ti : TI) : Bool :=
  (match P.info? T with
   | some i => i.size == ti.size && i.bytes == ti.bytes && decide (ti.zero.length = ti.size) && (match i.zero with | some z => zeroOk z ti.agg ti.zero | none => false)
   | none => false) && aggB P T == some ti.agg && shapeOk P T ti.shape && decide (T < softK)
/-- The table tells what the program's does, of each type that it tells something of. -/
def TabOk (P : Program) (tab : Tab) : Prop := ∀ T, (match (tab T).shape with | .other => True | _ => tyOk P T (tab T) = true)
theorem svIs_rel {ρ : Rho} {O F : Nat → Prop} {w : World} {s : SV} {v : Value} (h : svIs s v = true) : VRel ρ O F w s v := by
  unfold svIs at h
  split at h <;> first | (simp at h; done) | skip
  · simp only [Bool.and_eq_true, beq_iff_eq] at h; obtain ⟨rfl, rfl⟩ := h; exact .int _ _
  · simp only [beq_iff_eq] at h; subst h; exact .bool _
  · rename_i s s'
    simp only [beq_iff_eq] at h
    have : s = s' := by cases s; cases s'; simp at h; simp [h]
    subst this; exact .str _
  · exact .nils
  · exact .nilp
  · exact .raw _
  · exact .raw _
  · exact .raw _
structure TyF (P : Program) (T : TypeId) (ti : TI) : Prop where
  info : ∃ i z, P.info? T = some i ∧ i.size = ti.size ∧ i.bytes = ti.bytes ∧ i.zero = some z ∧ zeroOk z ti.agg ti.zero = true
  zlen : ti.zero.length = ti.size
  agg : aggB P T = some ti.agg
  shape : shapeOk P T ti.shape = true
  lt : T < softK
theorem TabOk.ty {P : Program} {tab : Tab} (h : TabOk P tab) {T : TypeId} (hs : (match (tab T).shape with | .other => false | _ => true) = true) : TyF P T (tab T) := by
  have h1 := h T
  cases he : (tab T).shape <;> rw [he] at h1 hs <;> try (cases hs; done)
  all_goals
    simp only [tyOk, Bool.and_eq_true, beq_iff_eq, decide_eq_true_eq] at h1
    obtain ⟨⟨⟨h1, h2⟩, h3⟩, hlt⟩ := h1
    cases hi : P.info? T with
    | none => rw [hi] at h1; cases h1
    | some i =>
      rw [hi] at h1
      simp only [Bool.and_eq_true, beq_iff_eq, decide_eq_true_eq] at h1
      obtain ⟨⟨⟨h4, h5⟩, h6⟩, h7⟩ := h1
      cases hz : i.zero with
      | none => rw [hz] at h7; cases h7
      | some z =>
        rw [hz] at h7
        exact ⟨⟨i, z, hi, h4, h5, hz, h7⟩, h6, h2, h3, hlt⟩
section types
variable {P : Program} {T : TypeId} {ti : TI}
theorem run_program (P : Program) (w : World) : (program : Sem Program).run P w = .ok P w := rfl
theorem run_underlying' {d : TypeDesc} (h : P.underlying T = some d) (w : World) : (underlying T).run P w = .ok d w := by
  unfold underlying
  rw [run_bind, run_program]
  simp only [h]
  rfl
theorem run_typeInfo' {i : TypeInfo} (h : P.info? T = some i) (w : World) : (typeInfo T).run P w = .ok i w := by
  unfold typeInfo
  rw [run_bind, run_program]
  simp only [h]
  rfl
theorem run_sizeOf' {i : TypeInfo} (h : P.info? T = some i) (w : World) : (sizeOf T).run P w = .ok i.size w := by
  unfold sizeOf
  rw [run_bind, run_typeInfo' h]
  rfl
theorem TyF.sizeOf (h : TyF P T ti) (w : World) : (Go.sizeOf T).run P w = .ok ti.size w := by
  obtain ⟨i, z, h1, h2, _⟩ := h.info
  rw [run_sizeOf' h1, h2]
theorem TyF.zeroValue (h : TyF P T ti) : ∃ z, zeroOk z ti.agg ti.zero = true ∧ ∀ w, (Go.zeroValue T).run P w = .ok z w := by
  obtain ⟨i, z, h1, _, _, h4, h5⟩ := h.info
  refine ⟨z, h5, fun w => ?_⟩
  unfold Go.zeroValue
  rw [run_bind, run_typeInfo' h1]
  simp only [h4]
  rfl
theorem run_isAgg {b : Bool} (h : aggB P T = some b) (w : World) : (isAgg T).run P w = .ok b w := by
  unfold aggB at h
  cases hu : P.underlying T with
  | none => rw [hu] at h; cases h
  | some d =>
    rw [hu] at h
    simp only [Option.map_some, Option.some.injEq] at h
    unfold isAgg
    rw [run_bind, run_underlying' hu]
    subst h
    cases d <;> rfl
end types
end Go.IL

set_option linter.unusedVariables false
set_option linter.unusedSimpArgs false
namespace Go.IL
open Go.RowKit
/-! ### What an operation yields, and what it asks -/
def elAt (xs : List (List SV)) (i : Nat) : List SV := xs.getD i []
def cellAt (x : List SV) (j : Nat) : SV := x.getD j .any
def hrow (h : Heap) (id : Nat) : Option Row := (h[id]?).getD none
def rowK (h : Heap) (id : Nat) : Nat := match hrow h id with | some r => r.k | none => 0
def rowXs (h : Heap) (id : Nat) : List (List SV) := match hrow h id with | some r => r.xs | none => []
def sbAt (s : ByteArray) (i : Nat) : Int := ((s[i]?).getD 0).toNat
def intV (op : BinOp) (k : IntKind) (m n : Int) : SV :=
  match op with
  | .add => .int k (k.wrap (m + n))
  | .sub => .int k (k.wrap (m - n))
  | .mul => .int k (k.wrap (m * n))
  | .quo => .int k (k.wrap (m.tdiv n))
  | .rem => .int k (m.tmod n)
  | .eql => .bool (m == n)
  | .neq => .bool (m != n)
  | .lss => .bool (decide (m < n))
  | .leq => .bool (decide (m ≤ n))
  | .gtr => .bool (decide (m > n))
  | .geq => .bool (decide (m ≥ n))
  | _ => .any
def intO (op : BinOp) (n : Int) : Prop :=
  match op with
  | .add | .sub | .mul | .eql | .neq | .lss | .leq | .gtr | .geq => True
  | .quo | .rem => n ≠ 0
  | _ => False
def isEq : BinOp → Bool
  | .eql | .neq => true
  | _ => false
def binV (op : BinOp) (x y : SV) : SV :=
  match x, y with
  | .int k m, .int k' n =>
    match op with
    | .shl => .int k (k.wrap (m * 2 ^ (min n.toNat k.bits)))
    | .shr => .int k (m.fdiv (2 ^ (min n.toNat k.bits)))
    | _ => if k = k' then intV op k m n else .any
  | .bool a, .bool b => (match op with | .eql => .bool (a == b) | .neq => .bool (!(a == b)) | _ => .any)
  | .str a, .str b => (match op with | .eql => .bool (a.toList == b.toList) | .neq => .bool (!(a.toList == b.toList)) | .add => .str (a ++ b) | _ => .any)
  | _, _ => match op with | .eql | .neq | .lss | .leq | .gtr | .geq => .bool false | _ => .any
def binO (tab : Tab) (op : BinOp) (T : TypeId) (x y : SV) : Prop :=
  match x, y with
  | .int k _, .int k' n =>
    match op with
    | .shl | .shr => 0 ≤ n
    | _ => k = k' ∧ intO op n
  | .bool _, .bool _ => isEq op = true ∧ (match (tab T).shape with | .bool => True | _ => False)
  | .str a, .str b => (match op with | .eql | .neq => True | .add => a.size + b.size ≤ 9223372036854775807 | _ => False)
  | _, _ => False
def pickV (c : Bool) (x y : SV) : SV :=
  match x, y with
  | .bool a, .bool b => .bool (bif c then a else b)
  | .bool a, .cnd _ (.bool b) => .bool (bif c then a else b)
  | .cnd _ (.bool a), .bool b => .bool (bif c then a else b)
  | .int k a, .int k' b => if k = k' then .int k (bif c then a else b) else .any
  | _, _ => .any
def pickO (c : Bool) (x y : SV) : Prop :=
  match x, y with
  | .bool _, .bool _ => True
  | .bool _, .cnd g (.bool _) => c = false → g = true
  | .cnd g (.bool _), .bool _ => c = true → g = true
  | .int k _, .int k' _ => k = k'
  | _, _ => False
def loadV (ti : TI) (h : Heap) : SV → SV
  | .ptr id i j => if ti.agg then .agg (((elAt (rowXs h id) i).drop j).take ti.size) else cellAt (elAt (rowXs h id) i) j
  | .rptr _ x j => if ti.agg then .agg ((x.drop j).take ti.size) else cellAt x j
  | _ => .any
def hasTy (ti : TI) : Prop := (match ti.shape with | .other => false | _ => true) = true
def loadO (ti : TI) (h : Heap) : SV → Prop
  | .ptr id i j => hasTy ti ∧ i < (rowXs h id).length ∧ j + ti.size ≤ rowK h id ∧ (ti.agg = false → ti.size = 1)
  | .rptr _ x j => hasTy ti ∧ j + ti.size ≤ x.length ∧ (ti.agg = false → ti.size = 1)
  | _ => False
def fieldsOf (ti : TI) : List (Nat × Nat × Bool) := match ti.shape with | .struct fs => fs | _ => []
def fldAddrV (ti : TI) (f : Nat) : SV → SV
  | .ptr id i j => .ptr id i (j + ((fieldsOf ti).getD f (0, 0, false)).1)
  | .rptr o x j => .rptr o x (j + ((fieldsOf ti).getD f (0, 0, false)).1)
  | _ => .any
def fldAddrO (ti : TI) (f : Nat) : SV → Prop
  | .ptr _ _ _ | .rptr _ _ _ => f < (fieldsOf ti).length
  | _ => False
def fldV (ti : TI) (f : Nat) : SV → SV
  | .agg cs => let e := (fieldsOf ti).getD f (0, 0, false); if e.2.2 then .agg ((cs.drop e.1).take e.2.1) else cellAt cs e.1
  | _ => .any
def fldO (ti : TI) (f : Nat) : SV → Prop
  | .agg cs => f < (fieldsOf ti).length ∧ (let e := (fieldsOf ti).getD f (0, 0, false); e.1 + e.2.1 ≤ cs.length ∧ (e.2.2 = false → e.2.1 = 1))
  | _ => False
def idxAddrV (tab : Tab) (T : TypeId) : SV → SV → SV
  | .ref id off _, .int _ i => .ptr id (off + i.toNat) 0
  | .sl o xs, .int _ i => .rptr o (elAt xs i.toNat) 0
  | .ptr id a j, .int _ i => (match (tab T).shape with | .array _ e => .ptr id a (j + i.toNat * (tab e).size) | _ => .any)
  | .rptr o x j, .int _ i => (match (tab T).shape with | .array _ e => .rptr o x (j + i.toNat * (tab e).size) | _ => .any)
  | _, _ => .any
def idxAddrO (tab : Tab) (T : TypeId) (h : Heap) : SV → SV → Prop
  | .ref id _ n, .int _ i => (match (tab T).shape with | .slice e => hasTy (tab e) ∧ (tab e).size = rowK h id ∧ (hrow h id).isSome = true ∧ 0 ≤ i ∧ i < n | _ => False)
  | .sl _ xs, .int _ i => (match (tab T).shape with | .slice e => hasTy (tab e) ∧ 0 ≤ i ∧ i < xs.length ∧ (elAt xs i.toNat).length = (tab e).size | _ => False)
  | .ptr _ _ _, .int _ i | .rptr _ _ _, .int _ i => (match (tab T).shape with | .array n e => hasTy (tab e) ∧ 0 ≤ i ∧ i < n | _ => False)
  | _, _ => False
def idxV (tab : Tab) (T : TypeId) : SV → SV → SV
  | .agg cs, .int _ i => (match (tab T).shape with | .array _ e => (if (tab e).agg then .agg ((cs.drop (i.toNat * (tab e).size)).take (tab e).size) else cellAt cs (i.toNat * (tab e).size)) | _ => .any)
  | .str s, .int _ i => .int .u8 (sbAt s i.toNat)
  | _, _ => .any
def idxO (tab : Tab) (T : TypeId) : SV → SV → Prop
  | .agg cs, .int _ i => (match (tab T).shape with | .array n e => hasTy (tab e) ∧ 0 ≤ i ∧ i < n ∧ i.toNat * (tab e).size + (tab e).size ≤ cs.length ∧ ((tab e).agg = false → (tab e).size = 1) | _ => False)
  | .str s, .int _ i => (match (tab T).shape with | .str => 0 ≤ i ∧ i < s.size | _ => False)
  | _, _ => False
def lenV : SV → SV
  | .ref _ _ n => .int .i64 n
  | .sl _ xs => .int .i64 xs.length
  | .nils => .int .i64 0
  | .str s => .int .i64 s.size
  | _ => .any
def lenO (ti : TI) : SV → Prop
  | .ref _ _ _ | .sl _ _ | .nils => (match ti.shape with | .slice _ => True | _ => False)
  | .str _ => (match ti.shape with | .str => True | _ => False)
  | _ => False
def extV (i : Nat) : SV → SV
  | .tup vs => cellAt vs i
  | _ => .any
def extO (i : Nat) : SV → Prop
  | .tup vs => i < vs.length
  | _ => False
def convV (tab : Tab) (dst : TypeId) : SV → SV
  | .int _ n => (match (tab dst).shape with | .int k => .int k (k.wrap n) | _ => .any)
  | .str s => .str s
  | s => s
def convO (tab : Tab) (src dst : TypeId) : SV → Prop
  | .int _ _ => hasTy (tab src) ∧ (match (tab dst).shape with | .int _ => True | _ => False)
  | .str _ => hasTy (tab src) ∧ (match (tab dst).shape with | .str => True | _ => False)
  | _ => False
/-! ### Each is sound -/
theorem addr_add (b off n : Nat) : (⟨b, off, none⟩ : Addr).add n = ⟨b, off + n, none⟩ := by
  unfold Addr.add; split <;> simp_all
theorem run_load {P : Program} {a : Addr} {w : World} {v : Value} (h : w.cell? a = some v) : (load a).run P w = .ok v w := by
  simp only [load, Sem.run, h]
theorem run_loadCellsFrom {P : Program} {w : World} (a : Addr) (cs : Nat → Value) : ∀ (n i : Nat) (acc : Array Value), (∀ t, t < n → w.cell? (a.add (i + t)) = some (cs (i + t))) →
    (loadCellsFrom a i n acc).run P w = .ok (acc ++ ((List.range' i n).map cs).toArray) w
  | 0, i, acc, _ => by simp [loadCellsFrom, run_pure]
  | n + 1, i, acc, h => by
    have h0 := h 0 (by omega)
    rw [Nat.add_zero] at h0
    simp only [loadCellsFrom]
    rw [run_bind, run_load h0]
    simp only []
    rw [run_loadCellsFrom a cs n (i + 1) _ (fun t ht => by have := h (t + 1) (by omega); rwa [show i + (t + 1) = i + 1 + t by omega] at this)]
    simp [List.range'_succ]
theorem run_loadCells {P : Program} {w : World} (a : Addr) (cs : Nat → Value) (n : Nat) (h : ∀ t, t < n → w.cell? (a.add t) = some (cs t)) : (loadCells a n).run P w = .ok ((List.range n).map cs).toArray w := by
  unfold loadCells
  rw [run_loadCellsFrom a cs n 0 #[] (fun t ht => by simpa using h t ht)]
  simp [List.range_eq_range']
section sound
variable {P : Program} {tab : Tab} {ρ : Rho} {O F : Nat → Prop} {w : World} {h : Heap}
theorem hrow_some {id : Nat} {r : Row} (e : hrow h id = some r) : h[id]? = some (some r) := by
  unfold hrow at e
  cases h1 : h[id]? with
  | none => rw [h1] at e; cases e
  | some o => rw [h1] at e; simp at e; rw [e]
theorem rel_at {cs : List SV} {i : Nat} (hi : i < cs.length) : cs[i]? = some (cellAt cs i) := by
  simp [cellAt, hi]
theorem row_at {xs : List (List SV)} {i : Nat} (hi : i < xs.length) : xs[i]? = some (elAt xs i) := by
  simp [elAt, hi]
/-- The cells of an element of a row of the call's own. -/
theorem Sat.cell (hs : Sat ρ O F h w) {id : Nat} {ri : RI} (hρ : ρ id = some ri) {i j : Nat} (hi : i < (rowXs h id).length) (hj : j < rowK h id) :
    ri.k = rowK h id ∧ ∃ v, w.cell? ⟨ri.b, i * ri.k + j, none⟩ = some v ∧ VRel ρ O F w (cellAt (elAt (rowXs h id) i) j) v := by
  cases hr : hrow h id with
  | none => simp [rowXs, hr] at hi
  | some r =>
    simp only [rowXs, rowK, hr] at hi hj ⊢
    have hR := hs.row id r ri (hrow_some hr) hρ
    refine ⟨hR.k, ?_⟩
    obtain ⟨arr, h1, _, _, h4⟩ := hR.cells
    have hx := row_at hi
    have hlen : (elAt r.xs i).length = r.k := hR.wf _ (List.mem_of_getElem? hx)
    obtain ⟨v, h5, h6⟩ := h4 i j _ _ hx (rel_at (by rw [hlen]; exact hj))
    refine ⟨v, ?_, h6⟩
    simp only [World.cell?, h1]
    rw [hR.k]
    simpa using h5
theorem load_run (hT : TabOk P tab) {T : TypeId} {b off : Nat} (hty : hasTy (tab T)) {cs : Nat → Value} (hc : ∀ t, t < (tab T).size → w.cell? ⟨b, off + t, none⟩ = some (cs t)) (h1 : (tab T).agg = false → (tab T).size = 1) :
    (Instr.loadAt T (.pointer (some ⟨b, off, none⟩))).run P w = .ok (if (tab T).agg then .agg ((List.range (tab T).size).map cs).toArray else cs 0) w := by
  have hty := hT.ty hty
  simp only [Instr.loadAt, Instr.sureAddr]
  rw [run_bind, run_pure]
  simp only [loadVar]
  rw [run_bind, run_isAgg hty.agg]
  simp only []
  cases hb : (tab T).agg with
  | true =>
    simp only [if_true]
    rw [run_bind, hty.sizeOf]
    simp only []
    rw [run_bind, run_loadCells _ cs _ (fun t ht => by rw [addr_add]; exact hc t ht)]
    rfl
  | false =>
    simp only [Bool.false_eq_true, if_false]
    have := hc 0 (by rw [h1 hb]; omega)
    exact run_load this
theorem agg_rel {cs : List SV} {n : Nat} {vs : Nat → Value} (hl : n ≤ cs.length) (h : ∀ t, t < n → VRel ρ O F w (cellAt cs t) (vs t)) : VRel ρ O F w (.agg (cs.take n)) (.agg ((List.range n).map vs).toArray) := by
  refine .agg _ _ (by simp [Nat.min_eq_left hl]) fun i c v h1 h2 => ?_
  have hi : i < n := by
    have := (List.getElem?_eq_some_iff.1 h1).1
    simp at this; omega
  rw [List.getElem?_take_of_lt hi] at h1
  rw [rel_at (by omega)] at h1
  cases h1
  have : ((List.range n).map vs).toArray[i]? = some (vs i) := by simp [hi]
  rw [this] at h2; cases h2
  exact h i hi
theorem cellAt_drop (cs : List SV) (j t : Nat) : cellAt (cs.drop j) t = cellAt cs (j + t) := by simp [cellAt]
theorem sound_load (hT : TabOk P tab) (hs : Sat ρ O F h w) {T : TypeId} {s : SV} {v : Value} (hv : VRel ρ O F w s v) (ho : loadO (tab T) h s) :
    ∃ r, (Instr.loadAt T v).run P w = .ok r w ∧ VRel ρ O F w (loadV (tab T) h s) r := by
  cases hv <;> simp only [loadO] at ho <;> try (exact ho.elim)
  case ptr id i j ri hρ =>
    obtain ⟨hty, hi, hj, h1⟩ := ho
    have hk : ri.k = rowK h id ∨ (tab T).size = 0 := by
      rcases Nat.eq_zero_or_pos (tab T).size with h0 | h0
      · exact .inr h0
      · exact .inl (hs.cell hρ hi (j := j) (by omega)).1
    have hcell : ∀ t, t < (tab T).size → ∃ v, w.cell? ⟨ri.b, i * ri.k + j + t, none⟩ = some v ∧ VRel ρ O F w (cellAt (elAt (rowXs h id) i) (j + t)) v := fun t ht => by
      have := (hs.cell hρ hi (j := j + t) (by omega)).2
      rwa [Nat.add_assoc]
    have hcs : ∃ cs : Nat → Value, ∀ t, t < (tab T).size → w.cell? ⟨ri.b, i * ri.k + j + t, none⟩ = some (cs t) ∧ VRel ρ O F w (cellAt (elAt (rowXs h id) i) (j + t)) (cs t) :=
      ⟨fun t => if ht : t < (tab T).size then (hcell t ht).choose else undef, fun t ht => by simp only [ht, dif_pos]; exact (hcell t ht).choose_spec⟩
    obtain ⟨cs, hcs⟩ := hcs
    refine ⟨_, load_run hT hty (fun t ht => (hcs t ht).1) h1, ?_⟩
    have hlen : rowK h id ≤ (elAt (rowXs h id) i).length ∨ (tab T).size = 0 := by
      rcases hk with hk | hk
      · left
        cases hr : hrow h id with
        | none => simp [rowXs, hr] at hi
        | some r =>
          simp only [rowXs, rowK, hr] at hi ⊢
          have hR := hs.row id r ri (hrow_some hr) hρ
          rw [hR.wf _ (List.mem_of_getElem? (row_at hi))]
          exact Nat.le_refl _
      · exact .inr hk
    simp only [loadV]
    cases hb : (tab T).agg with
    | true =>
      simp only [if_true]
      rcases hlen with hlen | hlen
      · exact agg_rel (by simp; omega) (fun t ht => by rw [cellAt_drop]; exact (hcs t ht).2)
      · rw [hlen]; exact agg_rel (Nat.zero_le _) (fun t ht => by omega)
    | false =>
      simp only [Bool.false_eq_true, if_false]
      have := (hcs 0 (by rw [h1 hb]; omega)).2
      rwa [Nat.add_zero] at this
  case rptr o x j b off cs hb hc hr =>
    obtain ⟨hty, hj, h1⟩ := ho
    have hcell : ∀ t, t < (tab T).size → w.cell? ⟨b, off + j + t, none⟩ = some (cs (j + t)) := fun t ht => by rw [Nat.add_assoc]; exact hc _ (by omega)
    refine ⟨_, load_run (cs := fun t => cs (j + t)) hT hty hcell h1, ?_⟩
    simp only [loadV]
    cases hb : (tab T).agg with
    | true =>
      simp only [if_true]
      exact agg_rel (by simp; omega) (fun t ht => by rw [cellAt_drop]; exact hr _ _ (rel_at (by omega)))
    | false =>
      simp only [Bool.false_eq_true, if_false]
      have e := h1 hb
      exact hr j _ (rel_at (by omega))
theorem sound_bin (hT : TabOk P tab) {op : BinOp} {T : TypeId} {x y : Operand} {sx sy : SV} {vx vy : Value} (hx : VRel ρ O F w sx vx) (hy : VRel ρ O F w sy vy) (ho : binO tab op T sx sy) :
    ∃ r, (do eqGuard op T x y vx vy; binOp op T vx vy : Sem Value).run P w = .ok r w ∧ VRel ρ O F w (binV op sx sy) r := by
  cases hx <;> cases hy <;> simp only [binO] at ho <;> try (exact ho.elim)
  case int.int k m k' n =>
    have key : k = k' ∧ intO op n → op ≠ .shl → op ≠ .shr → ∃ r, (do eqGuard op T x y (.int k m) (.int k' n); binOp op T (.int k m) (.int k' n) : Sem Value).run P w = .ok r w ∧ VRel ρ O F w (if k = k' then intV op k m n else .any) r := by
      rintro ⟨rfl, h2⟩ h3 h4
      rw [if_pos rfl]
      have hg : (eqGuard op T x y (.int k m) (.int k n)).run P w = .ok () w := by
        unfold eqGuard
        cases op <;> rfl
      cases op <;> simp only [intO] at h2 <;> first | exact h2.elim | exact absurd rfl h3 | exact absurd rfl h4 | skip
      all_goals
        rw [run_bind, hg]
        simp only [binOp, ne_eq, not_true_eq_false, if_false, Op.intArith, Op.intDiv, Op.intCmp, h2, intV]
        exact ⟨_, rfl, by constructor⟩
    cases op <;> simp only [binV] <;> try (exact key ho (by simp) (by simp))
    all_goals
      simp only [binO] at ho
      have hn : ¬ n < 0 := by omega
      rw [run_bind]
      have hg : ∀ op, op = BinOp.shl ∨ op = BinOp.shr → (eqGuard op T x y (.int k m) (.int k' n)).run P w = .ok () w := by rintro op (rfl | rfl) <;> rfl
      rw [hg _ (by simp)]
      simp only [binOp, Op.shift, hn, if_false]
      exact ⟨_, rfl, by constructor⟩
  case bool.bool a b =>
    obtain ⟨h1, h2⟩ := ho
    have hty : (tab T).shape = .bool := by
      cases e : (tab T).shape <;> rw [e] at h2 <;> first | rfl | exact h2.elim
    have hu : P.underlying T = some .bool := by
      have h3 := (hT.ty (T := T) (by rw [hty])).shape
      unfold shapeOk at h3
      rw [hty] at h3
      split at h3 <;> simp_all
    have he : ∀ d, (Op.equalIn (d + 1) T (.bool a) (.bool b)).run P w = .ok (a == b) w := fun d => by
      simp only [Op.equalIn]
      rw [run_bind, run_underlying' hu]
      rfl
    have he' : (Op.equal T (.bool a) (.bool b)).run P w = .ok (a == b) w := he 9999
    cases op <;> simp only [isEq] at h1 <;> try (cases h1; done)
    all_goals
      rw [run_bind]
      have hg : ∀ op, (eqGuard op T x y (.bool a) (.bool b)).run P w = .ok () w := fun op => by unfold eqGuard; cases op <;> rfl
      rw [hg]
      simp only [binOp, binV]
      rw [run_bind, he']
      exact ⟨_, rfl, by constructor⟩
  case str.str a b =>
    have hg : (eqGuard op T x y (.string a) (.string b)).run P w = .ok () w := by unfold eqGuard; cases op <;> rfl
    rw [run_bind, hg]
    cases op <;> simp only [] at ho <;> try (exact ho.elim)
    · have : ¬ ((a.size + b.size : Nat) : Int) > IntKind.i64.max := by
        have e : IntKind.i64.max = 9223372036854775807 := by rfl
        rw [e]; omega
      simp only [binOp, Op.stringOp, this, if_false, binV]
      exact ⟨_, rfl, by constructor⟩
    · simp only [binOp, Op.stringOp, binV]; exact ⟨_, rfl, by constructor⟩
    · simp only [binOp, Op.stringOp, binV]; exact ⟨_, rfl, by constructor⟩
theorem sound_pick {c : Bool} {sx sy : SV} {vx vy : Value} (hx : VRel ρ O F w sx vx) (hy : VRel ρ O F w sy vy) (ho : pickO c sx sy) : VRel ρ O F w (pickV c sx sy) (if c then vx else vy) := by
  cases hx <;> simp only [pickO] at ho <;> try (exact ho.elim)
  case bool a =>
    cases hy <;> try simp only [pickO] at ho
    all_goals try (exact ho.elim)
    case bool b => simp only [pickV]; cases c <;> constructor
    case cnd g s h1 h0 =>
      cases s <;> try (exact ho.elim)
      case bool b =>
        simp only [pickV]
        cases c with
        | true => constructor
        | false => have h2 := h1 (ho rfl); cases h2; constructor
  case int k a =>
    cases hy <;> try simp only [pickO] at ho
    all_goals try (exact ho.elim)
    case int k' b => subst ho; simp only [pickV, if_true]; cases c <;> constructor
  case cnd g s h1 h0 =>
    cases s <;> try (exact ho.elim)
    case bool a =>
      cases hy <;> try simp only [pickO] at ho
      all_goals try (exact ho.elim)
      case bool b =>
        simp only [pickV]
        cases c with
        | true => have h2 := h1 (ho rfl); cases h2; constructor
        | false => constructor
theorem struct_fields (hT : TabOk P tab) {S : TypeId} {f : Nat} (hf : f < (fieldsOf (tab S)).length) :
    ∃ fields fd i, P.underlying S = some (.struct fields) ∧ fields.size = (fieldsOf (tab S)).length ∧ fields[f]? = some fd ∧ fd.offset = ((fieldsOf (tab S)).getD f (0, 0, false)).1 ∧
      P.info? fd.type = some i ∧ i.size = ((fieldsOf (tab S)).getD f (0, 0, false)).2.1 ∧ i.size ≠ 0 ∧ aggB P fd.type = some ((fieldsOf (tab S)).getD f (0, 0, false)).2.2 := by
  cases hsh : (tab S).shape with
  | struct fs =>
    have hfs : fieldsOf (tab S) = fs := by simp [fieldsOf, hsh]
    rw [hfs] at hf ⊢
    have h1 := (hT.ty (T := S) (by rw [hsh])).shape
    unfold shapeOk at h1
    rw [hsh] at h1
    cases hu : P.underlying S with
    | none => rw [hu] at h1; cases h1
    | some d =>
      rw [hu] at h1
      cases d <;> simp only [] at h1 <;> try (cases h1; done)
      case struct fields =>
        simp only [Bool.and_eq_true, beq_iff_eq] at h1
        obtain ⟨h2, h3⟩ := h1
        have h4 := List.all_eq_true.1 h3 f (List.mem_range.2 hf)
        have h5 : fs[f]? = some (fs.getD f (0, 0, false)) := by simp [hf]
        rw [h5] at h4
        cases hfd : fields[f]? with
        | none => rw [hfd] at h4; cases h4
        | some fd =>
          rw [hfd] at h4
          simp only [Bool.and_eq_true, beq_iff_eq, decide_eq_true_eq] at h4
          obtain ⟨⟨⟨h6, h7⟩, h8⟩, h9⟩ := h4
          obtain ⟨i, hi1, hi2⟩ := Option.map_eq_some_iff.1 h7
          exact ⟨fields, fd, i, rfl, h2, hfd, h6, hi1, hi2, by rw [hi2]; exact h8, h9⟩
  | _ => simp [fieldsOf, hsh] at hf
theorem sound_fldAddr (hT : TabOk P tab) {S : TypeId} {f : Nat} {s : SV} {v : Value} (hv : VRel ρ O F w s v) (ho : fldAddrO (tab S) f s) :
    ∃ r, (Instr.fieldAt S v f).run P w = .ok r w ∧ VRel ρ O F w (fldAddrV (tab S) f s) r := by
  have run : ∀ b off, f < (fieldsOf (tab S)).length → (Instr.fieldAt S (.pointer (some ⟨b, off, none⟩)) f).run P w = .ok (.pointer (some ⟨b, off + ((fieldsOf (tab S)).getD f (0, 0, false)).1, none⟩)) w := by
    intro b off hf
    obtain ⟨fields, fd, i, h1, _, h2, h3, h4, h5, h6, _⟩ := struct_fields hT hf
    simp only [Instr.fieldAt]
    rw [run_bind, run_underlying' h1]
    simp only [h2, Instr.sureAddr]
    rw [run_bind, run_pure]
    simp only [fieldPlace]
    rw [run_bind, run_bind, run_sizeOf' h4]
    simp only [h6, if_false]
    rw [run_pure, addr_add, h3]
    rfl
  cases hv <;> simp only [fldAddrO] at ho <;> try (exact ho.elim)
  case ptr id i j ri hρ =>
    refine ⟨_, run _ _ ho, ?_⟩
    simp only [fldAddrV]
    rw [Nat.add_assoc]
    exact .ptr id i _ ri hρ
  case rptr o x j b off cs hb hc hr =>
    refine ⟨_, run _ _ ho, ?_⟩
    simp only [fldAddrV]
    rw [Nat.add_assoc]
    exact .rptr o x _ b off cs hb hc hr
theorem agg_part {cs : List SV} {vs : Array Value} (hl : cs.length = vs.size) (h : ∀ (i : Nat) (c : SV) (v : Value), cs[i]? = some c → vs[i]? = some v → VRel ρ O F w c v) {off n : Nat} (hn : off + n ≤ cs.length) :
    VRel ρ O F w (.agg ((cs.drop off).take n)) (.agg (vs.extract off (off + n))) := by
  refine .agg _ _ (by simp; omega) fun i c v h1 h2 => ?_
  have hi : i < n := by
    have := (List.getElem?_eq_some_iff.1 h1).1
    simp at this; omega
  rw [List.getElem?_take_of_lt hi, List.getElem?_drop] at h1
  rw [Array.getElem?_extract] at h2
  rw [if_pos (by omega)] at h2
  exact h _ _ _ h1 h2
theorem part_run {T : TypeId} {b : Bool} {i : TypeInfo} (hb : aggB P T = some b) (hi : P.info? T = some i) {cs : List SV} {vs : Array Value} (hl : cs.length = vs.size)
    (h : ∀ (i : Nat) (c : SV) (v : Value), cs[i]? = some c → vs[i]? = some v → VRel ρ O F w c v) {off : Nat} (hn : off + i.size ≤ cs.length) (h1 : b = false → i.size = 1) :
    ∃ r, (part T vs off).run P w = .ok r w ∧ VRel ρ O F w (if b then .agg ((cs.drop off).take i.size) else cellAt cs off) r := by
  unfold part
  rw [run_bind, run_isAgg hb]
  simp only []
  cases b with
  | true =>
    simp only [if_true]
    rw [run_bind, run_sizeOf' hi]
    exact ⟨_, rfl, agg_part hl h hn⟩
  | false =>
    simp only [Bool.false_eq_true, if_false]
    have e := h1 rfl
    have hlt : off < vs.size := by omega
    have e2 : vs[off]? = some vs[off] := by simp [hlt]
    rw [e2]
    exact ⟨_, rfl, h off _ _ (rel_at (by omega)) e2⟩
theorem sound_fld (hT : TabOk P tab) {S : TypeId} {f : Nat} {s : SV} {v : Value} (hv : VRel ρ O F w s v) (ho : fldO (tab S) f s) :
    ∃ r, (Instr.field S v f).run P w = .ok r w ∧ VRel ρ O F w (fldV (tab S) f s) r := by
  cases hv <;> simp only [fldO] at ho <;> try (exact ho.elim)
  case agg cs vs hl h =>
    obtain ⟨hf, h1, h2⟩ := ho
    obtain ⟨fields, fd, i, e1, _, e2, e3, e4, e5, e6, e7⟩ := struct_fields hT hf
    simp only [Instr.field]
    rw [run_bind, run_underlying' e1]
    simp only [e2, asAgg]
    rw [run_bind, run_pure]
    simp only [e3, fldV]
    rw [← e5] at h1 h2 ⊢
    exact part_run e7 e4 hl h h1 h2
theorem slice_under (hT : TabOk P tab) {T e : TypeId} (h : (tab T).shape = .slice e) : P.underlying T = some (.slice e) := by
  have h3 := (hT.ty (T := T) (by rw [h])).shape
  unfold shapeOk at h3
  rw [h] at h3
  cases hu : P.underlying T with
  | none => rw [hu] at h3; cases h3
  | some d =>
    rw [hu] at h3
    cases d <;> simp only [] at h3 <;> try (cases h3; done)
    case slice e' => simp at h3; rw [h3]
theorem array_under (hT : TabOk P tab) {T e : TypeId} {n : Nat} (h : (tab T).shape = .array n e) : P.underlying T = some (.array n e) := by
  have h3 := (hT.ty (T := T) (by rw [h])).shape
  unfold shapeOk at h3
  rw [h] at h3
  cases hu : P.underlying T with
  | none => rw [hu] at h3; cases h3
  | some d =>
    rw [hu] at h3
    cases d <;> simp only [] at h3 <;> try (cases h3; done)
    case array n' e' => simp at h3; rw [h3.1, h3.2]
theorem str_under (hT : TabOk P tab) {T : TypeId} (h : (tab T).shape = .str) : P.underlying T = some .string := by
  have h3 := (hT.ty (T := T) (by rw [h])).shape
  unfold shapeOk at h3
  rw [h] at h3
  cases hu : P.underlying T with
  | none => rw [hu] at h3; cases h3
  | some d =>
    rw [hu] at h3
    cases d <;> simp only [] at h3 <;> first | (cases h3; done) | rfl
theorem int_under (hT : TabOk P tab) {T : TypeId} {k : IntKind} (h : (tab T).shape = .int k) : P.underlying T = some (.int k) := by
  have h3 := (hT.ty (T := T) (by rw [h])).shape
  unfold shapeOk at h3
  rw [h] at h3
  cases hu : P.underlying T with
  | none => rw [hu] at h3; cases h3
  | some d =>
    rw [hu] at h3
    cases d <;> simp only [] at h3 <;> try (cases h3; done)
    case int k' => simp at h3; rw [h3]
theorem indexAt_slice {T e : TypeId} {sz : Nat} (hu : P.underlying T = some (.slice e)) (hsz : ∀ w, (sizeOf e).run P w = .ok sz w) {a : Addr} {n cap : Nat} {k : IntKind} {i : Int} (h0 : 0 ≤ i) (h1 : i < n) :
    (Instr.indexAt T (.slice (some a) n cap) (.int k i)).run P w = .ok (.pointer (some (a.add (i.toNat * sz)))) w := by
  simp only [Instr.indexAt, run_bind, asIntOf, run_pure, run_underlying' hu, h0, h1, and_self, if_true, hsz]
theorem indexAt_array {T e : TypeId} {sz m : Nat} (hu : P.underlying T = some (.array m e)) (hsz : ∀ w, (sizeOf e).run P w = .ok sz w) {a : Addr} {k : IntKind} {i : Int} (h0 : 0 ≤ i) (h1 : i < m) :
    (Instr.indexAt T (.pointer (some a)) (.int k i)).run P w = .ok (.pointer (some (a.add (i.toNat * sz)))) w := by
  simp only [Instr.indexAt, run_bind, asIntOf, run_pure, run_underlying' hu, Instr.sureAddr, h0, h1, and_self, if_true, hsz]
theorem sound_idxAddr (hT : TabOk P tab) (hs : Sat ρ O F h w) {T : TypeId} {s si : SV} {v vi : Value} (hv : VRel ρ O F w s v) (hi : VRel ρ O F w si vi) (ho : idxAddrO tab T h s si) :
    ∃ r, (Instr.indexAt T v vi).run P w = .ok r w ∧ VRel ρ O F w (idxAddrV tab T s si) r := by
  cases hv <;> cases hi <;> simp only [idxAddrO] at ho <;> try (exact ho.elim)
  case ref.int id off n cap ri hρ hn hc hm k i =>
    cases hsh : (tab T).shape <;> rw [hsh] at ho <;> try (exact ho.elim)
    case slice e =>
      obtain ⟨hty, hk, hr, h0, h1⟩ := ho
      refine ⟨_, indexAt_slice (slice_under hT hsh) (hT.ty hty).sizeOf h0 h1, ?_⟩
      rw [addr_add]
      simp only [idxAddrV]
      obtain ⟨r, hr'⟩ := Option.isSome_iff_exists.1 hr
      have hrk : ri.k = rowK h id := by
        have hR := hs.row id r ri (hrow_some hr') hρ
        rw [hR.k, rowK, hr']
      rw [hk, ← hrk]
      have := VRel.ptr (O := O) (F := F) (w := w) id (off + i.toNat) 0 ri hρ
      rwa [Nat.add_mul, Nat.add_zero] at this
  case sl.int o xs a cap k cs hk hcap hm ha hx k' i =>
    cases hsh : (tab T).shape <;> rw [hsh] at ho <;> try (exact ho.elim)
    case slice e =>
      obtain ⟨hty, h0, h1, h2⟩ := ho
      obtain ⟨b, off, rfl, hb, hc⟩ := ha (by omega)
      have hkk : k = (tab e).size := by rw [← h2]; exact (hk _ (List.mem_of_getElem? (row_at (by omega)))).symm
      refine ⟨_, indexAt_slice (slice_under hT hsh) (hT.ty hty).sizeOf h0 h1, ?_⟩
      rw [addr_add]
      simp only [idxAddrV]
      have := VRel.rptr (ρ := ρ) (O := O) (F := F) (w := w) o (elAt xs i.toNat) 0 b (off + i.toNat * k) (cs i.toNat) hb (fun j hj => hc i.toNat j (by omega) (by rw [hkk, ← h2]; exact hj))
        (fun j y hy => hx i.toNat j _ y (row_at (by omega)) hy)
      rw [← hkk]
      rwa [Nat.add_zero] at this
  case ptr.int id a j ri hρ k i =>
    cases hsh : (tab T).shape <;> rw [hsh] at ho <;> try (exact ho.elim)
    case array n e =>
      obtain ⟨hty, h0, h1⟩ := ho
      refine ⟨_, indexAt_array (array_under hT hsh) (hT.ty hty).sizeOf h0 h1, ?_⟩
      rw [addr_add]
      simp only [idxAddrV, hsh]
      rw [Nat.add_assoc]
      exact .ptr id a _ ri hρ
  case rptr.int o x j b off cs hb hc hr k i =>
    cases hsh : (tab T).shape <;> rw [hsh] at ho <;> try (exact ho.elim)
    case array n e =>
      obtain ⟨hty, h0, h1⟩ := ho
      refine ⟨_, indexAt_array (array_under hT hsh) (hT.ty hty).sizeOf h0 h1, ?_⟩
      rw [addr_add]
      simp only [idxAddrV, hsh]
      rw [Nat.add_assoc]
      exact .rptr o x _ b off cs hb hc hr
theorem sound_idx (hT : TabOk P tab) {T : TypeId} {s si : SV} {v vi : Value} (hv : VRel ρ O F w s v) (hi : VRel ρ O F w si vi) (ho : idxO tab T s si) :
    ∃ r, (Instr.index T v vi).run P w = .ok r w ∧ VRel ρ O F w (idxV tab T s si) r := by
  cases hv <;> cases hi <;> simp only [idxO] at ho <;> try (exact ho.elim)
  case agg.int cs vs hl h k i =>
    cases hsh : (tab T).shape <;> rw [hsh] at ho <;> try (exact ho.elim)
    case array n e =>
      obtain ⟨hty, h0, h1, h2, h3⟩ := ho
      have hF := hT.ty hty
      obtain ⟨inf, z, hi1, hi2, _⟩ := hF.info
      simp only [Instr.index]
      rw [run_bind]
      simp only [asIntOf, run_pure]
      rw [run_bind, run_underlying' (array_under hT hsh)]
      simp only [h0, h1, and_self, if_true]
      rw [run_bind, hF.sizeOf]
      simp only [idxV, hsh]
      rw [← hi2] at h2 h3 ⊢
      exact part_run hF.agg hi1 hl h h2 h3
  case str.int s k i =>
    cases hsh : (tab T).shape <;> rw [hsh] at ho <;> try (exact ho.elim)
    obtain ⟨h0, h1⟩ := ho
    simp only [Instr.index]
    rw [run_bind]
    simp only [asIntOf, run_pure]
    rw [run_bind, run_underlying' (str_under hT hsh)]
    have hlt : i.toNat < s.size := by omega
    have e : s[i.toNat]? = some (s[i.toNat]'hlt) := by simp [hlt]
    simp only [h0, if_true, e]
    refine ⟨_, rfl, ?_⟩
    simp only [idxV, sbAt, e, Option.getD_some]
    exact .int _ _
theorem sound_len (hT : TabOk P tab) {T T' : TypeId} {s : SV} {v : Value} (hv : VRel ρ O F w s v) (ho : lenO (tab T) s) :
    ∃ r, (Builtin.len_ #[T] T' #[v]).run P w = .ok r w ∧ VRel ρ O F w (lenV s) r := by
  cases hv <;> simp only [lenO] at ho <;> try (exact ho.elim)
  all_goals
    cases hsh : (tab T).shape <;> rw [hsh] at ho <;> try (exact ho.elim)
    simp only [Builtin.len_, List.getElem?_toArray, List.getElem?_cons_zero]
    first
      | (simp only [run_bind, run_underlying' (slice_under hT hsh)]; exact ⟨_, rfl, by simp only [lenV, goInt]; constructor⟩)
      | (simp only [run_bind, run_underlying' (str_under hT hsh)]; exact ⟨_, rfl, by simp only [lenV, goInt]; constructor⟩)
end sound
end Go.IL

set_option linter.unusedVariables false
set_option linter.unusedSimpArgs false
namespace Go.IL
open Go.RowKit
/-- The cells that a value fills. -/
def SV.cells : SV → List SV
  | .agg l => l
  | s => [s]
def scal : SV → Bool
  | .any | .agg _ | .tup _ | .cnd _ _ => false
  | .raw (.agg _) | .raw (.tuple _) => false
  | _ => true
def cellsOk (s : SV) : Bool := s.cells.all scal
section sound
variable {P : Program} {tab : Tab} {ρ : Rho} {O F : Nat → Prop} {w : World} {h : Heap}
theorem scal_one {s : SV} {v : Value} (hv : VRel ρ O F w s v) (hs : scal s = true) : v.cells = #[v] ∧ v.oneCell' = true := by
  cases hv <;> simp only [scal] at hs <;> first | (cases hs; done) | exact ⟨rfl, rfl⟩ | skip
  all_goals (cases ‹Value› <;> first | (cases hs; done) | exact ⟨rfl, rfl⟩)
theorem cells_rel {s : SV} {v : Value} (hv : VRel ρ O F w s v) (hs : cellsOk s = true) :
    s.cells.length = v.cells.size ∧ ∀ (i : Nat) (c : SV) (u : Value), s.cells[i]? = some c → v.cells[i]? = some u → VRel ρ O F w c u ∧ u.oneCell' = true := by
  by_cases ha : ∃ l, s = .agg l
  · obtain ⟨l, rfl⟩ := ha
    cases hv with
    | agg cs vs hl hh =>
      refine ⟨hl, fun i c u h1 h2 => ⟨hh i c u h1 h2, ?_⟩⟩
      have h3 := List.all_eq_true.1 hs c (List.mem_of_getElem? h1)
      exact (scal_one (hh i c u h1 h2) h3).2
  · have hc : s.cells = [s] := by cases s <;> first | rfl | exact absurd ⟨_, rfl⟩ ha
    unfold cellsOk at hs
    rw [hc] at hs ⊢
    have h3 : scal s = true := by simpa using hs
    obtain ⟨h4, h5⟩ := scal_one hv h3
    rw [h4]
    refine ⟨rfl, fun i c u h1 h2 => ?_⟩
    cases i with
    | zero => simp at h1 h2; subst h1; subst h2; exact ⟨hv, h5⟩
    | succ i => simp at h1
theorem foldl_set (off : Nat) : ∀ (vs : List Value) (st : Nat) (cells : Array Value) (t : Nat),
    ((vs.zipIdx st).foldl (fun (cs : Array Value) (x : Value × Nat) => cs.setIfInBounds (off + x.2) x.1) cells)[t]? = if off + st ≤ t ∧ t < off + st + vs.length ∧ t < cells.size then vs[t - off - st]? else cells[t]?
  | [], st, cells, t => by simp; omega
  | v :: vs, st, cells, t => by
    rw [List.zipIdx_cons, List.foldl_cons, foldl_set off vs (st + 1)]
    simp only [Array.size_setIfInBounds, List.length_cons]
    by_cases h1 : off + (st + 1) ≤ t ∧ t < off + (st + 1) + vs.length ∧ t < cells.size
    · rw [if_pos h1, if_pos (by omega), show t - off - st = (t - off - (st + 1)) + 1 by omega]
      simp
    · rw [if_neg h1]
      by_cases h2 : t = off + st
      · subst h2
        by_cases h3 : off + st < cells.size
        · rw [if_pos (by omega)]
          simp [h3]
        · rw [if_neg (by omega)]
          simp [h3]
      · rw [Array.getElem?_setIfInBounds_ne (by omega), if_neg (by omega)]
theorem foldl_set_size (off : Nat) : ∀ (zs : List (Value × Nat)) (c : Array Value), (List.foldl (fun (cs : Array Value) (x : Value × Nat) => cs.setIfInBounds (off + x.2) x.1) c zs).size = c.size
  | [], c => rfl
  | z :: zs, c => by rw [List.foldl_cons, foldl_set_size off zs]; simp
/-- Cells that read as a list. -/
def CRel (ρ : Rho) (O F : Nat → Prop) (w : World) (l : List SV) (cs : Array Value) : Prop := l.length = cs.size ∧ ∀ (i : Nat) (c : SV) (u : Value), l[i]? = some c → cs[i]? = some u → VRel ρ O F w c u
def splice (cs : List SV) (off : Nat) (l : List SV) : List SV := cs.take off ++ l ++ cs.drop (off + l.length)
theorem splice_rel {l : List SV} {cs : Array Value} (hc : CRel ρ O F w l cs) {s : SV} {v : Value} (hv : VRel ρ O F w s v) (hs : cellsOk s = true) {off : Nat} (hn : off + s.cells.length ≤ l.length) :
    CRel ρ O F w (splice l off s.cells) (v.cells.zipIdx.foldl (fun cs (x : Value × Nat) => cs.setIfInBounds (off + x.2) x.1) cs) := by
  obtain ⟨h1, h2⟩ := cells_rel hv hs
  have hlen : (splice l off s.cells).length = l.length := by simp [splice]; omega
  have hget : ∀ i, (v.cells.zipIdx.foldl (fun cs (x : Value × Nat) => cs.setIfInBounds (off + x.2) x.1) cs)[i]? = if off ≤ i ∧ i < off + v.cells.size ∧ i < cs.size then v.cells[i - off]? else cs[i]? := fun i => by
    rw [← Array.foldl_toList, Array.toList_zipIdx, foldl_set]
    simp
  have hsz : (v.cells.zipIdx.foldl (fun cs (x : Value × Nat) => cs.setIfInBounds (off + x.2) x.1) cs).size = cs.size := by
    rw [← Array.foldl_toList]
    exact foldl_set_size off _ _
  refine ⟨by rw [hlen, hsz]; exact hc.1, fun i c u e1 e2 => ?_⟩
  rw [hget] at e2
  have hi : i < l.length := by have := (List.getElem?_eq_some_iff.1 e1).1; omega
  by_cases hin : off ≤ i ∧ i < off + s.cells.length
  · rw [if_pos (by rw [← h1, ← hc.1]; omega)] at e2
    have e3 : (splice l off s.cells)[i]? = s.cells[i - off]? := by
      unfold splice
      rw [List.append_assoc, List.getElem?_append_right (by simp; omega), List.getElem?_append_left (by simp; omega)]
      simp [Nat.min_eq_left (show off ≤ l.length by omega)]
    rw [e3] at e1
    exact (h2 _ _ _ e1 e2).1
  · rw [if_neg (by rw [← h1]; omega)] at e2
    have e3 : (splice l off s.cells)[i]? = l[i]? := by
      unfold splice
      rcases Nat.lt_or_ge i off with h' | h'
      · rw [List.append_assoc, List.getElem?_append_left (by simp; omega), List.getElem?_take_of_lt h']
      · rw [List.getElem?_append_right (by simp; omega)]
        simp only [List.length_append, List.length_take, List.getElem?_drop]
        rw [Nat.min_eq_left (show off ≤ l.length by omega)]
        congr 1; omega
    rw [e3] at e1
    exact hc.2 _ _ _ e1 e2
def bldV (fs : List (Nat × Nat × Bool)) : List (Nat × SV) → List SV → List SV
  | [], cs => cs
  | (i, s) :: r, cs => bldV fs r (splice cs (fs.getD i (0, 0, false)).1 s.cells)
def bldO (fs : List (Nat × Nat × Bool)) (n : Nat) : List (Nat × SV) → Prop
  | [] => True
  | (i, s) :: r => (i < fs.length ∧ s.cells.length = (fs.getD i (0, 0, false)).2.1 ∧ cellsOk s = true ∧ (fs.getD i (0, 0, false)).1 + s.cells.length ≤ n) ∧ bldO fs n r
theorem splice_length {cs l : List SV} {off : Nat} (h : off + l.length ≤ cs.length) : (splice cs off l).length = cs.length := by simp [splice]; omega
theorem fill_rel (place : Nat → Option (Nat × Nat)) (fs : List (Nat × Nat × Bool)) (hp : ∀ i, i < fs.length → place i = some ((fs.getD i (0, 0, false)).1, (fs.getD i (0, 0, false)).2.1)) :
    ∀ (ps : List (Nat × SV)) (qs : List (Nat × Value)) (l : List SV) (cs : Array Value), CRel ρ O F w l cs → ps.length = qs.length →
      (∀ (i : Nat) (p : Nat × SV) (q : Nat × Value), ps[i]? = some p → qs[i]? = some q → p.1 = q.1 ∧ VRel ρ O F w p.2 q.2) → bldO fs l.length ps →
      ∃ r, Instr.fill place cs qs = some r ∧ CRel ρ O F w (bldV fs ps l) r
  | [], [], l, cs, hc, _, _, _ => ⟨cs, rfl, hc⟩
  | [], _ :: _, _, _, _, hl, _, _ => by simp at hl
  | _ :: _, [], _, _, _, hl, _, _ => by simp at hl
  | (i, s) :: ps, (j, v) :: qs, l, cs, hc, hl, hr, ho => by
    obtain ⟨⟨hi, h1, h2, h3⟩, ho'⟩ := ho
    obtain ⟨e, hv⟩ := hr 0 _ _ rfl rfl
    simp only at e hv
    subst e
    obtain ⟨hcl, _⟩ := cells_rel hv h2
    have hstep := splice_rel hc hv h2 h3
    have hlen := splice_length h3
    obtain ⟨r, hf, hcr⟩ := fill_rel place fs hp ps qs _ _ hstep (by simpa using hl) (fun k p q e1 e2 => hr (k + 1) p q (by simpa using e1) (by simpa using e2)) (by rw [hlen]; exact ho')
    refine ⟨r, ?_, hcr⟩
    simp only [Instr.fill, hp i hi]
    rw [if_neg (by
      simp only [Bool.or_eq_true, decide_eq_true_eq, bne_iff_ne, ne_eq]
      have := hc.1
      omega)]
    exact hf
theorem run_mapM {α β : Type} {f : α → Sem β} {g : α → β} : ∀ (l : List α), (∀ x ∈ l, (f x).run P w = .ok (g x) w) → (l.mapM f).run P w = .ok (l.map g) w
  | [], _ => by simp [run_pure]
  | x :: l, hx => by
    rw [List.mapM_cons, run_bind, hx x (by simp)]
    simp only []
    rw [run_bind, run_mapM l (fun y hy => hx y (by simp [hy]))]
    rfl
theorem zero_rel {z : Value} {agg : Bool} {l : List SV} (hz : zeroOk z agg l = true) : CRel ρ O F w l z.cells := by
  simp only [zeroOk, Bool.and_eq_true, beq_iff_eq] at hz
  obtain ⟨⟨_, h1⟩, h2⟩ := hz
  refine ⟨h1.symm, fun i c u e1 e2 => ?_⟩
  have h3 := List.all_eq_true.1 h2 i (List.mem_range.2 (List.getElem?_eq_some_iff.1 e1).1)
  rw [e1, e2] at h3
  exact svIs_rel h3
theorem sound_build (hT : TabOk P tab) {T : TypeId} {ps : List (Nat × SV)} {qs : Array (Nat × Value)} (hsh : ∃ fs, (tab T).shape = .struct fs) (hl : ps.length = qs.size)
    (hr : ∀ (i : Nat) (p : Nat × SV) (q : Nat × Value), ps[i]? = some p → qs[i]? = some q → p.1 = q.1 ∧ VRel ρ O F w p.2 q.2) (ho : bldO (fieldsOf (tab T)) (tab T).size ps) :
    ∃ r, (Instr.build T qs).run P w = .ok r w ∧ VRel ρ O F w (.agg (bldV (fieldsOf (tab T)) ps (tab T).zero)) r := by
  obtain ⟨fs, hfs⟩ := hsh
  have hF := hT.ty (T := T) (by rw [hfs])
  have hfields : fieldsOf (tab T) = fs := by simp [fieldsOf, hfs]
  obtain ⟨z, hz, hzr⟩ := hF.zeroValue
  have hu : ∃ fields, P.underlying T = some (.struct fields) ∧ fields.size = fs.length ∧ ∀ f, f < fs.length → ∃ fd i, fields[f]? = some fd ∧ fd.offset = (fs.getD f (0, 0, false)).1 ∧ P.info? fd.type = some i ∧ i.size = (fs.getD f (0, 0, false)).2.1 := by
    have h1 := hF.shape
    unfold shapeOk at h1
    rw [hfs] at h1
    cases hu : P.underlying T with
    | none => rw [hu] at h1; cases h1
    | some d =>
      rw [hu] at h1
      cases d <;> simp only [] at h1 <;> try (cases h1; done)
      case struct fields =>
        simp only [Bool.and_eq_true, beq_iff_eq] at h1
        refine ⟨fields, rfl, h1.1, fun f hf => ?_⟩
        obtain ⟨fields', fd, i, e1, _, e2, e3, e4, e5, _, _⟩ := struct_fields hT (S := T) (f := f) (by rw [hfields]; exact hf)
        rw [hu] at e1; cases e1
        rw [hfields] at e3 e5
        exact ⟨fd, i, e2, e3, e4, e5⟩
  obtain ⟨fields, hu, hsz, hfd⟩ := hu
  simp only [Instr.build]
  rw [run_bind, hzr]
  simp only []
  rw [run_bind, run_underlying' hu]
  simp only []
  have hplaces : (fields.mapM fun f => do pure (f.offset, ← sizeOf f.type) : Sem (Array (Nat × Nat))).run P w = .ok (fields.toList.map fun f => (f.offset, ((P.info? f.type).map (·.size)).getD 0)).toArray w := by
    rw [Array.mapM_eq_mapM_toList]
    show (List.toArray <$> _ : Sem _).run P w = _
    rw [map_eq_pure_bind, run_bind, run_mapM (g := fun f => (f.offset, ((P.info? f.type).map (·.size)).getD 0)) fields.toList (fun x hx => ?_)]
    · rfl
    · obtain ⟨k, hk⟩ := List.mem_iff_getElem?.1 hx
      have hk' : fields[k]? = some x := by simpa using hk
      have hlt : k < fs.length := by have := (Array.getElem?_eq_some_iff.1 hk').1; omega
      obtain ⟨fd, i, e1, _, e2, _⟩ := hfd k hlt
      rw [hk'] at e1; cases e1
      rw [run_bind, run_sizeOf' e2]
      simp [e2, run_pure]
  rw [run_bind, hplaces]
  simp only []
  have hcz : CRel ρ O F w (tab T).zero z.cells := zero_rel hz
  obtain ⟨r, hf, hcr⟩ := fill_rel (ρ := ρ) (O := O) (F := F) (w := w) (fun i => ((fields.toList.map fun f => (f.offset, ((P.info? f.type).map (·.size)).getD 0)).toArray)[i]?) fs (fun f hf => by
    obtain ⟨fd, i, e1, e2, e3, e4⟩ := hfd f hf
    simp [e1, e2, e3, e4]) ps qs.toList _ _ hcz (by simpa using hl) (fun i p q e1 e2 => hr i p q e1 (by simpa using e2)) (by rw [hF.zlen, ← hfields]; exact ho)
  rw [hf]
  rw [hfields]
  exact ⟨_, rfl, .agg _ _ hcr.1 hcr.2⟩
end sound
end Go.IL

set_option linter.unusedVariables false
set_option linter.unusedSimpArgs false
namespace Go.IL
open Go.RowKit
def unV (op : UnOp) : SV → SV
  | .bool b => (match op with | .not => .bool (!b) | _ => .any)
  | .int k n => (match op with | .neg => .int k (k.wrap (0 - n)) | _ => .any)
  | _ => .any
def unO (op : UnOp) : SV → Prop
  | .bool _ => (match op with | .not => True | _ => False)
  | .int _ _ => (match op with | .neg => True | _ => False)
  | _ => False
def bOf : SV → Bool
  | .bool b => b
  | _ => false
def iOf : SV → Int
  | .int _ n => n
  | _ => 0
def isBool : SV → Prop
  | .bool _ => True
  | _ => False
def isInt : SV → Prop
  | .int _ _ => True
  | _ => False
def optI (g : Operand → SV) (d : Int) : Option Operand → Int
  | some x => iOf (g x)
  | none => d
def optO (g : Operand → SV) : Option Operand → Prop
  | some x => isInt (g x)
  | none => True
def slcV (lo hi : Int) : SV → SV
  | .ref id off _ => .ref id (off + lo.toNat) (hi - lo).toNat
  | .sl o xs => .sl o ((xs.drop lo.toNat).take (hi - lo).toNat)
  | .nils => .nils
  | .str s => .str (s.extract lo.toNat hi.toNat)
  | _ => .any
def slcLen : SV → Int
  | .ref _ _ n => n
  | .sl _ xs => xs.length
  | .str s => s.size
  | _ => 0
def slcO (tab : Tab) (T : TypeId) (h : Heap) (lo hi : Int) : SV → Prop
  | .ref id _ n => (match (tab T).shape with | .slice e => hasTy (tab e) ∧ (tab e).size = rowK h id ∧ (hrow h id).isSome = true ∧ 0 ≤ lo ∧ lo ≤ hi ∧ hi ≤ n ∧ (lo < n ∨ lo = 0) | _ => False)
  | .sl _ xs => (match (tab T).shape with | .slice e => hasTy (tab e) ∧ 0 ≤ lo ∧ lo ≤ hi ∧ hi ≤ xs.length ∧ (∀ x ∈ xs, x.length = (tab e).size) | _ => False)
  | .str s => (match (tab T).shape with | .str => 0 ≤ lo ∧ lo ≤ hi ∧ hi ≤ s.size | _ => False)
  | _ => False
def valP (tab : Tab) (h : Heap) (g : Operand → SV) : Op → SV
  | .move x | .assign x | .nilCheck x => g x
  | .pick c a b => pickV (bOf (g c)) (g a) (g b)
  | .load T a => loadV (tab T) h (g a)
  | .binOp op _ x y _ => binV op (g x) (g y)
  | .unOp op _ x => unV op (g x)
  | .convert _ d x => convV tab d (g x)
  | .makeFunc (.func f) _ cs => .clo f (cs.toList.map g)
  | .slice _ x lo hi _ => slcV (optI g 0 lo) (optI g (slcLen (g x)) hi) (g x)
  | .fieldAddr S x f => fldAddrV (tab S) f (g x)
  | .field S x f => fldV (tab S) f (g x)
  | .indexAddr T x i => idxAddrV tab T (g x) (g i)
  | .index T x i => idxV tab T (g x) (g i)
  | .extract t i => extV i (g t)
  | .build T ps => .agg (bldV (fieldsOf (tab T)) (ps.toList.map fun p => (p.1, g p.2)) (tab T).zero)
  | .call c => lenV (g (c.args.getD 0 (.const undef)))
  | _ => .any
def notNil : SV → Prop
  | .ptr _ _ _ | .rptr _ _ _ | .int _ _ | .bool _ | .clo _ _ => True
  | _ => False
def isLen : Callee → Prop
  | .builtin .len => True
  | _ => False
def noFirst (a : Array Operand) : Prop := a.size = 0
def oblP (tab : Tab) (h : Heap) (g : Operand → SV) : Op → Prop
  | .move x | .assign x => True
  | .nilCheck x => notNil (g x)
  | .pick c a b => isBool (g c) ∧ pickO (bOf (g c)) (g a) (g b)
  | .load T a => loadO (tab T) h (g a)
  | .binOp op T x y _ => binO tab op T (g x) (g y)
  | .unOp op _ x => unO op (g x)
  | .convert s d x => convO tab s d (g x)
  | .makeFunc (.func f) first cs => noFirst first
  | .slice T x lo hi mx => mx = none ∧ optO g lo ∧ optO g hi ∧ slcO tab T h (optI g 0 lo) (optI g (slcLen (g x)) hi) (g x)
  | .fieldAddr S x f => fldAddrO (tab S) f (g x)
  | .field S x f => fldO (tab S) f (g x)
  | .indexAddr T x i => idxAddrO tab T h (g x) (g i)
  | .index T x i => idxO tab T (g x) (g i)
  | .extract t i => extO i (g t)
  | .build T ps => (match (tab T).shape with | .struct _ => True | _ => False) ∧ bldO (fieldsOf (tab T)) (tab T).size (ps.toList.map fun p => (p.1, g p.2))
  | .call c => isLen c.callee ∧ c.args.size = 1 ∧ c.argTypes.size = 1 ∧ lenO (tab (c.argTypes.getD 0 0)) (g (c.args.getD 0 (.const undef)))
  | _ => False
section sound
variable {P : Program} {tab : Tab} {ρ : Rho} {O F : Nat → Prop} {w : World} {h : Heap}
theorem run_v {s : Sem Value} {v : Value} (hs : s.run P w = .ok v w) : (do pure (.value (← s)) : Sem Next).run P w = .ok (.value v) w := by
  rw [run_bind, hs]; rfl
theorem sound_conv (hT : TabOk P tab) {src dst : TypeId} {s : SV} {v : Value} (hv : VRel ρ O F w s v) (ho : convO tab src dst s) : ∃ r, (convert src dst v).run P w = .ok r w ∧ VRel ρ O F w (convV tab dst s) r := by
  cases hv <;> simp only [convO] at ho <;> try (exact ho.elim)
  case int k n =>
    obtain ⟨h1, h2⟩ := ho
    cases hsh : (tab dst).shape <;> rw [hsh] at h2 <;> try (exact h2.elim)
    case int k' =>
      have hF := hT.ty h1
      obtain ⟨i, z, hi, _⟩ := hF.info
      have hagg := hF.agg
      unfold aggB at hagg
      obtain ⟨d, hd, _⟩ := Option.map_eq_some_iff.1 hagg
      unfold convert
      rw [run_bind, run_underlying' hd]
      simp only []
      rw [run_bind, run_underlying' (int_under hT hsh)]
      refine ⟨_, by cases d <;> rfl, ?_⟩
      simp only [convV, hsh]
      exact .int _ _
  case str s =>
    obtain ⟨h1, h2⟩ := ho
    cases hsh : (tab dst).shape <;> rw [hsh] at h2 <;> try (exact h2.elim)
    have hF := hT.ty h1
    have hagg := hF.agg
    unfold aggB at hagg
    obtain ⟨d, hd, _⟩ := Option.map_eq_some_iff.1 hagg
    unfold convert
    rw [run_bind, run_underlying' hd]
    simp only []
    rw [run_bind, run_underlying' (str_under hT hsh)]
    exact ⟨_, by cases d <;> rfl, by simp only [convV]; exact .str _⟩
theorem run_sliceBound {x : Value} {k : IntKind} {i : Int} {y : Nat} {c : BoundsCode} (hx : x = .int k i) (h0 : 0 ≤ i) (h1 : i ≤ y) : (Instr.sliceBound x y c).run P w = .ok i.toNat w := by
  subst hx
  simp only [Instr.sliceBound]
  rw [run_bind]
  simp only [asIntOf, run_pure, h0, h1, and_self, if_true]
theorem optI_val {g : Operand → SV} {a : Act} {d : Int} {x : Operand} (hi : isInt (g x)) (hr : VRel ρ O F w (g x) (a.eval x)) : ∃ k, a.eval x = .int k (iOf (g x)) := by
  generalize hs : g x = s at *
  cases s <;> simp only [isInt] at hi <;> try (exact hi.elim)
  generalize a.eval x = v at *
  cases hr
  exact ⟨_, rfl⟩
theorem run_sliceBounds {g : Operand → SV} {a : Act} {lo hi : Option Operand} {b : Bool} {len cap : Nat} (hcap : len ≤ cap) (hlo : optO g lo) (hhi : optO g hi) (hr : ∀ x, lo = some x ∨ hi = some x → VRel ρ O F w (g x) (a.eval x))
    (h0 : 0 ≤ optI g 0 lo) (h1 : optI g 0 lo ≤ optI g len hi) (h2 : optI g len hi ≤ len) :
    (Instr.sliceBounds b len cap (lo.map a.eval) (hi.map a.eval) none).run P w = .ok ((optI g 0 lo).toNat, (optI g len hi).toNat, cap) w := by
  unfold Instr.sliceBounds
  cases hi with
  | none =>
    cases lo with
    | none => simp [optI, run_bind, run_pure]
    | some x =>
      obtain ⟨k, hk⟩ := optI_val (d := 0) hlo (hr x (.inl rfl))
      simp only [Option.map_some, Option.map_none, optI, run_bind, run_pure] at *
      rw [run_sliceBound hk h0 (by omega)]
      simp
  | some y =>
    obtain ⟨k', hk'⟩ := optI_val (d := 0) hhi (hr y (.inr rfl))
    cases lo with
    | none =>
      simp only [Option.map_some, Option.map_none, optI, run_bind, run_pure] at *
      rw [run_sliceBound hk' (by omega) (by omega)]
      simp
    | some x =>
      obtain ⟨k, hk⟩ := optI_val (d := 0) hlo (hr x (.inl rfl))
      simp only [Option.map_some, Option.map_none, optI, run_bind, run_pure] at *
      rw [run_sliceBound hk' (by omega) (by omega)]
      simp only []
      rw [run_sliceBound hk h0 (by omega)]
theorem run_slice_slice {g : Operand → SV} {a : Act} {lo hi : Option Operand} {T e : TypeId} {sz : Nat} (hu : P.underlying T = some (.slice e)) (hsz : ∀ w, (sizeOf e).run P w = .ok sz w) {base : Option Addr} {len cap : Nat} (hcap : len ≤ cap) (hlo : optO g lo) (hhi : optO g hi)
    (hr : ∀ x, lo = some x ∨ hi = some x → VRel ρ O F w (g x) (a.eval x)) (h0 : 0 ≤ optI g 0 lo) (h1 : optI g 0 lo ≤ optI g len hi) (h2 : optI g len hi ≤ len) :
    (Instr.sliceAt T (.slice base len cap) (lo.map a.eval) (hi.map a.eval) none).run P w =
      .ok (.slice (if cap = (optI g 0 lo).toNat then base else base.map (·.add ((optI g 0 lo).toNat * sz))) ((optI g len hi).toNat - (optI g 0 lo).toNat) (cap - (optI g 0 lo).toNat)) w := by
  unfold Instr.sliceAt
  rw [run_bind, run_underlying' hu]
  simp only [Instr.slice]
  rw [run_bind, run_underlying' hu]
  simp only []
  rw [run_bind, run_sliceBounds hcap hlo hhi hr h0 h1 h2]
  simp only []
  rw [run_bind, hsz]
  rfl
theorem sound_slice (hT : TabOk P tab) (hs : Sat ρ O F h w) {T : TypeId} {g : Operand → SV} {a : Act} {x : Operand} {lo hi : Option Operand} (hx : VRel ρ O F w (g x) (a.eval x)) (hr : ∀ y, lo = some y ∨ hi = some y → VRel ρ O F w (g y) (a.eval y)) (hlo : optO g lo) (hhi : optO g hi)
    (ho : slcO tab T h (optI g 0 lo) (optI g (slcLen (g x)) hi) (g x)) :
    ∃ r, (Instr.sliceAt T (a.eval x) (lo.map a.eval) (hi.map a.eval) none).run P w = .ok r w ∧ VRel ρ O F w (slcV (optI g 0 lo) (optI g (slcLen (g x)) hi) (g x)) r := by
  generalize hgx : g x = s at *
  generalize a.eval x = v at *
  cases hx <;> simp only [slcO] at ho <;> try (exact ho.elim)
  case ref id off n cap ri hρ hn hc hm =>
    cases hsh : (tab T).shape <;> rw [hsh] at ho <;> try (exact ho.elim)
    case slice e =>
      obtain ⟨hty, hk, hsome, h0, h1, h2, h3⟩ := ho
      simp only [slcLen] at *
      refine ⟨_, run_slice_slice (slice_under hT hsh) (hT.ty hty).sizeOf hn hlo hhi hr h0 h1 h2, ?_⟩
      simp only [slcV]
      have hrk : ri.k = rowK h id := by
        obtain ⟨r, hr'⟩ := Option.isSome_iff_exists.1 hsome
        have hR := hs.row id r ri (hrow_some hr') hρ
        rw [hR.k, rowK, hr']
      rw [hk, ← hrk]
      generalize hl : (optI g 0 lo).toNat = l at *
      generalize hh : (optI g (n : Int) hi) = hI at *
      have e : (if cap = l then some (⟨ri.b, off * ri.k, none⟩ : Addr) else (some (⟨ri.b, off * ri.k, none⟩ : Addr)).map (·.add (l * ri.k))) = some ⟨ri.b, (off + l) * ri.k, none⟩ := by
        by_cases hcl : cap = l
        · rw [if_pos hcl]
          have : l = 0 := by omega
          rw [this, Nat.add_zero]
        · rw [if_neg hcl]
          simp only [Option.map_some]
          rw [addr_add, Nat.add_mul]
      rw [e, show hI.toNat - l = (hI - optI g 0 lo).toNat by omega]
      refine .ref id (off + l) _ _ ri hρ (by omega) ?_ (by omega)
      rw [← hc]
      congr 1
      omega
  case sl o xs ad cap k cs hk hcap hm ha hx =>
    cases hsh : (tab T).shape <;> rw [hsh] at ho <;> try (exact ho.elim)
    case slice e =>
      obtain ⟨hty, h0, h1, h2, h3⟩ := ho
      simp only [slcLen] at *
      refine ⟨_, run_slice_slice (slice_under hT hsh) (hT.ty hty).sizeOf hcap hlo hhi hr h0 h1 h2, ?_⟩
      simp only [slcV]
      generalize hl : (optI g 0 lo).toNat = l at *
      generalize hh : (optI g (xs.length : Int) hi) = hI at *
      have hlen : ((xs.drop l).take (hI - optI g 0 lo).toNat).length = hI.toNat - l := by simp; omega
      rw [← hlen]
      refine .sl o _ _ _ k (fun i j => cs (l + i) j) (fun x hx => hk x (List.mem_of_mem_drop (List.mem_of_mem_take hx))) (by rw [hlen]; omega) (by omega) (fun hp => ?_) (fun i j x y e1 e2 => ?_)
      · rw [hlen] at hp ⊢
        obtain ⟨b, off, rfl, hb, hc⟩ := ha (by omega)
        have hkk : k = (tab e).size := by
          have hm0 : xs[0]? = some xs[0] := by simp <;> omega
          rw [← hk _ (List.mem_of_getElem? hm0), h3 _ (List.mem_of_getElem? hm0)]
        rw [if_neg (by omega)]
        simp only [Option.map_some]
        refine ⟨b, off + l * k, by rw [addr_add, hkk], hb, fun i j hi hj => ?_⟩
        have := hc (l + i) j (by omega) hj
        rwa [Nat.add_mul, ← Nat.add_assoc] at this
      · have hi : i < (hI - optI g 0 lo).toNat := by
          have := (List.getElem?_eq_some_iff.1 e1).1
          simp at this; omega
        rw [List.getElem?_take_of_lt hi, List.getElem?_drop] at e1
        exact hx _ _ _ _ e1 e2
  case str s =>
    cases hsh : (tab T).shape <;> rw [hsh] at ho <;> try (exact ho.elim)
    obtain ⟨h0, h1, h2⟩ := ho
    simp only [slcLen] at *
    unfold Instr.sliceAt
    rw [run_bind, run_underlying' (str_under hT hsh)]
    simp only [Instr.slice]
    rw [run_bind, run_underlying' (str_under hT hsh)]
    simp only [Option.isSome_none, Bool.false_eq_true, if_false]
    rw [run_bind, run_sliceBounds (Nat.le_refl _) hlo hhi hr h0 h1 h2]
    exact ⟨_, rfl, by simp only [slcV]; exact .str _⟩
/-- Every operation that makes nothing. -/
theorem pure_sound (hT : TabOk P tab) (hs : Sat ρ O F h w) {g : Operand → SV} {a : Act} (o : Oper) (hr : ∀ x ∈ o.op.operands, VRel ρ O F w (g x) (a.eval x)) (ho : oblP tab h g o.op) :
    ∃ v, (execOp a.eval o).run P w = .ok (.value v) w ∧ VRel ρ O F w (valP tab h g o.op) v := by
  obtain ⟨dst, op, ty, pos, after, guard⟩ := o
  simp only at hr ho ⊢
  cases op <;> simp only [oblP] at ho <;> try (exact ho.elim)
  case move x => exact ⟨_, rfl, hr x (by simp [Op.operands])⟩
  case assign x => exact ⟨_, rfl, hr x (by simp [Op.operands])⟩
  case nilCheck x =>
    have h1 := hr x (by simp [Op.operands])
    simp only [execOp, valP]
    generalize a.eval x = v at *
    generalize g x = s at *
    cases h1 <;> simp only [notNil] at ho <;> first | exact ho.elim | exact ⟨_, rfl, by constructor <;> assumption⟩ | skip
    all_goals exact ⟨_, rfl, by constructor <;> assumption⟩
  case pick c x y =>
    obtain ⟨h1, h2⟩ := ho
    have hc := hr c (by simp [Op.operands])
    have hx := hr x (by simp [Op.operands])
    have hy := hr y (by simp [Op.operands])
    simp only [execOp, valP]
    generalize hgc : g c = sc at *
    cases sc <;> simp only [isBool] at h1 <;> try (exact h1.elim)
    case bool b =>
      generalize a.eval c = vc at *
      cases hc
      simp only [asBool]
      exact ⟨_, rfl, sound_pick hx hy h2⟩
  case load T x =>
    obtain ⟨r, h1, h2⟩ := sound_load hT hs (hr x (by simp [Op.operands])) ho
    exact ⟨r, by simp only [execOp]; exact run_v h1, h2⟩
  case binOp op T x y U =>
    obtain ⟨r, h1, h2⟩ := sound_bin hT (x := x) (y := y) (hr x (by simp [Op.operands])) (hr y (by simp [Op.operands])) ho
    exact ⟨r, by simp only [execOp]; exact run_v h1, h2⟩
  case unOp op T x =>
    have hx := hr x (by simp [Op.operands])
    simp only [execOp, valP]
    generalize a.eval x = v at *
    generalize g x = s at *
    cases hx <;> simp only [unO] at ho <;> try (exact ho.elim)
    all_goals (cases op <;> simp only [] at ho <;> try (exact ho.elim))
    all_goals exact ⟨_, rfl, by constructor⟩
  case convert s d x =>
    obtain ⟨r, h1, h2⟩ := sound_conv hT (hr x (by simp [Op.operands])) ho
    exact ⟨r, by simp only [execOp]; exact run_v h1, h2⟩
  case makeFunc fn first cs =>
    cases fn <;> simp only [] at ho <;> try (exact ho.elim)
    case func f =>
      have hf : first = #[] := Array.eq_empty_of_size_eq_zero ho
      subst hf
      refine ⟨.func (.func f) #[] (cs.map a.eval), by simp [execOp, Instr.makeFunc] <;> rfl, ?_⟩
      simp only [valP]
      refine .clo f _ _ (by simp) fun i c v h1 h2 => ?_
      simp only [List.getElem?_map, Array.getElem?_map] at h1 h2
      obtain ⟨x, hx1, rfl⟩ := Option.map_eq_some_iff.1 h1
      have hx2 : cs[i]? = some x := by simpa using hx1
      rw [hx2] at h2
      simp at h2
      subst h2
      exact hr x (by simp [Op.operands, Array.mem_of_getElem? hx2])
  case slice T x lo hi mx =>
    obtain ⟨rfl, h1, h2, h3⟩ := ho
    obtain ⟨r, h4, h5⟩ := sound_slice hT hs (hr x (by simp [Op.operands])) (fun y hy => hr y (by rcases hy with rfl | rfl <;> simp [Op.operands])) h1 h2 h3
    exact ⟨r, by simp only [execOp]; exact run_v h4, h5⟩
  case fieldAddr S x f =>
    obtain ⟨r, h1, h2⟩ := sound_fldAddr hT (hr x (by simp [Op.operands])) ho
    exact ⟨r, by simp only [execOp]; exact run_v h1, h2⟩
  case field S x f =>
    obtain ⟨r, h1, h2⟩ := sound_fld hT (hr x (by simp [Op.operands])) ho
    exact ⟨r, by simp only [execOp]; exact run_v h1, h2⟩
  case indexAddr T x i =>
    obtain ⟨r, h1, h2⟩ := sound_idxAddr hT hs (hr x (by simp [Op.operands])) (hr i (by simp [Op.operands])) ho
    exact ⟨r, by simp only [execOp]; exact run_v h1, h2⟩
  case index T x i =>
    obtain ⟨r, h1, h2⟩ := sound_idx hT (hr x (by simp [Op.operands])) (hr i (by simp [Op.operands])) ho
    exact ⟨r, by simp only [execOp]; exact run_v h1, h2⟩
  case extract t i =>
    have hx := hr t (by simp [Op.operands])
    simp only [execOp, valP]
    generalize a.eval t = v at *
    generalize g t = s at *
    cases hx <;> simp only [extO] at ho <;> try (exact ho.elim)
    case tup cs vs hl hh =>
      have e : vs[i]? = some (vs[i]'(by omega)) := by simp <;> omega
      simp only [Instr.extract, e]
      exact ⟨_, rfl, hh i _ _ (rel_at ho) e⟩
  case build T ps =>
    obtain ⟨h1, h2⟩ := ho
    have hsh : ∃ fs, (tab T).shape = .struct fs := by
      cases e : (tab T).shape <;> rw [e] at h1 <;> first | exact h1.elim | exact ⟨_, rfl⟩
    obtain ⟨r, h3, h4⟩ := sound_build (ρ := ρ) (O := O) (F := F) (w := w) hT (T := T) (ps := ps.toList.map fun p => (p.1, g p.2)) (qs := ps.map fun p => (p.1, a.eval p.2)) hsh (by simp) (fun i p q e1 e2 => by
      simp only [List.getElem?_map, Array.getElem?_map] at e1 e2
      obtain ⟨x, hx1, rfl⟩ := Option.map_eq_some_iff.1 e1
      have hx2 : ps[i]? = some x := by simpa using hx1
      rw [hx2] at e2
      simp at e2
      subst e2
      refine ⟨rfl, hr x.2 ?_⟩
      simp only [Op.operands]
      simp only [List.mem_toArray, List.mem_map]
      exact ⟨x, by simpa using Array.mem_of_getElem? hx2, rfl⟩) h2
    exact ⟨r, by simp only [execOp]; exact run_v h3, h4⟩
  case call c =>
    obtain ⟨callee, args, argTypes⟩ := c
    obtain ⟨h1, h2, h3, h4⟩ := ho
    simp only at h1 h2 h3 h4
    cases callee <;> simp only [isLen] at h1 <;> try (exact h1.elim)
    case builtin b =>
      cases b <;> simp only [] at h1 <;> try (exact h1.elim)
      obtain ⟨x, rfl⟩ : ∃ x, args = #[x] := Array.size_eq_one_iff.1 h2
      obtain ⟨t, rfl⟩ : ∃ x, argTypes = #[x] := Array.size_eq_one_iff.1 h3
      have hx := hr x (by simp [Op.operands, Call.operands])
      have h4' : lenO (tab t) (g x) := by simpa using h4
      obtain ⟨r, h5, h6⟩ := sound_len hT (T' := ty) hx h4'
      refine ⟨r, ?_, by simpa [valP] using h6⟩
      simp only [execOp, resolve]
      rw [run_bind]
      simp only [run_pure]
      simp only [invoke, builtin]
      simpa using run_v h5
end sound
end Go.IL

set_option linter.unusedVariables false
set_option linter.unusedSimpArgs false
namespace Go.IL
open Go.RowKit
def unc : SV → SV
  | .cnd _ v => v
  | s => s
def cndO (c : Bool) : SV → Prop
  | .cnd g _ => c = true → g = true
  | _ => True
def allO (p : Operand → Prop) : List Operand → Prop
  | [] => True
  | x :: l => p x ∧ allO p l
theorem allO_mem {p : Operand → Prop} : ∀ {l : List Operand}, allO p l → ∀ x ∈ l, p x
  | _ :: _, h, x, hx => by
    rcases List.mem_cons.1 hx with rfl | hx
    · exact h.1
    · exact allO_mem h.2 x hx
theorem unc_rel {ρ : Rho} {O F : Nat → Prop} {w : World} {c : Bool} {s : SV} {v : Value} (hc : c = true) (ho : cndO c s) (h : VRel ρ O F w s v) : VRel ρ O F w (unc s) v := by
  cases s <;> first | exact h | skip
  case cnd g s => cases h with | cnd _ _ _ h1 _ => exact h1 (ho hc)
section
variable {P : Program} {tab : Tab} {ops : Array Oper}
theorem opG_pure (hT : TabOk P tab) {o : Oper} {tm : TM} {h : Heap} (hg : o.guard = none) (ho : oblP tab h (opnd tm) o.op) : OpG P ops o tm h (valP tab h (opnd tm) o.op) [] :=
  OpG.of_V hg fun _ ρ O F w a hs hr => pure_sound hT hs o hr ho
theorem opG_pureG (hT : TabOk P tab) {o : Oper} {tm : TM} {h : Heap} {j d : Nat} {want c : Bool} (hg : o.guard = some (j, want)) (hd : (ops[j]?).bind (·.dst) = some d) (hc : gcond (tm.get d) want = some c)
    (hcnd : allO (fun x => cndO c (opnd tm x)) o.op.operands.toList) (ho : c = true → oblP tab h (fun x => unc (opnd tm x)) o.op) : OpG P ops o tm h (.cnd c (valP tab h (fun x => unc (opnd tm x)) o.op)) [] :=
  OpG.of_VG hg hd hc fun hct ρ O F w a hs hr => pure_sound hT hs o (fun x hx => unc_rel hct (allO_mem hcnd x (by simpa using hx)) (hr x hx)) (ho hct)
/-- A choice under a guard: of what is chosen from, the one that is not taken need not be there. -/
def pkV (x a b : SV) : SV := match unc a, unc b with | .bool p, .bool q => .bool (bif bOf (unc x) then p else q) | _, _ => .any
def pkO (c : Bool) (x a b : SV) : Prop := cndO c x ∧ isBool (unc x) ∧ cndO (c && bOf (unc x)) a ∧ cndO (c && !bOf (unc x)) b ∧ (match unc a, unc b with | .bool _, .bool _ => True | _, _ => False)
theorem opG_pickG {x p q : Operand} {dst : Option Nat} {ty : TypeId} {pos : String} {after : Array Edge} {tm : TM} {h : Heap} {j d : Nat} {want c : Bool} (hd : (ops[j]?).bind (·.dst) = some d) (hc : gcond (tm.get d) want = some c)
    (ho : pkO c (opnd tm x) (opnd tm p) (opnd tm q)) : OpG P ops ⟨dst, .pick x p q, ty, pos, after, some (j, want)⟩ tm h (.cnd c (pkV (opnd tm x) (opnd tm p) (opnd tm q))) [] := by
  obtain ⟨h1, h2, h3, h4, h5⟩ := ho
  refine OpG.of_VG rfl hd hc fun hct ρ O F w a hs hr => ?_
  have hx := unc_rel hct h1 (hr x (by simp [Op.operands]))
  have hp := hr p (by simp [Op.operands])
  have hq := hr q (by simp [Op.operands])
  unfold pkV
  simp only [execOp]
  generalize hgx : unc (opnd tm x) = sx at *
  cases sx <;> simp only [isBool] at h2 <;> try (exact h2.elim)
  case bool t =>
    generalize a.eval x = vx at *
    cases hx
    simp only [asBool]
    generalize hgp : unc (opnd tm p) = sp at *
    generalize hgq : unc (opnd tm q) = sq at *
    cases sp <;> try (exact h5.elim)
    case bool bp =>
      cases sq <;> try (exact h5.elim)
      case bool bq =>
        cases t with
        | true =>
          have := unc_rel (by rw [hct]; rfl) h3 hp
          rw [hgp] at this
          exact ⟨_, rfl, this⟩
        | false =>
          have := unc_rel (by rw [hct]; rfl) h4 hq
          rw [hgq] at this
          exact ⟨_, rfl, this⟩
/-! ### New blocks -/
theorem World.alloc_get (w : World) (o : Obj) : (w.alloc o).heap[w.heap.size]? = some o := by
  show (w.heap.push o)[w.heap.size]? = some o
  simp
theorem World.alloc_size (w : World) (o : Obj) : (w.alloc o).heap.size = w.heap.size + 1 := by
  show (w.heap.push o).size = _
  simp
theorem sat_alloc {ρ : Rho} {O F : Nat → Prop} {h : Heap} {w : World} (hs : Sat ρ O F h w) (hfree : ρ h.length = none) {r : Row} {arr : Array Value} (hw : ∀ x ∈ r.xs, x.length = r.k) (hl : r.xs.length * r.k ≤ arr.size) (he : r.elem < softK)
    (hc : ∀ (i j : Nat) (x : List SV) (y : SV), r.xs[i]? = some x → x[j]? = some y → ∃ v, arr[i * r.k + j]? = some v ∧ VRel ρ O F w y v) :
    Ext ρ F w (fun id => if id = h.length then some ⟨w.heap.size, r.k, arr.size⟩ else ρ id) F (w.alloc (.cells arr r.elem)) ∧
    Sat (fun id => if id = h.length then some ⟨w.heap.size, r.k, arr.size⟩ else ρ id) O F (h ++ [some r]) (w.alloc (.cells arr r.elem)) := by
  have hx : Ext ρ F w (fun id => if id = h.length then some ⟨w.heap.size, r.k, arr.size⟩ else ρ id) F (w.alloc (.cells arr r.elem)) := by
    refine ⟨fun id ri e => ?_, fun id ri e e' => ?_, fun _ e => e, fun _ e e' => absurd e e', (Below.refl _ _).alloc (Nat.le_refl _) _⟩
    · rw [if_neg]
      · exact e
      · rintro rfl; rw [hfree] at e; cases e
    · by_cases hid : id = h.length
      · simp only [hid, if_true] at e; cases e; exact Nat.le_refl _
      · simp only [hid, if_false] at e; rw [e'] at e; cases e
  refine ⟨hx, ⟨fun id r' ri e1 e2 => ?_, fun id id' r1 r2 ri ri' e1 e1' e2 e2' hb => ?_, fun b hb => by have := hs.lt b hb; rw [World.alloc_size]; omega⟩⟩
  · by_cases hid : id = h.length
    · subst hid
      simp only [if_true] at e2
      cases e2
      rw [List.getElem?_append_right (Nat.le_refl _), Nat.sub_self] at e1
      simp at e1; subst e1
      refine ⟨rfl, fun ho => by have := hs.lt _ (.inl ho); simp at this, fun hf => by have := hs.lt _ (.inr hf); simp at this, hw, arr, by rw [tyE_hard he, frE_hard he]; exact World.alloc_get w _, rfl, hl, fun i j x y e1 e2 => ?_⟩
      obtain ⟨v, h1, h2⟩ := hc i j x y e1 e2
      exact ⟨v, h1, h2.ext hs.lt hx⟩
    · simp only [hid, if_false] at e2
      have e3 : h[id]? = some (some r') := by
        rcases Nat.lt_trichotomy id h.length with h' | h' | h'
        · rw [List.getElem?_append_left h'] at e1; exact e1
        · exact absurd h' hid
        · rw [List.getElem?_eq_none (by simp; omega)] at e1; cases e1
      exact (hs.row id r' ri e3 e2).ext hs.lt hx
  · have bl : ∀ id r ri, h[id]? = some (some r) → ρ id = some ri → ri.b < w.heap.size := fun id r ri e1 e2 => (hs.row id r ri e1 e2).lt
    have old2 : ∀ (id : Nat) (r1 : Row), id ≠ h.length → (h ++ [some r])[id]? = some (some r1) → h[id]? = some (some r1) := by
      intro id r1 hid e1
      rcases Nat.lt_trichotomy id h.length with h' | h' | h'
      · rw [List.getElem?_append_left h'] at e1; exact e1
      · exact absurd h' hid
      · rw [List.getElem?_eq_none (by simp; omega)] at e1; cases e1
    by_cases h1 : id = h.length <;> by_cases h2 : id' = h.length
    · rw [h1, h2]
    · simp only [h1, if_true] at e2; cases e2
      simp only [h2, if_false] at e2'
      have := bl id' r2 ri' (old2 id' r2 h2 e1') e2'
      simp only at hb; omega
    · simp only [h2, if_true] at e2'; cases e2'
      simp only [h1, if_false] at e2
      have := bl id r1 ri (old2 id r1 h1 e1) e2
      simp only at hb; omega
    · simp only [h1, if_false] at e2; simp only [h2, if_false] at e2'
      exact hs.inj id id' r1 r2 ri ri' (old2 id r1 h1 e1) (old2 id' r2 h2 e1') e2 e2' hb
/-- What an operation does to memory that it may not change, its operands being known. -/
def OpB (P : Program) (o : Oper) (g : Operand → SV) (h : Heap) (sv : SV) (ext : Heap) : Prop :=
  ∀ (ρ : Rho) (O F : Nat → Prop) (w : World) (a : Act), Sat ρ O F h w → (∀ x ∈ o.op.operands, VRel ρ O F w (g x) (a.eval x)) → (∀ id, h.length ≤ id → id < h.length + ext.length → ρ id = none) →
    ∀ (next : Act → World → Prop) (Q : Exit → Act → World → Prop),
      (∀ v ρ' F' w', Ext ρ F w ρ' F' w' → (∀ id, ρ' id ≠ ρ id → h.length ≤ id ∧ id < h.length + ext.length) → Sat ρ' O F' (h ++ ext) w' → VRel ρ' O F' w' sv v → next (a.put o.dst v) w') → o.wp P a w next Q
theorem OpG.of_B {o : Oper} {tm : TM} {h : Heap} {sv : SV} {ext : Heap} (hg : o.guard = none) (hb : OpB P o (opnd tm) h sv ext) : OpG P ops o tm h sv ext := by
  intro ρ O F w a hs hl hfree next Q hn
  rw [if_pos (by simp [Region.wanted, hg])]
  exact hb ρ O F w a hs (operands_rel hl) hfree next Q hn
theorem gcond_eq {o : Oper} {j d : Nat} {want c : Bool} {tm : TM} {ρ : Rho} {O F : Nat → Prop} {w : World} {a : Act} (hg : o.guard = some (j, want)) (hd : (ops[j]?).bind (·.dst) = some d) (hc : gcond (tm.get d) want = some c)
    (hl : LRel ρ O F w (o.looksAt ops) tm a) : Region.wanted o (yielded ops a.tmps) = c := by
  rcases Nat.lt_or_ge d a.tmps.size with h' | hkey
  · exact gcond_wanted hg hd hc hl h'
  · have hm : d ∈ o.looksAt ops := List.mem_append_right _ (by simp [hg, hd])
    have hvd := hl d hm
    have e0 : a.tmps.getD d undef = undef := by simp [Array.getElem?_eq_none hkey]
    have hw : Region.wanted o (yielded ops a.tmps) = false := by
      unfold Region.wanted
      simp only [hg, yielded, hd, Option.bind_some, Array.getElem?_eq_none hkey]
      rfl
    rw [hw]
    rw [e0] at hvd
    generalize tm.get d = s at *
    cases s <;> simp only [gcond] at hc <;> try (cases hc; done)
    case bool b => cases hvd
    case cnd g s =>
      cases s <;> simp only at hc <;> try (cases hc; done)
      case bool b =>
        cases hc
        cases hvd with
        | cnd _ _ _ h1 h0 =>
          cases g with
          | true => have h2 := h1 rfl; cases h2
          | false => rfl
theorem OpG.of_BG {o : Oper} {tm : TM} {h : Heap} {sv : SV} {ext : Heap} {j d : Nat} {want c : Bool} (hg : o.guard = some (j, want)) (hd : (ops[j]?).bind (·.dst) = some d) (hc : gcond (tm.get d) want = some c)
    (hcnd : allO (fun x => cndO c (opnd tm x)) o.op.operands.toList) (hb : c = true → OpB P o (fun x => unc (opnd tm x)) h sv ext) : OpG P ops o tm h (.cnd c sv) ext := by
  intro ρ O F w a hs hl hfree next Q hn
  rw [gcond_eq hg hd hc hl]
  cases c with
  | true =>
    rw [if_pos rfl]
    exact hb rfl ρ O F w a hs (fun x hx => unc_rel rfl (allO_mem hcnd x (by simpa using hx)) (operands_rel hl x hx)) hfree next Q
      (fun v ρ' F' w' h1 h2 h3 h4 => hn v ρ' F' w' h1 h2 h3 (.cnd _ _ _ (fun _ => h4) (fun e => by cases e)))
  | false =>
    rw [if_neg (by simp)]
    refine hn undef ρ F w (Ext.refl _ _ _) (fun id h => absurd rfl h) ⟨fun id r ri e1 e2 => ?_, fun id id' r r' ri ri' e1 e1' e2 e2' hb => ?_, hs.lt⟩ (.cnd _ _ _ (fun e => by cases e) (fun _ => rfl))
    · have hid : id < h.length := by
        rcases Nat.lt_or_ge id h.length with h' | h'
        · exact h'
        · have := (List.getElem?_eq_some_iff.1 e1).1
          rw [List.length_append] at this
          rw [hfree id h' this] at e2; cases e2
      rw [List.getElem?_append_left hid] at e1
      exact hs.row id r ri e1 e2
    · have key : ∀ id r ri, (h ++ ext)[id]? = some (some r) → ρ id = some ri → h[id]? = some (some r) := fun id r ri e1 e2 => by
        have hid : id < h.length := by
          rcases Nat.lt_or_ge id h.length with h' | h'
          · exact h'
          · have := (List.getElem?_eq_some_iff.1 e1).1
            rw [List.length_append] at this
            rw [hfree id h' this] at e2; cases e2
        rw [List.getElem?_append_left hid] at e1
        exact e1
      exact hs.inj id id' r r' ri ri' (key id r ri e1 e2) (key id' r' ri' e1' e2') e2 e2' hb
/-- An operation that makes one row. -/
theorem opB_new {o : Oper} {g : Operand → SV} {h : Heap} {sv : SV} {r : Row} (he : r.elem < softK) (hw : ∀ x ∈ r.xs, x.length = r.k)
    (hrun : ∀ (ρ : Rho) (O F : Nat → Prop) (w : World) (a : Act), Sat ρ O F h w → (∀ x ∈ o.op.operands, VRel ρ O F w (g x) (a.eval x)) →
      ∃ arr v, (execOp a.eval o).run P w = .ok (.value v) (w.alloc (.cells arr r.elem)) ∧ r.xs.length * r.k ≤ arr.size ∧
        (∀ (i j : Nat) (x : List SV) (y : SV), r.xs[i]? = some x → x[j]? = some y → ∃ v, arr[i * r.k + j]? = some v ∧ VRel ρ O F w y v) ∧
        ∀ ρ' F' w', ρ' h.length = some ⟨w.heap.size, r.k, arr.size⟩ → VRel ρ' O F' w' sv v) : OpB P o g h sv [some r] := by
  intro ρ O F w a hs hr hfree next Q hn
  obtain ⟨arr, v, h1, h2, h3, h4⟩ := hrun ρ O F w a hs hr
  obtain ⟨hx, hs'⟩ := sat_alloc hs (hfree _ (Nat.le_refl _) (by simp)) hw h2 he h3
  refine Oper.wp_value h1 (hn v _ F _ hx (fun id e => ?_) hs' (h4 _ _ _ (by simp)))
  by_cases hid : id = h.length
  · simp; omega
  · simp only [hid, if_false] at e; exact absurd rfl e
theorem run_newRow {w : World} {e : TypeId} {cells : Array Value} : (newRow e cells).run P w = .ok ⟨w.heap.size, 0, none⟩ (w.alloc (.cells cells e)) := by
  unfold newRow
  rw [run_bind]
  rfl
theorem crel_cells {ρ : Rho} {O F : Nat → Prop} {w : World} {l : List SV} {arr : Array Value} {k : Nat} (hc : CRel ρ O F w l arr) (i j : Nat) (x : List SV) (y : SV) (e1 : [l][i]? = some x) (e2 : x[j]? = some y) : ∃ v, arr[i * k + j]? = some v ∧ VRel ρ O F w y v := by
  cases i with
  | zero =>
    simp at e1; subst e1
    have hj : j < arr.size := by rw [← hc.1]; exact (List.getElem?_eq_some_iff.1 e2).1
    exact ⟨arr[j], by simp [hj], hc.2 j y _ e2 (by simp [hj])⟩
  | succ i => simp at e1
theorem opB_alloc (hT : TabOk P tab) {dst : Option Nat} {T ty : TypeId} {pos : String} {after : Array Edge} {guard : Option (Nat × Bool)} {g : Operand → SV} {h : Heap} (hty : hasTy (tab T)) :
    OpB P ⟨dst, .alloc T, ty, pos, after, guard⟩ g h (.ptr h.length 0 0) [some ⟨(tab T).size, T, [(tab T).zero]⟩] := by
  have hF := hT.ty hty
  refine opB_new hF.lt (by simp [hF.zlen]) fun ρ O F w a hs hr => ?_
  obtain ⟨z, hz, hzr⟩ := hF.zeroValue
  have hc : CRel ρ O F w (tab T).zero z.cells := zero_rel hz
  refine ⟨z.cells, .pointer (some ⟨w.heap.size, 0, none⟩), ?_, by rw [← hc.1, hF.zlen]; simp, crel_cells hc, fun ρ' F' w' e => ?_⟩
  · simp only [execOp, Instr.alloc]
    rw [run_bind, run_bind, hzr]
    simp only []
    rw [run_bind]
    simp only [newVar, run_newRow]
    rfl
  · have := VRel.ptr (O := O) (F := F') (w := w') h.length 0 0 _ e
    simpa using this
theorem opB_box (hT : TabOk P tab) {dst : Option Nat} {T ty : TypeId} {pos : String} {after : Array Edge} {guard : Option (Nat × Bool)} {g : Operand → SV} {h : Heap} {x : Operand} (hty : hasTy (tab T)) (hok : cellsOk (g x) = true) :
    OpB P ⟨dst, .box T x, ty, pos, after, guard⟩ g h (.ptr h.length 0 0) [some ⟨(g x).cells.length, T, [(g x).cells]⟩] := by
  refine opB_new (hT.ty hty).lt (by simp) fun ρ O F w a hs hr => ?_
  have hx := hr x (by simp [Op.operands])
  obtain ⟨h1, h2⟩ := cells_rel hx hok
  have hc : CRel ρ O F w (g x).cells (a.eval x).cells := ⟨h1, fun i c u e1 e2 => (h2 i c u e1 e2).1⟩
  refine ⟨(a.eval x).cells, .pointer (some ⟨w.heap.size, 0, none⟩), ?_, by rw [← h1]; simp, crel_cells hc, fun ρ' F' w' e => ?_⟩
  · simp only [execOp, Instr.box]
    rw [run_bind, run_bind]
    simp only [newVar, run_newRow]
    rfl
  · have := VRel.ptr (O := O) (F := F') (w := w') h.length 0 0 _ e
    simpa using this
theorem opB_makeSlice (hT : TabOk P tab) {dst : Option Nat} {T e ty : TypeId} {pos : String} {after : Array Edge} {guard : Option (Nat × Bool)} {g : Operand → SV} {h : Heap} {x : Operand} {k : IntKind} {n : Nat} (hx : g x = .int k n) (hsh : (tab T).shape = .slice e) (hty : hasTy (tab e))
    (hb : (tab e).bytes * n ≤ 281474976710656) (hn : n ≤ 9223372036854775807) :
    OpB P ⟨dst, .makeSlice T x x, ty, pos, after, guard⟩ g h (.ref h.length 0 n) [some ⟨(tab e).size, e, List.replicate n (tab e).zero⟩] := by
  have hF := hT.ty hty
  refine opB_new hF.lt (fun x hx => by rw [List.eq_of_mem_replicate hx, hF.zlen]) fun ρ O F w a hs hr => ?_
  have h1 := hr x (by simp [Op.operands])
  rw [hx] at h1
  obtain ⟨i, z, hi, hi1, hi2, hi3, hi4⟩ := hF.info
  generalize hv : a.eval x = v at h1
  cases h1
  have hc : CRel ρ O F w (tab e).zero z.cells := zero_rel hi4
  have hrun := run_make (P := P) w T e i z (slice_under hT hsh) hi hi3 k k n n (by omega) (Int.le_refl _) (by rw [hi2, ← Int.natCast_mul]; omega) (by omega)
  have hsz : (madeCells z.cells (n * i.size)).size = n * i.size := size_madeCells _ _
  refine ⟨madeCells z.cells (n * i.size), .slice (some ⟨w.heap.size, 0, none⟩) n n, ?_, by rw [hsz, hi1]; simp, fun i' j x' y e1 e2 => ?_, fun ρ' F' w' e' => ?_⟩
  · simp only [execOp, hv]
    rw [run_bind, hrun]
    rfl
  · have hi' : i' < n := by have := (List.getElem?_eq_some_iff.1 e1).1; simpa using this
    have : x' = (tab e).zero := List.eq_of_mem_replicate (List.mem_of_getElem? e1)
    subst this
    have hj : j < (tab e).size := by rw [← hF.zlen]; exact (List.getElem?_eq_some_iff.1 e2).1
    have hzs : z.cells.size = (tab e).size := by rw [← hc.1, hF.zlen]
    have hlt : i' * (tab e).size + j < n * (tab e).size := by
      have : (i' + 1) * (tab e).size ≤ n * (tab e).size := Nat.mul_le_mul_right _ hi'
      rw [Nat.add_mul] at this; omega
    have hmod : (i' * (tab e).size + j) % z.cells.size = j := by rw [hzs, Nat.mul_comm, Nat.mul_add_mod, Nat.mod_eq_of_lt hj]
    refine ⟨z.cells[j]!, ?_, hc.2 j y _ e2 (by simp [hzs, hj])⟩
    rw [hi1]
    simp [madeCells, hlt, hmod]
  · have := VRel.ref (O := O) (F := F') (w := w') h.length 0 n n _ e' (Nat.le_refl _) (by simp only [Nat.zero_add]; rw [hsz, hi1]) hn
    simpa using this
end
end Go.IL

set_option linter.unusedVariables false
set_option linter.unusedSimpArgs false
namespace Go.IL
open Go.RowKit
section
variable {P : Program} {tab : Tab} {ops : Array Oper}
theorem fill_seq (size : Nat) : ∀ (qs : List (Nat × Value)) (i0 : Nat) (arr : Array Value), (∀ (p : Nat) (q : Nat × Value), qs[p]? = some q → q.1 = i0 + p ∧ q.2.cells.size = size) → (i0 + qs.length) * size ≤ arr.size →
    ∃ r, Instr.fill (fun i => some (i * size, size)) arr qs = some r ∧ r.size = arr.size ∧ (∀ t, t < i0 * size → r[t]? = arr[t]?) ∧
      ∀ (p : Nat) (q : Nat × Value) (j : Nat), qs[p]? = some q → j < size → r[(i0 + p) * size + j]? = q.2.cells[j]?
  | [], i0, arr, _, _ => ⟨arr, rfl, rfl, fun _ _ => rfl, fun p q j h => by simp at h⟩
  | (i, v) :: qs, i0, arr, h, hs => by
    obtain ⟨e1, e2⟩ := h 0 _ rfl
    simp only [Nat.add_zero] at e1 e2
    subst e1
    have hsz : (v.cells.zipIdx.foldl (fun cs (x : Value × Nat) => cs.setIfInBounds (i * size + x.2) x.1) arr).size = arr.size := by
      rw [← Array.foldl_toList]; exact foldl_set_size _ _ _
    have hget : ∀ t, (v.cells.zipIdx.foldl (fun cs (x : Value × Nat) => cs.setIfInBounds (i * size + x.2) x.1) arr)[t]? = if i * size ≤ t ∧ t < i * size + size ∧ t < arr.size then v.cells[t - i * size]? else arr[t]? := fun t => by
      rw [← Array.foldl_toList, Array.toList_zipIdx, foldl_set]
      simp [e2]
    simp only [List.length_cons] at hs
    have hle : i * size + size ≤ arr.size := by
      have : (i + 1) * size ≤ (i + (qs.length + 1)) * size := Nat.mul_le_mul_right _ (by omega)
      rw [Nat.add_mul] at this; omega
    obtain ⟨r, h1, h2, h3, h4⟩ := fill_seq size qs (i + 1) (v.cells.zipIdx.foldl (fun cs (x : Value × Nat) => cs.setIfInBounds (i * size + x.2) x.1) arr)
      (fun p q e => by have := h (p + 1) q (by simpa using e); exact ⟨by omega, this.2⟩) (by rw [hsz, show i + 1 + qs.length = i + (qs.length + 1) by omega]; exact hs)
    have hs1 : (i + 1) * size = i * size + size := by rw [Nat.add_mul, Nat.one_mul]
    refine ⟨r, ?_, by rw [h2, hsz], fun t ht => ?_, fun p q j e hj => ?_⟩
    · simp only [Instr.fill]
      rw [if_neg (by simp only [Bool.or_eq_true, decide_eq_true_eq, bne_iff_ne, ne_eq]; omega)]
      exact h1
    · rw [h3 t (by omega), hget, if_neg (by omega)]
    · cases p with
      | zero =>
        simp at e; subst e
        rw [Nat.add_zero, h3 _ (by omega), hget, if_pos (by omega)]
        simp
      | succ p =>
        have := h4 p q j (by simpa using e) hj
        rw [← this, show i + (p + 1) = i + 1 + p by omega]
def bsO (n k : Nat) : Nat → List (Nat × SV) → Prop
  | i, [] => i = n
  | i, (j, s) :: r => j = i ∧ s.cells.length = k ∧ cellsOk s = true ∧ bsO n k (i + 1) r
theorem bsO_spec {n k : Nat} : ∀ {i : Nat} {ps : List (Nat × SV)}, bsO n k i ps → i + ps.length = n ∧ ∀ (p : Nat) (q : Nat × SV), ps[p]? = some q → q.1 = i + p ∧ q.2.cells.length = k ∧ cellsOk q.2 = true
  | i, [], h => ⟨by simpa [bsO] using h, fun p q e => by simp at e⟩
  | i, (j, s) :: r, ⟨h1, h2, h3, h4⟩ => by
    obtain ⟨h5, h6⟩ := bsO_spec h4
    refine ⟨by simp; omega, fun p q e => ?_⟩
    cases p with
    | zero => simp at e; subst e; exact ⟨by simpa using h1, h2, h3⟩
    | succ p => have := h6 p q (by simpa using e); exact ⟨by omega, this.2⟩
theorem opB_buildSlice (hT : TabOk P tab) {dst : Option Nat} {T e ty : TypeId} {pos : String} {after : Array Edge} {guard : Option (Nat × Bool)} {g : Operand → SV} {h : Heap} {n : Nat} {parts : Array (Nat × Operand)} (hsh : (tab T).shape = .slice e) (hty : hasTy (tab e))
    (hz : n * (tab e).size ≤ 16777216) (hnn : n ≤ 9223372036854775807) (hps : bsO n (tab e).size 0 (parts.toList.map fun p => (p.1, g p.2))) :
    OpB P ⟨dst, .buildSlice T n parts, ty, pos, after, guard⟩ g h (.ref h.length 0 n) [some ⟨(tab e).size, e, (parts.toList.map fun p => (g p.2).cells)⟩] := by
  have hF := hT.ty hty
  obtain ⟨hn, hp⟩ := bsO_spec hps
  simp only [List.length_map, Array.length_toList, Nat.zero_add] at hn
  refine opB_new (hT.ty hty).lt (fun x hx => ?_) fun ρ O F w a hs hr => ?_
  · obtain ⟨p, hp1, rfl⟩ := List.mem_map.1 hx
    obtain ⟨i, hi⟩ := List.mem_iff_getElem?.1 hp1
    exact (hp i (p.1, g p.2) (by simp only [List.getElem?_map, hi]; rfl)).2.1
  · obtain ⟨inf, z, hi, hi1, hi2, hi3, hi4⟩ := hF.info
    have hcz : CRel ρ O F w (tab e).zero z.cells := zero_rel hi4
    have hval : ∀ (p : Nat) (q : Nat × Operand), parts[p]? = some q → q.1 = p ∧ CRel ρ O F w (g q.2).cells (a.eval q.2).cells ∧ (a.eval q.2).cells.size = (tab e).size := fun p q e1 => by
      have h1 := hp p (q.1, g q.2) (by simp only [List.getElem?_map]; rw [show parts.toList[p]? = some q by simpa using e1]; rfl)
      have h2 := hr q.2 (by simp only [Op.operands, List.mem_toArray, List.mem_map]; exact ⟨q, by simpa using Array.mem_of_getElem? e1, rfl⟩)
      obtain ⟨h3, h4⟩ := cells_rel h2 h1.2.2
      simp only [Nat.zero_add] at h1
      exact ⟨h1.1, ⟨h3, fun i c u e1 e2 => (h4 i c u e1 e2).1⟩, by rw [← h3]; exact h1.2.1⟩
    generalize hsize : (tab e).size = size at *
    let arr0 : Array Value := (Array.range (n * size)).map ((if n * size = 0 then #[] else z.cells)[· % (if n * size = 0 then #[] else z.cells).size]!)
    have harr0 : arr0.size = n * size := by simp [arr0]
    obtain ⟨r, h1, h2, _, h4⟩ := fill_seq size ((parts.map fun p => (p.1, a.eval p.2)).toList) 0 arr0 (fun p q e1 => by
      simp only [Array.toList_map, List.getElem?_map] at e1
      obtain ⟨x, hx1, rfl⟩ := Option.map_eq_some_iff.1 e1
      obtain ⟨h5, _, h6⟩ := hval p x (by simpa using hx1)
      exact ⟨by simpa using h5, h6⟩) (by rw [harr0]; simp [hn])
    have hrun : (Instr.buildSlice T n (parts.map fun p => (p.1, a.eval p.2))).run P w = .ok (.slice (some ⟨w.heap.size, 0, none⟩) n n) (w.alloc (.cells r e)) := by
      simp only [Instr.buildSlice]
      rw [run_bind, run_underlying' (slice_under hT hsh)]
      simp only []
      rw [run_bind, run_sizeOf' hi, hi1]
      simp only []
      rw [if_neg (by omega)]
      by_cases h0 : n * size = 0
      · have h1' := h1
        simp only [arr0, h0, if_true] at h1'
        simp only [h0, if_true]
        rw [run_bind, run_pure]
        simp only []
        rw [h1']
        simp only []
        rw [run_bind, run_newRow]
        rfl
      · have h1' := h1
        simp only [arr0, h0, if_false] at h1'
        simp only [h0, if_false]
        rw [run_bind]
        unfold zeroValue
        rw [run_bind, run_typeInfo' hi]
        simp only [hi3, run_pure]
        rw [run_bind, run_pure]
        simp only []
        rw [h1']
        simp only []
        rw [run_bind, run_newRow]
        rfl
    refine ⟨r, .slice (some ⟨w.heap.size, 0, none⟩) n n, ?_, by rw [h2, harr0]; simp [hn], fun i j x y e1 e2 => ?_, fun ρ' F' w' e' => ?_⟩
    · simp only [execOp]
      rw [run_bind, hrun]
      rfl
    · simp only [List.getElem?_map] at e1
      obtain ⟨q, hq, rfl⟩ := Option.map_eq_some_iff.1 e1
      have hq' : parts[i]? = some q := by simpa using hq
      obtain ⟨h5, h6, h7⟩ := hval i q hq'
      have hj : j < size := by rw [← h7, ← h6.1]; exact (List.getElem?_eq_some_iff.1 e2).1
      have h8 := h4 i (q.1, a.eval q.2) j (by simp [hq']) hj
      rw [Nat.zero_add] at h8
      have h9 : (a.eval q.2).cells[j]? = some ((a.eval q.2).cells[j]'(by omega)) := by simp [h7, hj]
      exact ⟨_, h8.trans h9, h6.2 j y _ e2 h9⟩
    · have := VRel.ref (O := O) (F := F') (w := w') h.length 0 n n _ e' (Nat.le_refl _) (by simp only [Nat.zero_add]; rw [h2, harr0]) hnn
      simpa using this
/-! ### A store into a row of the call's own -/
theorem frE_off {e : TypeId} {n o : Nat} (ho : o < n) : ((frE e n).1 ≤ o && o < (frE e n).2) = false := by
  unfold frE
  split
  · simp
  · simp; omega
theorem run_storeCells_fr (P : Program) (g o : Nat) (t : TypeId) (fz : Nat × Nat) : ∀ (vs : List Value) (i : Nat) (cur : Array Value) (w : World), w.heap[g]? = some (.cells cur t fz) → (∀ o, o < cur.size → (fz.1 ≤ o && o < fz.2) = false) → o + i + vs.length ≤ cur.size → (∀ v ∈ vs, v.oneCell' = true) →
    (storeCells ⟨g, o, none⟩ vs i).run P w = .ok () (w.setRow g (cur.toList.take (o + i) ++ vs ++ cur.toList.drop (o + i + vs.length)).toArray)
  | [], i, cur, w, hg, _, _, _ => by
    simp only [storeCells, List.append_nil, List.length_nil, Nat.add_zero, List.take_append_drop, Array.toArray_toList]
    rw [setRow_self w g cur t fz hg]
    rfl
  | v :: rest, i, cur, w, hg, hz, hl, h1 => by
    have hi : o + i < cur.size := by simp at hl; omega
    have hadd : (⟨g, o, none⟩ : Addr).add i = ⟨g, o + i, none⟩ := by unfold Addr.add; split <;> simp_all
    have hcell : w.cell? ⟨g, o + i, none⟩ = some cur[o + i] := by simp [World.cell?, hg, hi]
    have hfro : w.frozen? ⟨g, o + i, none⟩ = false := by simpa [World.frozen?, hg] using hz _ hi
    have hst : (store ((⟨g, o, none⟩ : Addr).add i) v).run P w = .ok () (w.setRow g (cur.setIfInBounds (o + i) v)) := by
      rw [hadd, run_store P w _ v _ (h1 v (by simp)), hcell]
      simp [hfro, setCell_eq_setRow w g (o + i) cur t fz v hg]
    have ih := run_storeCells_fr P g o t fz rest (i + 1) (cur.setIfInBounds (o + i) v) (w.setRow g (cur.setIfInBounds (o + i) v)) (setRow_heap w g cur _ t _ hg) (by simpa using hz) (by simp at hl ⊢; omega) (fun x hx => h1 x (by simp [hx]))
    simp only [storeCells, Sem.run_bind, hst, Result.andThen_ok, ih, setRow_setRow]
    congr 3
    have e := list_seg_step cur.toList (o + i) v rest (by simp at hl ⊢; omega)
    simpa [Array.toList_setIfInBounds, Nat.add_assoc] using e
/-- An operation that changes rows of the call's own: what the state is then. -/
def OpS (P : Program) (O : Nat → Prop) (w0 : Ctx) (N : Nat) (o : Oper) (tm : TM) (h : Heap) (tm' : TM) (h' : Heap) : Prop :=
  ∀ (ρ : Rho) (F : Nat → Prop) (a : Act) (w : World), St O w0 N ρ F tm h a w → ∀ (next : Act → World → Prop) (Q : Exit → Act → World → Prop), (∀ ρ' F' a' w', St O w0 N ρ' F' tm' h' a' w' → next a' w') → o.wp P a w next Q
theorem SC.op {O : Nat → Prop} {w0 : Ctx} {N : Nat} {i k : Nat} {tm tm' : TM} {h h' : Heap} {K : TM → Heap → Prop} {o : Oper} (ho : ops[i]? = some o) (hg : o.guard = none) (hs : OpS P O w0 N o tm h tm' h') (hr : SC P O w0 N ops (i + 1) k tm' h' K) :
    SC P O w0 N ops i (k + 1) tm h K := by
  intro ρ F a w Q hst hq
  rw [List.range'_succ, wpOps_cons]
  unfold wpOp
  simp only [ho]
  rw [if_pos (by simp [Region.wanted, hg])]
  exact .inl (hs ρ F a w hst _ Q fun ρ' F' a' w' hst' => hr ρ' F' a' w' Q hst' hq)
/-- An operation whose outcome is not settled: one of many. -/
def OpN (P : Program) (O : Nat → Prop) (w0 : Ctx) (N : Nat) (o : Oper) (tm : TM) (h : Heap) {C : Type} (ok : C → Prop) (f : C → TM × Heap) : Prop :=
  ∀ (ρ : Rho) (F : Nat → Prop) (a : Act) (w : World), St O w0 N ρ F tm h a w → ∀ (next : Act → World → Prop) (Q : Exit → Act → World → Prop), (∀ c, ok c → ∀ ρ' F' a' w', St O w0 N ρ' F' (f c).1 (f c).2 a' w' → next a' w') → o.wp P a w next Q
theorem SC.opn {O : Nat → Prop} {w0 : Ctx} {N : Nat} {i k : Nat} {tm : TM} {h : Heap} {C : Type} {ok : C → Prop} {f : C → TM × Heap} {K : TM → Heap → Prop} {o : Oper} (ho : ops[i]? = some o) (hg : o.guard = none) (hs : OpN P O w0 N o tm h ok f) (hr : ∀ c, ok c → SC P O w0 N ops (i + 1) k (f c).1 (f c).2 K) :
    SC P O w0 N ops i (k + 1) tm h K := by
  intro ρ F a w Q hst hq
  rw [List.range'_succ, wpOps_cons]
  unfold wpOp
  simp only [ho]
  rw [if_pos (by simp [Region.wanted, hg])]
  exact .inl (hs ρ F a w hst _ Q fun c hc ρ' F' a' w' hst' => hr c hc ρ' F' a' w' Q hst' hq)
def hset (h : Heap) (id : Nat) (xs : List (List SV)) : Heap := h.set id (some ⟨rowK h id, (match hrow h id with | some r => r.elem | none => 0), xs⟩)
/-- One block is written: it holds another row; all else stands. -/
theorem St.write {O : Nat → Prop} {w0 : Ctx} {N : Nat} {ρ : Rho} {F : Nat → Prop} {tm : TM} {h : Heap} {a : Act} {w w' : World} (hst : St O w0 N ρ F tm h a w) {id : Nat} {r : Row} {ri : RI} (hr : h[id]? = some (some r)) (hρ : ρ id = some ri)
    {xs : List (List SV)} {arr : Array Value} (hw : ∀ x ∈ xs, x.length = r.k) (hsz : arr.size = ri.sz) (hl : xs.length * r.k ≤ arr.size)
    (hgrow : w'.os = w.os ∧ w'.tape = w.tape ∧ w'.output = w.output ∧ w'.heap.size = w.heap.size) (hoth : ∀ b, b ≠ ri.b → w'.heap[b]? = w.heap[b]?) (hnew : w'.heap[ri.b]? = some (.cells arr (tyE r.elem) (frE r.elem arr.size)))
    (hc : ∀ (i j : Nat) (x : List SV) (y : SV), xs[i]? = some x → x[j]? = some y → ∃ v, arr[i * r.k + j]? = some v ∧ VRel ρ O F w y v) :
    St O w0 N ρ F tm (h.set id (some ⟨r.k, r.elem, xs⟩)) a w' := by
  have hR := hst.sat.row id r ri hr hρ
  have hid : id < h.length := (List.getElem?_eq_some_iff.1 hr).1
  have hI : ∀ o b, Im O F o b → Im O F o b ∧ w'.heap[b]? = w.heap[b]? := fun o b hb => ⟨hb, hoth b (by
    rintro rfl
    rcases hb with hb | ⟨_, hb⟩
    · exact hR.nf hb
    · exact hR.no hb)⟩
  refine ⟨⟨fun id' r' ri' e1 e2 => ?_, fun id1 id2 r1 r2 ri1 ri2 e1 e2 e3 e4 hb => ?_, fun b hb => by rw [hgrow.2.2.2]; exact hst.sat.lt b hb⟩, hst.defers.next rfl (fun D e => (hoth D (by rintro rfl; obtain ⟨_, h1, _⟩ := hR.cells; rw [h1] at e; cases e)).trans e), hst.size, fun t => (hst.rel t).mono (fun _ _ h => h) hI,
    ⟨hgrow.1.trans hst.keep.os, hgrow.2.1.trans hst.keep.tape, hgrow.2.2.1.trans hst.keep.output, by rw [hgrow.2.2.2]; exact hst.keep.size, fun b hb => (hoth b (by rintro rfl; exact hR.no hb)).trans (hst.keep.block b hb), fun b o e e' => (hoth b (by rintro rfl; obtain ⟨_, h1, _⟩ := hR.cells; have h2 := hst.keep.books _ _ e e'; rw [h1] at h2; cases h2; cases e')).trans (hst.keep.books b o e e')⟩,
    fun id' h' => hst.free id' (by simpa using h'), hst.rno, hst.fno, hst.ext0⟩
  · by_cases e : id' = id
    · subst e
      rw [List.getElem?_set_self hid] at e1
      cases e1
      rw [hρ] at e2; cases e2
      refine ⟨hR.k, hR.no, hR.nf, hw, arr, hnew, hsz, hl, fun i j x y e1 e2 => ?_⟩
      obtain ⟨v, h1, h2⟩ := hc i j x y e1 e2
      exact ⟨v, h1, h2.mono (fun _ _ h => h) hI⟩
    · rw [List.getElem?_set_ne (fun h => e h.symm)] at e1
      have h1 := hst.sat.row id' r' ri' e1 e2
      have hne : ri'.b ≠ ri.b := fun hb => e (hst.sat.inj id' id r' r ri' ri e1 hr e2 hρ hb)
      refine ⟨h1.k, h1.no, h1.nf, h1.wf, ?_⟩
      obtain ⟨arr', h2, h3, h4, h5⟩ := h1.cells
      refine ⟨arr', (hoth _ hne).trans h2, h3, h4, fun i j x y e1 e2 => ?_⟩
      obtain ⟨v, h6, h7⟩ := h5 i j x y e1 e2
      exact ⟨v, h6, h7.mono (fun _ _ h => h) hI⟩
  · have key : ∀ i r1, (h.set id (some ⟨r.k, r.elem, xs⟩) : Heap)[i]? = some (some r1) → ∃ r', h[i]? = some (some r') := fun i r1 e => by
      by_cases e' : i = id
      · subst e'; exact ⟨r, hr⟩
      · rw [List.getElem?_set_ne (fun h => e' h.symm)] at e; exact ⟨r1, e⟩
    obtain ⟨r1', h1⟩ := key id1 r1 e1
    obtain ⟨r2', h2⟩ := key id2 r2 e2
    exact hst.sat.inj id1 id2 r1' r2' ri1 ri2 h1 h2 e3 e4 hb
/-- v = *p, p a pointer into a row: cells j .. of element i. -/
theorem opS_store (hT : TabOk P tab) {O : Nat → Prop} {w0 : Ctx} {N : Nat} {T ty : TypeId} {pos : String} {after : Array Edge} {tm : TM} {h : Heap} {p x : Operand} {id i j : Nat} (hp : opnd tm p = .ptr id i j) (hty : hasTy (tab T)) (hok : cellsOk (opnd tm x) = true)
    (hsz : (opnd tm x).cells.length = (tab T).size) (hi : i < (rowXs h id).length) (hj : j + (tab T).size ≤ rowK h id) (hpos : 0 < (tab T).size) :
    OpS P O w0 N ⟨none, .store T p x, ty, pos, after, none⟩ tm h tm (hset h id ((rowXs h id).set i (splice (elAt (rowXs h id) i) j (opnd tm x).cells))) := by
  intro ρ F a w hst next Q hn
  have hvp := opnd_rel (a := a) p (fun t _ => hst.rel t)
  have hvx := opnd_rel (a := a) x (fun t _ => hst.rel t)
  rw [hp] at hvp
  obtain ⟨hc1, hc2⟩ := cells_rel hvx hok
  generalize hap : a.eval p = vp at hvp
  generalize hax : a.eval x = vx at hvx hc1 hc2
  cases hvp with
  | ptr _ _ _ ri hρ =>
    cases hr : hrow h id with
    | none => simp [rowXs, hr] at hi
    | some r =>
      have hr' := hrow_some hr
      have hR := hst.sat.row id r ri hr' hρ
      have exs : rowXs h id = r.xs := by simp [rowXs, hr]
      have ek : rowK h id = r.k := by simp [rowK, hr]
      rw [exs] at hi hn
      rw [ek] at hj
      obtain ⟨arr, h1, h2, h3, h4⟩ := hR.cells
      have hF := hT.ty hty
      have hxl : (elAt r.xs i).length = r.k := hR.wf _ (List.mem_of_getElem? (row_at hi))
      have hfit : i * r.k + j + vx.cells.size ≤ arr.size := by
        have : (i + 1) * r.k ≤ r.xs.length * r.k := Nat.mul_le_mul_right _ hi
        rw [Nat.add_mul] at this; omega
      have hrun := run_storeCells_fr P ri.b (i * r.k + j) (tyE r.elem) (frE r.elem arr.size) vx.cells.toList 0 arr w h1 (fun o ho => frE_off ho) (by simpa using hfit) (fun v hv => by
        obtain ⟨t, ht⟩ := List.mem_iff_getElem?.1 hv
        have ht' : vx.cells[t]? = some v := by simpa using ht
        have htl : t < (opnd tm x).cells.length := by rw [hc1]; exact (Array.getElem?_eq_some_iff.1 ht').1
        exact (hc2 t _ v (rel_at htl) ht').2)
      simp only [Nat.add_zero, Array.length_toList] at hrun
      have hexec : (execOp a.eval ⟨none, .store T p x, ty, pos, after, none⟩).run P w = .ok .skip (w.setRow ri.b (arr.toList.take (i * r.k + j) ++ vx.cells.toList ++ arr.toList.drop (i * r.k + j + vx.cells.size)).toArray) := by
        simp only [execOp, Instr.storeAt, hap, hax, Instr.sureAddr]
        rw [run_bind, run_bind, run_pure]
        simp only [storeVar]
        rw [run_bind, hF.sizeOf]
        simp only []
        rw [if_neg (by rw [← hc1, hsz]; simp), hR.k, hrun]
        rfl
      simp only [Oper.wp, hexec, Oper.upon]
      refine hn ρ F (a.put none undef) _ ?_
      have heq : hset h id (r.xs.set i (splice (elAt r.xs i) j (opnd tm x).cells)) = h.set id (some ⟨r.k, r.elem, r.xs.set i (splice (elAt r.xs i) j (opnd tm x).cells)⟩) := by simp [hset, hr, ek]
      rw [heq]
      have hsp : (splice (elAt r.xs i) j (opnd tm x).cells).length = r.k := by rw [splice_length (by rw [hxl, hsz]; exact hj), hxl]
      refine hst.write hr' hρ (xs := r.xs.set i (splice (elAt r.xs i) j (opnd tm x).cells)) (arr := (arr.toList.take (i * r.k + j) ++ vx.cells.toList ++ arr.toList.drop (i * r.k + j + vx.cells.size)).toArray) (fun y hy => ?_) ?_ ?_ ⟨rfl, rfl, rfl, by simp [World.setRow]⟩ (fun b hb => ?_) (by have hz := setRow_heap w _ arr (arr.toList.take (i * r.k + j) ++ vx.cells.toList ++ arr.toList.drop (i * r.k + j + vx.cells.size)).toArray _ _ h1; rw [hz]; congr 2; simp; rw [Nat.min_eq_left (by omega)]; congr 1; omega) (fun i' j' x' y' e1 e2 => ?_)
      · rcases List.mem_or_eq_of_mem_set hy with hy | rfl
        · exact hR.wf y hy
        · exact hsp
      · simp; omega
      · simp; omega
      · simp only [World.setRow, Array.getElem?_modify]
        rw [if_neg (fun e => hb e.symm)]
      · by_cases hii : i' = i
        · subst hii
          rw [List.getElem?_set_self hi] at e1
          cases e1
          have hj' : j' < r.k := by rw [← hsp]; exact (List.getElem?_eq_some_iff.1 e2).1
          by_cases hin : j ≤ j' ∧ j' < j + vx.cells.size
          · have e3 : (splice (elAt r.xs i') j (opnd tm x).cells)[j']? = (opnd tm x).cells[j' - j]? := by
              unfold splice
              rw [List.append_assoc, List.getElem?_append_right (by simp; omega), List.getElem?_append_left (by simp; omega)]
              simp [Nat.min_eq_left (show j ≤ (elAt r.xs i').length by omega)]
            rw [e3] at e2
            have hlt : j' - j < vx.cells.size := by omega
            have e4 : vx.cells[j' - j]? = some vx.cells[j' - j] := by simp [hlt]
            refine ⟨vx.cells[j' - j], ?_, (hc2 _ _ _ e2 e4).1⟩
            rw [List.getElem?_toArray, List.append_assoc, List.getElem?_append_right (by simp; omega), List.getElem?_append_left (by simp; omega)]
            simp only [List.length_take, Array.length_toList]
            rw [Nat.min_eq_left (by omega), show i' * r.k + j' - (i' * r.k + j) = j' - j by omega]
            simp [hlt]
          · have e3 : (splice (elAt r.xs i') j (opnd tm x).cells)[j']? = (elAt r.xs i')[j']? := by
              unfold splice
              rcases Nat.lt_or_ge j' j with h' | h'
              · rw [List.append_assoc, List.getElem?_append_left (by simp; omega), List.getElem?_take_of_lt h']
              · rw [List.getElem?_append_right (by simp; omega)]
                simp only [List.length_append, List.length_take, List.getElem?_drop]
                rw [Nat.min_eq_left (show j ≤ (elAt r.xs i').length by omega)]
                congr 1; omega
            rw [e3] at e2
            obtain ⟨v, h5, h6⟩ := h4 i' j' _ _ (row_at hi) e2
            refine ⟨v, ?_, h6⟩
            rw [← h5, List.getElem?_toArray]
            rcases Nat.lt_or_ge j' j with h' | h'
            · rw [List.append_assoc, List.getElem?_append_left (by simp; omega), List.getElem?_take_of_lt (by omega)]
              simp
            · rw [List.getElem?_append_right (by simp; omega)]
              simp only [List.length_append, List.length_take, List.getElem?_drop, Array.length_toList, Array.getElem?_toList]
              rw [Nat.min_eq_left (by omega)]
              congr 1; omega
        · rw [List.getElem?_set_ne (fun h => hii h.symm)] at e1
          obtain ⟨v, h5, h6⟩ := h4 i' j' _ _ e1 e2
          refine ⟨v, ?_, h6⟩
          have hj' : j' < r.k := by rw [← hR.wf _ (List.mem_of_getElem? e1)]; exact (List.getElem?_eq_some_iff.1 e2).1
          rw [← h5, List.getElem?_toArray]
          rcases Nat.lt_or_ge i' i with h' | h'
          · have : (i' + 1) * r.k ≤ i * r.k := Nat.mul_le_mul_right _ h'
            rw [Nat.add_mul] at this
            rw [List.append_assoc, List.getElem?_append_left (by simp; omega), List.getElem?_take_of_lt (by omega)]
            simp
          · have : (i + 1) * r.k ≤ i' * r.k := Nat.mul_le_mul_right _ (by omega)
            rw [Nat.add_mul] at this
            rw [List.getElem?_append_right (by simp; omega)]
            simp only [List.length_append, List.length_take, List.getElem?_drop, Array.length_toList, Array.getElem?_toList]
            rw [Nat.min_eq_left (by omega)]
            congr 1; omega
end
end Go.IL

set_option linter.unusedVariables false
set_option linter.unusedSimpArgs false
namespace Go.IL
open Go.RowKit
theorem beqF (b : Bool) : (b == false) = !b := by cases b <;> rfl
theorem beqT (b : Bool) : (b == true) = b := by cases b <;> rfl
abbrev XT := Oper → List Oper → TM → Heap → (TM → Heap → Prop) → Prop
def isP : Op → Bool
  | .move _ | .assign _ | .nilCheck _ | .pick .. | .load .. | .binOp .. | .unOp .. | .convert .. | .makeFunc .. | .slice .. | .fieldAddr .. | .field .. | .indexAddr .. | .index .. | .extract .. | .build .. => true
  | .call c => (match c.callee with | .builtin .len => true | _ => false)
  | _ => false
/-- Comparisons of numbers, truths and texts, conversions of numbers: no others. -/
def plainT (tab : Tab) : Op → Bool
  | .binOp op T _ _ _ => (match op with | .eql | .neq => (match (tab T).shape with | .int _ | .bool | .str => true | _ => false) | _ => true)
  | .convert S D _ => (match (tab S).shape with | .int _ => (match (tab D).shape with | .int _ => true | _ => false) | .str => (match (tab D).shape with | .str => true | _ => false) | _ => false)
  | .build T _ => (match (tab T).shape with | .array _ _ => false | _ => true)
  | _ => true
def isPT (tab : Tab) (op : Op) : Bool := isP op && plainT tab op
/-- The operations of a region, as far as they need no word of their own. -/
def E (tab : Tab) (D : List (Option Nat)) (X : XT) : List Oper → TM → Heap → (TM → Heap → Prop) → Prop
  | [], tm, h, K => K tm h
  | ⟨dst, op, ty, pos, after, none⟩ :: r, tm, h, K =>
    if isPT tab op then oblP tab h (opnd tm) op ∧ E tab D X r (tm.put dst (valP tab h (opnd tm) op)) h K else
    match op with
    | .alloc T => hasTy (tab T) ∧ E tab D X r (tm.put dst (.ptr h.length 0 0)) (h ++ [some ⟨(tab T).size, T, [(tab T).zero]⟩]) K
    | .box T x => hasTy (tab T) ∧ cellsOk (opnd tm x) = true ∧ E tab D X r (tm.put dst (.ptr h.length 0 0)) (h ++ [some ⟨(opnd tm x).cells.length, T, [(opnd tm x).cells]⟩]) K
    | _ => X ⟨dst, op, ty, pos, after, none⟩ r tm h K
  | ⟨dst, op, ty, pos, after, some (j, want)⟩ :: r, tm, h, K =>
    if isPT tab op then
      match gcond (tm.get ((D.getD j none).getD 0)) want with
      | some c =>
        match op with
        | .pick x p q => pkO c (opnd tm x) (opnd tm p) (opnd tm q) ∧ E tab D X r (tm.put dst (.cnd c (pkV (opnd tm x) (opnd tm p) (opnd tm q)))) h K
        | op => allO (fun x => cndO c (opnd tm x)) op.operands.toList ∧ (c = true → oblP tab h (fun x => unc (opnd tm x)) op) ∧ E tab D X r (tm.put dst (.cnd c (valP tab h (fun x => unc (opnd tm x)) op))) h K
      | none => False
    else X ⟨dst, op, ty, pos, after, some (j, want)⟩ r tm h K
def dstB (N : Nat) (ops : Array Oper) (D : List (Option Nat)) : Bool :=
  D == ops.toList.map (·.dst) && (ops.toList.all fun o => match o.dst with | some d => decide (d < N) | none => true) && ops.toList.all fun o => match o.guard with | some (j, _) => ((D.getD j none)).isSome | none => true
/-- The list stands in the region from i on. -/
def Fits (ops : Array Oper) (i : Nat) (l : List Oper) : Prop := ∀ (j : Nat) (o : Oper), l[j]? = some o → ops[i + j]? = some o
theorem Fits.tail {ops : Array Oper} {i : Nat} {o : Oper} {l : List Oper} (h : Fits ops i (o :: l)) : Fits ops (i + 1) l := fun j o' e => by
  have := h (j + 1) o' (by simpa using e)
  rwa [show i + (j + 1) = i + 1 + j by omega] at this
theorem Fits.head {ops : Array Oper} {i : Nat} {o : Oper} {l : List Oper} (h : Fits ops i (o :: l)) : ops[i]? = some o := h 0 o rfl
section
variable {P : Program} {tab : Tab} {ops : Array Oper} {D : List (Option Nat)} {N : Nat}
theorem dstB_lt (hN : dstB N ops D = true) {i : Nat} {o : Oper} (ho : ops[i]? = some o) : ∀ d, o.dst = some d → d < N := by
  simp only [dstB, Bool.and_eq_true] at hN
  intro d hd
  have := List.all_eq_true.1 hN.1.2 o (List.mem_of_getElem? (l := ops.toList) (by simpa using ho))
  simpa [hd] using this
theorem dstB_guard (hN : dstB N ops D = true) {i j : Nat} {want : Bool} {o : Oper} (ho : ops[i]? = some o) (hg : o.guard = some (j, want)) : (ops[j]?).bind (·.dst) = some ((D.getD j none).getD 0) := by
  simp only [dstB, Bool.and_eq_true, beq_iff_eq] at hN
  have h1 := List.all_eq_true.1 hN.2 o (List.mem_of_getElem? (l := ops.toList) (by simpa using ho))
  simp only [hg] at h1
  have h2 := hN.1.1
  have h3 : D.getD j none = (ops[j]?).bind (·.dst) := by
    rw [h2]
    cases h4 : ops[j]? <;> simp [h4]
  rw [← h3]
  cases h5 : D.getD j none with
  | none => rw [h5] at h1; cases h1
  | some d => rfl
/-- One step, whatever its kind. -/
theorem E_step (hT : TabOk P tab) (hN : dstB N ops D = true) {X : XT} {i : Nat} {o : Oper} (ho : ops[i]? = some o) {r : List Oper} {tm : TM} {h : Heap} {K : TM → Heap → Prop} (he : E tab D X (o :: r) tm h K) :
    (∃ sv ext, OpG P ops o tm h sv ext ∧ E tab D X r (tm.put o.dst sv) (h ++ ext) K) ∨ X o r tm h K := by
  obtain ⟨dst, op, ty, pos, after, guard⟩ := o
  cases guard with
  | none =>
    unfold E at he
    by_cases hp : isPT tab op = true
    · rw [if_pos hp] at he
      exact .inl ⟨_, [], opG_pure hT rfl he.1, by simpa using he.2⟩
    · rw [if_neg hp] at he
      cases op <;> first | exact .inr he | skip
      case alloc T => exact .inl ⟨_, _, OpG.of_B rfl (opB_alloc hT he.1), he.2⟩
      case box T x => exact .inl ⟨_, _, OpG.of_B rfl (opB_box hT he.1 he.2.1), he.2.2⟩
  | some g =>
    obtain ⟨j, want⟩ := g
    unfold E at he
    by_cases hp : isPT tab op = true
    · rw [if_pos hp] at he
      cases hc : gcond (tm.get ((D.getD j none).getD 0)) want with
      | none => rw [hc] at he; exact he.elim
      | some c =>
        rw [hc] at he
        cases op <;> first | exact .inl ⟨_, [], opG_pureG hT rfl (dstB_guard hN ho rfl) hc he.1 he.2.1, by simpa using he.2.2⟩ | skip
        case pick x p q => exact .inl ⟨_, [], opG_pickG (dstB_guard hN ho rfl) hc he.1, by simpa using he.2⟩
    · rw [if_neg hp] at he
      exact .inr he
def XQ0 (P : Program) (N : Nat) (ops : Array Oper) : XT := fun o r tm h K => ∀ i, Fits ops i (o :: r) → QC P N ops i (r.length + 1) tm h K
theorem E_QC (hT : TabOk P tab) (hN : dstB N ops D = true) : ∀ (l : List Oper) (i : Nat) (tm : TM) (h : Heap) (K : TM → Heap → Prop), Fits ops i l → E tab D (XQ0 P N ops) l tm h K → QC P N ops i l.length tm h K
  | [], i, tm, h, K, _, he => by unfold E at he; exact he
  | o :: r, i, tm, h, K, hf, he => by
    rcases E_step hT hN hf.head he with ⟨sv, ext, hg, hr⟩ | hx
    · exact ⟨o, sv, ext, hf.head, dstB_lt hN hf.head, hg, E_QC hT hN r (i + 1) _ _ K hf.tail hr⟩
    · exact hx i hf
def XS0 (P : Program) (O : Nat → Prop) (w0 : Ctx) (N : Nat) (ops : Array Oper) : XT := fun o r tm h K => ∀ i, Fits ops i (o :: r) → SC P O w0 N ops i (r.length + 1) tm h K
theorem E_SC {O : Nat → Prop} {w0 : Ctx} (hT : TabOk P tab) (hN : dstB N ops D = true) : ∀ (l : List Oper) (i : Nat) (tm : TM) (h : Heap) (K : TM → Heap → Prop), Fits ops i l → E tab D (XS0 P O w0 N ops) l tm h K → SC P O w0 N ops i l.length tm h K
  | [], i, tm, h, K, _, he => by unfold E at he; exact SC.nil he
  | o :: r, i, tm, h, K, hf, he => by
    rcases E_step hT hN hf.head he with ⟨sv, ext, hg, hr⟩ | hx
    · exact SC.quiet hf.head (dstB_lt hN hf.head) hg (E_SC hT hN r (i + 1) _ _ K hf.tail hr)
    · exact hx i hf
/-- What may be done at an operation that needs a word of its own: where nothing old is changed. -/
structure XQ (P : Program) (tab : Tab) (ops : Array Oper) (D : List (Option Nat)) (X : XT) : Prop where
  quiet : ∀ {o : Oper} {r : List Oper} {tm : TM} {h : Heap} {K : TM → Heap → Prop} (sv : SV) (ext : Heap), OpG P ops o tm h sv ext → E tab D X r (tm.put o.dst sv) (h ++ ext) K → X o r tm h K
/-- .. where rows of the call's own may be. -/
structure XS (P : Program) (O : Nat → Prop) (w0 : Ctx) (N : Nat) (tab : Tab) (ops : Array Oper) (D : List (Option Nat)) (X : XT) : Prop where
  quiet : ∀ {o : Oper} {r : List Oper} {tm : TM} {h : Heap} {K : TM → Heap → Prop} (sv : SV) (ext : Heap), OpG P ops o tm h sv ext → E tab D X r (tm.put o.dst sv) (h ++ ext) K → X o r tm h K
  op : ∀ {o : Oper} {r : List Oper} {tm : TM} {h : Heap} {K : TM → Heap → Prop} (tm' : TM) (h' : Heap), o.guard = none → OpS P O w0 N o tm h tm' h' → E tab D X r tm' h' K → X o r tm h K
  opn : ∀ {o : Oper} {r : List Oper} {tm : TM} {h : Heap} {K : TM → Heap → Prop} {C : Type} (ok : C → Prop) (f : C → TM × Heap), o.guard = none → OpN P O w0 N o tm h ok f → (∀ c, ok c → E tab D X r (f c).1 (f c).2 K) → X o r tm h K
theorem XQ0_ok (hT : TabOk P tab) (hN : dstB N ops D = true) : XQ P tab ops D (XQ0 P N ops) :=
  ⟨fun sv ext hg he i hf => ⟨_, sv, ext, hf.head, dstB_lt hN hf.head, hg, E_QC hT hN _ _ _ _ _ hf.tail he⟩⟩
theorem XS0_ok {O : Nat → Prop} {w0 : Ctx} (hT : TabOk P tab) (hN : dstB N ops D = true) : XS P O w0 N tab ops D (XS0 P O w0 N ops) :=
  ⟨fun sv ext hg he i hf => SC.quiet hf.head (dstB_lt hN hf.head) hg (E_SC hT hN _ _ _ _ _ hf.tail he),
   fun tm' h' hgd hg he i hf => SC.op hf.head hgd hg (E_SC hT hN _ _ _ _ _ hf.tail he),
   fun ok f hgd hg he i hf => SC.opn hf.head hgd hg fun c hc => E_SC hT hN _ _ _ _ _ hf.tail (he c hc)⟩
/-! ### Code -/
def lift (O : Nat → Prop) (w0 : Ctx) (N : Nat) (Q : Exit → TM → Heap → Prop) : Exit → Act → World → Prop
  | .outgrown, _, _ => False
  | .panic _, _, _ => False
  | e, a, w => ∃ ρ F tm h, St O w0 N ρ F tm h a w ∧ Q e tm h
def IW (P : Program) (O : Nat → Prop) (w0 : Ctx) (N : Nat) (c : Code) (tm : TM) (h : Heap) (Q : Exit → TM → Heap → Prop) : Prop :=
  ∀ (ρ : Rho) (F : Nat → Prop) (a : Act) (w : World), St O w0 N ρ F tm h a w → c.wp P (lift O w0 N Q) a w
def thn (K : TM → Heap → Prop) (Q : Exit → TM → Heap → Prop) : Exit → TM → Heap → Prop
  | .normal, tm, h => K tm h
  | e, tm, h => Q e tm h
def blk (id : Nat) (Q : Exit → TM → Heap → Prop) : Exit → TM → Heap → Prop
  | .exit id', tm, h => if id' = id then Q .normal tm h else Q (.exit id') tm h
  | e, tm, h => Q e tm h
variable {O : Nat → Prop} {w0 : Ctx} {tm : TM} {h : Heap} {Q : Exit → TM → Heap → Prop}
theorem IW.skip (hq : Q .normal tm h) : IW P O w0 N .skip tm h Q := fun ρ F a w hst => wp_skip ⟨ρ, F, tm, h, hst, hq⟩
theorem IW.ret (hq : Q .ret tm h) : IW P O w0 N .ret tm h Q := fun ρ F a w hst => wp_ret ⟨ρ, F, tm, h, hst, hq⟩
theorem IW.exit {id : Nat} (hq : Q (.exit id) tm h) : IW P O w0 N (.exit id) tm h Q := fun ρ F a w hst => wp_exit ⟨ρ, F, tm, h, hst, hq⟩
theorem IW.mono {c : Code} {Q' : Exit → TM → Heap → Prop} (hi : IW P O w0 N c tm h Q) (hq : ∀ e tm h, Q e tm h → Q' e tm h) : IW P O w0 N c tm h Q' :=
  fun ρ F a w hst => wp_mono (hi ρ F a w hst) fun e a w hl => by
    cases e <;> first | exact hl | (obtain ⟨ρ, F, tm, h, h1, h2⟩ := hl; exact ⟨ρ, F, tm, h, h1, hq _ _ _ h2⟩)
theorem IW.seq {x y : Code} (hi : IW P O w0 N x tm h (thn (fun tm h => IW P O w0 N y tm h Q) Q)) : IW P O w0 N (.seq x y) tm h Q :=
  fun ρ F a w hst => wp_seq (wp_mono (hi ρ F a w hst) fun e a w hl => by
    cases e <;> first | exact hl | (obtain ⟨ρ, F, tm, h, h1, h2⟩ := hl; first | exact h2 ρ F _ _ h1 | exact ⟨ρ, F, tm, h, h1, h2⟩))
theorem IW.block {id : Nat} {x : Code} (hi : IW P O w0 N x tm h (blk id Q)) : IW P O w0 N (.block id x) tm h Q :=
  fun ρ F a w hst => wp_block (wp_mono (hi ρ F a w hst) fun e a w hl => by
    cases e <;> first | exact hl | skip
    case exit id' =>
      obtain ⟨ρ, F, tm, h, h1, h2⟩ := hl
      simp only [blk] at h2
      simp only [Exit.inBlock]
      split
      · rename_i e; rw [if_pos e] at h2; exact ⟨ρ, F, tm, h, h1, h2⟩
      · rename_i e; rw [if_neg e] at h2; exact ⟨ρ, F, tm, h, h1, h2⟩)
theorem IW.cond {t : Nat} {b : Bool} {x y : Code} (hb : tm.get t = .bool b) (h1 : b = true → IW P O w0 N x tm h Q) (h0 : b = false → IW P O w0 N y tm h Q) : IW P O w0 N (.cond (.tmp t) x y) tm h Q := by
  intro ρ F a w hst
  have hv := hst.rel t
  rw [hb] at hv
  generalize hvv : a.tmps.getD t undef = v at hv
  cases hv
  refine wp_cond (t := b) hvv ?_
  cases b with
  | true => exact h1 rfl ρ F a w hst
  | false => exact h0 rfl ρ F a w hst
/-- The state may be told in another way. -/
def Ent (O : Nat → Prop) (w0 : Ctx) (N : Nat) (tm : TM) (h : Heap) (tm' : TM) (h' : Heap) : Prop := ∀ (ρ : Rho) (F : Nat → Prop) (a : Act) (w : World), St O w0 N ρ F tm h a w → ∃ ρ' F', St O w0 N ρ' F' tm' h' a w
theorem IW.ent {c : Code} {tm' : TM} {h' : Heap} (he : Ent O w0 N tm h tm' h') (hi : IW P O w0 N c tm' h' Q) : IW P O w0 N c tm h Q := fun ρ F a w hst => by
  obtain ⟨ρ', F', hst'⟩ := he ρ F a w hst
  exact hi ρ' F' a w hst'
/-- A loop: what holds at each round's head, over some datum x; a measure of it that each round lowers. -/
theorem IW.loop {α : Type} {c : Code} (L : α → TM) (H : α → Heap) (μ : α → Nat) (x0 : α) (h0 : Ent O w0 N tm h (L x0) (H x0))
    (hr : ∀ x, IW P O w0 N c (L x) (H x) (thn (fun tm' h' => ∃ x', μ x' < μ x ∧ Ent O w0 N tm' h' (L x') (H x')) Q)) : IW P O w0 N (.loop c) tm h Q := by
  intro ρ F a w hst
  obtain ⟨ρ0, F0, hst0⟩ := h0 ρ F a w hst
  refine wp_loop_ghost (fun n a w => ∃ x ρ F, μ x = n ∧ St O w0 N ρ F (L x) (H x) a w) (μ x0) ⟨x0, ρ0, F0, rfl, hst0⟩ fun n a w hI => ?_
  obtain ⟨x, ρ, F, hx, hst⟩ := hI
  refine wp_mono (hr x ρ F a w hst) fun e a1 w1 hq => ?_
  cases e <;> first | exact hq | skip
  case normal =>
    obtain ⟨ρ1, F1, tm1, h1, hst1, x', hlt, hent⟩ := hq
    obtain ⟨ρ2, F2, hst2⟩ := hent ρ1 F1 a1 w1 hst1
    exact ⟨μ x', by omega, x', ρ2, F2, rfl, hst2⟩
end
end Go.IL

set_option linter.unusedVariables false
set_option linter.unusedSimpArgs false
namespace Go.IL
open Go.RowKit
/-! ### Rows by other numbers -/
mutual
def SV.ren (σ : Nat → Nat) : SV → SV
  | .ptr id i j => .ptr (σ id) i j
  | .ref id off n => .ref (σ id) off n
  | .agg cs => .agg (renL σ cs)
  | .tup cs => .tup (renL σ cs)
  | .clo f cs => .clo f (renL σ cs)
  | .sl o xs => .sl o (renLL σ xs)
  | .rptr o x j => .rptr o (renL σ x) j
  | .mp o xs => .mp o (renLL σ xs)
  | .it o xs seen => .it o (renLL σ xs) seen
  | .cnd g v => .cnd g (v.ren σ)
  | .any => .any
  | .bool b => .bool b
  | .int k n => .int k n
  | .str s => .str s
  | .raw v => .raw v
  | .nils => .nils
  | .nilp => .nilp
def renL (σ : Nat → Nat) : List SV → List SV
  | [] => []
  | s :: r => s.ren σ :: renL σ r
def renLL (σ : Nat → Nat) : List (List SV) → List (List SV)
  | [] => []
  | s :: r => renL σ s :: renLL σ r
end
theorem renL_map (σ : Nat → Nat) : ∀ l, renL σ l = l.map (SV.ren σ)
  | [] => by simp [renL]
  | s :: r => by simp [renL, renL_map σ r]
theorem renLL_map (σ : Nat → Nat) : ∀ l, renLL σ l = l.map (renL σ)
  | [] => by simp [renLL]
  | s :: r => by simp [renLL, renLL_map σ r]
mutual
/-- Nothing of it is an old block's. -/
def SV.nold : SV → Bool
  | .agg cs | .tup cs | .clo _ cs => noldL cs
  | .sl o xs => !o && noldLL xs
  | .rptr o x _ => !o && noldL x
  | .mp o xs => !o && noldLL xs
  | .it o xs _ => !o && noldLL xs
  | .cnd _ v => v.nold
  | _ => true
def noldL : List SV → Bool
  | [] => true
  | s :: r => s.nold && noldL r
def noldLL : List (List SV) → Bool
  | [] => true
  | s :: r => noldL s && noldLL r
end
theorem noldL_get : ∀ {l : List SV} {i : Nat} {s : SV}, noldL l = true → l[i]? = some s → s.nold = true
  | _ :: _, 0, _, h, e => by simp at e; subst e; simp [noldL] at h; exact h.1
  | _ :: _, i + 1, _, h, e => by simp [noldL] at h; exact noldL_get h.2 (by simpa using e)
theorem noldLL_get : ∀ {l : List (List SV)} {i : Nat} {s : List SV}, noldLL l = true → l[i]? = some s → noldL s = true
  | _ :: _, 0, _, h, e => by simp at e; subst e; simp [noldLL] at h; exact h.1
  | _ :: _, i + 1, _, h, e => by simp [noldLL] at h; exact noldLL_get h.2 (by simpa using e)
section
variable {ρ ρ' : Rho} {O F O' : Nat → Prop} {w : World}
theorem VRel.nold {s : SV} {v : Value} (h : VRel ρ O F w s v) : s.nold = true → VRel ρ O' F w s v := by
  induction h with
  | any v => intro _; exact .any v
  | bool b => intro _; exact .bool b
  | int k n => intro _; exact .int k n
  | str s => intro _; exact .str s
  | raw v => intro _; exact .raw v
  | agg cs vs hl _ ih => intro hn; simp only [SV.nold] at hn; exact .agg cs vs hl fun i c v e1 e2 => ih i c v e1 e2 (noldL_get hn e1)
  | tup cs vs hl _ ih => intro hn; simp only [SV.nold] at hn; exact .tup cs vs hl fun i c v e1 e2 => ih i c v e1 e2 (noldL_get hn e1)
  | ptr id i j ri h => intro _; exact .ptr id i j ri h
  | ref id off n cap ri h hn hc hm => intro _; exact .ref id off n cap ri h hn hc hm
  | sl o xs a cap k cs hk hcap hm ha _ ih =>
    intro hn
    simp only [SV.nold, Bool.and_eq_true, Bool.not_eq_true'] at hn
    refine .sl o xs a cap k cs hk hcap hm (fun hp => ?_) fun i j x y e1 e2 => ih i j x y e1 e2 (noldL_get (noldLL_get hn.2 e1) e2)
    obtain ⟨b, off, e, hb, hc⟩ := ha hp
    refine ⟨b, off, e, ?_, hc⟩
    rcases hb with hb | ⟨hb, _⟩
    · exact .inl hb
    · rw [hn.1] at hb; cases hb
  | rptr o x j b off cs hb ha _ ih =>
    intro hn
    simp only [SV.nold, Bool.and_eq_true, Bool.not_eq_true'] at hn
    refine .rptr o x j b off cs ?_ ha fun i y e => ih i y e (noldL_get hn.2 e)
    rcases hb with hb | ⟨hb, _⟩
    · exact .inl hb
    · rw [hn.1] at hb; cases hb
  | mp o xs b es cs hb hw hk hn he _ ih =>
    intro hn'
    simp only [SV.nold, Bool.and_eq_true, Bool.not_eq_true'] at hn'
    refine .mp o xs b es cs ?_ hw hk hn he fun i j x y e1 e2 => ih i j x y e1 e2 (noldL_get (noldLL_get hn'.2 e1) e2)
    rcases hb with hb | ⟨hb, _⟩
    · exact .inl hb
    · rw [hn'.1] at hb; cases hb
  | it o xs seen r b es cs hr hrw hb hw hk hn he _ ih =>
    intro hn'
    simp only [SV.nold, Bool.and_eq_true, Bool.not_eq_true'] at hn'
    refine .it o xs seen r b es cs hr hrw ?_ hw hk hn he fun i j x y e1 e2 => ih i j x y e1 e2 (noldL_get (noldLL_get hn'.2 e1) e2)
    rcases hb with hb | ⟨hb, _⟩
    · exact .inl hb
    · rw [hn'.1] at hb; cases hb
  | nils => intro _; exact .nils
  | nilp => intro _; exact .nilp
  | clo f cs vs hl _ ih => intro hn; simp only [SV.nold] at hn; exact .clo f cs vs hl fun i c v e1 e2 => ih i c v e1 e2 (noldL_get hn e1)
  | cnd g s v _ h0 ih => intro hn; simp only [SV.nold] at hn; exact .cnd g s v (fun e => ih e hn) h0
/-- Forward: into a place where the rows have numbers of their own. -/
theorem VRel.ren {σ : Nat → Nat} (hσ : ∀ id ri, ρ id = some ri → ρ' (σ id) = some ri) {s : SV} {v : Value} (h : VRel ρ O F w s v) : VRel ρ' O F w (s.ren σ) v := by
  induction h with
  | any v => exact .any v
  | bool b => exact .bool b
  | int k n => exact .int k n
  | str s => exact .str s
  | raw v => exact .raw v
  | agg cs vs hl _ ih =>
    simp only [SV.ren, renL_map]
    refine .agg _ vs (by simpa using hl) fun i c v e1 e2 => ?_
    rw [List.getElem?_map] at e1
    obtain ⟨c', h1, rfl⟩ := Option.map_eq_some_iff.1 e1
    exact ih i c' v h1 e2
  | tup cs vs hl _ ih =>
    simp only [SV.ren, renL_map]
    refine .tup _ vs (by simpa using hl) fun i c v e1 e2 => ?_
    rw [List.getElem?_map] at e1
    obtain ⟨c', h1, rfl⟩ := Option.map_eq_some_iff.1 e1
    exact ih i c' v h1 e2
  | ptr id i j ri h => exact .ptr (σ id) i j ri (hσ _ _ h)
  | ref id off n cap ri h hn hc hm => exact .ref (σ id) off n cap ri (hσ _ _ h) hn hc hm
  | sl o xs a cap k cs hk hcap hm ha _ ih =>
    simp only [SV.ren, renLL_map]
    have hlen : (xs.map (renL σ)).length = xs.length := by simp
    rw [← hlen]
    refine .sl o _ a cap k cs (fun x hx => ?_) (by simpa using hcap) hm (fun hp => by simpa using ha (by simpa using hp)) fun i j x y e1 e2 => ?_
    · obtain ⟨x', hx', rfl⟩ := List.mem_map.1 hx
      rw [renL_map, List.length_map]; exact hk x' hx'
    · rw [List.getElem?_map] at e1
      obtain ⟨x', h1, rfl⟩ := Option.map_eq_some_iff.1 e1
      rw [renL_map, List.getElem?_map] at e2
      obtain ⟨y', h2, rfl⟩ := Option.map_eq_some_iff.1 e2
      exact ih i j x' y' h1 h2
  | rptr o x j b off cs hb ha _ ih =>
    simp only [SV.ren, renL_map]
    refine .rptr o _ j b off cs hb (fun i hi => ha i (by simpa using hi)) fun i y e => ?_
    rw [List.getElem?_map] at e
    obtain ⟨y', h2, rfl⟩ := Option.map_eq_some_iff.1 e
    exact ih i y' h2
  | mp o xs b es cs hb hw hk hn he _ ih =>
    simp only [SV.ren, renLL_map]
    have hlen : (xs.map (renL σ)).length = xs.length := by simp
    refine .mp o _ b es cs hb (by rw [hlen]; exact hw) (fun x hx => ?_) (hn.trans hlen.symm) (fun i hi => he i (by rwa [hlen] at hi)) fun i j x y e1 e2 => ?_
    · obtain ⟨x', hx', rfl⟩ := List.mem_map.1 hx
      rw [renL_map, List.length_map]; exact hk x' hx'
    · rw [List.getElem?_map] at e1
      obtain ⟨x', h1, rfl⟩ := Option.map_eq_some_iff.1 e1
      rw [renL_map, List.getElem?_map] at e2
      obtain ⟨y', h2, rfl⟩ := Option.map_eq_some_iff.1 e2
      exact ih i j x' y' h1 h2
  | it o xs seen r b es cs hr hrw hb hw hk hn he _ ih =>
    simp only [SV.ren, renLL_map]
    have hlen : (xs.map (renL σ)).length = xs.length := by simp
    refine .it o _ seen r b es cs hr (by rw [hlen]; exact hrw) hb (by rw [hlen]; exact hw) (fun x hx => ?_) (hn.trans hlen.symm) (fun i hi => he i (by rwa [hlen] at hi)) fun i j x y e1 e2 => ?_
    · obtain ⟨x', hx', rfl⟩ := List.mem_map.1 hx
      rw [renL_map, List.length_map]; exact hk x' hx'
    · rw [List.getElem?_map] at e1
      obtain ⟨x', h1, rfl⟩ := Option.map_eq_some_iff.1 e1
      rw [renL_map, List.getElem?_map] at e2
      obtain ⟨y', h2, rfl⟩ := Option.map_eq_some_iff.1 e2
      exact ih i j x' y' h1 h2
  | nils => exact .nils
  | nilp => exact .nilp
  | clo f cs vs hl _ ih =>
    simp only [SV.ren, renL_map]
    refine .clo f _ vs (by simpa using hl) fun i c v e1 e2 => ?_
    rw [List.getElem?_map] at e1
    obtain ⟨c', h1, rfl⟩ := Option.map_eq_some_iff.1 e1
    exact ih i c' v h1 e2
  | cnd g s v _ h0 ih => exact .cnd g _ v ih h0
/-- Back: what is told of it by the other numbers. -/
theorem VRel.unren {σ : Nat → Nat} {t : SV} {v : Value} (h : VRel ρ O F w t v) : ∀ s : SV, t = s.ren σ → VRel (fun id => ρ (σ id)) O F w s v := by
  induction h with
  | any v => intro s e; cases s <;> simp only [SV.ren] at e <;> first | (cases e; done) | exact .any v
  | bool b => intro s e; cases s <;> simp only [SV.ren] at e <;> first | (cases e; done) | (cases e; exact .bool b)
  | int k n => intro s e; cases s <;> simp only [SV.ren] at e <;> first | (cases e; done) | (cases e; exact .int k n)
  | str s => intro s e; cases s <;> simp only [SV.ren] at e <;> first | (cases e; done) | (cases e; exact .str _)
  | raw v => intro s e; cases s <;> simp only [SV.ren] at e <;> first | (cases e; done) | (cases e; exact .raw v)
  | agg cs vs hl _ ih =>
    intro s e
    cases s <;> simp only [SV.ren] at e <;> try (cases e; done)
    case agg cs' =>
      injection e with e
      rw [renL_map] at e; subst e
      refine .agg cs' vs (by simpa using hl) fun i c v e1 e2 => ih i (c.ren σ) v (by rw [List.getElem?_map, e1]; rfl) e2 c rfl
  | tup cs vs hl _ ih =>
    intro s e
    cases s <;> simp only [SV.ren] at e <;> try (cases e; done)
    case tup cs' =>
      injection e with e
      rw [renL_map] at e; subst e
      refine .tup cs' vs (by simpa using hl) fun i c v e1 e2 => ih i (c.ren σ) v (by rw [List.getElem?_map, e1]; rfl) e2 c rfl
  | ptr id i j ri h =>
    intro s e
    cases s <;> simp only [SV.ren] at e <;> try (cases e; done)
    case ptr id' i' j' => injection e with e1 e2 e3; subst e1; subst e2; subst e3; exact .ptr id' i j ri h
  | ref id off n cap ri h hn hc hm =>
    intro s e
    cases s <;> simp only [SV.ren] at e <;> try (cases e; done)
    case ref id' i' j' => injection e with e1 e2 e3; subst e1; subst e2; subst e3; exact .ref id' off n cap ri h hn hc hm
  | sl o xs a cap k cs hk hcap hm ha _ ih =>
    intro s e
    cases s <;> simp only [SV.ren] at e <;> try (cases e; done)
    case sl o' xs' =>
      injection e with e1 e2
      subst e1
      rw [renLL_map] at e2; subst e2
      have hlen : (xs'.map (renL σ)).length = xs'.length := by simp
      rw [hlen]
      refine .sl o xs' a cap k cs (fun x hx => ?_) (by simpa using hcap) hm (fun hp => by simpa using ha (by simpa using hp)) fun i j x y e1 e2 => ?_
      · have := hk (renL σ x) (List.mem_map.2 ⟨x, hx, rfl⟩)
        simpa [renL_map] using this
      · exact ih i j (renL σ x) (y.ren σ) (by rw [List.getElem?_map, e1]; rfl) (by rw [renL_map, List.getElem?_map, e2]; rfl) y rfl
  | rptr o x j b off cs hb ha _ ih =>
    intro s e
    cases s <;> simp only [SV.ren] at e <;> try (cases e; done)
    case rptr o' x' j' =>
      injection e with e1 e2 e3
      subst e1; subst e3
      rw [renL_map] at e2; subst e2
      exact .rptr o x' j b off cs hb (fun i hi => ha i (by simpa using hi)) fun i y e => ih i (y.ren σ) (by rw [List.getElem?_map, e]; rfl) y rfl
  | mp o xs b es cs hb hw hk hn he _ ih =>
    intro s e
    cases s <;> simp only [SV.ren] at e <;> try (cases e; done)
    case mp o' xs' =>
      injection e with e1 e2
      subst e1
      rw [renLL_map] at e2; subst e2
      have hlen : (xs'.map (renL σ)).length = xs'.length := by simp
      refine .mp o xs' b es cs hb (by rw [← hlen]; exact hw) (fun x hx => ?_) (hn.trans hlen) (fun i hi => he i (by rwa [hlen])) fun i j x y e1 e2 => ?_
      · have := hk (renL σ x) (List.mem_map.2 ⟨x, hx, rfl⟩)
        simpa [renL_map] using this
      · exact ih i j (renL σ x) (y.ren σ) (by rw [List.getElem?_map, e1]; rfl) (by rw [renL_map, List.getElem?_map, e2]; rfl) y rfl
  | it o xs seen r b es cs hr hrw hb hw hk hn he _ ih =>
    intro s e
    cases s <;> simp only [SV.ren] at e <;> try (cases e; done)
    case it o' xs' seen' =>
      injection e with e1 e2 e3
      subst e1; subst e3
      rw [renLL_map] at e2; subst e2
      have hlen : (xs'.map (renL σ)).length = xs'.length := by simp
      refine .it o xs' seen r b es cs hr (by rw [← hlen]; exact hrw) hb (by rw [← hlen]; exact hw) (fun x hx => ?_) (hn.trans hlen) (fun i hi => he i (by rwa [hlen])) fun i j x y e1 e2 => ?_
      · have := hk (renL σ x) (List.mem_map.2 ⟨x, hx, rfl⟩)
        simpa [renL_map] using this
      · exact ih i j (renL σ x) (y.ren σ) (by rw [List.getElem?_map, e1]; rfl) (by rw [renL_map, List.getElem?_map, e2]; rfl) y rfl
  | nils => intro s e; cases s <;> simp only [SV.ren] at e <;> first | (cases e; done) | exact .nils
  | nilp => intro s e; cases s <;> simp only [SV.ren] at e <;> first | (cases e; done) | exact .nilp
  | clo f cs vs hl _ ih =>
    intro s e
    cases s <;> simp only [SV.ren] at e <;> try (cases e; done)
    case clo f' cs' =>
      injection e with e1 e
      subst e1
      rw [renL_map] at e; subst e
      refine .clo f cs' vs (by simpa using hl) fun i c v e1 e2 => ih i (c.ren σ) v (by rw [List.getElem?_map, e1]; rfl) e2 c rfl
  | cnd g s v _ h0 ih =>
    intro s' e
    cases s' <;> simp only [SV.ren] at e <;> try (cases e; done)
    case cnd g' s'' =>
      injection e with e1 e2
      subst e1
      exact .cnd g s'' v (fun hg => ih hg s'' e2) h0
end
def Row.ren (σ : Nat → Nat) (r : Row) : Row := ⟨r.k, r.elem, renLL σ r.xs⟩
def subT (σ : Nat → Nat) (tm : TM) : TM → Prop
  | [] => True
  | (t, s) :: r => tm.get t = s.ren σ ∧ subT σ tm r
def subH (σ : Nat → Nat) (h : Heap) : Nat → Heap → Prop
  | _, [] => True
  | i, none :: r => subH σ h (i + 1) r
  | i, some row :: r => hrow h (σ i) = some (row.ren σ) ∧ subH σ h (i + 1) r
def sg (σ : List Nat) (d : Nat) : Nat → Nat := fun id => σ.getD id d
theorem subT_get {σ : Nat → Nat} {tm : TM} : ∀ {tm' : TM}, subT σ tm tm' → ∀ t, tm'.get t = .any ∨ tm.get t = (tm'.get t).ren σ
  | [], _, t => .inl rfl
  | (u, s) :: r, h, t => by
    simp only [TM.get]
    by_cases e : u = t
    · subst e; rw [if_pos rfl]; exact .inr h.1
    · rw [if_neg e]; exact subT_get h.2 t
theorem subH_get {σ : Nat → Nat} {h : Heap} : ∀ {i : Nat} {h' : Heap}, subH σ h i h' → ∀ (j : Nat) (r : Row), h'[j]? = some (some r) → h[σ (i + j)]? = some (some (r.ren σ))
  | _, [], _, j, r, e => by simp at e
  | i, none :: l, hs, j, r, e => by
    cases j with
    | zero => simp at e
    | succ j => have := subH_get (h' := l) hs j r (by simpa using e); rwa [show i + 1 + j = i + (j + 1) by omega] at this
  | i, some row :: l, hs, j, r, e => by
    cases j with
    | zero => simp at e; subst e; exact hrow_some hs.1
    | succ j => have := subH_get (h' := l) hs.2 j r (by simpa using e); rwa [show i + 1 + j = i + (j + 1) by omega] at this
theorem RowIn.unren {ρ : Rho} {O F : Nat → Prop} {w : World} {σ : Nat → Nat} {r : Row} {ri : RI} (h : RowIn ρ O F w (r.ren σ) ri) : RowIn (fun id => ρ (σ id)) O F w r ri := by
  refine ⟨h.k, h.no, h.nf, fun x hx => ?_, ?_⟩
  · have := h.wf (renL σ x) (by simp only [Row.ren, renLL_map]; exact List.mem_map.2 ⟨x, hx, rfl⟩)
    simpa [renL_map, Row.ren] using this
  · obtain ⟨arr, h1, h2, h3, h4⟩ := h.cells
    refine ⟨arr, h1, h2, by simpa [Row.ren, renLL_map] using h3, fun i j x y e1 e2 => ?_⟩
    obtain ⟨v, h5, h6⟩ := h4 i j (renL σ x) (y.ren σ) (by simp only [Row.ren, renLL_map, List.getElem?_map, e1]; rfl) (by rw [renL_map, List.getElem?_map, e2]; rfl)
    exact ⟨v, h5, h6.unren y rfl⟩
theorem RowIn.ren {ρ ρ' : Rho} {O F : Nat → Prop} {w : World} {σ : Nat → Nat} (hσ : ∀ id ri, ρ id = some ri → ρ' (σ id) = some ri) {r : Row} {ri : RI} (h : RowIn ρ O F w r ri) : RowIn ρ' O F w (r.ren σ) ri := by
  refine ⟨h.k, h.no, h.nf, fun x hx => ?_, ?_⟩
  · simp only [Row.ren, renLL_map] at hx
    obtain ⟨x', hx', rfl⟩ := List.mem_map.1 hx
    rw [renL_map, List.length_map]; exact h.wf x' hx'
  · obtain ⟨arr, h1, h2, h3, h4⟩ := h.cells
    refine ⟨arr, h1, h2, by simpa [Row.ren, renLL_map] using h3, fun i j x y e1 e2 => ?_⟩
    simp only [Row.ren, renLL_map, List.getElem?_map] at e1
    obtain ⟨x', h5, rfl⟩ := Option.map_eq_some_iff.1 e1
    rw [renL_map, List.getElem?_map] at e2
    obtain ⟨y', h6, rfl⟩ := Option.map_eq_some_iff.1 e2
    obtain ⟨v, h7, h8⟩ := h4 i j x' y' h5 h6
    exact ⟨v, h7, h8.ren hσ⟩
/-- The state by other numbers, of the temporaries and rows those that are wanted. -/
theorem Ent.ren {O : Nat → Prop} {w0 : Ctx} {N : Nat} {tm tm' : TM} {h h' : Heap} (σ : List Nat) (hl : σ.length = h'.length) (hn : σ.Nodup) (ht : subT (sg σ h.length) tm tm') (hh : subH (sg σ h.length) h 0 h') (h0 : ∀ id ri, w0.r id = some ri → sg σ h.length id = id) : Ent O w0 N tm h tm' h' := by
  intro ρ F a w hst
  have hfr : ∀ id, h'.length ≤ id → ρ (sg σ h.length id) = none := fun id e => hst.free _ (by
    simp only [sg]
    rw [List.getD_eq_getElem?_getD, List.getElem?_eq_none (by omega)]; exact Nat.le_refl _)
  refine ⟨fun id => ρ (sg σ h.length id), F, ⟨fun id r ri e1 e2 => ?_, fun id id' r r' ri ri' e1 e1' e2 e2' hb => ?_, hst.sat.lt⟩, hst.defers, hst.size, fun t => ?_, hst.keep, hfr, fun id ri e => hst.rno _ ri e, hst.fno, fun id ri e => by rw [h0 id ri e]; exact hst.ext0 id ri e⟩
  · have h1 := subH_get hh id r e1
    rw [Nat.zero_add] at h1
    exact (hst.sat.row _ _ ri h1 e2).unren
  · have h1 := subH_get hh id r e1
    have h2 := subH_get hh id' r' e1'
    rw [Nat.zero_add] at h1 h2
    have h3 := hst.sat.inj _ _ _ _ ri ri' h1 h2 e2 e2' hb
    have hi : id < σ.length := by rw [hl]; exact (List.getElem?_eq_some_iff.1 e1).1
    have hi' : id' < σ.length := by rw [hl]; exact (List.getElem?_eq_some_iff.1 e1').1
    simp only [sg, List.getD_eq_getElem?_getD, List.getElem?_eq_getElem hi, List.getElem?_eq_getElem hi', Option.getD_some] at h3
    have hp := List.pairwise_iff_getElem.1 hn
    rcases Nat.lt_trichotomy id id' with h4 | h4 | h4
    · exact absurd h3 (hp id id' hi hi' h4)
    · exact h4
    · exact absurd h3.symm (hp id' id hi' hi h4)
  · rcases subT_get ht t with h1 | h1
    · rw [h1]; exact .any _
    · have := hst.rel t
      rw [h1] at this
      exact this.unren _ rfl
end Go.IL

set_option linter.unusedVariables false
set_option linter.unusedSimpArgs false
namespace Go.IL
open Go.RowKit
/-- What a value is to a call that may only read it. -/
def rei : Nat → Heap → SV → SV
  | 0, _, _ => .any
  | n + 1, h, s => match s with
    | .ref id off m => if off + m ≤ (rowXs h id).length ∧ (hrow h id).isSome = true then .sl true ((((rowXs h id).drop off).take m).map fun x => x.map (rei n h)) else .any
    | .agg cs => .agg (cs.map (rei n h))
    | .clo f cs => .clo f (cs.map (rei n h))
    | .sl _ xs => .sl true (xs.map fun x => x.map (rei n h))
    | .rptr _ x j => .rptr true (x.map (rei n h)) j
    | .mp _ xs => .mp true (xs.map fun x => x.map (rei n h))
    | .ptr id i j => if i < (rowXs h id).length ∧ (hrow h id).isSome = true then .rptr true ((elAt (rowXs h id) i).map (rei n h)) j else .any
    | .tup _ | .cnd _ _ | .it _ _ _ => .any
    | s => s
section
variable {P : Program} {tab : Tab} {ops : Array Oper} {ρ : Rho} {O F : Nat → Prop} {w : World} {h : Heap}
theorem map_get {l : List SV} {f : SV → SV} {i : Nat} {c : SV} (e : (l.map f)[i]? = some c) : ∃ c', l[i]? = some c' ∧ c = f c' := by
  rw [List.getElem?_map] at e
  obtain ⟨c', h1, rfl⟩ := Option.map_eq_some_iff.1 e
  exact ⟨c', h1, rfl⟩
theorem rei_rel (hs : Sat ρ O F h w) : ∀ (n : Nat) (s : SV) (v : Value), VRel ρ O F w s v → VRel (fun _ => none) (fun b => b < w.heap.size) (fun _ => False) w (rei n h s) v
  | 0, s, v, _ => .any v
  | n + 1, s, v, hv => by
    have him : ∀ o b, Im O F o b → Im (fun b => b < w.heap.size) (fun _ => False) true b := fun o b hb => .inr ⟨rfl, hs.lt b (hb.elim .inr fun h => .inl h.2)⟩
    cases hv with
    | any v => exact .any v
    | bool b => exact .bool b
    | int k m => exact .int k m
    | str s => exact .str s
    | raw v => exact .raw v
    | agg cs vs hl hh =>
      refine .agg _ _ (by simpa using hl) fun i c v e1 e2 => ?_
      obtain ⟨c', h1, rfl⟩ := map_get e1
      exact rei_rel hs n c' v (hh i c' v h1 e2)
    | tup cs vs hl hh => exact .any _
    | ptr id i j ri hρ =>
      simp only [rei]
      split
      · rename_i hcond
        obtain ⟨h1, h2⟩ := hcond
        obtain ⟨r, hr⟩ := Option.isSome_iff_exists.1 h2
        have hR := hs.row id r ri (hrow_some hr) hρ
        have exs : rowXs h id = r.xs := by simp [rowXs, hr]
        rw [exs] at h1 ⊢
        obtain ⟨arr, e1, e2, e3, e4⟩ := hR.cells
        have h4 := row_at h1
        have hcell : ∀ t y, (elAt r.xs i)[t]? = some y → ∃ v, w.cell? ⟨ri.b, i * ri.k + t, none⟩ = some v ∧ VRel ρ O F w y v := fun t y hy => by
          obtain ⟨v, h6, h7⟩ := e4 i t _ _ h4 hy
          refine ⟨v, ?_, h7⟩
          simp only [World.cell?, e1]
          rw [hR.k]
          simpa using h6
        refine .rptr true _ j ri.b (i * ri.k) (fun t => (w.cell? ⟨ri.b, i * ri.k + t, none⟩).getD undef) (.inr ⟨rfl, hR.lt⟩) (fun t ht => ?_) fun t y e => ?_
        · rw [List.length_map] at ht
          obtain ⟨v, h6, _⟩ := hcell t _ (rel_at ht)
          rw [h6]; rfl
        · obtain ⟨y', f4, rfl⟩ := map_get e
          obtain ⟨v, h6, h7⟩ := hcell t y' f4
          rw [h6]
          exact rei_rel hs n y' v h7
      · exact .any _
    | ref id off m cap ri hρ hn hc hm =>
      simp only [rei]
      split
      · rename_i hcond
        obtain ⟨h1, h2⟩ := hcond
        obtain ⟨r, hr⟩ := Option.isSome_iff_exists.1 h2
        have hR := hs.row id r ri (hrow_some hr) hρ
        have exs : rowXs h id = r.xs := by simp [rowXs, hr]
        rw [exs] at h1 ⊢
        obtain ⟨arr, e1, e2, e3, e4⟩ := hR.cells
        have hlen : (((r.xs.drop off).take m).map fun x => x.map (rei n h)).length = m := by simp; omega
        have hget : ∀ i x, i < m → ((r.xs.drop off).take m)[i]? = some x → r.xs[off + i]? = some x := fun i x hi e => by rwa [List.getElem?_take_of_lt hi, List.getElem?_drop] at e
        have key := VRel.sl (ρ := fun _ => none) (O := fun b => b < w.heap.size) (F := fun _ => False) (w := w) true (((r.xs.drop off).take m).map fun x => x.map (rei n h)) (some ⟨ri.b, off * ri.k, none⟩) cap r.k
          (fun i j => (w.cell? ⟨ri.b, off * ri.k + i * r.k + j, none⟩).getD undef)
          (fun x hx => by
            obtain ⟨x', hx', rfl⟩ := List.mem_map.1 hx
            rw [List.length_map]
            exact hR.wf x' (List.mem_of_mem_drop (List.mem_of_mem_take hx')))
          (by rw [hlen]; exact hn) hm
          (fun _ => ⟨ri.b, off * ri.k, rfl, .inr ⟨rfl, hR.lt⟩, fun i j hi hj => by
            rw [hlen] at hi
            have h3 : off + i < r.xs.length := by omega
            have h4 := row_at h3
            have h5 := hR.wf _ (List.mem_of_getElem? h4)
            obtain ⟨v, h6, _⟩ := e4 (off + i) j _ _ h4 (rel_at (by rw [h5]; exact hj))
            have h7 : w.cell? ⟨ri.b, off * ri.k + i * r.k + j, none⟩ = some v := by
              simp only [World.cell?, e1]
              rw [hR.k, ← Nat.add_mul]
              simpa using h6
            rw [h7]; rfl⟩)
          (fun i j x y f1 f2 => by
            rw [List.getElem?_map] at f1
            obtain ⟨x', f3, rfl⟩ := Option.map_eq_some_iff.1 f1
            obtain ⟨y', f4, rfl⟩ := map_get f2
            have hi : i < m := by have := (List.getElem?_eq_some_iff.1 f3).1; simp at this; omega
            obtain ⟨v, h6, h7⟩ := e4 (off + i) j _ _ (hget i x' hi f3) f4
            have h8 : w.cell? ⟨ri.b, off * ri.k + i * r.k + j, none⟩ = some v := by
              simp only [World.cell?, e1]
              rw [hR.k, ← Nat.add_mul]
              simpa using h6
            rw [h8]
            exact rei_rel hs n y' v h7)
        rwa [hlen] at key
      · exact .any _
    | sl o xs a cap k cs hk hcap hm ha hh =>
      simp only [rei]
      have hlen : (xs.map fun x => x.map (rei n h)).length = xs.length := by simp
      rw [← hlen]
      refine .sl true _ a cap k cs (fun x hx => ?_) (by rw [hlen]; exact hcap) hm (fun hp => ?_) fun i j x y e1 e2 => ?_
      · obtain ⟨x', hx', rfl⟩ := List.mem_map.1 hx
        rw [List.length_map]; exact hk x' hx'
      · obtain ⟨b, off, e, hb, hc⟩ := ha (by rw [hlen] at hp; exact hp)
        exact ⟨b, off, e, him o b hb, by rw [hlen]; exact hc⟩
      · rw [List.getElem?_map] at e1
        obtain ⟨x', h1, rfl⟩ := Option.map_eq_some_iff.1 e1
        obtain ⟨y', h2, rfl⟩ := map_get e2
        exact rei_rel hs n y' _ (hh i j x' y' h1 h2)
    | rptr o x j b off cs hb ha hh =>
      simp only [rei]
      refine .rptr true _ j b off cs (him o b hb) (fun i hi => ha i (by simpa using hi)) fun i y e => ?_
      obtain ⟨y', h2, rfl⟩ := map_get e
      exact rei_rel hs n y' _ (hh i y' h2)
    | mp o xs b es cs hb hw hk hn he hh =>
      simp only [rei]
      have hlen : (xs.map fun x => x.map (rei n h)).length = xs.length := by simp
      refine .mp true _ b es cs (him o b hb) (by rw [hlen]; exact hw) (fun x hx => ?_) (hn.trans hlen.symm) (fun i hi => he i (by rwa [hlen] at hi)) fun i j x y e1 e2 => ?_
      · obtain ⟨x', hx', rfl⟩ := List.mem_map.1 hx
        rw [List.length_map]; exact hk x' hx'
      · rw [List.getElem?_map] at e1
        obtain ⟨x', h1, rfl⟩ := Option.map_eq_some_iff.1 e1
        obtain ⟨y', h2, rfl⟩ := map_get e2
        exact rei_rel hs n y' _ (hh i j x' y' h1 h2)
    | it => exact .any _
    | nils => exact .nils
    | nilp => exact .nilp
    | clo f cs vs hl hh =>
      refine .clo f _ _ (by simpa using hl) fun i c v e1 e2 => ?_
      obtain ⟨c', h1, rfl⟩ := map_get e1
      exact rei_rel hs n c' v (hh i c' v h1 e2)
    | cnd g s v h1 h0 => exact .any _
def ArgsRel (O : Nat → Prop) (w : World) (args : List SV) (cargs : Array Value) : Prop :=
  args.length = cargs.size ∧ ∀ (i : Nat) (s : SV) (v : Value), args[i]? = some s → cargs[i]? = some v → VRel (fun _ => none) O (fun _ => False) w s v
def Entr (P : Program) (f : FuncId) : Prop := ∀ (args : Array Value) (w : World), (callFunc f args).run P w = .ok (.enter f args) w
/-- What a call comes to that only reads: a value, and the rows that it leads to, all new. -/
def FSpec (P : Program) (f : FuncId) (args : List SV) (sv : SV) (rows : List Row) : Prop :=
  Entr P f ∧ ∀ (w : World) (cargs : Array Value), ArgsRel (fun b => b < w.heap.size) w args cargs → Calls P f cargs w fun e w' =>
    ∃ v ρ F, e = .returned v ∧ Below w.heap.size w w' ∧ Sat ρ (fun _ => False) F (rows.map some) w' ∧ (∀ b, F b → w.heap.size ≤ b) ∧ (∀ id ri, ρ id = some ri → w.heap.size ≤ ri.b) ∧
      (∀ id, rows.length ≤ id → ρ id = none) ∧ VRel ρ (fun _ => False) F w' sv v
theorem enters {f : FuncId} {fn : Func} (hf : P.funcs[f]? = some fn) (hn : (fn.name == "runtime.NumGoroutine") = false) (hb : fn.body.isNone = false) : Entr P f := by
  intro args w
  unfold callFunc
  rw [run_bind, run_program]
  simp only [hf, hn, hb, Bool.false_eq_true, if_false]
  rfl
/-- What a call gives that only reads: its arguments told as the contract tells them. -/
theorem call_core {f : FuncId} {dst : Option Nat} {op : Op} {ty : TypeId} {pos : String} {after : Array Edge} {guard : Option (Nat × Bool)} {h : Heap} {svs : List SV} {sv : SV} {rows : List Row} {ρ : Rho} {O F : Nat → Prop} {w : World} {a : Act} {cargs : Array Value}
    (hexec : (execOp a.eval ⟨dst, op, ty, pos, after, guard⟩).run P w = .ok (.enter f cargs) w) (hA : ArgsRel (fun b => b < w.heap.size) w svs cargs) (hs : FSpec P f svs sv rows) (hsat : Sat ρ O F h w)
    (hfree : ∀ id, h.length ≤ id → id < h.length + rows.length → ρ id = none) {next : Act → World → Prop} {Q : Exit → Act → World → Prop}
    (hn : ∀ v ρ' F' w', Ext ρ F w ρ' F' w' → (∀ id, ρ' id ≠ ρ id → h.length ≤ id ∧ id < h.length + rows.length) → Sat ρ' O F' (h ++ rows.map fun r => some (r.ren (h.length + ·))) w' → VRel ρ' O F' w' (sv.ren (h.length + ·)) v → next (a.put dst v) w') :
    Oper.wp P ⟨dst, op, ty, pos, after, guard⟩ a w next Q := by
    simp only [Oper.wp, hexec, Oper.upon]
    refine (hs.2 w _ hA).mono fun e w' hp => ?_
    obtain ⟨v, ρc, Fc, rfl, hbel, hsc, hfc, hrc, hfreec, hvc⟩ := hp
    have hlt := hsat.lt
    have hρ' : ∀ id ri, ρc id = some ri → (fun id => if h.length ≤ id ∧ id < h.length + rows.length then ρc (id - h.length) else ρ id) (h.length + id) = some ri := fun id ri e => by
      have : id < rows.length := by
        rcases Nat.lt_or_ge id rows.length with h' | h'
        · exact h'
        · rw [hfreec id h'] at e; cases e
      try simp only []
      rw [if_pos (by omega), show h.length + id - h.length = id by omega]
      exact e
    have hx : Ext ρ F w (fun id => if h.length ≤ id ∧ id < h.length + rows.length then ρc (id - h.length) else ρ id) (fun b => F b ∨ Fc b) w' := by
      refine ⟨fun id ri e => ?_, fun id ri e e' => ?_, fun b hb => .inl hb, fun b hb hb' => hfc b (hb.resolve_left hb'), hbel⟩
      · rw [if_neg]
        · exact e
        · rintro ⟨h1, h2⟩
          rw [hfree id h1 h2] at e; cases e
      · try simp only [] at e
        split at e
        · exact hrc _ _ e
        · rw [e'] at e; cases e
    refine hn v _ _ w' hx (fun id e => ?_) ⟨fun id r ri e1 e2 => ?_, fun id id' r r' ri ri' e1 e1' e2 e2' hb => ?_, fun b hb => ?_⟩ ?_
    · try simp only [] at e
      split at e
      · rename_i h1; exact h1
      · exact absurd rfl e
    · try simp only [] at e2
      split at e2
      · rename_i h1
        rw [List.getElem?_append_right h1.1, List.getElem?_map] at e1
        obtain ⟨r0, hr0, he⟩ := Option.map_eq_some_iff.1 e1
        cases he
        have h2 := hsc.row (id - h.length) r0 ri (by rw [List.getElem?_map, hr0]; rfl) e2
        have h3 : RowIn ρc O (fun b => F b ∨ Fc b) w' r0 ri := by
          refine ⟨h2.k, fun ho => by have := hlt _ (.inl ho); have := hrc _ _ e2; omega, fun hf => ?_, h2.wf, ?_⟩
          · rcases hf with hf | hf
            · have := hlt _ (.inr hf); have := hrc _ _ e2; omega
            · exact h2.nf hf
          · obtain ⟨arr, a1, a2, a3, a4⟩ := h2.cells
            refine ⟨arr, a1, a2, a3, fun i j x y b1 b2 => ?_⟩
            obtain ⟨v, c1, c2⟩ := a4 i j x y b1 b2
            exact ⟨v, c1, c2.mono (fun _ _ h => h) fun o b hb => ⟨hb.elim (fun h => .inl (.inr h)) (fun h => h.2.elim), rfl⟩⟩
        exact h3.ren hρ'
      · rename_i h1
        have hid : id < h.length := by
          have := (List.getElem?_eq_some_iff.1 e1).1
          simp at this
          omega
        rw [List.getElem?_append_left hid] at e1
        exact (hsat.row id r ri e1 e2).ext hlt hx
    · try simp only [] at e2 e2'
      have hold : ∀ id r ri, id < h.length → (h ++ rows.map fun r => some (r.ren (h.length + ·)))[id]? = some (some r) → ρ id = some ri → ri.b < w.heap.size := fun id r ri hid e1 e2 => by
        rw [List.getElem?_append_left hid] at e1
        exact (hsat.row id r ri e1 e2).lt
      have hdom : ∀ id r, (h ++ rows.map fun r => some (r.ren (h.length + ·)))[id]? = some (some r) → ¬ (h.length ≤ id ∧ id < h.length + rows.length) → id < h.length := fun id r e1 hn => by
        have := (List.getElem?_eq_some_iff.1 e1).1
        simp at this; omega
      have hrow : ∀ id r, h.length ≤ id → (h ++ rows.map fun r => some (r.ren (h.length + ·)))[id]? = some (some r) → ∃ r0, (rows.map some)[id - h.length]? = some (some r0) := fun id r hid e1 => by
        rw [List.getElem?_append_right hid, List.getElem?_map] at e1
        obtain ⟨r0, hr0, _⟩ := Option.map_eq_some_iff.1 e1
        exact ⟨r0, by rw [List.getElem?_map, hr0]; rfl⟩
      split at e2 <;> split at e2'
      · rename_i h1 h2
        obtain ⟨r0, hr0⟩ := hrow id r h1.1 e1
        obtain ⟨r0', hr0'⟩ := hrow id' r' h2.1 e1'
        have := hsc.inj _ _ r0 r0' ri ri' hr0 hr0' e2 e2' hb
        omega
      · rename_i h1 h2
        have := hrc _ _ e2
        have := hold id' r' ri' (hdom id' r' e1' h2) e1' e2'
        omega
      · rename_i h1 h2
        have := hrc _ _ e2'
        have := hold id r ri (hdom id r e1 h1) e1 e2
        omega
      · rename_i h1 h2
        have d1 := hdom id r e1 h1
        have d2 := hdom id' r' e1' h2
        rw [List.getElem?_append_left d1] at e1
        rw [List.getElem?_append_left d2] at e1'
        exact hsat.inj id id' r r' ri ri' e1 e1' e2 e2' hb
    · have hsz := hbel.size
      rcases hb with hb | hb | hb
      · have := hlt b (.inl hb); omega
      · have := hlt b (.inr hb); omega
      · exact hsc.lt b (.inr hb)
    · refine (hvc.mono (O' := O) (F' := fun b => F b ∨ Fc b) (fun _ _ h => h) fun o b hb => ⟨hb.elim (fun h => .inl (.inr h)) (fun h => h.2.elim), rfl⟩).ren hρ'
theorem opB_call {f : FuncId} {dst : Option Nat} {fo : Operand} {caps : List SV} {args : Array Operand} {ats : Array TypeId} {ty : TypeId} {pos : String} {after : Array Edge} {guard : Option (Nat × Bool)} {g : Operand → SV} {h : Heap} {svs : List SV} {sv : SV} {rows : List Row}
    (hf : g fo = .clo f caps) (hargs : (args.toList.map fun x => rei 4 h (g x)) ++ caps.map (rei 4 h) = svs) (hs : FSpec P f svs sv rows) :
    OpB P ⟨dst, .call ⟨.value fo, args, ats⟩, ty, pos, after, guard⟩ g h (sv.ren (h.length + ·)) (rows.map fun r => some (r.ren (h.length + ·))) := by
  intro ρ O F w a hsat hr hfree next Q hn
  have hfo := hr fo (by simp [Op.operands, Call.operands])
  rw [hf] at hfo
  generalize hfv : a.eval fo = fv at hfo
  cases hfo with
  | clo _ _ vs hl hh =>
    have hexec : (execOp a.eval ⟨dst, .call ⟨.value fo, args, ats⟩, ty, pos, after, guard⟩).run P w = .ok (.enter f (args.map a.eval ++ vs)) w := by
      simp only [execOp, resolve, hfv, Deferred.ofValue]
      rw [run_bind, run_pure]
      simp only [invoke, Array.empty_append]
      exact hs.1 _ _
    have hA : ArgsRel (fun b => b < w.heap.size) w svs (args.map a.eval ++ vs) := by
      subst hargs
      refine ⟨by simp [hl], fun i s v e1 e2 => ?_⟩
      rcases Nat.lt_or_ge i args.size with hi | hi
      · rw [List.getElem?_append_left (by simpa using hi), List.getElem?_map] at e1
        obtain ⟨x, hx, rfl⟩ := Option.map_eq_some_iff.1 e1
        have hx' : args[i]? = some x := by simpa using hx
        rw [Array.getElem?_append_left (by simpa using hi), Array.getElem?_map, hx'] at e2
        simp at e2; subst e2
        exact rei_rel hsat 4 _ _ (hr x (by simp [Op.operands, Call.operands, Array.mem_of_getElem? hx']))
      · rw [List.getElem?_append_right (by simpa using hi)] at e1
        obtain ⟨c', hc', rfl⟩ := map_get e1
        rw [Array.getElem?_append_right (by simpa using hi)] at e2
        exact rei_rel hsat 4 _ _ (hh _ c' v (by simpa using hc') (by simpa using e2))
    exact call_core hexec hA hs hsat (fun id h1 h2 => hfree id h1 (by simpa using h2)) fun v ρ' F' w' h1 h2 h3 h4 => hn v ρ' F' w' h1 (fun id e => by simpa using h2 id e) h3 h4
end
end Go.IL

set_option linter.unusedVariables false
set_option linter.unusedSimpArgs false
namespace Go.IL
open Go.RowKit
section
variable {P : Program} {tab : Tab} {O : Nat → Prop} {w0 : Ctx} {N : Nat} {tm : TM} {h : Heap} {Q : Exit → TM → Heap → Prop} {id : Nat} {ops : Array Oper}
theorem IW.region_seq (hT : TabOk P tab) (D : List (Option Nat)) (hN : dstB N ops D = true) (he : ∀ (X : XT) (K : TM → Heap → Prop), XS P O w0 N tab ops D X → (∀ tm h, Q .normal tm h → K tm h) → E tab D X ops.toList tm h K) : IW P O w0 N (.region id ops false) tm h Q := by
  intro ρ F a w hst
  have h1 := E_SC hT hN ops.toList 0 tm h (Q .normal) (fun j o e => by simpa using e) (he _ _ (XS0_ok hT hN) fun _ _ h => h)
  rw [Array.length_toList] at h1
  exact wp_region_seq h1 hst fun ρ' F' tm' h' a' w' hst' hk => ⟨ρ', F', tm', h', hst', hk⟩
theorem IW.region_draw (hT : TabOk P tab) (hmix : P.follows .mixedOrders = true) (D : List (Option Nat)) (n : Nat) (hdr : drawB ops n = true) (hN : dstB N ops D = true)
    (he : ∀ (Xq Xs : XT) (K : TM → Heap → Prop), XQ P tab ops D Xq → XS P O w0 N tab ops D Xs → (∀ tm h, Q .normal tm h → K tm h) → ∀ K1 : TM → Heap → Prop, (∀ tm' h', E tab D Xs (ops.toList.drop n) tm' h' K → K1 tm' h') → E tab D Xq (ops.toList.take n) tm h K1) : IW P O w0 N (.region id ops true) tm h Q := by
  intro ρ F a w hst
  have hn : n ≤ ops.size := by simp only [drawB, Bool.and_eq_true, decide_eq_true_eq] at hdr; exact hdr.1.2
  have h1 := E_QC hT hN (ops.toList.take n) 0 tm h _ (fun j o e => by
    have hj : j < n := by have := (List.getElem?_eq_some_iff.1 e).1; simp at this; omega
    rw [List.getElem?_take_of_lt hj] at e
    simpa using e) (he _ _ (Q .normal) (XQ0_ok hT hN) (XS0_ok (O := O) (w0 := w0) hT hN) (fun _ _ h => h) _ (fun _ _ h => h))
  have hl : (ops.toList.take n).length = n := by simp; omega
  rw [hl] at h1
  refine wp_region_draws (O := O) (w0 := w0) (K := Q .normal) hmix n hdr ?_ hst fun ρ' F' tm' h' a' w' hst' hk => ⟨ρ', F', tm', h', hst', hk⟩
  have key : ∀ (k i : Nat) (tm : TM) (h : Heap) (K K' : TM → Heap → Prop), (∀ tm h, K tm h → K' tm h) → QC P N ops i k tm h K → QC P N ops i k tm h K' := by
    intro k
    induction k with
    | zero => intro i tm h K K' hk hq; exact hk _ _ hq
    | succ k ih => intro i tm h K K' hk hq; obtain ⟨o, sv, ext, a1, a2, a3, a4⟩ := hq; exact ⟨o, sv, ext, a1, a2, a3, ih _ _ _ _ _ hk a4⟩
  refine key n 0 tm h _ _ (fun tm' h' he' => ?_) h1
  have h2 := E_SC hT hN (ops.toList.drop n) n tm' h' (Q .normal) (fun j o e => by rw [List.getElem?_drop] at e; simpa using e) he'
  rw [List.length_drop, Array.length_toList] at h2
  exact h2
/-! ### A function -/
def resSV (tab : Tab) (tm : TM) (h : Heap) : ResultVar → SV
  | .tmp t => tm.get t
  | .cell p T => loadV (tab T) h (tm.get p)
def resO (tab : Tab) (tm : TM) (h : Heap) : ResultVar → Prop
  | .tmp _ => True
  | .cell p T => (match tm.get p with | .ptr _ _ _ => True | _ => False) ∧ loadO (tab T) h (tm.get p)
def resAll (tab : Tab) (tm : TM) (h : Heap) : List ResultVar → SV
  | [r] => resSV tab tm h r
  | l => .tup (l.map (resSV tab tm h))
def resOAll (tab : Tab) (tm : TM) (h : Heap) : List ResultVar → Prop
  | [] => True
  | r :: l => resO tab tm h r ∧ resOAll tab tm h l
def rowsNold : List Row → Bool
  | [] => true
  | r :: l => noldLL r.xs && rowsNold l
def FinP (tab : Tab) (rs : List ResultVar) (sv : SV) (rows : List Row) (tm : TM) (h : Heap) : Prop :=
  resOAll tab tm h rs ∧ sv.nold = true ∧ rowsNold rows = true ∧ ∃ σ : List Nat, σ.length = rows.length ∧ σ.Nodup ∧ resAll tab tm h rs = sv.ren (sg σ h.length) ∧ subH (sg σ h.length) h 0 (rows.map some)
def Fin (tab : Tab) (rs : List ResultVar) (sv : SV) (rows : List Row) : Exit → TM → Heap → Prop
  | .normal, tm, h => FinP tab rs sv rows tm h
  | .ret, tm, h => FinP tab rs sv rows tm h
  | _, _, _ => False
def argTM : Nat → List SV → TM
  | _, [] => []
  | i, s :: r => (i, s) :: argTM (i + 1) r
theorem argTM_get : ∀ (l : List SV) (i t : Nat), (argTM i l).get t = if i ≤ t then (l[t - i]?).getD .any else .any
  | [], i, t => by simp [argTM, TM.get]
  | s :: r, i, t => by
    simp only [argTM, TM.get]
    by_cases e : i = t
    · subst e; simp
    · rw [if_neg e, argTM_get r (i + 1) t]
      by_cases h1 : i + 1 ≤ t
      · rw [if_pos h1, if_pos (by omega), show t - i = (t - (i + 1)) + 1 by omega]
        simp
      · rw [if_neg h1, if_neg (by omega)]
theorem rowsNold_get : ∀ {rows : List Row} {i : Nat} {r : Row}, rowsNold rows = true → rows[i]? = some r → noldLL r.xs = true
  | _ :: _, 0, _, h, e => by simp at e; subst e; simp [rowsNold] at h; exact h.1
  | _ :: _, i + 1, _, h, e => by simp [rowsNold] at h; exact rowsNold_get h.2 (by simpa using e)
theorem res_run (hT : TabOk P tab) {ρ : Rho} {F : Nat → Prop} {a : Act} {w : World} (hst : St O w0 N ρ F tm h a w) : ∀ (l : List ResultVar), resOAll tab tm h l →
    ∃ vs : List Value, (l.mapM (fun | .tmp t => pure (a.tmps.getD t undef) | .cell p t => do loadVar t (← asAddr (a.tmps.getD p undef)) : ResultVar → Sem Value)).run P w = .ok vs w ∧ vs.length = l.length ∧
      ∀ (i : Nat) (r : ResultVar) (v : Value), l[i]? = some r → vs[i]? = some v → VRel ρ O F w (resSV tab tm h r) v
  | [], _ => ⟨[], by simp [run_pure], rfl, fun i r v e => by simp at e⟩
  | r :: l, ho => by
    obtain ⟨vs, h1, h2, h3⟩ := res_run hT hst l ho.2
    have hone : ∃ v, ((fun | .tmp t => pure (a.tmps.getD t undef) | .cell p t => do loadVar t (← asAddr (a.tmps.getD p undef)) : ResultVar → Sem Value) r).run P w = .ok v w ∧ VRel ρ O F w (resSV tab tm h r) v := by
      cases r with
      | tmp t => exact ⟨_, rfl, hst.rel t⟩
      | cell p T =>
        obtain ⟨h4, h5⟩ := ho.1
        obtain ⟨v, h6, h7⟩ := sound_load hT hst.sat (hst.rel p) h5
        refine ⟨v, ?_, h7⟩
        have hv := hst.rel p
        generalize tm.get p = s at *
        cases s <;> try (exact h4.elim)
        generalize hu : a.tmps.getD p undef = u at hv h6
        cases hv
        simp only [Instr.loadAt, Instr.sureAddr] at h6
        rw [run_bind, run_pure] at h6
        simp only [hu, asAddr]
        rw [run_bind, run_pure]
        exact h6
    obtain ⟨v, h4, h5⟩ := hone
    refine ⟨v :: vs, ?_, by simp [h2], fun i r' v' e1 e2 => ?_⟩
    · rw [List.mapM_cons, run_bind, h4]
      simp only []
      rw [run_bind, h1]
      rfl
    · cases i with
      | zero => simp at e1 e2; subst e1; subst e2; exact h5
      | succ i => exact h3 i r' v' (by simpa using e1) (by simpa using e2)
theorem results_run (hT : TabOk P tab) {ρ : Rho} {F : Nat → Prop} {a : Act} {w : World} (hst : St O w0 N ρ F tm h a w) {fn : Func} {rs : List ResultVar} (hr : fn.results.toList = rs) (ho : resOAll tab tm h rs) :
    ∃ v, (results fn a.tmps).run P w = .ok v w ∧ VRel ρ O F w (resAll tab tm h rs) v := by
  subst hr
  obtain ⟨vs, h1, h2, h3⟩ := res_run hT hst fn.results.toList ho
  have hrun : (fn.results.mapM (fun | .tmp t => pure (a.tmps.getD t undef) | .cell p t => do loadVar t (← asAddr (a.tmps.getD p undef)) : ResultVar → Sem Value)).run P w = .ok vs.toArray w := by
    rw [Array.mapM_eq_mapM_toList]
    show (List.toArray <$> _ : Sem _).run P w = _
    rw [map_eq_pure_bind, run_bind, h1]
    rfl
  refine ⟨if h : vs.toArray.size = 1 then vs.toArray[0] else .tuple vs.toArray, ?_, ?_⟩
  · unfold results
    rw [run_bind]
    erw [hrun]
    rfl
  · generalize fn.results.toList = l at *
    by_cases hl : l.length = 1
    · obtain ⟨r, rfl⟩ : ∃ r, l = [r] := List.length_eq_one_iff.1 hl
      obtain ⟨v, rfl⟩ : ∃ v, vs = [v] := List.length_eq_one_iff.1 (by rw [h2]; rfl)
      simp only [resAll]
      simpa using h3 0 r v rfl rfl
    · have e1 : resAll tab tm h l = .tup (l.map (resSV tab tm h)) := by
        cases l with
        | nil => rfl
        | cons r l => cases l with
          | nil => simp at hl
          | cons _ _ => rfl
      rw [e1, dif_neg (by simp [h2, hl])]
      refine .tup _ _ (by simp [h2]) fun i c v e1 e2 => ?_
      rw [List.getElem?_map] at e1
      obtain ⟨r, hr, rfl⟩ := Option.map_eq_some_iff.1 e1
      exact h3 i r v hr (by simpa using e2)
/-- The mark of a loop over a function is taken: nothing that is told turns. -/
theorem VRel.dturn {ρ : Rho} {O F : Nat → Prop} {w w' : World} {b : Nat} {x : Option (List Deferred)} (hoth : ∀ b', b' ≠ b → w'.heap[b']? = w.heap[b']?) (hD : w.heap[b]? = some (.deferred x)) {s : SV} {v : Value} (h : VRel ρ O F w s v) : VRel ρ O F w' s v := by
  have hcell : ∀ b' off u, w.cell? ⟨b', off, none⟩ = some u → w'.cell? ⟨b', off, none⟩ = some u := fun b' off u e => by
    have : b' ≠ b := by rintro rfl; simp [World.cell?, hD] at e
    rw [cell_of_heap (hoth b' this), e]
  have hobj : ∀ (b' : Nat) (o : Obj), w.heap[b']? = some o → (∀ x, o ≠ Obj.deferred x) → w'.heap[b']? = some o := fun b' o e hne => by
    have : b' ≠ b := by rintro rfl; rw [hD] at e; cases e; exact hne _ rfl
    rw [hoth b' this, e]
  induction h with
  | any v => exact .any v
  | bool b => exact .bool b
  | int k n => exact .int k n
  | str s => exact .str s
  | raw v => exact .raw v
  | agg cs vs hl _ ih => exact .agg cs vs hl ih
  | tup cs vs hl _ ih => exact .tup cs vs hl ih
  | ptr id i j ri h => exact .ptr id i j ri h
  | ref id off m cap ri h h1 hc hm => exact .ref id off m cap ri h h1 hc hm
  | sl o xs a cap k cs hk hcap hm ha _ ih =>
    refine .sl o xs a cap k cs hk hcap hm (fun hp => ?_) ih
    obtain ⟨b', off, e, hb, hc⟩ := ha hp
    exact ⟨b', off, e, hb, fun i j hi hj => hcell _ _ _ (hc i j hi hj)⟩
  | rptr o x j b' off cs hb ha _ ih => exact .rptr o x j b' off cs hb (fun i hi => hcell _ _ _ (ha i hi)) ih
  | mp o xs b' es cs hb hw hk hn he _ ih => exact .mp o xs b' es cs hb (hobj _ _ hw (by simp)) hk hn he ih
  | it o xs seen r b' es cs hr hrw hb hw hk hn he _ ih => exact .it o xs seen r b' es cs hr (hobj _ _ hrw (by simp)) hb (hobj _ _ hw (by simp)) hk hn he ih
  | nils => exact .nils
  | nilp => exact .nilp
  | clo f cs vs hl _ ih => exact .clo f cs vs hl ih
  | cnd g s v _ h0 ih => exact .cnd g s v ih h0
theorem St.dturn {O : Nat → Prop} {w0 : Ctx} {N : Nat} {ρ : Rho} {F : Nat → Prop} {tm : TM} {h : Heap} {a : Act} {w : World} {D : Nat} {x : Option (List Deferred)} (hst : St O w0 N ρ F tm h a w) (hD : w.heap[D]? = some (.deferred x)) (hO : ¬ O D) (hge : w0.w.heap.size ≤ D) {ds : List Nat} (hds : ds.Nodup) (hDd : D ∉ ds) (hdd : ∀ D ∈ ds, w0.w.heap.size ≤ D ∧ w.heap[D]? = some (Obj.deferred (some []))) (o : Obj) :
    St O w0 N ρ F tm h { a with defers := marks ds } (w.putObj D o) := by
  have hoth : ∀ b', b' ≠ D → (w.putObj D o).heap[b']? = w.heap[b']? := fun b' hb => World.putObj_heap_other hb
  refine ⟨⟨fun id r ri e1 e2 => ?_, hst.sat.inj, fun b hb => by rw [World.putObj_size]; exact hst.sat.lt b hb⟩, ⟨ds, rfl, hds, fun D' h' => ⟨(hdd D' h').1, (hoth D' (by rintro rfl; exact hDd h')).trans (hdd D' h').2⟩⟩, hst.size, fun t => (hst.rel t).dturn hoth hD, ⟨hst.keep.os, hst.keep.tape, hst.keep.output, by rw [World.putObj_size]; exact hst.keep.size, fun b hb => (hoth b (by rintro rfl; exact hO hb)).trans (hst.keep.block b hb), fun b o e e' => (hoth b (by rintro rfl; have := (Array.getElem?_eq_some_iff.1 e).1; omega)).trans (hst.keep.books b o e e')⟩, hst.free, hst.rno, hst.fno, hst.ext0⟩
  have h1 := hst.sat.row id r ri e1 e2
  refine ⟨h1.k, h1.no, h1.nf, h1.wf, ?_⟩
  obtain ⟨arr, a1, a2, a3, a4⟩ := h1.cells
  refine ⟨arr, (hoth _ (by rintro e; rw [e, hD] at a1; cases a1)).trans a1, a2, a3, fun i j x y f1 f2 => ?_⟩
  obtain ⟨v, g1, g2⟩ := a4 i j x y f1 f2
  exact ⟨v, g1, g2.dturn hoth hD⟩
theorem FSpec.intro (hT : TabOk P tab) {f : FuncId} {fn : Func} {c : Code} {rs : List ResultVar} {args : List SV} {sv : SV} {rows : List Row} (hf : P.funcs[f]? = some fn) (hb : fn.body = some c) (hN : fn.ntmps = N) (hr : fn.results.toList = rs)
    (hname : (fn.name == "runtime.NumGoroutine") = false) (hargs : args.length ≤ N) (hw : ∀ w0 : World, IW P (fun b => b < w0.heap.size) { w := w0 } N c (argTM 0 args) [] (Fin tab rs sv rows)) : FSpec P f args sv rows := by
  refine ⟨enters hf hname (by rw [hb]; rfl), fun w cargs hA => (callsIn_wide (n := 0)).1 (callsIn_of_wp_marks hf hb trivial (wpIn_wide.2 ?_))⟩
  have hst : St (fun b => b < w.heap.size) { w := w } N (fun _ => none) (fun _ => False) (argTM 0 args) [] { tmps := cargs ++ Array.replicate (fn.ntmps - cargs.size) undef, defers := [] } w := by
    refine ⟨⟨fun id r ri e => (by simp at e), fun id id' r r' ri ri' e => (by simp at e), fun b hb => (by simpa using hb)⟩, DefO.nil rfl, ?_, fun t => ?_, Keep.refl _ _, fun _ _ => rfl, fun id ri e => (by cases e), fun b hb => hb.elim, fun id ri e => by cases e⟩
    · have := hA.1; simp; omega
    · rw [argTM_get, if_pos (Nat.zero_le _), Nat.sub_zero]
      cases e : args[t]? with
      | none => exact .any _
      | some s =>
        have ht : t < cargs.size := by rw [← hA.1]; exact (List.getElem?_eq_some_iff.1 e).1
        have e2 : cargs[t]? = some cargs[t] := by simp [ht]
        have := hA.2 t s _ e e2
        simpa [Array.getElem?_append_left ht, ht] using this
  refine wp_mono (hw w _ _ _ _ hst) fun e a w' hl => ?_
  have key : ∀ ρ F tm h a w', St (fun b => b < w.heap.size) { w := w } N ρ F tm h a w' → FinP tab rs sv rows tm h → ∃ v, (results fn a.tmps).run P w' = .ok v w' ∧
      ∃ v' ρ F, Ending.returned v = .returned v' ∧ Below w.heap.size w w' ∧ Sat ρ (fun _ => False) F (rows.map some) w' ∧ (∀ b, F b → w.heap.size ≤ b) ∧ (∀ id ri, ρ id = some ri → w.heap.size ≤ ri.b) ∧
      (∀ id, rows.length ≤ id → ρ id = none) ∧ VRel ρ (fun _ => False) F w' sv v' := by
    intro ρ F tm h a w' hst hfin
    obtain ⟨h1, h2, h3, σ, h4, h5, h6, h7⟩ := hfin
    obtain ⟨v, h8, h9⟩ := results_run hT hst hr h1
    obtain ⟨ρ', F', hst'⟩ := Ent.ren (tm' := []) (h' := rows.map some) σ (by simpa using h4) h5 trivial h7 (fun id ri e => by cases e) ρ F a w' hst
    refine ⟨v, h8, v, fun id => ρ (sg σ h.length id), F, rfl, ⟨hst.keep.os, hst.keep.tape, hst.keep.output, hst.keep.size, hst.keep.block⟩, ?_, fun b hb => ?_, fun id ri e => ?_, fun id hid => ?_, ?_⟩
    · have hinj := List.pairwise_iff_getElem.1 h5
      refine ⟨fun id r ri e1 e2 => ?_, fun id id' r r' ri ri' e1 e1' e2 e2' hb => ?_, fun b hb => hst.sat.lt b (hb.imp False.elim id)⟩
      · have g1 := subH_get h7 id r e1
        rw [Nat.zero_add] at g1
        have g2 := (hst.sat.row _ _ ri g1 e2).unren
        refine ⟨g2.k, fun h => h, g2.nf, g2.wf, ?_⟩
        obtain ⟨arr, a1, a2, a3, a4⟩ := g2.cells
        refine ⟨arr, a1, a2, a3, fun i j x y b1 b2 => ?_⟩
        obtain ⟨v, c1, c2⟩ := a4 i j x y b1 b2
        refine ⟨v, c1, c2.nold ?_⟩
        rw [List.getElem?_map] at e1
        obtain ⟨r0, hr0, he⟩ := Option.map_eq_some_iff.1 e1
        cases he
        exact noldL_get (noldLL_get (rowsNold_get h3 hr0) b1) b2
      · have g1 := subH_get h7 id r e1
        have g2 := subH_get h7 id' r' e1'
        rw [Nat.zero_add] at g1 g2
        have g3 := hst.sat.inj _ _ _ _ ri ri' g1 g2 e2 e2' hb
        have hi : id < σ.length := by rw [h4]; have := (List.getElem?_eq_some_iff.1 e1).1; simpa using this
        have hi' : id' < σ.length := by rw [h4]; have := (List.getElem?_eq_some_iff.1 e1').1; simpa using this
        simp only [sg, List.getD_eq_getElem?_getD, List.getElem?_eq_getElem hi, List.getElem?_eq_getElem hi', Option.getD_some] at g3
        rcases Nat.lt_trichotomy id id' with g4 | g4 | g4
        · exact absurd g3 (hinj id id' hi hi' g4)
        · exact g4
        · exact absurd g3.symm (hinj id' id hi' hi g4)
    · have := hst.fno b hb; omega
    · have := hst.rno _ ri e; omega
    · refine hst.free _ ?_
      simp only [sg]
      rw [List.getD_eq_getElem?_getD, List.getElem?_eq_none (by omega)]; exact Nat.le_refl _
    · rw [h6] at h9
      exact (h9.unren sv rfl).nold h2
  have fin : ∀ (ds : List Nat) (ρ : Rho) (F : Nat → Prop) (tm : TM) (h : Heap) (a : Act) (w' : World), St (fun b => b < w.heap.size) { w := w } N ρ F tm h a w' → FinP tab rs sv rows tm h → a.defers = marks ds → ds.Nodup → (∀ D ∈ ds, w.heap.size ≤ D ∧ w'.heap[D]? = some (Obj.deferred (some []))) → LeavesInM Fence.wide 0 P fn a.tmps (fun e w' => ∃ v ρ F, e = .returned v ∧ Below w.heap.size w w' ∧ Sat ρ (fun _ => False) F (rows.map some) w' ∧ (∀ b, F b → w.heap.size ≤ b) ∧ (∀ id ri, ρ id = some ri → w.heap.size ≤ ri.b) ∧
      (∀ id, rows.length ≤ id → ρ id = none) ∧ VRel ρ (fun _ => False) F w' sv v) (marks ds) .returning w' := by
    intro ds
    induction ds with
    | nil => intro ρ F tm h a w' hst hfin _ _ _; exact key ρ F tm h a w' hst hfin
    | cons D ds ih =>
      intro ρ F tm h a w' hst hfin hd hnd hall
      have h1 := hall D (by simp)
      refine ⟨by simp, .inl ⟨D, _, rfl, run_takeDeferred h1.2, ?_⟩⟩
      have hst2 := hst.dturn h1.2 (by have := h1.1; omega) h1.1 (List.nodup_cons.1 hnd).2 (List.nodup_cons.1 hnd).1 (fun D' h' => hall D' (List.mem_cons_of_mem _ h')) (.deferred none)
      refine ih ρ F tm h { a with defers := marks ds } _ hst2 hfin rfl (List.nodup_cons.1 hnd).2 fun D' h' => ⟨(hall D' (List.mem_cons_of_mem _ h')).1, ?_⟩
      rw [World.putObj_heap_other (by rintro rfl; exact (List.nodup_cons.1 hnd).1 h')]
      exact (hall D' (List.mem_cons_of_mem _ h')).2
  cases e <;> simp only [lift] at hl <;> first | exact hl.elim | skip
  all_goals
    obtain ⟨ρ, F, tm, h, hst, hq⟩ := hl
    first | exact hq.elim | (obtain ⟨ds, d1, d2, d3⟩ := hst.defers; show LeavesInM _ _ _ _ _ _ a.defers _ _; rw [d1]; exact fin ds ρ F tm h a w' hst hq d1 d2 d3)
end
end Go.IL

namespace Go.IL
attribute [go_sem] E pkO pkV isP isPT plainT Bool.false_eq_true opnd TM.get TM.put Nat.succ_ne_zero cellsOk SV.cells List.all_cons List.all_nil scal Bool.and_self Bool.and_true Bool.true_and true_and and_true imp_self implies_true forall_const List.length_nil List.length_cons Nat.zero_add Nat.add_zero List.nil_append List.cons_append oblP valP ofConst binO binV intO intV unO unV gcond List.getD_cons_zero List.getD_cons_succ Option.getD_some Option.getD_none allO cndO unc Op.operands Call.operands isBool isInt bOf iOf pickO pickV fldAddrO fldAddrV fldO fldV fieldsOf loadO loadV hasTy rowXs rowK hrow elAt cellAt List.getElem?_cons_zero List.getElem?_cons_succ Nat.lt_irrefl Nat.le_refl Nat.zero_le Nat.zero_lt_succ Nat.lt_add_one idxAddrO idxAddrV idxO idxV lenO lenV extO extV convO convV optI optO slcO slcV slcLen bldO bldV splice notNil isLen noFirst isEq List.size_toArray List.take_zero List.drop_zero List.take_succ_cons List.drop_succ_cons List.take_nil List.drop_nil List.append_nil List.map_cons List.map_nil beqF beqT Bool.not_eq_true' Bool.not_eq_false' Bool.not_false Bool.not_true cond_true cond_false Bool.cond_true_left Bool.cond_false_right Bool.cond_false_left Bool.cond_true_right ge_iff_le gt_iff_lt false_implies Option.isSome_some List.set_cons_zero List.set_cons_succ hset and_self
end Go.IL

set_option linter.unusedVariables false
set_option linter.unusedSimpArgs false
namespace Go.IL
open Go.RowKit
mutual
/-- Its rows' numbers are below n. -/
def SV.bnd (n : Nat) : SV → Bool
  | .ptr id _ _ => decide (id < n)
  | .ref id _ _ => decide (id < n)
  | .agg cs | .tup cs | .clo _ cs => bndL n cs
  | .sl _ xs => bndLL n xs
  | .rptr _ x _ => bndL n x
  | .mp _ xs => bndLL n xs
  | .it _ xs _ => bndLL n xs
  | .cnd _ v => v.bnd n
  | _ => true
def bndL (n : Nat) : List SV → Bool
  | [] => true
  | s :: r => s.bnd n && bndL n r
def bndLL (n : Nat) : List (List SV) → Bool
  | [] => true
  | s :: r => bndL n s && bndLL n r
end
theorem bndL_get {n : Nat} : ∀ {l : List SV} {i : Nat} {s : SV}, bndL n l = true → l[i]? = some s → s.bnd n = true
  | _ :: _, 0, _, h, e => by simp at e; subst e; simp [bndL] at h; exact h.1
  | _ :: _, i + 1, _, h, e => by simp [bndL] at h; exact bndL_get h.2 (by simpa using e)
theorem bndLL_get {n : Nat} : ∀ {l : List (List SV)} {i : Nat} {s : List SV}, bndLL n l = true → l[i]? = some s → bndL n s = true
  | _ :: _, 0, _, h, e => by simp at e; subst e; simp [bndLL] at h; exact h.1
  | _ :: _, i + 1, _, h, e => by simp [bndLL] at h; exact bndLL_get h.2 (by simpa using e)
theorem VRel.bnd {ρ : Rho} {O F : Nat → Prop} {w : World} {n : Nat} {s : SV} {v : Value} (h : VRel ρ O F w s v) : s.bnd n = true → VRel (fun id => if id < n then ρ id else none) O F w s v := by
  induction h with
  | any v => intro _; exact .any v
  | bool b => intro _; exact .bool b
  | int k n => intro _; exact .int k n
  | str s => intro _; exact .str s
  | raw v => intro _; exact .raw v
  | agg cs vs hl _ ih => intro hn; simp only [SV.bnd] at hn; exact .agg cs vs hl fun i c v e1 e2 => ih i c v e1 e2 (bndL_get hn e1)
  | tup cs vs hl _ ih => intro hn; simp only [SV.bnd] at hn; exact .tup cs vs hl fun i c v e1 e2 => ih i c v e1 e2 (bndL_get hn e1)
  | ptr id i j ri h => intro hn; simp only [SV.bnd, decide_eq_true_eq] at hn; exact .ptr id i j ri (by simp only [if_pos hn]; exact h)
  | ref id off m cap ri h h1 hc hm => intro hn; simp only [SV.bnd, decide_eq_true_eq] at hn; exact .ref id off m cap ri (by simp only [if_pos hn]; exact h) h1 hc hm
  | sl o xs a cap k cs hk hcap hm ha _ ih =>
    intro hn
    simp only [SV.bnd] at hn
    exact .sl o xs a cap k cs hk hcap hm ha fun i j x y e1 e2 => ih i j x y e1 e2 (bndL_get (bndLL_get hn e1) e2)
  | rptr o x j b off cs hb ha _ ih =>
    intro hn
    simp only [SV.bnd] at hn
    exact .rptr o x j b off cs hb ha fun i y e => ih i y e (bndL_get hn e)
  | mp o xs b es cs hb hw hk hn he _ ih =>
    intro hn'
    simp only [SV.bnd] at hn'
    exact .mp o xs b es cs hb hw hk hn he fun i j x y e1 e2 => ih i j x y e1 e2 (bndL_get (bndLL_get hn' e1) e2)
  | it o xs seen r b es cs hr hrw hb hw hk hn he _ ih =>
    intro hn'
    simp only [SV.bnd] at hn'
    exact .it o xs seen r b es cs hr hrw hb hw hk hn he fun i j x y e1 e2 => ih i j x y e1 e2 (bndL_get (bndLL_get hn' e1) e2)
  | nils => intro _; exact .nils
  | nilp => intro _; exact .nilp
  | clo f cs vs hl _ ih => intro hn; simp only [SV.bnd] at hn; exact .clo f cs vs hl fun i c v e1 e2 => ih i c v e1 e2 (bndL_get hn e1)
  | cnd g s v _ h0 ih => intro hn; simp only [SV.bnd] at hn; exact .cnd g s v (fun e => ih e hn) h0
def subT0 (n : Nat) (tm : TM) : TM → Prop
  | [] => True
  | (t, s) :: r => (tm.get t = s ∧ s.bnd n = true) ∧ subT0 n tm r
theorem subT0_get {n : Nat} {tm : TM} : ∀ {tm' : TM}, subT0 n tm tm' → ∀ t, tm'.get t = .any ∨ (tm.get t = tm'.get t ∧ (tm'.get t).bnd n = true)
  | [], _, t => .inl rfl
  | (u, s) :: r, h, t => by
    simp only [TM.get]
    by_cases e : u = t
    · subst e; rw [if_pos rfl]; exact .inr h.1
    · rw [if_neg e]; exact subT0_get h.2 t
def subH0 (n : Nat) (h : Heap) : Nat → Heap → Prop
  | _, [] => True
  | i, none :: r => subH0 n h (i + 1) r
  | i, some row :: r => (hrow h i = some row ∧ bndLL n row.xs = true) ∧ subH0 n h (i + 1) r
theorem subH0_get {n : Nat} {h : Heap} : ∀ {i : Nat} {h' : Heap}, subH0 n h i h' → ∀ (j : Nat) (r : Row), h'[j]? = some (some r) → h[i + j]? = some (some r) ∧ bndLL n r.xs = true
  | _, [], _, j, r, e => by simp at e
  | i, none :: l, hs, j, r, e => by
    cases j with
    | zero => simp at e
    | succ j => have := subH0_get (h' := l) hs j r (by simpa using e); rwa [show i + 1 + j = i + (j + 1) by omega] at this
  | i, some row :: l, hs, j, r, e => by
    cases j with
    | zero => simp at e; subst e; exact ⟨hrow_some hs.1.1, hs.1.2⟩
    | succ j => have := subH0_get (h' := l) hs.2 j r (by simpa using e); rwa [show i + 1 + j = i + (j + 1) by omega] at this
/-- Of the temporaries and the first rows those that are wanted. -/
theorem Ent.cut {O : Nat → Prop} {w0 : Ctx} {N : Nat} {tm tm' : TM} {h h' : Heap} (ht : subT0 h'.length tm tm') (hh : subH0 h'.length h 0 h') (h0 : ∀ id ri, w0.r id = some ri → id < h'.length := by intro _ _ h; cases h) : Ent O w0 N tm h tm' h' := by
  intro ρ F a w hst
  refine ⟨fun id => if id < h'.length then ρ id else none, F, ⟨fun id r ri e1 e2 => ?_, fun id id' r r' ri ri' e1 e1' e2 e2' hb => ?_, hst.sat.lt⟩, hst.defers, hst.size, fun t => ?_, hst.keep, fun id hid => by simp only [if_neg (Nat.not_lt.2 hid)], fun id ri e => ?_, hst.fno, fun id ri e => by simp only [if_pos (h0 id ri e)]; exact hst.ext0 id ri e⟩
  · have hid : id < h'.length := (List.getElem?_eq_some_iff.1 e1).1
    try simp only [] at e2
    rw [if_pos hid] at e2
    obtain ⟨h1, hb⟩ := subH0_get hh id r e1
    rw [Nat.zero_add] at h1
    have h2 := hst.sat.row _ _ ri h1 e2
    refine ⟨h2.k, h2.no, h2.nf, h2.wf, ?_⟩
    obtain ⟨arr, a1, a2, a3, a4⟩ := h2.cells
    refine ⟨arr, a1, a2, a3, fun i j x y b1 b2 => ?_⟩
    obtain ⟨v, c1, c2⟩ := a4 i j x y b1 b2
    exact ⟨v, c1, c2.bnd (bndL_get (bndLL_get hb b1) b2)⟩
  · have hid : id < h'.length := (List.getElem?_eq_some_iff.1 e1).1
    have hid' : id' < h'.length := (List.getElem?_eq_some_iff.1 e1').1
    try simp only [] at e2 e2'
    rw [if_pos hid] at e2
    rw [if_pos hid'] at e2'
    have h1 := (subH0_get hh id r e1).1
    have h2 := (subH0_get hh id' r' e1').1
    rw [Nat.zero_add] at h1 h2
    exact hst.sat.inj _ _ _ _ ri ri' h1 h2 e2 e2' hb
  · rcases subT0_get ht t with h1 | ⟨h1, h2⟩
    · rw [h1]; exact .any _
    · have := hst.rel t
      rw [h1] at this
      exact this.bnd h2
  · try simp only [] at e
    split at e
    · exact hst.rno _ ri e
    · cases e
section
variable {P : Program} {O : Nat → Prop} {w0 : Ctx} {N : Nat} {tm : TM} {h : Heap} {Q : Exit → TM → Heap → Prop}
theorem IW.cut {c : Code} {tm' : TM} {h' : Heap} (ht : subT0 h'.length tm tm') (hh : subH0 h'.length h 0 h') (h0 : ∀ id ri, w0.r id = some ri → id < h'.length) (hi : IW P O w0 N c tm' h' Q) : IW P O w0 N c tm h Q := IW.ent (Ent.cut ht hh h0) hi
/-- A loop by a number that each round brings nearer to an end. -/
theorem wrap_eq {n : Int} (h1 : -9223372036854775808 ≤ n) (h2 : n ≤ 9223372036854775807) : IntKind.i64.wrap n = n := by
  rw [IntKind.wrap_i64]; omega
end
theorem arr_getD {α : Type} (l : List α) (i : Nat) (d : α) : l.toArray.getD i d = l.getD i d := by simp [Array.getD_eq_getD_getElem?, List.getD_eq_getElem?_getD]
attribute [go_sem] arr_getD Array.toList_append Array.toList_map List.nil_append SV.bnd bndL bndLL subT0 subH0 decide_eq_true_eq
end Go.IL

set_option linter.unusedVariables false
set_option linter.unusedSimpArgs false
namespace Go.IL
open Go.RowKit
theorem rei_agg (n : Nat) (h : Heap) (cs : List SV) : rei (n + 1) h (.agg cs) = .agg (cs.map (rei n h)) := rfl
theorem rei_clo (n : Nat) (h : Heap) (f : FuncId) (cs : List SV) : rei (n + 1) h (.clo f cs) = .clo f (cs.map (rei n h)) := rfl
theorem rei_sl (n : Nat) (h : Heap) (o : Bool) (xs : List (List SV)) : rei (n + 1) h (.sl o xs) = .sl true (xs.map fun x => x.map (rei n h)) := rfl
theorem rei_int (n : Nat) (h : Heap) (k : IntKind) (m : Int) : rei (n + 1) h (.int k m) = .int k m := rfl
theorem rei_bool (n : Nat) (h : Heap) (b : Bool) : rei (n + 1) h (.bool b) = .bool b := rfl
theorem rei_str (n : Nat) (h : Heap) (s : ByteArray) : rei (n + 1) h (.str s) = .str s := rfl
theorem rei_nils (n : Nat) (h : Heap) : rei (n + 1) h .nils = .nils := rfl
theorem rei_nilp (n : Nat) (h : Heap) : rei (n + 1) h .nilp = .nilp := rfl
theorem rei_raw (n : Nat) (h : Heap) (v : Value) : rei (n + 1) h (.raw v) = .raw v := rfl
theorem rei_ref (n : Nat) (h : Heap) (id off m : Nat) (hc : off + m ≤ (rowXs h id).length ∧ (hrow h id).isSome = true) : rei (n + 1) h (.ref id off m) = .sl true ((((rowXs h id).drop off).take m).map fun x => x.map (rei n h)) := by simp only [rei, if_pos hc]
/-! ### Lists of numbers -/
def nums (k : IntKind) (xs : List Int) : List (List SV) := xs.map fun x => [.int k x]
theorem nums_nil (k : IntKind) : nums k [] = [] := rfl
theorem nums_length (k : IntKind) (xs : List Int) : (nums k xs).length = xs.length := by simp [nums]
theorem nums_at {k : IntKind} {xs : List Int} {i : Nat} (h : i < xs.length) : (nums k xs).getD i [] = [.int k (xs.getD i 0)] := by simp [nums, h]
theorem nums_bnd (k : IntKind) (n : Nat) : ∀ xs : List Int, bndLL n (nums k xs) = true
  | [] => rfl
  | x :: xs => by show bndLL n ([SV.int k x] :: nums k xs) = true; simp [bndLL, bndL, SV.bnd, nums_bnd k n xs]
theorem nums_nold (k : IntKind) : ∀ xs : List Int, noldLL (nums k xs) = true
  | [] => rfl
  | x :: xs => by show noldLL ([SV.int k x] :: nums k xs) = true; simp [noldLL, noldL, SV.nold, nums_nold k xs]
theorem nums_ren (k : IntKind) (σ : Nat → Nat) (xs : List Int) : renLL σ (nums k xs) = nums k xs := by
  rw [renLL_map]; simp [nums, renL, SV.ren]
theorem nums_rei (k : IntKind) (n : Nat) (h : Heap) (xs : List Int) : (nums k xs).map (fun x => x.map (rei (n + 1) h)) = nums k xs := by simp [nums, rei]
theorem nums_set (k : IntKind) (xs : List Int) (i : Nat) (x : Int) : (nums k xs).set i [.int k x] = nums k (xs.set i x) := by simp [nums, List.map_set]
theorem nums_replicate (k : IntKind) (n : Nat) (x : Int) : List.replicate n [SV.int k x] = nums k (List.replicate n x) := by simp [nums]
section
variable {tab : Tab} {tm : TM} {h : Heap}
theorem Fin.scal {t : Nat} {sv : SV} (h1 : sv.nold = true) (h2 : sv.ren (sg [] h.length) = sv) (e : tm.get t = sv) : Fin tab [.tmp t] sv [] .ret tm h :=
  ⟨⟨trivial, trivial⟩, h1, rfl, [], rfl, List.nodup_nil, e.trans h2.symm, trivial⟩
/-- A result that lies in a variable. -/
theorem Fin.cell {p T : Nat} {sv : SV} (h0 : (match tm.get p with | .ptr _ _ _ => True | _ => False) ∧ loadO (tab T) h (tm.get p)) (h1 : sv.nold = true) (h2 : sv.ren (sg [] h.length) = sv) (e : loadV (tab T) h (tm.get p) = sv) : Fin tab [.cell p T] sv [] .ret tm h :=
  ⟨⟨h0, trivial⟩, h1, rfl, [], rfl, List.nodup_nil, e.trans h2.symm, trivial⟩
end
theorem cast0 : ((0 : Nat) : Int) = 0 := rfl
attribute [go_sem] cast0 rei_agg rei_clo rei_sl rei_int rei_bool rei_str rei_nils rei_nilp rei_raw nums_nil nums_length nums_bnd nums_nold nums_ren nums_rei nums_set SV.ren renL renLL SV.nold noldL noldLL List.map_map SV.bool.injEq SV.int.injEq SV.str.injEq beqF beqT
end Go.IL

set_option linter.unusedVariables false
set_option linter.unusedSimpArgs false
namespace Go.IL
open Go.RowKit
section
variable {P : Program} {tab : Tab} {ops : Array Oper}
/-- What a slice holds that is read. -/
def srcO (h : Heap) : SV → Option (List (List SV))
  | .ref id off n => if off + n ≤ (rowXs h id).length then some (((rowXs h id).drop off).take n) else none
  | .sl _ xs => some xs
  | _ => none
theorem src_rel {ρ : Rho} {O F : Nat → Prop} {w : World} {h : Heap} {s : SV} {v : Value} {ys : List (List SV)} (hs : Sat ρ O F h w) (hv : VRel ρ O F w s v) (hy : srcO h s = some ys) (hp : 0 < ys.length) :
    ∃ a c k, v = .slice (some a) ys.length c ∧ (∀ x ∈ ys, x.length = k) ∧ ∀ (i j : Nat) (x : List SV) (y : SV), ys[i]? = some x → x[j]? = some y → ∃ u, w.cell? (a.add (i * k + j)) = some u ∧ VRel ρ O F w y u := by
  cases hv <;> simp only [srcO] at hy <;> try (cases hy; done)
  case ref id off n cap ri hρ h1 h2 h3 =>
    split at hy
    · rename_i hle
      cases hy
      have hlen : (((rowXs h id).drop off).take n).length = n := by simp; omega
      rw [hlen] at hp
      cases hr : hrow h id with
      | none => simp [rowXs, hr] at hle; omega
      | some r =>
        have hR := hs.row id r ri (hrow_some hr) hρ
        have exs : rowXs h id = r.xs := by simp [rowXs, hr]
        rw [exs] at hle hlen ⊢
        obtain ⟨arr, e1, e2, e3, e4⟩ := hR.cells
        refine ⟨⟨ri.b, off * ri.k, none⟩, cap, r.k, by rw [hlen], fun x hx => hR.wf x (List.mem_of_mem_drop (List.mem_of_mem_take hx)), fun i j x y f1 f2 => ?_⟩
        have hi : i < n := by have := (List.getElem?_eq_some_iff.1 f1).1; omega
        have f3 : r.xs[off + i]? = some x := by rwa [List.getElem?_take_of_lt hi, List.getElem?_drop] at f1
        obtain ⟨u, f4, f5⟩ := e4 (off + i) j x y f3 f2
        refine ⟨u, ?_, f5⟩
        rw [addr_add]
        simp only [World.cell?, e1, hR.k]
        rw [← Nat.add_assoc, ← Nat.add_mul]
        simpa using f4
    · cases hy
  case sl o xs a cap k cs hk h1 h2 ha hh =>
    cases hy
    obtain ⟨b, off, rfl, _, hc⟩ := ha hp
    refine ⟨⟨b, off, none⟩, cap, k, rfl, hk, fun i j x y f1 f2 => ⟨cs i j, ?_, hh i j x y f1 f2⟩⟩
    have hi := (List.getElem?_eq_some_iff.1 f1).1
    have hj : j < k := by rw [← hk x (List.mem_of_getElem? f1)]; exact (List.getElem?_eq_some_iff.1 f2).1
    rw [addr_add, ← Nat.add_assoc]
    exact hc i j hi hj
/-- The cells, one behind the other. -/
theorem src_news {ρ : Rho} {O F : Nat → Prop} {w : World} {ys : List (List SV)} {k : Nat} {a : Addr} (hk : 0 < k) (hw : ∀ x ∈ ys, x.length = k) (hsc : (ys.all fun x => x.all scal) = true)
    (hc : ∀ (i j : Nat) (x : List SV) (y : SV), ys[i]? = some x → x[j]? = some y → ∃ u, w.cell? (a.add (i * k + j)) = some u ∧ VRel ρ O F w y u) :
    ∃ news : List Value, news.length = ys.length * k ∧ (∀ j u, news[j]? = some u → w.cell? (a.add j) = some u) ∧ (∀ u ∈ news, u.oneCell' = true) ∧
      ∀ (i j : Nat) (x : List SV) (y : SV), ys[i]? = some x → x[j]? = some y → ∃ u, news[i * k + j]? = some u ∧ VRel ρ O F w y u := by
  have hat : ∀ t, t < ys.length * k → ∃ (x : List SV) (y : SV) (u : Value), ys[t / k]? = some x ∧ x[t % k]? = some y ∧ w.cell? (a.add t) = some u ∧ VRel ρ O F w y u := fun t ht => by
    have hi : t / k < ys.length := Nat.div_lt_of_lt_mul (by rwa [Nat.mul_comm])
    have hj : t % k < (ys[t / k]).length := by rw [hw _ (List.getElem_mem hi)]; exact Nat.mod_lt _ hk
    have e1 : ys[t / k]? = some ys[t / k] := by simp [hi]
    have e2 : (ys[t / k])[t % k]? = some ((ys[t / k])[t % k]) := by simp [hj]
    obtain ⟨u, h1, h2⟩ := hc _ _ _ _ e1 e2
    rw [Nat.mul_comm, Nat.div_add_mod] at h1
    exact ⟨_, _, u, e1, e2, h1, h2⟩
  refine ⟨(List.range (ys.length * k)).map fun t => (w.cell? (a.add t)).getD undef, by simp, fun j u e => ?_, fun u hu => ?_, fun i j x y e1 e2 => ?_⟩
  · rw [List.getElem?_map] at e
    obtain ⟨t, ht, rfl⟩ := Option.map_eq_some_iff.1 e
    obtain ⟨h1, rfl⟩ := List.getElem?_eq_some_iff.1 ht
    simp only [List.length_range] at h1
    obtain ⟨_, _, u, _, _, h2, _⟩ := hat j h1
    simp [h2]
  · obtain ⟨t, ht, rfl⟩ := List.mem_map.1 hu
    rw [List.mem_range] at ht
    obtain ⟨x, y, u, h1, h2, h3, h4⟩ := hat t ht
    rw [h3]
    have := List.all_eq_true.1 (List.all_eq_true.1 hsc x (List.mem_of_getElem? h1)) y (List.mem_of_getElem? h2)
    exact (scal_one h4 this).2
  · obtain ⟨u, h1, h2⟩ := hc i j x y e1 e2
    refine ⟨u, ?_, h2⟩
    have hi := (List.getElem?_eq_some_iff.1 e1).1
    have hj : j < k := by rw [← hw x (List.mem_of_getElem? e1)]; exact (List.getElem?_eq_some_iff.1 e2).1
    have hlt : i * k + j < ys.length * k := by
      have : (i + 1) * k ≤ ys.length * k := Nat.mul_le_mul_right _ hi
      rw [Nat.add_mul] at this; omega
    rw [List.getElem?_map, List.getElem?_range hlt]
    simp [h1]
def rowE (h : Heap) (id : Nat) : TypeId := match hrow h id with | some r => r.elem | none => 0
/-- A row goes on in the same block or in a new one; its old number is gone. -/
theorem St.regrow {O : Nat → Prop} {w0 : Ctx} {N : Nat} {ρ : Rho} {F : Nat → Prop} {tm : TM} {h : Heap} {a : Act} {w w' : World} (hst : St O w0 N ρ F tm h a w) {id : Nat} {r : Row} {ri : RI} (hr : h[id]? = some (some r)) (hρ : ρ id = some ri)
    {dst : Option Nat} (hd : ∀ d, dst = some d → d < N) {g : Nat} {xs : List (List SV)} {arr : Array Value} {n cap : Nat} (hg : g = ri.b ∨ g = w.heap.size) (hw : ∀ x ∈ xs, x.length = r.k) (hsz : arr.size = cap * r.k) (hn : xs.length ≤ cap) (hcm : cap ≤ 9223372036854775807)
    (hgrow : w.grownBy w' (some ri.b)) (hnew : w'.heap[g]? = some (.cells arr r.elem (0, 0))) (he : r.elem < softK) (hnl : xs.length = n)
    (hc : ∀ (i j : Nat) (x : List SV) (y : SV), xs[i]? = some x → x[j]? = some y → ∃ v, arr[i * r.k + j]? = some v ∧ VRel ρ O F w y v) :
    ∃ ρ' F', St O w0 N ρ' F' (tm.put dst (.ref h.length 0 n)) (h.set id none ++ [some ⟨r.k, r.elem, xs⟩]) (a.put dst (.slice (some ⟨g, 0, none⟩) n cap)) w' := by
  have hR := hst.sat.row id r ri hr hρ
  have hid : id < h.length := (List.getElem?_eq_some_iff.1 hr).1
  have hfree : ρ h.length = none := hst.free _ (Nat.le_refl _)
  have hI : ∀ o b, Im O F o b → Im O F o b ∧ w'.heap[b]? = w.heap[b]? := fun o b hb => by
    have hlt : b < w.heap.size := hst.sat.lt b (hb.elim .inr fun h => .inl h.2)
    refine ⟨hb, hgrow.block b hlt ?_⟩
    rintro e; cases e
    rcases hb with hb | ⟨_, hb⟩
    · exact hR.nf hb
    · exact hR.no hb
  have hρ' : ∀ id' ri', ρ id' = some ri' → (fun i => if i = h.length then some (⟨g, r.k, cap * r.k⟩ : RI) else ρ i) id' = some ri' := fun id' ri' e => by
    have : id' ≠ h.length := by rintro rfl; rw [hfree] at e; cases e
    simp only [if_neg this]; exact e
  have hgO : ¬ O g := by
    rcases hg with rfl | rfl
    · exact hR.no
    · intro ho; exact Nat.lt_irrefl _ (hst.sat.lt _ (.inl ho))
  have hgF : ¬ F g := by
    rcases hg with rfl | rfl
    · exact hR.nf
    · intro ho; exact Nat.lt_irrefl _ (hst.sat.lt _ (.inr ho))
  have hg' : g < w'.heap.size := (Array.getElem?_eq_some_iff.1 hnew).1
  have hold : ∀ id' r', id' ≠ h.length → (h.set id none ++ [some (⟨r.k, r.elem, xs⟩ : Row)])[id']? = some (some r') → id' ≠ id ∧ h[id']? = some (some r') := fun id' r' hne e => by
    rcases Nat.lt_or_ge id' h.length with hlt | hge
    · rw [List.getElem?_append_left (by simpa using hlt)] at e
      by_cases he : id = id'
      · subst he; rw [List.getElem?_set_self hid] at e; cases e
      · rw [List.getElem?_set_ne he] at e; exact ⟨fun h => he h.symm, e⟩
    · rw [List.getElem?_eq_none (by simp; omega)] at e; cases e
  have hnewr : ∀ r', (h.set id none ++ [some (⟨r.k, r.elem, xs⟩ : Row)])[h.length]? = some (some r') → r' = ⟨r.k, r.elem, xs⟩ := fun r' e => by
    rw [List.getElem?_append_right (by simp)] at e
    simp at e; exact e.symm
  have hneb : ∀ id' r' ri', id' ≠ id → h[id']? = some (some r') → ρ id' = some ri' → ri'.b ≠ g := fun id' r' ri' hne e1 e2 => by
    rcases hg with rfl | rfl
    · intro hb; exact hne (hst.sat.inj id' id r' r ri' ri e1 hr e2 hρ hb)
    · have := (hst.sat.row id' r' ri' e1 e2).lt; omega
  refine ⟨fun i => if i = h.length then some ⟨g, r.k, cap * r.k⟩ else ρ i, F, ⟨fun id' r' ri' e1 e2 => ?_, fun id1 id2 r1 r2 ri1 ri2 e1 e2 e3 e4 hb => ?_, fun b hb => Nat.lt_of_lt_of_le (hst.sat.lt b hb) hgrow.size⟩, hst.defers.next (Act.put_defers' _ _ _) fun D e => (hgrow.block D (Array.getElem?_eq_some_iff.1 e).1 (by intro h; cases h; obtain ⟨_, h1, _⟩ := hR.cells; rw [h1] at e; cases e)).trans e, by rw [Act.put_size]; exact hst.size, fun t => ?_,
    ⟨hgrow.os.trans hst.keep.os, hgrow.tape.trans hst.keep.tape, hgrow.output.trans hst.keep.output, Nat.le_trans hst.keep.size hgrow.size, fun b hb => (hgrow.block b (hst.sat.lt b (.inl hb)) (by rintro e; cases e; exact hR.no hb)).trans (hst.keep.block b hb), fun b o e e' => (hgrow.block b (Array.getElem?_eq_some_iff.1 (hst.keep.books b o e e')).1 (by intro h; cases h; obtain ⟨_, h1, _⟩ := hR.cells; have h2 := hst.keep.books _ _ e e'; rw [h1] at h2; cases h2; cases e')).trans (hst.keep.books b o e e')⟩,
    fun id' h' => ?_, fun id' ri' e => ?_, hst.fno, fun id' ri' e => hρ' _ _ (hst.ext0 _ _ e)⟩
  · by_cases e : id' = h.length
    · subst e
      simp only [if_true] at e2
      cases e2
      cases hnewr r' e1
      refine ⟨rfl, hgO, hgF, hw, arr, by rw [tyE_hard he, frE_hard he]; exact hnew, hsz, by rw [hsz]; exact Nat.mul_le_mul_right _ hn, fun i j x y f1 f2 => ?_⟩
      obtain ⟨v, h1, h2⟩ := hc i j x y f1 f2
      exact ⟨v, h1, h2.mono hρ' hI⟩
    · simp only [if_neg e] at e2
      obtain ⟨hne, h1⟩ := hold id' r' e e1
      have h2 := hst.sat.row id' r' ri' h1 e2
      refine ⟨h2.k, h2.no, h2.nf, h2.wf, ?_⟩
      obtain ⟨arr', a1, a2, a3, a4⟩ := h2.cells
      refine ⟨arr', (hgrow.block _ h2.lt ?_).trans a1, a2, a3, fun i j x y f1 f2 => ?_⟩
      · intro e; exact hne (hst.sat.inj id' id r' r ri' ri h1 hr e2 hρ (Option.some.inj e))
      · obtain ⟨v, h5, h6⟩ := a4 i j x y f1 f2
        exact ⟨v, h5, h6.mono hρ' hI⟩
  · by_cases c1 : id1 = h.length <;> by_cases c2 : id2 = h.length
    · rw [c1, c2]
    · subst c1
      simp only [if_true, if_neg c2] at e3 e4
      cases e3
      obtain ⟨hne, h1⟩ := hold id2 r2 c2 e2
      exact absurd hb.symm (hneb id2 r2 ri2 hne h1 e4)
    · subst c2
      simp only [if_true, if_neg c1] at e3 e4
      cases e4
      obtain ⟨hne, h1⟩ := hold id1 r1 c1 e1
      exact absurd hb (hneb id1 r1 ri1 hne h1 e3)
    · simp only [if_neg c1, if_neg c2] at e3 e4
      exact hst.sat.inj id1 id2 r1 r2 ri1 ri2 (hold id1 r1 c1 e1).2 (hold id2 r2 c2 e2).2 e3 e4 hb
  · rw [Act.put_getD hst.size hd, TM.get_put]
    by_cases e : dst = some t
    · simp only [e, if_true]
      have := VRel.ref (ρ := fun i => if i = h.length then some (⟨g, r.k, cap * r.k⟩ : RI) else ρ i) (O := O) (F := F) (w := w') h.length 0 n cap ⟨g, r.k, cap * r.k⟩ (by simp) (by omega) (by simp) hcm
      simpa using this
    · simp only [e, if_false]; exact (hst.rel t).mono hρ' hI
  · have : id' ≠ h.length := by simp at h'; omega
    simp only [if_neg this]
    exact hst.free id' (by simp at h'; omega)
  · by_cases c : id' = h.length
    · subst c; simp only [if_true] at e; cases e; exact hgO
    · simp only [if_neg c] at e; exact hst.rno id' ri' e
/-- append onto a row of the call's own. -/
theorem opS_append (hT : TabOk P tab) {O : Nat → Prop} {w0 : Ctx} {N : Nat} {dst : Option Nat} {T e ty : TypeId} {pos : String} {after : Array Edge} {tm : TM} {h : Heap} {x y : Operand} {id n m : Nat} {ys : List (List SV)}
    (hx : opnd tm x = .ref id 0 n) (hy : srcO h (opnd tm y) = some ys) (hm : ys.length = m) (hm0 : 0 < m) (hsh : (tab T).shape = .slice e) (hty : hasTy (tab e)) (hpos : 0 < (tab e).size)
    (hn : n ≤ (rowXs h id).length) (hs : (hrow h id).isSome = true) (hk : rowK h id = (tab e).size) (hel : rowE h id = e) (hw : ∀ x ∈ ys, x.length = (tab e).size) (hsc : (ys.all fun x => x.all scal) = true)
    (hb : (n + m) * (tab e).bytes ≤ 140737488355328) (hN : n + m ≤ 9223372036854775807) (hd : ∀ d, dst = some d → d < N) :
    OpS P O w0 N ⟨dst, .call ⟨.builtin .append, #[x, y], #[T, T]⟩, ty, pos, after, none⟩ tm h (tm.put dst (.ref h.length 0 (n + m))) (h.set id none ++ [some ⟨(tab e).size, e, (rowXs h id).take n ++ ys⟩]) := by
  intro ρ F a w hst next Q hq
  have hvx := opnd_rel (a := a) x (fun t _ => hst.rel t)
  have hvy := opnd_rel (a := a) y (fun t _ => hst.rel t)
  rw [hx] at hvx
  generalize hax : a.eval x = vx at hvx
  generalize hay : a.eval y = vy at hvy
  subst hm
  obtain ⟨ad, c, k', rfl, hk', hcell⟩ := src_rel hst.sat hvy hy hm0
  have hkk : k' = (tab e).size := by
    have h1 : ys[0]? = some ys[0] := by simp [hm0]
    have h2 := hw _ (List.mem_of_getElem? h1)
    have h3 := hk' _ (List.mem_of_getElem? h1)
    omega
  subst hkk
  obtain ⟨news, hl, hnews, hone, hnc⟩ := src_news hpos hw hsc hcell
  obtain ⟨r, hr⟩ := Option.isSome_iff_exists.1 hs
  have hr' := hrow_some hr
  have exs : rowXs h id = r.xs := by simp [rowXs, hr]
  have ek : rowK h id = r.k := by simp [rowK, hr]
  have ee : rowE h id = r.elem := by simp [rowE, hr]
  rw [exs] at hn hq
  rw [ek] at hk
  rw [ee] at hel
  subst hel
  have hF := hT.ty hty
  obtain ⟨inf, z, hi, hi1, hi2, hi3, hi4⟩ := hF.info
  have hzc : z.cells.size = (tab r.elem).size := by
    have : CRel ρ O F w (tab r.elem).zero z.cells := zero_rel hi4
    rw [← this.1, hF.zlen]
  cases hvx with
  | ref _ _ _ cap ri hρ h1 h2 h3 =>
    have hR := hst.sat.row id r ri hr' hρ
    obtain ⟨arr, e1, e2, e3, e4⟩ := hR.cells
    rw [Nat.zero_add] at h2
    rw [Nat.zero_mul] at hax
    rw [tyE_hard hF.lt, frE_hard hF.lt] at e1
    have hnk : n * r.k ≤ arr.size := Nat.le_trans (Nat.mul_le_mul_right _ hn) e3
    have hown : w.ownsRow 0 r.elem (tab r.elem).size (.slice (some ⟨ri.b, 0, none⟩) n cap) n (arr.toList.take (n * r.k)) :=
      ⟨by rw [List.length_take, Array.length_toList, Nat.min_eq_left hnk, hk], .inr ⟨ri.b, cap, arr, rfl, Nat.zero_le _, e1, h1, by simpa [maxLen] using h3, by rw [e2, ← h2, hR.k, hk], by rw [hk]⟩⟩
    obtain ⟨v', w', hrun, hown', hgrow, _, hat⟩ := run_append_own_at (P := P) w 0 T ty r.elem inf z (tab r.elem).size (tab r.elem).bytes (slice_under hT hsh) hi hi3 hi1 hi2 hzc hpos _ n _ hown ad ys.length c news hl hnews hone (by simpa [maxLen] using hN) hb (Nat.zero_le _)
    have hexec : (execOp a.eval ⟨dst, .call ⟨.builtin .append, #[x, y], #[T, T]⟩, ty, pos, after, none⟩).run P w = .ok (.value v') w' := by
      simp only [execOp, resolve, invoke, builtin, Sem.run_bind, Sem.run_pure, Result.andThen_ok, List.map_toArray, List.map_cons, List.map_nil, hax, hay, hrun]
    simp only [Oper.wp, hexec, Oper.upon]
    obtain ⟨g', cap', cur, rfl, _, g1, g2, g3, g4, g5⟩ : ∃ g cap cur, v' = .slice (some ⟨g, 0, none⟩) (n + ys.length) cap ∧ 0 ≤ g ∧ w'.heap[g]? = some (.cells cur r.elem (0, 0)) ∧ n + ys.length ≤ cap ∧ cap ≤ maxLen ∧ cur.size = cap * (tab r.elem).size ∧ cur.toList.take ((n + ys.length) * (tab r.elem).size) = arr.toList.take (n * r.k) ++ news := by
      rcases hown'.2 with ⟨_, h0⟩ | h0
      · omega
      · exact h0
    have hcur : ∀ t u, (arr.toList.take (n * r.k) ++ news)[t]? = some u → cur[t]? = some u := fun t u ht => by
      rw [← g5] at ht
      rw [List.getElem?_take] at ht
      split at ht
      · simpa using ht
      · cases ht
    have hlt' : (arr.toList.take (n * r.k)).length = n * r.k := by rw [List.length_take, Array.length_toList, Nat.min_eq_left hnk]
    obtain ⟨ρ', F', hst'⟩ := hst.regrow hr' hρ (dst := dst) hd (g := g') (xs := r.xs.take n ++ ys) (arr := cur) (n := n + ys.length) (cap := cap')
      (by simp only [Value.ownBlock, Option.some.injEq] at hat; exact hat) (fun x hx => by
        rcases List.mem_append.1 hx with hx | hx
        · exact hR.wf x (List.mem_of_mem_take hx)
        · rw [hk]; exact hw x hx) (by rw [g4, hk]) (by simp; omega) (by simpa [maxLen] using g3) hgrow g1 hF.lt (by simp; omega)
      (fun i j x y f1 f2 => by
        rcases Nat.lt_or_ge i n with hin | hin
        · rw [List.getElem?_append_left (by simp; omega), List.getElem?_take_of_lt hin] at f1
          obtain ⟨v, a1, a2⟩ := e4 i j x y f1 f2
          refine ⟨v, hcur _ _ ?_, a2⟩
          have hj : j < r.k := by rw [← hR.wf x (List.mem_of_getElem? f1)]; exact (List.getElem?_eq_some_iff.1 f2).1
          have : (i + 1) * r.k ≤ n * r.k := Nat.mul_le_mul_right _ hin
          rw [Nat.add_mul] at this
          rw [List.getElem?_append_left (by rw [hlt']; omega), List.getElem?_take_of_lt (by omega)]
          simpa using a1
        · rw [List.getElem?_append_right (by simp; omega)] at f1
          simp only [List.length_take, Nat.min_eq_left hn] at f1
          obtain ⟨u, a1, a2⟩ := hnc (i - n) j x y f1 f2
          refine ⟨u, hcur _ _ ?_, a2⟩
          have e5 : i * r.k = n * r.k + (i - n) * r.k := by rw [← Nat.add_mul]; congr 1; omega
          rw [List.getElem?_append_right (by rw [hlt', e5]; omega), hlt', ← hk] at *
          rw [← a1]; congr 1; omega)
    rw [hk] at hst'
    exact hq ρ' F' _ _ hst'
/-- append onto nothing. -/
theorem opB_append_nil (hT : TabOk P tab) {dst : Option Nat} {T e ty : TypeId} {pos : String} {after : Array Edge} {guard : Option (Nat × Bool)} {g : Operand → SV} {h : Heap} {x y : Operand} {m : Nat} {ys : List (List SV)}
    (hx : g x = .nils) (hy : srcO h (g y) = some ys) (hm : ys.length = m) (hm0 : 0 < m) (hsh : (tab T).shape = .slice e) (hty : hasTy (tab e)) (hpos : 0 < (tab e).size)
    (hw : ∀ x ∈ ys, x.length = (tab e).size) (hsc : (ys.all fun x => x.all scal) = true) (hb : m * (tab e).bytes ≤ 140737488355328) (hN : m ≤ 9223372036854775807) :
    OpB P ⟨dst, .call ⟨.builtin .append, #[x, y], #[T, T]⟩, ty, pos, after, guard⟩ g h (.ref h.length 0 m) [some ⟨(tab e).size, e, ys⟩] := by
  intro ρ O F w a hs hr hfree next Q hn
  have hvx := hr x (by simp [Op.operands, Call.operands])
  have hvy := hr y (by simp [Op.operands, Call.operands])
  rw [hx] at hvx
  generalize hax : a.eval x = vx at hvx
  generalize hay : a.eval y = vy at hvy
  cases hvx
  subst hm
  obtain ⟨ad, c, k', rfl, hk', hcell⟩ := src_rel hs hvy hy hm0
  have hkk : k' = (tab e).size := by
    have h1 : ys[0]? = some ys[0] := by simp [hm0]
    have h2 := hw _ (List.mem_of_getElem? h1)
    have h3 := hk' _ (List.mem_of_getElem? h1)
    omega
  subst hkk
  obtain ⟨news, hl, hnews, hone, hnc⟩ := src_news hpos hw hsc hcell
  have hF := hT.ty hty
  obtain ⟨inf, z, hi, hi1, hi2, hi3, hi4⟩ := hF.info
  have hzc : z.cells.size = (tab e).size := by
    have : CRel ρ O F w (tab e).zero z.cells := zero_rel hi4
    rw [← this.1, hF.zlen]
  obtain ⟨v', w', hrun, hown', hgrow, _, hat⟩ := run_append_own_at (P := P) w 0 T ty e inf z (tab e).size (tab e).bytes (slice_under hT hsh) hi hi3 hi1 hi2 hzc hpos (.slice none 0 0) 0 [] (World.ownsRow_nil w 0 e _) ad ys.length c news hl hnews hone (by simpa [maxLen] using hN) (by simpa using hb) (Nat.zero_le _)
  have hexec : (execOp a.eval ⟨dst, .call ⟨.builtin .append, #[x, y], #[T, T]⟩, ty, pos, after, guard⟩).run P w = .ok (.value v') w' := by
    simp only [execOp, resolve, invoke, builtin, Sem.run_bind, Sem.run_pure, Result.andThen_ok, List.map_toArray, List.map_cons, List.map_nil, hax, hay, hrun]
  simp only [Oper.wp, hexec, Oper.upon]
  simp only [Nat.zero_add, List.nil_append] at hown'
  obtain ⟨g', cap', cur, rfl, _, g1, g2, g3, g4, g5⟩ : ∃ g cap cur, v' = .slice (some ⟨g, 0, none⟩) ys.length cap ∧ 0 ≤ g ∧ w'.heap[g]? = some (.cells cur e (0, 0)) ∧ ys.length ≤ cap ∧ cap ≤ maxLen ∧ cur.size = cap * (tab e).size ∧ cur.toList.take (ys.length * (tab e).size) = news := by
    rcases hown'.2 with ⟨_, h0⟩ | h0
    · omega
    · exact h0
  have hg' : g' = w.heap.size := by simpa [Value.ownBlock] using hat
  subst hg'
  have hcur : ∀ t u, news[t]? = some u → cur[t]? = some u := fun t u ht => by
    rw [← g5] at ht
    rw [List.getElem?_take] at ht
    split at ht
    · simpa using ht
    · cases ht
  have hf0 : ρ h.length = none := hfree _ (Nat.le_refl _) (by simp)
  have hx' : Ext ρ F w (fun i => if i = h.length then some ⟨w.heap.size, (tab e).size, cap' * (tab e).size⟩ else ρ i) F w' := by
    refine ⟨fun id ri e => ?_, fun id ri e e' => ?_, fun _ e => e, fun _ e e' => absurd e e', ⟨hgrow.os, hgrow.tape, hgrow.output, hgrow.size, fun b hb => hgrow.block b hb (by simp [Value.ownBlock])⟩⟩
    · have : id ≠ h.length := by rintro rfl; rw [hf0] at e; cases e
      simp only [if_neg this]; exact e
    · by_cases c : id = h.length
      · subst c; simp only [if_true] at e; cases e; exact Nat.le_refl _
      · simp only [if_neg c] at e; rw [e'] at e; cases e
  refine hn _ _ F w' hx' (fun id e => ?_) ⟨fun id' r' ri' e1 e2 => ?_, fun id1 id2 r1 r2 ri1 ri2 e1 e2 e3 e4 hb => ?_, fun b hb => Nat.lt_of_lt_of_le (hs.lt b hb) hgrow.size⟩ ?_
  · by_cases c : id = h.length
    · subst c; simp
    · simp only [if_neg c] at e; exact absurd rfl e
  · by_cases c : id' = h.length
    · subst c
      simp only [if_true] at e2
      cases e2
      rw [List.getElem?_append_right (Nat.le_refl _)] at e1
      simp at e1
      subst e1
      refine ⟨rfl, fun ho => Nat.lt_irrefl _ (hs.lt _ (.inl ho)), fun ho => Nat.lt_irrefl _ (hs.lt _ (.inr ho)), hw, cur, by rw [tyE_hard hF.lt, frE_hard hF.lt]; exact g1, g4, by rw [g4]; exact Nat.mul_le_mul_right _ g2, fun i j x y f1 f2 => ?_⟩
      obtain ⟨u, a1, a2⟩ := hnc i j x y f1 f2
      exact ⟨u, hcur _ _ a1, a2.ext hs.lt hx'⟩
    · simp only [if_neg c] at e2
      have hlt : id' < h.length := by
        have := (List.getElem?_eq_some_iff.1 e1).1
        simp at this; omega
      rw [List.getElem?_append_left hlt] at e1
      exact (hs.row id' r' ri' e1 e2).ext hs.lt hx'
  · have hlt : ∀ id r, id ≠ h.length → (h ++ [some (⟨(tab e).size, e, ys⟩ : Row)])[id]? = some (some r) → h[id]? = some (some r) := fun id r c e => by
      have : id < h.length := by
        have := (List.getElem?_eq_some_iff.1 e).1
        simp at this; omega
      rwa [List.getElem?_append_left this] at e
    by_cases c1 : id1 = h.length <;> by_cases c2 : id2 = h.length
    · rw [c1, c2]
    · subst c1
      simp only [if_true, if_neg c2] at e3 e4
      cases e3
      have := (hs.row id2 r2 ri2 (hlt id2 r2 c2 e2) e4).lt
      simp only [] at hb; omega
    · subst c2
      simp only [if_true, if_neg c1] at e3 e4
      cases e4
      have := (hs.row id1 r1 ri1 (hlt id1 r1 c1 e1) e3).lt
      simp only [] at hb; omega
    · simp only [if_neg c1, if_neg c2] at e3 e4
      exact hs.inj id1 id2 r1 r2 ri1 ri2 (hlt id1 r1 c1 e1) (hlt id2 r2 c2 e2) e3 e4 hb
  · have := VRel.ref (ρ := fun i => if i = h.length then some (⟨w.heap.size, (tab e).size, cap' * (tab e).size⟩ : RI) else ρ i) (O := O) (F := F) (w := w') h.length 0 ys.length cap' ⟨w.heap.size, (tab e).size, cap' * (tab e).size⟩ (by simp) (by omega) (by simp) (by simpa [maxLen] using g3)
    simpa using this
end
attribute [go_sem] srcO rowE
end Go.IL

set_option linter.unusedVariables false
set_option linter.unusedSimpArgs false
namespace Go.IL
open Go.RowKit
/-- A slice that is nil is one without elements. -/
def nz : SV → SV
  | .nils => .sl true []
  | .agg [a, b, .nils] => .agg [a, b, .sl true []]
  | s => s
theorem nz_rel {ρ : Rho} {O F : Nat → Prop} {w : World} {s : SV} {v : Value} (h : VRel ρ O F w s v) : VRel ρ O F w (nz s) v := by
  have key : ∀ v, VRel ρ O F w .nils v → VRel ρ O F w (.sl true []) v := fun v h => by
    cases h
    exact .sl true [] none 0 0 (fun _ _ => undef) (by simp) (by simp) (by omega) (by simp) (by simp)
  unfold nz
  split
  · exact key _ h
  · rename_i a b
    cases h with
    | agg cs vs hl hh =>
      refine .agg _ vs (by simpa using hl) fun i c v e1 e2 => ?_
      match i with
      | 0 => exact hh 0 c v (by simpa using e1) e2
      | 1 => exact hh 1 c v (by simpa using e1) e2
      | 2 => simp at e1; subst e1; exact key _ (hh 2 .nils v rfl e2)
      | i + 3 => simp at e1
  · exact h
theorem FSpec.nz {P : Program} {f : FuncId} {svs svs' : List SV} {sv : SV} {rows : List Row} (h : FSpec P f svs sv rows) (e : svs'.map Go.IL.nz = svs) : FSpec P f svs' sv rows := by
  subst e
  refine ⟨h.1, fun w cargs hA => h.2 w cargs ⟨by simpa using hA.1, fun i s v e1 e2 => ?_⟩⟩
  rw [List.getElem?_map] at e1
  obtain ⟨s', h1, rfl⟩ := Option.map_eq_some_iff.1 e1
  exact nz_rel (hA.2 i s' v h1 e2)
theorem nz_nils : nz .nils = .sl true [] := rfl
theorem nz_agg_nils (a b : SV) : nz (.agg [a, b, .nils]) = .agg [a, b, .sl true []] := rfl
theorem nz_agg_sl (a b : SV) (o : Bool) (xs : List (List SV)) : nz (.agg [a, b, .sl o xs]) = .agg [a, b, .sl o xs] := rfl
theorem nz_agg2 (a b : SV) : nz (.agg [a, b]) = .agg [a, b] := rfl
theorem nz_agg1 (a : SV) : nz (.agg [a]) = .agg [a] := rfl
theorem nz_int (k : IntKind) (n : Int) : nz (.int k n) = .int k n := rfl
theorem nz_bool (b : Bool) : nz (.bool b) = .bool b := rfl
theorem nz_str (b : ByteArray) : nz (.str b) = .str b := rfl
theorem nz_sl (o : Bool) (xs : List (List SV)) : nz (.sl o xs) = .sl o xs := rfl
theorem nz_clo (f : FuncId) (cs : List SV) : nz (.clo f cs) = .clo f cs := rfl
/-- A list made place by place, the first m of n. -/
def upto (f : Nat → Int) (n m : Nat) : List Int := (List.range n).map fun t => if t < m then f t else 0
theorem upto_length (f : Nat → Int) (n m : Nat) : (upto f n m).length = n := by simp [upto]
theorem upto_zero (f : Nat → Int) (n : Nat) : upto f n 0 = List.replicate n 0 := by
  apply List.ext_getElem
  · simp [upto]
  · intro i h1 h2; simp [upto]
theorem upto_set (f : Nat → Int) (n m : Nat) : (upto f n m).set m (f m) = upto f n (m + 1) := by
  apply List.ext_getElem
  · simp [upto]
  · intro i h1 h2
    simp only [upto, List.getElem_set, List.getElem_map, List.getElem_range]
    by_cases e : m = i
    · subst e; simp
    · rw [if_neg e]
      by_cases h : i < m
      · rw [if_pos h, if_pos (by omega)]
      · rw [if_neg h, if_neg (by omega)]
theorem upto_all (f : Nat → Int) (n : Nat) : upto f n n = (List.range n).map f := by
  apply List.ext_getElem
  · simp [upto]
  · intro i h1 h2
    simp only [upto, List.getElem_map, List.getElem_range]
    rw [if_pos (by simpa [upto] using h1)]
/-- An image that a function gives back: none (no sides, no pixels), or sides and pixels. -/
abbrev Img := Option (Nat × Nat × List Int)
def imgSV : Img → SV
  | none => .agg [.int .i64 0, .int .i64 0, .nils]
  | some (w, h, p) => .agg [.int .i64 w, .int .i64 h, .ref 0 0 p.length]
def imgRows : Img → List Row
  | none => []
  | some (_, _, p) => [⟨1, 5, nums .u8 p⟩]
section
variable {P : Program} {tab : Tab} {tm : TM} {h : Heap}
/-- A result that lies in a variable, with one row. -/
theorem Fin.cell1 {p T : Nat} {sv : SV} {r : Row} (i : Nat) (h0 : (match tm.get p with | .ptr _ _ _ => True | _ => False) ∧ loadO (tab T) h (tm.get p)) (h1 : sv.nold = true) (h3 : noldLL r.xs = true)
    (e : loadV (tab T) h (tm.get p) = sv.ren (sg [i] h.length)) (h4 : hrow h i = some (r.ren (sg [i] h.length))) : Fin tab [.cell p T] sv [r] .ret tm h :=
  ⟨⟨h0, trivial⟩, h1, by simp [rowsNold, h3], [i], rfl, (by simp), e, ⟨h4, trivial⟩⟩
theorem Fin.tmp1 {t : Nat} {sv : SV} {r : Row} (i : Nat) (h1 : sv.nold = true) (h3 : noldLL r.xs = true)
    (e : tm.get t = sv.ren (sg [i] h.length)) (h4 : hrow h i = some (r.ren (sg [i] h.length))) : Fin tab [.tmp t] sv [r] .ret tm h :=
  ⟨⟨trivial, trivial⟩, h1, by simp [rowsNold, h3], [i], rfl, (by simp), e, ⟨h4, trivial⟩⟩
end
theorem nums_scal (k : IntKind) (xs : List Int) : ((nums k xs).all fun x => x.all scal) = true := by simp [nums, scal]
theorem nums_w (k : IntKind) (xs : List Int) : ∀ x ∈ nums k xs, x.length = 1 := by simp [nums]
theorem nums_snoc (k : IntKind) (xs : List Int) (x : Int) : nums k xs ++ [[.int k x]] = nums k (xs ++ [x]) := by simp [nums]
theorem nums_takelen (k : IntKind) (xs : List Int) : (nums k xs).take xs.length = nums k xs := List.take_of_length_le (by simp [nums])
attribute [go_sem] nz_nils nz_agg_nils nz_agg_sl nz_agg2 nz_agg1 nz_int nz_bool nz_str nz_sl nz_clo upto_length nums_scal nums_replicate nums_takelen nums_snoc Row.ren sg List.length_set List.length_append
end Go.IL

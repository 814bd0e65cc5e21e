/- The laws by which a program's operations are followed: values, rows, calls, loops, maps. -/
import Derived.Test.YtnbpbehlemaeoaaB1
import Derived.Maps.RangeRun
import Derived.MapKept
import Derived.Carry
import Derived.RangeFuncNested
import Derived.RangeFuncCalls
import Derived.OrdersIn
import Derived.TacticsIn
import Derived.Laws.StructEq
import Derived.Lib.Builder
import Derived.Lib.UnsafeStr
import Derived.StillTail
set_option linter.unusedVariables false
set_option linter.unusedSimpArgs false
namespace Go.IL
open Go.RowKit
open Go.ChangeMaps (setBlock)
mutual
/-- There is no map in it. -/
def SV.nomap : SV → Bool
  | .agg cs | .tup cs | .clo _ cs => nomapL cs
  | .sl _ xs => nomapLL xs
  | .rptr _ x _ => nomapL x
  | .mp _ _ | .it _ _ _ => false
  | .cnd _ v => v.nomap
  | _ => true
def nomapL : List SV → Bool
  | [] => true
  | s :: r => s.nomap && nomapL r
def nomapLL : List (List SV) → Bool
  | [] => true
  | s :: r => nomapL s && nomapLL r
end
theorem nomapL_get : ∀ {l : List SV} {i : Nat} {s : SV}, nomapL l = true → l[i]? = some s → s.nomap = true
  | _ :: _, 0, _, h, e => by simp at e; subst e; simp [nomapL] at h; exact h.1
  | _ :: _, i + 1, _, h, e => by simp [nomapL] at h; exact nomapL_get h.2 (by simpa using e)
theorem nomapLL_get : ∀ {l : List (List SV)} {i : Nat} {s : List SV}, nomapLL l = true → l[i]? = some s → nomapL s = true
  | _ :: _, 0, _, h, e => by simp at e; subst e; simp [nomapLL] at h; exact h.1
  | _ :: _, i + 1, _, h, e => by simp [nomapLL] at h; exact nomapLL_get h.2 (by simpa using e)
theorem nums_nomap (k : IntKind) : ∀ xs : List Int, nomapLL (nums k xs) = true
  | [] => rfl
  | x :: xs => by show nomapLL ([SV.int k x] :: nums k xs) = true; simp [nomapLL, nomapL, SV.nomap, nums_nomap k xs]
/-- One block, no cells before or behind, turns. -/
theorem VRel.turn {ρ : Rho} {O F : Nat → Prop} {w w' : World} {b : Nat} (hoth : ∀ b', b' ≠ b → w'.heap[b']? = w.heap[b']?) (hnc : ∀ off, w.cell? ⟨b, off, none⟩ = none) {s : SV} {v : Value} (h : VRel ρ O F w s v) : s.nomap = true → VRel ρ O F w' s v := by
  have hcell : ∀ b' off u, w.cell? ⟨b', off, none⟩ = some u → w'.cell? ⟨b', off, none⟩ = some u := fun b' off u e => by
    have : b' ≠ b := by rintro rfl; rw [hnc] at e; cases e
    rw [cell_of_heap (hoth b' this), e]
  induction h with
  | any v => intro _; exact .any v
  | bool b => intro _; exact .bool b
  | int k n => intro _; exact .int k n
  | str s => intro _; exact .str s
  | raw v => intro _; exact .raw v
  | agg cs vs hl _ ih => intro hn; simp only [SV.nomap] at hn; exact .agg cs vs hl fun i c v e1 e2 => ih i c v e1 e2 (nomapL_get hn e1)
  | tup cs vs hl _ ih => intro hn; simp only [SV.nomap] at hn; exact .tup cs vs hl fun i c v e1 e2 => ih i c v e1 e2 (nomapL_get hn e1)
  | ptr id i j ri h => intro _; exact .ptr id i j ri h
  | ref id off m cap ri h h1 hc hm => intro _; exact .ref id off m cap ri h h1 hc hm
  | sl o xs a cap k cs hk hcap hm ha _ ih =>
    intro hn
    simp only [SV.nomap] at hn
    refine .sl o xs a cap k cs hk hcap hm (fun hp => ?_) fun i j x y e1 e2 => ih i j x y e1 e2 (nomapL_get (nomapLL_get hn e1) e2)
    obtain ⟨b', off, e, hb, hc⟩ := ha hp
    exact ⟨b', off, e, hb, fun i j hi hj => hcell _ _ _ (hc i j hi hj)⟩
  | rptr o x j b' off cs hb ha _ ih =>
    intro hn
    simp only [SV.nomap] at hn
    exact .rptr o x j b' off cs hb (fun i hi => hcell _ _ _ (ha i hi)) fun i y e => ih i y e (nomapL_get hn e)
  | mp => intro hn; cases hn
  | it => intro hn; cases hn
  | nils => intro _; exact .nils
  | nilp => intro _; exact .nilp
  | clo f cs vs hl _ ih => intro hn; simp only [SV.nomap] at hn; exact .clo f cs vs hl fun i c v e1 e2 => ih i c v e1 e2 (nomapL_get hn e1)
  | cnd g s v _ h0 ih => intro hn; simp only [SV.nomap] at hn; exact .cnd g s v (fun e => ih e hn) h0
/-- The temporaries without their maps. -/
def dropM : TM → TM
  | [] => []
  | (t, s) :: r => (t, bif s.nomap then s else .any) :: dropM r
theorem dropM_get : ∀ (tm : TM) (t : Nat), (dropM tm).get t = bif (tm.get t).nomap then tm.get t else .any
  | [], t => rfl
  | (u, s) :: r, t => by
    simp only [dropM, TM.get]
    by_cases e : u = t
    · simp only [if_pos e]
    · simp only [if_neg e]; exact dropM_get r t
def nomapH : Heap → Bool
  | [] => true
  | none :: r => nomapH r
  | some x :: r => nomapLL x.xs && nomapH r
theorem nomapH_get : ∀ {h : Heap} {i : Nat} {r : Row}, nomapH h = true → h[i]? = some (some r) → nomapLL r.xs = true
  | none :: _, 0, _, h, e => by simp at e
  | some x :: _, 0, _, h, e => by simp at e; subst e; simp [nomapH] at h; exact h.1
  | none :: _, i + 1, _, h, e => by simp only [nomapH] at h; exact nomapH_get h (by simpa using e)
  | some x :: _, i + 1, _, h, e => by simp [nomapH] at h; exact nomapH_get h.2 (by simpa using e)
section
variable {P : Program} {tab : Tab} {ops : Array Oper} {O : Nat → Prop} {w0 : Ctx} {N : Nat}
theorem St.turn {ρ : Rho} {F : Nat → Prop} {tm : TM} {h : Heap} {a : Act} {w w' : World} (hst : St O w0 N ρ F tm h a w) {b : Nat} (hF : F b) (hh : nomapH h = true) (hoth : ∀ b', b' ≠ b → w'.heap[b']? = w.heap[b']?) (hnc : ∀ off, w.cell? ⟨b, off, none⟩ = none)
    (hos : w'.os = w.os) (htape : w'.tape = w.tape) (hnd : ∀ o : Obj, book o = true → w.heap[b]? ≠ some o) (hout : w'.output = w.output) (hsz : w'.heap.size = w.heap.size) : St O w0 N ρ F (dropM tm) h a w' := by
  refine ⟨⟨fun id r ri e1 e2 => ?_, hst.sat.inj, fun b hb => by rw [hsz]; exact hst.sat.lt b hb⟩, hst.defers.next rfl (fun D e => (hoth D (by rintro rfl; exact hnd _ rfl e)).trans e), hst.size, fun t => ?_, ⟨hos.trans hst.keep.os, htape.trans hst.keep.tape, hout.trans hst.keep.output, by rw [hsz]; exact hst.keep.size, fun b' hb => (hoth b' (by rintro rfl; exact hst.fno _ hF hb)).trans (hst.keep.block b' hb), fun b' o e e' => (hoth b' (by rintro rfl; exact hnd o e' (hst.keep.books _ o e e'))).trans (hst.keep.books b' o e e')⟩, hst.free, hst.rno, hst.fno, hst.ext0⟩
  · have h1 := hst.sat.row id r ri e1 e2
    refine ⟨h1.k, h1.no, h1.nf, h1.wf, ?_⟩
    obtain ⟨arr, a1, a2, a3, a4⟩ := h1.cells
    refine ⟨arr, (hoth _ (by rintro e; exact h1.nf (e ▸ hF))).trans a1, a2, a3, fun i j x y f1 f2 => ?_⟩
    obtain ⟨v, g1, g2⟩ := a4 i j x y f1 f2
    exact ⟨v, g1, g2.turn hoth hnc (nomapL_get (nomapLL_get (nomapH_get hh e1) f1) f2)⟩
  · rw [dropM_get]
    cases hm : (tm.get t).nomap with
    | true => exact (hst.rel t).turn hoth hnc hm
    | false => exact .any _
theorem run_gom {b clock : Nat} {es : Array MapEntry} {w : World} (hb : w.heap[b]? = some (.map es clock)) : (getObj b).run P w = .ok (.map es clock) w := by simp [getObj, Sem.run, hb]
theorem run_som {b clock : Nat} {es : Array MapEntry} {w : World} (o : Obj) (hb : w.heap[b]? = some (.map es clock)) : (setObj b o).run P w = .ok () { w with heap := w.heap.setIfInBounds b o } := by simp [setObj, Sem.run, hb]
/-- make(map[K]V) -/
theorem opB_makeMap {dst : Option Nat} {T ty : TypeId} {pos : String} {after : Array Edge} {guard : Option (Nat × Bool)} {g : Operand → SV} {h : Heap} :
    OpB P ⟨dst, .makeMap T none, ty, pos, after, guard⟩ g h (.mp false []) [] := by
  intro ρ O F w a hs hr hfree next Q hn
  have hexec : (execOp a.eval ⟨dst, .makeMap T none, ty, pos, after, guard⟩).run P w = .ok (.value (.map (some w.heap.size))) (w.alloc (.map #[] 0)) := by
    simp only [execOp, Option.map_none]
    rw [run_bind, run_makeMap]
    rfl
  simp only [Oper.wp, hexec, Oper.upon]
  have hx : Ext ρ F w ρ (fun b => F b ∨ b = w.heap.size) (w.alloc (.map #[] 0)) :=
    ⟨fun _ _ h => h, fun id ri h h' => (by rw [h'] at h; cases h), fun _ h => .inl h, fun b h h' => by rcases h with h | h; exact absurd h h'; omega, (Below.refl _ _).alloc (Nat.le_refl _) _⟩
  refine hn _ ρ _ _ hx (fun id e => absurd rfl e) ⟨fun id r ri e1 e2 => ?_, fun id id' r r' ri ri' e1 e1' e2 e2' hb => ?_, fun b hb => ?_⟩ ?_
  · rw [List.append_nil] at e1
    exact (hs.row id r ri e1 e2).ext hs.lt hx
  · rw [List.append_nil] at e1 e1'
    exact hs.inj id id' r r' ri ri' e1 e1' e2 e2' hb
  · rw [World.alloc_size]
    rcases hb with hb | hb | hb
    · have := hs.lt b (.inl hb); omega
    · have := hs.lt b (.inr hb); omega
    · omega
  · exact .mp false [] w.heap.size #[] (fun _ _ => undef) (.inl (.inr rfl)) (World.alloc_get _ _) (by simp) rfl (by simp) (by simp)
/-- Keys that are ints, none of them n. -/
def keysNe (n : Int) : List (List SV) → Bool
  | [] => true
  | [.int .i64 m, _] :: r => (m != n) && keysNe n r
  | _ => false
theorem keysNe_get {n : Int} : ∀ {xs : List (List SV)} {i : Nat} {x : List SV}, keysNe n xs = true → xs[i]? = some x → ∃ m v, x = [.int .i64 m, v] ∧ m ≠ n
  | x :: r, i, y, h, e => by
    unfold keysNe at h
    split at h
    · rename_i e0; cases e0
    · rename_i m v r' e0
      cases e0
      simp only [Bool.and_eq_true, bne_iff_ne, ne_eq] at h
      cases i with
      | zero => simp at e; subst e; exact ⟨m, v, rfl, h.1⟩
      | succ i => exact keysNe_get h.2 (by simpa using e)
    · cases h
theorem findNow_none {k : Int} : ∀ (es : List MapEntry) (i : Nat), (∀ e ∈ es, ∃ m, e.key = .int .i64 m ∧ m ≠ k) → Instr.findNow (.int .i64) (.int .i64 k) es i = some none
  | [], _, _ => rfl
  | e :: es, i, h => by
    obtain ⟨m, h1, h2⟩ := h e (by simp)
    have h3 := findNow_none es (i + 1) fun e he => h e (by simp [he])
    unfold Instr.findNow
    rw [h1]
    have : (k == m) = false := by simp; exact fun h => h2 h.symm
    simp only [Instr.sameNow, if_true, this]
    exact h3
theorem run_checkKey_int {kt : TypeId} (hk : P.underlying kt = some (.int .i64)) (e : Bool) (n : Nat) (k : Int) (w : World) : (Instr.checkKey e (n + 1) kt (.int .i64 k)).run P w = .ok () w := by
  unfold Instr.checkKey
  rw [run_bind, run_underlying' hk]
  rfl
/-- m[k] = v, k a new key. -/
theorem opS_insert {T kt et ty : TypeId} {pos : String} {after : Array Edge} {tm : TM} {h : Heap} {t : Nat} {k x : Operand} {n : Int} {xs : List (List SV)} (hm : tm.get t = .mp false xs) (hk : opnd tm k = .int .i64 n) (hx : (opnd tm x).nomap = true)
    (hu : P.underlying T = some (.map kt et)) (hkt : P.underlying kt = some (.int .i64)) (hne : keysNe n xs = true) (hh : nomapH h = true) (hxm : nomapLL xs = true) (ht : t < N) :
    OpS P O w0 N ⟨none, .insert T (.tmp t) k x, ty, pos, after, none⟩ tm h ((t, .mp false (xs ++ [[.int .i64 n, opnd tm x]])) :: dropM tm) h := by
  intro ρ F a w hst next Q hn
  have hvm := hst.rel t
  have hvk := opnd_rel (a := a) k (fun t _ => hst.rel t)
  have hvx := opnd_rel (a := a) x (fun t _ => hst.rel t)
  rw [hm] at hvm
  rw [hk] at hvk
  generalize ham : a.tmps.getD t undef = vm at hvm
  generalize hak : a.eval k = vk at hvk
  generalize hax : a.eval x = vx at hvx
  cases hvk
  cases hvm with
  | mp _ _ b es cs hb hw hk2 hsz he hh2 =>
    have hFb : F b := hb.resolve_right fun h => by cases h.1
    have hfind : Instr.findNow (.int .i64) (.int .i64 n) es.toList 0 = some none := findNow_none _ _ fun e he' => by
      obtain ⟨i, hi⟩ := List.mem_iff_getElem?.1 he'
      have hi' : es[i]? = some e := by simpa using hi
      have hlt : i < xs.length := by rw [← hsz]; exact (Array.getElem?_eq_some_iff.1 hi').1
      obtain ⟨m, v, h1, h2⟩ := keysNe_get hne (show xs[i]? = some xs[i] by simp [hlt])
      rw [he i hlt] at hi'
      cases hi'
      have h3 := hh2 i 0 _ (.int .i64 m) (show xs[i]? = some xs[i] by simp [hlt]) (by rw [h1]; rfl)
      generalize cs i 0 = c at h3
      cases h3
      exact ⟨m, rfl, h2⟩
    have hrun : (Instr.mapUpdate T (.map (some b)) (.int .i64 n) vx).run P w = .ok () (setBlock w b (.map (es.push ⟨.int .i64 n, vx, xs.length⟩) (xs.length + 1))) := by
      simp only [Instr.mapUpdate]
      rw [run_bind, run_underlying' hu]
      simp only []
      rw [run_bind, run_gom hw]
      simp only []
      rw [run_bind, run_checkKey_int hkt]
      simp only []
      rw [run_bind]
      unfold Instr.findKey
      rw [run_bind, run_underlying' hkt]
      simp only [hfind, run_pure]
      rw [run_som _ hw]
      rfl
    have hexec : (execOp a.eval ⟨none, .insert T (.tmp t) k x, ty, pos, after, none⟩).run P w = .ok .skip (setBlock w b (.map (es.push ⟨.int .i64 n, vx, xs.length⟩) (xs.length + 1))) := by
      simp only [execOp, hak, hax]
      rw [show a.eval (.tmp t) = .map (some b) from ham, run_bind, hrun]
      rfl
    simp only [Oper.wp, hexec, Oper.upon]
    have hblt : b < w.heap.size := (Array.getElem?_eq_some_iff.1 hw).1
    have hoth : ∀ b', b' ≠ b → (setBlock w b (.map (es.push ⟨.int .i64 n, vx, xs.length⟩) (xs.length + 1))).heap[b']? = w.heap[b']? := fun b' hb' => by
      simp only [setBlock]; rw [Array.getElem?_setIfInBounds_ne (fun h => hb' h.symm)]
    have hnc : ∀ off, w.cell? ⟨b, off, none⟩ = none := fun off => by simp [World.cell?, hw]
    have hst' := hst.turn (w' := setBlock w b (.map (es.push ⟨.int .i64 n, vx, xs.length⟩) (xs.length + 1))) hFb hh hoth hnc rfl rfl (fun o ho e => by rw [hw] at e; cases e; cases ho) rfl (by simp [setBlock])
    refine hn ρ F (a.put none undef) _ ⟨hst'.sat, hst'.defers, hst'.size, fun u => ?_, hst'.keep, hst'.free, hst'.rno, hst'.fno, hst'.ext0⟩
    simp only [TM.get]
    by_cases e : t = u
    · rw [if_pos e, ← e, show (a.put none undef).tmps.getD t undef = a.tmps.getD t undef from rfl, ham]
      refine .mp false _ b (es.push ⟨.int .i64 n, vx, xs.length⟩) (fun i j => if i < xs.length then cs i j else if j = 0 then .int .i64 n else vx) (.inl hFb) (by simp [setBlock, hblt]) (fun x hx => ?_) (by simp [hsz]) (fun i hi => ?_) fun i j x y e1 e2 => ?_
      · rcases List.mem_append.1 hx with hx | hx
        · exact hk2 x hx
        · simp at hx; subst hx; rfl
      · simp only [List.length_append, List.length_singleton] at hi
        by_cases c : i < xs.length
        · rw [Array.getElem?_push_lt (by omega)]
          have := he i c
          rw [Array.getElem?_eq_getElem (by omega)] at this
          simp only [if_pos c]
          exact this
        · simp only [if_neg c]
          rw [show i = es.size by omega, Array.getElem?_push_size]
          simp [hsz]
      · by_cases c : i < xs.length
        · rw [List.getElem?_append_left c] at e1
          simp only [if_pos c]
          exact (hh2 i j x y e1 e2).turn hoth hnc (nomapL_get (nomapLL_get hxm e1) e2)
        · rw [List.getElem?_append_right (by omega)] at e1
          simp only [if_neg c]
          cases hi : i - xs.length with
          | succ _ => rw [hi] at e1; simp at e1
          | zero =>
            rw [hi] at e1; simp at e1; subst e1
            match j with
            | 0 => simp at e2; subst e2; exact .int _ _
            | 1 => simp at e2; subst e2; exact hvx.turn hoth hnc hx
            | j + 2 => simp at e2
    · rw [if_neg e]; exact hst'.rel u
/-- The entry of a key. -/
def lk (n : Int) : List (List SV) → Option SV
  | [] => none
  | [.int .i64 m, v] :: r => bif m == n then some v else lk n r
  | _ => none
def keysI : List (List SV) → Bool
  | [] => true
  | [.int .i64 _, _] :: r => keysI r
  | _ => false
theorem lk_find {ρ : Rho} {F : Nat → Prop} {w : World} {n : Int} : ∀ (xs : List (List SV)) (es : List MapEntry) (i : Nat), keysI xs = true → es.length = xs.length →
    (∀ (j : Nat) (x : List SV) (e : MapEntry), xs[j]? = some x → es[j]? = some e → ∀ y, x[0]? = some y → VRel ρ O F w y e.key) →
    (∀ (j : Nat) (x : List SV) (e : MapEntry), xs[j]? = some x → es[j]? = some e → ∀ y, x[1]? = some y → VRel ρ O F w y e.val) →
    (lk n xs = none ∧ Instr.findNow (.int .i64) (.int .i64 n) es i = some none) ∨ ∃ s v j, lk n xs = some s ∧ Instr.findNow (.int .i64) (.int .i64 n) es i = some (some (j, v)) ∧ VRel ρ O F w s v
  | [], [], i, _, _, _, _ => .inl ⟨rfl, rfl⟩
  | [], _ :: _, i, _, hl, _, _ => by simp at hl
  | _ :: _, [], i, _, hl, _, _ => by simp at hl
  | x :: xs, e :: es, i, hk, hl, h0, h1 => by
    unfold keysI at hk
    split at hk
    · rename_i e0; cases e0
    · rename_i m v r' e0
      cases e0
      have hkey := h0 0 _ e rfl rfl (.int .i64 m) rfl
      have hval := h1 0 _ e rfl rfl v rfl
      generalize hek : e.key = ek at hkey
      cases hkey
      by_cases c : m = n
      · subst c
        refine .inr ⟨v, e.val, i, by simp [lk], ?_, hval⟩
        unfold Instr.findNow
        rw [hek]; simp [Instr.sameNow]
      · have ih := lk_find (n := n) _ es (i + 1) hk (by simpa using hl) (fun j x e' a1 a2 => h0 (j + 1) x e' (by simpa using a1) (by simpa using a2)) (fun j x e' a1 a2 => h1 (j + 1) x e' (by simpa using a1) (by simpa using a2))
        have e1 : lk n ([SV.int .i64 m, v] :: xs) = lk n xs := by
          have : (m == n) = false := by simpa using c
          simp [lk, this]
        have e2 : Instr.findNow (.int .i64) (.int .i64 n) (e :: es) i = Instr.findNow (.int .i64) (.int .i64 n) es (i + 1) := by
          conv => lhs; unfold Instr.findNow
          rw [hek]
          have : (n == m) = false := by simp; exact fun h => c h.symm
          simp [Instr.sameNow, this]
        rw [e1, e2]; exact ih
    · cases hk
/-- v, ok := m[k] -/
theorem opB_lookup (hT : TabOk P tab) {dst : Option Nat} {T kt et ty : TypeId} {pos : String} {after : Array Edge} {guard : Option (Nat × Bool)} {g : Operand → SV} {h : Heap} {x k : Operand} {o : Bool} {xs : List (List SV)} {n : Int}
    (hx : g x = .mp o xs) (hk : g k = .int .i64 n) (hu : P.underlying T = some (.map kt et)) (hkt : P.underlying kt = some (.int .i64)) (hty : hasTy (tab et)) (hz : (tab et).zero = [.nils]) (hagg : (tab et).agg = false) (hki : keysI xs = true) :
    OpB P ⟨dst, .lookup T x k true, ty, pos, after, guard⟩ g h (match lk n xs with | some s => .tup [s, .bool true] | none => .tup [.nils, .bool false]) [] := by
  intro ρ O F w a hs hr hfree next Q hn
  have hvx := hr x (by simp [Op.operands])
  have hvk := hr k (by simp [Op.operands])
  rw [hx] at hvx
  rw [hk] at hvk
  generalize hax : a.eval x = vx at hvx
  generalize hak : a.eval k = vk at hvk
  cases hvk
  cases hvx with
  | mp _ _ b es cs hb hw hk2 hsz he hh2 =>
    have hfk := lk_find (O := O) (ρ := ρ) (F := F) (w := w) (n := n) xs es.toList 0 hki (by simpa using hsz) (fun j x e e1 e2 y e3 => by
      have hlt := (List.getElem?_eq_some_iff.1 e1).1
      have e4 : es[j]? = some e := by simpa using e2
      rw [he j hlt] at e4; cases e4
      exact hh2 j 0 x y e1 e3) (fun j x e e1 e2 y e3 => by
      have hlt := (List.getElem?_eq_some_iff.1 e1).1
      have e4 : es[j]? = some e := by simpa using e2
      rw [he j hlt] at e4; cases e4
      exact hh2 j 1 x y e1 e3)
    have hrun : ∃ v, (Instr.lookup T (.map (some b)) (.int .i64 n) true).run P w = .ok v w ∧ VRel ρ O F w (match lk n xs with | some s => .tup [s, .bool true] | none => .tup [.nils, .bool false]) v := by
      simp only [Instr.lookup]
      rw [run_bind, run_underlying' hu]
      simp only []
      rw [run_bind, run_gom hw]
      simp only []
      rw [run_bind, run_pure]
      simp only []
      rw [run_bind, run_checkKey_int hkt]
      simp only []
      rcases hfk with ⟨h1, h2⟩ | ⟨s, v, j, h1, h2, h3⟩
      · obtain ⟨z, hz1, hz2⟩ := (hT.ty hty).zeroValue
        have hzn : VRel ρ O F w .nils z := by
          have := zero_rel (ρ := ρ) (O := O) (F := F) (w := w) hz1
          rw [hz] at this
          obtain ⟨c1, c2⟩ := this
          cases z <;> simp only [Value.cells, List.length_cons, List.length_nil, List.size_toArray] at c1 c2
          case agg cs' => unfold zeroOk at hz1; rw [hagg, hz] at hz1; simp at hz1
          all_goals exact c2 0 .nils _ rfl rfl
        refine ⟨.tuple #[z, .bool false], ?_, ?_⟩
        · rw [run_bind]
          unfold Instr.findKey
          rw [run_bind, run_underlying' hkt]
          simp only [h2, run_pure]
          rw [run_bind, hz2]
          simp only [run_bind, run_pure, if_true]
        · rw [h1]
          refine .tup _ _ rfl fun i c v e1 e2 => ?_
          match i with
          | 0 => simp at e1 e2; subst e1; subst e2; exact hzn
          | 1 => simp at e1 e2; subst e1; subst e2; exact .bool _
          | i + 2 => simp at e1
      · refine ⟨.tuple #[v, .bool true], ?_, ?_⟩
        · rw [run_bind]
          unfold Instr.findKey
          rw [run_bind, run_underlying' hkt]
          simp only [h2, run_bind, run_pure, if_true]
        · rw [h1]
          refine .tup _ _ rfl fun i c u e1 e2 => ?_
          match i with
          | 0 => simp at e1 e2; subst e1; subst e2; exact h3
          | 1 => simp at e1 e2; subst e1; subst e2; exact .bool _
          | i + 2 => simp at e1
    obtain ⟨v, hrun, hvv⟩ := hrun
    have hexec : (execOp a.eval ⟨dst, .lookup T x k true, ty, pos, after, guard⟩).run P w = .ok (.value v) w := by
      simp only [execOp, hax, hak]
      rw [run_bind, hrun]
      rfl
    simp only [Oper.wp, hexec, Oper.upon]
    exact hn v ρ F w (Ext.refl _ _ _) (fun id e => absurd rfl e) (by rw [List.append_nil]; exact hs) hvv
end
end Go.IL

set_option linter.unusedVariables false
set_option linter.unusedSimpArgs false
namespace Go.IL
open Go.RowKit
open Go.ChangeMaps (setBlock)
section
variable {P : Program} {tab : Tab} {ops : Array Oper} {O : Nat → Prop} {w0 : Ctx} {N : Nat}
/-- range over a map -/
theorem opB_range {dst : Option Nat} {T kt et ty : TypeId} {pos : String} {after : Array Edge} {guard : Option (Nat × Bool)} {g : Operand → SV} {h : Heap} {x : Operand} {o : Bool} {xs : List (List SV)}
    (hx : g x = .mp o xs) (hu : P.underlying T = some (.map kt et)) : OpB P ⟨dst, .range T x, ty, pos, after, guard⟩ g h (.it o xs []) [] := by
  intro ρ O F w a hs hr hfree next Q hn
  have hvx := hr x (by simp [Op.operands])
  rw [hx] at hvx
  generalize hax : a.eval x = vx at hvx
  cases hvx with
  | mp _ _ b es cs hb hw hk2 hsz he hh2 =>
    have hexec : (execOp a.eval ⟨dst, .range T x, ty, pos, after, guard⟩).run P w = .ok (.value (.pointer (some ⟨w.heap.size, 0, none⟩))) (w.alloc (.mapIter (some b) xs.length #[] xs.length)) := by
      simp only [execOp, Instr.range, hax]
      rw [run_bind, run_bind, run_underlying' hu]
      simp only []
      rw [run_bind, run_gom hw]
      simp only []
      rw [run_bind, run_pure]
      simp only []
      rw [run_bind, run_newObj_alloc]
      rfl
    simp only [Oper.wp, hexec, Oper.upon]
    have hx : Ext ρ F w ρ (fun b => F b ∨ b = w.heap.size) (w.alloc (.mapIter (some b) xs.length #[] xs.length)) :=
      ⟨fun _ _ h => h, fun id ri h h' => (by rw [h'] at h; cases h), fun _ h => .inl h, fun b h h' => by rcases h with h | h; exact absurd h h'; omega, (Below.refl _ _).alloc (Nat.le_refl _) _⟩
    have hblt : b < w.heap.size := (Array.getElem?_eq_some_iff.1 hw).1
    refine hn _ ρ _ _ hx (fun id e => absurd rfl e) ⟨fun id r ri e1 e2 => ?_, fun id id' r r' ri ri' e1 e1' e2 e2' hb => ?_, fun b hb => ?_⟩ ?_
    · rw [List.append_nil] at e1
      exact (hs.row id r ri e1 e2).ext hs.lt hx
    · rw [List.append_nil] at e1 e1'
      exact hs.inj id id' r r' ri ri' e1 e1' e2 e2' hb
    · rw [World.alloc_size]
      rcases hb with hb | hb | hb
      · have := hs.lt b (.inl hb); omega
      · have := hs.lt b (.inr hb); omega
      · omega
    · exact .it o xs [] w.heap.size b es cs (.inr rfl) (World.alloc_get _ _) (hb.imp .inl id) ((hx.below.block b hblt).trans hw) hk2 hsz he fun i j x y e1 e2 => (hh2 i j x y e1 e2).ext hs.lt hx
theorem St.drew {ρ : Rho} {F : Nat → Prop} {tm : TM} {h : Heap} {a : Act} {w : World} (hst : St O w0 N ρ F tm h a w) : St O w0 N ρ F tm h a w.drew := by
  have hI : ∀ o b, Im O F o b → Im O F o b ∧ w.drew.heap[b]? = w.heap[b]? := fun o b hb => ⟨hb, rfl⟩
  refine ⟨⟨fun id r ri e1 e2 => ?_, hst.sat.inj, hst.sat.lt⟩, hst.defers.next rfl (fun D e => e), hst.size, fun t => (hst.rel t).mono (fun _ _ h => h) hI, ⟨hst.keep.os, hst.keep.tape, hst.keep.output, hst.keep.size, hst.keep.block, hst.keep.books⟩, hst.free, hst.rno, hst.fno, hst.ext0⟩
  have h1 := hst.sat.row id r ri e1 e2
  refine ⟨h1.k, h1.no, h1.nf, h1.wf, ?_⟩
  obtain ⟨arr, a1, a2, a3, a4⟩ := h1.cells
  exact ⟨arr, a1, a2, a3, fun i j x y f1 f2 => (a4 i j x y f1 f2).elim fun v hv => ⟨v, hv.1, hv.2.mono (fun _ _ h => h) hI⟩⟩
theorem St.putv {ρ : Rho} {F : Nat → Prop} {tm : TM} {h : Heap} {a : Act} {w : World} (hst : St O w0 N ρ F tm h a w) {dst : Option Nat} (hd : ∀ d, dst = some d → d < N) {sv : SV} {v : Value} (hv : VRel ρ O F w sv v) : St O w0 N ρ F (tm.put dst sv) h (a.put dst v) w :=
  hst.step (Ext.refl _ _ _) hst.sat hv hd hst.free
def nextOk (n : Nat) (seen : List Nat) : Option Nat → Prop
  | none => ∀ i, i < n → i ∈ seen
  | some j => j < n ∧ j ∉ seen
def nextTo (tm : TM) (h : Heap) (dst : Option Nat) (t : Nat) (o : Bool) (xs : List (List SV)) (seen : List Nat) : Option Nat → TM × Heap
  | none => (tm.put dst (.tup [.bool false]), h)
  | some j => (TM.put ((t, .it o xs (seen ++ [j])) :: dropM tm) dst (.tup [.bool true, cellAt (elAt xs j) 0, cellAt (elAt xs j) 1]), h)
theorem opN_next {ty : TypeId} {pos : String} {after : Array Edge} {tm : TM} {h : Heap} {dst : Option Nat} {t : Nat} {o : Bool} {xs : List (List SV)} {seen : List Nat} (hm : tm.get t = .it o xs seen) (hh : nomapH h = true) (hxm : nomapLL xs = true) (hd : ∀ d, dst = some d → d < N) :
    OpN P O w0 N ⟨dst, .next (.tmp t) false, ty, pos, after, none⟩ tm h (nextOk xs.length seen) (nextTo tm h dst t o xs seen) := by
  intro ρ F a w hst next Q hn
  have hvm := hst.rel t
  rw [hm] at hvm
  generalize ham : a.tmps.getD t undef = vm at hvm
  cases hvm with
  | it _ _ _ r b es cs hr hrw hb hw hk2 hsz he hh2 =>
    have hborn : ∀ e ∈ es.toList, ∃ i, i < xs.length ∧ es[i]? = some e ∧ e.born = i := fun e hm => by
      obtain ⟨i, hi⟩ := List.mem_iff_getElem?.1 hm
      have hi' : es[i]? = some e := by simpa using hi
      have hlt : i < xs.length := by rw [← hsz]; exact (Array.getElem?_eq_some_iff.1 hi').1
      refine ⟨i, hlt, hi', ?_⟩
      rw [he i hlt] at hi'; cases hi'; rfl
    have hev : a.eval (.tmp t) = .pointer (some ⟨r, 0, none⟩) := ham
    rcases run_next_at (P := P) w ty r b xs.length xs.length seen.toArray es xs.length hrw hw (fun x hx => by obtain ⟨i, h1, _, h2⟩ := hborn x hx; omega) (Nat.le_refl _) with ⟨h1, h2⟩ | ⟨e, he1, w1, hw1, h2⟩
    · have hexec : (execOp a.eval ⟨dst, .next (.tmp t) false, ty, pos, after, none⟩).run P w = .ok (.value (.tuple #[.bool false])) w := by
        simp only [execOp, hev]
        rw [run_bind, h2]
        rfl
      simp only [Oper.wp, hexec, Oper.upon]
      refine hn none (fun i hi => ?_) ρ F _ w (hst.putv hd (.tup _ _ rfl fun i c v e1 e2 => ?_))
      · have hemp : leftOf es seen.toArray = #[] := Array.eq_empty_of_size_eq_zero h1
        unfold leftOf at hemp
        rw [Array.filter_eq_empty_iff] at hemp
        have h3 := hemp ⟨cs i 0, cs i 1, i⟩ (Array.mem_of_getElem? (he i hi))
        simpa using h3
      · cases i with
        | zero => simp at e1 e2; subst e1; subst e2; exact .bool _
        | succ i => simp at e1
    · have he2 : e ∈ es.toList ∧ e.born ∉ seen := by
        unfold leftOf at he1
        simp at he1
        exact ⟨by simpa using he1.1, by simpa using he1.2⟩
      obtain ⟨j, hj, hj1, hj2⟩ := hborn e he2.1
      have hst1 : St O w0 N ρ F tm h a w1 := by rcases hw1 with rfl | rfl; exact hst; exact hst.drew
      have hheap : w1.heap = w.heap := by rcases hw1 with rfl | rfl <;> rfl
      have hrlt : r < w1.heap.size := by rw [hheap]; exact (Array.getElem?_eq_some_iff.1 hrw).1
      have hexec : (execOp a.eval ⟨dst, .next (.tmp t) false, ty, pos, after, none⟩).run P w = .ok (.value (.tuple #[.bool true, e.key, e.val])) (setBlock w1 r (.mapIter (some b) xs.length (seen.toArray.push e.born) xs.length)) := by
        simp only [execOp, hev]
        rw [run_bind, h2]
        rfl
      simp only [Oper.wp, hexec, Oper.upon]
      have hoth : ∀ b', b' ≠ r → (setBlock w1 r (.mapIter (some b) xs.length (seen.toArray.push e.born) xs.length)).heap[b']? = w1.heap[b']? := fun b' hb' => by
        simp only [setBlock]; rw [Array.getElem?_setIfInBounds_ne (fun h => hb' h.symm)]
      have hnc : ∀ off, w1.cell? ⟨r, off, none⟩ = none := fun off => by simp [World.cell?, hheap, hrw]
      have hst' := hst1.turn (w' := setBlock w1 r (.mapIter (some b) xs.length (seen.toArray.push e.born) xs.length)) hr hh hoth hnc rfl rfl (fun o ho e => by rw [hheap, hrw] at e; cases e; cases ho) rfl (by simp [setBlock])
      have hbr : b ≠ r := by rintro rfl; rw [hw] at hrw; cases hrw
      have hval : ∀ i j x y, xs[i]? = some x → x[j]? = some y → VRel ρ O F (setBlock w1 r (.mapIter (some b) xs.length (seen.toArray.push e.born) xs.length)) y (cs i j) := fun i j x y e1 e2 =>
        ((hh2 i j x y e1 e2).mono (w' := w1) (fun _ _ h => h) fun o b hb => ⟨hb, by rw [hheap]⟩).turn hoth hnc (nomapL_get (nomapLL_get hxm e1) e2)
      have hst2 : St O w0 N ρ F ((t, .it o xs (seen ++ [j])) :: dropM tm) h a (setBlock w1 r (.mapIter (some b) xs.length (seen.toArray.push e.born) xs.length)) := by
        refine ⟨hst'.sat, hst'.defers, hst'.size, fun u => ?_, hst'.keep, hst'.free, hst'.rno, hst'.fno, hst'.ext0⟩
        simp only [TM.get]
        by_cases c : t = u
        · rw [if_pos c, ← c, ham]
          refine .it o xs (seen ++ [j]) r b es cs hr ?_ hb ((hoth b hbr).trans (by rw [hheap]; exact hw)) hk2 hsz he hval
          simp only [setBlock]
          rw [Array.getElem?_setIfInBounds_self_of_lt hrlt, hj2]
          simp
        · rw [if_neg c]; exact hst'.rel u
      refine hn (some j) ⟨hj, by rw [← hj2]; exact he2.2⟩ ρ F _ _ (hst2.putv hd (.tup _ _ rfl fun i c v e1 e2 => ?_))
      have hx : xs[j]? = some (elAt xs j) := row_at hj
      have hx2 : (elAt xs j).length = 2 := hk2 _ (List.mem_of_getElem? hx)
      have he3 := he j hj
      rw [hj1] at he3
      cases he3
      match i with
      | 0 => simp at e1 e2; subst e1; subst e2; exact .bool _
      | 1 => simp at e1 e2; subst e1; subst e2; exact hval j 0 _ _ hx (rel_at (by omega))
      | 2 => simp at e1 e2; subst e1; subst e2; exact hval j 1 _ _ hx (rel_at (by omega))
      | i + 3 => simp at e1
/-- The round's key and value. -/
theorem opB_entry {dst : Option Nat} {ty : TypeId} {pos : String} {after : Array Edge} {guard : Option (Nat × Bool)} {g : Operand → SV} {h : Heap} {x : Operand} {o : Bool} {xs : List (List SV)} {seen : List Nat} {j : Nat}
    (hx : g x = .it o xs (seen ++ [j])) (hj : j < xs.length) : OpB P ⟨dst, .entry x, ty, pos, after, guard⟩ g h (.tup [cellAt (elAt xs j) 0, cellAt (elAt xs j) 1]) [] := by
  intro ρ O F w a hs hr hfree next Q hn
  have hvx := hr x (by simp [Op.operands])
  rw [hx] at hvx
  generalize hax : a.eval x = vx at hvx
  cases hvx with
  | it _ _ _ r b es cs hrF hrw hb hw hk2 hsz he hh2 =>
    have hrun := run_entry_at (P := P) w r b xs.length seen.toArray es xs.length ⟨cs j 0, cs j 1, j⟩ (by simpa using hrw) hw (by simpa using Array.mem_of_getElem? (he j hj)) (by
      have : es.toList.map (·.born) = List.range xs.length := by
        apply List.ext_getElem
        · simp [hsz]
        · intro i h1 h2
          have h3 : i < xs.length := by simpa using h2
          have := he i h3
          rw [Array.getElem?_eq_getElem (by omega)] at this
          simp only [List.getElem_map, List.getElem_range, Array.getElem_toList]
          rw [Option.some.inj this]
      rw [this]; exact List.nodup_range)
    have hexec : (execOp a.eval ⟨dst, .entry x, ty, pos, after, guard⟩).run P w = .ok (.value (.tuple #[cs j 0, cs j 1])) w := by
      simp only [execOp, hax]
      rw [run_bind, hrun]
      rfl
    simp only [Oper.wp, hexec, Oper.upon]
    refine hn _ ρ F w (Ext.refl _ _ _) (fun id e => absurd rfl e) (by rw [List.append_nil]; exact hs) (.tup _ _ rfl fun i c v e1 e2 => ?_)
    have hx : xs[j]? = some (elAt xs j) := row_at hj
    have hx2 : (elAt xs j).length = 2 := hk2 _ (List.mem_of_getElem? hx)
    match i with
    | 0 => simp at e1 e2; subst e1; subst e2; exact hh2 j 0 _ _ hx (rel_at (by omega))
    | 1 => simp at e1 e2; subst e1; subst e2; exact hh2 j 1 _ _ hx (rel_at (by omega))
    | i + 2 => simp at e1
end
attribute [go_sem] SV.nomap nomapL nomapLL nomapH dropM keysNe keysI lk nums_nomap
end Go.IL

set_option linter.unusedVariables false
set_option linter.unusedSimpArgs false
namespace Go.IL
open Go.RowKit
section
variable {P : Program} {O : Nat → Prop} {c : Ctx} {N k n : Nat} {ops : Array Oper} {Q : Exit → Act → World → Prop}
/-! ### The same walk in a round of a loop over a function -/
def noDefer (ops : Array Oper) : Bool := ops.all fun o => match o.op with | .defer _ => false | _ => true
theorem noDefer_get (h : noDefer ops = true) {i : Nat} {o : Oper} (ho : ops[i]? = some o) : ∀ d, o.op ≠ .defer d := by
  intro d e
  have := Array.all_eq_true_iff_forall_mem.1 h o (Array.mem_of_getElem? ho)
  rw [e] at this; cases this
theorem rowsIn_wide {row : String} {args : Array Value} {w : World} {R : Value → World → Prop} (h : Rows P row args w R) : RowsIn (Fence.wide.inRound k) n P row args w R :=
  fun f cs _ => let ⟨v, w', r, s⟩ := h f cs; ⟨v, w', r, stepsIn_wide.2 s⟩
theorem opIn {o : Oper} {a : Act} {w : World} {next : Act → World → Prop} (hd : ∀ d, o.op ≠ .defer d) (h : o.wp P a w next Q) : o.wpIn (Fence.wide.inRound k) n P a w next Q := by
  refine ⟨fun _ _ => trivial, ?_⟩
  rw [show (Fence.wide.inRound k).round = some k from rfl, Oper.semAt_some k _ o hd]
  unfold Oper.wp at h
  generalize (execOp a.eval o).run P w = r at h
  cases r with
  | ok x w' =>
    cases x
    case enter f args => exact ⟨fun e => (by cases e), CallsIn.inRound k (callsIn_wide.2 h)⟩
    case row row args => exact ⟨fun e => (by cases e), rowsIn_wide h⟩
    case round => exact h.elim
    all_goals exact h
  | halt x w' => cases x <;> exact h
theorem ropsIn (hd : noDefer ops = true) (hL : ¬ LetsOut Q) : ∀ (l : List Nat) (a : Act) (w : World), wpOps P ops Q l a w → wpOpsIn (Fence.wide.inRound k) n P ops Q l a w
  | [], a, w, h => h
  | i :: l, a, w, h => by
    simp only [wpOps] at h
    simp only [wpOpsIn]
    cases ho : ops[i]? with
    | none => rw [ho] at h; exact ropsIn hd hL l a w h
    | some o =>
      rw [ho] at h
      simp only [] at h ⊢
      by_cases hw : Region.wanted o (yielded ops a.tmps) = true
      · rw [if_pos hw] at h ⊢
        rcases h with h | ⟨_, h⟩
        · exact opIn (noDefer_get hd ho) (Oper.wp_mono (fun a w h => ropsIn hd hL l a w h) h)
        · exact absurd h hL
      · rw [if_neg hw] at h ⊢
        exact ⟨fun _ _ => trivial, ropsIn hd hL l _ w h⟩
theorem rAnyIn (hd : noDefer ops = true) (hL : ¬ LetsOut Q) : ∀ (fuel : Nat) (listed : Array Bool) (a : Act) (w : World), wpAny P .any ops Q fuel listed a w → wpAnyIn (Fence.wide.inRound k) n P .any ops Q fuel listed a w
  | 0, listed, a, w, h => h
  | fuel + 1, listed, a, w, h => by
    refine ⟨h.1, fun i hi => ?_⟩
    have h2 := h.2 i hi
    unfold wpOp at h2
    unfold wpOpIn
    cases ho : ops[i]? with
    | none => rw [ho] at h2; exact rAnyIn hd hL fuel _ a w h2
    | some o =>
      rw [ho] at h2
      simp only [] at h2 ⊢
      by_cases hw : Region.wanted o (yielded ops a.tmps) = true
      · rw [if_pos hw] at h2 ⊢
        rcases h2 with h2 | ⟨_, h2⟩
        · exact opIn (noDefer_get hd ho) (Oper.wp_mono (fun a w h => rAnyIn hd hL fuel _ a w h) h2)
        · exact absurd h2 hL
      · rw [if_neg hw] at h2 ⊢
        exact ⟨fun _ _ => trivial, rAnyIn hd hL fuel _ _ w h2⟩
def IWR (P : Program) (O : Nat → Prop) (c : Ctx) (N k n : Nat) (code : Code) (tm : TM) (h : Heap) (Q : Exit → TM → Heap → Prop) : Prop :=
  ∀ (ρ : Rho) (F : Nat → Prop) (a : Act) (w : World), St O c N ρ F tm h a w → code.wpIn (Fence.wide.inRound k) n P (lift O c N Q) a w
variable {tm : TM} {h : Heap} {tab : Tab} {id : Nat}
theorem lift_in (Q : Exit → TM → Heap → Prop) : ¬ LetsOut (lift O c N Q) := fun ⟨_, _, h⟩ => h
variable {Q : Exit → TM → Heap → Prop}
theorem IWR.skip (hq : Q .normal tm h) : IWR P O c N k n .skip tm h Q := fun ρ F a w hst => wpIn_skip ⟨ρ, F, tm, h, hst, hq⟩
theorem IWR.mono {code : Code} {Q' : Exit → TM → Heap → Prop} (hi : IWR P O c N k n code tm h Q) (hq : ∀ e tm h, Q e tm h → Q' e tm h) : IWR P O c N k n code tm h Q' :=
  fun ρ F a w hst => wpIn_mono (hi ρ F a w hst) fun e a w hl => by
    cases e <;> first | exact hl | (obtain ⟨ρ, F, tm, h, h1, h2⟩ := hl; exact ⟨ρ, F, tm, h, h1, hq _ _ _ h2⟩)
theorem IWR.seq {x y : Code} (hi : IWR P O c N k n x tm h (thn (fun tm h => IWR P O c N k n y tm h Q) Q)) : IWR P O c N k n (.seq x y) tm h Q :=
  fun ρ F a w hst => wpIn_seq (wpIn_mono (hi ρ F a w hst) fun e a w hl => by
    cases e <;> first | exact hl | (obtain ⟨ρ, F, tm, h, h1, h2⟩ := hl; first | exact h2 ρ F _ _ h1 | exact ⟨ρ, F, tm, h, h1, h2⟩))
theorem IWR.block {bid : Nat} {x : Code} (hi : IWR P O c N k n x tm h (blk bid Q)) : IWR P O c N k n (.block bid x) tm h Q :=
  fun ρ F a w hst => wpIn_block (wpIn_mono (hi ρ F a w hst) fun e a w hl => by
    cases e <;> first | exact hl | skip
    case exit id' =>
      obtain ⟨ρ, F, tm, h, h1, h2⟩ := hl
      simp only [blk] at h2
      simp only [Exit.inBlock]
      split
      · rename_i e; rw [if_pos e] at h2; exact ⟨ρ, F, tm, h, h1, h2⟩
      · rename_i e; rw [if_neg e] at h2; exact ⟨ρ, F, tm, h, h1, h2⟩)
theorem IWR.cond {t : Nat} {b : Bool} {x y : Code} (hb : tm.get t = .bool b) (h1 : b = true → IWR P O c N k n x tm h Q) (h0 : b = false → IWR P O c N k n y tm h Q) : IWR P O c N k n (.cond (.tmp t) x y) tm h Q := by
  intro ρ F a w hst
  have hv := hst.rel t
  rw [hb] at hv
  generalize hvv : a.tmps.getD t undef = v at hv
  cases hv
  refine wpIn_cond (t := b) hvv ?_
  cases b with
  | true => exact h1 rfl ρ F a w hst
  | false => exact h0 rfl ρ F a w hst
theorem IWR.ent {code : Code} {tm' : TM} {h' : Heap} (he : Ent O c N tm h tm' h') (hi : IWR P O c N k n code tm' h' Q) : IWR P O c N k n code tm h Q := fun ρ F a w hst => by
  obtain ⟨ρ', F', hst'⟩ := he ρ F a w hst
  exact hi ρ' F' a w hst'
theorem IWR.region_seq (hT : TabOk P tab) (D : List (Option Nat)) (hN : dstB N ops D = true) (hnd : noDefer ops = true) (he : ∀ (X : XT) (K : TM → Heap → Prop), XS P O c N tab ops D X → (∀ tm h, Q .normal tm h → K tm h) → E tab D X ops.toList tm h K) : IWR P O c N k n (.region id ops false) tm h Q := by
  intro ρ F a w hst
  have h1 := E_SC hT hN ops.toList 0 tm h (Q .normal) (fun j o e => by simpa using e) (he _ _ (XS0_ok hT hN) fun _ _ h => h)
  rw [Array.length_toList] at h1
  refine wpIn_region (ropsIn hnd (lift_in Q) _ a w ?_)
  rw [List.range_eq_range']
  exact h1 ρ F a w _ hst fun ρ' F' tm' h' a' w' hst' hk => ⟨ρ', F', tm', h', hst', hk⟩
theorem IWR.region_draw (hT : TabOk P tab) (hmix : P.follows .mixedOrders = true) (D : List (Option Nat)) (m : Nat) (hdr : drawB ops m = true) (hN : dstB N ops D = true) (hnd : noDefer ops = true)
    (he : ∀ (Xq Xs : XT) (K : TM → Heap → Prop), XQ P tab ops D Xq → XS P O c N tab ops D Xs → (∀ tm h, Q .normal tm h → K tm h) → ∀ K1 : TM → Heap → Prop, (∀ tm' h', E tab D Xs (ops.toList.drop m) tm' h' K → K1 tm' h') → E tab D Xq (ops.toList.take m) tm h K1) : IWR P O c N k n (.region id ops true) tm h Q := by
  intro ρ F a w hst
  have hn : m ≤ ops.size := by simp only [drawB, Bool.and_eq_true, decide_eq_true_eq] at hdr; exact hdr.1.2
  have h1 := E_QC hT hN (ops.toList.take m) 0 tm h _ (fun j o e => by
    have hj : j < m := by have := (List.getElem?_eq_some_iff.1 e).1; simp at this; omega
    rw [List.getElem?_take_of_lt hj] at e
    simpa using e) (he _ _ (Q .normal) (XQ0_ok hT hN) (XS0_ok (O := O) (w0 := c) hT hN) (fun _ _ h => h) _ (fun _ _ h => h))
  have hl : (ops.toList.take m).length = m := by simp; omega
  rw [hl] at h1
  have key : ∀ (k i : Nat) (tm : TM) (h : Heap) (K K' : TM → Heap → Prop), (∀ tm h, K tm h → K' tm h) → QC P N ops i k tm h K → QC P N ops i k tm h K' := by
    intro k
    induction k with
    | zero => intro i tm h K K' hk hq; exact hk _ _ hq
    | succ k ih => intro i tm h K K' hk hq; obtain ⟨o, sv, ext, a1, a2, a3, a4⟩ := hq; exact ⟨o, sv, ext, a1, a2, a3, ih _ _ _ _ _ hk a4⟩
  have h2 := key m 0 tm h _ (fun tm' h' => SC P O c N ops m (ops.size - m) tm' h' (Q .normal)) (fun tm' h' he' => by
    have h2 := E_SC hT hN (ops.toList.drop m) m tm' h' (Q .normal) (fun j o e => by rw [List.getElem?_drop] at e; simpa using e) he'
    rw [List.length_drop, Array.length_toList] at h2
    exact h2) h1
  exact wpIn_region_any hmix (rAnyIn hnd (lift_in Q) _ _ _ _ (wpAny_draws m hdr h2 hst fun ρ' F' tm' h' a' w' hst' hk => ⟨ρ', F', tm', h', hst', hk⟩))
end
end Go.IL

set_option linter.unusedVariables false
set_option linter.unusedSimpArgs false
namespace Go.IL
open Go.RowKit
/-! ### A loop over a function -/
theorem VRel.bturn {ρ : Rho} {O F : Nat → Prop} {w w' : World} {b : Nat} {o : Obj} (hoth : ∀ b', b' ≠ b → w'.heap[b']? = w.heap[b']?) (hD : w.heap[b]? = some o) (ho : book o = true) {s : SV} {v : Value} (h : VRel ρ O F w s v) : VRel ρ O F w' s v := by
  have hcell : ∀ b' off u, w.cell? ⟨b', off, none⟩ = some u → w'.cell? ⟨b', off, none⟩ = some u := fun b' off u e => by
    have : b' ≠ b := by rintro rfl; cases o <;> simp [World.cell?, hD, book] at e ho
    rw [cell_of_heap (hoth b' this), e]
  have hobj : ∀ (b' : Nat) (o' : Obj), w.heap[b']? = some o' → book o' = false → w'.heap[b']? = some o' := fun b' o' e hne => by
    have : b' ≠ b := by rintro rfl; rw [hD] at e; cases e; rw [ho] at hne; cases hne
    rw [hoth b' this, e]
  induction h with
  | any v => exact .any v
  | bool b => exact .bool b
  | int k n => exact .int k n
  | str s => exact .str s
  | raw v => exact .raw v
  | agg cs vs hl _ ih => exact .agg cs vs hl ih
  | tup cs vs hl _ ih => exact .tup cs vs hl ih
  | ptr id i j ri h => exact .ptr id i j ri h
  | ref id off m cap ri h h1 hc hm => exact .ref id off m cap ri h h1 hc hm
  | sl o xs a cap k cs hk hcap hm ha _ ih =>
    refine .sl o xs a cap k cs hk hcap hm (fun hp => ?_) ih
    obtain ⟨b', off, e, hb, hc⟩ := ha hp
    exact ⟨b', off, e, hb, fun i j hi hj => hcell _ _ _ (hc i j hi hj)⟩
  | rptr o x j b' off cs hb ha _ ih => exact .rptr o x j b' off cs hb (fun i hi => hcell _ _ _ (ha i hi)) ih
  | mp o xs b' es cs hb hw hk hn he _ ih => exact .mp o xs b' es cs hb (hobj _ _ hw rfl) hk hn he ih
  | it o xs seen r b' es cs hr hrw hb hw hk hn he _ ih => exact .it o xs seen r b' es cs hr (hobj _ _ hrw rfl) hb (hobj _ _ hw rfl) hk hn he ih
  | nils => exact .nils
  | nilp => exact .nilp
  | clo f cs vs hl _ ih => exact .clo f cs vs hl ih
  | cnd g s v _ h0 ih => exact .cnd g s v ih h0
mutual
/-- It hangs on rows' places alone. -/
def SV.det : SV → Bool
  | .any | .bool _ | .int _ _ | .str _ | .raw _ | .nils | .nilp | .ptr _ _ _ | .ref _ _ _ => true
  | .agg cs | .tup cs | .clo _ cs => detL cs
  | .cnd _ v => v.det
  | _ => false
def detL : List SV → Bool
  | [] => true
  | s :: r => s.det && detL r
end
theorem detL_get : ∀ {l : List SV} {i : Nat} {s : SV}, detL l = true → l[i]? = some s → s.det = true
  | _ :: _, 0, _, h, e => by simp at e; subst e; simp [detL] at h; exact h.1
  | _ :: _, i + 1, _, h, e => by simp [detL] at h; exact detL_get h.2 (by simpa using e)
theorem VRel.det {ρ ρ' : Rho} {O F O' F' : Nat → Prop} {w w' : World} (hρ : ∀ id ri, ρ id = some ri → ρ' id = some ri) {s : SV} {v : Value} (h : VRel ρ O F w s v) : s.det = true → VRel ρ' O' F' w' s v := by
  induction h with
  | any v => intro _; exact .any v
  | bool b => intro _; exact .bool b
  | int k n => intro _; exact .int k n
  | str s => intro _; exact .str s
  | raw v => intro _; exact .raw v
  | agg cs vs hl _ ih => intro hn; simp only [SV.det] at hn; exact .agg cs vs hl fun i c v e1 e2 => ih i c v e1 e2 (detL_get hn e1)
  | tup cs vs hl _ ih => intro hn; simp only [SV.det] at hn; exact .tup cs vs hl fun i c v e1 e2 => ih i c v e1 e2 (detL_get hn e1)
  | ptr id i j ri h => intro _; exact .ptr id i j ri (hρ _ _ h)
  | ref id off m cap ri h h1 hc hm => intro _; exact .ref id off m cap ri (hρ _ _ h) h1 hc hm
  | sl => intro hn; cases hn
  | rptr => intro hn; cases hn
  | mp => intro hn; cases hn
  | it => intro hn; cases hn
  | nils => intro _; exact .nils
  | nilp => intro _; exact .nilp
  | clo f cs vs hl _ ih => intro hn; simp only [SV.det] at hn; exact .clo f cs vs hl fun i c v e1 e2 => ih i c v e1 e2 (detL_get hn e1)
  | cnd g s v _ h0 ih => intro hn; simp only [SV.det] at hn; exact .cnd g s v (fun e => ih e hn) h0
def detT : TM → Bool
  | [] => true
  | (_, s) :: r => s.det && detT r
theorem detT_get : ∀ {tm : TM} (t : Nat), detT tm = true → (tm.get t).det = true
  | [], t, _ => rfl
  | (u, s) :: r, t, h => by
    simp only [detT, Bool.and_eq_true] at h
    simp only [TM.get]
    split
    · exact h.1
    · exact detT_get t h.2
section
variable {P : Program} {O : Nat → Prop} {c : Ctx} {N : Nat} {ρ : Rho} {F : Nat → Prop} {tm : TM} {h : Heap} {a : Act} {w w' : World}
theorem Keep.trans {O : Nat → Prop} {a b d : World} (h : Keep O a b) (k : Keep O b d) : Keep O a d :=
  ⟨k.os.trans h.os, k.tape.trans h.tape, k.output.trans h.output, Nat.le_trans h.size k.size, fun x ho => (k.block x ho).trans (h.block x ho), fun x o e e' => k.books x o (h.books x o e e') e'⟩
/-- The same rows held against another world, by another activation. -/
theorem St.other {c' : Ctx} {N' : Nat} {tm' : TM} {a' : Act} (hst : St O c N ρ F tm h a w) (hd : DefO c'.w a' w) (hs : a'.tmps.size = N') (hr : ∀ t, VRel ρ O F w (tm'.get t) (a'.tmps.getD t undef)) (hk : Keep O c'.w w) (h0 : ∀ id ri, c'.r id = some ri → ρ id = some ri) : St O c' N' ρ F tm' h a' w :=
  ⟨hst.sat, hd, hs, hr, hk, hst.free, hst.rno, hst.fno, h0⟩
theorem St.grown (hst : St O c N ρ F tm h a w) (hg : w.grownBy w' none) : St O c N ρ F tm h a w' := by
  have hx : Ext ρ F w ρ F w' := ⟨fun _ _ h => h, fun id ri h h' => (by rw [h'] at h; cases h), fun _ h => h, fun b h h' => absurd h h', ⟨hg.os, hg.tape, hg.output, hg.size, fun b hb => hg.block b hb (by simp)⟩⟩
  exact ⟨⟨fun id r ri e1 e2 => (hst.sat.row id r ri e1 e2).ext hst.sat.lt hx, hst.sat.inj, fun b hb => Nat.lt_of_lt_of_le (hst.sat.lt b hb) hg.size⟩, hst.defers.next rfl fun D e => (hx.below.block D (Array.getElem?_eq_some_iff.1 e).1).trans e, hst.size, fun t => (hst.rel t).ext hst.sat.lt hx,
    hst.keep.below (fun b hb => hst.sat.lt b (.inl hb)) hx.below, hst.free, hst.rno, hst.fno, hst.ext0⟩
/-- A block of books turns. -/
theorem St.bturn {b : Nat} {o : Obj} (hst : St O c N ρ F tm h a w) (hb : w.heap[b]? = some o) (ho : book o = true) (hO : ¬ O b) (hge : c.w.heap.size ≤ b) (hd : a.defers = []) (o' : Obj) : St O c N ρ F tm h a (w.putObj b o') := by
  have hoth : ∀ b', b' ≠ b → (w.putObj b o').heap[b']? = w.heap[b']? := fun b' hb => World.putObj_heap_other hb
  refine ⟨⟨fun id r ri e1 e2 => ?_, hst.sat.inj, fun b hb => by rw [World.putObj_size]; exact hst.sat.lt b hb⟩, DefO.nil hd, hst.size, fun t => (hst.rel t).bturn hoth hb ho, ⟨hst.keep.os, hst.keep.tape, hst.keep.output, by rw [World.putObj_size]; exact hst.keep.size, fun b' hb' => (hoth b' (by rintro rfl; exact hO hb')).trans (hst.keep.block b' hb'), fun b' o e e' => (hoth b' (by rintro rfl; have := (Array.getElem?_eq_some_iff.1 e).1; omega)).trans (hst.keep.books b' o e e')⟩, hst.free, hst.rno, hst.fno, hst.ext0⟩
  have h1 := hst.sat.row id r ri e1 e2
  refine ⟨h1.k, h1.no, h1.nf, h1.wf, ?_⟩
  obtain ⟨arr, a1, a2, a3, a4⟩ := h1.cells
  refine ⟨arr, (hoth _ (by rintro e; rw [e, hb] at a1; cases a1; cases ho)).trans a1, a2, a3, fun i j x y f1 f2 => ?_⟩
  obtain ⟨v, g1, g2⟩ := a4 i j x y f1 f2
  exact ⟨v, g1, g2.bturn hoth hb ho⟩
end
/-- How a captured value looks to the function that captured it: a variable by what it holds. -/
def cv (h : Heap) : SV → SV
  | .ptr id i j => if i < (rowXs h id).length then .rptr true ((elAt (rowXs h id) i).map (rei 4 h)) j else .any
  | s => rei 4 h s
/-- What is told of a captured variable's content to the function that captured it. -/
def fl1 : SV → SV
  | .int k n => .int k n
  | _ => .any
def fl : SV → SV
  | .int k n => .int k n
  | .bool b => .bool b
  | .str s => .str s
  | .mp _ xs => .mp true (xs.map fun x => x.map fl1)
  | _ => .any
def flRow (r : Row) : Row := ⟨r.k, r.elem, r.xs.map fun x => x.map fl⟩
theorem fl1_rel {ρ ρ' : Rho} {O F O' F' : Nat → Prop} {w : World} {s : SV} {v : Value} (h : VRel ρ O F w s v) : VRel ρ' O' F' w (fl1 s) v := by
  cases h <;> first | exact .int _ _ | exact .any _
theorem fl_rel {ρ ρ' : Rho} {O F O' F' : Nat → Prop} {w : World} (hO : ∀ (b : Nat) (es : Array MapEntry) (c : Nat), w.heap[b]? = some (.map es c) → O' b) {s : SV} {v : Value} (h : VRel ρ O F w s v) : VRel ρ' O' F' w (fl s) v := by
  cases h with
  | int => exact .int _ _
  | bool => exact .bool _
  | str => exact .str _
  | mp o xs b es cs hb hw hk hn he hh =>
    have hlen : (xs.map fun x => x.map fl1).length = xs.length := by simp
    refine .mp true _ b es cs (.inr ⟨rfl, hO b es _ hw⟩) (by rw [hlen]; exact hw) (fun x hx => ?_) (hn.trans hlen.symm) (fun i hi => he i (by rwa [hlen] at hi)) fun i j x y e1 e2 => ?_
    · obtain ⟨x', hx', rfl⟩ := List.mem_map.1 hx
      rw [List.length_map]; exact hk x' hx'
    · rw [List.getElem?_map] at e1
      obtain ⟨x', h1, rfl⟩ := Option.map_eq_some_iff.1 e1
      obtain ⟨y', h2, rfl⟩ := map_get e2
      exact fl1_rel (hh i j x' y' h1 h2)
  | _ => exact .any _
/-- The blocks that are no row's. -/
def Rest (ρ : Rho) (w : World) : Nat → Prop := fun b => b < w.heap.size ∧ ∀ id ri, ρ id = some ri → ri.b ≠ b
/-- What a function comes to that is ranged over: the values that it yields (one of the lists of Y), if each round goes on; caps: what it captured, rows: what that leads to. -/
def SeqOf (P : Program) (gf : FuncId) (caps : List SV) (rows : List Row) {α : Type} (xv : α → Value) (Y : List α → Prop) : Prop :=
  Entr P gf ∧ ∀ (l : Nat) (J : List α → World → Prop) (W : World) (vs : Array Value) (ρ : Rho),
    (∀ id, rows.length ≤ id → ρ id = none) → caps.length = vs.size → (∀ (i : Nat) (s : SV) (v : Value) (O F : Nat → Prop) (w : World), caps[i]? = some s → vs[i]? = some v → VRel ρ O F w s v) →
    (∀ pre A B, J pre A → A.grownBy B none → J pre B) →
    (∀ pre A B r o, J pre A → A.grownBy B (some r) → W.heap.size ≤ r → A.heap[r]? = some o → o.isWalk = true → J pre B) →
    (∀ pre A, J pre A → Sat ρ (Rest ρ A) (fun _ => False) (rows.map some) A) →
    (∀ pre x A, (∃ r, Y (pre ++ x :: r)) → J pre A → YieldAt Fence.wide 0 P l #[xv x] A fun e B => e = .returned (.bool true) ∧ J (pre ++ [x]) B) →
    J [] W → Calls P gf (#[.func (.yield l) #[] #[]] ++ vs) W fun e B => (∃ v, e = .returned v) ∧ ∃ ys, Y ys ∧ J ys B
end Go.IL

set_option linter.unusedVariables false
set_option linter.unusedSimpArgs false
namespace Go.IL
open Go.RowKit
section
variable {P : Program} {O : Nat → Prop} {w0 : Ctx} {N : Nat} {tm : TM} {h : Heap} {Q : Exit → TM → Heap → Prop}
theorem VRel.cells {ρ : Rho} {O F : Nat → Prop} {w w' : World} (hcell : ∀ b off u, w.cell? ⟨b, off, none⟩ = some u → w'.cell? ⟨b, off, none⟩ = some u) {s : SV} {v : Value} (h : VRel ρ O F w s v) : s.nomap = true → VRel ρ O F w' s v := by
  induction h with
  | any v => intro _; exact .any v
  | bool b => intro _; exact .bool b
  | int k n => intro _; exact .int k n
  | str s => intro _; exact .str s
  | raw v => intro _; exact .raw v
  | agg cs vs hl _ ih => intro hn; simp only [SV.nomap] at hn; exact .agg cs vs hl fun i c v e1 e2 => ih i c v e1 e2 (nomapL_get hn e1)
  | tup cs vs hl _ ih => intro hn; simp only [SV.nomap] at hn; exact .tup cs vs hl fun i c v e1 e2 => ih i c v e1 e2 (nomapL_get hn e1)
  | ptr id i j ri h => intro _; exact .ptr id i j ri h
  | ref id off m cap ri h h1 hc hm => intro _; exact .ref id off m cap ri h h1 hc hm
  | sl o xs a cap k cs hk hcap hm ha _ ih =>
    intro hn
    simp only [SV.nomap] at hn
    refine .sl o xs a cap k cs hk hcap hm (fun hp => ?_) fun i j x y e1 e2 => ih i j x y e1 e2 (nomapL_get (nomapLL_get hn e1) e2)
    obtain ⟨b', off, e, hb, hc⟩ := ha hp
    exact ⟨b', off, e, hb, fun i j hi hj => hcell _ _ _ (hc i j hi hj)⟩
  | rptr o x j b' off cs hb ha _ ih =>
    intro hn
    simp only [SV.nomap] at hn
    exact .rptr o x j b' off cs hb (fun i hi => hcell _ _ _ (ha i hi)) fun i y e => ih i y e (nomapL_get hn e)
  | mp => intro hn; cases hn
  | it => intro hn; cases hn
  | nils => intro _; exact .nils
  | nilp => intro _; exact .nilp
  | clo f cs vs hl _ ih => intro hn; simp only [SV.nomap] at hn; exact .clo f cs vs hl fun i c v e1 e2 => ih i c v e1 e2 (nomapL_get hn e1)
  | cnd g s v _ h0 ih => intro hn; simp only [SV.nomap] at hn; exact .cnd g s v (fun e => ih e hn) h0
/-- A block of books turns; the state is held against another world. -/
theorem St.bturnC {c c' : Ctx} {ρ : Rho} {F : Nat → Prop} {a a' : Act} {w : World} {tm' : TM} {b : Nat} {o o' : Obj} (hst : St O c N ρ F tm h a w) (hb : w.heap[b]? = some o) (ho : book o = true) (hd : DefO c'.w a' (w.putObj b o')) (hs : a'.tmps.size = N) (hr : ∀ t, VRel ρ O F w (tm'.get t) (a'.tmps.getD t undef)) (hk : Keep O c'.w (w.putObj b o')) (h0 : ∀ id ri, c'.r id = some ri → ρ id = some ri) :
    St O c' N ρ F tm' h a' (w.putObj b o') := by
  have hoth : ∀ b', b' ≠ b → (w.putObj b o').heap[b']? = w.heap[b']? := fun b' hb => World.putObj_heap_other hb
  refine ⟨⟨fun id r ri e1 e2 => ?_, hst.sat.inj, fun b hb => by rw [World.putObj_size]; exact hst.sat.lt b hb⟩, hd, hs, fun t => (hr t).bturn hoth hb ho, hk, hst.free, hst.rno, hst.fno, h0⟩
  have h1 := hst.sat.row id r ri e1 e2
  refine ⟨h1.k, h1.no, h1.nf, h1.wf, ?_⟩
  obtain ⟨arr, a1, a2, a3, a4⟩ := h1.cells
  refine ⟨arr, (hoth _ (by rintro e; rw [e, hb] at a1; cases a1; cases ho)).trans a1, a2, a3, fun i j x y f1 f2 => ?_⟩
  obtain ⟨v, g1, g2⟩ := a4 i j x y f1 f2
  exact ⟨v, g1, g2.bturn hoth hb ho⟩
theorem Keep.put {w B : World} {l : Nat} {o : Obj} (h : Keep O w B) (hl : w.heap.size ≤ l) (hO : ¬ O l) : Keep O w (B.putObj l o) :=
  ⟨h.os, h.tape, h.output, by rw [World.putObj_size]; exact h.size, fun b hb => (World.putObj_heap_other (by rintro rfl; exact hO hb)).trans (h.block b hb), fun b o' e e' => (World.putObj_heap_other (by have := (Array.getElem?_eq_some_iff.1 e).1; omega)).trans (h.books b o' e e')⟩
theorem Keep.put2 {A B : World} {l : Nat} {o o' : Obj} (h : Keep O A B) (hl : l < B.heap.size) (hO : ¬ O l) : Keep O (A.putObj l o) (B.putObj l o) := by
  refine ⟨h.os, h.tape, h.output, by simpa using h.size, fun b hb => ?_, fun b o' e e' => ?_⟩
  · have : b ≠ l := by rintro rfl; exact hO hb
    rw [World.putObj_heap_other this, World.putObj_heap_other this]; exact h.block b hb
  · by_cases c : b = l
    · subst c
      rw [World.putObj_heap_same hl]
      have : b < A.heap.size := by have := (Array.getElem?_eq_some_iff.1 e).1; simpa using this
      rw [World.putObj_heap_same this] at e; exact e
    · rw [World.putObj_heap_other c] at e ⊢; exact h.books b o' e e'
theorem Keep.via {w A B : World} {l : Nat} {o o' : Obj} (h : Keep O w A) (k : Keep O (A.putObj l o) B) (hl : w.heap.size ≤ l) (hO : ¬ O l) : Keep O w (B.putObj l o') := by
  refine Keep.put ⟨k.os.trans h.os, k.tape.trans h.tape, k.output.trans h.output, ?_, fun b hb => ?_, fun b o' e e' => ?_⟩ hl hO
  · have := k.size; rw [World.putObj_size] at this; exact Nat.le_trans h.size this
  · rw [k.block b hb, World.putObj_heap_other (by rintro rfl; exact hO hb)]; exact h.block b hb
  · have hne : b ≠ l := by have := (Array.getElem?_eq_some_iff.1 e).1; omega
    exact k.books b o' (by rw [World.putObj_heap_other hne]; exact h.books b o' e e') e'
/-- Behind a round's body: the rows are these. -/
def RoundQ (O : Nat → Prop) (N n0 : Nat) (h' : Heap) : Exit → TM → Heap → Prop
  | .normal, tm, h => ∀ c : Ctx, (∀ id ri, c.r id = some ri → id < n0) → Ent O c N tm h [] h'
  | _, _, _ => False
/-- **for x := range f { .. }**, whose body never leaves the loop: the rows are a fold of what has come. -/
theorem IW.rangeFunc {α : Type} {g : Operand} {p gf : Nat} {assign body : Code} {caps capsC : List SV} {rowsC : List Row} (σ : List Nat) (xsv : α → SV) (xv : α → Value) (H : List α → Heap) (Y : List α → Prop)
    (hg : opnd tm g = .clo gf caps) (hp : p < N) (hdet : detT tm = true) (hnm : ∀ t, (tm.get t).nomap = true) (hnH : ∀ pre, nomapH (H pre) = true) (hH0 : H [] = h) (hlen : ∀ pre, h.length ≤ (H pre).length)
    (hxv : ∀ x (ρ : Rho) (O F : Nat → Prop) (w : World), VRel ρ O F w (xsv x) (xv x)) (hσ : σ.Nodup) (hσl : σ.length = rowsC.length) (hcaps : caps = renL (sg σ h.length) capsC) (hcd : detL capsC = true) (hrows : ∀ (pre : List α) (i : Nat) (r : Row), rowsC[i]? = some r → ∃ r', hrow (H pre) (sg σ h.length i) = some r' ∧ r = flRow r') (hseq : SeqOf P gf capsC rowsC xv Y)
    (hround : ∀ (c : Ctx) (k : Nat) (pre : List α) (x : α), (∃ r, Y (pre ++ x :: r)) → (∀ id ri, c.r id = some ri → id < h.length) → IWR P O c N k 0 assign ((p, xsv x) :: tm) (H pre) (thn (fun tm1 h1 => ∀ c2 : Ctx, (∀ id ri, c2.r id = some ri → id < h.length) → IWR P O c2 N k 0 body tm1 h1 (RoundQ O N h.length (H (pre ++ [x])))) (fun _ _ _ => False)))
    (hdone : ∀ ys, Y ys → Q .normal tm (H ys)) : IW P O w0 N (.rangeFunc g #[p] assign body) tm h Q := by
  intro ρ F a w hst
  refine (wpIn_wide (n := 2)).1 (wpIn_rangeFunc fun fn hfn => ?_)
  have hvg := opnd_rel (a := a) g (fun t _ => hst.rel t)
  rw [hg] at hvg
  generalize hag : a.eval g = vg at hvg
  cases hvg with
  | clo _ _ vs hl hcs =>
  obtain ⟨rec, hrec⟩ : ∃ rec : LoopState → Option Code → Loop, rec = fun st pe => { state := st, pending := pe, fn, tmps := a.tmps, params := #[p], assign, body, defers := w.heap.size } := ⟨_, rfl⟩
  obtain ⟨W1, hW1⟩ : ∃ W1, (w.alloc (.deferred (some []))).alloc (.loop (rec .ready none)) = W1 := ⟨_, rfl⟩
  have hL1 : W1.heap[w.heap.size + 1]? = some (.loop (rec .ready none)) := by
    rw [← hW1]; have := World.alloc_heap_new (w.alloc (.deferred (some []))) (.loop (rec .ready none)); rwa [World.size_alloc] at this
  have hK1 : W1.heap[w.heap.size]? = some (.deferred (some [])) := by
    rw [← hW1]; exact (Below.heap_alloc _ _ _ (by simp)).trans (World.alloc_heap_new w _)
  have hsz1 : W1.heap.size = w.heap.size + 2 := by rw [← hW1]; simp
  have hg1 : w.grownBy W1 none := by
    rw [← hW1]; exact (World.grownBy_alloc w _ none).trans (World.grownBy_alloc _ _ none)
  have hOlt : ∀ b, O b → b < w.heap.size := fun b hb => hst.sat.lt b (.inl hb)
  -- the caller's state between two rounds
  let aN : Act := { tmps := a.tmps, defers := [] }
  let J : List α → World → Prop := fun pre W => (∃ ρ' F', St O { w := w, r := ρ } N ρ' F' tm (H pre) aN W) ∧ W.heap[w.heap.size + 1]? = some (.loop (rec .ready none)) ∧ W.heap[w.heap.size]? = some (.deferred (some []))
  have hst0 : St O { w := w, r := ρ } N ρ F tm (H []) aN w := by rw [hH0]; exact hst.other (DefO.nil rfl) hst.size hst.rel (Keep.refl _ _) fun _ _ h => h
  have hJ1 : J [] W1 := ⟨⟨ρ, F, hst0.grown hg1⟩, hL1, hK1⟩
  refine ⟨w.heap.size + 1, [{ target := .collected w.heap.size, args := #[] }], W1, { target := .fn (.func gf) vs, args := #[.func (.yield (w.heap.size + 1)) #[] #[]] }, W1, gf,
    #[.func (.yield (w.heap.size + 1)) #[] #[]] ++ vs, W1, ?_, ?_, fun _ _ => trivial, ?_, fun e => (by cases e), ?_⟩
  · rw [← hW1, hrec]; exact run_enterLoop_outer _ _ _ _ _
  · simp only [resolve, hag]
    simp [go_sem]
  · simp only [invoke, Array.empty_append]
    exact hseq.1 _ _
  · have hρc : ∀ id ri, (fun id => if id < σ.length then ρ (sg σ h.length id) else none) id = some ri → id < σ.length ∧ ρ (sg σ h.length id) = some ri := fun id ri e => by
      by_cases c : id < σ.length
      · simp only [if_pos c] at e; exact ⟨c, e⟩
      · simp only [if_neg c] at e; cases e
    refine callsIn_wide.2 ((hseq.2 (w.heap.size + 1) J W1 vs (fun id => if id < σ.length then ρ (sg σ h.length id) else none) (fun id hid => by simp only [if_neg (show ¬ id < σ.length by omega)]) ?_ ?_ ?_ ?_ ?_ ?_ hJ1).mono ?_)
    · rw [← hl, hcaps, renL_map]; simp
    · intro i s v O' F' w' e1 e2
      have h1 : caps[i]? = some (s.ren (sg σ h.length)) := by rw [hcaps, renL_map, List.getElem?_map, e1]; rfl
      refine ((hcs i _ v h1 e2).unren s rfl).det (fun id ri e => ?_) (detL_get hcd e1)
      by_cases c : id < σ.length
      · simp only [if_pos c]; exact e
      · simp only [sg] at e
        rw [List.getD_eq_getElem?_getD, List.getElem?_eq_none (by omega)] at e
        simp only [Option.getD_none] at e
        rw [hst.free _ (Nat.le_refl _)] at e; cases e
    · rintro pre A B ⟨⟨ρ', F', hs⟩, hl1, hk1⟩ hgr
      exact ⟨⟨ρ', F', hs.grown hgr⟩, (hgr.block _ (Array.getElem?_eq_some_iff.1 hl1).1 (by simp)).trans hl1, (hgr.block _ (Array.getElem?_eq_some_iff.1 hk1).1 (by simp)).trans hk1⟩
    · rintro pre A B r o ⟨⟨ρ', F', hs⟩, hl1, hk1⟩ hgr hr ho hwalk
      have hnc : ∀ off, A.cell? ⟨r, off, none⟩ = none := fun off => by cases o <;> simp [World.cell?, ho, Obj.isWalk] at hwalk ⊢
      have hnb : ∀ o', book o' = true → A.heap[r]? ≠ some o' := fun o' hb e => by rw [ho] at e; cases e; cases o <;> simp [book, Obj.isWalk] at hb hwalk
      have hrow : ∀ b, b < A.heap.size → b ≠ r → B.heap[b]? = A.heap[b]? := fun b hb hne => hgr.block b hb (by simpa using hne)
      refine ⟨⟨ρ', F', ?_⟩, (hrow _ (Array.getElem?_eq_some_iff.1 hl1).1 (by omega)).trans hl1, (hrow _ (Array.getElem?_eq_some_iff.1 hk1).1 (by omega)).trans hk1⟩
      have hcell : ∀ b' off u, A.cell? ⟨b', off, none⟩ = some u → B.cell? ⟨b', off, none⟩ = some u := fun b' off u e => by
        have hne : b' ≠ r := by rintro rfl; rw [hnc] at e; cases e
        have hlt : b' < A.heap.size := by
          rcases Nat.lt_or_ge b' A.heap.size with h | h
          · exact h
          · simp [World.cell?, Array.getElem?_eq_none h] at e
        rw [cell_of_heap (hrow b' hlt hne), e]
      have hv : ∀ s v, VRel ρ' O F' A s v → s.nomap = true → VRel ρ' O F' B s v := fun s v h => h.cells hcell
      refine ⟨⟨fun id r' ri e1 e2 => ?_, hs.sat.inj, fun b hb => Nat.lt_of_lt_of_le (hs.sat.lt b hb) hgr.size⟩, DefO.nil rfl, hs.size, fun t => hv _ _ (hs.rel t) (hnm t), ⟨hgr.os.trans hs.keep.os, hgr.tape.trans hs.keep.tape, hgr.output.trans hs.keep.output, Nat.le_trans hs.keep.size hgr.size, fun b hb => (hrow b (hs.sat.lt b (.inl hb)) (by have := hOlt b hb; omega)).trans (hs.keep.block b hb), fun b o' e e' => (hrow b (Array.getElem?_eq_some_iff.1 (hs.keep.books b o' e e')).1 (by rintro rfl; exact hnb o' e' (hs.keep.books _ o' e e'))).trans (hs.keep.books b o' e e')⟩, hs.free, hs.rno, hs.fno, hs.ext0⟩
      have h1 := hs.sat.row id r' ri e1 e2
      refine ⟨h1.k, h1.no, h1.nf, h1.wf, ?_⟩
      obtain ⟨arr, a1, a2, a3, a4⟩ := h1.cells
      refine ⟨arr, (hrow _ h1.lt (by rintro rfl; rw [ho] at a1; cases a1; cases hwalk)).trans a1, a2, a3, fun i j x y f1 f2 => ?_⟩
      obtain ⟨v, g1, g2⟩ := a4 i j x y f1 f2
      exact ⟨v, g1, hv _ _ g2 (nomapL_get (nomapLL_get (nomapH_get (hnH pre) e1) f1) f2)⟩
    · rintro pre A ⟨⟨ρ', F', hs⟩, hl1, hk1⟩
      have hR : ∀ id ri, (fun id => if id < σ.length then ρ (sg σ h.length id) else none) id = some ri → ∃ r', rowsC[id]? = some (flRow r') ∧ hrow (H pre) (sg σ h.length id) = some r' ∧ RowIn ρ' O F' A r' ri ∧ ρ' (sg σ h.length id) = some ri := fun id ri e => by
        obtain ⟨c, e1⟩ := hρc id ri e
        have hrc : rowsC[id]? = some rowsC[id] := by simp [show id < rowsC.length by omega]
        obtain ⟨r', h1, h2⟩ := hrows pre id _ hrc
        exact ⟨r', by rw [hrc, h2], h1, hs.sat.row _ r' ri (hrow_some h1) (hs.ext0 _ _ e1), hs.ext0 _ _ e1⟩
      refine ⟨fun id r ri e1 e2 => ?_, fun id id' r r' ri ri' e1 e1' e2 e2' hb => ?_, fun b hb => hb.elim (fun h => h.1) False.elim⟩
      · obtain ⟨r', h1, h2, h3, h4⟩ := hR id ri e2
        rw [List.getElem?_map, h1] at e1
        simp at e1; subst e1
        refine ⟨h3.k, fun ho => ho.2 id ri e2 rfl, fun h => h, fun x hx => ?_, ?_⟩
        · obtain ⟨x', hx', rfl⟩ := List.mem_map.1 hx
          rw [List.length_map]; exact h3.wf x' hx'
        · obtain ⟨arr, a1, a2, a3, a4⟩ := h3.cells
          refine ⟨arr, a1, a2, by simpa [flRow] using a3, fun i j x y f1 f2 => ?_⟩
          simp only [flRow, List.getElem?_map] at f1
          obtain ⟨x', g1, rfl⟩ := Option.map_eq_some_iff.1 f1
          obtain ⟨y', g2, rfl⟩ := map_get f2
          obtain ⟨v, g3, g4⟩ := a4 i j x' y' g1 g2
          refine ⟨v, g3, fl_rel (fun b es c hbm => ⟨(Array.getElem?_eq_some_iff.1 hbm).1, fun id2 ri2 e5 hb5 => ?_⟩) g4⟩
          obtain ⟨r2, _, _, q3, _⟩ := hR id2 ri2 e5
          obtain ⟨arr2, b1, _⟩ := q3.cells
          rw [hb5, hbm] at b1; cases b1
      · obtain ⟨q, _, h2, _, h4⟩ := hR id ri e2
        obtain ⟨q', _, h2', _, h4'⟩ := hR id' ri' e2'
        have h5 := hs.sat.inj _ _ q q' ri ri' (hrow_some h2) (hrow_some h2') h4 h4' hb
        have hi := (hρc id ri e2).1
        have hi' := (hρc id' ri' e2').1
        simp only [sg, List.getD_eq_getElem?_getD, List.getElem?_eq_getElem hi, List.getElem?_eq_getElem hi', Option.getD_some] at h5
        have hp := List.pairwise_iff_getElem.1 hσ
        rcases Nat.lt_trichotomy id id' with h6 | h6 | h6
        · exact absurd h5 (hp id id' hi hi' h6)
        · exact h6
        · exact absurd h5.symm (hp id' id hi' hi h6)
    · rintro pre x A hpx ⟨⟨ρ', F', hs⟩, hl1, hk1⟩
      have hy := run_yield (P := P) (args := #[xv x]) hl1 (by rw [hrec]; rfl)
      rw [hrec] at hy
      have hAw : w.heap.size + 1 < A.heap.size := (Array.getElem?_eq_some_iff.1 hl1).1
      refine ⟨fn, _, assign, body, hy, roundIn_of_wpIn trivial ?_⟩
      have ha0 : St O { w := A, r := ρ } N ρ' F' ((p, xsv x) :: tm) (H pre) { tmps := (#[p].zip #[xv x]).foldl (fun t (p, v) => t.setIfInBounds p v) a.tmps, defers := [] } A := by
        refine hs.other (DefO.nil rfl) (by simpa using hst.size) (fun t => ?_) (Keep.refl _ _) hs.ext0
        simp only [TM.get]
        have : (#[p].zip #[xv x]).foldl (fun t (p, v) => t.setIfInBounds p v) a.tmps = a.tmps.setIfInBounds p (xv x) := by simp
        rw [this]
        by_cases e : p = t
        · subst e
          rw [if_pos rfl]
          have : p < a.tmps.size := by rw [hst.size]; exact hp
          simp only [Array.getD_eq_getD_getElem?, Array.getElem?_setIfInBounds_self_of_lt this, Option.getD_some]
          exact hxv x _ _ _ _
        · rw [if_neg e]
          simp only [Array.getD_eq_getD_getElem?, Array.getElem?_setIfInBounds_ne e]
          have := hs.rel t
          simpa [Array.getD_eq_getD_getElem?] using this
      have hdom : ∀ id ri, ρ id = some ri → id < h.length := fun id ri e => by
        rcases Nat.lt_or_ge id h.length with h' | h'
        · exact h'
        · rw [hst.free id h'] at e; cases e
      refine wpIn_mono (hround { w := A, r := ρ } (w.heap.size + 1) pre x hpx hdom _ _ _ _ ha0) fun e a1 A1 hq => ?_
      cases e <;> simp only [lift] at hq <;> try exact hq.elim
      all_goals try (obtain ⟨_, _, _, _, _, hq⟩ := hq; exact hq.elim)
      obtain ⟨ρ1, F1, tm1, h1, hs1, hb1⟩ := hq
      -- the record is busy
      have hl2 : A1.heap[w.heap.size + 1]? = some (.loop (rec .ready none)) := hs1.keep.books _ _ hl1 rfl
      have hk2 : A1.heap[w.heap.size]? = some (.deferred (some [])) := hs1.keep.books _ _ hk1 rfl
      refine ⟨_, run_beginRound hl2 (by rw [hrec]), ?_⟩
      have hOl : ¬ O (w.heap.size + 1) := fun ho => by have := hOlt _ ho; omega
      have hA1 : w.heap.size + 1 < A1.heap.size := (Array.getElem?_eq_some_iff.1 hl2).1
      have hs2 : St O { w := A.putObj (w.heap.size + 1) (.loop { rec .ready none with state := .busy }), r := ρ } N ρ1 F1 tm1 h1 a1 (A1.putObj (w.heap.size + 1) (.loop { rec .ready none with state := .busy })) := by
        refine hs1.bturnC hl2 rfl ?_ hs1.size hs1.rel (Keep.put2 (o' := .loop (rec .ready none)) hs1.keep hA1 hOl) hs1.ext0
        obtain ⟨ds, d1, d2, d3⟩ := hs1.defers
        refine ⟨ds, d1, d2, fun D hD => ⟨by simpa using (d3 D hD).1, ?_⟩⟩
        rw [World.putObj_heap_other (by rintro rfl; have h5 := (d3 _ hD).2; rw [hl2] at h5; cases h5)]
        exact (d3 D hD).2
      refine wpIn_mono (hb1 { w := A.putObj (w.heap.size + 1) (.loop { rec .ready none with state := .busy }), r := ρ } hdom _ _ _ _ hs2) fun e a3 A3 hq => ?_
      cases e <;> simp only [lift] at hq <;> try exact hq.elim
      all_goals try (obtain ⟨_, _, _, _, _, hq⟩ := hq; exact hq.elim)
      obtain ⟨ρ3, F3, tm3, h3, hs3, hent⟩ := hq
      obtain ⟨ρ4, F4, hs4⟩ := hent _ hdom _ _ _ _ hs3
      have hlA : (A.putObj (w.heap.size + 1) (.loop { rec .ready none with state := .busy })).heap[w.heap.size + 1]? = some (.loop { rec .ready none with state := .busy }) := World.putObj_heap_same hAw
      have hl3 : A3.heap[w.heap.size + 1]? = some (.loop { rec .ready none with state := .busy }) := hs4.keep.books _ _ hlA rfl
      have hk3 : A3.heap[w.heap.size]? = some (.deferred (some [])) := hs4.keep.books _ _ (by show (A.putObj _ _).heap[w.heap.size]? = _; rw [World.putObj_heap_other (by omega)]; exact hk1) rfl
      have hend := run_endRound (P := P) none hl3
      have hback : (.loop { { rec .ready none with state := .busy } with state := if (none : Option Code).isNone then .ready else .done, pending := none } : Obj) = .loop (rec .ready none) := by rw [hrec]; rfl
      rw [hback] at hend
      refine ⟨_, _, hend, rfl, ⟨ρ4, F4, ?_⟩, World.putObj_heap_same (Array.getElem?_eq_some_iff.1 hl3).1, (World.putObj_heap_other (by omega)).trans hk3⟩
      exact hs4.bturnC hl3 rfl (DefO.nil rfl) hst.size (fun t => (hst.rel t).det hs4.ext0 (detT_get t hdet)) (Keep.via hs.keep hs4.keep (by simp) hOl) hs4.ext0
    · rintro e B ⟨⟨v, rfl⟩, ys, hys, ⟨ρ', F', hs⟩, hl1, hk1⟩
      have hOl : ¬ O (w.heap.size + 1) := fun ho => by have := hOlt _ ho; omega
      refine ⟨none, _, by have := run_endLoop (P := P) hl1 (by rw [hrec]; simp); rw [hrec] at this; exact this, ρ', F', tm, H ys, ?_, hdone ys hys⟩
      refine hs.bturnC hl1 rfl ?_ hst.size hs.rel (hst.keep.trans (Keep.put hs.keep (by simp) hOl)) fun id ri e => hs.ext0 _ _ (hst.ext0 _ _ e)
      obtain ⟨ds, d1, d2, d3⟩ := hst.defers
      refine ⟨w.heap.size :: ds, by simp [marks, d1], List.nodup_cons.2 ⟨fun hm => ?_, d2⟩, fun D hD => ?_⟩
      · have := (Array.getElem?_eq_some_iff.1 (d3 _ hm).2).1; omega
      · rcases List.mem_cons.1 hD with rfl | hD
        · exact ⟨hst.keep.size, (World.putObj_heap_other (by omega)).trans hk1⟩
        · refine ⟨(d3 D hD).1, ?_⟩
          have hlt := (Array.getElem?_eq_some_iff.1 (d3 D hD).2).1
          rw [World.putObj_heap_other (by omega)]
          exact hs.keep.books _ _ (d3 D hD).2 rfl
end
end Go.IL

set_option linter.unusedVariables false
set_option linter.unusedSimpArgs false
namespace Go.IL
open Go.RowKit
section
variable {P : Program} {N : Nat} {ops : Array Oper}
/-- Quiet operations, one behind the other, for a call of whatever state: nothing that lay turns. -/
theorem QC.below {K : TM → Heap → Prop} : ∀ (k i : Nat) (tm : TM) (h : Heap), QC P N ops i k tm h K → ∀ (ρ : Rho) (O F : Nat → Prop) (a : Act) (w : World) (Q : Exit → Act → World → Prop), Sat ρ O F h w → (∀ id, h.length ≤ id → ρ id = none) →
    (∀ t, VRel ρ O F w (tm.get t) (a.tmps.getD t undef)) → a.tmps.size = N →
    (∀ ρ' F' tm' h' a' w', Ext ρ F w ρ' F' w' → (∀ id, id < h.length → ρ' id = ρ id) → Sat ρ' O F' h' w' → (∀ id, h'.length ≤ id → ρ' id = none) → (∀ t, VRel ρ' O F' w' (tm'.get t) (a'.tmps.getD t undef)) → a'.tmps.size = N → a'.defers = a.defers → h.length ≤ h'.length → K tm' h' → Q .normal a' w') →
    wpOps P ops Q (List.range' i k) a w
  | 0, i, tm, h, hq, ρ, O, F, a, w, Q, hs, hf, hr, hn, hQ => hQ ρ F tm h a w (Ext.refl _ _ _) (fun _ _ => rfl) hs hf hr hn rfl (Nat.le_refl _) hq
  | k + 1, i, tm, h, hq, ρ, O, F, a, w, Q, hs, hf, hr, hn, hQ => by
    obtain ⟨o, sv, ext, ho, hd, hg, hrest⟩ := hq
    have hG := hg ρ O F w a hs (fun t _ => hr t) (fun id h1 _ => hf id h1) (wpOps P ops Q (List.range' (i + 1) k)) Q
      (fun v ρ' F' w' hx hid hs' hv => by
        refine QC.below k (i + 1) _ _ hrest ρ' O F' (a.put o.dst v) w' Q hs' (fun id hid' => ?_) (fun t => ?_) (by rw [Act.put_size]; exact hn) fun ρ2 F2 tm2 h2 a2 w2 hx2 he2 hs2 hf2 hr2 hn2 hd2 hl2 hk2 => ?_
        · have h1 : ρ id = none := hf id (by simp only [List.length_append] at hid'; omega)
          by_cases e : ρ' id = ρ id
          · rw [e]; exact h1
          · have := hid id e
            simp only [List.length_append] at hid'
            omega
        · rw [Act.put_getD hn hd, TM.get_put]
          by_cases e : o.dst = some t
          · simp only [e, if_true]; exact hv
          · simp only [e, if_false]; exact (hr t).ext hs.lt hx
        · refine hQ ρ2 F2 tm2 h2 a2 w2 (hx.trans hx2) (fun id hid' => ?_) hs2 hf2 hr2 hn2 (hd2.trans (Act.put_defers' _ _ _)) (by simp only [List.length_append] at hl2; omega) hk2
          rw [he2 id (by simp only [List.length_append]; omega)]
          by_cases e : ρ' id = ρ id
          · exact e
          · have := hid id e; omega)
    rw [List.range'_succ, wpOps_cons]
    unfold wpOp
    simp only [ho]
    split
    · rename_i hw; simp only [hw, if_true] at hG; exact .inl hG
    · rename_i hw; simp only [hw] at hG; exact hG
/-- What of a value stays known when memory turns under it: numbers, and places of the first n rows. -/
def kp (n : Nat) (s : SV) : SV := bif s.det && s.bnd n then s else .any
theorem kp_rel {n : Nat} {ρ ρ' : Rho} {O F O' F' : Nat → Prop} {w w' : World} (hρ : ∀ id ri, id < n → ρ id = some ri → ρ' id = some ri) {s : SV} {v : Value} (h : VRel ρ O F w s v) : VRel ρ' O' F' w' (kp n s) v := by
  unfold kp
  cases e : (s.det && s.bnd n) with
  | false => exact .any _
  | true =>
    simp only [Bool.and_eq_true] at e
    exact (h.bnd e.2).det (fun id ri e1 => by
      split at e1
      · exact hρ id ri (by assumption) e1
      · cases e1) e.1
def kpT (n : Nat) : TM → TM
  | [] => []
  | (t, s) :: r => (t, kp n s) :: kpT n r
theorem kpT_get (n : Nat) : ∀ (tm : TM) (t : Nat), (kpT n tm).get t = kp n (tm.get t)
  | [], t => rfl
  | (u, s) :: r, t => by
    simp only [kpT, TM.get]
    split
    · rfl
    · exact kpT_get n r t
/-! ### A function that is ranged over -/
structure JS (ρ : Rho) (N : Nat) (tm : TM) (a : Act) (W : World) : Prop where
  rel : ∀ t, VRel ρ (Rest ρ W) (fun _ => False) W (tm.get t) (a.tmps.getD t undef)
  defers : a.defers = []
  size : a.tmps.size = N
def liftJ {α : Type} (J : List α → World → Prop) (ρ : Rho) (N : Nat) (Q : Exit → TM → List α → Prop) : Exit → Act → World → Prop
  | .outgrown, _, _ => False
  | .panic _, _, _ => False
  | e, a, W => ∃ tm pre, JS ρ N tm a W ∧ J pre W ∧ Q e tm pre
def IWJ (P : Program) {α : Type} (J : List α → World → Prop) (ρ : Rho) (N : Nat) (code : Code) (tm : TM) (pre : List α) (Q : Exit → TM → List α → Prop) : Prop :=
  ∀ (a : Act) (W : World), JS ρ N tm a W → J pre W → code.wp P (liftJ J ρ N Q) a W
/-- What the rows and the caller's word bear. -/
structure JC {α : Type} (J : List α → World → Prop) (ρ : Rho) (rows : List Row) : Prop where
  free : ∀ id, rows.length ≤ id → ρ id = none
  grown : ∀ pre A B, J pre A → A.grownBy B none → J pre B
  sat : ∀ pre A, J pre A → Sat ρ (Rest ρ A) (fun _ => False) (rows.map some) A
variable {α : Type} {J : List α → World → Prop} {ρ : Rho} {rows : List Row} {tm : TM} {pre : List α} {tab : Tab} {id : Nat}
def thnJ (K : TM → List α → Prop) (Q : Exit → TM → List α → Prop) : Exit → TM → List α → Prop
  | .normal, tm, pre => K tm pre
  | e, tm, pre => Q e tm pre
def blkJ (id : Nat) (Q : Exit → TM → List α → Prop) : Exit → TM → List α → Prop
  | .exit id', tm, pre => if id' = id then Q .normal tm pre else Q (.exit id') tm pre
  | e, tm, pre => Q e tm pre
variable {Q : Exit → TM → List α → Prop}
theorem IWJ.skip (hq : Q .normal tm pre) : IWJ P J ρ N .skip tm pre Q := fun a W h hj => wp_skip ⟨tm, pre, h, hj, hq⟩
theorem IWJ.ret (hq : Q .ret tm pre) : IWJ P J ρ N .ret tm pre Q := fun a W h hj => wp_ret ⟨tm, pre, h, hj, hq⟩
theorem IWJ.exit {id : Nat} (hq : Q (.exit id) tm pre) : IWJ P J ρ N (.exit id) tm pre Q := fun a W h hj => wp_exit ⟨tm, pre, h, hj, hq⟩
theorem IWJ.seq {x y : Code} (hi : IWJ P J ρ N x tm pre (thnJ (fun tm pre => IWJ P J ρ N y tm pre Q) Q)) : IWJ P J ρ N (.seq x y) tm pre Q :=
  fun a W h hj => wp_seq (wp_mono (hi a W h hj) fun e a w hl => by
    cases e <;> first | exact hl | (obtain ⟨tm, pre, h1, h2, h3⟩ := hl; first | exact h3 _ _ h1 h2 | exact ⟨tm, pre, h1, h2, h3⟩))
theorem IWJ.block {id : Nat} {x : Code} (hi : IWJ P J ρ N x tm pre (blkJ id Q)) : IWJ P J ρ N (.block id x) tm pre Q :=
  fun a W h hj => wp_block (wp_mono (hi a W h hj) fun e a w hl => by
    cases e <;> first | exact hl | skip
    case exit id' =>
      obtain ⟨tm, pre, h1, h2, h3⟩ := hl
      simp only [blkJ] at h3
      simp only [Exit.inBlock]
      split
      · rename_i e; rw [if_pos e] at h3; exact ⟨tm, pre, h1, h2, h3⟩
      · rename_i e; rw [if_neg e] at h3; exact ⟨tm, pre, h1, h2, h3⟩)
theorem IWJ.cond {t : Nat} {b : Bool} {x y : Code} (hb : tm.get t = .bool b) (h1 : b = true → IWJ P J ρ N x tm pre Q) (h0 : b = false → IWJ P J ρ N y tm pre Q) : IWJ P J ρ N (.cond (.tmp t) x y) tm pre Q := by
  intro a W h hj
  have hv := h.rel t
  rw [hb] at hv
  generalize hvv : a.tmps.getD t undef = v at hv
  cases hv
  refine wp_cond (t := b) hvv ?_
  cases b with
  | true => exact h1 rfl a W h hj
  | false => exact h0 rfl a W h hj
/-- Of the temporaries those that are wanted. -/
def subJ (tm : TM) : TM → Prop
  | [] => True
  | (t, s) :: r => tm.get t = s ∧ subJ tm r
theorem subJ_get : ∀ {tm' : TM}, subJ tm tm' → ∀ t, tm'.get t = .any ∨ tm.get t = tm'.get t
  | [], _, t => .inl rfl
  | (u, s) :: r, h, t => by
    simp only [TM.get]
    by_cases e : u = t
    · subst e; rw [if_pos rfl]; exact .inr h.1
    · rw [if_neg e]; exact subJ_get h.2 t
theorem JS.sub {tm' : TM} {a : Act} {W : World} (h : JS ρ N tm a W) (hs : subJ tm tm') : JS ρ N tm' a W :=
  ⟨fun t => by rcases subJ_get hs t with e | e; rw [e]; exact .any _; rw [← e]; exact h.rel t, h.defers, h.size⟩
theorem IWJ.loop {β : Type} {c : Code} (L : β → TM) (R : β → List α) (μ : β → Nat) (x0 : β) (h0 : subJ tm (L x0)) (hp0 : pre = R x0)
    (hr : ∀ x, IWJ P J ρ N c (L x) (R x) (thnJ (fun tm' pre' => ∃ x', μ x' < μ x ∧ subJ tm' (L x') ∧ pre' = R x') Q)) : IWJ P J ρ N (.loop c) tm pre Q := by
  intro a W h hj
  subst hp0
  refine wp_loop_ghost (fun n a w => ∃ x, μ x = n ∧ JS ρ N (L x) a w ∧ J (R x) w) (μ x0) ⟨x0, rfl, h.sub h0, hj⟩ fun n a w hI => ?_
  obtain ⟨x, hx, hs, hjx⟩ := hI
  refine wp_mono (hr x a w hs hjx) fun e a1 w1 hq => ?_
  cases e <;> first | exact hq | skip
  case normal =>
    obtain ⟨tm1, pre1, hs1, hj1, x', hlt, hsub, rfl⟩ := hq
    exact ⟨μ x', by omega, x', rfl, hs1.sub hsub, hj1⟩
theorem IWJ.region (hJ : JC J ρ rows) (hT : TabOk P tab) (D : List (Option Nat)) (hN : dstB N ops D = true)
    (he : ∀ (X : XT) (K : TM → Heap → Prop), XQ P tab ops D X → (∀ tm' h', Q .normal (kpT rows.length tm') pre → K tm' h') → E tab D X ops.toList tm (rows.map some) K) : IWJ P J ρ N (.region id ops false) tm pre Q := by
  intro a W h hj
  have h1 := E_QC hT hN ops.toList 0 tm (rows.map some) (fun tm' _ => Q .normal (kpT rows.length tm') pre) (fun j o e => by simpa using e) (he _ _ (XQ0_ok hT hN) fun _ _ h => h)
  rw [Array.length_toList] at h1
  refine wp_region ?_
  rw [List.range_eq_range']
  refine QC.below _ _ _ _ h1 ρ (Rest ρ W) (fun _ => False) a W _ (hJ.sat _ _ hj) (fun id hid => hJ.free id (by simpa using hid)) h.rel h.size fun ρ' F' tm' h' a' w' hx heq hs hf hr hn hd hl hk => ?_
  refine ⟨_, pre, ⟨fun t => ?_, hd.trans h.defers, hn⟩, hJ.grown _ _ _ hj ⟨hx.below.os, hx.below.tape, hx.below.output, hx.below.size, fun b hb _ => hx.below.block b hb⟩, hk⟩
  rw [kpT_get]
  refine kp_rel (fun id ri hid e => ?_) (hr t)
  rw [← heq id (by simpa using hid)]; exact e
end
end Go.IL

set_option linter.unusedVariables false
set_option linter.unusedSimpArgs false
namespace Go.IL
open Go.RowKit
section
variable {P : Program} {N n : Nat} {ops : Array Oper} {Q : Exit → Act → World → Prop}
theorem rowsInW {row : String} {args : Array Value} {w : World} {R : Value → World → Prop} (h : Rows P row args w R) : RowsIn Fence.wide n P row args w R :=
  fun f cs _ => let ⟨v, w', r, s⟩ := h f cs; ⟨v, w', r, stepsIn_wide.2 s⟩
theorem opInW {o : Oper} {a : Act} {w : World} {next : Act → World → Prop} (h : o.wp P a w next Q) : o.wpIn Fence.wide n P a w next Q := by
  refine ⟨fun _ _ => trivial, ?_⟩
  rw [show Fence.wide.round = none from rfl, Oper.semAt_none]
  unfold Oper.wp at h
  generalize (execOp a.eval o).run P w = r at h
  cases r with
  | ok x w' =>
    cases x
    case enter f args => exact ⟨fun e => (by cases e), callsIn_wide.2 h⟩
    case row row args => exact ⟨fun e => (by cases e), rowsInW h⟩
    case round => exact h.elim
    all_goals exact h
  | halt x w' => cases x <;> exact h
/-- As QC.below, with more to come. -/
theorem QC.belowIn {K : TM → Heap → Prop} {rest : List Nat} : ∀ (k i : Nat) (tm : TM) (h : Heap), QC P N ops i k tm h K → ∀ (ρ : Rho) (O F : Nat → Prop) (a : Act) (w : World), Sat ρ O F h w → (∀ id, h.length ≤ id → ρ id = none) →
    (∀ t, VRel ρ O F w (tm.get t) (a.tmps.getD t undef)) → a.tmps.size = N →
    (∀ ρ' F' tm' h' a' w', Ext ρ F w ρ' F' w' → (∀ id, id < h.length → ρ' id = ρ id) → Sat ρ' O F' h' w' → (∀ id, h'.length ≤ id → ρ' id = none) → (∀ t, VRel ρ' O F' w' (tm'.get t) (a'.tmps.getD t undef)) → a'.tmps.size = N → a'.defers = a.defers → h.length ≤ h'.length → K tm' h' → wpOpsIn Fence.wide n P ops Q rest a' w') →
    wpOpsIn Fence.wide n P ops Q (List.range' i k ++ rest) a w
  | 0, i, tm, h, hq, ρ, O, F, a, w, hs, hf, hr, hn, hQ => hQ ρ F tm h a w (Ext.refl _ _ _) (fun _ _ => rfl) hs hf hr hn rfl (Nat.le_refl _) hq
  | k + 1, i, tm, h, hq, ρ, O, F, a, w, hs, hf, hr, hn, hQ => by
    obtain ⟨o, sv, ext, ho, hd, hg, hrest⟩ := hq
    have hG := hg ρ O F w a hs (fun t _ => hr t) (fun id h1 _ => hf id h1) (wpOpsIn Fence.wide n P ops Q (List.range' (i + 1) k ++ rest)) Q
      (fun v ρ' F' w' hx hid hs' hv => by
        refine QC.belowIn k (i + 1) _ _ hrest ρ' O F' (a.put o.dst v) w' hs' (fun id hid' => ?_) (fun t => ?_) (by rw [Act.put_size]; exact hn) fun ρ2 F2 tm2 h2 a2 w2 hx2 he2 hs2 hf2 hr2 hn2 hd2 hl2 hk2 => ?_
        · have h1 : ρ id = none := hf id (by simp only [List.length_append] at hid'; omega)
          by_cases e : ρ' id = ρ id
          · rw [e]; exact h1
          · have := hid id e
            simp only [List.length_append] at hid'
            omega
        · rw [Act.put_getD hn hd, TM.get_put]
          by_cases e : o.dst = some t
          · simp only [e, if_true]; exact hv
          · simp only [e, if_false]; exact (hr t).ext hs.lt hx
        · refine hQ ρ2 F2 tm2 h2 a2 w2 (hx.trans hx2) (fun id hid' => ?_) hs2 hf2 hr2 hn2 (hd2.trans (Act.put_defers' _ _ _)) (by simp only [List.length_append] at hl2; omega) hk2
          rw [he2 id (by simp only [List.length_append]; omega)]
          by_cases e : ρ' id = ρ id
          · exact e
          · have := hid id e; omega)
    rw [List.range'_succ, List.cons_append, wpOpsIn_cons]
    unfold wpOpIn
    simp only [ho]
    split
    · rename_i hw; simp only [hw, if_true] at hG; exact opInW hG
    · rename_i hw; simp only [hw] at hG; exact ⟨fun _ _ => trivial, hG⟩
variable {α : Type} {J : List α → World → Prop} {ρ : Rho} {rows : List Row} {tm : TM} {pre : List α} {tab : Tab} {id : Nat}
theorem IWJ.region_yield {Q : Exit → TM → List α → Prop} (hJ : JC J ρ rows) (hT : TabOk P tab) (D : List (Option Nat)) (hN : dstB N ops D = true) {m d t0 tx jg dg l : Nat} {xv : α → Value} {x : α} {g : Bool} {o : Oper} {ats : Array TypeId}
    (ho : ops[m]? = some o) (hop : o.op = .call ⟨.value (.tmp t0), #[.tmp tx], ats⟩) (hdst : o.dst = some d) (hgd : o.guard = some (jg, true)) (hgj : (ops[jg]?).bind (·.dst) = some dg)
    (hy : g = true → ∀ A, J pre A → YieldAt Fence.wide 0 P l #[xv x] A fun e B => e = .returned (.bool true) ∧ J (pre ++ [x]) B)
    (he : ∀ (X : XT) (K : TM → Heap → Prop), XQ P tab ops D X → (∀ tm1 h1, (tm1.get dg = .bool g ∧ (g = true → tm1.get t0 = .cnd true (.raw (.func (.yield l) #[] #[])) ∧ ∀ (ρ : Rho) (O F : Nat → Prop) (w : World) (v : Value), VRel ρ O F w (tm1.get tx) v → v = xv x) ∧
      ∀ (X2 : XT) (K2 : TM → Heap → Prop), XQ P tab ops D X2 → (∀ tm' h', Q .normal (kpT rows.length tm') (bif g then pre ++ [x] else pre) → K2 tm' h') → E tab D X2 (ops.toList.drop (m + 1)) ((d, .cnd g (.bool true)) :: kpT rows.length tm1) (rows.map some) K2) → K tm1 h1) → E tab D X (ops.toList.take m) tm (rows.map some) K) : IWJ P J ρ N (.region id ops false) tm pre Q := by
  intro a W h hj
  have hm : m < ops.size := (Array.getElem?_eq_some_iff.1 ho).1
  have hdN : d < N := dstB_lt hN ho d hdst
  have h1 := E_QC hT hN (ops.toList.take m) 0 tm (rows.map some) _ (fun j o' e => by
    have hj : j < m := by have := (List.getElem?_eq_some_iff.1 e).1; simp at this; omega
    rw [List.getElem?_take_of_lt hj] at e
    simpa using e) (he _ _ (XQ0_ok hT hN) fun _ _ h => h)
  have hl : (ops.toList.take m).length = m := by simp; omega
  rw [hl] at h1
  refine (wpIn_wide (n := 0)).1 (wpIn_region ?_)
  have hr : List.range ops.size = List.range' 0 m ++ (m :: (List.range' (m + 1) (ops.size - (m + 1)) ++ [])) := by
    rw [List.append_nil, List.range_eq_range', ← List.range'_succ, show ops.size - (m + 1) + 1 = ops.size - m by omega]
    have := @List.range'_append_1 0 m (ops.size - m)
    rw [Nat.zero_add, show m + (ops.size - m) = ops.size by omega] at this
    exact this.symm
  rw [hr]
  refine QC.belowIn _ _ _ _ h1 ρ (Rest ρ W) (fun _ => False) a W (hJ.sat _ _ hj) (fun id hid => hJ.free id (by simpa using hid)) h.rel h.size fun ρ1 F1 tm1 h1' a1 W1 hx heq hs hf hrel hn hd hlen hk => ?_
  obtain ⟨hg1, hg2, hrest⟩ := hk
  have hj1 : J pre W1 := hJ.grown _ _ _ hj ⟨hx.below.os, hx.below.tape, hx.below.output, hx.below.size, fun b hb _ => hx.below.block b hb⟩
  have hkp : ∀ (B : World) t, VRel ρ (Rest ρ B) (fun _ => False) B ((kpT rows.length tm1).get t) (a1.tmps.getD t undef) := fun B t => by
    rw [kpT_get]
    refine kp_rel (fun id ri hid e => ?_) (hrel t)
    rw [← heq id (by simpa using hid)]; exact e
  have hgo : ∀ (pre' : List α) (B : World) (v : Value), pre' = (bif g then pre ++ [x] else pre) → J pre' B → (∀ ρ O F w, VRel ρ O F w (.cnd g (.bool true)) v) → wpOpsIn Fence.wide 0 P ops (liftJ J ρ N Q) (List.range' (m + 1) (ops.size - (m + 1)) ++ []) (a1.put o.dst v) B := by
    intro pre' B v hp' hjB hv
    have h2 := E_QC hT hN (ops.toList.drop (m + 1)) (m + 1) ((d, .cnd g (.bool true)) :: kpT rows.length tm1) (rows.map some) _ (fun j o' e => by rw [List.getElem?_drop] at e; simpa using e) (hrest _ _ (XQ0_ok hT hN) fun _ _ h => h)
    rw [List.length_drop, Array.length_toList] at h2
    refine QC.belowIn _ _ _ _ h2 ρ (Rest ρ B) (fun _ => False) _ B (hJ.sat _ _ hjB) (fun id hid => hJ.free id (by simpa using hid)) (fun t => ?_) (by rw [Act.put_size]; exact hn) fun ρ2 F2 tm2 h2' a2 W2 hx2 heq2 hs2 hf2 hrel2 hn2 hd2 hlen2 hk2 => ?_
    · rw [Act.put_getD hn (fun d' e => by rw [hdst] at e; cases e; exact hdN), hdst]
      simp only [TM.get, Option.some.injEq]
      by_cases e : d = t
      · simp only [e, if_true]; exact hv _ _ _ _
      · simp only [e, if_false]; exact hkp B t
    · refine ⟨_, pre', ⟨fun t => ?_, (hd2.trans (Act.put_defers' _ _ _)).trans (hd.trans h.defers), hn2⟩, hJ.grown _ _ _ hjB ⟨hx2.below.os, hx2.below.tape, hx2.below.output, hx2.below.size, fun b hb _ => hx2.below.block b hb⟩, by rw [hp']; exact hk2⟩
      rw [kpT_get]
      refine kp_rel (fun id ri hid e => ?_) (hrel2 t)
      rw [← heq2 id (by simpa using hid)]; exact e
  have hw : Region.wanted o (yielded ops a1.tmps) = g := gcond_eq (tm := tm1) hgd hgj (by rw [hg1]; cases g <;> rfl) (fun t _ => hrel t)
  rw [wpOpsIn_cons]
  unfold wpOpIn
  simp only [ho]
  rw [hw]
  cases g with
  | false =>
    simp only [Bool.false_eq_true, if_false]
    exact ⟨fun _ _ => trivial, hgo pre W1 undef rfl hj1 fun _ _ _ _ => .cnd _ _ _ (fun e => by cases e) (fun _ => rfl)⟩
  | true =>
    simp only [if_true]
    obtain ⟨e0, ex⟩ := hg2 rfl
    have hv0 := hrel t0
    rw [e0] at hv0
    have hvx := ex _ _ _ _ _ (hrel tx)
    generalize hv00 : a1.tmps.getD t0 undef = v0 at hv0
    cases hv0 with
    | cnd _ _ _ hc _ =>
    have hc' := hc rfl
    cases hc'
    obtain ⟨fn, tmps, assign, body, hrun, hround⟩ := hy rfl W1 hj1
    refine ⟨fun _ _ => trivial, ?_⟩
    rw [show Fence.wide.round = none from rfl, Oper.semAt_none]
    have hexec : (execOp a1.eval o).run P W1 = .ok (.round l fn tmps assign body) W1 := by
      obtain ⟨_, op, _, _, _, _⟩ := o
      simp only at hop
      subst hop
      simp only [execOp, resolve, show a1.eval (.tmp t0) = .func (.yield l) #[] #[] from hv00, Deferred.ofValue]
      rw [run_bind, run_pure]
      simp only [invoke, Array.empty_append, Array.append_empty, List.map_toArray, List.map_cons, List.map_nil, show a1.eval (.tmp tx) = xv x from hvx]
      exact hrun
    rw [hexec, Oper.uponIn_round]
    refine ⟨fun e => (by cases e), hround.mono ?_⟩
    rintro e B ⟨rfl, hjB⟩
    exact hgo (pre ++ [x]) B _ rfl hjB fun _ _ _ _ => .cnd _ _ _ (fun _ => .bool _) (fun e => by cases e)
end
end Go.IL

set_option linter.unusedVariables false
set_option linter.unusedSimpArgs false
namespace Go.IL
open Go.RowKit
section
variable {P : Program} {N : Nat}
theorem SeqOf.intro {gf : FuncId} {fn : Func} {c : Code} {caps : List SV} {rows : List Row} {α : Type} {xv : α → Value} {Y : List α → Prop} (hf : P.funcs[gf]? = some fn) (hb : fn.body = some c) (hN : fn.ntmps = N) (hres : fn.results = #[]) (hname : (fn.name == "runtime.NumGoroutine") = false) (hcl : caps.length + 1 ≤ N)
    (hw : ∀ (l : Nat) (J : List α → World → Prop) (ρ : Rho) (S : Nat), JC J ρ rows → (∀ pre A B r o, J pre A → A.grownBy B (some r) → S ≤ r → A.heap[r]? = some o → o.isWalk = true → J pre B) →
      (∀ pre x A, (∃ r, Y (pre ++ x :: r)) → J pre A → YieldAt Fence.wide 0 P l #[xv x] A fun e B => e = .returned (.bool true) ∧ J (pre ++ [x]) B) →
      IWJ P J ρ N c ((0, .raw (.func (.yield l) #[] #[])) :: argTM 1 caps) [] (fun e _ pre => (e = .normal ∨ e = .ret) ∧ Y pre)) : SeqOf P gf caps rows xv Y := by
  refine ⟨enters hf hname (by rw [hb]; rfl), fun l J W vs ρ hfree hlen hvs hgrow hwalk hsat hy hj => calls_of_wp hf hb ?_⟩
  have hjs : JS ρ N ((0, .raw (.func (.yield l) #[] #[])) :: argTM 1 caps) { tmps := (#[Value.func (.yield l) #[] #[]] ++ vs) ++ Array.replicate (fn.ntmps - (#[Value.func (.yield l) #[] #[]] ++ vs).size) undef, defers := [] } W := by
    refine ⟨fun t => ?_, rfl, by simp; omega⟩
    simp only [TM.get]
    by_cases e : 0 = t
    · subst e; rw [if_pos rfl]
      have : ((#[Value.func (.yield l) #[] #[]] ++ vs) ++ Array.replicate (fn.ntmps - (#[Value.func (.yield l) #[] #[]] ++ vs).size) undef).getD 0 undef = .func (.yield l) #[] #[] := by simp [Array.getD_eq_getD_getElem?, Array.getElem?_append]
      rw [this]; exact .raw _
    · rw [if_neg e, argTM_get, if_pos (by omega)]
      cases ec : caps[t - 1]? with
      | none => exact .any _
      | some s =>
        have ht : t - 1 < vs.size := by rw [← hlen]; exact (List.getElem?_eq_some_iff.1 ec).1
        have e2 : vs[t - 1]? = some vs[t - 1] := by simp [ht]
        have h3 := hvs (t - 1) s _ (Rest ρ W) (fun _ => False) W ec e2
        have h4 : ((#[Value.func (.yield l) #[] #[]] ++ vs) ++ Array.replicate (fn.ntmps - (#[Value.func (.yield l) #[] #[]] ++ vs).size) undef).getD t undef = vs[t - 1] := by
          rw [Array.getD_eq_getD_getElem?, Array.getElem?_append_left (by simp; omega), Array.getElem?_append_right (by simp; omega)]
          simp [ht]
        rw [h4]; exact h3
  refine wp_mono (hw l J ρ W.heap.size ⟨hfree, hgrow, hsat⟩ hwalk hy _ W hjs hj) fun e a w hl => ?_
  cases e <;> simp only [liftJ] at hl <;> try exact hl.elim
  all_goals
    obtain ⟨tm, pre, h1, h2, h3, h4⟩ := hl
    first
    | (exfalso; rcases h3 with h3 | h3 <;> cases h3; done)
    | (refine ⟨h1.defers, .tuple #[], ?_, ⟨_, rfl⟩, pre, h4, h2⟩
       simp [results, hres, run_bind, run_pure])
end
end Go.IL

set_option linter.unusedVariables false
set_option linter.unusedSimpArgs false
namespace Go.IL
open Go.RowKit
/-! ### A call that writes into rows of the caller's -/
/-- What a value is to a call that is handed the rows σ: places in these rows stay places, all else is told by content. -/
def reW (σ : List Nat) : Nat → Heap → SV → SV
  | 0, _, _ => .any
  | n + 1, h, s => match s with
    | .ref id off m => if id ∈ σ then .ref (σ.idxOf id) off m else if off + m ≤ (rowXs h id).length ∧ (hrow h id).isSome = true then .sl true ((((rowXs h id).drop off).take m).map fun x => x.map (reW σ n h)) else .any
    | .ptr id i j => if id ∈ σ then .ptr (σ.idxOf id) i j else .any
    | .agg cs => .agg (cs.map (reW σ n h))
    | .clo f cs => .clo f (cs.map (reW σ n h))
    | .sl _ xs => .sl true (xs.map fun x => x.map (reW σ n h))
    | .rptr _ x j => .rptr true (x.map (reW σ n h)) j
    | .mp _ xs => .mp true (xs.map fun x => x.map (reW σ n h))
    | .tup _ | .cnd _ _ | .it _ _ _ => .any
    | s => s
def Row.reW (σ : List Nat) (n : Nat) (h : Heap) (r : Row) : Row := ⟨r.k, r.elem, r.xs.map fun x => x.map (Go.IL.reW σ n h)⟩
/-- The rows σ by their numbers in the call. -/
def inR (σ : List Nat) (ρ : Rho) : Rho := fun i => if i < σ.length then ρ (σ.getD i 0) else none
section
variable {P : Program} {tab : Tab} {ops : Array Oper} {ρ : Rho} {O F : Nat → Prop} {w : World} {h : Heap}
theorem inR_idx {σ : List Nat} {id : Nat} (hm : id ∈ σ) : inR σ ρ (σ.idxOf id) = ρ id := by
  have h1 := List.idxOf_lt_length_iff.2 hm
  simp only [inR, if_pos h1]
  rw [List.getD_eq_getElem?_getD, List.getElem?_eq_getElem h1, Option.getD_some, List.getElem_idxOf]
theorem reW_rel (hs : Sat ρ O F h w) {σ : List Nat} (hσ : ∀ id ∈ σ, ∃ r, h[id]? = some (some r)) : ∀ (n : Nat) (s : SV) (v : Value), VRel ρ O F w s v → VRel (inR σ ρ) (Rest (inR σ ρ) w) (fun _ => False) w (reW σ n h s) v
  | 0, s, v, _ => .any v
  | n + 1, s, v, hv => by
    have hin : ∀ id ri, inR σ ρ id = some ri → ∃ id' r, id' ∈ σ ∧ h[id']? = some (some r) ∧ ρ id' = some ri := fun id ri e => by
      simp only [inR] at e
      split at e
      · rename_i hlt
        have hm : σ.getD id 0 ∈ σ := by rw [List.getD_eq_getElem?_getD, List.getElem?_eq_getElem hlt]; simp
        obtain ⟨r, hr⟩ := hσ _ hm
        exact ⟨_, r, hm, hr, e⟩
      · cases e
    have hrest : ∀ b, O b ∨ F b → Rest (inR σ ρ) w b := fun b hb => ⟨hs.lt b hb, fun id ri e hbb => by
      obtain ⟨id', r, _, hr, hρ⟩ := hin id ri e
      have hR := hs.row id' r ri hr hρ
      subst hbb
      exact hb.elim hR.no hR.nf⟩
    have him : ∀ o b, Im O F o b → Im (Rest (inR σ ρ) w) (fun _ => False) true b := fun o b hb => .inr ⟨rfl, hrest b (hb.elim .inr fun h => .inl h.2)⟩
    cases hv with
    | any v => exact .any v
    | bool b => exact .bool b
    | int k m => exact .int k m
    | str s => exact .str s
    | raw v => exact .raw v
    | agg cs vs hl hh =>
      refine .agg _ _ (by simpa using hl) fun i c v e1 e2 => ?_
      obtain ⟨c', h1, rfl⟩ := map_get e1
      exact reW_rel hs hσ n c' v (hh i c' v h1 e2)
    | tup cs vs hl hh => exact .any _
    | ptr id i j ri hρ =>
      simp only [reW]
      split
      · rename_i hm
        exact .ptr _ _ _ ri (by rw [inR_idx hm]; exact hρ)
      · exact .any _
    | ref id off m cap ri hρ hn hc hm =>
      simp only [reW]
      split
      · rename_i hmem
        exact .ref _ _ _ _ ri (by rw [inR_idx hmem]; exact hρ) hn hc hm
      · rename_i hnm
        split
        · rename_i hcond
          obtain ⟨h1, h2⟩ := hcond
          obtain ⟨r, hr⟩ := Option.isSome_iff_exists.1 h2
          have hR := hs.row id r ri (hrow_some hr) hρ
          have exs : rowXs h id = r.xs := by simp [rowXs, hr]
          rw [exs] at h1 ⊢
          obtain ⟨arr, e1, e2, e3, e4⟩ := hR.cells
          have hlen : (((r.xs.drop off).take m).map fun x => x.map (reW σ n h)).length = m := by simp; omega
          have hget : ∀ i x, i < m → ((r.xs.drop off).take m)[i]? = some x → r.xs[off + i]? = some x := fun i x hi e => by rwa [List.getElem?_take_of_lt hi, List.getElem?_drop] at e
          have hrb : Rest (inR σ ρ) w ri.b := ⟨hR.lt, fun id2 ri2 e hbb => by
            obtain ⟨id', r', hm', hr', hρ'⟩ := hin id2 ri2 e
            have := hs.inj id' id r' r ri2 ri hr' (hrow_some hr) hρ' hρ hbb
            subst this; exact hnm hm'⟩
          have key := VRel.sl (ρ := inR σ ρ) (O := Rest (inR σ ρ) w) (F := fun _ => False) (w := w) true (((r.xs.drop off).take m).map fun x => x.map (reW σ n h)) (some ⟨ri.b, off * ri.k, none⟩) cap r.k
            (fun i j => (w.cell? ⟨ri.b, off * ri.k + i * r.k + j, none⟩).getD undef)
            (fun x hx => by
              obtain ⟨x', hx', rfl⟩ := List.mem_map.1 hx
              rw [List.length_map]
              exact hR.wf _ (List.mem_of_mem_drop (List.mem_of_mem_take hx')))
            (by rw [hlen]; exact hn) hm
            (fun hp => ⟨ri.b, off * ri.k, rfl, .inr ⟨rfl, hrb⟩, fun i j hi hj => by
              rw [hlen] at hi
              have hi' : off + i < r.xs.length := by omega
              have hx : r.xs[off + i]? = some r.xs[off + i] := by simp [hi']
              have hxl : (r.xs[off + i]).length = r.k := hR.wf _ (List.getElem_mem hi')
              obtain ⟨v, a1, a2⟩ := e4 (off + i) j _ (r.xs[off + i][j]'(by omega)) hx (by simp [hxl, hj])
              have hcell : w.cell? ⟨ri.b, off * ri.k + i * r.k + j, none⟩ = some v := by
                simp only [World.cell?, e1]
                rw [hR.k, ← Nat.add_mul]
                simpa using a1
              rw [hcell]; rfl⟩)
            (fun i j x y f1 f2 => by
              have hi : i < m := by have := (List.getElem?_eq_some_iff.1 f1).1; rw [hlen] at this; exact this
              rw [List.getElem?_map] at f1
              obtain ⟨x', g1, rfl⟩ := Option.map_eq_some_iff.1 f1
              obtain ⟨y', g2, rfl⟩ := map_get f2
              obtain ⟨v, a1, a2⟩ := e4 (off + i) j x' y' (hget i x' hi g1) g2
              have hcell : w.cell? ⟨ri.b, off * ri.k + i * r.k + j, none⟩ = some v := by
                simp only [World.cell?, e1]
                rw [hR.k, ← Nat.add_mul]
                simpa using a1
              show VRel _ _ _ _ _ ((w.cell? ⟨ri.b, off * ri.k + i * r.k + j, none⟩).getD undef)
              rw [hcell]
              exact reW_rel hs hσ n y' v a2)
          rw [hlen] at key
          exact key
        · exact .any _
    | sl o xs a cap k cs hk hcap hm ha hh =>
      simp only [reW]
      have hlen : (xs.map fun x => x.map (reW σ n h)).length = xs.length := by simp
      rw [← hlen]
      refine .sl true _ a cap k cs (fun x hx => ?_) (by rw [hlen]; exact hcap) hm (fun hp => ?_) fun i j x y e1 e2 => ?_
      · obtain ⟨x', hx', rfl⟩ := List.mem_map.1 hx
        rw [List.length_map]; exact hk x' hx'
      · obtain ⟨b, off, e, hb, hc⟩ := ha (by rw [hlen] at hp; exact hp)
        exact ⟨b, off, e, him o b hb, by rw [hlen]; exact hc⟩
      · rw [List.getElem?_map] at e1
        obtain ⟨x', h1, rfl⟩ := Option.map_eq_some_iff.1 e1
        obtain ⟨y', h2, rfl⟩ := map_get e2
        exact reW_rel hs hσ n y' _ (hh i j x' y' h1 h2)
    | rptr o x j b off cs hb ha hh =>
      simp only [reW]
      refine .rptr true _ j b off cs (him o b hb) (fun i hi => ha i (by simpa using hi)) fun i y e => ?_
      obtain ⟨y', h2, rfl⟩ := map_get e
      exact reW_rel hs hσ n y' _ (hh i y' h2)
    | mp o xs b es cs hb hw hk hn he hh =>
      simp only [reW]
      have hlen : (xs.map fun x => x.map (reW σ n h)).length = xs.length := by simp
      refine .mp true _ b es cs (him o b hb) (by rw [hlen]; exact hw) (fun x hx => ?_) (hn.trans hlen.symm) (fun i hi => he i (by rwa [hlen] at hi)) fun i j x y e1 e2 => ?_
      · obtain ⟨x', hx', rfl⟩ := List.mem_map.1 hx
        rw [List.length_map]; exact hk x' hx'
      · rw [List.getElem?_map] at e1
        obtain ⟨x', h1, rfl⟩ := Option.map_eq_some_iff.1 e1
        obtain ⟨y', h2, rfl⟩ := map_get e2
        exact reW_rel hs hσ n y' _ (hh i j x' y' h1 h2)
    | it => exact .any _
    | nils => exact .nils
    | nilp => exact .nilp
    | clo f cs vs hl hh =>
      refine .clo f _ _ (by simpa using hl) fun i c v e1 e2 => ?_
      obtain ⟨c', h1, rfl⟩ := map_get e1
      exact reW_rel hs hσ n c' v (hh i c' v h1 e2)
    | cnd g s v h1 h0 => exact .any _
def heapNold : Heap → Bool
  | [] => true
  | none :: l => heapNold l
  | some r :: l => noldLL r.xs && heapNold l
theorem heapNold_get : ∀ {h : Heap} {i : Nat} {r : Row}, heapNold h = true → h[i]? = some (some r) → noldLL r.xs = true
  | none :: _, 0, _, h, e => by simp at e
  | some x :: _, 0, _, h, e => by simp at e; subst e; simp [heapNold] at h; exact h.1
  | none :: _, i + 1, _, h, e => by simp only [heapNold] at h; exact heapNold_get h (by simpa using e)
  | some x :: _, i + 1, _, h, e => by simp [heapNold] at h; exact heapNold_get h.2 (by simpa using e)
/-- What a call comes to that is handed rows: the value, and what the rows hold behind it (the first ones are those that it was handed; the others are new). -/
def WSpec (P : Program) (f : FuncId) (args : List SV) (rowsIn : List Row) (sv : SV) (rowsOut : Heap) : Prop :=
  Entr P f ∧ rowsIn.length ≤ rowsOut.length ∧ ∀ (w : World) (cargs : Array Value) (ρ : Rho), Sat ρ (Rest ρ w) (fun _ => False) (rowsIn.map some) w → (∀ id, rowsIn.length ≤ id → ρ id = none) →
    args.length = cargs.size → (∀ (i : Nat) (s : SV) (v : Value), args[i]? = some s → cargs[i]? = some v → VRel ρ (Rest ρ w) (fun _ => False) w s v) →
    Calls P f cargs w fun e w' => ∃ v ρ' F', e = .returned v ∧ Keep (Rest ρ w) w w' ∧ Sat ρ' (fun _ => False) F' rowsOut w' ∧ (∀ id ri, ρ id = some ri → ρ' id = some ri) ∧ (∀ id, rowsOut.length ≤ id → ρ' id = none) ∧
      (∀ id ri, ρ' id = some ri → ¬ Rest ρ w ri.b) ∧ (∀ b, F' b → ¬ Rest ρ w b) ∧ VRel ρ' (fun _ => False) F' w' sv v
def FinPW (tab : Tab) (rs : List ResultVar) (sv : SV) (n : Nat) (rowsOut : Heap) (tm : TM) (h : Heap) : Prop :=
  resOAll tab tm h rs ∧ sv.nold = true ∧ heapNold rowsOut = true ∧ n ≤ rowsOut.length ∧ ∃ σ : List Nat, σ.length = rowsOut.length ∧ σ.Nodup ∧ σ.take n = List.range n ∧ resAll tab tm h rs = sv.ren (sg σ h.length) ∧ subH (sg σ h.length) h 0 rowsOut
def FinW (tab : Tab) (rs : List ResultVar) (sv : SV) (n : Nat) (rowsOut : Heap) : Exit → TM → Heap → Prop
  | .normal, tm, h => FinPW tab rs sv n rowsOut tm h
  | .ret, tm, h => FinPW tab rs sv n rowsOut tm h
  | _, _, _ => False
theorem WSpec.intro {N : Nat} (hT : TabOk P tab) {f : FuncId} {fn : Func} {c : Code} {rs : List ResultVar} {args : List SV} {rowsIn : List Row} {sv : SV} {rowsOut : Heap} (hf : P.funcs[f]? = some fn) (hb : fn.body = some c) (hN : fn.ntmps = N) (hr : fn.results.toList = rs)
    (hname : (fn.name == "runtime.NumGoroutine") = false) (hargs : args.length ≤ N) (hlen : rowsIn.length ≤ rowsOut.length)
    (hw : ∀ (O : Nat → Prop) (w0 : Ctx), (∀ id ri, w0.r id = some ri → id < rowsIn.length) → IW P O w0 N c (argTM 0 args) (rowsIn.map some) (FinW tab rs sv rowsIn.length rowsOut)) : WSpec P f args rowsIn sv rowsOut := by
  refine ⟨enters hf hname (by rw [hb]; rfl), hlen, fun w cargs ρ0 hS hfr hal hA => (callsIn_wide (n := 0)).1 (callsIn_of_wp_marks hf hb trivial (wpIn_wide.2 ?_))⟩
  have hdom : ∀ id ri, ρ0 id = some ri → id < rowsIn.length := fun id ri e => by
    rcases Nat.lt_or_ge id rowsIn.length with h' | h'
    · exact h'
    · rw [hfr id h'] at e; cases e
  have hst : St (Rest ρ0 w) { w := w, r := ρ0 } N ρ0 (fun _ => False) (argTM 0 args) (rowsIn.map some) { tmps := cargs ++ Array.replicate (fn.ntmps - cargs.size) undef, defers := [] } w := by
    refine ⟨hS, DefO.nil rfl, by simp; omega, fun t => ?_, Keep.refl _ _, fun id hid => hfr id (by simpa using hid), fun id ri e h => h.2 id ri e rfl, fun b hb => hb.elim, fun id ri e => e⟩
    rw [argTM_get, if_pos (Nat.zero_le _), Nat.sub_zero]
    cases e : args[t]? with
    | none => exact .any _
    | some s =>
      have ht : t < cargs.size := by rw [← hal]; exact (List.getElem?_eq_some_iff.1 e).1
      have e2 : cargs[t]? = some cargs[t] := by simp [ht]
      have := hA t s _ e e2
      simpa [Array.getElem?_append_left ht, ht] using this
  refine wp_mono (hw (Rest ρ0 w) { w := w, r := ρ0 } hdom _ _ _ _ hst) fun e a w' hl => ?_
  have key : ∀ ρ F tm h a w', St (Rest ρ0 w) { w := w, r := ρ0 } N ρ F tm h a w' → FinPW tab rs sv rowsIn.length rowsOut tm h → ∃ v, (results fn a.tmps).run P w' = .ok v w' ∧
      ∃ v' ρ' F', Ending.returned v = .returned v' ∧ Keep (Rest ρ0 w) w w' ∧ Sat ρ' (fun _ => False) F' rowsOut w' ∧ (∀ id ri, ρ0 id = some ri → ρ' id = some ri) ∧ (∀ id, rowsOut.length ≤ id → ρ' id = none) ∧
      (∀ id ri, ρ' id = some ri → ¬ Rest ρ0 w ri.b) ∧ (∀ b, F' b → ¬ Rest ρ0 w b) ∧ VRel ρ' (fun _ => False) F' w' sv v' := by
    intro ρ F tm h a w' hst hfin
    obtain ⟨h1, h2, h3, hle, σ, h4, h5, htk, h6, h7⟩ := hfin
    have hfix : ∀ id ri, ρ0 id = some ri → sg σ h.length id = id := fun id ri e => by
      have hid := hdom id ri e
      have : σ[id]? = some id := by
        have h8 : (σ.take rowsIn.length)[id]? = (List.range rowsIn.length)[id]? := by rw [htk]
        rw [List.getElem?_take_of_lt hid] at h8
        rw [h8]; simp [hid]
      simp only [sg, List.getD_eq_getElem?_getD, this, Option.getD_some]
    obtain ⟨v, h8, h9⟩ := results_run hT hst hr h1
    refine ⟨v, h8, v, fun id => ρ (sg σ h.length id), F, rfl, hst.keep, ?_, fun id ri e => by simp only [hfix id ri e]; exact hst.ext0 id ri e, fun id hid => ?_, fun id ri e => hst.rno _ ri e, hst.fno, ?_⟩
    · have hinj := List.pairwise_iff_getElem.1 h5
      refine ⟨fun id r ri e1 e2 => ?_, fun id id' r r' ri ri' e1 e1' e2 e2' hb => ?_, fun b hb => hst.sat.lt b (hb.imp False.elim id)⟩
      · have g1 := subH_get h7 id r e1
        rw [Nat.zero_add] at g1
        have g2 := (hst.sat.row _ _ ri g1 e2).unren
        refine ⟨g2.k, fun h => h, g2.nf, g2.wf, ?_⟩
        obtain ⟨arr, a1, a2, a3, a4⟩ := g2.cells
        refine ⟨arr, a1, a2, a3, fun i j x y b1 b2 => ?_⟩
        obtain ⟨v, c1, c2⟩ := a4 i j x y b1 b2
        exact ⟨v, c1, c2.nold (noldL_get (noldLL_get (heapNold_get h3 e1) b1) b2)⟩
      · have g1 := subH_get h7 id r e1
        have g2 := subH_get h7 id' r' e1'
        rw [Nat.zero_add] at g1 g2
        have g3 := hst.sat.inj _ _ _ _ ri ri' g1 g2 e2 e2' hb
        have hi : id < σ.length := by rw [h4]; exact (List.getElem?_eq_some_iff.1 e1).1
        have hi' : id' < σ.length := by rw [h4]; exact (List.getElem?_eq_some_iff.1 e1').1
        simp only [sg, List.getD_eq_getElem?_getD, List.getElem?_eq_getElem hi, List.getElem?_eq_getElem hi', Option.getD_some] at g3
        rcases Nat.lt_trichotomy id id' with g4 | g4 | g4
        · exact absurd g3 (hinj id id' hi hi' g4)
        · exact g4
        · exact absurd g3.symm (hinj id' id hi' hi g4)
    · refine hst.free _ ?_
      simp only [sg]
      rw [List.getD_eq_getElem?_getD, List.getElem?_eq_none (by omega)]; exact Nat.le_refl _
    · rw [h6] at h9
      exact (h9.unren sv rfl).nold h2
  have fin : ∀ (ds : List Nat) (ρ : Rho) (F : Nat → Prop) (tm : TM) (h : Heap) (a : Act) (w' : World), St (Rest ρ0 w) { w := w, r := ρ0 } N ρ F tm h a w' → FinPW tab rs sv rowsIn.length rowsOut tm h → a.defers = marks ds → ds.Nodup → (∀ D ∈ ds, w.heap.size ≤ D ∧ w'.heap[D]? = some (Obj.deferred (some []))) → LeavesInM Fence.wide 0 P fn a.tmps (fun e w' => ∃ v ρ' F', e = .returned v ∧ Keep (Rest ρ0 w) w w' ∧ Sat ρ' (fun _ => False) F' rowsOut w' ∧ (∀ id ri, ρ0 id = some ri → ρ' id = some ri) ∧ (∀ id, rowsOut.length ≤ id → ρ' id = none) ∧
      (∀ id ri, ρ' id = some ri → ¬ Rest ρ0 w ri.b) ∧ (∀ b, F' b → ¬ Rest ρ0 w b) ∧ VRel ρ' (fun _ => False) F' w' sv v) (marks ds) .returning w' := by
    intro ds
    induction ds with
    | nil => intro ρ F tm h a w' hst hfin _ _ _; exact key ρ F tm h a w' hst hfin
    | cons D ds ih =>
      intro ρ F tm h a w' hst hfin hd hnd hall
      have h1 := hall D (by simp)
      refine ⟨by simp, .inl ⟨D, _, rfl, run_takeDeferred h1.2, ?_⟩⟩
      have hst2 := hst.dturn h1.2 (fun ho => by have := ho.1; have := h1.1; omega) h1.1 (List.nodup_cons.1 hnd).2 (List.nodup_cons.1 hnd).1 (fun D' h' => hall D' (List.mem_cons_of_mem _ h')) (.deferred none)
      refine ih ρ F tm h { a with defers := marks ds } _ hst2 hfin rfl (List.nodup_cons.1 hnd).2 fun D' h' => ⟨(hall D' (List.mem_cons_of_mem _ h')).1, ?_⟩
      rw [World.putObj_heap_other (by rintro rfl; exact (List.nodup_cons.1 hnd).1 h')]
      exact (hall D' (List.mem_cons_of_mem _ h')).2
  cases e <;> simp only [lift] at hl <;> first | exact hl.elim | skip
  all_goals
    obtain ⟨ρ, F, tm, h, hst, hq⟩ := hl
    first | exact hq.elim | (obtain ⟨ds, d1, d2, d3⟩ := hst.defers; show LeavesInM _ _ _ _ _ _ a.defers _ _; rw [d1]; exact fin ds ρ F tm h a w' hst hq d1 d2 d3)
end
end Go.IL

set_option linter.unusedVariables false
set_option linter.unusedSimpArgs false
namespace Go.IL
open Go.RowKit
/-- The numbers behind such a call: those that were handed, then new ones. -/
def tauW (σ : List Nat) (d : Nat) : Nat → Nat := fun i => if i < σ.length then σ.getD i 0 else d + (i - σ.length)
def updR (τ : Nat → Nat) : Heap → List Nat → Heap → Heap
  | h, i :: σ, o :: r => updR τ (h.set i (o.map (Row.ren τ))) σ r
  | h, [], _ => h
  | h, _, [] => h
theorem updR_length (τ : Nat → Nat) : ∀ (σ : List Nat) (h r : Heap), (updR τ h σ r).length = h.length
  | i :: σ, h, o :: r => by rw [updR, updR_length τ σ]; simp
  | [], h, r => by unfold updR; rfl
  | _ :: _, h, [] => by unfold updR; rfl
theorem updR_other (τ : Nat → Nat) : ∀ (σ : List Nat) (h r : Heap) (id : Nat), id ∉ σ → (updR τ h σ r)[id]? = h[id]?
  | i :: σ, h, o :: r, id, hm => by
    rw [updR, updR_other τ σ _ _ id (fun h => hm (List.mem_cons_of_mem _ h)), List.getElem?_set_ne (fun e => hm (by simp [e]))]
  | [], h, r, id, hm => by unfold updR; rfl
  | _ :: _, h, [], id, hm => by unfold updR; rfl
theorem updR_at (τ : Nat → Nat) : ∀ (σ : List Nat) (h r : Heap) (j : Nat), σ.Nodup → (∀ id ∈ σ, id < h.length) → j < σ.length → σ.length ≤ r.length → (updR τ h σ r)[σ.getD j 0]? = (r[j]?).map fun o => o.map (Row.ren τ)
  | i :: σ, h, o :: r, 0, hn, hl, hj, hr => by
    rw [updR]
    simp only [List.getD_cons_zero]
    rw [updR_other τ σ _ _ i (List.nodup_cons.1 hn).1, List.getElem?_set_self (hl i (by simp))]
    rfl
  | i :: σ, h, o :: r, j + 1, hn, hl, hj, hr => by
    rw [updR]
    simp only [List.getD_cons_succ, List.getElem?_cons_succ]
    exact updR_at τ σ _ r j (List.nodup_cons.1 hn).2 (fun id hm => by simpa using hl id (List.mem_cons_of_mem _ hm)) (by simpa using hj) (by simpa using hr)
  | _ :: _, _, [], _, _, _, _, hr => by simp at hr
  | [], _, _, _, _, _, hj, _ => by simp at hj
section
variable {P : Program} {tab : Tab} {ops : Array Oper}
theorem opS_callW {O : Nat → Prop} {w0 : Ctx} {N : Nat} {f : FuncId} {dst : Option Nat} {fo : Operand} {caps : List SV} {args : Array Operand} {ats : Array TypeId} {ty : TypeId} {pos : String} {after : Array Edge} {tm : TM} {h : Heap} {svs : List SV} {sv : SV} {rowsIn : List Row} {rowsOut : Heap}
    (σ : List Nat) (hd : ∀ d, dst = some d → d < N) (hf : opnd tm fo = .clo f caps) (hn : σ.Nodup) (hrows : (σ.map fun id => (hrow h id).map (Row.reW σ 4 h)) = rowsIn.map some)
    (hargs : (args.toList.map fun x => reW σ 4 h (opnd tm x)) ++ caps.map (reW σ 4 h) = svs) (hs : WSpec P f svs rowsIn sv rowsOut) :
    OpS P O w0 N ⟨dst, .call ⟨.value fo, args, ats⟩, ty, pos, after, none⟩ tm h (tm.put dst (sv.ren (tauW σ h.length))) (updR (tauW σ h.length) h σ rowsOut ++ (rowsOut.drop σ.length).map fun o => o.map (Row.ren (tauW σ h.length))) := by
  intro ρ F a w hst next Q hq
  have hsat := hst.sat
  have hσlen : σ.length = rowsIn.length := by have := congrArg List.length hrows; simpa using this
  have hrow : ∀ i, i < σ.length → ∃ r, hrow h (σ.getD i 0) = some r ∧ rowsIn[i]? = some (r.reW σ 4 h) := fun i hi => by
    have h1 : (σ.map fun id => (Go.IL.hrow h id).map (Row.reW σ 4 h))[i]? = (rowsIn.map some)[i]? := by rw [hrows]
    rw [List.getElem?_map, List.getElem?_eq_getElem hi, List.getElem?_map] at h1
    have hi' : i < rowsIn.length := by omega
    rw [List.getElem?_eq_getElem hi'] at h1
    simp only [Option.map_some, Option.some.injEq] at h1
    obtain ⟨r, h2, h3⟩ := Option.map_eq_some_iff.1 h1
    exact ⟨r, by rw [List.getD_eq_getElem?_getD, List.getElem?_eq_getElem hi]; exact h2, by rw [List.getElem?_eq_getElem hi', h3]⟩
  have hσ : ∀ id ∈ σ, ∃ r, h[id]? = some (some r) := fun id hm => by
    obtain ⟨i, hi, rfl⟩ := List.mem_iff_getElem.1 hm
    obtain ⟨r, h1, _⟩ := hrow i hi
    rw [List.getD_eq_getElem?_getD, List.getElem?_eq_getElem hi] at h1
    exact ⟨r, hrow_some h1⟩
  have hσlt : ∀ id ∈ σ, id < h.length := fun id hm => by obtain ⟨r, hr⟩ := hσ id hm; exact (List.getElem?_eq_some_iff.1 hr).1
  have hin : ∀ i ri, inR σ ρ i = some ri → i < σ.length ∧ ρ (σ.getD i 0) = some ri := fun i ri e => by
    simp only [inR] at e
    split at e
    · rename_i hlt; exact ⟨hlt, e⟩
    · cases e
  have hmem : ∀ i, i < σ.length → σ.getD i 0 ∈ σ := fun i hi => by rw [List.getD_eq_getElem?_getD, List.getElem?_eq_getElem hi]; simp
  have hidx : ∀ i, i < σ.length → σ.idxOf (σ.getD i 0) = i := fun i hi => by
    rw [List.getD_eq_getElem?_getD, List.getElem?_eq_getElem hi, Option.getD_some]
    exact hn.idxOf_getElem i hi
  have hrest : ∀ b, O b ∨ F b → Rest (inR σ ρ) w b := fun b hb => ⟨hsat.lt b hb, fun i ri e hbb => by
    obtain ⟨hi, e1⟩ := hin i ri e
    obtain ⟨r, hr, _⟩ := hrow i hi
    have hR := hsat.row _ r ri (hrow_some hr) e1
    subst hbb
    exact hb.elim hR.no hR.nf⟩
  have hinj2 : ∀ i j, i < σ.length → j < σ.length → σ.getD i 0 = σ.getD j 0 → i = j := fun i j hi hj e => by
    rw [← hidx i hi, ← hidx j hj, e]
  have hfo := opnd_rel (a := a) fo (fun t _ => hst.rel t)
  rw [hf] at hfo
  generalize hfv : a.eval fo = fv at hfo
  cases hfo with
  | clo _ _ vs hl hh =>
    have hexec : (execOp a.eval ⟨dst, .call ⟨.value fo, args, ats⟩, ty, pos, after, none⟩).run P w = .ok (.enter f (args.map a.eval ++ vs)) w := by
      simp only [execOp, resolve, hfv, Deferred.ofValue]
      rw [run_bind, run_pure]
      simp only [invoke, Array.empty_append]
      exact hs.1 _ _
    simp only [Oper.wp, hexec, Oper.upon]
    obtain ⟨_, hle, hS⟩ := hs
    have hSat : Sat (inR σ ρ) (Rest (inR σ ρ) w) (fun _ => False) (rowsIn.map some) w := by
      refine ⟨fun i r ri e1 e2 => ?_, fun i j r r' ri ri' e1 e1' e2 e2' hb => ?_, fun b hb => hb.elim (fun h => h.1) False.elim⟩
      · obtain ⟨hi, e3⟩ := hin i ri e2
        obtain ⟨r0, hr0, hr1⟩ := hrow i hi
        rw [List.getElem?_map, hr1] at e1
        simp at e1; subst e1
        have hR := hsat.row _ r0 ri (hrow_some hr0) e3
        refine ⟨hR.k, fun ho => ho.2 i ri e2 rfl, fun h => h, fun x hx => ?_, ?_⟩
        · obtain ⟨x', hx', rfl⟩ := List.mem_map.1 hx
          rw [List.length_map]; exact hR.wf x' hx'
        · obtain ⟨arr, a1, a2, a3, a4⟩ := hR.cells
          refine ⟨arr, a1, a2, by simpa [Row.reW] using a3, fun i j x y f1 f2 => ?_⟩
          simp only [Row.reW, List.getElem?_map] at f1
          obtain ⟨x', g1, rfl⟩ := Option.map_eq_some_iff.1 f1
          obtain ⟨y', g2, rfl⟩ := map_get f2
          obtain ⟨v, g3, g4⟩ := a4 i j x' y' g1 g2
          exact ⟨v, g3, reW_rel hsat hσ 4 _ _ g4⟩
      · obtain ⟨hi, e3⟩ := hin i ri e2
        obtain ⟨hj, e3'⟩ := hin j ri' e2'
        obtain ⟨r0, hr0, _⟩ := hrow i hi
        obtain ⟨r0', hr0', _⟩ := hrow j hj
        exact hinj2 i j hi hj (hsat.inj _ _ r0 r0' ri ri' (hrow_some hr0) (hrow_some hr0') e3 e3' hb)
    refine (hS w _ (inR σ ρ) hSat (fun i hi => by simp only [inR]; rw [if_neg (by omega)]) ?_ ?_).mono fun e w' hp => ?_
    · rw [← hargs]; simp [hl]
    · subst hargs
      intro i s v e1 e2
      rcases Nat.lt_or_ge i args.size with hi | hi
      · rw [List.getElem?_append_left (by simpa using hi), List.getElem?_map] at e1
        obtain ⟨x, hx, rfl⟩ := Option.map_eq_some_iff.1 e1
        have hx' : args[i]? = some x := by simpa using hx
        rw [Array.getElem?_append_left (by simpa using hi), Array.getElem?_map, hx'] at e2
        simp at e2; subst e2
        exact reW_rel hsat hσ 4 _ _ (opnd_rel x fun t _ => hst.rel t)
      · rw [List.getElem?_append_right (by simpa using hi)] at e1
        obtain ⟨c', hc', rfl⟩ := map_get e1
        rw [Array.getElem?_append_right (by simpa using hi)] at e2
        exact reW_rel hsat hσ 4 _ _ (hh _ c' v (by simpa using hc') (by simpa using e2))
    obtain ⟨v, ρc, Fc, rfl, hk, hsc, hext, hfc, hrc, hff, hvc⟩ := hp
    have hOR : ∀ b, O b → Rest (inR σ ρ) w b := fun b hb => hrest b (.inl hb)
    have hI : ∀ o b, Im O F o b → Im O (fun b => F b ∨ Fc b) o b ∧ w'.heap[b]? = w.heap[b]? := fun o b hb => by
      refine ⟨hb.imp .inl id, hk.block b (hrest b (hb.elim .inr fun h => .inl h.2))⟩
    -- the new numbers
    let ρn : Rho := fun id => if id ∈ σ then ρc (σ.idxOf id) else if id < h.length then ρ id else ρc (id - h.length + σ.length)
    have hρn_in : ∀ i, ρc i ≠ none → ρn (tauW σ h.length i) = ρc i := fun i hne => by
      simp only [tauW]
      split
      · rename_i hi
        simp only [ρn, if_pos (hmem i hi), hidx i hi]
      · rename_i hi
        have h1 : h.length + (i - σ.length) ∉ σ := fun hm => by have := hσlt _ hm; omega
        simp only [ρn, if_neg h1, if_neg (show ¬ h.length + (i - σ.length) < h.length by omega)]
        rw [show h.length + (i - σ.length) - h.length + σ.length = i by omega]
    have hρn_in' : ∀ i ri, ρc i = some ri → ρn (tauW σ h.length i) = some ri := fun i ri e => by rw [hρn_in i (by rw [e]; simp), e]
    have hρn_old : ∀ id ri, ρ id = some ri → ρn id = some ri := fun id ri e => by
      simp only [ρn]
      split
      · rename_i hm
        refine hext _ _ ?_
        rw [inR_idx hm]; exact e
      · have : id < h.length := by
          rcases Nat.lt_or_ge id h.length with h' | h'
          · exact h'
          · rw [hst.free id h'] at e; cases e
        rw [if_pos this]; exact e
    have hlen : (updR (tauW σ h.length) h σ rowsOut ++ (rowsOut.drop σ.length).map fun o => o.map (Row.ren (tauW σ h.length))).length = h.length + (rowsOut.length - σ.length) := by
      simp [updR_length]
    -- whose row is it
    have hcase : ∀ id r ri, (updR (tauW σ h.length) h σ rowsOut ++ (rowsOut.drop σ.length).map fun o => o.map (Row.ren (tauW σ h.length)))[id]? = some (some r) → ρn id = some ri →
        (id ∉ σ ∧ h[id]? = some (some r) ∧ ρ id = some ri) ∨ ∃ i r0, id = tauW σ h.length i ∧ rowsOut[i]? = some (some r0) ∧ r = r0.ren (tauW σ h.length) ∧ ρc i = some ri := fun id r ri e1 e2 => by
      rcases Nat.lt_or_ge id h.length with hlt | hge
      · rw [List.getElem?_append_left (by rw [updR_length]; exact hlt)] at e1
        by_cases hm : id ∈ σ
        · right
          have hi := List.idxOf_lt_length_iff.2 hm
          have hg : σ.getD (σ.idxOf id) 0 = id := by rw [List.getD_eq_getElem?_getD, List.getElem?_eq_getElem hi, Option.getD_some, List.getElem_idxOf]
          have h1 := updR_at (tauW σ h.length) σ h rowsOut (σ.idxOf id) hn hσlt hi (by omega)
          rw [hg, e1] at h1
          have hi2 : σ.idxOf id < rowsOut.length := by omega
          rw [List.getElem?_eq_getElem hi2] at h1
          simp only [Option.map_some, Option.some.injEq] at h1
          obtain ⟨r0, h2, h3⟩ := Option.map_eq_some_iff.1 h1.symm
          refine ⟨σ.idxOf id, r0, by simp only [tauW, if_pos hi, hg], by rw [List.getElem?_eq_getElem hi2, h2], h3.symm, ?_⟩
          simp only [ρn, if_pos hm] at e2
          exact e2
        · left
          rw [updR_other _ _ _ _ _ hm] at e1
          simp only [ρn, if_neg hm, if_pos hlt] at e2
          exact ⟨hm, e1, e2⟩
      · right
        rw [List.getElem?_append_right (by rw [updR_length]; exact hge), updR_length, List.getElem?_map, List.getElem?_drop] at e1
        obtain ⟨o, h1, h2⟩ := Option.map_eq_some_iff.1 e1
        obtain ⟨r0, h3, h4⟩ := Option.map_eq_some_iff.1 h2
        have hm : id ∉ σ := fun hm => by have := hσlt _ hm; omega
        simp only [ρn, if_neg hm, if_neg (show ¬ id < h.length by omega)] at e2
        refine ⟨σ.length + (id - h.length), r0, ?_, by rw [h1, h3], h4.symm, by rw [Nat.add_comm]; exact e2⟩
        simp only [tauW, if_neg (show ¬ σ.length + (id - h.length) < σ.length by omega)]
        omega
    refine hq ρn (fun b => F b ∨ Fc b) _ w' ⟨⟨fun id r ri e1 e2 => ?_, fun id id' r r' ri ri' e1 e1' e2 e2' hb => ?_, fun b hb => ?_⟩, hst.defers.next (Act.put_defers' _ _ _) fun D e => hk.books D _ e rfl, by rw [Act.put_size]; exact hst.size, fun t => ?_,
      hst.keep.trans ⟨hk.os, hk.tape, hk.output, hk.size, fun b hb => hk.block b (hOR b hb), hk.books⟩, fun id hid => ?_, fun id ri e => ?_, fun b hb ho => ?_, fun id ri e => hρn_old _ _ (hst.ext0 _ _ e)⟩
    · rcases hcase id r ri e1 e2 with ⟨hm, h1, h2⟩ | ⟨i, r0, rfl, h1, rfl, h2⟩
      · have hR := hsat.row id r ri h1 h2
        have hRest : Rest (inR σ ρ) w ri.b := ⟨hR.lt, fun i ri2 e hbb => by
          obtain ⟨hi, e3⟩ := hin i ri2 e
          obtain ⟨r0, hr0, _⟩ := hrow i hi
          have := hsat.inj _ _ r0 r ri2 ri (hrow_some hr0) h1 e3 h2 hbb
          exact hm (this ▸ hmem i hi)⟩
        refine ⟨hR.k, hR.no, fun h => h.elim hR.nf fun h => hff _ h hRest, hR.wf, ?_⟩
        obtain ⟨arr, a1, a2, a3, a4⟩ := hR.cells
        refine ⟨arr, (hk.block _ hRest).trans a1, a2, a3, fun i j x y f1 f2 => ?_⟩
        obtain ⟨v, g3, g4⟩ := a4 i j x y f1 f2
        exact ⟨v, g3, g4.mono hρn_old hI⟩
      · have hR := hsc.row i r0 ri h1 h2
        have h3 : RowIn ρc O (fun b => F b ∨ Fc b) w' r0 ri := by
          refine ⟨hR.k, fun ho => hrc _ _ h2 (hOR _ ho), fun hf => hf.elim (fun hf => hrc _ _ h2 (hrest _ (.inr hf))) hR.nf, hR.wf, ?_⟩
          obtain ⟨arr, a1, a2, a3, a4⟩ := hR.cells
          refine ⟨arr, a1, a2, a3, fun i j x y b1 b2 => ?_⟩
          obtain ⟨v, c1, c2⟩ := a4 i j x y b1 b2
          exact ⟨v, c1, c2.mono (fun _ _ h => h) fun o b hb => ⟨hb.elim (fun h => .inl (.inr h)) (fun h => h.2.elim), rfl⟩⟩
        exact h3.ren hρn_in'
    · have hne : ∀ id r ri, id ∉ σ → h[id]? = some (some r) → ρ id = some ri → Rest (inR σ ρ) w ri.b := fun id r ri hm h1 h2 => ⟨(hsat.row id r ri h1 h2).lt, fun i ri2 e hbb => by
          obtain ⟨hi, e3⟩ := hin i ri2 e
          obtain ⟨r0, hr0, _⟩ := hrow i hi
          have := hsat.inj _ _ r0 r ri2 ri (hrow_some hr0) h1 e3 h2 hbb
          exact hm (this ▸ hmem i hi)⟩
      rcases hcase id r ri e1 e2 with ⟨hm, h1, h2⟩ | ⟨i, r0, rfl, h1, rfl, h2⟩ <;> rcases hcase id' r' ri' e1' e2' with ⟨hm', h1', h2'⟩ | ⟨i', r0', rfl, h1', rfl, h2'⟩
      · exact hsat.inj id id' r r' ri ri' h1 h1' h2 h2' hb
      · exact absurd (hb ▸ hne id r ri hm h1 h2) (hrc _ _ h2')
      · exact absurd (hb.symm ▸ hne id' r' ri' hm' h1' h2') (hrc _ _ h2)
      · rw [hsc.inj i i' r0 r0' ri ri' h1 h1' h2 h2' hb]
    · rcases hb with hb | hb | hb
      · exact Nat.lt_of_lt_of_le (hsat.lt b (.inl hb)) hk.size
      · exact Nat.lt_of_lt_of_le (hsat.lt b (.inr hb)) hk.size
      · exact hsc.lt b (.inr hb)
    · rw [Act.put_getD hst.size hd, TM.get_put]
      by_cases e : dst = some t
      · simp only [e, if_true]
        have h1 : VRel ρc O (fun b => F b ∨ Fc b) w' sv v := hvc.mono (fun _ _ h => h) fun o b hb => ⟨hb.elim (fun h => .inl (.inr h)) (fun h => h.2.elim), rfl⟩
        exact h1.ren hρn_in'
      · simp only [e, if_false]; exact (hst.rel t).mono hρn_old hI
    · rw [hlen] at hid
      have hm : id ∉ σ := fun hm => by have := hσlt _ hm; omega
      simp only [ρn, if_neg hm, if_neg (show ¬ id < h.length by omega)]
      exact hfc _ (by omega)
    · by_cases hm : id ∈ σ
      · simp only [ρn, if_pos hm] at e
        exact fun ho => hrc _ _ e (hOR _ ho)
      · simp only [ρn, if_neg hm] at e
        split at e
        · exact hst.rno _ _ e
        · exact fun ho => hrc _ _ e (hOR _ ho)
    · rcases hb with hb | hb
      · exact hst.fno b hb ho
      · exact hff b hb (hOR b ho)
end
end Go.IL

set_option linter.unusedVariables false
set_option linter.unusedSimpArgs false
namespace Go.IL
open Go.RowKit
/-! ### Values of scalars alone, compared -/
def eqS : SV → SV → Bool
  | .int _ a, .int _ b => a == b
  | .bool a, .bool b => a == b
  | .str a, .str b => a.toList == b.toList
  | _, _ => false
def eqL : List SV → List SV → Bool
  | x :: xs, y :: ys => eqS x y && eqL xs ys
  | _, _ => true
inductive SK | int (k : IntKind) | bool | str
def skOk : SK → SV → Bool
  | .int k, .int k' _ => k == k'
  | .bool, .bool _ => true
  | .str, .str _ => true
  | _, _ => false
def skT (P : Program) (T : TypeId) : Option SK :=
  match P.underlying T with
  | some (.int k) => some (.int k)
  | some .bool => some .bool
  | some .string => some .str
  | _ => none
/-- A type of scalars that stand one behind the other. -/
def eqFs (P : Program) : Nat → List Field → List SK → Bool
  | _, [], [] => true
  | i, f :: fs, k :: ks => (f.name != "_") && f.offset == i && (match P.underlying f.type, k with | some (.int k'), .int k => k == k' | some .bool, .bool => true | some .string, .str => true | _, _ => false) && eqFs P (i + 1) fs ks
  | _, _, _ => false
def eqTy (P : Program) (T : TypeId) (ks : List SK) : Bool :=
  match P.underlying T with
  | some (.struct fs) => !P.stoodInHeld T && !P.eqGuardType P.depth T && eqFs P 0 fs.toList ks
  | _ => false
def sksOk : List SK → List SV → Bool
  | [], [] => true
  | k :: ks, s :: ss => skOk k s && sksOk ks ss
  | _, _ => false
section
variable {P : Program} {tab : Tab} {ops : Array Oper} {ρ : Rho} {O F : Nat → Prop} {w : World}
theorem part_scalar {T : TypeId} {d : TypeDesc} (hu : P.underlying T = some d) (hd : (match d with | .int _ | .bool | .string => true | _ => false) = true) {vs : Array Value} {i : Nat} {v : Value} (hv : vs[i]? = some v) : (part T vs i).run P w = .ok v w := by
  unfold part
  have hA : aggB P T = some false := by
    unfold aggB; rw [hu]; cases d <;> simp at hd ⊢
  rw [run_bind, run_isAgg hA]
  simp only [Bool.false_eq_true, if_false, hv]
  rfl
theorem eqFs_run {d : Nat} : ∀ (fs : List Field) (ks : List SK) (cs ds : List SV) (xs ys : Array Value) (i : Nat), eqFs P i fs ks = true → sksOk ks cs = true → sksOk ks ds = true →
    (∀ (j : Nat) (c : SV) (v : Value), cs[j]? = some c → xs[i + j]? = some v → VRel ρ O F w c v) → (∀ (j : Nat) (c : SV) (v : Value), ds[j]? = some c → ys[i + j]? = some v → VRel ρ O F w c v) →
    i + cs.length ≤ xs.size → i + ds.length ≤ ys.size →
    (Op.eqFields (d + 1) xs ys fs).run P w = .ok (eqL cs ds) w
  | [], [], [], [], xs, ys, i, _, _, _, _, _, _, _ => by simp [Op.eqFields, eqL]
  | [], [], _ :: _, _, _, _, _, _, h, _, _, _, _, _ => by simp [sksOk] at h
  | [], [], [], _ :: _, _, _, _, _, _, h, _, _, _, _ => by simp [sksOk] at h
  | [], _ :: _, _, _, _, _, _, h, _, _, _, _, _, _ => by simp [eqFs] at h
  | _ :: _, [], _, _, _, _, _, h, _, _, _, _, _, _ => by simp [eqFs] at h
  | _ :: _, _ :: _, [], _, _, _, _, _, h, _, _, _, _, _ => by simp [sksOk] at h
  | _ :: _, _ :: _, _ :: _, [], _, _, _, _, _, h, _, _, _, _ => by simp [sksOk] at h
  | f :: fs, k :: ks, c :: cs, e :: ds, xs, ys, i, hf, hc, hd, hx, hy, hlx, hly => by
    simp only [eqFs, Bool.and_eq_true, bne_iff_ne, ne_eq, beq_iff_eq] at hf
    obtain ⟨⟨⟨hn, ho⟩, hk⟩, hr⟩ := hf
    simp only [sksOk, Bool.and_eq_true] at hc hd
    simp only [List.length_cons] at hlx hly
    have ex : xs[i]? = some (xs[i]'(by omega)) := by simp [show i < xs.size by omega]
    have ey : ys[i]? = some (ys[i]'(by omega)) := by simp [show i < ys.size by omega]
    have vx := hx 0 c _ rfl (by rw [Nat.add_zero]; exact ex)
    have vy := hy 0 e _ rfl (by rw [Nat.add_zero]; exact ey)
    have ih := eqFs_run (d := d) fs ks cs ds xs ys (i + 1) hr hc.2 hd.2 (fun j c v e1 e2 => hx (j + 1) c v (by simpa using e1) (by rwa [show i + (j + 1) = i + 1 + j by omega])) (fun j c v e1 e2 => hy (j + 1) c v (by simpa using e1) (by rwa [show i + (j + 1) = i + 1 + j by omega])) (by omega) (by omega)
    have key : ∀ b, (Op.equalIn (d + 1) f.type (xs[i]'(by omega)) (ys[i]'(by omega))).run P w = .ok b w → b = eqS c e → (part f.type xs i).run P w = .ok (xs[i]'(by omega)) w → (part f.type ys i).run P w = .ok (ys[i]'(by omega)) w →
        (Op.eqFields (d + 1) xs ys (f :: fs)).run P w = .ok (eqL (c :: cs) (e :: ds)) w := fun b h1 h2 h3 h4 => by
      simp only [Op.eqFields, ne_eq, hn, not_false_eq_true, if_true, ho]
      rw [run_bind, h3]
      simp only []
      rw [run_bind, h4]
      simp only []
      rw [run_bind, h1]
      subst h2
      simp only [eqL]
      cases eqS c e with
      | false => simp
      | true => simpa using ih
    generalize hxi : xs[i]'(by omega) = vxi at *
    generalize hyi : ys[i]'(by omega) = vyi at *
    cases hu : P.underlying f.type with
    | none => rw [hu] at hk; cases hk
    | some dd =>
      rw [hu] at hk
      cases dd <;> cases k <;> simp only [beq_iff_eq] at hk <;> try (cases hk; done)
      case int.int k' k =>
        subst hk
        cases c <;> simp [skOk] at hc
        cases e <;> simp [skOk] at hd
        obtain ⟨rfl, _⟩ := hc
        obtain ⟨rfl, _⟩ := hd
        cases vx; cases vy
        exact key _ (run_equalIn_int w d f.type _ _ _ _ hu) rfl (part_scalar hu rfl ex) (part_scalar hu rfl ey)
      case bool.bool =>
        cases c <;> simp [skOk] at hc
        cases e <;> simp [skOk] at hd
        cases vx; cases vy
        exact key _ (run_equalIn_bool w d f.type _ _ hu) rfl (part_scalar hu rfl ex) (part_scalar hu rfl ey)
      case string.str =>
        cases c <;> simp [skOk] at hc
        cases e <;> simp [skOk] at hd
        cases vx; cases vy
        exact key _ (run_equalIn_string w d f.type _ _ hu) rfl (part_scalar hu rfl ex) (part_scalar hu rfl ey)
theorem opB_ok {dst : Option Nat} {op : Op} {ty : TypeId} {pos : String} {after : Array Edge} {guard : Option (Nat × Bool)} {g : Operand → SV} {h : Heap} {sv : SV}
    (hr : ∀ (ρ : Rho) (O F : Nat → Prop) (w : World) (a : Act), Sat ρ O F h w → (∀ x ∈ op.operands, VRel ρ O F w (g x) (a.eval x)) → ∃ v, (execOp a.eval ⟨dst, op, ty, pos, after, guard⟩).run P w = .ok (.value v) w ∧ VRel ρ O F w sv v) :
    OpB P ⟨dst, op, ty, pos, after, guard⟩ g h sv [] := by
  intro ρ O F w a hs hv _ next Q hn
  obtain ⟨v, h1, h2⟩ := hr ρ O F w a hs hv
  exact Oper.wp_value h1 (hn v ρ F w (Ext.refl _ _ _) (fun id h => absurd rfl h) (by simpa using hs) h2)
def eqRes (op : BinOp) (b : Bool) : SV := match op with | .eql => .bool b | _ => .bool (!b)
/-- == of two structs of scalars -/
theorem opB_eqAgg {dst : Option Nat} {op : BinOp} {T T' ty : TypeId} {x y : Operand} {pos : String} {after : Array Edge} {guard : Option (Nat × Bool)} {g : Operand → SV} {h : Heap} {ks : List SK} {cs ds : List SV}
    (hT : eqTy P T ks = true) (hx : g x = .agg cs) (hy : g y = .agg ds) (hop : isEq op = true) (h1 : sksOk ks cs = true) (h2 : sksOk ks ds = true) :
    OpB P ⟨dst, .binOp op T x y T', ty, pos, after, guard⟩ g h (eqRes op (eqL cs ds)) [] := by
  refine opB_ok fun ρ O F w a hs hr => ?_
  have vx := hr x (by simp [Op.operands])
  have vy := hr y (by simp [Op.operands])
  rw [hx] at vx; rw [hy] at vy
  generalize hax : a.eval x = ax at vx
  generalize hay : a.eval y = ay at vy
  cases vx with
  | agg _ xs hlx hcx =>
  cases vy with
  | agg _ ys hly hcy =>
  unfold eqTy at hT
  cases hu : P.underlying T with
  | none => rw [hu] at hT; cases hT
  | some d =>
    rw [hu] at hT
    cases d <;> simp only [] at hT <;> try (cases hT; done)
    case struct fs =>
      simp only [Bool.and_eq_true, Bool.not_eq_true'] at hT
      obtain ⟨⟨hst, hgd⟩, hfs⟩ := hT
      have hfo : P.fieldsOf T = fs := by simp [Program.fieldsOf, hu]
      have hg := run_eqGuard_agg (P := P) w op T x y xs ys hgd
      have hun : P.underlying T = some (.struct (P.fieldsOf T)) := by rw [hfo]; exact hu
      have hE : (Op.equalIn 10000 T (.agg xs) (.agg ys)).run P w = .ok (eqL cs ds) w := by
        rw [run_equalIn_struct w 9999 T xs ys hun hst, hfo]
        exact eqFs_run (ρ := ρ) (O := O) (F := F) (d := 9998) fs.toList ks cs ds xs ys 0 hfs h1 h2 (fun j c v e1 e2 => hcx j c v e1 (by simpa using e2)) (fun j c v e1 e2 => hcy j c v e1 (by simpa using e2)) (by omega) (by omega)
      have hrun : ∃ b, eqRes op (eqL cs ds) = .bool b ∧ (do eqGuard op T x y (.agg xs) (.agg ys); binOp op T (.agg xs) (.agg ys) : Sem Value).run P w = .ok (.bool b) w := by
        cases op <;> simp [isEq] at hop
        · exact ⟨_, rfl, by rw [run_bind, hg]; simp only []; rw [run_eql_struct, hE]; rfl⟩
        · exact ⟨_, rfl, by rw [run_bind, hg]; simp only []; rw [run_neq_struct, hE]; rfl⟩
      obtain ⟨b, hb1, hb2⟩ := hrun
      refine ⟨.bool b, ?_, by rw [hb1]; exact .bool _⟩
      simp only [execOp, hax, hay]
      exact run_v hb2
/-- Is a slice nil? -/
def nilV : SV → Option Bool
  | .nils => some true
  | .sl _ (_ :: _) => some false
  | .ref _ _ _ => some false
  | .raw (.slice a _ _) => some a.isNone
  | _ => none
theorem opB_isNil (hT : TabOk P tab) {dst : Option Nat} {op : BinOp} {T T' e ty : TypeId} {x : Operand} {pos : String} {after : Array Edge} {guard : Option (Nat × Bool)} {g : Operand → SV} {h : Heap} {b : Bool}
    (hsh : (tab T).shape = .slice e) (hop : isEq op = true) (hx : nilV (g x) = some b) : OpB P ⟨dst, .binOp op T x (.const (.slice none 0 0)) T', ty, pos, after, guard⟩ g h (eqRes op b) [] := by
  refine opB_ok fun ρ O F w a hs hr => ?_
  have vx := hr x (by simp [Op.operands])
  have hv : ∃ ad n c, a.eval x = .slice ad n c ∧ ad.isNone = b := by
    generalize a.eval x = ax at vx
    cases hg : g x <;> rw [hg] at hx vx <;> simp only [nilV] at hx <;> try (cases hx; done)
    · rename_i v
      cases vx
      cases ax <;> simp at hx
      rename_i ad n c
      exact ⟨ad, n, c, rfl, hx⟩
    · cases vx; cases hx; exact ⟨_, _, _, rfl, rfl⟩
    · rename_i o xs
      cases xs with
      | nil => simp at hx
      | cons y ys =>
        simp at hx; subst hx
        cases vx with
        | sl _ _ ad cap k cs hk hcap hm ha hh =>
          obtain ⟨b', off, rfl, _⟩ := ha (by simp)
          exact ⟨_, _, _, rfl, rfl⟩
    · cases vx; cases hx; exact ⟨_, _, _, rfl, rfl⟩
  obtain ⟨ad, n, c, hax, hb⟩ := hv
  have hu := slice_under hT hsh
  have hg : ∀ (o : BinOp) (u v : Operand) (a1 : Option Addr) (n1 c1 : Nat) (a2 : Option Addr) (n2 c2 : Nat), (eqGuard o T u v (.slice a1 n1 c1) (.slice a2 n2 c2)).run P w = .ok () w := by
    intro o u v a1 n1 c1 a2 n2 c2; cases o <;> rfl
  have hE' : ∀ d, (Op.equalIn (d + 1) T (.slice ad n c) (.slice none 0 0)).run P w = .ok b w := fun d => by
    simp only [Op.equalIn]
    rw [run_bind, run_underlying' hu]
    cases ad with
    | none => simp at hb; subst hb; rfl
    | some ad => simp at hb; subst hb; rfl
  have hE : (Op.equalIn 10000 T (.slice ad n c) (.slice none 0 0)).run P w = .ok b w := hE' 9999
  have hrun : ∃ b', eqRes op b = .bool b' ∧ (binOp op T (.slice ad n c) (.slice none 0 0) : Sem Value).run P w = .ok (.bool b') w := by
    cases op <;> simp [isEq] at hop
    · exact ⟨_, rfl, by simp only [binOp, Op.equal, Op.maxDepth]; rw [run_bind, hE]; rfl⟩
    · exact ⟨_, rfl, by simp only [binOp, Op.equal, Op.maxDepth]; rw [run_bind, hE]; rfl⟩
  obtain ⟨b', hb1, hb2⟩ := hrun
  refine ⟨.bool b', ?_, by rw [hb1]; exact .bool _⟩
  simp only [execOp, hax, show a.eval (.const (.slice none 0 0)) = .slice none 0 0 from rfl]
  exact run_v (by rw [run_bind, hg]; simp only []; exact hb2)
/-- A slice without elements, of which it is not known whether it is nil. -/
theorem IW.nils {O : Nat → Prop} {w0 : Ctx} {N : Nat} {c : Code} {tm : TM} {h : Heap} {Q : Exit → TM → Heap → Prop} {t : Nat} {o : Bool} (ht : tm.get t = .sl o []) (hi : ∀ a c0, IW P O w0 N c ((t, .raw (.slice a 0 c0)) :: tm) h Q) : IW P O w0 N c tm h Q := by
  intro ρ F a w hst
  have hv := hst.rel t
  rw [ht] at hv
  have hE : ∃ ad c0, a.tmps.getD t undef = .slice ad 0 c0 := by
    generalize a.tmps.getD t undef = v at hv
    cases hv with
    | sl _ _ ad cap k cs => exact ⟨ad, cap, rfl⟩
  obtain ⟨ad, c0, hE⟩ := hE
  refine hi ad c0 ρ F a w ⟨hst.sat, hst.defers, hst.size, fun u => ?_, hst.keep, hst.free, hst.rno, hst.fno, hst.ext0⟩
  simp only [TM.get]
  by_cases e : t = u
  · subst e; rw [if_pos rfl, hE]; exact .raw _
  · rw [if_neg e]; exact hst.rel u
end
end Go.IL

set_option linter.unusedVariables false
set_option linter.unusedSimpArgs false
namespace Go.IL
open Go.RowKit
/-- Bytes as a text. -/
def strOf (xs : List Int) : ByteArray := ⟨(xs.map fun x => UInt8.ofNat x.toNat).toArray⟩
theorem foldl_push (xs : List Int) : ∀ acc : ByteArray, xs.foldl (fun s x => s.push (UInt8.ofNat x.toNat)) acc = ⟨(acc.data.toList ++ xs.map fun x => UInt8.ofNat x.toNat).toArray⟩ := by
  induction xs with
  | nil => intro acc; simp
  | cons x xs ih =>
    intro acc
    rw [List.foldl_cons, ih]
    simp [ByteArray.push]
section
variable {P : Program} {tab : Tab} {ops : Array Oper} {ρ : Rho} {O F : Nat → Prop} {w : World}
/-- append of nothing -/
theorem opB_append0 (hT : TabOk P tab) {dst : Option Nat} {T e ty : TypeId} {pos : String} {after : Array Edge} {guard : Option (Nat × Bool)} {g : Operand → SV} {h : Heap} {x y : Operand}
    (hx : (match g x with | .nils | .ref _ _ _ | .sl _ _ => True | _ => False)) (hy : (match g y with | .nils | .sl _ [] | .ref _ _ 0 | .raw (.slice _ 0 _) => True | _ => False)) (hsh : (tab T).shape = .slice e) (hty : hasTy (tab e)) :
    OpB P ⟨dst, .call ⟨.builtin .append, #[x, y], #[T, T]⟩, ty, pos, after, guard⟩ g h (g x) [] := by
  refine opB_ok fun ρ O F w a hs hr => ?_
  have vx := hr x (by simp [Op.operands, Call.operands])
  have vy := hr y (by simp [Op.operands, Call.operands])
  have hxv : ∃ b n c, a.eval x = .slice b n c ∧ n ≤ c := by
    generalize hgx : g x = sx at hx vx
    generalize a.eval x = v at vx
    cases vx with
    | nils => exact ⟨_, _, _, rfl, Nat.le_refl _⟩
    | ref id off n cap ri h1 h2 => exact ⟨_, _, _, rfl, h2⟩
    | sl o xs ad cap k cs hk hcap => exact ⟨_, _, _, rfl, hcap⟩
    | _ => exact hx.elim
  have hyv : ∃ b c, a.eval y = .slice b 0 c := by
    generalize hgy : g y = sy at hy vy
    generalize a.eval y = v at vy
    cases vy with
    | nils => exact ⟨_, _, rfl⟩
    | ref id off n cap ri h1 h2 => cases n with
      | zero => exact ⟨_, _, rfl⟩
      | succ n => exact hy.elim
    | sl o xs ad cap k cs hk hcap => cases xs with
      | nil => exact ⟨_, _, rfl⟩
      | cons _ _ => exact hy.elim
    | raw v => cases v <;> first | exact hy.elim | skip
               rename_i b n c; cases n with
               | zero => exact ⟨_, _, rfl⟩
               | succ n => exact hy.elim
    | _ => exact hy.elim
  obtain ⟨b, n, c, hax, hnc⟩ := hxv
  obtain ⟨b', c', hay⟩ := hyv
  have hF := hT.ty hty
  refine ⟨a.eval x, ?_, vx⟩
  have hu := slice_under hT hsh
  have hrun : (Builtin.append_ #[T, T] ty #[.slice b n c, .slice b' 0 c']).run P w = .ok (.slice b n c) w := by
    cases b' <;> cases b <;> simp [Builtin.append_, Sem.run_bind, run_underlying' hu, hF.sizeOf, Builtin.lenOf, hnc, Builtin.firstCells, loadCells, loadCellsFrom, storeCells, Sem.run_pure]
  simp only [execOp, resolve, invoke, builtin, Sem.run_bind, Sem.run_pure, Result.andThen_ok, List.map_toArray, List.map_cons, List.map_nil, hax, hay, hrun]
theorem loop_bytes (xs : List Int) : ∀ (acc : ByteArray), ((forIn (xs.map fun x => Value.int .u8 x).toArray acc fun c r => (match c with
    | .int .u8 n => (pure (ForInStep.yield (r.push (UInt8.ofNat n.toNat))) : Sem (ForInStep ByteArray))
    | _ => (stuck "bytesToString: byte expected" : Sem (ForInStep ByteArray)))) : Sem ByteArray).run P w = .ok (xs.foldl (fun s x => s.push (UInt8.ofNat x.toNat)) acc) w := by
  induction xs with
  | nil => intro acc; simp [Sem.run_pure]
  | cons x xs ih =>
    intro acc
    have ih := ih (acc.push (UInt8.ofNat x.toNat))
    simp only [List.map_cons, List.forIn_toArray, List.forIn_cons, Sem.run_bind, Sem.run_pure, Result.andThen_ok, List.foldl_cons] at ih ⊢
    exact ih
/-- string(b), b not empty -/
theorem opB_bytesStr (hT : TabOk P tab) {dst : Option Nat} {T e D ty : TypeId} {pos : String} {after : Array Edge} {guard : Option (Nat × Bool)} {g : Operand → SV} {h : Heap} {x : Operand} {xs : List Int}
    (hx : srcO h (g x) = some (nums .u8 xs)) (hpos : 0 < xs.length) (hsh : (tab T).shape = .slice e) (hes : (tab e).shape = .int .u8) (hD : (tab D).shape = .str) :
    OpB P ⟨dst, .convert T D x, ty, pos, after, guard⟩ g h (.str (strOf xs)) [] := by
  refine opB_ok fun ρ O F w a hs hr => ?_
  have vx := hr x (by simp [Op.operands])
  obtain ⟨ad, c, k, hax, hk, hcell⟩ := src_rel hs vx hx (by simpa [nums] using hpos)
  have hk1 : k = 1 := by
    have : (nums .u8 xs)[0]? = some [.int .u8 (xs.getD 0 0)] := by simp [nums, hpos]
    have h1 := hk _ (List.mem_of_getElem? this)
    have h2 := nums_w .u8 xs _ (List.mem_of_getElem? this)
    omega
  subst hk1
  have hlen : (nums .u8 xs).length = xs.length := by simp [nums]
  have hc : ∀ t, t < xs.length → w.cell? (ad.add t) = some (.int .u8 (xs.getD t 0)) := fun t ht => by
    obtain ⟨u, h1, h2⟩ := hcell t 0 [.int .u8 (xs.getD t 0)] (.int .u8 (xs.getD t 0)) (by simp [nums, ht]) rfl
    cases h2
    simpa using h1
  have hL : (loadCells ad xs.length).run P w = .ok (xs.map fun x => Value.int .u8 x).toArray w := by
    rw [run_loadCells ad (fun t => .int .u8 (xs.getD t 0)) xs.length (fun t ht => hc t ht)]
    congr 2
    apply List.ext_getElem
    · simp
    · intro i h1 h2
      simp at h1
      simp [h1]
  have hu := slice_under hT hsh
  have hus := str_under hT hD
  have hue := int_under hT hes
  refine ⟨.string (strOf xs), ?_, .str _⟩
  have hrun : (convert T D (.slice (some ad) xs.length c)).run P w = .ok (.string (strOf xs)) w := by
    unfold convert
    rw [run_bind, run_underlying' hu]
    simp only []
    rw [run_bind, run_underlying' hus]
    simp only []
    rw [run_bind, run_underlying' hue]
    simp only [Conv.bytesToString]
    rw [run_bind, hL]
    simp only []
    have := loop_bytes (P := P) (w := w) xs .empty
    rw [foldl_push] at this
    rw [run_bind]
    erw [this]
    rfl
  simp only [execOp]
  rw [hlen] at hax
  rw [hax]
  exact run_v hrun
end
end Go.IL

set_option linter.unusedVariables false
set_option linter.unusedSimpArgs false
namespace Go.IL
open Go.RowKit
section
variable {P : Program} {tab : Tab} {ops : Array Oper}
theorem St.writeE {e' : TypeId} {O : Nat → Prop} {w0 : Ctx} {N : Nat} {ρ : Rho} {F : Nat → Prop} {tm : TM} {h : Heap} {a : Act} {w w' : World} (hst : St O w0 N ρ F tm h a w) {id : Nat} {r : Row} {ri : RI} (hr : h[id]? = some (some r)) (hρ : ρ id = some ri)
    {xs : List (List SV)} {arr : Array Value} (hw : ∀ x ∈ xs, x.length = r.k) (hsz : arr.size = ri.sz) (hl : xs.length * r.k ≤ arr.size)
    (hgrow : w'.os = w.os ∧ w'.tape = w.tape ∧ w'.output = w.output ∧ w'.heap.size = w.heap.size) (hoth : ∀ b, b ≠ ri.b → w'.heap[b]? = w.heap[b]?) (hnew : w'.heap[ri.b]? = some (.cells arr (tyE e') (frE e' arr.size)))
    (hc : ∀ (i j : Nat) (x : List SV) (y : SV), xs[i]? = some x → x[j]? = some y → ∃ v, arr[i * r.k + j]? = some v ∧ VRel ρ O F w y v) :
    St O w0 N ρ F tm (h.set id (some ⟨r.k, e', xs⟩)) a w' := by
  have hR := hst.sat.row id r ri hr hρ
  have hid : id < h.length := (List.getElem?_eq_some_iff.1 hr).1
  have hI : ∀ o b, Im O F o b → Im O F o b ∧ w'.heap[b]? = w.heap[b]? := fun o b hb => ⟨hb, hoth b (by
    rintro rfl
    rcases hb with hb | ⟨_, hb⟩
    · exact hR.nf hb
    · exact hR.no hb)⟩
  refine ⟨⟨fun id' r' ri' e1 e2 => ?_, fun id1 id2 r1 r2 ri1 ri2 e1 e2 e3 e4 hb => ?_, fun b hb => by rw [hgrow.2.2.2]; exact hst.sat.lt b hb⟩, hst.defers.next rfl (fun D e => (hoth D (by rintro rfl; obtain ⟨_, h1, _⟩ := hR.cells; rw [h1] at e; cases e)).trans e), hst.size, fun t => (hst.rel t).mono (fun _ _ h => h) hI,
    ⟨hgrow.1.trans hst.keep.os, hgrow.2.1.trans hst.keep.tape, hgrow.2.2.1.trans hst.keep.output, by rw [hgrow.2.2.2]; exact hst.keep.size, fun b hb => (hoth b (by rintro rfl; exact hR.no hb)).trans (hst.keep.block b hb), fun b o e e' => (hoth b (by rintro rfl; obtain ⟨_, h1, _⟩ := hR.cells; have h2 := hst.keep.books _ _ e e'; rw [h1] at h2; cases h2; cases e')).trans (hst.keep.books b o e e')⟩,
    fun id' h' => hst.free id' (by simpa using h'), hst.rno, hst.fno, hst.ext0⟩
  · by_cases e : id' = id
    · subst e
      rw [List.getElem?_set_self hid] at e1
      cases e1
      rw [hρ] at e2; cases e2
      refine ⟨hR.k, hR.no, hR.nf, hw, arr, hnew, hsz, hl, fun i j x y e1 e2 => ?_⟩
      obtain ⟨v, h1, h2⟩ := hc i j x y e1 e2
      exact ⟨v, h1, h2.mono (fun _ _ h => h) hI⟩
    · rw [List.getElem?_set_ne (fun h => e h.symm)] at e1
      have h1 := hst.sat.row id' r' ri' e1 e2
      have hne : ri'.b ≠ ri.b := fun hb => e (hst.sat.inj id' id r' r ri' ri e1 hr e2 hρ hb)
      refine ⟨h1.k, h1.no, h1.nf, h1.wf, ?_⟩
      obtain ⟨arr', h2, h3, h4, h5⟩ := h1.cells
      refine ⟨arr', (hoth _ hne).trans h2, h3, h4, fun i j x y e1 e2 => ?_⟩
      obtain ⟨v, h6, h7⟩ := h5 i j x y e1 e2
      exact ⟨v, h6, h7.mono (fun _ _ h => h) hI⟩
  · have key : ∀ i r1, (h.set id (some ⟨r.k, e', xs⟩) : Heap)[i]? = some (some r1) → ∃ r', h[i]? = some (some r') := fun i r1 e => by
      by_cases e' : i = id
      · subst e'; exact ⟨r, hr⟩
      · rw [List.getElem?_set_ne (fun h => e' h.symm)] at e; exact ⟨r1, e⟩
    obtain ⟨r1', h1⟩ := key id1 r1 e1
    obtain ⟨r2', h2⟩ := key id2 r2 e2
    exact hst.sat.inj id1 id2 r1' r2' ri1 ri2 h1 h2 e3 e4 hb
theorem St.lose {O : Nat → Prop} {w0 : Ctx} {N : Nat} {ρ : Rho} {F : Nat → Prop} {tm : TM} {h : Heap} {a : Act} {w w' : World} (hst : St O w0 N ρ F tm h a w) {id : Nat} {r : Row} {ri : RI} (hr : h[id]? = some (some r)) (hρ : ρ id = some ri)
    (hgrow : w'.os = w.os ∧ w'.tape = w.tape ∧ w'.output = w.output ∧ w'.heap.size = w.heap.size) (hoth : ∀ b, b ≠ ri.b → w'.heap[b]? = w.heap[b]?) :
    St O w0 N ρ F tm (h.set id none) a w' := by
  have hR := hst.sat.row id r ri hr hρ
  have hid : id < h.length := (List.getElem?_eq_some_iff.1 hr).1
  have hI : ∀ o b, Im O F o b → Im O F o b ∧ w'.heap[b]? = w.heap[b]? := fun o b hb => ⟨hb, hoth b (by
    rintro rfl
    rcases hb with hb | ⟨_, hb⟩
    · exact hR.nf hb
    · exact hR.no hb)⟩
  refine ⟨⟨fun id' r' ri' e1 e2 => ?_, fun id1 id2 r1 r2 ri1 ri2 e1 e2 e3 e4 hb => ?_, fun b hb => by rw [hgrow.2.2.2]; exact hst.sat.lt b hb⟩, hst.defers.next rfl (fun D e => (hoth D (by rintro rfl; obtain ⟨_, h1, _⟩ := hR.cells; rw [h1] at e; cases e)).trans e), hst.size, fun t => (hst.rel t).mono (fun _ _ h => h) hI,
    ⟨hgrow.1.trans hst.keep.os, hgrow.2.1.trans hst.keep.tape, hgrow.2.2.1.trans hst.keep.output, by rw [hgrow.2.2.2]; exact hst.keep.size, fun b hb => (hoth b (by rintro rfl; exact hR.no hb)).trans (hst.keep.block b hb), fun b o e e' => (hoth b (by rintro rfl; obtain ⟨_, h1, _⟩ := hR.cells; have h2 := hst.keep.books _ _ e e'; rw [h1] at h2; cases h2; cases e')).trans (hst.keep.books b o e e')⟩,
    fun id' h' => hst.free id' (by simpa using h'), hst.rno, hst.fno, hst.ext0⟩
  · by_cases e : id' = id
    · subst e
      rw [List.getElem?_set_self hid] at e1
      cases e1
    · rw [List.getElem?_set_ne (fun h => e h.symm)] at e1
      have h1 := hst.sat.row id' r' ri' e1 e2
      have hne : ri'.b ≠ ri.b := fun hb => e (hst.sat.inj id' id r' r ri' ri e1 hr e2 hρ hb)
      refine ⟨h1.k, h1.no, h1.nf, h1.wf, ?_⟩
      obtain ⟨arr', h2, h3, h4, h5⟩ := h1.cells
      refine ⟨arr', (hoth _ hne).trans h2, h3, h4, fun i j x y e1 e2 => ?_⟩
      obtain ⟨v, h6, h7⟩ := h5 i j x y e1 e2
      exact ⟨v, h6, h7.mono (fun _ _ h => h) hI⟩
  · have key : ∀ i r1, (h.set id none : Heap)[i]? = some (some r1) → ∃ r', h[i]? = some (some r') := fun i r1 e => by
      by_cases e' : i = id
      · subst e'; exact ⟨r, hr⟩
      · rw [List.getElem?_set_ne (fun h => e' h.symm)] at e; exact ⟨r1, e⟩
    obtain ⟨r1', h1⟩ := key id1 r1 e1
    obtain ⟨r2', h2⟩ := key id2 r2 e2
    exact hst.sat.inj id1 id2 r1' r2' ri1 ri2 h1 h2 e3 e4 hb
/-- []byte of a text that has just been laid: the row is marked. -/
theorem opS_convBytes (hT : TabOk P tab) {O : Nat → Prop} {w0 : Ctx} {N : Nat} {dst : Option Nat} {T e ty : TypeId} {pos : String} {after : Array Edge} {tm : TM} {h : Heap} {x : Operand} {id off n : Nat} {r : Row}
    (hx : opnd tm x = .ref id off n) (hr : hrow h id = some r) (hsh : (tab T).shape = .slice e) (hes : (tab e).shape = .int .u8) (he : r.elem < softK) (hd : ∀ d, dst = some d → d < N) :
    OpS P O w0 N ⟨dst, .convert T T x, ty, pos, after, none⟩ tm h (tm.put dst (.ref id off n)) (h.set id (some ⟨r.k, r.elem + softK, r.xs⟩)) := by
  intro ρ F a w hst next Q hn
  have hv := opnd_rel (a := a) x (fun t _ => hst.rel t)
  rw [hx] at hv
  generalize hax : a.eval x = v at hv
  cases hv with
  | ref _ _ _ cap ri hρ h1 h2 h3 =>
    have hR := hst.sat.row id r ri (hrow_some hr) hρ
    obtain ⟨arr, e1, e2, e3, e4⟩ := hR.cells
    rw [tyE_hard he, frE_hard he] at e1
    have hexec : (execOp a.eval ⟨dst, .convert T T x, ty, pos, after, none⟩).run P w = .ok (.value (.slice (some ⟨ri.b, off * ri.k, none⟩) n cap)) (w.freeze ⟨ri.b, arr.size, none⟩ 1) := by
      have hconv : (convert T T (.slice (some ⟨ri.b, off * ri.k, none⟩) n cap)).run P w = .ok (.slice (some ⟨ri.b, off * ri.k, none⟩) n cap) (w.freeze ⟨ri.b, arr.size, none⟩ 1) := by
        simp [convert, Sem.run_bind, run_underlying' (slice_under hT hsh), run_underlying' (int_under hT hes), markStringish, shape, freeze, Sem.run, World.shape?, e1]
      simp only [execOp, hax]
      rw [run_bind, hconv]
      rfl
    simp only [Oper.wp, hexec, Oper.upon]
    have hw' : (w.freeze ⟨ri.b, arr.size, none⟩ 1).heap[ri.b]? = some (.cells arr (tyE (r.elem + softK)) (frE (r.elem + softK) arr.size)) := by
      have t1 : tyE (r.elem + softK) = r.elem := by unfold tyE; rw [Nat.add_mod_right]; exact Nat.mod_eq_of_lt he
      have t2 : frE (r.elem + softK) arr.size = (arr.size, arr.size + 1) := if_neg (Nat.not_lt.2 (Nat.le_add_left _ _))
      rw [t1, t2]
      simp [World.freeze, Array.getElem?_modify, e1]
    have h4 := hst.writeE (e' := r.elem + softK) (hrow_some hr) hρ (xs := r.xs) (w' := w.freeze ⟨ri.b, arr.size, none⟩ 1) hR.wf e2 e3 ⟨rfl, rfl, rfl, by simp [World.freeze]⟩ (fun b hb => by simp [World.freeze, Array.getElem?_modify, Ne.symm hb]) hw' e4
    exact hn ρ F _ _ (h4.putv hd (.ref _ _ _ _ ri hρ h1 h2 h3))
/-- The cells of a builder's buffer. -/
theorem opB_sliceData {dst : Option Nat} {ty : TypeId} {ats : Array TypeId} {pos : String} {after : Array Edge} {guard : Option (Nat × Bool)} {g : Operand → SV} {h : Heap} {x : Operand} {id off n : Nat}
    (hx : g x = .ref id off n) (hn : 0 < n) : OpB P ⟨dst, .call ⟨.builtin .unsafeSliceData, #[x], ats⟩, ty, pos, after, guard⟩ g h (.ptr id off 0) [] := by
  refine opB_ok fun ρ O F w a hs hr => ?_
  have vx := hr x (by simp [Op.operands, Call.operands])
  rw [hx] at vx
  generalize hax : a.eval x = v at vx
  cases vx with
  | ref _ _ _ cap ri hρ h1 h2 h3 =>
    refine ⟨.pointer (some ⟨ri.b, off * ri.k, none⟩), ?_, by have := VRel.ptr (O := O) (F := F) (w := w) id off 0 ri hρ; simpa using this⟩
    have : cap ≠ 0 := by omega
    simp only [execOp, resolve, invoke, builtin, Sem.run_bind, Sem.run_pure, Result.andThen_ok, List.map_toArray, List.map_cons, List.map_nil, hax, Lib.run_unsafeSliceData_row _ _ _ _ _ _ this]
theorem opB_sliceData_nil {dst : Option Nat} {ty : TypeId} {ats : Array TypeId} {pos : String} {after : Array Edge} {guard : Option (Nat × Bool)} {g : Operand → SV} {h : Heap} {x : Operand}
    (hx : g x = .nils) : OpB P ⟨dst, .call ⟨.builtin .unsafeSliceData, #[x], ats⟩, ty, pos, after, guard⟩ g h .nilp [] := by
  refine opB_ok fun ρ O F w a hs hr => ?_
  have vx := hr x (by simp [Op.operands, Call.operands])
  rw [hx] at vx
  generalize hax : a.eval x = v at vx
  cases vx
  refine ⟨.pointer none, ?_, .nilp⟩
  simp only [execOp, resolve, invoke, builtin, Sem.run_bind, Sem.run_pure, Result.andThen_ok, List.map_toArray, List.map_cons, List.map_nil, hax, Lib.run_unsafeSliceData_nil]
theorem opB_unsafeString_nil {dst : Option Nat} {ty pt it : TypeId} {pos : String} {after : Array Edge} {guard : Option (Nat × Bool)} {g : Operand → SV} {h : Heap} {x y : Operand}
    (hx : g x = .nilp) (hy : g y = .int .i64 0) : OpB P ⟨dst, .call ⟨.builtin .unsafeString, #[x, y], #[pt, it]⟩, ty, pos, after, guard⟩ g h (.str (strOf [])) [] := by
  refine opB_ok fun ρ O F w a hs hr => ?_
  have vx := hr x (by simp [Op.operands, Call.operands])
  have vy := hr y (by simp [Op.operands, Call.operands])
  rw [hx] at vx; rw [hy] at vy
  generalize hax : a.eval x = v at vx
  generalize hay : a.eval y = v' at vy
  cases vx; cases vy
  refine ⟨.string .empty, ?_, .str _⟩
  simp only [execOp, resolve, invoke, builtin, Sem.run_bind, Sem.run_pure, Result.andThen_ok, List.map_toArray, List.map_cons, List.map_nil, hax, hay, Lib.run_unsafeString_none]
/-- The builder's bytes as a text: its row is given up. -/
theorem opS_unsafeString {O : Nat → Prop} {w0 : Ctx} {N : Nat} {dst : Option Nat} {ty pt it e : TypeId} {pos : String} {after : Array Edge} {tm : TM} {h : Heap} {x y : Operand} {id : Nat} {xs : List Int}
    (hx : opnd tm x = .ptr id 0 0) (hy : opnd tm y = .int .i64 xs.length) (hr : hrow h id = some ⟨1, e, nums .u8 xs⟩) (he : e < softK) (hp : P.underlying pt = some (.pointer e)) (hc : P.cellsOf e = 1) (hpos : 0 < xs.length) (hb : ∀ x ∈ xs, 0 ≤ x ∧ x < 256) (hl : xs.length ≤ 9223372036854775807) (hd : ∀ d, dst = some d → d < N) :
    OpS P O w0 N ⟨dst, .call ⟨.builtin .unsafeString, #[x, y], #[pt, it]⟩, ty, pos, after, none⟩ tm h (tm.put dst (.str (strOf xs))) (h.set id none) := by
  intro ρ F a w hst next Q hn
  have vx := opnd_rel (a := a) x (fun t _ => hst.rel t)
  have vy := opnd_rel (a := a) y (fun t _ => hst.rel t)
  rw [hx] at vx; rw [hy] at vy
  generalize hax : a.eval x = v at vx
  generalize hay : a.eval y = v' at vy
  cases vy
  cases vx with
  | ptr _ _ _ ri hρ =>
    have hR := hst.sat.row id _ ri (hrow_some hr) hρ
    obtain ⟨arr, e1, e2, e3, e4⟩ := hR.cells
    simp only [tyE_hard he, frE_hard he] at e1
    have hal : xs.length ≤ arr.size := by simpa [nums] using e3
    have hbl : (xs.map fun x => UInt8.ofNat x.toNat).length = xs.length := by simp
    have hun := Lib.run_unsafeString_row (P := P) (w := w) pt it ty e hp hc ri.b arr.size (by simp [World.shape?, e1]) (xs.map fun x => UInt8.ofNat x.toNat) (by intro h0; rw [h0] at hbl; simp at hbl; omega) (by rw [hbl]; exact hal) (by rw [hbl]; omega)
      (fun j u hu => by
        rw [List.getElem?_map] at hu
        obtain ⟨m, hm, rfl⟩ := Option.map_eq_some_iff.1 hu
        obtain ⟨v, h1, h2⟩ := e4 j 0 [.int .u8 m] (.int .u8 m) (by simp [nums, hm]) rfl
        cases h2
        have hmb := hb m (List.mem_of_getElem? hm)
        have hmm : ((UInt8.ofNat m.toNat).toNat : Int) = m := by simp; omega
        rw [addr_add]
        simp only [World.cell?, e1, Nat.zero_add, hmm]
        simpa using h1)
    rw [hbl] at hun
    have hexec : (execOp a.eval ⟨dst, .call ⟨.builtin .unsafeString, #[x, y], #[pt, it]⟩, ty, pos, after, none⟩).run P w = .ok (.value (.string (strOf xs))) (w.freeze ⟨ri.b, 0, none⟩ xs.length) := by
      simp only [Nat.zero_mul, Nat.add_zero] at hax
      simp only [execOp, resolve, invoke, builtin, Sem.run_bind, Sem.run_pure, Result.andThen_ok, List.map_toArray, List.map_cons, List.map_nil, hax, hay, hun]
      rfl
    simp only [Oper.wp, hexec, Oper.upon]
    have h4 := hst.lose (hrow_some hr) hρ (w' := w.freeze ⟨ri.b, 0, none⟩ xs.length) ⟨by unfold World.freeze; split <;> rfl, by unfold World.freeze; split <;> rfl, by unfold World.freeze; split <;> rfl, by unfold World.freeze; split <;> simp⟩ (fun b hb => by
      unfold World.freeze
      split
      · rfl
      · simp [Array.getElem?_modify, Ne.symm hb])
    exact hn ρ F _ _ (h4.putv hd (.str _))
end
end Go.IL

set_option linter.unusedVariables false
set_option linter.unusedSimpArgs false
namespace Go.IL
open Go.RowKit
section
variable {P : Program} {tab : Tab} {ops : Array Oper}
theorem run_equalPtr {w : World} {T e : TypeId} {j : TypeInfo} (hu : P.underlying T = some (.pointer e)) (hi : P.info? e = some j) (a b : Option Addr) (c : Bool) (h : (a = none ∧ b.isNone = c) ∨ (b = none ∧ a.isNone = c) ∨ (∃ x, a = some x ∧ b = some x ∧ c = true ∧ j.size ≠ 0)) (d : Nat) :
    (Op.equalIn (d + 1) T (.pointer a) (.pointer b)).run P w = .ok c w := by
  simp only [Op.equalIn]
  rw [run_bind, run_underlying' hu]
  rcases h with ⟨rfl, h⟩ | ⟨rfl, h⟩ | ⟨x, rfl, rfl, rfl, hj⟩
  · subst h; cases b <;> rfl
  · subst h; cases a <;> rfl
  · simp only []
    rw [run_bind, run_sizeOf' hi]
    simp only [hj, ne_eq, not_false_eq_true, if_true]
    simp [sameAddr, Sem.run_pure]
/-- Is a pointer nil? -/
def nilPV : SV → Option Bool
  | .nilp => some true
  | .ptr _ _ _ => some false
  | .rptr _ _ _ => some false
  | _ => none
theorem opB_ptrNil {dst : Option Nat} {op : BinOp} {T T' e ty : TypeId} {j : TypeInfo} {x : Operand} {pos : String} {after : Array Edge} {guard : Option (Nat × Bool)} {g : Operand → SV} {h : Heap} {b : Bool}
    (hu : P.underlying T = some (.pointer e)) (hi : P.info? e = some j) (hop : isEq op = true) (hx : nilPV (g x) = some b) : OpB P ⟨dst, .binOp op T x (.const (.pointer none)) T', ty, pos, after, guard⟩ g h (eqRes op b) [] := by
  refine opB_ok fun ρ O F w a hs hr => ?_
  have vx := hr x (by simp [Op.operands])
  have hv : ∃ ad, a.eval x = .pointer ad ∧ ad.isNone = b := by
    generalize a.eval x = ax at vx
    cases hg : g x <;> rw [hg] at hx vx <;> simp only [nilPV] at hx <;> try (cases hx; done)
    all_goals (cases vx; cases hx; exact ⟨_, rfl, rfl⟩)
  obtain ⟨ad, hax, hb⟩ := hv
  have hE := run_equalPtr (w := w) hu hi ad none b (.inr (.inl ⟨rfl, hb⟩)) 9999
  have hg : ∀ (o : BinOp) (u v : Operand) (a1 a2 : Option Addr), (eqGuard o T u v (.pointer a1) (.pointer a2)).run P w = .ok () w := by intro o u v a1 a2; cases o <;> rfl
  have hrun : ∃ b', eqRes op b = .bool b' ∧ (binOp op T (.pointer ad) (.pointer none) : Sem Value).run P w = .ok (.bool b') w := by
    cases op <;> simp [isEq] at hop
    · exact ⟨_, rfl, by simp only [binOp, Op.equal, Op.maxDepth]; rw [run_bind, hE]; rfl⟩
    · exact ⟨_, rfl, by simp only [binOp, Op.equal, Op.maxDepth]; rw [run_bind, hE]; rfl⟩
  obtain ⟨b', hb1, hb2⟩ := hrun
  refine ⟨.bool b', ?_, by rw [hb1]; exact .bool _⟩
  simp only [execOp, hax, show a.eval (.const (.pointer none)) = .pointer none from rfl]
  exact run_v (by rw [run_bind, hg]; simp only []; exact hb2)
/-- A pointer against itself. -/
theorem opB_ptrSame {dst : Option Nat} {op : BinOp} {T T' e ty : TypeId} {j : TypeInfo} {x y : Operand} {pos : String} {after : Array Edge} {guard : Option (Nat × Bool)} {g : Operand → SV} {h : Heap} {id i o : Nat}
    (hu : P.underlying T = some (.pointer e)) (hi : P.info? e = some j) (hj : j.size ≠ 0) (hop : isEq op = true) (hx : g x = .ptr id i o) (hy : g y = .ptr id i o) : OpB P ⟨dst, .binOp op T x y T', ty, pos, after, guard⟩ g h (eqRes op true) [] := by
  refine opB_ok fun ρ O F w a hs hr => ?_
  have vx := hr x (by simp [Op.operands])
  have vy := hr y (by simp [Op.operands])
  rw [hx] at vx; rw [hy] at vy
  generalize hax : a.eval x = ax at vx
  generalize hay : a.eval y = ay at vy
  cases vx with
  | ptr _ _ _ ri hρ =>
  cases vy with
  | ptr _ _ _ ri' hρ' =>
  rw [hρ] at hρ'; cases hρ'
  have hE := run_equalPtr (w := w) hu hi (some ⟨ri.b, i * ri.k + o, none⟩) (some ⟨ri.b, i * ri.k + o, none⟩) true (.inr (.inr ⟨_, rfl, rfl, rfl, hj⟩)) 9999
  have hg : ∀ (o : BinOp) (u v : Operand) (a1 a2 : Option Addr), (eqGuard o T u v (.pointer a1) (.pointer a2)).run P w = .ok () w := by intro o u v a1 a2; cases o <;> rfl
  have hrun : ∃ b', eqRes op true = .bool b' ∧ (binOp op T (.pointer (some ⟨ri.b, i * ri.k + o, none⟩)) (.pointer (some ⟨ri.b, i * ri.k + o, none⟩)) : Sem Value).run P w = .ok (.bool b') w := by
    cases op <;> simp [isEq] at hop
    · exact ⟨_, rfl, by simp only [binOp, Op.equal, Op.maxDepth]; rw [run_bind, hE]; rfl⟩
    · exact ⟨_, rfl, by simp only [binOp, Op.equal, Op.maxDepth]; rw [run_bind, hE]; rfl⟩
  obtain ⟨b', hb1, hb2⟩ := hrun
  refine ⟨.bool b', ?_, by rw [hb1]; exact .bool _⟩
  simp only [execOp, hax, hay]
  exact run_v (by rw [run_bind, hg]; simp only []; exact hb2)
/-- A function of the library without a body that gives its argument back. -/
theorem opB_same {f : FuncId} {dst : Option Nat} {ty : TypeId} {ats : Array TypeId} {pos : String} {after : Array Edge} {guard : Option (Nat × Bool)} {g : Operand → SV} {h : Heap} {x : Operand}
    (hf : ∀ v w, (callFunc f #[v]).run P w = .ok (.value v) w) : OpB P ⟨dst, .call ⟨.value (.func f), #[x], ats⟩, ty, pos, after, guard⟩ g h (g x) [] := by
  refine opB_ok fun ρ O F w a hs hr => ?_
  refine ⟨a.eval x, ?_, hr x (by simp [Op.operands, Call.operands])⟩
  simp only [execOp, resolve, show a.eval (.func f) = .func (.func f) #[] #[] from rfl, Deferred.ofValue]
  rw [run_bind, run_pure]
  simp only [invoke, Array.empty_append, Array.append_empty, List.map_toArray, List.map_cons, List.map_nil]
  exact hf _ _
theorem Sat.shape {ρ : Rho} {O F : Nat → Prop} {w : World} {h : Heap} (hs : Sat ρ O F h w) {id : Nat} {r : Row} {ri : RI} (hr : hrow h id = some r) (hρ : ρ id = some ri) (he : r.elem < softK) : ∃ n, w.shape? ri.b = some (r.elem, n) ∧ r.xs.length * r.k ≤ n := by
  have hR := hs.row id r ri (hrow_some hr) hρ
  obtain ⟨arr, e1, e2, e3, e4⟩ := hR.cells
  rw [tyE_hard he] at e1
  exact ⟨arr.size, by simp [World.shape?, e1], e3⟩
/-- A pointer made raw. -/
theorem opB_toUnsafe {dst : Option Nat} {T D t ty : TypeId} {j : TypeInfo} {x : Operand} {pos : String} {after : Array Edge} {guard : Option (Nat × Bool)} {g : Operand → SV} {h : Heap} {id : Nat} {r : Row}
    (hT : P.underlying T = some (.pointer t)) (hD : P.underlying D = some .unsafePointer) (hi : P.info? t = some j) (hj : j.size ≠ 0) (hx : g x = .ptr id 0 0) (hr : hrow h id = some r) (he : r.elem < softK) (hp : 0 < r.xs.length * r.k) :
    OpB P ⟨dst, .convert T D x, ty, pos, after, guard⟩ g h (.ptr id 0 0) [] := by
  refine opB_ok fun ρ O F w a hs hv => ?_
  have vx := hv x (by simp [Op.operands])
  rw [hx] at vx
  generalize hax : a.eval x = ax at vx
  cases vx with
  | ptr _ _ _ ri hρ =>
    obtain ⟨n, h1, h2⟩ := hs.shape hr hρ he
    refine ⟨_, ?_, .ptr _ _ _ ri hρ⟩
    simp only [execOp, hax]
    exact run_v (Lib.run_to_unsafe w _ hT hD hi hj h1 (by simp; omega))
theorem liesAt_own {e : TypeId} {k : Nat} (hc : P.cellsOf e = k) (hk : k ≠ 0) (count n : Nat) (hn : n ≤ count) : liesAt P P.depth e count 0 e n = true := by
  have hd : P.depth = (2 * (P.types.size + Made.depth) + 1) + 1 := rfl
  rw [hd]
  simp only [liesAt, Bool.or_eq_true]
  left
  rw [hd]
  simp [rowAt, hc, hk, hn, sameLayout]
/-- a raw pointer made one to T, where a T lies -/
theorem opB_fromUnsafe {dst : Option Nat} {T D t ty : TypeId} {j : TypeInfo} {x : Operand} {pos : String} {after : Array Edge} {guard : Option (Nat × Bool)} {g : Operand → SV} {h : Heap} {id : Nat} {r : Row}
    (hT : P.underlying T = some .unsafePointer) (hD : P.underlying D = some (.pointer t)) (hi : P.info? t = some j) (hx : g x = .ptr id 0 0) (hr : hrow h id = some r) (he : r.elem < softK) (het : r.elem = t) (hc : P.cellsOf t = r.k) (hk : r.k ≠ 0) (hp : 0 < r.xs.length) :
    OpB P ⟨dst, .convert T D x, ty, pos, after, guard⟩ g h (.ptr id 0 0) [] := by
  refine opB_ok fun ρ O F w a hs hv => ?_
  have vx := hv x (by simp [Op.operands])
  rw [hx] at vx
  generalize hax : a.eval x = ax at vx
  cases vx with
  | ptr _ _ _ ri hρ =>
    obtain ⟨n, h1, h2⟩ := hs.shape hr hρ he
    refine ⟨_, ?_, .ptr _ _ _ ri hρ⟩
    simp only [execOp, hax]
    refine run_v (Lib.run_from_unsafe w _ hT hD hi h1 ?_)
    subst het
    simp only [Nat.zero_mul, Nat.add_zero]
    refine liesAt_own hc hk _ _ ?_
    rw [hc]
    have : 1 * r.k ≤ r.xs.length * r.k := Nat.mul_le_mul_right _ hp
    exact (Nat.le_div_iff_mul_le (by omega)).2 (by omega)
/-! ### Calls that keep what they are handed -/
/-- A row may be told less of, or otherwise. -/
theorem Sat.retell {ρ : Rho} {O F : Nat → Prop} {w : World} {h ext ext' : Heap} (hs : Sat ρ O F (h ++ ext) w) (hl : ext.length = ext'.length)
    (ht : ∀ (i : Nat) (r' : Row), ext'[i]? = some (some r') → ∃ r, ext[i]? = some (some r) ∧ r.k = r'.k ∧ r.elem = r'.elem ∧ r.xs.length = r'.xs.length ∧ (∀ x ∈ r'.xs, x.length = r'.k) ∧
      ∀ (i j : Nat) (x' : List SV) (y' : SV), r'.xs[i]? = some x' → x'[j]? = some y' → ∃ x y, r.xs[i]? = some x ∧ x[j]? = some y ∧ ∀ v, VRel ρ O F w y v → VRel ρ O F w y' v) : Sat ρ O F (h ++ ext') w := by
  have key : ∀ (id : Nat) (r' : Row), (h ++ ext')[id]? = some (some r') → ∃ r : Row, (h ++ ext)[id]? = some (some r) ∧ (r = r' ∨ (r.k = r'.k ∧ r.elem = r'.elem ∧ r.xs.length = r'.xs.length ∧ (∀ x ∈ r'.xs, x.length = r'.k) ∧
      ∀ (i j : Nat) (x' : List SV) (y' : SV), r'.xs[i]? = some x' → x'[j]? = some y' → ∃ x y, r.xs[i]? = some x ∧ x[j]? = some y ∧ ∀ v, VRel ρ O F w y v → VRel ρ O F w y' v)) := fun id r' e => by
    rcases Nat.lt_or_ge id h.length with hlt | hge
    · rw [List.getElem?_append_left hlt] at e
      exact ⟨r', by rw [List.getElem?_append_left hlt]; exact e, .inl rfl⟩
    · rw [List.getElem?_append_right hge] at e
      obtain ⟨r, h1, h2⟩ := ht _ r' e
      exact ⟨r, by rw [List.getElem?_append_right hge]; exact h1, .inr h2⟩
  refine ⟨fun id r' ri e1 e2 => ?_, fun id id' r1 r2 ri ri' e1 e1' e2 e2' hb => ?_, hs.lt⟩
  · obtain ⟨r, h1, h2⟩ := key id r' e1
    have hR := hs.row id r ri h1 e2
    rcases h2 with rfl | ⟨hk, hel, hlen, hwf, hc⟩
    · exact hR
    · obtain ⟨arr, a1, a2, a3, a4⟩ := hR.cells
      refine ⟨hR.k.trans hk, hR.no, hR.nf, hwf, arr, by rw [← hel]; exact a1, a2, by rw [← hlen, ← hk]; exact a3, fun i j x' y' f1 f2 => ?_⟩
      obtain ⟨x, y, g1, g2, g3⟩ := hc i j x' y' f1 f2
      obtain ⟨v, c1, c2⟩ := a4 i j x y g1 g2
      exact ⟨v, by rw [← hk]; exact c1, g3 v c2⟩
  · obtain ⟨r, h1, _⟩ := key id r1 e1
    obtain ⟨r', h1', _⟩ := key id' r2 e1'
    exact hs.inj id id' r r' ri ri' h1 h1' e2 e2' hb
/-- A call whose contract is told by the very values that go in: what it then keeps of them is told again as it was known before. -/
theorem opB_callV {f : FuncId} {dst : Option Nat} {args : Array Operand} {ats : Array TypeId} {ty : TypeId} {pos : String} {after : Array Edge} {guard : Option (Nat × Bool)} {g : Operand → SV} {h : Heap} {sv : SV} (ext : Heap)
    (hs : ∀ (ρ : Rho) (O F : Nat → Prop) (w : World) (vs : List Value), vs.length = args.size → (∀ (i : Nat) (x : Operand) (v : Value), args[i]? = some x → vs[i]? = some v → VRel ρ O F w (g x) v) →
      ∃ (svs : List SV) (rows : List Row), FSpec P f svs sv rows ∧ svs.length = vs.length ∧ (∀ (i : Nat) (s : SV) (v : Value) (ρ : Rho) (O F : Nat → Prop) (w : World), svs[i]? = some s → vs[i]? = some v → VRel ρ O F w s v) ∧ rows.length = ext.length ∧
        ∀ (ρ' : Rho) (F' : Nat → Prop) (w' : World), (∀ (i : Nat) (x : Operand) (v : Value), args[i]? = some x → vs[i]? = some v → VRel ρ' O F' w' (g x) v) → Sat ρ' O F' (h ++ rows.map fun r => some (r.ren (h.length + ·))) w' → Sat ρ' O F' (h ++ ext) w') :
    OpB P ⟨dst, .call ⟨.value (.func f), args, ats⟩, ty, pos, after, guard⟩ g h (sv.ren (h.length + ·)) ext := by
  intro ρ O F w a hsat hr hfree next Q hn
  obtain ⟨svs, rows, hF, hl, hrel, hrl, hup⟩ := hs ρ O F w (args.toList.map a.eval) (by simp) (fun i x v e1 e2 => by
    rw [List.getElem?_map] at e2
    obtain ⟨x', h1, rfl⟩ := Option.map_eq_some_iff.1 e2
    have : x' = x := by rw [Array.getElem?_toList, e1] at h1; exact (Option.some.inj h1).symm
    subst this
    exact hr x' (by simp [Op.operands, Call.operands, Array.mem_of_getElem? e1]))
  have hexec : (execOp a.eval ⟨dst, .call ⟨.value (.func f), args, ats⟩, ty, pos, after, guard⟩).run P w = .ok (.enter f (args.map a.eval)) w := by
    simp only [execOp, resolve, show a.eval (.func f) = .func (.func f) #[] #[] from rfl, Deferred.ofValue]
    rw [run_bind, run_pure]
    simp only [invoke, Array.empty_append, Array.append_empty]
    exact hF.1 _ _
  have hA : ArgsRel (fun b => b < w.heap.size) w svs (args.map a.eval) := by
    refine ⟨by rw [hl]; simp, fun i s v e1 e2 => hrel i s v _ _ _ _ e1 ?_⟩
    rw [List.getElem?_map]
    rw [Array.getElem?_map] at e2
    simpa using e2
  refine call_core hexec hA hF hsat (fun id h1 h2 => hfree id h1 (by rw [← hrl]; exact h2)) fun v ρ' F' w' h1 h2 h3 h4 => hn v ρ' F' w' h1 (fun id e => by rw [← hrl]; exact h2 id e) (hup ρ' F' w' (fun i x v e1 e2 => ?_) h3) h4
  rw [List.getElem?_map] at e2
  obtain ⟨x', k1, rfl⟩ := Option.map_eq_some_iff.1 e2
  have : x' = x := by rw [Array.getElem?_toList, e1] at k1; exact (Option.some.inj k1).symm
  subst this
  exact (hr x' (by simp [Op.operands, Call.operands, Array.mem_of_getElem? e1])).ext hsat.lt h1
end
attribute [go_sem] eqRes eqL eqS sksOk skOk nilV nilPV
end Go.IL

set_option linter.unusedVariables false
set_option linter.unusedSimpArgs false
namespace Go.IL
open Go.RowKit
mutual
/-- The same, of blocks that the call has made and leaves alone. -/
def SV.unold : SV → SV
  | .agg cs => .agg (unoldL cs)
  | .tup cs => .tup (unoldL cs)
  | .clo f cs => .clo f (unoldL cs)
  | .sl _ xs => .sl false (unoldLL xs)
  | .rptr _ x j => .rptr false (unoldL x) j
  | .mp _ xs => .mp false (unoldLL xs)
  | .it _ xs seen => .it false (unoldLL xs) seen
  | .cnd g v => .cnd g v.unold
  | .ptr id i j => .ptr id i j
  | .ref id i j => .ref id i j
  | .any => .any
  | .bool b => .bool b
  | .int k n => .int k n
  | .str s => .str s
  | .raw v => .raw v
  | .nils => .nils
  | .nilp => .nilp
def unoldL : List SV → List SV
  | [] => []
  | s :: r => s.unold :: unoldL r
def unoldLL : List (List SV) → List (List SV)
  | [] => []
  | s :: r => unoldL s :: unoldLL r
end
theorem unoldL_map : ∀ l, unoldL l = l.map SV.unold
  | [] => by simp [unoldL]
  | s :: r => by simp [unoldL, unoldL_map r]
theorem unoldLL_map : ∀ l, unoldLL l = l.map unoldL
  | [] => by simp [unoldLL]
  | s :: r => by simp [unoldLL, unoldLL_map r]
section
variable {P : Program} {tab : Tab} {ops : Array Oper} {ρ : Rho} {O F : Nat → Prop} {w : World} {h : Heap}
theorem VRel.unold {O' F' : Nat → Prop} (h1 : ∀ b, O b → F' b) (h2 : ∀ b, F b → F' b) {s : SV} {v : Value} (hv : VRel ρ O F w s v) : VRel ρ O' F' w s.unold v := by
  have him : ∀ o b, Im O F o b → Im O' F' false b := fun o b hb => .inl (hb.elim (h2 b) fun h => h1 b h.2)
  have hL : ∀ (l : List SV) (i : Nat) (c : SV), (unoldL l)[i]? = some c → ∃ c', l[i]? = some c' ∧ c = c'.unold := fun l i c e => by
    rw [unoldL_map, List.getElem?_map] at e
    obtain ⟨c', h1, rfl⟩ := Option.map_eq_some_iff.1 e
    exact ⟨c', h1, rfl⟩
  have hLL : ∀ (l : List (List SV)) (i : Nat) (c : List SV), (unoldLL l)[i]? = some c → ∃ c', l[i]? = some c' ∧ c = unoldL c' := fun l i c e => by
    rw [unoldLL_map, List.getElem?_map] at e
    obtain ⟨c', h1, rfl⟩ := Option.map_eq_some_iff.1 e
    exact ⟨c', h1, rfl⟩
  have lenL : ∀ l, (unoldL l).length = l.length := fun l => by rw [unoldL_map]; simp
  have lenLL : ∀ l, (unoldLL l).length = l.length := fun l => by rw [unoldLL_map]; simp
  induction hv with
  | any v => exact .any v
  | bool b => exact .bool b
  | int k n => exact .int k n
  | str s => exact .str s
  | raw v => exact .raw v
  | agg cs vs hl _ ih => exact .agg _ vs (by rw [lenL]; exact hl) fun i c v e1 e2 => by obtain ⟨c', k1, rfl⟩ := hL _ _ _ e1; exact ih i c' v k1 e2
  | tup cs vs hl _ ih => exact .tup _ vs (by rw [lenL]; exact hl) fun i c v e1 e2 => by obtain ⟨c', k1, rfl⟩ := hL _ _ _ e1; exact ih i c' v k1 e2
  | ptr id i j ri h => exact .ptr id i j ri h
  | ref id off n cap ri h hn hc hm => exact .ref id off n cap ri h hn hc hm
  | sl o xs a cap k cs hk hcap hm ha _ ih =>
    simp only [SV.unold]
    rw [← lenLL xs]
    refine .sl false _ a cap k cs (fun x hx => ?_) (by rw [lenLL]; exact hcap) hm (fun hp => ?_) fun i j x y e1 e2 => ?_
    · rw [unoldLL_map] at hx
      obtain ⟨x', hx', rfl⟩ := List.mem_map.1 hx
      rw [lenL]; exact hk x' hx'
    · obtain ⟨b, off, e, hb, hc⟩ := ha (by rw [lenLL] at hp; exact hp)
      exact ⟨b, off, e, him o b hb, by rw [lenLL]; exact hc⟩
    · obtain ⟨x', k1, rfl⟩ := hLL _ _ _ e1
      obtain ⟨y', k2, rfl⟩ := hL _ _ _ e2
      exact ih i j x' y' k1 k2
  | rptr o x j b off cs hb ha _ ih =>
    exact .rptr false _ j b off cs (him o b hb) (fun i hi => ha i (by rw [lenL] at hi; exact hi)) fun i y e => by obtain ⟨y', k2, rfl⟩ := hL _ _ _ e; exact ih i y' k2
  | mp o xs b es cs hb hw hk hn he _ ih =>
    refine .mp false _ b es cs (him o b hb) (by rw [lenLL]; exact hw) (fun x hx => ?_) (hn.trans (lenLL _).symm) (fun i hi => he i (by rw [lenLL] at hi; exact hi)) fun i j x y e1 e2 => ?_
    · rw [unoldLL_map] at hx
      obtain ⟨x', hx', rfl⟩ := List.mem_map.1 hx
      rw [lenL]; exact hk x' hx'
    · obtain ⟨x', k1, rfl⟩ := hLL _ _ _ e1
      obtain ⟨y', k2, rfl⟩ := hL _ _ _ e2
      exact ih i j x' y' k1 k2
  | it o xs seen r b es cs hr hrw hb hw hk hn he _ ih =>
    simp only [SV.unold]
    refine .it false _ seen r b es cs (h2 r hr) (by rw [lenLL]; exact hrw) (him o b hb) (by rw [lenLL]; exact hw) (fun x hx => ?_) (hn.trans (lenLL _).symm) (fun i hi => he i (by rw [lenLL] at hi; exact hi)) fun i j x y e1 e2 => ?_
    · rw [unoldLL_map] at hx
      obtain ⟨x', hx', rfl⟩ := List.mem_map.1 hx
      rw [lenL]; exact hk x' hx'
    · obtain ⟨x', k1, rfl⟩ := hLL _ _ _ e1
      obtain ⟨y', k2, rfl⟩ := hL _ _ _ e2
      exact ih i j x' y' k1 k2
  | nils => exact .nils
  | nilp => exact .nilp
  | clo f cs vs hl _ ih => exact .clo f _ vs (by rw [lenL]; exact hl) fun i c v e1 e2 => by obtain ⟨c', k1, rfl⟩ := hL _ _ _ e1; exact ih i c' v k1 e2
  | cnd g s v _ h0 ih => exact .cnd g _ v (fun e => ih e) h0
theorem rei_relG {O' : Nat → Prop} (hs : Sat ρ O F h w) (hO : ∀ b, O b ∨ F b → O' b) (hR' : ∀ (id : Nat) (r : Row) (ri : RI), h[id]? = some (some r) → ρ id = some ri → O' ri.b) : ∀ (n : Nat) (s : SV) (v : Value), VRel ρ O F w s v → VRel (fun _ => none) O' (fun _ => False) w (rei n h s) v
  | 0, s, v, _ => .any v
  | n + 1, s, v, hv => by
    have him : ∀ o b, Im O F o b → Im O' (fun _ => False) true b := fun o b hb => .inr ⟨rfl, hO b (hb.elim .inr fun h => .inl h.2)⟩
    cases hv with
    | any v => exact .any v
    | bool b => exact .bool b
    | int k m => exact .int k m
    | str s => exact .str s
    | raw v => exact .raw v
    | agg cs vs hl hh =>
      refine .agg _ _ (by simpa using hl) fun i c v e1 e2 => ?_
      obtain ⟨c', h1, rfl⟩ := map_get e1
      exact rei_relG hs hO hR' n c' v (hh i c' v h1 e2)
    | tup cs vs hl hh => exact .any _
    | ptr id i j ri hρ =>
      simp only [rei]
      split
      · rename_i hcond
        obtain ⟨h1, h2⟩ := hcond
        obtain ⟨r, hr⟩ := Option.isSome_iff_exists.1 h2
        have hR := hs.row id r ri (hrow_some hr) hρ
        have exs : rowXs h id = r.xs := by simp [rowXs, hr]
        rw [exs] at h1 ⊢
        obtain ⟨arr, e1, e2, e3, e4⟩ := hR.cells
        have h4 := row_at h1
        have hcell : ∀ t y, (elAt r.xs i)[t]? = some y → ∃ v, w.cell? ⟨ri.b, i * ri.k + t, none⟩ = some v ∧ VRel ρ O F w y v := fun t y hy => by
          obtain ⟨v, h6, h7⟩ := e4 i t _ _ h4 hy
          refine ⟨v, ?_, h7⟩
          simp only [World.cell?, e1]
          rw [hR.k]
          simpa using h6
        refine .rptr true _ j ri.b (i * ri.k) (fun t => (w.cell? ⟨ri.b, i * ri.k + t, none⟩).getD undef) (.inr ⟨rfl, hR' id r ri (hrow_some hr) hρ⟩) (fun t ht => ?_) fun t y e => ?_
        · rw [List.length_map] at ht
          obtain ⟨v, h6, _⟩ := hcell t _ (rel_at ht)
          rw [h6]; rfl
        · obtain ⟨y', f4, rfl⟩ := map_get e
          obtain ⟨v, h6, h7⟩ := hcell t y' f4
          rw [h6]
          exact rei_relG hs hO hR' n y' v h7
      · exact .any _
    | ref id off m cap ri hρ hn hc hm =>
      simp only [rei]
      split
      · rename_i hcond
        obtain ⟨h1, h2⟩ := hcond
        obtain ⟨r, hr⟩ := Option.isSome_iff_exists.1 h2
        have hR := hs.row id r ri (hrow_some hr) hρ
        have exs : rowXs h id = r.xs := by simp [rowXs, hr]
        rw [exs] at h1 ⊢
        obtain ⟨arr, e1, e2, e3, e4⟩ := hR.cells
        have hlen : (((r.xs.drop off).take m).map fun x => x.map (rei n h)).length = m := by simp; omega
        have hget : ∀ i x, i < m → ((r.xs.drop off).take m)[i]? = some x → r.xs[off + i]? = some x := fun i x hi e => by rwa [List.getElem?_take_of_lt hi, List.getElem?_drop] at e
        have key := VRel.sl (ρ := fun _ => none) (O := O') (F := fun _ => False) (w := w) true (((r.xs.drop off).take m).map fun x => x.map (rei n h)) (some ⟨ri.b, off * ri.k, none⟩) cap r.k
          (fun i j => (w.cell? ⟨ri.b, off * ri.k + i * r.k + j, none⟩).getD undef)
          (fun x hx => by
            obtain ⟨x', hx', rfl⟩ := List.mem_map.1 hx
            rw [List.length_map]
            exact hR.wf x' (List.mem_of_mem_drop (List.mem_of_mem_take hx')))
          (by rw [hlen]; exact hn) hm
          (fun _ => ⟨ri.b, off * ri.k, rfl, .inr ⟨rfl, hR' id r ri (hrow_some hr) hρ⟩, fun i j hi hj => by
            rw [hlen] at hi
            have h3 : off + i < r.xs.length := by omega
            have h4 := row_at h3
            have h5 := hR.wf _ (List.mem_of_getElem? h4)
            obtain ⟨v, h6, _⟩ := e4 (off + i) j _ _ h4 (rel_at (by rw [h5]; exact hj))
            have h7 : w.cell? ⟨ri.b, off * ri.k + i * r.k + j, none⟩ = some v := by
              simp only [World.cell?, e1]
              rw [hR.k, ← Nat.add_mul]
              simpa using h6
            rw [h7]; rfl⟩)
          (fun i j x y f1 f2 => by
            rw [List.getElem?_map] at f1
            obtain ⟨x', f3, rfl⟩ := Option.map_eq_some_iff.1 f1
            obtain ⟨y', f4, rfl⟩ := map_get f2
            have hi : i < m := by have := (List.getElem?_eq_some_iff.1 f3).1; simp at this; omega
            obtain ⟨v, h6, h7⟩ := e4 (off + i) j _ _ (hget i x' hi f3) f4
            have h8 : w.cell? ⟨ri.b, off * ri.k + i * r.k + j, none⟩ = some v := by
              simp only [World.cell?, e1]
              rw [hR.k, ← Nat.add_mul]
              simpa using h6
            rw [h8]
            exact rei_relG hs hO hR' n y' v h7)
        rwa [hlen] at key
      · exact .any _
    | sl o xs a cap k cs hk hcap hm ha hh =>
      simp only [rei]
      have hlen : (xs.map fun x => x.map (rei n h)).length = xs.length := by simp
      rw [← hlen]
      refine .sl true _ a cap k cs (fun x hx => ?_) (by rw [hlen]; exact hcap) hm (fun hp => ?_) fun i j x y e1 e2 => ?_
      · obtain ⟨x', hx', rfl⟩ := List.mem_map.1 hx
        rw [List.length_map]; exact hk x' hx'
      · obtain ⟨b, off, e, hb, hc⟩ := ha (by rw [hlen] at hp; exact hp)
        exact ⟨b, off, e, him o b hb, by rw [hlen]; exact hc⟩
      · rw [List.getElem?_map] at e1
        obtain ⟨x', h1, rfl⟩ := Option.map_eq_some_iff.1 e1
        obtain ⟨y', h2, rfl⟩ := map_get e2
        exact rei_relG hs hO hR' n y' _ (hh i j x' y' h1 h2)
    | rptr o x j b off cs hb ha hh =>
      simp only [rei]
      refine .rptr true _ j b off cs (him o b hb) (fun i hi => ha i (by simpa using hi)) fun i y e => ?_
      obtain ⟨y', h2, rfl⟩ := map_get e
      exact rei_relG hs hO hR' n y' _ (hh i y' h2)
    | mp o xs b es cs hb hw hk hn he hh =>
      simp only [rei]
      have hlen : (xs.map fun x => x.map (rei n h)).length = xs.length := by simp
      refine .mp true _ b es cs (him o b hb) (by rw [hlen]; exact hw) (fun x hx => ?_) (hn.trans hlen.symm) (fun i hi => he i (by rwa [hlen] at hi)) fun i j x y e1 e2 => ?_
      · obtain ⟨x', hx', rfl⟩ := List.mem_map.1 hx
        rw [List.length_map]; exact hk x' hx'
      · rw [List.getElem?_map] at e1
        obtain ⟨x', h1, rfl⟩ := Option.map_eq_some_iff.1 e1
        obtain ⟨y', h2, rfl⟩ := map_get e2
        exact rei_relG hs hO hR' n y' _ (hh i j x' y' h1 h2)
    | it => exact .any _
    | nils => exact .nils
    | nilp => exact .nilp
    | clo f cs vs hl hh =>
      refine .clo f _ _ (by simpa using hl) fun i c v e1 e2 => ?_
      obtain ⟨c', h1, rfl⟩ := map_get e1
      exact rei_relG hs hO hR' n c' v (hh i c' v h1 e2)
    | cnd g s v h1 h0 => exact .any _
/-- What a call has made, told by content: nobody writes it any more. -/
theorem FSpec.freeze {f : FuncId} {args : List SV} {sv : SV} {rows : List Row} (n : Nat) (h : FSpec P f args sv rows) : FSpec P f args (rei n (rows.map some) sv).unold [] :=
  ⟨h.1, fun w cargs hA => (h.2 w cargs hA).mono fun e w' hp => by
    obtain ⟨v, ρ, F, h1, h2, h3, h4, h5, h6, h7⟩ := hp
    have hrel := rei_relG (O' := fun b => F b ∨ ∃ id r ri, (rows.map some)[id]? = some (some r) ∧ ρ id = some ri ∧ ri.b = b) h3 (fun b hb => .inl (hb.resolve_left id)) (fun id r ri e1 e2 => .inr ⟨id, r, ri, e1, e2, rfl⟩) n sv v h7
    refine ⟨v, fun _ => none, fun b => F b ∨ ∃ id r ri, (rows.map some)[id]? = some (some r) ∧ ρ id = some ri ∧ ri.b = b, h1, h2, ⟨fun id r ri e => by simp at e, fun id id' r r' ri ri' e => by simp at e, fun b hb => ?_⟩, fun b hb => ?_, fun id ri e => (by cases e), fun _ _ => rfl, hrel.unold (fun b hb => hb) fun b hb => hb.elim⟩
    · rcases hb with hb | hb | ⟨id, r, ri, e1, e2, rfl⟩
      · exact hb.elim
      · exact h3.lt b (.inr hb)
      · exact (h3.row id r ri e1 e2).lt
    · rcases hb with hb | ⟨id, r, ri, e1, e2, rfl⟩
      · exact h4 b hb
      · exact h5 id ri e2⟩
end
end Go.IL

set_option linter.unusedVariables false
set_option linter.unusedSimpArgs false
namespace Go.IL
open Go.RowKit
/-! ### A region that draws its order, in which some moves and sums may also come after a store -/
/-- Such an operation: it looks at temporaries only. `S`: the temporaries that hold an int. -/
def flStep (S : List Nat) (o : Oper) : Option (List Nat) :=
  match o.guard, o.dst, o.op with
  | none, some d, .move x => some (match x with | .tmp t => if S.contains t then d :: S else S.filter (· != d) | _ => S.filter (· != d))
  | none, some d, .binOp .sub _ (.tmp t) (.const (.int .i64 _)) _ => if S.contains t then some (d :: S) else none
  | none, some d, .binOp .add _ (.tmp t) (.const (.int .i64 _)) _ => if S.contains t then some (d :: S) else none
  | none, some d, .binOp .add _ (.tmp t) (.tmp u) _ => if S.contains t && S.contains u then some (d :: S) else none
  | _, _, _ => none
def flB (ops : Array Oper) : List Nat → Array Bool → List Nat → Bool
  | [], _, _ => true
  | l :: L, listed, S => match (ops[l]?).bind (flStep S) with
    | none => false
    | some S' => Region.free .any ops listed l && (Region.ready .any ops listed).contains l && flB ops L (listed.setIfInBounds l true) S'
def sinkLB (ops : Array Oper) (L : List Nat) (n : Nat) : Bool :=
  (List.range n).all fun i => L.contains i || (List.range (n + 1)).any fun j => decide (i < j) && Region.waitsFor .any ops j i
def drawLB (ops : Array Oper) (L S : List Nat) (n : Nat) : Bool :=
  edgesB ops && looksB ops n && decide (n < ops.size) && sinkLB ops L n && Region.chainB .any ops n && Region.noSelect ops && flB ops L (Array.replicate ops.size false) S && L.all fun l => decide (l < n)
theorem tail_waitsL {ops : Array Oper} {L : List Nat} {n : Nat} {listed : Array Bool} (hs : sinkLB ops L n = true) (hc : Region.chainB .any ops n = true) (hn : n < ops.size) (inv : HeadInv .any ops n listed) (hL : ∀ l ∈ L, listed.getD l false = true) :
    ∀ (d i : Nat), n - i = d → i < n → listed.getD i true = false → ∀ t, n ≤ t → t ∉ Region.ready .any ops listed := by
  intro d
  induction d using Nat.strongRecOn with
  | _ d ih =>
    intro i hd hi hun t ht hr
    obtain ⟨_, ot, hot, hall⟩ := mem_ready.1 hr
    have htlt : t < ops.size := (Array.getElem?_eq_some_iff.1 hot).1
    by_cases htn : t = n
    · subst htn
      have h1 := List.all_eq_true.1 hs i (List.mem_range.2 hi)
      rw [Bool.or_eq_true] at h1
      rcases h1 with h1 | h1
      · have h2 := hL i (by simpa using h1)
        rw [getD_both hun] at h2; cases h2
      obtain ⟨j, hj, hj2⟩ := List.any_eq_true.1 h1
      simp only [Bool.and_eq_true, decide_eq_true_eq] at hj2
      obtain ⟨oj, hoj, e, he, hb, hon⟩ := Region.waitsFor_spec hj2.2
      have hjle : j ≤ t := by have := List.mem_range.1 hj; omega
      by_cases hjt : j = t
      · subst hjt
        have : oj = ot := Option.some.inj (hoj.symm.trans hot)
        subst this
        have h2 := hall e he hb
        rw [hon, getD_both hun] at h2
        cases h2
      · cases hl : listed.getD j false with
        | true =>
          have h2 := inv.closed j oj hoj hl e he hb
          rw [hon, getD_both hun] at h2
          cases h2
        | false =>
          have hjs : j < listed.size := by rw [inv.size]; omega
          exact ih (t - j) (by omega) j rfl (by omega) (getD_in hjs hl) t (Nat.le_refl _) hr
    · have h1 := List.all_eq_true.1 hc t (List.mem_range.2 htlt)
      simp only [Bool.or_eq_true, decide_eq_true_eq] at h1
      rcases h1 with h1 | h1
      · omega
      · obtain ⟨o', ho', e, he, hb, hon⟩ := Region.waitsFor_spec h1
        have : o' = ot := Option.some.inj (ho'.symm.trans hot)
        subst this
        have h2 := hall e he hb
        rw [hon, getD_both (inv.tail (t - 1) (by omega) (by omega))] at h2
        cases h2
/-- Temporaries that hold an int. -/
def IntT (S : List Nat) (a : Act) : Prop := ∀ t ∈ S, ∃ x : Int, a.tmps.getD t undef = .int .i64 x
theorem IntT.put {S : List Nat} {a : Act} {N : Nat} {d : Nat} {v : Value} (hs : a.tmps.size = N) (hd : d < N) (h : IntT S a) : IntT (S.filter (· != d)) (a.put (some d) v) := by
  intro t ht
  rw [List.mem_filter] at ht
  obtain ⟨x, hx⟩ := h t ht.1
  refine ⟨x, ?_⟩
  rw [Act.put_getD hs (fun d' e => by cases e; exact hd), if_neg]
  · exact hx
  · intro e; cases e; simp at ht
theorem IntT.put_int {S : List Nat} {a : Act} {N : Nat} {d : Nat} {x : Int} (hs : a.tmps.size = N) (hd : d < N) (h : IntT S a) : IntT (d :: S) (a.put (some d) (.int .i64 x)) := by
  intro t ht
  rw [Act.put_getD hs (fun d' e => by cases e; exact hd)]
  by_cases e : d = t
  · rw [if_pos (by rw [e])]; exact ⟨x, rfl⟩
  · rw [if_neg (by intro e'; cases e'; exact e rfl)]
    rcases List.mem_cons.1 ht with h1 | h1
    · exact absurd h1.symm e
    · exact h t h1
theorem eval_tmp (a : Act) (t : Nat) : a.eval (.tmp t) = a.tmps.getD t undef := rfl
/-- What such an operation yields, in every world. -/
theorem flStep_yields {P : Program} {ops : Array Oper} {S S' : List Nat} {o : Oper} {a : Act} {N : Nat} (hf : flStep S o = some S') (hS : IntT S a) (hs : a.tmps.size = N) (hd : ∀ d, o.dst = some d → d < N) :
    ∃ v, Yields P ops o v a ∧ IntT S' (a.put o.dst v) := by
  obtain ⟨dst, op, type, pos, after, guard⟩ := o
  unfold flStep at hf
  dsimp only at hf hd
  split at hf
  · rename_i d x
    simp only [Option.some.injEq] at hf
    refine ⟨a.eval x, .inl ⟨rfl, fun w => rfl⟩, ?_⟩
    subst hf
    dsimp only
    split
    · rename_i t
      split
      · rename_i hc
        obtain ⟨y, hy⟩ := hS t (by simpa using hc)
        rw [eval_tmp, hy]
        exact IntT.put_int hs (hd d rfl) hS
      · exact IntT.put hs (hd d rfl) hS
    · exact IntT.put hs (hd d rfl) hS
  · rename_i d _ t n _
    split at hf
    · rename_i hc
      simp only [Option.some.injEq] at hf
      obtain ⟨y, hy⟩ := hS t (by simpa using hc)
      refine ⟨.int .i64 (IntKind.i64.wrap (y - n)), .inl ⟨rfl, fun w => ?_⟩, ?_⟩
      · simp only [execOp, eval_tmp, hy]
        rfl
      · subst hf; exact IntT.put_int hs (hd d rfl) hS
    · cases hf
  · rename_i d _ t n _
    split at hf
    · rename_i hc
      simp only [Option.some.injEq] at hf
      obtain ⟨y, hy⟩ := hS t (by simpa using hc)
      refine ⟨.int .i64 (IntKind.i64.wrap (y + n)), .inl ⟨rfl, fun w => ?_⟩, ?_⟩
      · simp only [execOp, eval_tmp, hy]
        rfl
      · subst hf; exact IntT.put_int hs (hd d rfl) hS
    · cases hf
  · rename_i d _ t u _
    split at hf
    · rename_i hc
      simp only [Bool.and_eq_true] at hc
      simp only [Option.some.injEq] at hf
      obtain ⟨y, hy⟩ := hS t (by simpa using hc.1)
      obtain ⟨z, hz⟩ := hS u (by simpa using hc.2)
      refine ⟨.int .i64 (IntKind.i64.wrap (y + z)), .inl ⟨rfl, fun w => ?_⟩, ?_⟩
      · simp only [execOp, eval_tmp, hy, hz]
        rfl
      · subst hf; exact IntT.put_int hs (hd d rfl) hS
    · cases hf
  · cases hf
section
variable {P : Program} {O : Nat → Prop} {w0 : Ctx} {N : Nat} {ops : Array Oper} {n : Nat} {tmS : Nat → TM} {hS : Nat → Heap} {svS : Nat → SV} {exS : Nat → Heap}
theorem DInv.take (hch : Chain P N ops n tmS hS svS exS 0) (hlk : looksB ops n = true) {listed : Array Bool} (hsz : listed.size = ops.size) (hn : n ≤ ops.size) {ρ : Rho} {F : Nat → Prop} {a : Act} {w : World}
    (inv : DInv P O w0 N ops n (tmS 0) hS svS listed ρ F a w) {j : Nat} (hj : j < n) (hr : j ∈ Region.ready .any ops listed) {o : Oper} (ho : ops[j]? = some o) {v : Value} (hy : Yields P ops o v a) :
    ∃ ρ' F', DInv P O w0 N ops n (tmS 0) hS svS (listed.setIfInBounds j true) ρ' F' (a.put o.dst v) w := by
  have h1 := inv.next hch hlk hsz hn hj hr (Q := fun _ _ _ => False) (K := fun a' w' => ∃ ρ' F', DInv P O w0 N ops n (tmS 0) hS svS (listed.setIfInBounds j true) ρ' F' a' w') fun ρ' F' a' w' h => ⟨ρ', F', h⟩
  unfold wpOp at h1
  simp only [ho] at h1
  rcases hy with ⟨hw, hv⟩ | ⟨hw, rfl⟩
  · rw [if_pos hw] at h1
    rcases h1 with h1 | ⟨_, _, _, h1⟩
    · unfold Oper.wp at h1
      rw [hv w] at h1
      exact h1
    · exact h1.elim
  · rw [hw] at h1
    exact h1
theorem take_all {Q : Exit → Act → World → Prop} (hQ : ∀ c a w, ¬ Q (.panic c) a w) (hch : Chain P N ops n tmS hS svS exS 0) (hlk : looksB ops n = true) (hn : n ≤ ops.size) (hns : Region.noSelect ops = true) {w : World} :
    ∀ (L S : List Nat) (listed : Array Bool) (ρ : Rho) (F : Nat → Prop) (a : Act) (fuel : Nat), flB ops L listed S = true → (∀ l ∈ L, l < n) → IntT S a → HeadInv .any ops n listed → DInv P O w0 N ops n (tmS 0) hS svS listed ρ F a w → cnt n listed + (fuel + L.length) = ops.size →
      (∀ (listed' : Array Bool) (ρ' : Rho) (F' : Nat → Prop) (a' : Act), HeadInv .any ops n listed' → DInv P O w0 N ops n (tmS 0) hS svS listed' ρ' F' a' w → (∀ l, listed.getD l false = true ∨ l ∈ L → listed'.getD l false = true) → cnt n listed' + fuel = ops.size → wpAny P .any ops Q fuel listed' a' w) →
      wpAny P .any ops Q (fuel + L.length) listed a w := by
  intro L
  induction L with
  | nil =>
    intro S listed ρ F a fuel _ _ _ hI inv hc hk
    exact hk listed ρ F a hI inv (fun l h => h.resolve_right (by simp)) (by simpa using hc)
  | cons l L ih =>
    intro S listed ρ F a fuel hfl hlt hS hI inv hc hk
    unfold flB at hfl
    cases ho : ops[l]? with
    | none => simp [ho] at hfl
    | some o =>
      rw [ho, Option.bind_some] at hfl
      cases hst : flStep S o with
      | none => simp [hst] at hfl
      | some S' =>
        rw [hst] at hfl
        simp only [Bool.and_eq_true] at hfl
        obtain ⟨⟨hfree, hrd⟩, hrest⟩ := hfl
        have hln := hlt l (by simp)
        obtain ⟨o', ho', hd, -, -⟩ := hch.op l (by omega) hln
        rw [ho] at ho'; cases ho'
        obtain ⟨v, hy, hS'⟩ := flStep_yields (P := P) (ops := ops) hst hS inv.size hd
        have hr : l ∈ Region.ready .any ops listed := by simpa using hrd
        obtain ⟨ρ1, F1, inv1⟩ := inv.take hch hlk hI.size hn hln hr ho hy
        rw [List.length_cons, ← Nat.add_assoc]
        refine wpAny_take ho hns hfree hrd (fun c a w h => absurd h (hQ c _ w)) hy ?_
        have hun := getD_both (mem_ready.1 hr).1
        refine ih S' _ ρ1 F1 _ fuel hrest (fun l' h => hlt l' (by simp [h])) hS' (hI.set hr hln) inv1 ?_ fun listed' ρ' F' a' hI' inv' hl' hc' => hk listed' ρ' F' a' hI' inv' (fun l' h => ?_) hc'
        · rw [cnt_set hln (by rw [hI.size]; omega) hun]
          rw [List.length_cons] at hc; omega
        · rcases h with h | h
          · exact hl' l' (.inl (getD_set_true h))
          · rcases List.mem_cons.1 h with rfl | h
            · refine hl' l' (.inl ?_)
              have : l' < listed.size := by rw [hI.size]; omega
              simp [this]
            · exact hl' l' (.inr h)
theorem wpAny_of_drawL {L S : List Nat} (hch : Chain P N ops n tmS hS svS exS 0) (hdr : drawLB ops L S n = true) {K : TM → Heap → Prop} (htail : SC P O w0 N ops n (ops.size - n) (tmS n) (hS n) K)
    {Q : Exit → Act → World → Prop} (hQ : ∀ ρ' F' tm' h' a' w', St O w0 N ρ' F' tm' h' a' w' → K tm' h' → Q .normal a' w') :
    ∀ (fuel : Nat) (listed : Array Bool) (ρ : Rho) (F : Nat → Prop) (a : Act) (w : World), HeadInv .any ops n listed → (∀ l ∈ L, listed.getD l false = true) → DInv P O w0 N ops n (tmS 0) hS svS listed ρ F a w → cnt n listed + fuel = ops.size →
      wpAny P .any ops Q fuel listed a w := by
  simp only [drawLB, Bool.and_eq_true, Bool.or_eq_true, decide_eq_true_eq] at hdr
  obtain ⟨⟨⟨⟨⟨⟨⟨hed, hlk⟩, hns⟩, hs⟩, hcb⟩, hsel⟩, hfl⟩, hLn⟩ := hdr
  have hn : n ≤ ops.size := Nat.le_of_lt hns
  have hedge : ∀ j oj, ops[j]? = some oj → ∀ e ∈ oj.after, Region.binds .any e = true → e.on < j := fun j oj h e he hb => edgesB_spec hed h he hb
  have hfin : ∀ (fuel : Nat) (listed : Array Bool) (ρ : Rho) (F : Nat → Prop) (a : Act) (w : World), HeadInv .any ops n listed → DInv P O w0 N ops n (tmS 0) hS svS listed ρ F a w → cnt n listed + fuel = ops.size →
      (∀ i, i < n → listed.getD i false = true) → wpAny P .any ops Q fuel listed a w := by
    intro fuel listed ρ F a w hI inv hc hall
    have hst := inv.st hch hall
    have hf : fuel = ops.size - n := by have := cnt_all hall; omega
    have hops := htail ρ F a w Q hst hQ
    rw [← hf] at hops
    refine wpAny_of_wpOps n hcb fuel n listed a w (by omega) (Nat.le_refl _) hI.size hI.tail (fun t ht => ?_) hedge hops
    have h1 := hall t ht
    have h2 : t < listed.size := by rw [hI.size]; omega
    simp [h2] at h1 ⊢; exact h1
  intro fuel
  induction fuel with
  | zero =>
    intro listed ρ F a w hI hLl inv hc
    refine hfin 0 listed ρ F a w hI inv hc fun i hi => ?_
    cases h : listed.getD i false with
    | true => rfl
    | false => have := cnt_lt hi h; omega
  | succ fuel ih =>
    intro listed ρ F a w hI hLl inv hc
    by_cases hall : ∀ i, i < n → listed.getD i false = true
    · exact hfin _ listed ρ F a w hI inv hc hall
    · have hex : ∃ i, i < n ∧ listed.getD i false = false ∧ ∀ j, j < i → listed.getD j false = true := by
        have key : ∀ m, (∃ i, i < m ∧ i < n ∧ listed.getD i false = false) → ∃ i, i < n ∧ listed.getD i false = false ∧ ∀ j, j < i → listed.getD j false = true := by
          intro m
          induction m with
          | zero => rintro ⟨i, h, _⟩; omega
          | succ m ihm =>
            rintro ⟨i, h1, h2, h3⟩
            by_cases hlow : ∃ i', i' < m ∧ i' < n ∧ listed.getD i' false = false
            · exact ihm hlow
            · refine ⟨i, h2, h3, fun j hj => ?_⟩
              cases hb : listed.getD j false with
              | true => rfl
              | false => exact absurd ⟨j, by omega, by omega, hb⟩ hlow
        refine key n (Classical.byContradiction fun hno => hall fun i hi => ?_)
        cases hb : listed.getD i false with
        | true => rfl
        | false => exact absurd ⟨i, hi, hi, hb⟩ hno
      obtain ⟨m, hm, hmu, hml⟩ := hex
      have hmr : m ∈ Region.ready .any ops listed := by
        have hms : m < ops.size := by omega
        refine mem_ready.2 ⟨getD_in (by rw [hI.size]; exact hms) hmu, ops[m], by simp [hms], fun e he hb => hml _ (hedge m _ (by simp [hms]) e he hb)⟩
      refine ⟨fun h0 => (by rw [h0] at hmr; cases hmr), fun i hi => ?_⟩
      have hin : i < n := by
        rcases Nat.lt_or_ge i n with h | h
        · exact h
        · exact absurd hi (tail_waitsL hs hcb hns hI hLl _ m rfl hm (getD_in (by rw [hI.size]; omega) hmu) i h)
      have hun := (mem_ready.1 hi).1
      refine inv.next hch hlk hI.size hn hin hi fun ρ' F' a' w' inv' => ih _ ρ' F' a' w' (hI.set hi hin) (fun l hl => getD_set_true (hLl l hl)) inv' ?_
      rw [cnt_set hin (by rw [hI.size]; omega) (getD_both hun)]
      omega
end
/-- A region: n quiet operations in whatever order, of which those of `L` may also come later, then the others, one behind the other. -/
theorem wpAny_drawsL {P : Program} {O : Nat → Prop} {w0 : Ctx} {N : Nat} {ops : Array Oper} {L S : List Nat} (n : Nat) (hdr : drawLB ops L S n = true) {tm : TM} {h : Heap} {K : TM → Heap → Prop}
    (hq : QC P N ops 0 n tm h (fun tm' h' => SC P O w0 N ops n (ops.size - n) tm' h' K)) {ρ : Rho} {F : Nat → Prop} {a : Act} {w : World} (hst : St O w0 N ρ F tm h a w) (hint : ∀ t ∈ S, ∃ x, tm.get t = .int .i64 x)
    {Q : Exit → Act → World → Prop} (hnp : ∀ c a w, ¬ Q (.panic c) a w) (hQ : ∀ ρ' F' tm' h' a' w', St O w0 N ρ' F' tm' h' a' w' → K tm' h' → Q .normal a' w') : wpAny P .any ops Q ops.size (Array.replicate ops.size false) a { w with drawn := w.drawn + 1 } := by
  obtain ⟨tmS, hS, svS, exS, e1, e2, hch, hk⟩ := QC.chain n 0 tm h hq
  rw [Nat.zero_add] at hch hk
  have hlen : h.length ≤ (hS n).length := by rw [← e2]; exact hch.len 0 n (Nat.zero_le _) (Nat.le_refl _)
  obtain ⟨e3, he3⟩ := hch.pre 0 n (Nat.zero_le _) (Nat.le_refl _)
  have hI0 : HeadInv .any ops n (Array.replicate ops.size false) := ⟨by simp, fun j oj hj hl => (by rw [getD_replicate_false] at hl; cases hl), fun t _ ht => (by simp [ht])⟩
  have hc0 : cnt n (Array.replicate ops.size false) = 0 := by
    unfold cnt
    rw [List.countP_eq_zero]
    intro i _
    rw [getD_replicate_false]
    simp
  have inv0 : DInv P O w0 N ops n (tmS 0) hS svS (Array.replicate ops.size false) ρ F a { w with drawn := w.drawn + 1 } := by
    refine ⟨?_, fun i hi _ id h1 _ => ?_, fun id h1 => hst.free id (by omega), hst.defers.next rfl (fun D e => e), hst.size, fun i o d _ hl => ?_, fun t _ => ?_, ?_, hst.rno, hst.fno, hst.ext0⟩
    · have hs : Sat ρ O F (hS 0) w := by rw [e2]; exact hst.sat
      refine Sat.heap (w := w) rfl ⟨fun id r ri h1 h2 => ?_, fun id id' r r' ri ri' h1 h1' h2 h2' => ?_, hs.lt⟩
      · have hid : id < h.length := by
          rcases Nat.lt_or_ge id h.length with h' | h'
          · exact h'
          · rw [hst.free id h'] at h2; cases h2
        rw [he3, List.getElem?_append_left (by rw [e2]; exact hid)] at h1
        exact hs.row id r ri h1 h2
      · have hid : id < h.length := by
          rcases Nat.lt_or_ge id h.length with h' | h'
          · exact h'
          · rw [hst.free id h'] at h2; cases h2
        have hid' : id' < h.length := by
          rcases Nat.lt_or_ge id' h.length with h' | h'
          · exact h'
          · rw [hst.free id' h'] at h2'; cases h2'
        rw [he3, List.getElem?_append_left (by rw [e2]; exact hid)] at h1
        rw [he3, List.getElem?_append_left (by rw [e2]; exact hid')] at h1'
        exact hs.inj id id' r r' ri ri' h1 h1' h2 h2'
    · have := hch.len 0 i (Nat.zero_le _) (by omega)
      rw [e2] at this
      exact hst.free id (by omega)
    · rw [getD_replicate_false] at hl; cases hl
    · rw [e1]; exact VRel.heap (w := w) (w' := { w with drawn := w.drawn + 1 }) rfl (hst.rel t)
    · exact hst.keep.heap rfl rfl rfl rfl
  have hdr' := hdr
  simp only [drawLB, Bool.and_eq_true, decide_eq_true_eq] at hdr'
  obtain ⟨⟨⟨⟨⟨⟨⟨hed, hlk⟩, hns⟩, hs⟩, hcb⟩, hsel⟩, hfl⟩, hLn⟩ := hdr'
  have hLn' : ∀ l ∈ L, l < n := fun l hl => by simpa using List.all_eq_true.1 hLn l hl
  have hlen' : L.length ≤ ops.size := by
    have key : ∀ (L S : List Nat) (listed : Array Bool), listed.size = ops.size → HeadInv .any ops n listed → flB ops L listed S = true → (∀ l ∈ L, l < n) → cnt n listed + L.length ≤ n := by
      intro L
      induction L with
      | nil => intro S listed _ _ _ _; simpa using cnt_le n listed
      | cons l L ih =>
        intro S listed hz hI hf hL
        unfold flB at hf
        cases ho : (ops[l]?).bind (flStep S) with
        | none => simp [ho] at hf
        | some S' =>
          rw [ho] at hf
          simp only [Bool.and_eq_true] at hf
          obtain ⟨⟨_, hrd⟩, hrest⟩ := hf
          have hr : l ∈ Region.ready .any ops listed := by simpa using hrd
          have hl := hL l (by simp)
          have hun := getD_both (mem_ready.1 hr).1
          have := ih S' _ (by simp [hz]) (hI.set hr hl) hrest fun l' h => hL l' (by simp [h])
          rw [cnt_set hl (by omega) hun] at this
          rw [List.length_cons]; omega
    have := key L S _ (by simp) hI0 hfl hLn'
    omega
  have hS0 : IntT S a := fun t ht => by
    obtain ⟨x, hx⟩ := hint t ht
    have := hst.rel t
    rw [hx] at this
    generalize hv : a.tmps.getD t undef = v at this
    cases this
    exact ⟨x, rfl⟩
  have := take_all (fuel := ops.size - L.length) hnp hch hlk (Nat.le_of_lt hns) hsel L S _ ρ F a hfl hLn' hS0 hI0 inv0 (by omega) fun listed' ρ' F' a' hI' inv' hl' hc' =>
    wpAny_of_drawL hch hdr hk hQ _ listed' ρ' F' a' _ hI' (fun l hl => hl' l (.inr hl)) inv' hc'
  rwa [Nat.sub_add_cancel hlen'] at this
section
variable {P : Program} {tab : Tab} {O : Nat → Prop} {w0 : Ctx} {N : Nat} {tm : TM} {h : Heap} {Q : Exit → TM → Heap → Prop} {id : Nat} {ops : Array Oper}
theorem IW.region_drawL (hT : TabOk P tab) (hmix : P.follows .mixedOrders = true) (D : List (Option Nat)) (n : Nat) (L S : List Nat) (hdr : drawLB ops L S n = true) (hN : dstB N ops D = true) (hint : ∀ t ∈ S, ∃ x, tm.get t = .int .i64 x)
    (he : ∀ (Xq Xs : XT) (K : TM → Heap → Prop), XQ P tab ops D Xq → XS P O w0 N tab ops D Xs → (∀ tm h, Q .normal tm h → K tm h) → ∀ K1 : TM → Heap → Prop, (∀ tm' h', E tab D Xs (ops.toList.drop n) tm' h' K → K1 tm' h') → E tab D Xq (ops.toList.take n) tm h K1) : IW P O w0 N (.region id ops true) tm h Q := by
  intro ρ F a w hst
  have hn : n ≤ ops.size := by simp only [drawLB, Bool.and_eq_true, decide_eq_true_eq] at hdr; exact Nat.le_of_lt hdr.1.1.1.1.1.2
  have h1 := E_QC hT hN (ops.toList.take n) 0 tm h _ (fun j o e => by
    have hj : j < n := by have := (List.getElem?_eq_some_iff.1 e).1; simp at this; omega
    rw [List.getElem?_take_of_lt hj] at e
    simpa using e) (he _ _ (Q .normal) (XQ0_ok hT hN) (XS0_ok (O := O) (w0 := w0) hT hN) (fun _ _ h => h) _ (fun _ _ h => h))
  have hl : (ops.toList.take n).length = n := by simp; omega
  rw [hl] at h1
  have key : ∀ (k i : Nat) (tm : TM) (h : Heap) (K K' : TM → Heap → Prop), (∀ tm h, K tm h → K' tm h) → QC P N ops i k tm h K → QC P N ops i k tm h K' := by
    intro k
    induction k with
    | zero => intro i tm h K K' hk hq; exact hk _ _ hq
    | succ k ih => intro i tm h K K' hk hq; obtain ⟨o, sv, ext, a1, a2, a3, a4⟩ := hq; exact ⟨o, sv, ext, a1, a2, a3, ih _ _ _ _ _ hk a4⟩
  have h3 := key n 0 tm h _ (fun tm' h' => SC P O w0 N ops n (ops.size - n) tm' h' (Q .normal)) (fun tm' h' he' => by
    have h2 := E_SC hT hN (ops.toList.drop n) n tm' h' (Q .normal) (fun j o e => by rw [List.getElem?_drop] at e; simpa using e) he'
    rw [List.length_drop, Array.length_toList] at h2
    exact h2) h1
  exact wp_region_any hmix (wpAny_drawsL n hdr h3 hst hint (fun c a w h => h) fun ρ' F' tm' h' a' w' hst' hk => ⟨ρ', F', tm', h', hst', hk⟩)
end
end Go.IL

set_option linter.unusedVariables false
set_option linter.unusedSimpArgs false
namespace Go.IL
open Go.RowKit
variable {P : Program} {tab : Tab}
/-- An array of parts. -/
theorem opB_buildArr (hT : TabOk P tab) {dst : Option Nat} {T e ty : TypeId} {n : Nat} {parts : Array (Nat × Operand)} {pos : String} {after : Array Edge} {guard : Option (Nat × Bool)} {g : Operand → SV} {h : Heap} (hsh : (tab T).shape = .array n e) (hty : hasTy (tab e)) (fs : List (Nat × Nat × Bool))
    (hfs : ∀ i, i < fs.length → (fs.getD i (0, 0, false)).1 = i * (tab e).size ∧ (fs.getD i (0, 0, false)).2.1 = (tab e).size) (ho : bldO fs (tab T).size (parts.toList.map fun p => (p.1, g p.2))) :
    OpB P ⟨dst, .build T parts, ty, pos, after, guard⟩ g h (.agg (bldV fs (parts.toList.map fun p => (p.1, g p.2)) (tab T).zero)) [] := by
  refine opB_ok fun ρ O F w a hs hv => ?_
  have hF := hT.ty (T := T) (by rw [hsh])
  have hE := hT.ty (T := e) hty
  obtain ⟨z, hz, hzr⟩ := hF.zeroValue
  obtain ⟨i, ze, hi, hisz, _⟩ := hE.info
  have hu : P.underlying T = some (.array n e) := by
    have h1 := hF.shape
    unfold shapeOk at h1
    rw [hsh] at h1
    cases hu : P.underlying T with
    | none => rw [hu] at h1; cases h1
    | some d =>
      rw [hu] at h1
      cases d <;> simp only [] at h1 <;> try (cases h1; done)
      case array n' e' =>
        simp only [Bool.and_eq_true, beq_iff_eq] at h1
        rw [h1.1, h1.2]
  have hcz : CRel ρ O F w (tab T).zero z.cells := zero_rel hz
  obtain ⟨r, hf, hcr⟩ := fill_rel (ρ := ρ) (O := O) (F := F) (w := w) (fun k => some (k * i.size, i.size)) fs (fun f hf => by rw [(hfs f hf).1, (hfs f hf).2, hisz]) (parts.toList.map fun p => (p.1, g p.2)) ((parts.map fun p => (p.1, a.eval p.2)).toList) _ _ hcz (by simp) (fun k p q e1 e2 => by
    simp only [Array.toList_map, List.getElem?_map] at e1 e2
    cases hp : parts.toList[k]? with
    | none => rw [hp] at e1; cases e1
    | some pr =>
      rw [hp] at e1 e2
      cases e1; cases e2
      exact ⟨rfl, hv pr.2 (by
        simp only [Op.operands]
        simp only [List.mem_toArray, List.mem_map]
        exact ⟨pr, List.mem_of_getElem? hp, rfl⟩)⟩) (by rw [hF.zlen]; exact ho)
  refine ⟨.agg r, ?_, .agg _ _ hcr.1 hcr.2⟩
  simp only [execOp]
  refine run_v ?_
  simp only [Instr.build]
  rw [run_bind, hzr]
  simp only []
  rw [run_bind, run_underlying' hu]
  simp only []
  rw [run_bind, run_sizeOf' hi]
  simp only []
  rw [hf]
  rfl
end Go.IL

set_option linter.unusedVariables false
set_option linter.unusedSimpArgs false
namespace Go.IL
open Go.RowKit
open Go.ChangeMaps (setBlock)
/-- A map of ints in which each key is marked. -/
def mkeys (ks : List Int) : List (List SV) := ks.map fun k => [.int .i64 k, .bool true]
/-- A key more. -/
def markIns (ks : List Int) (n : Int) : List Int := bif ks.any (· == n) then ks else ks ++ [n]
theorem mkeys_ne {n : Int} : ∀ (ks : List Int), ks.any (· == n) = false → keysNe n (mkeys ks) = true
  | [], _ => rfl
  | k :: r, h => by
    simp only [List.any_cons, Bool.or_eq_false_iff] at h
    show (k != n && keysNe n (mkeys r)) = true
    rw [mkeys_ne r h.2]
    simp only [Bool.and_true, bne, h.1]; rfl
theorem mkeys_nomap : ∀ ks : List Int, nomapLL (mkeys ks) = true
  | [] => rfl
  | k :: r => by show (nomapL [SV.int .i64 k, SV.bool true] && nomapLL (mkeys r)) = true; rw [mkeys_nomap r]; rfl
theorem mkeys_len (ks : List Int) : (mkeys ks).length = ks.length := by simp [mkeys]
/-- What an entry of such a map is. -/
def MarkE (es : List MapEntry) (ks : List Int) (b : Nat) : Prop := es = ((List.range' b ks.length).zip ks).map fun p => ⟨.int .i64 p.2, .bool true, p.1⟩
theorem mark_find (n : Int) : ∀ (ks : List Int) (es : List MapEntry) (i : Nat), es.length = ks.length → (∀ j, (hj : j < ks.length) → ∃ c, es[j]? = some ⟨.int .i64 ks[j], .bool true, c⟩) →
    (ks.any (· == n) = false ∧ Instr.findNow (.int .i64) (.int .i64 n) es i = some none) ∨ (ks.any (· == n) = true ∧ ∃ j, ∃ c, es[j]? = some ⟨.int .i64 n, .bool true, c⟩ ∧ Instr.findNow (.int .i64) (.int .i64 n) es i = some (some (i + j, .bool true)))
  | [], [], i, _, _ => .inl ⟨rfl, rfl⟩
  | [], _ :: _, i, h, _ => by simp at h
  | _ :: _, [], i, h, _ => by simp at h
  | k :: ks, e :: es, i, hl, h => by
    obtain ⟨c, hc⟩ := h 0 (by simp)
    simp at hc
    subst hc
    by_cases d : k = n
    · subst d
      refine .inr ⟨by simp, 0, c, rfl, ?_⟩
      unfold Instr.findNow
      simp [Instr.sameNow]
    · have hd : (n == k) = false := by simp; exact fun e => d e.symm
      have hd' : (k == n) = false := by simpa using d
      have e2 : Instr.findNow (.int .i64) (.int .i64 n) (⟨.int .i64 k, .bool true, c⟩ :: es) i = Instr.findNow (.int .i64) (.int .i64 n) es (i + 1) := by
        conv => lhs; unfold Instr.findNow
        simp [Instr.sameNow, hd]
      have e3 : (k :: ks).any (· == n) = ks.any (· == n) := by simp [hd']
      rw [e2, e3]
      rcases mark_find n ks es (i + 1) (by simpa using hl) (fun j hj => by obtain ⟨c, hc⟩ := h (j + 1) (Nat.succ_lt_succ hj); exact ⟨c, by simpa using hc⟩) with h1 | ⟨h1, j, c', h2, h3⟩
      · exact .inl h1
      · exact .inr ⟨h1, j + 1, c', by simpa using h2, by rw [h3]; congr 3; omega⟩
theorem St.dropM {O : Nat → Prop} {w0 : Ctx} {N : Nat} {ρ : Rho} {F : Nat → Prop} {tm : TM} {h : Heap} {a : Act} {w : World} (hst : St O w0 N ρ F tm h a w) {t : Nat} {sv : SV} (e : tm.get t = sv) : St O w0 N ρ F ((t, sv) :: IL.dropM tm) h a w := by
  refine ⟨hst.sat, hst.defers, hst.size, fun u => ?_, hst.keep, hst.free, hst.rno, hst.fno, hst.ext0⟩
  simp only [TM.get]
  by_cases c : t = u
  · rw [if_pos c, ← e, ← c]; exact hst.rel t
  · rw [if_neg c, dropM_get]
    cases (tm.get u).nomap with
    | true => exact hst.rel u
    | false => exact .any _
section
variable {P : Program} {tab : Tab} {ops : Array Oper} {O : Nat → Prop} {w0 : Ctx} {N : Nat}
theorem mark_rows {ρ : Rho} {F : Nat → Prop} {w : World} {ks : List Int} {es : Array MapEntry} {cs : Nat → Nat → Value} (hsz : es.size = (mkeys ks).length) (he : ∀ i, i < (mkeys ks).length → es[i]? = some ⟨cs i 0, cs i 1, i⟩)
    (hh2 : ∀ i j x y, (mkeys ks)[i]? = some x → x[j]? = some y → VRel ρ O F w y (cs i j)) : ∀ j, (hj : j < ks.length) → ∃ c, es.toList[j]? = some ⟨.int .i64 ks[j], .bool true, c⟩ := by
  intro j hj
  have h0 : (mkeys ks)[j]? = some [.int .i64 ks[j], .bool true] := by simp [mkeys, hj]
  have h1 := hh2 j 0 _ _ h0 rfl
  have h2 := hh2 j 1 _ _ h0 rfl
  have h3 := he j (by rw [mkeys_len]; exact hj)
  generalize cs j 0 = a at *
  generalize cs j 1 = b at *
  cases h1
  cases h2
  exact ⟨j, by simpa using h3⟩
/-- m[k] = true -/
theorem opS_mark {T kt et ty : TypeId} {pos : String} {after : Array Edge} {tm : TM} {h : Heap} {t : Nat} {k x : Operand} {n : Int} {ks : List Int} (hm : tm.get t = .mp false (mkeys ks)) (hk : opnd tm k = .int .i64 n) (hx : opnd tm x = .bool true)
    (hu : P.underlying T = some (.map kt et)) (hkt : P.underlying kt = some (.int .i64)) (hh : nomapH h = true) (ht : t < N) :
    OpS P O w0 N ⟨none, .insert T (.tmp t) k x, ty, pos, after, none⟩ tm h ((t, .mp false (mkeys (markIns ks n))) :: dropM tm) h := by
  cases c : ks.any (· == n) with
  | false =>
    have h1 := opS_insert (O := O) (w0 := w0) (N := N) (ty := ty) (pos := pos) (after := after) (x := x) hm hk (by rw [hx]; rfl) hu hkt (mkeys_ne ks c) hh (mkeys_nomap ks) ht
    have e : markIns ks n = ks ++ [n] := by simp [markIns, c]
    rw [e]
    rw [hx] at h1
    have e2 : mkeys (ks ++ [n]) = mkeys ks ++ [[.int .i64 n, .bool true]] := by simp [mkeys]
    rw [e2]
    exact h1
  | true =>
    have e : markIns ks n = ks := by simp [markIns, c]
    rw [e]
    intro ρ F a w hst next Q hn
    have hst0 := hst
    have hvm := hst.rel t
    have hvk := opnd_rel (a := a) k (fun t _ => hst.rel t)
    have hvx := opnd_rel (a := a) x (fun t _ => hst.rel t)
    rw [hm] at hvm
    rw [hk] at hvk
    rw [hx] at hvx
    generalize ham : a.tmps.getD t undef = vm at hvm
    generalize hak : a.eval k = vk at hvk
    generalize hax : a.eval x = vx at hvx
    cases hvk
    cases hvx
    cases hvm with
    | mp _ _ b es cs hb hw hk2 hsz he hh2 =>
      rcases mark_find n ks es.toList 0 (by rw [Array.length_toList, hsz, mkeys_len]) (mark_rows hsz he hh2) with ⟨h1, _⟩ | ⟨_, j, c', h2, h3⟩
      · rw [c] at h1; cases h1
      have h2' : es[j]? = some ⟨.int .i64 n, .bool true, c'⟩ := by simpa using h2
      have hmod : (es.modify j fun e => { e with key := .int .i64 n, val := .bool true }) = es := by
        apply Array.ext_getElem?
        intro i
        rw [Array.getElem?_modify]
        by_cases ci : j = i
        · subst ci; simp [h2']
        · simp [ci]
      have hrun : (Instr.mapUpdate T (.map (some b)) (.int .i64 n) (.bool true)).run P w = .ok () (setBlock w b (.map es (mkeys ks).length)) := by
        simp only [Instr.mapUpdate]
        rw [run_bind, run_underlying' hu]
        simp only []
        rw [run_bind, run_gom hw]
        simp only []
        rw [run_bind, run_checkKey_int hkt]
        simp only []
        rw [run_bind]
        unfold Instr.findKey
        rw [run_bind, run_underlying' hkt]
        simp only [h3, run_pure, Nat.zero_add]
        rw [h2']
        simp only [Option.map_some, Option.getD_some]
        rw [run_bind]
        have hstay : (Instr.keyThatStays (.int .i64 n) (.int .i64 n)).run P w = .ok (.int .i64 n) w := by simp [Instr.keyThatStays, Instr.sameBits]
        rw [hstay]
        simp only []
        rw [hmod, run_som _ hw]
        rfl
      have hself : setBlock w b (.map es (mkeys ks).length) = w := by
        have hlt := (Array.getElem?_eq_some_iff.1 hw)
        obtain ⟨hlt, hge⟩ := hlt
        have : w.heap.setIfInBounds b (.map es (mkeys ks).length) = w.heap := by
          apply Array.ext_getElem?
          intro i
          by_cases ci : b = i
          · subst ci; rw [Array.getElem?_setIfInBounds_self_of_lt hlt, hw]
          · rw [Array.getElem?_setIfInBounds_ne ci]
        simp only [setBlock, this]
      have hexec : (execOp a.eval ⟨none, .insert T (.tmp t) k x, ty, pos, after, none⟩).run P w = .ok .skip w := by
        simp only [execOp, hak, hax]
        rw [show a.eval (.tmp t) = .map (some b) from ham, run_bind, hrun, hself]
        rfl
      simp only [Oper.wp, hexec, Oper.upon]
      exact hn ρ F (a.put none undef) w (hst0.dropM hm)
end
end Go.IL

set_option linter.unusedVariables false
set_option linter.unusedSimpArgs false
namespace Go.IL
section
variable {α : Type}
theorem mid_get (d : α) (P S : List α) (x : α) : (P ++ x :: S).getD P.length d = x := by
  rw [List.getD_eq_getElem?_getD, List.getElem?_append_right (Nat.le_refl _), Nat.sub_self]; rfl
theorem mid_set (P S : List α) (x y : α) : (P ++ x :: S).set P.length y = P ++ y :: S := by
  rw [List.set_append_right _ _ (Nat.le_refl _), Nat.sub_self]; rfl
/-- i places of two stretches of a list have been swapped. -/
def swpS (A X Z Y R : List α) (i : Nat) : List α := A ++ (Y.take i ++ X.drop i) ++ Z ++ (X.take i ++ Y.drop i) ++ R
theorem swpS_length (A X Z Y R : List α) (i : Nat) : (swpS A X Z Y R i).length = A.length + X.length + Z.length + Y.length + R.length := by
  simp only [swpS, List.length_append, List.length_take, List.length_drop]; omega
theorem swpS_zero (A X Z Y R : List α) : swpS A X Z Y R 0 = A ++ X ++ Z ++ Y ++ R := by simp [swpS]
theorem swpS_end {A X Z Y R : List α} (h : X.length = Y.length) : swpS A X Z Y R X.length = A ++ Y ++ Z ++ X ++ R := by
  simp only [swpS, List.take_length, List.drop_length]
  rw [h, List.take_length, List.drop_length]; simp
theorem swpS_split (d : α) {A X Z Y R : List α} {i : Nat} (h : X.length = Y.length) (hi : i < X.length) : ∃ P Q S : List α, P.length = A.length + i ∧ (P ++ X.getD i d :: Q).length = A.length + X.length + Z.length + i ∧ swpS A X Z Y R i = P ++ X.getD i d :: (Q ++ Y.getD i d :: S) ∧ swpS A X Z Y R (i + 1) = P ++ Y.getD i d :: (Q ++ X.getD i d :: S) := by
  have x1 : X.drop i = X.getD i d :: X.drop (i + 1) := by rw [List.drop_eq_getElem_cons hi]; simp [hi]
  have y1 : Y.drop i = Y.getD i d :: Y.drop (i + 1) := by rw [List.drop_eq_getElem_cons (by omega)]; simp [show i < Y.length by omega]
  have x2 : X.take (i + 1) = X.take i ++ [X.getD i d] := by rw [List.take_add_one]; simp [hi]
  have y2 : Y.take (i + 1) = Y.take i ++ [Y.getD i d] := by rw [List.take_add_one]; simp [show i < Y.length by omega]
  refine ⟨A ++ Y.take i, X.drop (i + 1) ++ Z ++ X.take i, Y.drop (i + 1) ++ R, ?_, ?_, ?_, ?_⟩
  · simp; omega
  · simp; omega
  · simp only [swpS, x1, y1, List.append_assoc, List.cons_append]
  · simp only [swpS, x2, y2, List.append_assoc, List.cons_append, List.nil_append]
theorem swpS_at (d : α) {A X Z Y R : List α} {i : Nat} (h : X.length = Y.length) (hi : i < X.length) : (swpS A X Z Y R i).getD (A.length + i) d = X.getD i d ∧ (swpS A X Z Y R i).getD (A.length + X.length + Z.length + i) d = Y.getD i d := by
  obtain ⟨P, Q, S, h1, h2, h3, h4⟩ := swpS_split d (A := A) (Z := Z) (R := R) h hi
  rw [h3]
  constructor
  · rw [← h1]; exact mid_get d _ _ _
  · rw [← h2, ← List.cons_append, ← List.append_assoc]; exact mid_get d _ _ _
/-- The first place is written first. -/
theorem swpS_set (d : α) {A X Z Y R : List α} {i : Nat} (h : X.length = Y.length) (hi : i < X.length) : ((swpS A X Z Y R i).set (A.length + i) (Y.getD i d)).set (A.length + X.length + Z.length + i) (X.getD i d) = swpS A X Z Y R (i + 1) := by
  obtain ⟨P, Q, S, h1, h2, h3, h4⟩ := swpS_split d (A := A) (Z := Z) (R := R) h hi
  rw [h3, h4, ← h1, mid_set]
  have e : (P ++ Y.getD i d :: Q).length = A.length + X.length + Z.length + i := by rw [← h2]; simp
  rw [← e, ← List.cons_append, ← List.append_assoc, mid_set]
  simp
end
end Go.IL

set_option linter.unusedVariables false
set_option linter.unusedSimpArgs false
namespace Go.IL
open Go.RowKit
section
variable {P : Program} {tab : Tab} {ops : Array Oper} {O : Nat → Prop} {w0 : Ctx} {N : Nat} {D : List (Option Nat)}
/-- Two temporaries hold the same value. -/
def Same (d t : Nat) (a : Act) : Prop := a.tmps.getD d undef = a.tmps.getD t undef
def SCA (P : Program) (O : Nat → Prop) (w0 : Ctx) (N : Nat) (d t : Nat) (ops : Array Oper) (i k : Nat) (tm : TM) (h : Heap) (K : TM → Heap → Prop) : Prop :=
  ∀ (ρ : Rho) (F : Nat → Prop) (a : Act) (w : World) (Q : Exit → Act → World → Prop), St O w0 N ρ F tm h a w → Same d t a →
    (∀ ρ' F' tm' h' a' w', St O w0 N ρ' F' tm' h' a' w' → K tm' h' → Q .normal a' w') → wpOps P ops Q (List.range' i k) a w
theorem SCA.quiet {d t i k : Nat} {tm : TM} {h : Heap} {K : TM → Heap → Prop} {o : Oper} {sv : SV} {ext : Heap} (ho : ops[i]? = some o) (hd : ∀ d, o.dst = some d → d < N) (hn1 : o.dst ≠ some d) (hn2 : o.dst ≠ some t) (hg : OpG P ops o tm h sv ext) (hr : SCA P O w0 N d t ops (i + 1) k (tm.put o.dst sv) (h ++ ext) K) : SCA P O w0 N d t ops i (k + 1) tm h K := by
  intro ρ F a w Q hst hs hq
  have hsame : ∀ v, Same d t (a.put o.dst v) := fun v => by
    unfold Same
    rw [Act.put_getD hst.size hd, Act.put_getD hst.size hd, if_neg hn1, if_neg hn2]; exact hs
  have hG := hg ρ O F w a hst.sat (fun t _ => hst.rel t) (fun id h1 _ => hst.free id h1) (wpOps P ops Q (List.range' (i + 1) k)) Q
    (fun v ρ' F' w' hx hid hs hv => hr ρ' F' (a.put o.dst v) w' Q (hst.step hx hs hv hd (fun id hid' => by
      have h1 : ρ id = none := hst.free id (by simp only [List.length_append] at hid'; omega)
      by_cases e : ρ' id = ρ id
      · rw [e]; exact h1
      · have := hid id e
        simp only [List.length_append] at hid'
        omega)) (hsame v) hq)
  rw [List.range'_succ, wpOps_cons]
  unfold wpOp
  simp only [ho]
  split
  · rename_i hw; simp only [hw, if_true] at hG; exact .inl hG
  · rename_i hw; simp only [hw] at hG; exact hG
/-- A move: from then on both hold the same. -/
theorem SCA.start {d t i k : Nat} {tm : TM} {h : Heap} {K : TM → Heap → Prop} {ty : TypeId} {pos : String} {after : Array Edge} (ho : ops[i]? = some ⟨some d, .move (.tmp t), ty, pos, after, none⟩) (hd : d < N) (hne : d ≠ t) (hr : SCA P O w0 N d t ops (i + 1) k (tm.put (some d) (tm.get t)) h K) : SC P O w0 N ops i (k + 1) tm h K := by
  intro ρ F a w Q hst hq
  rw [List.range'_succ, wpOps_cons]
  unfold wpOp
  simp only [ho]
  rw [if_pos (by simp [Region.wanted])]
  refine .inl ?_
  have hexec : (execOp a.eval ⟨some d, .move (.tmp t), ty, pos, after, none⟩).run P w = .ok (.value (a.tmps.getD t undef)) w := rfl
  simp only [Oper.wp, hexec, Oper.upon]
  refine hr ρ F _ w Q (hst.putv (fun d' e => by cases e; exact hd) (hst.rel t)) ?_ hq
  unfold Same
  rw [Act.put_getD hst.size (fun d' e => by cases e; exact hd), Act.put_getD hst.size (fun d' e => by cases e; exact hd), if_pos rfl, if_neg (by simpa using hne)]
theorem wp_upd {T ty : TypeId} {pos : String} {after : Array Edge} {m k x : Operand} {a : Act} {w : World} {next : Act → World → Prop} {Q : Exit → Act → World → Prop} (h : (⟨none, .mapUpdate T m k x, ty, pos, after, none⟩ : Oper).wp P a w next Q) :
    (⟨none, .mapUpdate T m k x, ty, pos, after, none⟩ : Oper).wp P a w (fun a' w' => a' = a ∧ next a' w') Q := by
  have e : execOp a.eval ⟨none, .mapUpdate T m k x, ty, pos, after, none⟩ = (Instr.mapUpdate T (a.eval m) (a.eval k) (a.eval x) >>= fun _ => pure .skip) := rfl
  unfold Oper.wp at *
  rw [e, run_bind] at h ⊢
  cases c : (Instr.mapUpdate T (a.eval m) (a.eval k) (a.eval x)).run P w with
  | ok u w' =>
    rw [c] at h
    simp only [run_pure, Oper.upon] at h ⊢
    exact ⟨rfl, h⟩
  | halt hl w1 =>
    rw [c] at h
    cases hl <;> exact h
theorem wp_and {T ty : TypeId} {pos : String} {after : Array Edge} {m k x : Operand} {a : Act} {w : World} {next : Act → World → Prop} {Q : Exit → Act → World → Prop} (h : (⟨none, .mapUpdate T m k x, ty, pos, after, none⟩ : Oper).wp P a w (fun a' w' => a' = a ∧ (a' = a → next a' w')) Q) :
    (⟨none, .mapUpdate T m k x, ty, pos, after, none⟩ : Oper).wp P a w next Q := by
  have e : execOp a.eval ⟨none, .mapUpdate T m k x, ty, pos, after, none⟩ = (Instr.mapUpdate T (a.eval m) (a.eval k) (a.eval x) >>= fun _ => pure .skip) := rfl
  unfold Oper.wp at *
  rw [e, run_bind] at h ⊢
  cases c : (Instr.mapUpdate T (a.eval m) (a.eval k) (a.eval x)).run P w with
  | ok u w' =>
    rw [c] at h
    simp only [run_pure, Oper.upon] at h ⊢
    exact h.2 h.1
  | halt hl w1 =>
    rw [c] at h
    cases hl <;> exact h
theorem upd_ins {T ty : TypeId} {pos : String} {after : Array Edge} {tm tm' : TM} {h h' : Heap} {m k x : Operand} (hs : OpS P O w0 N ⟨none, .insert T m k x, ty, pos, after, none⟩ tm h tm' h') : OpS P O w0 N ⟨none, .mapUpdate T m k x, ty, pos, after, none⟩ tm h tm' h' := fun ρ F a w hst next Q hn => hs ρ F a w hst next Q hn
/-- m[k] = true through the one; the other holds the same map. -/
theorem SCA.mark {d t i k0 : Nat} {tm : TM} {h : Heap} {K : TM → Heap → Prop} {T kt et ty : TypeId} {pos : String} {after : Array Edge} {k x : Operand} {n : Int} {ks : List Int} (ho : ops[i]? = some ⟨none, .mapUpdate T (.tmp d) k x, ty, pos, after, none⟩) (hm : tm.get d = .mp false (mkeys ks)) (hk : opnd tm k = .int .i64 n) (hx : opnd tm x = .bool true)
    (hu : P.underlying T = some (.map kt et)) (hkt : P.underlying kt = some (.int .i64)) (hh : nomapH h = true) (hd : d < N)
    (hr : SC P O w0 N ops (i + 1) k0 ((t, .mp false (mkeys (markIns ks n))) :: (d, .mp false (mkeys (markIns ks n))) :: dropM tm) h K) : SCA P O w0 N d t ops i (k0 + 1) tm h K := by
  intro ρ F a w Q hst hs hq
  rw [List.range'_succ, wpOps_cons]
  unfold wpOp
  simp only [ho]
  rw [if_pos (by simp [Region.wanted])]
  refine .inl ?_
  have h1 := wp_upd (Q := Q) (upd_ins (opS_mark (O := O) (w0 := w0) (N := N) (ty := ty) (pos := pos) (after := after) hm hk hx hu hkt hh hd) ρ F a w hst (fun a' w' => a' = a → wpOps P ops Q (List.range' (i + 1) k0) a' w') Q fun ρ' F' a' w' hst' ha => ?_)
  · exact wp_and h1
  subst ha
  refine hr ρ' F' a' w' Q ⟨hst'.sat, hst'.defers, hst'.size, fun u => ?_, hst'.keep, hst'.free, hst'.rno, hst'.fno, hst'.ext0⟩ hq
  simp only [TM.get]
  by_cases c : t = u
  · rw [if_pos c, ← c]
    have := hst'.rel d
    simp only [TM.get, if_true] at this
    unfold Same at hs
    rw [← hs]; exact this
  · rw [if_neg c]
    exact hst'.rel u
end
end Go.IL

set_option linter.unusedVariables false
set_option linter.unusedSimpArgs false
namespace Go.IL
open Go.RowKit
section
variable {P : Program} {tab : Tab} {ops : Array Oper} {O : Nat → Prop} {w0 : Ctx} {N : Nat} {D : List (Option Nat)} {d t : Nat} {tm : TM} {h : Heap} {Q : Exit → TM → Heap → Prop} {id : Nat}
theorem SCA.nil {i : Nat} {K : TM → Heap → Prop} (hk : K tm h) : SCA P O w0 N d t ops i 0 tm h K := by
  intro ρ F a w Q hst hs hq
  exact (SC.nil hk : SC P O w0 N ops i 0 tm h K) ρ F a w Q hst hq
def noDst (d t : Nat) (o : Oper) : Bool := o.dst != some d && o.dst != some t
def XSA0 (P : Program) (O : Nat → Prop) (w0 : Ctx) (N : Nat) (ops : Array Oper) (d t : Nat) : XT := fun o r tm h K => ∀ i, Fits ops i (o :: r) → (o :: r).all (noDst d t) = true → SCA P O w0 N d t ops i (r.length + 1) tm h K
/-- What may be done where two temporaries hold the same map. -/
structure XSA (P : Program) (tab : Tab) (N : Nat) (d t : Nat) (X : XT) : Prop where
  mark : ∀ {tm : TM} {h : Heap} {K : TM → Heap → Prop} {T kt et ty : TypeId} {pos : String} {after : Array Edge} {k x : Operand} {n : Int} {ks : List Int}, tm.get d = .mp false (mkeys ks) → opnd tm k = .int .i64 n → opnd tm x = .bool true →
    P.underlying T = some (.map kt et) → P.underlying kt = some (.int .i64) → nomapH h = true → d < N → K ((t, .mp false (mkeys (markIns ks n))) :: (d, .mp false (mkeys (markIns ks n))) :: dropM tm) h → X ⟨none, .mapUpdate T (.tmp d) k x, ty, pos, after, none⟩ [] tm h K
/-- Two ways of a branch come together. -/
theorem IW.joinI {α : Type} {x y : Code} (L : α → TM) (H : α → Heap) (hi : IW P O w0 N x tm h (thn (fun tm h => ∃ a, Ent O w0 N tm h (L a) (H a)) Q)) (hy : ∀ a, IW P O w0 N y (L a) (H a) Q) : IW P O w0 N x tm h (thn (fun tm h => IW P O w0 N y tm h Q) Q) :=
  hi.mono fun e tm h hq => by
    cases e <;> first | exact hq | skip
    obtain ⟨a, ha⟩ := hq
    exact IW.ent ha (hy a)
end
end Go.IL

set_option linter.unusedVariables false
set_option linter.unusedSimpArgs false
namespace Go.IL
open Go.RowKit
section
variable {P : Program} {O : Nat → Prop} {w0 : Ctx} {N : Nat} {ops : Array Oper}
theorem edgesB_lt (he : edgesB ops = true) {i : Nat} {o : Oper} (ho : ops[i]? = some o) {e : Edge} (hm : e ∈ o.after) (hb : Region.binds .any e = true) : e.on < i := by
  have h1 := List.all_eq_true.1 he i (List.mem_range.2 (Array.getElem?_eq_some_iff.1 ho).1)
  simp only [ho] at h1
  have h2 := Array.all_eq_true'.1 h1 e hm
  simpa [hb] using h2
theorem ready_nil {listed : Array Bool} (he : edgesB ops = true) (hsz : listed.size = ops.size) (h : Region.ready .any ops listed = []) : ∀ i, i < ops.size → listed.getD i false = true := by
  intro i
  induction i using Nat.strongRecOn with
  | _ i ih =>
    intro hi
    cases hc : listed.getD i false with
    | true => rfl
    | false =>
      exfalso
      have : i ∈ Region.ready .any ops listed := mem_ready.2 ⟨getD_in (by omega) hc, ops[i], by simp [hi], fun e hm hb => ih e.on (edgesB_lt he (by simp [hi]) hm hb) (Nat.lt_trans (edgesB_lt he (by simp [hi]) hm hb) hi)⟩
      rw [h] at this; cases this
theorem cnt_every {n : Nat} {listed : Array Bool} (h : cnt n listed = n) : ∀ i, i < n → listed.getD i false = true := by
  intro i hi
  have h1 : (List.range n).countP (fun i => listed.getD i false) = (List.range n).length := by rw [List.length_range]; exact h
  exact List.countP_eq_length.1 h1 i (List.mem_range.2 hi)
/-- A region that draws its order: what holds of the temporaries, whatever has been carried out. -/
theorem IW.region_lattice (hmix : P.follows .mixedOrders = true) (hed : edgesB ops = true) {tm : TM} {h : Heap} {Q : Exit → TM → Heap → Prop} {id : Nat} (I : Array Bool → TM → Prop) (h0 : I (Array.replicate ops.size false) tm)
    (hstep : ∀ (listed : Array Bool) (tm : TM) (i : Nat) (o : Oper), listed.size = ops.size → I listed tm → ops[i]? = some o → listed.getD i false = false → (∀ e ∈ o.after, Region.binds .any e = true → listed.getD e.on false = true) → SC P O w0 N ops i 1 tm h (fun tm' h' => h' = h ∧ I (listed.setIfInBounds i true) tm'))
    (hfin : ∀ (listed : Array Bool) (tm : TM), (∀ i, i < ops.size → listed.getD i false = true) → I listed tm → Q .normal tm h) : IW P O w0 N (.region id ops true) tm h Q := by
  intro ρ F a w hst
  refine wp_region_any hmix ?_
  have key : ∀ (fuel : Nat) (listed : Array Bool) (ρ : Rho) (F : Nat → Prop) (tm : TM) (a : Act) (w : World), listed.size = ops.size → cnt ops.size listed + fuel = ops.size → I listed tm → St O w0 N ρ F tm h a w → wpAny P .any ops (lift O w0 N Q) fuel listed a w := by
    intro fuel
    induction fuel with
    | zero =>
      intro listed ρ F tm a w hsz hc hI hst
      have hall := cnt_every (listed := listed) (n := ops.size) (by omega)
      refine ⟨?_, ρ, F, tm, h, hst, hfin listed tm hall hI⟩
      rw [List.eq_nil_iff_forall_not_mem]
      intro i hi
      obtain ⟨hun, o, ho, _⟩ := mem_ready.1 hi
      have h1 := hall i (Array.getElem?_eq_some_iff.1 ho).1
      rw [getD_both hun] at h1; cases h1
    | succ fuel ih =>
      intro listed ρ F tm a w hsz hc hI hst
      refine ⟨fun hr => ⟨ρ, F, tm, h, hst, hfin listed tm (ready_nil hed hsz hr) hI⟩, fun i hi => ?_⟩
      obtain ⟨hun, o, ho, hall⟩ := mem_ready.1 hi
      have hil := (Array.getElem?_eq_some_iff.1 ho).1
      have hs := hstep listed tm i o hsz hI ho (getD_both hun) hall ρ F a w (fun e a w => match e with | .normal => wpAny P .any ops (lift O w0 N Q) fuel (listed.setIfInBounds i true) a w | e => lift O w0 N Q e a w) hst
        (fun ρ' F' tm' h' a' w' hst' hh => by
          obtain ⟨rfl, hI'⟩ := hh
          refine ih _ ρ' F' tm' a' w' (by simp [hsz]) ?_ hI' hst'
          rw [cnt_set hil (by omega) (getD_both hun)]; omega)
      rw [List.range'_succ, wpOps_cons] at hs
      exact hs
  exact key ops.size _ ρ F tm a _ (by simp) (by
    have : cnt ops.size (Array.replicate ops.size false) = 0 := by
      unfold cnt
      rw [List.countP_eq_zero]
      intro i hi
      simp only [List.mem_range] at hi
      simp [hi]
    omega) h0 hst.drew
end
end Go.IL

set_option linter.unusedVariables false
set_option linter.unusedSimpArgs false
namespace Go.IL
open Go.RowKit
section
variable {P : Program} {tab : Tab} {ops : Array Oper} {ρ : Rho} {O F : Nat → Prop} {w : World} {h : Heap} {w0 : Ctx} {N : Nat}
/-- What a call comes to that only reads. -/
def CPost (w : World) (sv : SV) (rows : List Row) (e : Ending) (w' : World) : Prop :=
  ∃ v ρ F, e = .returned v ∧ Below w.heap.size w w' ∧ Sat ρ (fun _ => False) F (rows.map some) w' ∧ (∀ b, F b → w.heap.size ≤ b) ∧ (∀ id ri, ρ id = some ri → w.heap.size ≤ ri.b) ∧
      (∀ id, rows.length ≤ id → ρ id = none) ∧ VRel ρ (fun _ => False) F w' sv v
theorem post_core {dst : Option Nat} {h : Heap} {sv : SV} {rows : List Row} {ρ : Rho} {O F : Nat → Prop} {w w' : World} {a : Act} {e : Ending} (hp : CPost w sv rows e w') (hsat : Sat ρ O F h w)
    (hfree : ∀ id, h.length ≤ id → id < h.length + rows.length → ρ id = none) {next : Act → World → Prop}
    (hn : ∀ v ρ' F' w', e = .returned v → Ext ρ F w ρ' F' w' → (∀ id, ρ' id ≠ ρ id → h.length ≤ id ∧ id < h.length + rows.length) → Sat ρ' O F' (h ++ rows.map fun r => some (r.ren (h.length + ·))) w' → VRel ρ' O F' w' (sv.ren (h.length + ·)) v → next (a.put dst v) w') : ∃ v, e = .returned v ∧ next (a.put dst v) w' := by
    obtain ⟨v, ρc, Fc, he0, hbel, hsc, hfc, hrc, hfreec, hvc⟩ := hp
    have hlt := hsat.lt
    have hρ' : ∀ id ri, ρc id = some ri → (fun id => if h.length ≤ id ∧ id < h.length + rows.length then ρc (id - h.length) else ρ id) (h.length + id) = some ri := fun id ri e => by
      have : id < rows.length := by
        rcases Nat.lt_or_ge id rows.length with h' | h'
        · exact h'
        · rw [hfreec id h'] at e; cases e
      try simp only []
      rw [if_pos (by omega), show h.length + id - h.length = id by omega]
      exact e
    have hx : Ext ρ F w (fun id => if h.length ≤ id ∧ id < h.length + rows.length then ρc (id - h.length) else ρ id) (fun b => F b ∨ Fc b) w' := by
      refine ⟨fun id ri e => ?_, fun id ri e e' => ?_, fun b hb => .inl hb, fun b hb hb' => hfc b (hb.resolve_left hb'), hbel⟩
      · rw [if_neg]
        · exact e
        · rintro ⟨h1, h2⟩
          rw [hfree id h1 h2] at e; cases e
      · try simp only [] at e
        split at e
        · exact hrc _ _ e
        · rw [e'] at e; cases e
    refine ⟨v, he0, hn v _ _ w' he0 hx (fun id e => ?_) ⟨fun id r ri e1 e2 => ?_, fun id id' r r' ri ri' e1 e1' e2 e2' hb => ?_, fun b hb => ?_⟩ ?_⟩
    · try simp only [] at e
      split at e
      · rename_i h1; exact h1
      · exact absurd rfl e
    · try simp only [] at e2
      split at e2
      · rename_i h1
        rw [List.getElem?_append_right h1.1, List.getElem?_map] at e1
        obtain ⟨r0, hr0, he⟩ := Option.map_eq_some_iff.1 e1
        cases he
        have h2 := hsc.row (id - h.length) r0 ri (by rw [List.getElem?_map, hr0]; rfl) e2
        have h3 : RowIn ρc O (fun b => F b ∨ Fc b) w' r0 ri := by
          refine ⟨h2.k, fun ho => by have := hlt _ (.inl ho); have := hrc _ _ e2; omega, fun hf => ?_, h2.wf, ?_⟩
          · rcases hf with hf | hf
            · have := hlt _ (.inr hf); have := hrc _ _ e2; omega
            · exact h2.nf hf
          · obtain ⟨arr, a1, a2, a3, a4⟩ := h2.cells
            refine ⟨arr, a1, a2, a3, fun i j x y b1 b2 => ?_⟩
            obtain ⟨v, c1, c2⟩ := a4 i j x y b1 b2
            exact ⟨v, c1, c2.mono (fun _ _ h => h) fun o b hb => ⟨hb.elim (fun h => .inl (.inr h)) (fun h => h.2.elim), rfl⟩⟩
        exact h3.ren hρ'
      · rename_i h1
        have hid : id < h.length := by
          have := (List.getElem?_eq_some_iff.1 e1).1
          simp at this
          omega
        rw [List.getElem?_append_left hid] at e1
        exact (hsat.row id r ri e1 e2).ext hlt hx
    · try simp only [] at e2 e2'
      have hold : ∀ id r ri, id < h.length → (h ++ rows.map fun r => some (r.ren (h.length + ·)))[id]? = some (some r) → ρ id = some ri → ri.b < w.heap.size := fun id r ri hid e1 e2 => by
        rw [List.getElem?_append_left hid] at e1
        exact (hsat.row id r ri e1 e2).lt
      have hdom : ∀ id r, (h ++ rows.map fun r => some (r.ren (h.length + ·)))[id]? = some (some r) → ¬ (h.length ≤ id ∧ id < h.length + rows.length) → id < h.length := fun id r e1 hn => by
        have := (List.getElem?_eq_some_iff.1 e1).1
        simp at this; omega
      have hrow : ∀ id r, h.length ≤ id → (h ++ rows.map fun r => some (r.ren (h.length + ·)))[id]? = some (some r) → ∃ r0, (rows.map some)[id - h.length]? = some (some r0) := fun id r hid e1 => by
        rw [List.getElem?_append_right hid, List.getElem?_map] at e1
        obtain ⟨r0, hr0, _⟩ := Option.map_eq_some_iff.1 e1
        exact ⟨r0, by rw [List.getElem?_map, hr0]; rfl⟩
      split at e2 <;> split at e2'
      · rename_i h1 h2
        obtain ⟨r0, hr0⟩ := hrow id r h1.1 e1
        obtain ⟨r0', hr0'⟩ := hrow id' r' h2.1 e1'
        have := hsc.inj _ _ r0 r0' ri ri' hr0 hr0' e2 e2' hb
        omega
      · rename_i h1 h2
        have := hrc _ _ e2
        have := hold id' r' ri' (hdom id' r' e1' h2) e1' e2'
        omega
      · rename_i h1 h2
        have := hrc _ _ e2'
        have := hold id r ri (hdom id r e1 h1) e1 e2
        omega
      · rename_i h1 h2
        have d1 := hdom id r e1 h1
        have d2 := hdom id' r' e1' h2
        rw [List.getElem?_append_left d1] at e1
        rw [List.getElem?_append_left d2] at e1'
        exact hsat.inj id id' r r' ri ri' e1 e1' e2 e2' hb
    · have hsz := hbel.size
      rcases hb with hb | hb | hb
      · have := hlt b (.inl hb); omega
      · have := hlt b (.inr hb); omega
      · exact hsc.lt b (.inr hb)
    · refine (hvc.mono (O' := O) (F' := fun b => F b ∨ Fc b) (fun _ _ h => h) fun o b hb => ⟨hb.elim (fun h => .inl (.inr h)) (fun h => h.2.elim), rfl⟩).ren hρ'
/-- A contract whose result is one of many, told by content. -/
def FSpecE {α : Type} (P : Program) (f : FuncId) (args : List SV) (Y : α → Prop) (sv : α → SV) : Prop :=
  Entr P f ∧ ∀ (w : World) (cargs : Array Value), ArgsRel (fun b => b < w.heap.size) w args cargs → Calls P f cargs w fun e w' => ∃ x, Y x ∧ CPost w (sv x) [] e w'
theorem FSpecE.of {α : Type} {f : FuncId} {args : List SV} {Y : α → Prop} {sv : α → SV} {x : α} (hx : Y x) (h : FSpec P f args (sv x) []) : FSpecE P f args Y sv :=
  ⟨h.1, fun w cargs hA => (h.2 w cargs hA).mono fun e w' hp => ⟨x, hx, hp⟩⟩
theorem FSpecE.weak {α : Type} {f : FuncId} {args : List SV} {Y Y' : α → Prop} {sv : α → SV} (h : FSpecE P f args Y sv) (hy : ∀ x, Y x → Y' x) : FSpecE P f args Y' sv :=
  ⟨h.1, fun w cargs hA => (h.2 w cargs hA).mono fun e w' ⟨x, hx, hp⟩ => ⟨x, hy x hx, hp⟩⟩
theorem opN_callE {α : Type} {f : FuncId} {dst : Option Nat} {fo : Operand} {caps : List SV} {args : Array Operand} {ats : Array TypeId} {ty : TypeId} {pos : String} {after : Array Edge} {tm : TM} {h : Heap} {svs : List SV} {Y : α → Prop} {sv : α → SV}
    (hf : opnd tm fo = .clo f caps) (hargs : (args.toList.map fun x => rei 4 h (opnd tm x)) ++ caps.map (rei 4 h) = svs) (hs : FSpecE P f svs Y sv) (hd : ∀ d, dst = some d → d < N) :
    OpN P O w0 N ⟨dst, .call ⟨.value fo, args, ats⟩, ty, pos, after, none⟩ tm h Y (fun x => (tm.put dst ((sv x).ren (h.length + ·)), h)) := by
  intro ρ F a w hst next Q hn
  have hfo := opnd_rel (a := a) fo (fun t _ => hst.rel t)
  rw [hf] at hfo
  generalize hfv : a.eval fo = fv at hfo
  cases hfo with
  | clo _ _ vs hl hh =>
    have hexec : (execOp a.eval ⟨dst, .call ⟨.value fo, args, ats⟩, ty, pos, after, none⟩).run P w = .ok (.enter f (args.map a.eval ++ vs)) w := by
      simp only [execOp, resolve, hfv, Deferred.ofValue]
      rw [run_bind, run_pure]
      simp only [invoke, Array.empty_append]
      exact hs.1 _ _
    have hA : ArgsRel (fun b => b < w.heap.size) w svs (args.map a.eval ++ vs) := by
      subst hargs
      refine ⟨by simp [hl], fun i s v e1 e2 => ?_⟩
      rcases Nat.lt_or_ge i args.size with hi | hi
      · rw [List.getElem?_append_left (by simpa using hi), List.getElem?_map] at e1
        obtain ⟨x, hx, rfl⟩ := Option.map_eq_some_iff.1 e1
        have hx' : args[i]? = some x := by simpa using hx
        rw [Array.getElem?_append_left (by simpa using hi), Array.getElem?_map, hx'] at e2
        simp at e2; subst e2
        exact rei_rel hst.sat 4 _ _ (opnd_rel (a := a) x (fun t _ => hst.rel t))
      · rw [List.getElem?_append_right (by simpa using hi)] at e1
        obtain ⟨c', hc', rfl⟩ := map_get e1
        rw [Array.getElem?_append_right (by simpa using hi)] at e2
        exact rei_rel hst.sat 4 _ _ (hh _ c' v (by simpa using hc') (by simpa using e2))
    simp only [Oper.wp, hexec, Oper.upon]
    refine (hs.2 w _ hA).mono fun e w' ⟨x, hx, hp⟩ => ?_
    obtain ⟨v, rfl, hnx⟩ := post_core (dst := dst) (a := a) hp hst.sat (fun id h1 h2 => hst.free id h1) (next := next) fun v ρ' F' w' he hx1 hid hs' hv =>
      hn x hx ρ' F' (a.put dst v) w' (hst.step hx1 (by simpa using hs') hv hd fun id hid' => by
        have h1 : ρ id = none := hst.free id (by simpa using hid')
        by_cases e : ρ' id = ρ id
        · rw [e]; exact h1
        · have := hid id e
          simp at this; omega)
    exact hnx
theorem FSpecE.intro {α : Type} {Y : α → Prop} (hT : TabOk P tab) {f : FuncId} {fn : Func} {c : Code} {rs : List ResultVar} {args : List SV} {sv : α → SV} (hf : P.funcs[f]? = some fn) (hb : fn.body = some c) (hN : fn.ntmps = N) (hr : fn.results.toList = rs)
    (hname : (fn.name == "runtime.NumGoroutine") = false) (hargs : args.length ≤ N) (hw : ∀ w0 : World, IW P (fun b => b < w0.heap.size) { w := w0 } N c (argTM 0 args) [] (fun e tm h => ∃ x, Y x ∧ Fin tab rs (sv x) [] e tm h)) : FSpecE P f args Y sv := by
  refine ⟨enters hf hname (by rw [hb]; rfl), fun w cargs hA => (callsIn_wide (n := 0)).1 (callsIn_of_wp_marks hf hb trivial (wpIn_wide.2 ?_))⟩
  have hst : St (fun b => b < w.heap.size) { w := w } N (fun _ => none) (fun _ => False) (argTM 0 args) [] { tmps := cargs ++ Array.replicate (fn.ntmps - cargs.size) undef, defers := [] } w := by
    refine ⟨⟨fun id r ri e => (by simp at e), fun id id' r r' ri ri' e => (by simp at e), fun b hb => (by simpa using hb)⟩, DefO.nil rfl, ?_, fun t => ?_, Keep.refl _ _, fun _ _ => rfl, fun id ri e => (by cases e), fun b hb => hb.elim, fun id ri e => by cases e⟩
    · have := hA.1; simp; omega
    · rw [argTM_get, if_pos (Nat.zero_le _), Nat.sub_zero]
      cases e : args[t]? with
      | none => exact .any _
      | some s =>
        have ht : t < cargs.size := by rw [← hA.1]; exact (List.getElem?_eq_some_iff.1 e).1
        have e2 : cargs[t]? = some cargs[t] := by simp [ht]
        have := hA.2 t s _ e e2
        simpa [Array.getElem?_append_left ht, ht] using this
  refine wp_mono (hw w _ _ _ _ hst) fun e a w' hl => ?_
  have key : ∀ (x : α), Y x → ∀ ρ F tm h a w', St (fun b => b < w.heap.size) { w := w } N ρ F tm h a w' → FinP tab rs (sv x) [] tm h → ∃ v, (results fn a.tmps).run P w' = .ok v w' ∧
      ∃ x, Y x ∧ ∃ v' ρ F, Ending.returned v = .returned v' ∧ Below w.heap.size w w' ∧ Sat ρ (fun _ => False) F (([] : List Row).map some) w' ∧ (∀ b, F b → w.heap.size ≤ b) ∧ (∀ id ri, ρ id = some ri → w.heap.size ≤ ri.b) ∧
      (∀ id, ([] : List Row).length ≤ id → ρ id = none) ∧ VRel ρ (fun _ => False) F w' (sv x) v' := by
    intro x hx ρ F tm h a w' hst hfin
    obtain ⟨h1, h2, h3, σ, h4, h5, h6, h7⟩ := hfin
    obtain ⟨v, h8, h9⟩ := results_run hT hst hr h1
    obtain ⟨ρ', F', hst'⟩ := Ent.ren (tm' := []) (h' := ([] : List Row).map some) σ (by simpa using h4) h5 trivial h7 (fun id ri e => by cases e) ρ F a w' hst
    refine ⟨v, h8, x, hx, v, fun id => ρ (sg σ h.length id), F, rfl, ⟨hst.keep.os, hst.keep.tape, hst.keep.output, hst.keep.size, hst.keep.block⟩, ?_, fun b hb => ?_, fun id ri e => ?_, fun id hid => ?_, ?_⟩
    · have hinj := List.pairwise_iff_getElem.1 h5
      refine ⟨fun id r ri e1 e2 => ?_, fun id id' r r' ri ri' e1 e1' e2 e2' hb => ?_, fun b hb => hst.sat.lt b (hb.imp False.elim id)⟩
      · have g1 := subH_get h7 id r e1
        rw [Nat.zero_add] at g1
        have g2 := (hst.sat.row _ _ ri g1 e2).unren
        refine ⟨g2.k, fun h => h, g2.nf, g2.wf, ?_⟩
        obtain ⟨arr, a1, a2, a3, a4⟩ := g2.cells
        refine ⟨arr, a1, a2, a3, fun i j x y b1 b2 => ?_⟩
        obtain ⟨v, c1, c2⟩ := a4 i j x y b1 b2
        refine ⟨v, c1, c2.nold ?_⟩
        rw [List.getElem?_map] at e1
        obtain ⟨r0, hr0, he⟩ := Option.map_eq_some_iff.1 e1
        cases he
        exact noldL_get (noldLL_get (rowsNold_get h3 hr0) b1) b2
      · have g1 := subH_get h7 id r e1
        have g2 := subH_get h7 id' r' e1'
        rw [Nat.zero_add] at g1 g2
        have g3 := hst.sat.inj _ _ _ _ ri ri' g1 g2 e2 e2' hb
        have hi : id < σ.length := by rw [h4]; have := (List.getElem?_eq_some_iff.1 e1).1; simp at this
        have hi' : id' < σ.length := by rw [h4]; have := (List.getElem?_eq_some_iff.1 e1').1; simp at this
        simp only [sg, List.getD_eq_getElem?_getD, List.getElem?_eq_getElem hi, List.getElem?_eq_getElem hi', Option.getD_some] at g3
        rcases Nat.lt_trichotomy id id' with g4 | g4 | g4
        · exact absurd g3 (hinj id id' hi hi' g4)
        · exact g4
        · exact absurd g3.symm (hinj id' id hi' hi g4)
    · have := hst.fno b hb; omega
    · have := hst.rno _ ri e; omega
    · refine hst.free _ ?_
      simp only [sg]
      rw [List.getD_eq_getElem?_getD, List.getElem?_eq_none (by omega)]; exact Nat.le_refl _
    · rw [h6] at h9
      exact (h9.unren (sv x) rfl).nold h2
  have fin : ∀ (x : α), Y x → ∀ (ds : List Nat) (ρ : Rho) (F : Nat → Prop) (tm : TM) (h : Heap) (a : Act) (w' : World), St (fun b => b < w.heap.size) { w := w } N ρ F tm h a w' → FinP tab rs (sv x) [] tm h → a.defers = marks ds → ds.Nodup → (∀ D ∈ ds, w.heap.size ≤ D ∧ w'.heap[D]? = some (Obj.deferred (some []))) → LeavesInM Fence.wide 0 P fn a.tmps (fun e w' => ∃ x, Y x ∧ ∃ v ρ F, e = .returned v ∧ Below w.heap.size w w' ∧ Sat ρ (fun _ => False) F (([] : List Row).map some) w' ∧ (∀ b, F b → w.heap.size ≤ b) ∧ (∀ id ri, ρ id = some ri → w.heap.size ≤ ri.b) ∧
      (∀ id, ([] : List Row).length ≤ id → ρ id = none) ∧ VRel ρ (fun _ => False) F w' (sv x) v) (marks ds) .returning w' := by
    intro x hx ds
    induction ds with
    | nil => intro ρ F tm h a w' hst hfin _ _ _; exact key x hx ρ F tm h a w' hst hfin
    | cons D ds ih =>
      intro ρ F tm h a w' hst hfin hd hnd hall
      have h1 := hall D (by simp)
      refine ⟨by simp, .inl ⟨D, _, rfl, run_takeDeferred h1.2, ?_⟩⟩
      have hst2 := hst.dturn h1.2 (by have := h1.1; omega) h1.1 (List.nodup_cons.1 hnd).2 (List.nodup_cons.1 hnd).1 (fun D' h' => hall D' (List.mem_cons_of_mem _ h')) (.deferred none)
      refine ih ρ F tm h { a with defers := marks ds } _ hst2 hfin rfl (List.nodup_cons.1 hnd).2 fun D' h' => ⟨(hall D' (List.mem_cons_of_mem _ h')).1, ?_⟩
      rw [World.putObj_heap_other (by rintro rfl; exact (List.nodup_cons.1 hnd).1 h')]
      exact (hall D' (List.mem_cons_of_mem _ h')).2
  cases e <;> simp only [lift] at hl <;> first | exact hl.elim | skip
  all_goals
    obtain ⟨ρ, F, tm, h, hst, hq⟩ := hl
    obtain ⟨x, hx, hq⟩ := hq
    first | exact hq.elim | (obtain ⟨ds, d1, d2, d3⟩ := hst.defers; show LeavesInM _ _ _ _ _ _ a.defers _ _; rw [d1]; exact fin x hx ds ρ F tm h a w' hst hq d1 d2 d3)
end
end Go.IL

set_option linter.unusedVariables false
set_option linter.unusedSimpArgs false
namespace Go.IL
open Go.RowKit
section
variable {P : Program} {tab : Tab} {O : Nat → Prop} {w0 : Ctx} {N : Nat} {tm : TM} {h : Heap}
/-- What lies in a row is told by content from now on: nobody writes it any more. -/
theorem Ent.freeze {t id n : Nat} {r : Row} (ht : tm.get t = .ref id 0 n) (hr : hrow h id = some r) (hn : n = r.xs.length) : Ent O w0 N tm h ((t, .sl false r.xs) :: tm) (h.set id none) := by
  intro ρ F a w hst
  have hrel := hst.rel t
  rw [ht] at hrel
  generalize hv : a.tmps.getD t undef = v at hrel
  cases hrel with
  | ref _ _ _ cap ri hρ hnc hc hm =>
    have hid : h[id]? = some (some r) := hrow_some hr
    have hR := hst.sat.row id r ri hid hρ
    obtain ⟨arr, e1, e2, e3, e4⟩ := hR.cells
    have hI : ∀ o b, Im O F o b → Im O (fun b => F b ∨ b = ri.b) o b ∧ w.heap[b]? = w.heap[b]? := fun o b hb => ⟨hb.imp .inl fun h => h, rfl⟩
    have hup : ∀ {s : SV} {v : Value}, VRel ρ O F w s v → VRel ρ O (fun b => F b ∨ b = ri.b) w s v := fun hs => hs.mono (fun _ _ h => h) hI
    have hpres : ∀ {id' : Nat} {r' : Row}, (h.set id none : Heap)[id']? = some (some r') → id' ≠ id ∧ h[id']? = some (some r') := fun {id' r'} e => by
      have hne : id' ≠ id := by
        rintro rfl
        rw [List.getElem?_set_self (List.getElem?_eq_some_iff.1 hid).1] at e
        cases e
      exact ⟨hne, by rwa [List.getElem?_set_ne (fun e => hne e.symm)] at e⟩
    refine ⟨ρ, fun b => F b ∨ b = ri.b, ⟨⟨fun id' r' ri' f1 f2 => ?_, fun id1 id2 r1 r2 ri1 ri2 f1 f2 f3 f4 hb => ?_, fun b hb => ?_⟩, hst.defers, hst.size, fun u => ?_, hst.keep, fun id' h' => hst.free id' (by simpa using h'), hst.rno, fun b hb => ?_, hst.ext0⟩⟩
    · obtain ⟨hne, f1⟩ := hpres f1
      have h1 := hst.sat.row id' r' ri' f1 f2
      refine ⟨h1.k, h1.no, fun hf => ?_, h1.wf, ?_⟩
      · rcases hf with hf | hf
        · exact h1.nf hf
        · exact hne (hst.sat.inj id' id r' r ri' ri f1 hid f2 hρ hf)
      · obtain ⟨arr', a1, a2, a3, a4⟩ := h1.cells
        refine ⟨arr', a1, a2, a3, fun i j x y g1 g2 => ?_⟩
        obtain ⟨u, b1, b2⟩ := a4 i j x y g1 g2
        exact ⟨u, b1, hup b2⟩
    · obtain ⟨_, f1⟩ := hpres f1
      obtain ⟨_, f2⟩ := hpres f2
      exact hst.sat.inj id1 id2 r1 r2 ri1 ri2 f1 f2 f3 f4 hb
    · rcases hb with hb | hb | rfl
      · exact hst.sat.lt b (.inl hb)
      · exact hst.sat.lt b (.inr hb)
      · exact hR.lt
    · simp only [TM.get]
      by_cases c : t = u
      · rw [if_pos c, ← c, hv, hn]
        refine .sl false r.xs (some ⟨ri.b, 0 * ri.k, none⟩) cap r.k (fun i j => (w.cell? ⟨ri.b, i * r.k + j, none⟩).getD undef) hR.wf (by omega) hm (fun _ => ⟨ri.b, 0, by simp, .inl (.inr rfl), fun i j hi hj => ?_⟩) fun i j x y f1 f2 => ?_
        · have h4 := row_at hi
          have h5 := hR.wf _ (List.mem_of_getElem? h4)
          obtain ⟨u, h6, _⟩ := e4 i j _ _ h4 (rel_at (by rw [h5]; exact hj))
          have h7 : w.cell? ⟨ri.b, i * r.k + j, none⟩ = some u := by
            simp only [World.cell?, e1]
            simpa using h6
          rw [Nat.zero_add, h7]; rfl
        · obtain ⟨u, h6, h7⟩ := e4 i j x y f1 f2
          have h8 : w.cell? ⟨ri.b, i * r.k + j, none⟩ = some u := by
            simp only [World.cell?, e1]
            simpa using h6
          rw [h8]
          exact hup h7
      · rw [if_neg c]; exact hup (hst.rel u)
    · rcases hb with hb | rfl
      · exact hst.fno b hb
      · exact hst.rno id ri hρ
/-- Nothing is appended. -/
def slLike : SV → Prop
  | .nils | .ref _ _ _ => True
  | _ => False
theorem opB_append_0 {dst : Option Nat} {T e ty : TypeId} {pos : String} {after : Array Edge} {guard : Option (Nat × Bool)} {g : Operand → SV} {h : Heap} {x y : Operand} {o : Bool} (hT : TabOk P tab) (hx : slLike (g x)) (hy : g y = .sl o []) (hsh : (tab T).shape = .slice e) (hty : hasTy (tab e)) :
    OpB P ⟨dst, .call ⟨.builtin .append, #[x, y], #[T, T]⟩, ty, pos, after, guard⟩ g h (g x) [] := by
  intro ρ O F w a hs hr hfree next Q hn
  have hvx := hr x (by simp [Op.operands, Call.operands])
  have hvy := hr y (by simp [Op.operands, Call.operands])
  rw [hy] at hvy
  generalize hay : a.eval y = vy at hvy
  have hshape : ∃ b n c, a.eval x = .slice b n c ∧ n ≤ c := by
    generalize hax : a.eval x = vx at hvx
    generalize hgx : g x = sx at *
    cases hvx <;> simp only [slLike] at hx
    case nils => exact ⟨none, 0, 0, rfl, Nat.le_refl _⟩
    case ref id off n cap ri h1 h2 h3 h4 => exact ⟨_, n, cap, rfl, h2⟩
  obtain ⟨b, n, c, hax, hnc⟩ := hshape
  obtain ⟨inf, z, hi, hi1, hi2, hi3, hi4⟩ := (hT.ty hty).info
  generalize hsl : ([] : List (List SV)) = l0 at hvy
  cases hvy with
  | sl _ _ a0 cap0 k0 cs0 hk0 hcap0 hm0 ha0 hh0 =>
    subst hsl
    have hrun : (Builtin.append_ #[T, T] ty #[.slice b n c, .slice a0 0 cap0]).run P w = .ok (.slice b n c) w := by
      have hu := slice_under hT hsh
      have hnn : (n : Int) ≤ c := by omega
      cases b with
      | none => cases a0 <;> simp [Builtin.append_, run_underlying hu, sizeOf, typeInfo, hi, Builtin.lenOf, Builtin.firstCells, loadCells, loadCellsFrom, hnc]
      | some b => cases a0 <;> simp [Builtin.append_, run_underlying hu, sizeOf, typeInfo, hi, Builtin.lenOf, Builtin.firstCells, loadCells, loadCellsFrom, hnc, storeCells]
    have hexec : (execOp a.eval ⟨dst, .call ⟨.builtin .append, #[x, y], #[T, T]⟩, ty, pos, after, guard⟩).run P w = .ok (.value (.slice b n c)) w := by
      simp only [execOp, resolve, invoke, builtin, Sem.run_bind, Sem.run_pure, Result.andThen_ok, List.map_toArray, List.map_cons, List.map_nil, hax, hay, List.length_nil, hrun]
    simp only [Oper.wp, hexec, Oper.upon]
    rw [hax] at hvx
    exact hn _ ρ F w (Ext.refl _ _ _) (fun id e => absurd rfl e) (by rw [List.append_nil]; exact hs) hvx
end
end Go.IL

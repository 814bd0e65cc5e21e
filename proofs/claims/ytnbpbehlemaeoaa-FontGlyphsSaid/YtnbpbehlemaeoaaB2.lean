/- The same: calls, loops over functions, maps, appends. -/
import Derived.Test.YtnbpbehlemaeoaaB1
import Derived.Attr
import Derived.Maps.AppendAt
import Derived.Laws.OwnMore
import Derived.Maps.RangeRun
import Derived.MapKept
import Derived.Carry
import Derived.RangeFuncNested
import Derived.RangeFuncCalls
import Derived.OrdersIn
import Derived.TacticsIn
namespace Go.IL
attribute [go_sem] E pkO pkV isP isPT plainT Bool.false_eq_true opnd TM.get TM.put Nat.succ_ne_zero cellsOk SV.cells List.all_cons List.all_nil scal Bool.and_self Bool.and_true Bool.true_and true_and and_true imp_self implies_true forall_const List.length_nil List.length_cons Nat.zero_add Nat.add_zero List.nil_append List.cons_append oblP valP ofConst binO binV intO intV unO unV gcond List.getD_cons_zero List.getD_cons_succ Option.getD_some Option.getD_none allO cndO unc Op.operands Call.operands isBool isInt bOf iOf pickO pickV fldAddrO fldAddrV fldO fldV fieldsOf loadO loadV hasTy rowXs rowK hrow elAt cellAt List.getElem?_cons_zero List.getElem?_cons_succ Nat.lt_irrefl Nat.le_refl Nat.zero_le Nat.zero_lt_succ Nat.lt_add_one idxAddrO idxAddrV idxO idxV lenO lenV extO extV convO convV optI optO slcO slcV slcLen bldO bldV splice notNil isLen noFirst isEq List.size_toArray List.take_zero List.drop_zero List.take_succ_cons List.drop_succ_cons List.take_nil List.drop_nil List.append_nil List.map_cons List.map_nil beqF beqT Bool.not_eq_true' Bool.not_eq_false' Bool.not_false Bool.not_true cond_true cond_false Bool.cond_true_left Bool.cond_false_right Bool.cond_false_left Bool.cond_true_right ge_iff_le gt_iff_lt false_implies Option.isSome_some List.set_cons_zero List.set_cons_succ hset and_self
end Go.IL

set_option linter.unusedVariables false
set_option linter.unusedSimpArgs false
namespace Go.IL
open Go.RowKit

mutual
/-- Its rows' numbers are below n. -/
def SV.bnd (n : Nat) : SV → Bool
  | .ptr id _ _ => decide (id < n)
  | .ref id _ _ => decide (id < n)
  | .agg cs | .tup cs | .clo _ cs => bndL n cs
  | .sl _ xs => bndLL n xs
  | .rptr _ x _ => bndL n x
  | .mp _ xs => bndLL n xs
  | .it _ xs _ => bndLL n xs
  | .cnd _ v => v.bnd n
  | _ => true
def bndL (n : Nat) : List SV → Bool
  | [] => true
  | s :: r => s.bnd n && bndL n r
def bndLL (n : Nat) : List (List SV) → Bool
  | [] => true
  | s :: r => bndL n s && bndLL n r
end
theorem bndL_get {n : Nat} : ∀ {l : List SV} {i : Nat} {s : SV}, bndL n l = true → l[i]? = some s → s.bnd n = true
  | _ :: _, 0, _, h, e => by simp at e; subst e; simp [bndL] at h; exact h.1
  | _ :: _, i + 1, _, h, e => by simp [bndL] at h; exact bndL_get h.2 (by simpa using e)
theorem bndLL_get {n : Nat} : ∀ {l : List (List SV)} {i : Nat} {s : List SV}, bndLL n l = true → l[i]? = some s → bndL n s = true
  | _ :: _, 0, _, h, e => by simp at e; subst e; simp [bndLL] at h; exact h.1
  | _ :: _, i + 1, _, h, e => by simp [bndLL] at h; exact bndLL_get h.2 (by simpa using e)

theorem VRel.bnd {ρ : Rho} {O F : Nat → Prop} {w : World} {n : Nat} {s : SV} {v : Value} (h : VRel ρ O F w s v) : s.bnd n = true → VRel (fun id => if id < n then ρ id else none) O F w s v := by
  induction h with
  | any v => intro _; exact .any v
  | bool b => intro _; exact .bool b
  | int k n => intro _; exact .int k n
  | str s => intro _; exact .str s
  | raw v => intro _; exact .raw v
  | agg cs vs hl _ ih => intro hn; simp only [SV.bnd] at hn; exact .agg cs vs hl fun i c v e1 e2 => ih i c v e1 e2 (bndL_get hn e1)
  | tup cs vs hl _ ih => intro hn; simp only [SV.bnd] at hn; exact .tup cs vs hl fun i c v e1 e2 => ih i c v e1 e2 (bndL_get hn e1)
  | ptr id i j ri h => intro hn; simp only [SV.bnd, decide_eq_true_eq] at hn; exact .ptr id i j ri (by simp only [if_pos hn]; exact h)
  | ref id off m cap ri h h1 hc hm => intro hn; simp only [SV.bnd, decide_eq_true_eq] at hn; exact .ref id off m cap ri (by simp only [if_pos hn]; exact h) h1 hc hm
  | sl o xs a cap k cs hk hcap hm ha _ ih =>
    intro hn
    simp only [SV.bnd] at hn
    exact .sl o xs a cap k cs hk hcap hm ha fun i j x y e1 e2 => ih i j x y e1 e2 (bndL_get (bndLL_get hn e1) e2)
  | rptr o x j b off cs hb ha _ ih =>
    intro hn
    simp only [SV.bnd] at hn
    exact .rptr o x j b off cs hb ha fun i y e => ih i y e (bndL_get hn e)
  | mp o xs b es cs hb hw hk hn he _ ih =>
    intro hn'
    simp only [SV.bnd] at hn'
    exact .mp o xs b es cs hb hw hk hn he fun i j x y e1 e2 => ih i j x y e1 e2 (bndL_get (bndLL_get hn' e1) e2)
  | it o xs seen r b es cs hr hrw hb hw hk hn he _ ih =>
    intro hn'
    simp only [SV.bnd] at hn'
    exact .it o xs seen r b es cs hr hrw hb hw hk hn he fun i j x y e1 e2 => ih i j x y e1 e2 (bndL_get (bndLL_get hn' e1) e2)
  | nils => intro _; exact .nils
  | nilp => intro _; exact .nilp
  | clo f cs vs hl _ ih => intro hn; simp only [SV.bnd] at hn; exact .clo f cs vs hl fun i c v e1 e2 => ih i c v e1 e2 (bndL_get hn e1)
  | cnd g s v _ h0 ih => intro hn; simp only [SV.bnd] at hn; exact .cnd g s v (fun e => ih e hn) h0

def subT0 (n : Nat) (tm : TM) : TM → Prop
  | [] => True
  | (t, s) :: r => (tm.get t = s ∧ s.bnd n = true) ∧ subT0 n tm r
theorem subT0_get {n : Nat} {tm : TM} : ∀ {tm' : TM}, subT0 n tm tm' → ∀ t, tm'.get t = .any ∨ (tm.get t = tm'.get t ∧ (tm'.get t).bnd n = true)
  | [], _, t => .inl rfl
  | (u, s) :: r, h, t => by
    simp only [TM.get]
    by_cases e : u = t
    · subst e; rw [if_pos rfl]; exact .inr h.1
    · rw [if_neg e]; exact subT0_get h.2 t
def subH0 (n : Nat) (h : Heap) : Nat → Heap → Prop
  | _, [] => True
  | i, none :: r => subH0 n h (i + 1) r
  | i, some row :: r => (hrow h i = some row ∧ bndLL n row.xs = true) ∧ subH0 n h (i + 1) r
theorem subH0_get {n : Nat} {h : Heap} : ∀ {i : Nat} {h' : Heap}, subH0 n h i h' → ∀ (j : Nat) (r : Row), h'[j]? = some (some r) → h[i + j]? = some (some r) ∧ bndLL n r.xs = true
  | _, [], _, j, r, e => by simp at e
  | i, none :: l, hs, j, r, e => by
    cases j with
    | zero => simp at e
    | succ j => have := subH0_get (h' := l) hs j r (by simpa using e); rwa [show i + 1 + j = i + (j + 1) by omega] at this
  | i, some row :: l, hs, j, r, e => by
    cases j with
    | zero => simp at e; subst e; exact ⟨hrow_some hs.1.1, hs.1.2⟩
    | succ j => have := subH0_get (h' := l) hs.2 j r (by simpa using e); rwa [show i + 1 + j = i + (j + 1) by omega] at this

/-- Of the temporaries and the first rows those that are wanted. -/
theorem Ent.cut {O : Nat → Prop} {w0 : Ctx} {N : Nat} {tm tm' : TM} {h h' : Heap} (ht : subT0 h'.length tm tm') (hh : subH0 h'.length h 0 h') (h0 : ∀ id ri, w0.r id = some ri → id < h'.length := by intro _ _ h; cases h) : Ent O w0 N tm h tm' h' := by
  intro ρ F a w hst
  refine ⟨fun id => if id < h'.length then ρ id else none, F, ⟨fun id r ri e1 e2 => ?_, fun id id' r r' ri ri' e1 e1' e2 e2' hb => ?_, hst.sat.lt⟩, hst.defers, hst.size, fun t => ?_, hst.keep, fun id hid => by simp only [if_neg (Nat.not_lt.2 hid)], fun id ri e => ?_, hst.fno, fun id ri e => by simp only [if_pos (h0 id ri e)]; exact hst.ext0 id ri e⟩
  · have hid : id < h'.length := (List.getElem?_eq_some_iff.1 e1).1
    try simp only [] at e2
    rw [if_pos hid] at e2
    obtain ⟨h1, hb⟩ := subH0_get hh id r e1
    rw [Nat.zero_add] at h1
    have h2 := hst.sat.row _ _ ri h1 e2
    refine ⟨h2.k, h2.no, h2.nf, h2.wf, ?_⟩
    obtain ⟨arr, a1, a2, a3, a4⟩ := h2.cells
    refine ⟨arr, a1, a2, a3, fun i j x y b1 b2 => ?_⟩
    obtain ⟨v, c1, c2⟩ := a4 i j x y b1 b2
    exact ⟨v, c1, c2.bnd (bndL_get (bndLL_get hb b1) b2)⟩
  · have hid : id < h'.length := (List.getElem?_eq_some_iff.1 e1).1
    have hid' : id' < h'.length := (List.getElem?_eq_some_iff.1 e1').1
    try simp only [] at e2 e2'
    rw [if_pos hid] at e2
    rw [if_pos hid'] at e2'
    have h1 := (subH0_get hh id r e1).1
    have h2 := (subH0_get hh id' r' e1').1
    rw [Nat.zero_add] at h1 h2
    exact hst.sat.inj _ _ _ _ ri ri' h1 h2 e2 e2' hb
  · rcases subT0_get ht t with h1 | ⟨h1, h2⟩
    · rw [h1]; exact .any _
    · have := hst.rel t
      rw [h1] at this
      exact this.bnd h2
  · try simp only [] at e
    split at e
    · exact hst.rno _ ri e
    · cases e

section
variable {P : Program} {O : Nat → Prop} {w0 : Ctx} {N : Nat} {tm : TM} {h : Heap} {Q : Exit → TM → Heap → Prop}
theorem IW.cut {c : Code} {tm' : TM} {h' : Heap} (ht : subT0 h'.length tm tm') (hh : subH0 h'.length h 0 h') (h0 : ∀ id ri, w0.r id = some ri → id < h'.length) (hi : IW P O w0 N c tm' h' Q) : IW P O w0 N c tm h Q := IW.ent (Ent.cut ht hh h0) hi
/-- The branches join. -/
theorem IW.seqI {α : Type} {x y : Code} (L : α → TM) (H : α → Heap) (hi : IW P O w0 N x tm h (thn (fun tm h => ∃ a, Ent O w0 N tm h (L a) (H a)) Q)) (hy : ∀ a, IW P O w0 N y (L a) (H a) Q) : IW P O w0 N (.seq x y) tm h Q :=
  IW.seq (hi.mono fun e tm h hq => by
    cases e <;> first | exact hq | skip
    obtain ⟨a, ha⟩ := hq
    exact IW.ent ha (hy a))
/-- A loop by a number that each round brings nearer to an end. -/
theorem wrap_eq {n : Int} (h1 : -9223372036854775808 ≤ n) (h2 : n ≤ 9223372036854775807) : IntKind.i64.wrap n = n := by
  rw [IntKind.wrap_i64]; omega
end
theorem arr_getD {α : Type} (l : List α) (i : Nat) (d : α) : l.toArray.getD i d = l.getD i d := by simp [Array.getD_eq_getD_getElem?, List.getD_eq_getElem?_getD]
attribute [go_sem] arr_getD Array.toList_append Array.toList_map List.nil_append SV.bnd bndL bndLL subT0 subH0 decide_eq_true_eq
end Go.IL

set_option linter.unusedVariables false
set_option linter.unusedSimpArgs false
namespace Go.IL
open Go.RowKit

theorem rei_agg (n : Nat) (h : Heap) (cs : List SV) : rei (n + 1) h (.agg cs) = .agg (cs.map (rei n h)) := rfl
theorem rei_clo (n : Nat) (h : Heap) (f : FuncId) (cs : List SV) : rei (n + 1) h (.clo f cs) = .clo f (cs.map (rei n h)) := rfl
theorem rei_sl (n : Nat) (h : Heap) (o : Bool) (xs : List (List SV)) : rei (n + 1) h (.sl o xs) = .sl true (xs.map fun x => x.map (rei n h)) := rfl
theorem rei_int (n : Nat) (h : Heap) (k : IntKind) (m : Int) : rei (n + 1) h (.int k m) = .int k m := rfl
theorem rei_bool (n : Nat) (h : Heap) (b : Bool) : rei (n + 1) h (.bool b) = .bool b := rfl
theorem rei_str (n : Nat) (h : Heap) (s : ByteArray) : rei (n + 1) h (.str s) = .str s := rfl
theorem rei_nils (n : Nat) (h : Heap) : rei (n + 1) h .nils = .nils := rfl
theorem rei_nilp (n : Nat) (h : Heap) : rei (n + 1) h .nilp = .nilp := rfl
theorem rei_raw (n : Nat) (h : Heap) (v : Value) : rei (n + 1) h (.raw v) = .raw v := rfl
theorem rei_ref (n : Nat) (h : Heap) (id off m : Nat) (hc : off + m ≤ (rowXs h id).length ∧ (hrow h id).isSome = true) : rei (n + 1) h (.ref id off m) = .sl true ((((rowXs h id).drop off).take m).map fun x => x.map (rei n h)) := by simp only [rei, if_pos hc]

/-! ### Lists of numbers -/
def nums (k : IntKind) (xs : List Int) : List (List SV) := xs.map fun x => [.int k x]
theorem nums_nil (k : IntKind) : nums k [] = [] := rfl
theorem nums_length (k : IntKind) (xs : List Int) : (nums k xs).length = xs.length := by simp [nums]
theorem nums_at {k : IntKind} {xs : List Int} {i : Nat} (h : i < xs.length) : (nums k xs).getD i [] = [.int k (xs.getD i 0)] := by simp [nums, h]
theorem nums_bnd (k : IntKind) (n : Nat) : ∀ xs : List Int, bndLL n (nums k xs) = true
  | [] => rfl
  | x :: xs => by show bndLL n ([SV.int k x] :: nums k xs) = true; simp [bndLL, bndL, SV.bnd, nums_bnd k n xs]
theorem nums_nold (k : IntKind) : ∀ xs : List Int, noldLL (nums k xs) = true
  | [] => rfl
  | x :: xs => by show noldLL ([SV.int k x] :: nums k xs) = true; simp [noldLL, noldL, SV.nold, nums_nold k xs]
theorem nums_ren (k : IntKind) (σ : Nat → Nat) (xs : List Int) : renLL σ (nums k xs) = nums k xs := by
  rw [renLL_map]; simp [nums, renL, SV.ren]
theorem nums_rei (k : IntKind) (n : Nat) (h : Heap) (xs : List Int) : (nums k xs).map (fun x => x.map (rei (n + 1) h)) = nums k xs := by simp [nums, rei]
theorem nums_set (k : IntKind) (xs : List Int) (i : Nat) (x : Int) : (nums k xs).set i [.int k x] = nums k (xs.set i x) := by simp [nums, List.map_set]
theorem nums_take (k : IntKind) (xs : List Int) (n : Nat) : (nums k xs).take n = nums k (xs.take n) := by simp [nums]
theorem nums_drop (k : IntKind) (xs : List Int) (n : Nat) : (nums k xs).drop n = nums k (xs.drop n) := by simp [nums]
theorem nums_append (k : IntKind) (xs ys : List Int) : nums k xs ++ nums k ys = nums k (xs ++ ys) := by simp [nums]
theorem nums_replicate (k : IntKind) (n : Nat) (x : Int) : List.replicate n [SV.int k x] = nums k (List.replicate n x) := by simp [nums]
theorem elAt_eq (xs : List (List SV)) (i : Nat) : elAt xs i = xs.getD i [] := rfl

section
variable {tab : Tab} {tm : TM} {h : Heap}
theorem Fin.scal {t : Nat} {sv : SV} (h1 : sv.nold = true) (h2 : sv.ren (sg [] h.length) = sv) (e : tm.get t = sv) : Fin tab [.tmp t] sv [] .ret tm h :=
  ⟨⟨trivial, trivial⟩, h1, rfl, [], rfl, List.nodup_nil, e.trans h2.symm, trivial⟩
/-- A result that lies in a variable. -/
theorem Fin.cell {p T : Nat} {sv : SV} (h0 : (match tm.get p with | .ptr _ _ _ => True | _ => False) ∧ loadO (tab T) h (tm.get p)) (h1 : sv.nold = true) (h2 : sv.ren (sg [] h.length) = sv) (e : loadV (tab T) h (tm.get p) = sv) : Fin tab [.cell p T] sv [] .ret tm h :=
  ⟨⟨h0, trivial⟩, h1, rfl, [], rfl, List.nodup_nil, e.trans h2.symm, trivial⟩
end
theorem cast0 : ((0 : Nat) : Int) = 0 := rfl
attribute [go_sem] cast0 rei_agg rei_clo rei_sl rei_int rei_bool rei_str rei_nils rei_nilp rei_raw nums_nil nums_length nums_bnd nums_nold nums_ren nums_rei nums_set SV.ren renL renLL SV.nold noldL noldLL List.map_map SV.bool.injEq SV.int.injEq SV.str.injEq beqF beqT
end Go.IL

set_option linter.unusedVariables false
set_option linter.unusedSimpArgs false
namespace Go.IL
open Go.RowKit

section
variable {P : Program} {tab : Tab} {ops : Array Oper}

/-- What a slice holds that is read. -/
def srcO (h : Heap) : SV → Option (List (List SV))
  | .ref id off n => if off + n ≤ (rowXs h id).length then some (((rowXs h id).drop off).take n) else none
  | .sl _ xs => some xs
  | _ => none

theorem src_rel {ρ : Rho} {O F : Nat → Prop} {w : World} {h : Heap} {s : SV} {v : Value} {ys : List (List SV)} (hs : Sat ρ O F h w) (hv : VRel ρ O F w s v) (hy : srcO h s = some ys) (hp : 0 < ys.length) :
    ∃ a c k, v = .slice (some a) ys.length c ∧ (∀ x ∈ ys, x.length = k) ∧ ∀ (i j : Nat) (x : List SV) (y : SV), ys[i]? = some x → x[j]? = some y → ∃ u, w.cell? (a.add (i * k + j)) = some u ∧ VRel ρ O F w y u := by
  cases hv <;> simp only [srcO] at hy <;> try (cases hy; done)
  case ref id off n cap ri hρ h1 h2 h3 =>
    split at hy
    · rename_i hle
      cases hy
      have hlen : (((rowXs h id).drop off).take n).length = n := by simp; omega
      rw [hlen] at hp
      cases hr : hrow h id with
      | none => simp [rowXs, hr] at hle; omega
      | some r =>
        have hR := hs.row id r ri (hrow_some hr) hρ
        have exs : rowXs h id = r.xs := by simp [rowXs, hr]
        rw [exs] at hle hlen ⊢
        obtain ⟨arr, e1, e2, e3, e4⟩ := hR.cells
        refine ⟨⟨ri.b, off * ri.k, none⟩, cap, r.k, by rw [hlen], fun x hx => hR.wf x (List.mem_of_mem_drop (List.mem_of_mem_take hx)), fun i j x y f1 f2 => ?_⟩
        have hi : i < n := by have := (List.getElem?_eq_some_iff.1 f1).1; omega
        have f3 : r.xs[off + i]? = some x := by rwa [List.getElem?_take_of_lt hi, List.getElem?_drop] at f1
        obtain ⟨u, f4, f5⟩ := e4 (off + i) j x y f3 f2
        refine ⟨u, ?_, f5⟩
        rw [addr_add]
        simp only [World.cell?, e1, hR.k]
        rw [← Nat.add_assoc, ← Nat.add_mul]
        simpa using f4
    · cases hy
  case sl o xs a cap k cs hk h1 h2 ha hh =>
    cases hy
    obtain ⟨b, off, rfl, _, hc⟩ := ha hp
    refine ⟨⟨b, off, none⟩, cap, k, rfl, hk, fun i j x y f1 f2 => ⟨cs i j, ?_, hh i j x y f1 f2⟩⟩
    have hi := (List.getElem?_eq_some_iff.1 f1).1
    have hj : j < k := by rw [← hk x (List.mem_of_getElem? f1)]; exact (List.getElem?_eq_some_iff.1 f2).1
    rw [addr_add, ← Nat.add_assoc]
    exact hc i j hi hj

/-- The cells, one behind the other. -/
theorem src_news {ρ : Rho} {O F : Nat → Prop} {w : World} {ys : List (List SV)} {k : Nat} {a : Addr} (hk : 0 < k) (hw : ∀ x ∈ ys, x.length = k) (hsc : (ys.all fun x => x.all scal) = true)
    (hc : ∀ (i j : Nat) (x : List SV) (y : SV), ys[i]? = some x → x[j]? = some y → ∃ u, w.cell? (a.add (i * k + j)) = some u ∧ VRel ρ O F w y u) :
    ∃ news : List Value, news.length = ys.length * k ∧ (∀ j u, news[j]? = some u → w.cell? (a.add j) = some u) ∧ (∀ u ∈ news, u.oneCell' = true) ∧
      ∀ (i j : Nat) (x : List SV) (y : SV), ys[i]? = some x → x[j]? = some y → ∃ u, news[i * k + j]? = some u ∧ VRel ρ O F w y u := by
  have hat : ∀ t, t < ys.length * k → ∃ (x : List SV) (y : SV) (u : Value), ys[t / k]? = some x ∧ x[t % k]? = some y ∧ w.cell? (a.add t) = some u ∧ VRel ρ O F w y u := fun t ht => by
    have hi : t / k < ys.length := Nat.div_lt_of_lt_mul (by rwa [Nat.mul_comm])
    have hj : t % k < (ys[t / k]).length := by rw [hw _ (List.getElem_mem hi)]; exact Nat.mod_lt _ hk
    have e1 : ys[t / k]? = some ys[t / k] := by simp [hi]
    have e2 : (ys[t / k])[t % k]? = some ((ys[t / k])[t % k]) := by simp [hj]
    obtain ⟨u, h1, h2⟩ := hc _ _ _ _ e1 e2
    rw [Nat.mul_comm, Nat.div_add_mod] at h1
    exact ⟨_, _, u, e1, e2, h1, h2⟩
  refine ⟨(List.range (ys.length * k)).map fun t => (w.cell? (a.add t)).getD undef, by simp, fun j u e => ?_, fun u hu => ?_, fun i j x y e1 e2 => ?_⟩
  · rw [List.getElem?_map] at e
    obtain ⟨t, ht, rfl⟩ := Option.map_eq_some_iff.1 e
    obtain ⟨h1, rfl⟩ := List.getElem?_eq_some_iff.1 ht
    simp only [List.length_range] at h1
    obtain ⟨_, _, u, _, _, h2, _⟩ := hat j h1
    simp [h2]
  · obtain ⟨t, ht, rfl⟩ := List.mem_map.1 hu
    rw [List.mem_range] at ht
    obtain ⟨x, y, u, h1, h2, h3, h4⟩ := hat t ht
    rw [h3]
    have := List.all_eq_true.1 (List.all_eq_true.1 hsc x (List.mem_of_getElem? h1)) y (List.mem_of_getElem? h2)
    exact (scal_one h4 this).2
  · obtain ⟨u, h1, h2⟩ := hc i j x y e1 e2
    refine ⟨u, ?_, h2⟩
    have hi := (List.getElem?_eq_some_iff.1 e1).1
    have hj : j < k := by rw [← hw x (List.mem_of_getElem? e1)]; exact (List.getElem?_eq_some_iff.1 e2).1
    have hlt : i * k + j < ys.length * k := by
      have : (i + 1) * k ≤ ys.length * k := Nat.mul_le_mul_right _ hi
      rw [Nat.add_mul] at this; omega
    rw [List.getElem?_map, List.getElem?_range hlt]
    simp [h1]

def rowE (h : Heap) (id : Nat) : TypeId := match hrow h id with | some r => r.elem | none => 0

/-- A row goes on in the same block or in a new one; its old number is gone. -/
theorem St.regrow {O : Nat → Prop} {w0 : Ctx} {N : Nat} {ρ : Rho} {F : Nat → Prop} {tm : TM} {h : Heap} {a : Act} {w w' : World} (hst : St O w0 N ρ F tm h a w) {id : Nat} {r : Row} {ri : RI} (hr : h[id]? = some (some r)) (hρ : ρ id = some ri)
    {dst : Option Nat} (hd : ∀ d, dst = some d → d < N) {g : Nat} {xs : List (List SV)} {arr : Array Value} {n cap : Nat} (hg : g = ri.b ∨ g = w.heap.size) (hw : ∀ x ∈ xs, x.length = r.k) (hsz : arr.size = cap * r.k) (hn : xs.length ≤ cap) (hcm : cap ≤ 9223372036854775807)
    (hgrow : w.grownBy w' (some ri.b)) (hnew : w'.heap[g]? = some (.cells arr r.elem (0, 0))) (he : r.elem < softK) (hnl : xs.length = n)
    (hc : ∀ (i j : Nat) (x : List SV) (y : SV), xs[i]? = some x → x[j]? = some y → ∃ v, arr[i * r.k + j]? = some v ∧ VRel ρ O F w y v) :
    ∃ ρ' F', St O w0 N ρ' F' (tm.put dst (.ref h.length 0 n)) (h.set id none ++ [some ⟨r.k, r.elem, xs⟩]) (a.put dst (.slice (some ⟨g, 0, none⟩) n cap)) w' := by
  have hR := hst.sat.row id r ri hr hρ
  have hid : id < h.length := (List.getElem?_eq_some_iff.1 hr).1
  have hfree : ρ h.length = none := hst.free _ (Nat.le_refl _)
  have hI : ∀ o b, Im O F o b → Im O F o b ∧ w'.heap[b]? = w.heap[b]? := fun o b hb => by
    have hlt : b < w.heap.size := hst.sat.lt b (hb.elim .inr fun h => .inl h.2)
    refine ⟨hb, hgrow.block b hlt ?_⟩
    rintro e; cases e
    rcases hb with hb | ⟨_, hb⟩
    · exact hR.nf hb
    · exact hR.no hb
  have hρ' : ∀ id' ri', ρ id' = some ri' → (fun i => if i = h.length then some (⟨g, r.k, cap * r.k⟩ : RI) else ρ i) id' = some ri' := fun id' ri' e => by
    have : id' ≠ h.length := by rintro rfl; rw [hfree] at e; cases e
    simp only [if_neg this]; exact e
  have hgO : ¬ O g := by
    rcases hg with rfl | rfl
    · exact hR.no
    · intro ho; exact Nat.lt_irrefl _ (hst.sat.lt _ (.inl ho))
  have hgF : ¬ F g := by
    rcases hg with rfl | rfl
    · exact hR.nf
    · intro ho; exact Nat.lt_irrefl _ (hst.sat.lt _ (.inr ho))
  have hg' : g < w'.heap.size := (Array.getElem?_eq_some_iff.1 hnew).1
  have hold : ∀ id' r', id' ≠ h.length → (h.set id none ++ [some (⟨r.k, r.elem, xs⟩ : Row)])[id']? = some (some r') → id' ≠ id ∧ h[id']? = some (some r') := fun id' r' hne e => by
    rcases Nat.lt_or_ge id' h.length with hlt | hge
    · rw [List.getElem?_append_left (by simpa using hlt)] at e
      by_cases he : id = id'
      · subst he; rw [List.getElem?_set_self hid] at e; cases e
      · rw [List.getElem?_set_ne he] at e; exact ⟨fun h => he h.symm, e⟩
    · rw [List.getElem?_eq_none (by simp; omega)] at e; cases e
  have hnewr : ∀ r', (h.set id none ++ [some (⟨r.k, r.elem, xs⟩ : Row)])[h.length]? = some (some r') → r' = ⟨r.k, r.elem, xs⟩ := fun r' e => by
    rw [List.getElem?_append_right (by simp)] at e
    simp at e; exact e.symm
  have hneb : ∀ id' r' ri', id' ≠ id → h[id']? = some (some r') → ρ id' = some ri' → ri'.b ≠ g := fun id' r' ri' hne e1 e2 => by
    rcases hg with rfl | rfl
    · intro hb; exact hne (hst.sat.inj id' id r' r ri' ri e1 hr e2 hρ hb)
    · have := (hst.sat.row id' r' ri' e1 e2).lt; omega
  refine ⟨fun i => if i = h.length then some ⟨g, r.k, cap * r.k⟩ else ρ i, F, ⟨fun id' r' ri' e1 e2 => ?_, fun id1 id2 r1 r2 ri1 ri2 e1 e2 e3 e4 hb => ?_, fun b hb => Nat.lt_of_lt_of_le (hst.sat.lt b hb) hgrow.size⟩, hst.defers.next (Act.put_defers' _ _ _) fun D e => (hgrow.block D (Array.getElem?_eq_some_iff.1 e).1 (by intro h; cases h; obtain ⟨_, h1, _⟩ := hR.cells; rw [h1] at e; cases e)).trans e, by rw [Act.put_size]; exact hst.size, fun t => ?_,
    ⟨hgrow.os.trans hst.keep.os, hgrow.tape.trans hst.keep.tape, hgrow.output.trans hst.keep.output, Nat.le_trans hst.keep.size hgrow.size, fun b hb => (hgrow.block b (hst.sat.lt b (.inl hb)) (by rintro e; cases e; exact hR.no hb)).trans (hst.keep.block b hb), fun b o e e' => (hgrow.block b (Array.getElem?_eq_some_iff.1 (hst.keep.books b o e e')).1 (by intro h; cases h; obtain ⟨_, h1, _⟩ := hR.cells; have h2 := hst.keep.books _ _ e e'; rw [h1] at h2; cases h2; cases e')).trans (hst.keep.books b o e e')⟩,
    fun id' h' => ?_, fun id' ri' e => ?_, hst.fno, fun id' ri' e => hρ' _ _ (hst.ext0 _ _ e)⟩
  · by_cases e : id' = h.length
    · subst e
      simp only [if_true] at e2
      cases e2
      cases hnewr r' e1
      refine ⟨rfl, hgO, hgF, hw, arr, by rw [tyE_hard he, frE_hard he]; exact hnew, hsz, by rw [hsz]; exact Nat.mul_le_mul_right _ hn, fun i j x y f1 f2 => ?_⟩
      obtain ⟨v, h1, h2⟩ := hc i j x y f1 f2
      exact ⟨v, h1, h2.mono hρ' hI⟩
    · simp only [if_neg e] at e2
      obtain ⟨hne, h1⟩ := hold id' r' e e1
      have h2 := hst.sat.row id' r' ri' h1 e2
      refine ⟨h2.k, h2.no, h2.nf, h2.wf, ?_⟩
      obtain ⟨arr', a1, a2, a3, a4⟩ := h2.cells
      refine ⟨arr', (hgrow.block _ h2.lt ?_).trans a1, a2, a3, fun i j x y f1 f2 => ?_⟩
      · intro e; exact hne (hst.sat.inj id' id r' r ri' ri h1 hr e2 hρ (Option.some.inj e))
      · obtain ⟨v, h5, h6⟩ := a4 i j x y f1 f2
        exact ⟨v, h5, h6.mono hρ' hI⟩
  · by_cases c1 : id1 = h.length <;> by_cases c2 : id2 = h.length
    · rw [c1, c2]
    · subst c1
      simp only [if_true, if_neg c2] at e3 e4
      cases e3
      obtain ⟨hne, h1⟩ := hold id2 r2 c2 e2
      exact absurd hb.symm (hneb id2 r2 ri2 hne h1 e4)
    · subst c2
      simp only [if_true, if_neg c1] at e3 e4
      cases e4
      obtain ⟨hne, h1⟩ := hold id1 r1 c1 e1
      exact absurd hb (hneb id1 r1 ri1 hne h1 e3)
    · simp only [if_neg c1, if_neg c2] at e3 e4
      exact hst.sat.inj id1 id2 r1 r2 ri1 ri2 (hold id1 r1 c1 e1).2 (hold id2 r2 c2 e2).2 e3 e4 hb
  · rw [Act.put_getD hst.size hd, TM.get_put]
    by_cases e : dst = some t
    · simp only [e, if_true]
      have := VRel.ref (ρ := fun i => if i = h.length then some (⟨g, r.k, cap * r.k⟩ : RI) else ρ i) (O := O) (F := F) (w := w') h.length 0 n cap ⟨g, r.k, cap * r.k⟩ (by simp) (by omega) (by simp) hcm
      simpa using this
    · simp only [e, if_false]; exact (hst.rel t).mono hρ' hI
  · have : id' ≠ h.length := by simp at h'; omega
    simp only [if_neg this]
    exact hst.free id' (by simp at h'; omega)
  · by_cases c : id' = h.length
    · subst c; simp only [if_true] at e; cases e; exact hgO
    · simp only [if_neg c] at e; exact hst.rno id' ri' e

/-- append onto a row of the call's own. -/
theorem opS_append (hT : TabOk P tab) {O : Nat → Prop} {w0 : Ctx} {N : Nat} {dst : Option Nat} {T e ty : TypeId} {pos : String} {after : Array Edge} {tm : TM} {h : Heap} {x y : Operand} {id n m : Nat} {ys : List (List SV)}
    (hx : opnd tm x = .ref id 0 n) (hy : srcO h (opnd tm y) = some ys) (hm : ys.length = m) (hm0 : 0 < m) (hsh : (tab T).shape = .slice e) (hty : hasTy (tab e)) (hpos : 0 < (tab e).size)
    (hn : n ≤ (rowXs h id).length) (hs : (hrow h id).isSome = true) (hk : rowK h id = (tab e).size) (hel : rowE h id = e) (hw : ∀ x ∈ ys, x.length = (tab e).size) (hsc : (ys.all fun x => x.all scal) = true)
    (hb : (n + m) * (tab e).bytes ≤ 140737488355328) (hN : n + m ≤ 9223372036854775807) (hd : ∀ d, dst = some d → d < N) :
    OpS P O w0 N ⟨dst, .call ⟨.builtin .append, #[x, y], #[T, T]⟩, ty, pos, after, none⟩ tm h (tm.put dst (.ref h.length 0 (n + m))) (h.set id none ++ [some ⟨(tab e).size, e, (rowXs h id).take n ++ ys⟩]) := by
  intro ρ F a w hst next Q hq
  have hvx := opnd_rel (a := a) x (fun t _ => hst.rel t)
  have hvy := opnd_rel (a := a) y (fun t _ => hst.rel t)
  rw [hx] at hvx
  generalize hax : a.eval x = vx at hvx
  generalize hay : a.eval y = vy at hvy
  subst hm
  obtain ⟨ad, c, k', rfl, hk', hcell⟩ := src_rel hst.sat hvy hy hm0
  have hkk : k' = (tab e).size := by
    have h1 : ys[0]? = some ys[0] := by simp [hm0]
    have h2 := hw _ (List.mem_of_getElem? h1)
    have h3 := hk' _ (List.mem_of_getElem? h1)
    omega
  subst hkk
  obtain ⟨news, hl, hnews, hone, hnc⟩ := src_news hpos hw hsc hcell
  obtain ⟨r, hr⟩ := Option.isSome_iff_exists.1 hs
  have hr' := hrow_some hr
  have exs : rowXs h id = r.xs := by simp [rowXs, hr]
  have ek : rowK h id = r.k := by simp [rowK, hr]
  have ee : rowE h id = r.elem := by simp [rowE, hr]
  rw [exs] at hn hq
  rw [ek] at hk
  rw [ee] at hel
  subst hel
  have hF := hT.ty hty
  obtain ⟨inf, z, hi, hi1, hi2, hi3, hi4⟩ := hF.info
  have hzc : z.cells.size = (tab r.elem).size := by
    have : CRel ρ O F w (tab r.elem).zero z.cells := zero_rel hi4
    rw [← this.1, hF.zlen]
  cases hvx with
  | ref _ _ _ cap ri hρ h1 h2 h3 =>
    have hR := hst.sat.row id r ri hr' hρ
    obtain ⟨arr, e1, e2, e3, e4⟩ := hR.cells
    rw [Nat.zero_add] at h2
    rw [Nat.zero_mul] at hax
    rw [tyE_hard hF.lt, frE_hard hF.lt] at e1
    have hnk : n * r.k ≤ arr.size := Nat.le_trans (Nat.mul_le_mul_right _ hn) e3
    have hown : w.ownsRow 0 r.elem (tab r.elem).size (.slice (some ⟨ri.b, 0, none⟩) n cap) n (arr.toList.take (n * r.k)) :=
      ⟨by rw [List.length_take, Array.length_toList, Nat.min_eq_left hnk, hk], .inr ⟨ri.b, cap, arr, rfl, Nat.zero_le _, e1, h1, by simpa [maxLen] using h3, by rw [e2, ← h2, hR.k, hk], by rw [hk]⟩⟩
    obtain ⟨v', w', hrun, hown', hgrow, _, hat⟩ := run_append_own_at (P := P) w 0 T ty r.elem inf z (tab r.elem).size (tab r.elem).bytes (slice_under hT hsh) hi hi3 hi1 hi2 hzc hpos _ n _ hown ad ys.length c news hl hnews hone (by simpa [maxLen] using hN) hb (Nat.zero_le _)
    have hexec : (execOp a.eval ⟨dst, .call ⟨.builtin .append, #[x, y], #[T, T]⟩, ty, pos, after, none⟩).run P w = .ok (.value v') w' := by
      simp only [execOp, resolve, invoke, builtin, Sem.run_bind, Sem.run_pure, Result.andThen_ok, List.map_toArray, List.map_cons, List.map_nil, hax, hay, hrun]
    simp only [Oper.wp, hexec, Oper.upon]
    obtain ⟨g', cap', cur, rfl, _, g1, g2, g3, g4, g5⟩ : ∃ g cap cur, v' = .slice (some ⟨g, 0, none⟩) (n + ys.length) cap ∧ 0 ≤ g ∧ w'.heap[g]? = some (.cells cur r.elem (0, 0)) ∧ n + ys.length ≤ cap ∧ cap ≤ maxLen ∧ cur.size = cap * (tab r.elem).size ∧ cur.toList.take ((n + ys.length) * (tab r.elem).size) = arr.toList.take (n * r.k) ++ news := by
      rcases hown'.2 with ⟨_, h0⟩ | h0
      · omega
      · exact h0
    have hcur : ∀ t u, (arr.toList.take (n * r.k) ++ news)[t]? = some u → cur[t]? = some u := fun t u ht => by
      rw [← g5] at ht
      rw [List.getElem?_take] at ht
      split at ht
      · simpa using ht
      · cases ht
    have hlt' : (arr.toList.take (n * r.k)).length = n * r.k := by rw [List.length_take, Array.length_toList, Nat.min_eq_left hnk]
    obtain ⟨ρ', F', hst'⟩ := hst.regrow hr' hρ (dst := dst) hd (g := g') (xs := r.xs.take n ++ ys) (arr := cur) (n := n + ys.length) (cap := cap')
      (by simp only [Value.ownBlock, Option.some.injEq] at hat; exact hat) (fun x hx => by
        rcases List.mem_append.1 hx with hx | hx
        · exact hR.wf x (List.mem_of_mem_take hx)
        · rw [hk]; exact hw x hx) (by rw [g4, hk]) (by simp; omega) (by simpa [maxLen] using g3) hgrow g1 hF.lt (by simp; omega)
      (fun i j x y f1 f2 => by
        rcases Nat.lt_or_ge i n with hin | hin
        · rw [List.getElem?_append_left (by simp; omega), List.getElem?_take_of_lt hin] at f1
          obtain ⟨v, a1, a2⟩ := e4 i j x y f1 f2
          refine ⟨v, hcur _ _ ?_, a2⟩
          have hj : j < r.k := by rw [← hR.wf x (List.mem_of_getElem? f1)]; exact (List.getElem?_eq_some_iff.1 f2).1
          have : (i + 1) * r.k ≤ n * r.k := Nat.mul_le_mul_right _ hin
          rw [Nat.add_mul] at this
          rw [List.getElem?_append_left (by rw [hlt']; omega), List.getElem?_take_of_lt (by omega)]
          simpa using a1
        · rw [List.getElem?_append_right (by simp; omega)] at f1
          simp only [List.length_take, Nat.min_eq_left hn] at f1
          obtain ⟨u, a1, a2⟩ := hnc (i - n) j x y f1 f2
          refine ⟨u, hcur _ _ ?_, a2⟩
          have e5 : i * r.k = n * r.k + (i - n) * r.k := by rw [← Nat.add_mul]; congr 1; omega
          rw [List.getElem?_append_right (by rw [hlt', e5]; omega), hlt', ← hk] at *
          rw [← a1]; congr 1; omega)
    rw [hk] at hst'
    exact hq ρ' F' _ _ hst'

/-- append onto nothing. -/
theorem opB_append_nil (hT : TabOk P tab) {dst : Option Nat} {T e ty : TypeId} {pos : String} {after : Array Edge} {guard : Option (Nat × Bool)} {g : Operand → SV} {h : Heap} {x y : Operand} {m : Nat} {ys : List (List SV)}
    (hx : g x = .nils) (hy : srcO h (g y) = some ys) (hm : ys.length = m) (hm0 : 0 < m) (hsh : (tab T).shape = .slice e) (hty : hasTy (tab e)) (hpos : 0 < (tab e).size)
    (hw : ∀ x ∈ ys, x.length = (tab e).size) (hsc : (ys.all fun x => x.all scal) = true) (hb : m * (tab e).bytes ≤ 140737488355328) (hN : m ≤ 9223372036854775807) :
    OpB P ⟨dst, .call ⟨.builtin .append, #[x, y], #[T, T]⟩, ty, pos, after, guard⟩ g h (.ref h.length 0 m) [some ⟨(tab e).size, e, ys⟩] := by
  intro ρ O F w a hs hr hfree next Q hn
  have hvx := hr x (by simp [Op.operands, Call.operands])
  have hvy := hr y (by simp [Op.operands, Call.operands])
  rw [hx] at hvx
  generalize hax : a.eval x = vx at hvx
  generalize hay : a.eval y = vy at hvy
  cases hvx
  subst hm
  obtain ⟨ad, c, k', rfl, hk', hcell⟩ := src_rel hs hvy hy hm0
  have hkk : k' = (tab e).size := by
    have h1 : ys[0]? = some ys[0] := by simp [hm0]
    have h2 := hw _ (List.mem_of_getElem? h1)
    have h3 := hk' _ (List.mem_of_getElem? h1)
    omega
  subst hkk
  obtain ⟨news, hl, hnews, hone, hnc⟩ := src_news hpos hw hsc hcell
  have hF := hT.ty hty
  obtain ⟨inf, z, hi, hi1, hi2, hi3, hi4⟩ := hF.info
  have hzc : z.cells.size = (tab e).size := by
    have : CRel ρ O F w (tab e).zero z.cells := zero_rel hi4
    rw [← this.1, hF.zlen]
  obtain ⟨v', w', hrun, hown', hgrow, _, hat⟩ := run_append_own_at (P := P) w 0 T ty e inf z (tab e).size (tab e).bytes (slice_under hT hsh) hi hi3 hi1 hi2 hzc hpos (.slice none 0 0) 0 [] (World.ownsRow_nil w 0 e _) ad ys.length c news hl hnews hone (by simpa [maxLen] using hN) (by simpa using hb) (Nat.zero_le _)
  have hexec : (execOp a.eval ⟨dst, .call ⟨.builtin .append, #[x, y], #[T, T]⟩, ty, pos, after, guard⟩).run P w = .ok (.value v') w' := by
    simp only [execOp, resolve, invoke, builtin, Sem.run_bind, Sem.run_pure, Result.andThen_ok, List.map_toArray, List.map_cons, List.map_nil, hax, hay, hrun]
  simp only [Oper.wp, hexec, Oper.upon]
  simp only [Nat.zero_add, List.nil_append] at hown'
  obtain ⟨g', cap', cur, rfl, _, g1, g2, g3, g4, g5⟩ : ∃ g cap cur, v' = .slice (some ⟨g, 0, none⟩) ys.length cap ∧ 0 ≤ g ∧ w'.heap[g]? = some (.cells cur e (0, 0)) ∧ ys.length ≤ cap ∧ cap ≤ maxLen ∧ cur.size = cap * (tab e).size ∧ cur.toList.take (ys.length * (tab e).size) = news := by
    rcases hown'.2 with ⟨_, h0⟩ | h0
    · omega
    · exact h0
  have hg' : g' = w.heap.size := by simpa [Value.ownBlock] using hat
  subst hg'
  have hcur : ∀ t u, news[t]? = some u → cur[t]? = some u := fun t u ht => by
    rw [← g5] at ht
    rw [List.getElem?_take] at ht
    split at ht
    · simpa using ht
    · cases ht
  have hf0 : ρ h.length = none := hfree _ (Nat.le_refl _) (by simp)
  have hx' : Ext ρ F w (fun i => if i = h.length then some ⟨w.heap.size, (tab e).size, cap' * (tab e).size⟩ else ρ i) F w' := by
    refine ⟨fun id ri e => ?_, fun id ri e e' => ?_, fun _ e => e, fun _ e e' => absurd e e', ⟨hgrow.os, hgrow.tape, hgrow.output, hgrow.size, fun b hb => hgrow.block b hb (by simp [Value.ownBlock])⟩⟩
    · have : id ≠ h.length := by rintro rfl; rw [hf0] at e; cases e
      simp only [if_neg this]; exact e
    · by_cases c : id = h.length
      · subst c; simp only [if_true] at e; cases e; exact Nat.le_refl _
      · simp only [if_neg c] at e; rw [e'] at e; cases e
  refine hn _ _ F w' hx' (fun id e => ?_) ⟨fun id' r' ri' e1 e2 => ?_, fun id1 id2 r1 r2 ri1 ri2 e1 e2 e3 e4 hb => ?_, fun b hb => Nat.lt_of_lt_of_le (hs.lt b hb) hgrow.size⟩ ?_
  · by_cases c : id = h.length
    · subst c; simp
    · simp only [if_neg c] at e; exact absurd rfl e
  · by_cases c : id' = h.length
    · subst c
      simp only [if_true] at e2
      cases e2
      rw [List.getElem?_append_right (Nat.le_refl _)] at e1
      simp at e1
      subst e1
      refine ⟨rfl, fun ho => Nat.lt_irrefl _ (hs.lt _ (.inl ho)), fun ho => Nat.lt_irrefl _ (hs.lt _ (.inr ho)), hw, cur, by rw [tyE_hard hF.lt, frE_hard hF.lt]; exact g1, g4, by rw [g4]; exact Nat.mul_le_mul_right _ g2, fun i j x y f1 f2 => ?_⟩
      obtain ⟨u, a1, a2⟩ := hnc i j x y f1 f2
      exact ⟨u, hcur _ _ a1, a2.ext hs.lt hx'⟩
    · simp only [if_neg c] at e2
      have hlt : id' < h.length := by
        have := (List.getElem?_eq_some_iff.1 e1).1
        simp at this; omega
      rw [List.getElem?_append_left hlt] at e1
      exact (hs.row id' r' ri' e1 e2).ext hs.lt hx'
  · have hlt : ∀ id r, id ≠ h.length → (h ++ [some (⟨(tab e).size, e, ys⟩ : Row)])[id]? = some (some r) → h[id]? = some (some r) := fun id r c e => by
      have : id < h.length := by
        have := (List.getElem?_eq_some_iff.1 e).1
        simp at this; omega
      rwa [List.getElem?_append_left this] at e
    by_cases c1 : id1 = h.length <;> by_cases c2 : id2 = h.length
    · rw [c1, c2]
    · subst c1
      simp only [if_true, if_neg c2] at e3 e4
      cases e3
      have := (hs.row id2 r2 ri2 (hlt id2 r2 c2 e2) e4).lt
      simp only [] at hb; omega
    · subst c2
      simp only [if_true, if_neg c1] at e3 e4
      cases e4
      have := (hs.row id1 r1 ri1 (hlt id1 r1 c1 e1) e3).lt
      simp only [] at hb; omega
    · simp only [if_neg c1, if_neg c2] at e3 e4
      exact hs.inj id1 id2 r1 r2 ri1 ri2 (hlt id1 r1 c1 e1) (hlt id2 r2 c2 e2) e3 e4 hb
  · have := VRel.ref (ρ := fun i => if i = h.length then some (⟨w.heap.size, (tab e).size, cap' * (tab e).size⟩ : RI) else ρ i) (O := O) (F := F) (w := w') h.length 0 ys.length cap' ⟨w.heap.size, (tab e).size, cap' * (tab e).size⟩ (by simp) (by omega) (by simp) (by simpa [maxLen] using g3)
    simpa using this
end
attribute [go_sem] srcO rowE
end Go.IL

set_option linter.unusedVariables false
set_option linter.unusedSimpArgs false
namespace Go.IL
open Go.RowKit

/-- A slice that is nil is one without elements. -/
def nz : SV → SV
  | .nils => .sl true []
  | .agg [a, b, .nils] => .agg [a, b, .sl true []]
  | s => s
theorem nz_rel {ρ : Rho} {O F : Nat → Prop} {w : World} {s : SV} {v : Value} (h : VRel ρ O F w s v) : VRel ρ O F w (nz s) v := by
  have key : ∀ v, VRel ρ O F w .nils v → VRel ρ O F w (.sl true []) v := fun v h => by
    cases h
    exact .sl true [] none 0 0 (fun _ _ => undef) (by simp) (by simp) (by omega) (by simp) (by simp)
  unfold nz
  split
  · exact key _ h
  · rename_i a b
    cases h with
    | agg cs vs hl hh =>
      refine .agg _ vs (by simpa using hl) fun i c v e1 e2 => ?_
      match i with
      | 0 => exact hh 0 c v (by simpa using e1) e2
      | 1 => exact hh 1 c v (by simpa using e1) e2
      | 2 => simp at e1; subst e1; exact key _ (hh 2 .nils v rfl e2)
      | i + 3 => simp at e1
  · exact h
theorem FSpec.nz {P : Program} {f : FuncId} {svs svs' : List SV} {sv : SV} {rows : List Row} (h : FSpec P f svs sv rows) (e : svs'.map Go.IL.nz = svs) : FSpec P f svs' sv rows := by
  subst e
  refine ⟨h.1, fun w cargs hA => h.2 w cargs ⟨by simpa using hA.1, fun i s v e1 e2 => ?_⟩⟩
  rw [List.getElem?_map] at e1
  obtain ⟨s', h1, rfl⟩ := Option.map_eq_some_iff.1 e1
  exact nz_rel (hA.2 i s' v h1 e2)
theorem nz_nils : nz .nils = .sl true [] := rfl
theorem nz_agg_nils (a b : SV) : nz (.agg [a, b, .nils]) = .agg [a, b, .sl true []] := rfl
theorem nz_agg_sl (a b : SV) (o : Bool) (xs : List (List SV)) : nz (.agg [a, b, .sl o xs]) = .agg [a, b, .sl o xs] := rfl
theorem nz_agg2 (a b : SV) : nz (.agg [a, b]) = .agg [a, b] := rfl
theorem nz_agg1 (a : SV) : nz (.agg [a]) = .agg [a] := rfl
theorem nz_int (k : IntKind) (n : Int) : nz (.int k n) = .int k n := rfl
theorem nz_bool (b : Bool) : nz (.bool b) = .bool b := rfl
theorem nz_str (b : ByteArray) : nz (.str b) = .str b := rfl
theorem nz_sl (o : Bool) (xs : List (List SV)) : nz (.sl o xs) = .sl o xs := rfl
theorem nz_clo (f : FuncId) (cs : List SV) : nz (.clo f cs) = .clo f cs := rfl

/-- A list made place by place, the first m of n. -/
def upto (f : Nat → Int) (n m : Nat) : List Int := (List.range n).map fun t => if t < m then f t else 0
theorem upto_length (f : Nat → Int) (n m : Nat) : (upto f n m).length = n := by simp [upto]
theorem upto_zero (f : Nat → Int) (n : Nat) : upto f n 0 = List.replicate n 0 := by
  apply List.ext_getElem
  · simp [upto]
  · intro i h1 h2; simp [upto]
theorem upto_set (f : Nat → Int) (n m : Nat) : (upto f n m).set m (f m) = upto f n (m + 1) := by
  apply List.ext_getElem
  · simp [upto]
  · intro i h1 h2
    simp only [upto, List.getElem_set, List.getElem_map, List.getElem_range]
    by_cases e : m = i
    · subst e; simp
    · rw [if_neg e]
      by_cases h : i < m
      · rw [if_pos h, if_pos (by omega)]
      · rw [if_neg h, if_neg (by omega)]
theorem upto_all (f : Nat → Int) (n : Nat) : upto f n n = (List.range n).map f := by
  apply List.ext_getElem
  · simp [upto]
  · intro i h1 h2
    simp only [upto, List.getElem_map, List.getElem_range]
    rw [if_pos (by simpa [upto] using h1)]
theorem upto_le (f : Nat → Int) (n m : Nat) (h : n ≤ m) : upto f n m = (List.range n).map f := by
  rw [← upto_all]
  apply List.ext_getElem
  · simp [upto]
  · intro i h1 h2
    simp only [upto, List.getElem_map, List.getElem_range]
    have : i < n := by simpa [upto] using h1
    rw [if_pos (by omega), if_pos this]
theorem upto_getD (f : Nat → Int) {n m i : Nat} (h : i < n) : (upto f n m).getD i 0 = if i < m then f i else 0 := by simp [upto, h]

/-- An image that a function gives back: none (no sides, no pixels), or sides and pixels. -/
abbrev Img := Option (Nat × Nat × List Int)
def imgSV : Img → SV
  | none => .agg [.int .i64 0, .int .i64 0, .nils]
  | some (w, h, p) => .agg [.int .i64 w, .int .i64 h, .ref 0 0 p.length]
def imgRows : Img → List Row
  | none => []
  | some (_, _, p) => [⟨1, 5, nums .u8 p⟩]

theorem opB_build_sl : True := trivial
section
variable {P : Program} {tab : Tab} {tm : TM} {h : Heap}
/-- A result that lies in a variable, with one row. -/
theorem Fin.cell1 {p T : Nat} {sv : SV} {r : Row} (i : Nat) (h0 : (match tm.get p with | .ptr _ _ _ => True | _ => False) ∧ loadO (tab T) h (tm.get p)) (h1 : sv.nold = true) (h3 : noldLL r.xs = true)
    (e : loadV (tab T) h (tm.get p) = sv.ren (sg [i] h.length)) (h4 : hrow h i = some (r.ren (sg [i] h.length))) : Fin tab [.cell p T] sv [r] .ret tm h :=
  ⟨⟨h0, trivial⟩, h1, by simp [rowsNold, h3], [i], rfl, (by simp), e, ⟨h4, trivial⟩⟩
theorem Fin.tmp1 {t : Nat} {sv : SV} {r : Row} (i : Nat) (h1 : sv.nold = true) (h3 : noldLL r.xs = true)
    (e : tm.get t = sv.ren (sg [i] h.length)) (h4 : hrow h i = some (r.ren (sg [i] h.length))) : Fin tab [.tmp t] sv [r] .ret tm h :=
  ⟨⟨trivial, trivial⟩, h1, by simp [rowsNold, h3], [i], rfl, (by simp), e, ⟨h4, trivial⟩⟩
end
theorem nums_scal (k : IntKind) (xs : List Int) : ((nums k xs).all fun x => x.all scal) = true := by simp [nums, scal]
theorem nums_w (k : IntKind) (xs : List Int) : ∀ x ∈ nums k xs, x.length = 1 := by simp [nums]
theorem nums_snoc (k : IntKind) (xs : List Int) (x : Int) : nums k xs ++ [[.int k x]] = nums k (xs ++ [x]) := by simp [nums]
theorem nums_one (k : IntKind) (x : Int) : [[SV.int k x]] = nums k [x] := rfl
theorem nums_takelen (k : IntKind) (xs : List Int) : (nums k xs).take xs.length = nums k xs := List.take_of_length_le (by simp [nums])
attribute [go_sem] nz_nils nz_agg_nils nz_agg_sl nz_agg2 nz_agg1 nz_int nz_bool nz_str nz_sl nz_clo upto_length nums_scal nums_replicate nums_takelen nums_snoc Row.ren sg List.length_set List.length_append
end Go.IL

set_option linter.unusedVariables false
set_option linter.unusedSimpArgs false
namespace Go.IL
open Go.RowKit
open Go.ChangeMaps (setBlock)

mutual
/-- There is no map in it. -/
def SV.nomap : SV → Bool
  | .agg cs | .tup cs | .clo _ cs => nomapL cs
  | .sl _ xs => nomapLL xs
  | .rptr _ x _ => nomapL x
  | .mp _ _ | .it _ _ _ => false
  | .cnd _ v => v.nomap
  | _ => true
def nomapL : List SV → Bool
  | [] => true
  | s :: r => s.nomap && nomapL r
def nomapLL : List (List SV) → Bool
  | [] => true
  | s :: r => nomapL s && nomapLL r
end
theorem nomapL_get : ∀ {l : List SV} {i : Nat} {s : SV}, nomapL l = true → l[i]? = some s → s.nomap = true
  | _ :: _, 0, _, h, e => by simp at e; subst e; simp [nomapL] at h; exact h.1
  | _ :: _, i + 1, _, h, e => by simp [nomapL] at h; exact nomapL_get h.2 (by simpa using e)
theorem nomapLL_get : ∀ {l : List (List SV)} {i : Nat} {s : List SV}, nomapLL l = true → l[i]? = some s → nomapL s = true
  | _ :: _, 0, _, h, e => by simp at e; subst e; simp [nomapLL] at h; exact h.1
  | _ :: _, i + 1, _, h, e => by simp [nomapLL] at h; exact nomapLL_get h.2 (by simpa using e)
theorem nums_nomap (k : IntKind) : ∀ xs : List Int, nomapLL (nums k xs) = true
  | [] => rfl
  | x :: xs => by show nomapLL ([SV.int k x] :: nums k xs) = true; simp [nomapLL, nomapL, SV.nomap, nums_nomap k xs]

/-- One block, no cells before or behind, turns. -/
theorem VRel.turn {ρ : Rho} {O F : Nat → Prop} {w w' : World} {b : Nat} (hoth : ∀ b', b' ≠ b → w'.heap[b']? = w.heap[b']?) (hnc : ∀ off, w.cell? ⟨b, off, none⟩ = none) {s : SV} {v : Value} (h : VRel ρ O F w s v) : s.nomap = true → VRel ρ O F w' s v := by
  have hcell : ∀ b' off u, w.cell? ⟨b', off, none⟩ = some u → w'.cell? ⟨b', off, none⟩ = some u := fun b' off u e => by
    have : b' ≠ b := by rintro rfl; rw [hnc] at e; cases e
    rw [cell_of_heap (hoth b' this), e]
  induction h with
  | any v => intro _; exact .any v
  | bool b => intro _; exact .bool b
  | int k n => intro _; exact .int k n
  | str s => intro _; exact .str s
  | raw v => intro _; exact .raw v
  | agg cs vs hl _ ih => intro hn; simp only [SV.nomap] at hn; exact .agg cs vs hl fun i c v e1 e2 => ih i c v e1 e2 (nomapL_get hn e1)
  | tup cs vs hl _ ih => intro hn; simp only [SV.nomap] at hn; exact .tup cs vs hl fun i c v e1 e2 => ih i c v e1 e2 (nomapL_get hn e1)
  | ptr id i j ri h => intro _; exact .ptr id i j ri h
  | ref id off m cap ri h h1 hc hm => intro _; exact .ref id off m cap ri h h1 hc hm
  | sl o xs a cap k cs hk hcap hm ha _ ih =>
    intro hn
    simp only [SV.nomap] at hn
    refine .sl o xs a cap k cs hk hcap hm (fun hp => ?_) fun i j x y e1 e2 => ih i j x y e1 e2 (nomapL_get (nomapLL_get hn e1) e2)
    obtain ⟨b', off, e, hb, hc⟩ := ha hp
    exact ⟨b', off, e, hb, fun i j hi hj => hcell _ _ _ (hc i j hi hj)⟩
  | rptr o x j b' off cs hb ha _ ih =>
    intro hn
    simp only [SV.nomap] at hn
    exact .rptr o x j b' off cs hb (fun i hi => hcell _ _ _ (ha i hi)) fun i y e => ih i y e (nomapL_get hn e)
  | mp => intro hn; cases hn
  | it => intro hn; cases hn
  | nils => intro _; exact .nils
  | nilp => intro _; exact .nilp
  | clo f cs vs hl _ ih => intro hn; simp only [SV.nomap] at hn; exact .clo f cs vs hl fun i c v e1 e2 => ih i c v e1 e2 (nomapL_get hn e1)
  | cnd g s v _ h0 ih => intro hn; simp only [SV.nomap] at hn; exact .cnd g s v (fun e => ih e hn) h0

/-- The temporaries without their maps. -/
def dropM : TM → TM
  | [] => []
  | (t, s) :: r => (t, bif s.nomap then s else .any) :: dropM r
theorem dropM_get : ∀ (tm : TM) (t : Nat), (dropM tm).get t = bif (tm.get t).nomap then tm.get t else .any
  | [], t => rfl
  | (u, s) :: r, t => by
    simp only [dropM, TM.get]
    by_cases e : u = t
    · simp only [if_pos e]
    · simp only [if_neg e]; exact dropM_get r t
def nomapH : Heap → Bool
  | [] => true
  | none :: r => nomapH r
  | some x :: r => nomapLL x.xs && nomapH r
theorem nomapH_get : ∀ {h : Heap} {i : Nat} {r : Row}, nomapH h = true → h[i]? = some (some r) → nomapLL r.xs = true
  | none :: _, 0, _, h, e => by simp at e
  | some x :: _, 0, _, h, e => by simp at e; subst e; simp [nomapH] at h; exact h.1
  | none :: _, i + 1, _, h, e => by simp only [nomapH] at h; exact nomapH_get h (by simpa using e)
  | some x :: _, i + 1, _, h, e => by simp [nomapH] at h; exact nomapH_get h.2 (by simpa using e)

section
variable {P : Program} {tab : Tab} {ops : Array Oper} {O : Nat → Prop} {w0 : Ctx} {N : Nat}

theorem St.turn {ρ : Rho} {F : Nat → Prop} {tm : TM} {h : Heap} {a : Act} {w w' : World} (hst : St O w0 N ρ F tm h a w) {b : Nat} (hF : F b) (hh : nomapH h = true) (hoth : ∀ b', b' ≠ b → w'.heap[b']? = w.heap[b']?) (hnc : ∀ off, w.cell? ⟨b, off, none⟩ = none)
    (hos : w'.os = w.os) (htape : w'.tape = w.tape) (hnd : ∀ o : Obj, book o = true → w.heap[b]? ≠ some o) (hout : w'.output = w.output) (hsz : w'.heap.size = w.heap.size) : St O w0 N ρ F (dropM tm) h a w' := by
  refine ⟨⟨fun id r ri e1 e2 => ?_, hst.sat.inj, fun b hb => by rw [hsz]; exact hst.sat.lt b hb⟩, hst.defers.next rfl (fun D e => (hoth D (by rintro rfl; exact hnd _ rfl e)).trans e), hst.size, fun t => ?_, ⟨hos.trans hst.keep.os, htape.trans hst.keep.tape, hout.trans hst.keep.output, by rw [hsz]; exact hst.keep.size, fun b' hb => (hoth b' (by rintro rfl; exact hst.fno _ hF hb)).trans (hst.keep.block b' hb), fun b' o e e' => (hoth b' (by rintro rfl; exact hnd o e' (hst.keep.books _ o e e'))).trans (hst.keep.books b' o e e')⟩, hst.free, hst.rno, hst.fno, hst.ext0⟩
  · have h1 := hst.sat.row id r ri e1 e2
    refine ⟨h1.k, h1.no, h1.nf, h1.wf, ?_⟩
    obtain ⟨arr, a1, a2, a3, a4⟩ := h1.cells
    refine ⟨arr, (hoth _ (by rintro e; exact h1.nf (e ▸ hF))).trans a1, a2, a3, fun i j x y f1 f2 => ?_⟩
    obtain ⟨v, g1, g2⟩ := a4 i j x y f1 f2
    exact ⟨v, g1, g2.turn hoth hnc (nomapL_get (nomapLL_get (nomapH_get hh e1) f1) f2)⟩
  · rw [dropM_get]
    cases hm : (tm.get t).nomap with
    | true => exact (hst.rel t).turn hoth hnc hm
    | false => exact .any _

theorem run_gom {b clock : Nat} {es : Array MapEntry} {w : World} (hb : w.heap[b]? = some (.map es clock)) : (getObj b).run P w = .ok (.map es clock) w := by simp [getObj, Sem.run, hb]
theorem run_som {b clock : Nat} {es : Array MapEntry} {w : World} (o : Obj) (hb : w.heap[b]? = some (.map es clock)) : (setObj b o).run P w = .ok () { w with heap := w.heap.setIfInBounds b o } := by simp [setObj, Sem.run, hb]
/-- make(map[K]V) -/
theorem opB_makeMap {dst : Option Nat} {T ty : TypeId} {pos : String} {after : Array Edge} {guard : Option (Nat × Bool)} {g : Operand → SV} {h : Heap} :
    OpB P ⟨dst, .makeMap T none, ty, pos, after, guard⟩ g h (.mp false []) [] := by
  intro ρ O F w a hs hr hfree next Q hn
  have hexec : (execOp a.eval ⟨dst, .makeMap T none, ty, pos, after, guard⟩).run P w = .ok (.value (.map (some w.heap.size))) (w.alloc (.map #[] 0)) := by
    simp only [execOp, Option.map_none]
    rw [run_bind, run_makeMap]
    rfl
  simp only [Oper.wp, hexec, Oper.upon]
  have hx : Ext ρ F w ρ (fun b => F b ∨ b = w.heap.size) (w.alloc (.map #[] 0)) :=
    ⟨fun _ _ h => h, fun id ri h h' => (by rw [h'] at h; cases h), fun _ h => .inl h, fun b h h' => by rcases h with h | h; exact absurd h h'; omega, (Below.refl _ _).alloc (Nat.le_refl _) _⟩
  refine hn _ ρ _ _ hx (fun id e => absurd rfl e) ⟨fun id r ri e1 e2 => ?_, fun id id' r r' ri ri' e1 e1' e2 e2' hb => ?_, fun b hb => ?_⟩ ?_
  · rw [List.append_nil] at e1
    exact (hs.row id r ri e1 e2).ext hs.lt hx
  · rw [List.append_nil] at e1 e1'
    exact hs.inj id id' r r' ri ri' e1 e1' e2 e2' hb
  · rw [World.alloc_size]
    rcases hb with hb | hb | hb
    · have := hs.lt b (.inl hb); omega
    · have := hs.lt b (.inr hb); omega
    · omega
  · exact .mp false [] w.heap.size #[] (fun _ _ => undef) (.inl (.inr rfl)) (World.alloc_get _ _) (by simp) rfl (by simp) (by simp)

/-- Keys that are ints, none of them n. -/
def keysNe (n : Int) : List (List SV) → Bool
  | [] => true
  | [.int .i64 m, _] :: r => (m != n) && keysNe n r
  | _ => false
theorem keysNe_get {n : Int} : ∀ {xs : List (List SV)} {i : Nat} {x : List SV}, keysNe n xs = true → xs[i]? = some x → ∃ m v, x = [.int .i64 m, v] ∧ m ≠ n
  | x :: r, i, y, h, e => by
    unfold keysNe at h
    split at h
    · rename_i e0; cases e0
    · rename_i m v r' e0
      cases e0
      simp only [Bool.and_eq_true, bne_iff_ne, ne_eq] at h
      cases i with
      | zero => simp at e; subst e; exact ⟨m, v, rfl, h.1⟩
      | succ i => exact keysNe_get h.2 (by simpa using e)
    · cases h
theorem findNow_none {k : Int} : ∀ (es : List MapEntry) (i : Nat), (∀ e ∈ es, ∃ m, e.key = .int .i64 m ∧ m ≠ k) → Instr.findNow (.int .i64) (.int .i64 k) es i = some none
  | [], _, _ => rfl
  | e :: es, i, h => by
    obtain ⟨m, h1, h2⟩ := h e (by simp)
    have h3 := findNow_none es (i + 1) fun e he => h e (by simp [he])
    unfold Instr.findNow
    rw [h1]
    have : (k == m) = false := by simp; exact fun h => h2 h.symm
    simp only [Instr.sameNow, if_true, this]
    exact h3
theorem run_checkKey_int {kt : TypeId} (hk : P.underlying kt = some (.int .i64)) (e : Bool) (n : Nat) (k : Int) (w : World) : (Instr.checkKey e (n + 1) kt (.int .i64 k)).run P w = .ok () w := by
  unfold Instr.checkKey
  rw [run_bind, run_underlying' hk]
  rfl

/-- m[k] = v, k a new key. -/
theorem opS_insert {T kt et ty : TypeId} {pos : String} {after : Array Edge} {tm : TM} {h : Heap} {t : Nat} {k x : Operand} {n : Int} {xs : List (List SV)} (hm : tm.get t = .mp false xs) (hk : opnd tm k = .int .i64 n) (hx : (opnd tm x).nomap = true)
    (hu : P.underlying T = some (.map kt et)) (hkt : P.underlying kt = some (.int .i64)) (hne : keysNe n xs = true) (hh : nomapH h = true) (hxm : nomapLL xs = true) (ht : t < N) :
    OpS P O w0 N ⟨none, .insert T (.tmp t) k x, ty, pos, after, none⟩ tm h ((t, .mp false (xs ++ [[.int .i64 n, opnd tm x]])) :: dropM tm) h := by
  intro ρ F a w hst next Q hn
  have hvm := hst.rel t
  have hvk := opnd_rel (a := a) k (fun t _ => hst.rel t)
  have hvx := opnd_rel (a := a) x (fun t _ => hst.rel t)
  rw [hm] at hvm
  rw [hk] at hvk
  generalize ham : a.tmps.getD t undef = vm at hvm
  generalize hak : a.eval k = vk at hvk
  generalize hax : a.eval x = vx at hvx
  cases hvk
  cases hvm with
  | mp _ _ b es cs hb hw hk2 hsz he hh2 =>
    have hFb : F b := hb.resolve_right fun h => by cases h.1
    have hfind : Instr.findNow (.int .i64) (.int .i64 n) es.toList 0 = some none := findNow_none _ _ fun e he' => by
      obtain ⟨i, hi⟩ := List.mem_iff_getElem?.1 he'
      have hi' : es[i]? = some e := by simpa using hi
      have hlt : i < xs.length := by rw [← hsz]; exact (Array.getElem?_eq_some_iff.1 hi').1
      obtain ⟨m, v, h1, h2⟩ := keysNe_get hne (show xs[i]? = some xs[i] by simp [hlt])
      rw [he i hlt] at hi'
      cases hi'
      have h3 := hh2 i 0 _ (.int .i64 m) (show xs[i]? = some xs[i] by simp [hlt]) (by rw [h1]; rfl)
      generalize cs i 0 = c at h3
      cases h3
      exact ⟨m, rfl, h2⟩
    have hrun : (Instr.mapUpdate T (.map (some b)) (.int .i64 n) vx).run P w = .ok () (setBlock w b (.map (es.push ⟨.int .i64 n, vx, xs.length⟩) (xs.length + 1))) := by
      simp only [Instr.mapUpdate]
      rw [run_bind, run_underlying' hu]
      simp only []
      rw [run_bind, run_gom hw]
      simp only []
      rw [run_bind, run_checkKey_int hkt]
      simp only []
      rw [run_bind]
      unfold Instr.findKey
      rw [run_bind, run_underlying' hkt]
      simp only [hfind, run_pure]
      rw [run_som _ hw]
      rfl
    have hexec : (execOp a.eval ⟨none, .insert T (.tmp t) k x, ty, pos, after, none⟩).run P w = .ok .skip (setBlock w b (.map (es.push ⟨.int .i64 n, vx, xs.length⟩) (xs.length + 1))) := by
      simp only [execOp, hak, hax]
      rw [show a.eval (.tmp t) = .map (some b) from ham, run_bind, hrun]
      rfl
    simp only [Oper.wp, hexec, Oper.upon]
    have hblt : b < w.heap.size := (Array.getElem?_eq_some_iff.1 hw).1
    have hoth : ∀ b', b' ≠ b → (setBlock w b (.map (es.push ⟨.int .i64 n, vx, xs.length⟩) (xs.length + 1))).heap[b']? = w.heap[b']? := fun b' hb' => by
      simp only [setBlock]; rw [Array.getElem?_setIfInBounds_ne (fun h => hb' h.symm)]
    have hnc : ∀ off, w.cell? ⟨b, off, none⟩ = none := fun off => by simp [World.cell?, hw]
    have hst' := hst.turn (w' := setBlock w b (.map (es.push ⟨.int .i64 n, vx, xs.length⟩) (xs.length + 1))) hFb hh hoth hnc rfl rfl (fun o ho e => by rw [hw] at e; cases e; cases ho) rfl (by simp [setBlock])
    refine hn ρ F (a.put none undef) _ ⟨hst'.sat, hst'.defers, hst'.size, fun u => ?_, hst'.keep, hst'.free, hst'.rno, hst'.fno, hst'.ext0⟩
    simp only [TM.get]
    by_cases e : t = u
    · rw [if_pos e, ← e, show (a.put none undef).tmps.getD t undef = a.tmps.getD t undef from rfl, ham]
      refine .mp false _ b (es.push ⟨.int .i64 n, vx, xs.length⟩) (fun i j => if i < xs.length then cs i j else if j = 0 then .int .i64 n else vx) (.inl hFb) (by simp [setBlock, hblt]) (fun x hx => ?_) (by simp [hsz]) (fun i hi => ?_) fun i j x y e1 e2 => ?_
      · rcases List.mem_append.1 hx with hx | hx
        · exact hk2 x hx
        · simp at hx; subst hx; rfl
      · simp only [List.length_append, List.length_singleton] at hi
        by_cases c : i < xs.length
        · rw [Array.getElem?_push_lt (by omega)]
          have := he i c
          rw [Array.getElem?_eq_getElem (by omega)] at this
          simp only [if_pos c]
          exact this
        · simp only [if_neg c]
          rw [show i = es.size by omega, Array.getElem?_push_size]
          simp [hsz]
      · by_cases c : i < xs.length
        · rw [List.getElem?_append_left c] at e1
          simp only [if_pos c]
          exact (hh2 i j x y e1 e2).turn hoth hnc (nomapL_get (nomapLL_get hxm e1) e2)
        · rw [List.getElem?_append_right (by omega)] at e1
          simp only [if_neg c]
          cases hi : i - xs.length with
          | succ _ => rw [hi] at e1; simp at e1
          | zero =>
            rw [hi] at e1; simp at e1; subst e1
            match j with
            | 0 => simp at e2; subst e2; exact .int _ _
            | 1 => simp at e2; subst e2; exact hvx.turn hoth hnc hx
            | j + 2 => simp at e2
    · rw [if_neg e]; exact hst'.rel u

/-- The entry of a key. -/
def lk (n : Int) : List (List SV) → Option SV
  | [] => none
  | [.int .i64 m, v] :: r => bif m == n then some v else lk n r
  | _ => none
def keysI : List (List SV) → Bool
  | [] => true
  | [.int .i64 _, _] :: r => keysI r
  | _ => false
theorem lk_find {ρ : Rho} {F : Nat → Prop} {w : World} {n : Int} : ∀ (xs : List (List SV)) (es : List MapEntry) (i : Nat), keysI xs = true → es.length = xs.length →
    (∀ (j : Nat) (x : List SV) (e : MapEntry), xs[j]? = some x → es[j]? = some e → ∀ y, x[0]? = some y → VRel ρ O F w y e.key) →
    (∀ (j : Nat) (x : List SV) (e : MapEntry), xs[j]? = some x → es[j]? = some e → ∀ y, x[1]? = some y → VRel ρ O F w y e.val) →
    (lk n xs = none ∧ Instr.findNow (.int .i64) (.int .i64 n) es i = some none) ∨ ∃ s v j, lk n xs = some s ∧ Instr.findNow (.int .i64) (.int .i64 n) es i = some (some (j, v)) ∧ VRel ρ O F w s v
  | [], [], i, _, _, _, _ => .inl ⟨rfl, rfl⟩
  | [], _ :: _, i, _, hl, _, _ => by simp at hl
  | _ :: _, [], i, _, hl, _, _ => by simp at hl
  | x :: xs, e :: es, i, hk, hl, h0, h1 => by
    unfold keysI at hk
    split at hk
    · rename_i e0; cases e0
    · rename_i m v r' e0
      cases e0
      have hkey := h0 0 _ e rfl rfl (.int .i64 m) rfl
      have hval := h1 0 _ e rfl rfl v rfl
      generalize hek : e.key = ek at hkey
      cases hkey
      by_cases c : m = n
      · subst c
        refine .inr ⟨v, e.val, i, by simp [lk], ?_, hval⟩
        unfold Instr.findNow
        rw [hek]; simp [Instr.sameNow]
      · have ih := lk_find (n := n) _ es (i + 1) hk (by simpa using hl) (fun j x e' a1 a2 => h0 (j + 1) x e' (by simpa using a1) (by simpa using a2)) (fun j x e' a1 a2 => h1 (j + 1) x e' (by simpa using a1) (by simpa using a2))
        have e1 : lk n ([SV.int .i64 m, v] :: xs) = lk n xs := by
          have : (m == n) = false := by simpa using c
          simp [lk, this]
        have e2 : Instr.findNow (.int .i64) (.int .i64 n) (e :: es) i = Instr.findNow (.int .i64) (.int .i64 n) es (i + 1) := by
          conv => lhs; unfold Instr.findNow
          rw [hek]
          have : (n == m) = false := by simp; exact fun h => c h.symm
          simp [Instr.sameNow, this]
        rw [e1, e2]; exact ih
    · cases hk

/-- v, ok := m[k] -/
theorem opB_lookup (hT : TabOk P tab) {dst : Option Nat} {T kt et ty : TypeId} {pos : String} {after : Array Edge} {guard : Option (Nat × Bool)} {g : Operand → SV} {h : Heap} {x k : Operand} {o : Bool} {xs : List (List SV)} {n : Int}
    (hx : g x = .mp o xs) (hk : g k = .int .i64 n) (hu : P.underlying T = some (.map kt et)) (hkt : P.underlying kt = some (.int .i64)) (hty : hasTy (tab et)) (hz : (tab et).zero = [.nils]) (hagg : (tab et).agg = false) (hki : keysI xs = true) :
    OpB P ⟨dst, .lookup T x k true, ty, pos, after, guard⟩ g h (match lk n xs with | some s => .tup [s, .bool true] | none => .tup [.nils, .bool false]) [] := by
  intro ρ O F w a hs hr hfree next Q hn
  have hvx := hr x (by simp [Op.operands])
  have hvk := hr k (by simp [Op.operands])
  rw [hx] at hvx
  rw [hk] at hvk
  generalize hax : a.eval x = vx at hvx
  generalize hak : a.eval k = vk at hvk
  cases hvk
  cases hvx with
  | mp _ _ b es cs hb hw hk2 hsz he hh2 =>
    have hfk := lk_find (O := O) (ρ := ρ) (F := F) (w := w) (n := n) xs es.toList 0 hki (by simpa using hsz) (fun j x e e1 e2 y e3 => by
      have hlt := (List.getElem?_eq_some_iff.1 e1).1
      have e4 : es[j]? = some e := by simpa using e2
      rw [he j hlt] at e4; cases e4
      exact hh2 j 0 x y e1 e3) (fun j x e e1 e2 y e3 => by
      have hlt := (List.getElem?_eq_some_iff.1 e1).1
      have e4 : es[j]? = some e := by simpa using e2
      rw [he j hlt] at e4; cases e4
      exact hh2 j 1 x y e1 e3)
    have hrun : ∃ v, (Instr.lookup T (.map (some b)) (.int .i64 n) true).run P w = .ok v w ∧ VRel ρ O F w (match lk n xs with | some s => .tup [s, .bool true] | none => .tup [.nils, .bool false]) v := by
      simp only [Instr.lookup]
      rw [run_bind, run_underlying' hu]
      simp only []
      rw [run_bind, run_gom hw]
      simp only []
      rw [run_bind, run_pure]
      simp only []
      rw [run_bind, run_checkKey_int hkt]
      simp only []
      rcases hfk with ⟨h1, h2⟩ | ⟨s, v, j, h1, h2, h3⟩
      · obtain ⟨z, hz1, hz2⟩ := (hT.ty hty).zeroValue
        have hzn : VRel ρ O F w .nils z := by
          have := zero_rel (ρ := ρ) (O := O) (F := F) (w := w) hz1
          rw [hz] at this
          obtain ⟨c1, c2⟩ := this
          cases z <;> simp only [Value.cells, List.length_cons, List.length_nil, List.size_toArray] at c1 c2
          case agg cs' => unfold zeroOk at hz1; rw [hagg, hz] at hz1; simp at hz1
          all_goals exact c2 0 .nils _ rfl rfl
        refine ⟨.tuple #[z, .bool false], ?_, ?_⟩
        · rw [run_bind]
          unfold Instr.findKey
          rw [run_bind, run_underlying' hkt]
          simp only [h2, run_pure]
          rw [run_bind, hz2]
          simp only [run_bind, run_pure, if_true]
        · rw [h1]
          refine .tup _ _ rfl fun i c v e1 e2 => ?_
          match i with
          | 0 => simp at e1 e2; subst e1; subst e2; exact hzn
          | 1 => simp at e1 e2; subst e1; subst e2; exact .bool _
          | i + 2 => simp at e1
      · refine ⟨.tuple #[v, .bool true], ?_, ?_⟩
        · rw [run_bind]
          unfold Instr.findKey
          rw [run_bind, run_underlying' hkt]
          simp only [h2, run_bind, run_pure, if_true]
        · rw [h1]
          refine .tup _ _ rfl fun i c u e1 e2 => ?_
          match i with
          | 0 => simp at e1 e2; subst e1; subst e2; exact h3
          | 1 => simp at e1 e2; subst e1; subst e2; exact .bool _
          | i + 2 => simp at e1
    obtain ⟨v, hrun, hvv⟩ := hrun
    have hexec : (execOp a.eval ⟨dst, .lookup T x k true, ty, pos, after, guard⟩).run P w = .ok (.value v) w := by
      simp only [execOp, hax, hak]
      rw [run_bind, hrun]
      rfl
    simp only [Oper.wp, hexec, Oper.upon]
    exact hn v ρ F w (Ext.refl _ _ _) (fun id e => absurd rfl e) (by rw [List.append_nil]; exact hs) hvv
end
end Go.IL

set_option linter.unusedVariables false
set_option linter.unusedSimpArgs false
namespace Go.IL
open Go.RowKit
open Go.ChangeMaps (setBlock)
section
variable {P : Program} {tab : Tab} {ops : Array Oper} {O : Nat → Prop} {w0 : Ctx} {N : Nat}

/-- range over a map -/
theorem opB_range {dst : Option Nat} {T kt et ty : TypeId} {pos : String} {after : Array Edge} {guard : Option (Nat × Bool)} {g : Operand → SV} {h : Heap} {x : Operand} {o : Bool} {xs : List (List SV)}
    (hx : g x = .mp o xs) (hu : P.underlying T = some (.map kt et)) : OpB P ⟨dst, .range T x, ty, pos, after, guard⟩ g h (.it o xs []) [] := by
  intro ρ O F w a hs hr hfree next Q hn
  have hvx := hr x (by simp [Op.operands])
  rw [hx] at hvx
  generalize hax : a.eval x = vx at hvx
  cases hvx with
  | mp _ _ b es cs hb hw hk2 hsz he hh2 =>
    have hexec : (execOp a.eval ⟨dst, .range T x, ty, pos, after, guard⟩).run P w = .ok (.value (.pointer (some ⟨w.heap.size, 0, none⟩))) (w.alloc (.mapIter (some b) xs.length #[] xs.length)) := by
      simp only [execOp, Instr.range, hax]
      rw [run_bind, run_bind, run_underlying' hu]
      simp only []
      rw [run_bind, run_gom hw]
      simp only []
      rw [run_bind, run_pure]
      simp only []
      rw [run_bind, run_newObj_alloc]
      rfl
    simp only [Oper.wp, hexec, Oper.upon]
    have hx : Ext ρ F w ρ (fun b => F b ∨ b = w.heap.size) (w.alloc (.mapIter (some b) xs.length #[] xs.length)) :=
      ⟨fun _ _ h => h, fun id ri h h' => (by rw [h'] at h; cases h), fun _ h => .inl h, fun b h h' => by rcases h with h | h; exact absurd h h'; omega, (Below.refl _ _).alloc (Nat.le_refl _) _⟩
    have hblt : b < w.heap.size := (Array.getElem?_eq_some_iff.1 hw).1
    refine hn _ ρ _ _ hx (fun id e => absurd rfl e) ⟨fun id r ri e1 e2 => ?_, fun id id' r r' ri ri' e1 e1' e2 e2' hb => ?_, fun b hb => ?_⟩ ?_
    · rw [List.append_nil] at e1
      exact (hs.row id r ri e1 e2).ext hs.lt hx
    · rw [List.append_nil] at e1 e1'
      exact hs.inj id id' r r' ri ri' e1 e1' e2 e2' hb
    · rw [World.alloc_size]
      rcases hb with hb | hb | hb
      · have := hs.lt b (.inl hb); omega
      · have := hs.lt b (.inr hb); omega
      · omega
    · exact .it o xs [] w.heap.size b es cs (.inr rfl) (World.alloc_get _ _) (hb.imp .inl id) ((hx.below.block b hblt).trans hw) hk2 hsz he fun i j x y e1 e2 => (hh2 i j x y e1 e2).ext hs.lt hx

theorem St.drew {ρ : Rho} {F : Nat → Prop} {tm : TM} {h : Heap} {a : Act} {w : World} (hst : St O w0 N ρ F tm h a w) : St O w0 N ρ F tm h a w.drew := by
  have hI : ∀ o b, Im O F o b → Im O F o b ∧ w.drew.heap[b]? = w.heap[b]? := fun o b hb => ⟨hb, rfl⟩
  refine ⟨⟨fun id r ri e1 e2 => ?_, hst.sat.inj, hst.sat.lt⟩, hst.defers.next rfl (fun D e => e), hst.size, fun t => (hst.rel t).mono (fun _ _ h => h) hI, ⟨hst.keep.os, hst.keep.tape, hst.keep.output, hst.keep.size, hst.keep.block, hst.keep.books⟩, hst.free, hst.rno, hst.fno, hst.ext0⟩
  have h1 := hst.sat.row id r ri e1 e2
  refine ⟨h1.k, h1.no, h1.nf, h1.wf, ?_⟩
  obtain ⟨arr, a1, a2, a3, a4⟩ := h1.cells
  exact ⟨arr, a1, a2, a3, fun i j x y f1 f2 => (a4 i j x y f1 f2).elim fun v hv => ⟨v, hv.1, hv.2.mono (fun _ _ h => h) hI⟩⟩

theorem St.putv {ρ : Rho} {F : Nat → Prop} {tm : TM} {h : Heap} {a : Act} {w : World} (hst : St O w0 N ρ F tm h a w) {dst : Option Nat} (hd : ∀ d, dst = some d → d < N) {sv : SV} {v : Value} (hv : VRel ρ O F w sv v) : St O w0 N ρ F (tm.put dst sv) h (a.put dst v) w :=
  hst.step (Ext.refl _ _ _) hst.sat hv hd hst.free

def nextOk (n : Nat) (seen : List Nat) : Option Nat → Prop
  | none => ∀ i, i < n → i ∈ seen
  | some j => j < n ∧ j ∉ seen
def nextTo (tm : TM) (h : Heap) (dst : Option Nat) (t : Nat) (o : Bool) (xs : List (List SV)) (seen : List Nat) : Option Nat → TM × Heap
  | none => (tm.put dst (.tup [.bool false]), h)
  | some j => (TM.put ((t, .it o xs (seen ++ [j])) :: dropM tm) dst (.tup [.bool true, cellAt (elAt xs j) 0, cellAt (elAt xs j) 1]), h)

theorem opN_next {ty : TypeId} {pos : String} {after : Array Edge} {tm : TM} {h : Heap} {dst : Option Nat} {t : Nat} {o : Bool} {xs : List (List SV)} {seen : List Nat} (hm : tm.get t = .it o xs seen) (hh : nomapH h = true) (hxm : nomapLL xs = true) (hd : ∀ d, dst = some d → d < N) :
    OpN P O w0 N ⟨dst, .next (.tmp t) false, ty, pos, after, none⟩ tm h (nextOk xs.length seen) (nextTo tm h dst t o xs seen) := by
  intro ρ F a w hst next Q hn
  have hvm := hst.rel t
  rw [hm] at hvm
  generalize ham : a.tmps.getD t undef = vm at hvm
  cases hvm with
  | it _ _ _ r b es cs hr hrw hb hw hk2 hsz he hh2 =>
    have hborn : ∀ e ∈ es.toList, ∃ i, i < xs.length ∧ es[i]? = some e ∧ e.born = i := fun e hm => by
      obtain ⟨i, hi⟩ := List.mem_iff_getElem?.1 hm
      have hi' : es[i]? = some e := by simpa using hi
      have hlt : i < xs.length := by rw [← hsz]; exact (Array.getElem?_eq_some_iff.1 hi').1
      refine ⟨i, hlt, hi', ?_⟩
      rw [he i hlt] at hi'; cases hi'; rfl
    have hev : a.eval (.tmp t) = .pointer (some ⟨r, 0, none⟩) := ham
    rcases run_next_at (P := P) w ty r b xs.length xs.length seen.toArray es xs.length hrw hw (fun x hx => by obtain ⟨i, h1, _, h2⟩ := hborn x hx; omega) (Nat.le_refl _) with ⟨h1, h2⟩ | ⟨e, he1, w1, hw1, h2⟩
    · have hexec : (execOp a.eval ⟨dst, .next (.tmp t) false, ty, pos, after, none⟩).run P w = .ok (.value (.tuple #[.bool false])) w := by
        simp only [execOp, hev]
        rw [run_bind, h2]
        rfl
      simp only [Oper.wp, hexec, Oper.upon]
      refine hn none (fun i hi => ?_) ρ F _ w (hst.putv hd (.tup _ _ rfl fun i c v e1 e2 => ?_))
      · have hemp : leftOf es seen.toArray = #[] := Array.eq_empty_of_size_eq_zero h1
        unfold leftOf at hemp
        rw [Array.filter_eq_empty_iff] at hemp
        have h3 := hemp ⟨cs i 0, cs i 1, i⟩ (Array.mem_of_getElem? (he i hi))
        simpa using h3
      · cases i with
        | zero => simp at e1 e2; subst e1; subst e2; exact .bool _
        | succ i => simp at e1
    · have he2 : e ∈ es.toList ∧ e.born ∉ seen := by
        unfold leftOf at he1
        simp at he1
        exact ⟨by simpa using he1.1, by simpa using he1.2⟩
      obtain ⟨j, hj, hj1, hj2⟩ := hborn e he2.1
      have hst1 : St O w0 N ρ F tm h a w1 := by rcases hw1 with rfl | rfl; exact hst; exact hst.drew
      have hheap : w1.heap = w.heap := by rcases hw1 with rfl | rfl <;> rfl
      have hrlt : r < w1.heap.size := by rw [hheap]; exact (Array.getElem?_eq_some_iff.1 hrw).1
      have hexec : (execOp a.eval ⟨dst, .next (.tmp t) false, ty, pos, after, none⟩).run P w = .ok (.value (.tuple #[.bool true, e.key, e.val])) (setBlock w1 r (.mapIter (some b) xs.length (seen.toArray.push e.born) xs.length)) := by
        simp only [execOp, hev]
        rw [run_bind, h2]
        rfl
      simp only [Oper.wp, hexec, Oper.upon]
      have hoth : ∀ b', b' ≠ r → (setBlock w1 r (.mapIter (some b) xs.length (seen.toArray.push e.born) xs.length)).heap[b']? = w1.heap[b']? := fun b' hb' => by
        simp only [setBlock]; rw [Array.getElem?_setIfInBounds_ne (fun h => hb' h.symm)]
      have hnc : ∀ off, w1.cell? ⟨r, off, none⟩ = none := fun off => by simp [World.cell?, hheap, hrw]
      have hst' := hst1.turn (w' := setBlock w1 r (.mapIter (some b) xs.length (seen.toArray.push e.born) xs.length)) hr hh hoth hnc rfl rfl (fun o ho e => by rw [hheap, hrw] at e; cases e; cases ho) rfl (by simp [setBlock])
      have hbr : b ≠ r := by rintro rfl; rw [hw] at hrw; cases hrw
      have hval : ∀ i j x y, xs[i]? = some x → x[j]? = some y → VRel ρ O F (setBlock w1 r (.mapIter (some b) xs.length (seen.toArray.push e.born) xs.length)) y (cs i j) := fun i j x y e1 e2 =>
        ((hh2 i j x y e1 e2).mono (w' := w1) (fun _ _ h => h) fun o b hb => ⟨hb, by rw [hheap]⟩).turn hoth hnc (nomapL_get (nomapLL_get hxm e1) e2)
      have hst2 : St O w0 N ρ F ((t, .it o xs (seen ++ [j])) :: dropM tm) h a (setBlock w1 r (.mapIter (some b) xs.length (seen.toArray.push e.born) xs.length)) := by
        refine ⟨hst'.sat, hst'.defers, hst'.size, fun u => ?_, hst'.keep, hst'.free, hst'.rno, hst'.fno, hst'.ext0⟩
        simp only [TM.get]
        by_cases c : t = u
        · rw [if_pos c, ← c, ham]
          refine .it o xs (seen ++ [j]) r b es cs hr ?_ hb ((hoth b hbr).trans (by rw [hheap]; exact hw)) hk2 hsz he hval
          simp only [setBlock]
          rw [Array.getElem?_setIfInBounds_self_of_lt hrlt, hj2]
          simp
        · rw [if_neg c]; exact hst'.rel u
      refine hn (some j) ⟨hj, by rw [← hj2]; exact he2.2⟩ ρ F _ _ (hst2.putv hd (.tup _ _ rfl fun i c v e1 e2 => ?_))
      have hx : xs[j]? = some (elAt xs j) := row_at hj
      have hx2 : (elAt xs j).length = 2 := hk2 _ (List.mem_of_getElem? hx)
      have he3 := he j hj
      rw [hj1] at he3
      cases he3
      match i with
      | 0 => simp at e1 e2; subst e1; subst e2; exact .bool _
      | 1 => simp at e1 e2; subst e1; subst e2; exact hval j 0 _ _ hx (rel_at (by omega))
      | 2 => simp at e1 e2; subst e1; subst e2; exact hval j 1 _ _ hx (rel_at (by omega))
      | i + 3 => simp at e1

/-- The round's key and value. -/
theorem opB_entry {dst : Option Nat} {ty : TypeId} {pos : String} {after : Array Edge} {guard : Option (Nat × Bool)} {g : Operand → SV} {h : Heap} {x : Operand} {o : Bool} {xs : List (List SV)} {seen : List Nat} {j : Nat}
    (hx : g x = .it o xs (seen ++ [j])) (hj : j < xs.length) : OpB P ⟨dst, .entry x, ty, pos, after, guard⟩ g h (.tup [cellAt (elAt xs j) 0, cellAt (elAt xs j) 1]) [] := by
  intro ρ O F w a hs hr hfree next Q hn
  have hvx := hr x (by simp [Op.operands])
  rw [hx] at hvx
  generalize hax : a.eval x = vx at hvx
  cases hvx with
  | it _ _ _ r b es cs hrF hrw hb hw hk2 hsz he hh2 =>
    have hrun := run_entry_at (P := P) w r b xs.length seen.toArray es xs.length ⟨cs j 0, cs j 1, j⟩ (by simpa using hrw) hw (by simpa using Array.mem_of_getElem? (he j hj)) (by
      have : es.toList.map (·.born) = List.range xs.length := by
        apply List.ext_getElem
        · simp [hsz]
        · intro i h1 h2
          have h3 : i < xs.length := by simpa using h2
          have := he i h3
          rw [Array.getElem?_eq_getElem (by omega)] at this
          simp only [List.getElem_map, List.getElem_range, Array.getElem_toList]
          rw [Option.some.inj this]
      rw [this]; exact List.nodup_range)
    have hexec : (execOp a.eval ⟨dst, .entry x, ty, pos, after, guard⟩).run P w = .ok (.value (.tuple #[cs j 0, cs j 1])) w := by
      simp only [execOp, hax]
      rw [run_bind, hrun]
      rfl
    simp only [Oper.wp, hexec, Oper.upon]
    refine hn _ ρ F w (Ext.refl _ _ _) (fun id e => absurd rfl e) (by rw [List.append_nil]; exact hs) (.tup _ _ rfl fun i c v e1 e2 => ?_)
    have hx : xs[j]? = some (elAt xs j) := row_at hj
    have hx2 : (elAt xs j).length = 2 := hk2 _ (List.mem_of_getElem? hx)
    match i with
    | 0 => simp at e1 e2; subst e1; subst e2; exact hh2 j 0 _ _ hx (rel_at (by omega))
    | 1 => simp at e1 e2; subst e1; subst e2; exact hh2 j 1 _ _ hx (rel_at (by omega))
    | i + 2 => simp at e1
end
attribute [go_sem] SV.nomap nomapL nomapLL nomapH dropM keysNe keysI lk nums_nomap
end Go.IL

set_option linter.unusedVariables false
set_option linter.unusedSimpArgs false
namespace Go.IL
open Go.RowKit

section
variable {P : Program} {O : Nat → Prop} {c : Ctx} {N k n : Nat} {ops : Array Oper} {Q : Exit → Act → World → Prop}

/-! ### The same walk in a round of a loop over a function -/
def noDefer (ops : Array Oper) : Bool := ops.all fun o => match o.op with | .defer _ => false | _ => true
theorem noDefer_get (h : noDefer ops = true) {i : Nat} {o : Oper} (ho : ops[i]? = some o) : ∀ d, o.op ≠ .defer d := by
  intro d e
  have := Array.all_eq_true_iff_forall_mem.1 h o (Array.mem_of_getElem? ho)
  rw [e] at this; cases this

theorem rowsIn_wide {row : String} {args : Array Value} {w : World} {R : Value → World → Prop} (h : Rows P row args w R) : RowsIn (Fence.wide.inRound k) n P row args w R :=
  fun f cs _ => let ⟨v, w', r, s⟩ := h f cs; ⟨v, w', r, stepsIn_wide.2 s⟩

theorem opIn {o : Oper} {a : Act} {w : World} {next : Act → World → Prop} (hd : ∀ d, o.op ≠ .defer d) (h : o.wp P a w next Q) : o.wpIn (Fence.wide.inRound k) n P a w next Q := by
  refine ⟨fun _ _ => trivial, ?_⟩
  rw [show (Fence.wide.inRound k).round = some k from rfl, Oper.semAt_some k _ o hd]
  unfold Oper.wp at h
  generalize (execOp a.eval o).run P w = r at h
  cases r with
  | ok x w' =>
    cases x
    case enter f args => exact ⟨fun e => (by cases e), CallsIn.inRound k (callsIn_wide.2 h)⟩
    case row row args => exact ⟨fun e => (by cases e), rowsIn_wide h⟩
    case round => exact h.elim
    all_goals exact h
  | halt x w' => cases x <;> exact h

theorem ropsIn (hd : noDefer ops = true) (hL : ¬ LetsOut Q) : ∀ (l : List Nat) (a : Act) (w : World), wpOps P ops Q l a w → wpOpsIn (Fence.wide.inRound k) n P ops Q l a w
  | [], a, w, h => h
  | i :: l, a, w, h => by
    simp only [wpOps] at h
    simp only [wpOpsIn]
    cases ho : ops[i]? with
    | none => rw [ho] at h; exact ropsIn hd hL l a w h
    | some o =>
      rw [ho] at h
      simp only [] at h ⊢
      by_cases hw : Region.wanted o (yielded ops a.tmps) = true
      · rw [if_pos hw] at h ⊢
        rcases h with h | ⟨_, h⟩
        · exact opIn (noDefer_get hd ho) (Oper.wp_mono (fun a w h => ropsIn hd hL l a w h) h)
        · exact absurd h hL
      · rw [if_neg hw] at h ⊢
        exact ⟨fun _ _ => trivial, ropsIn hd hL l _ w h⟩

theorem rAnyIn (hd : noDefer ops = true) (hL : ¬ LetsOut Q) : ∀ (fuel : Nat) (listed : Array Bool) (a : Act) (w : World), wpAny P .any ops Q fuel listed a w → wpAnyIn (Fence.wide.inRound k) n P .any ops Q fuel listed a w
  | 0, listed, a, w, h => h
  | fuel + 1, listed, a, w, h => by
    refine ⟨h.1, fun i hi => ?_⟩
    have h2 := h.2 i hi
    unfold wpOp at h2
    unfold wpOpIn
    cases ho : ops[i]? with
    | none => rw [ho] at h2; exact rAnyIn hd hL fuel _ a w h2
    | some o =>
      rw [ho] at h2
      simp only [] at h2 ⊢
      by_cases hw : Region.wanted o (yielded ops a.tmps) = true
      · rw [if_pos hw] at h2 ⊢
        rcases h2 with h2 | ⟨_, h2⟩
        · exact opIn (noDefer_get hd ho) (Oper.wp_mono (fun a w h => rAnyIn hd hL fuel _ a w h) h2)
        · exact absurd h2 hL
      · rw [if_neg hw] at h2 ⊢
        exact ⟨fun _ _ => trivial, rAnyIn hd hL fuel _ _ w h2⟩

def IWR (P : Program) (O : Nat → Prop) (c : Ctx) (N k n : Nat) (code : Code) (tm : TM) (h : Heap) (Q : Exit → TM → Heap → Prop) : Prop :=
  ∀ (ρ : Rho) (F : Nat → Prop) (a : Act) (w : World), St O c N ρ F tm h a w → code.wpIn (Fence.wide.inRound k) n P (lift O c N Q) a w

variable {tm : TM} {h : Heap} {tab : Tab} {id : Nat}
theorem lift_in (Q : Exit → TM → Heap → Prop) : ¬ LetsOut (lift O c N Q) := fun ⟨_, _, h⟩ => h
variable {Q : Exit → TM → Heap → Prop}
theorem IWR.skip (hq : Q .normal tm h) : IWR P O c N k n .skip tm h Q := fun ρ F a w hst => wpIn_skip ⟨ρ, F, tm, h, hst, hq⟩
theorem IWR.mono {code : Code} {Q' : Exit → TM → Heap → Prop} (hi : IWR P O c N k n code tm h Q) (hq : ∀ e tm h, Q e tm h → Q' e tm h) : IWR P O c N k n code tm h Q' :=
  fun ρ F a w hst => wpIn_mono (hi ρ F a w hst) fun e a w hl => by
    cases e <;> first | exact hl | (obtain ⟨ρ, F, tm, h, h1, h2⟩ := hl; exact ⟨ρ, F, tm, h, h1, hq _ _ _ h2⟩)
theorem IWR.seq {x y : Code} (hi : IWR P O c N k n x tm h (thn (fun tm h => IWR P O c N k n y tm h Q) Q)) : IWR P O c N k n (.seq x y) tm h Q :=
  fun ρ F a w hst => wpIn_seq (wpIn_mono (hi ρ F a w hst) fun e a w hl => by
    cases e <;> first | exact hl | (obtain ⟨ρ, F, tm, h, h1, h2⟩ := hl; first | exact h2 ρ F _ _ h1 | exact ⟨ρ, F, tm, h, h1, h2⟩))
theorem IWR.block {bid : Nat} {x : Code} (hi : IWR P O c N k n x tm h (blk bid Q)) : IWR P O c N k n (.block bid x) tm h Q :=
  fun ρ F a w hst => wpIn_block (wpIn_mono (hi ρ F a w hst) fun e a w hl => by
    cases e <;> first | exact hl | skip
    case exit id' =>
      obtain ⟨ρ, F, tm, h, h1, h2⟩ := hl
      simp only [blk] at h2
      simp only [Exit.inBlock]
      split
      · rename_i e; rw [if_pos e] at h2; exact ⟨ρ, F, tm, h, h1, h2⟩
      · rename_i e; rw [if_neg e] at h2; exact ⟨ρ, F, tm, h, h1, h2⟩)
theorem IWR.cond {t : Nat} {b : Bool} {x y : Code} (hb : tm.get t = .bool b) (h1 : b = true → IWR P O c N k n x tm h Q) (h0 : b = false → IWR P O c N k n y tm h Q) : IWR P O c N k n (.cond (.tmp t) x y) tm h Q := by
  intro ρ F a w hst
  have hv := hst.rel t
  rw [hb] at hv
  generalize hvv : a.tmps.getD t undef = v at hv
  cases hv
  refine wpIn_cond (t := b) hvv ?_
  cases b with
  | true => exact h1 rfl ρ F a w hst
  | false => exact h0 rfl ρ F a w hst
theorem IWR.ent {code : Code} {tm' : TM} {h' : Heap} (he : Ent O c N tm h tm' h') (hi : IWR P O c N k n code tm' h' Q) : IWR P O c N k n code tm h Q := fun ρ F a w hst => by
  obtain ⟨ρ', F', hst'⟩ := he ρ F a w hst
  exact hi ρ' F' a w hst'

theorem IWR.region_seq (hT : TabOk P tab) (D : List (Option Nat)) (hN : dstB N ops D = true) (hnd : noDefer ops = true) (he : ∀ (X : XT) (K : TM → Heap → Prop), XS P O c N tab ops D X → (∀ tm h, Q .normal tm h → K tm h) → E tab D X ops.toList tm h K) : IWR P O c N k n (.region id ops false) tm h Q := by
  intro ρ F a w hst
  have h1 := E_SC hT hN ops.toList 0 tm h (Q .normal) (fun j o e => by simpa using e) (he _ _ (XS0_ok hT hN) fun _ _ h => h)
  rw [Array.length_toList] at h1
  refine wpIn_region (ropsIn hnd (lift_in Q) _ a w ?_)
  rw [List.range_eq_range']
  exact h1 ρ F a w _ hst fun ρ' F' tm' h' a' w' hst' hk => ⟨ρ', F', tm', h', hst', hk⟩

theorem IWR.region_draw (hT : TabOk P tab) (hmix : P.follows .mixedOrders = true) (D : List (Option Nat)) (m : Nat) (hdr : drawB ops m = true) (hN : dstB N ops D = true) (hnd : noDefer ops = true)
    (he : ∀ (Xq Xs : XT) (K : TM → Heap → Prop), XQ P tab ops D Xq → XS P O c N tab ops D Xs → (∀ tm h, Q .normal tm h → K tm h) → ∀ K1 : TM → Heap → Prop, (∀ tm' h', E tab D Xs (ops.toList.drop m) tm' h' K → K1 tm' h') → E tab D Xq (ops.toList.take m) tm h K1) : IWR P O c N k n (.region id ops true) tm h Q := by
  intro ρ F a w hst
  have hn : m ≤ ops.size := by simp only [drawB, Bool.and_eq_true, decide_eq_true_eq] at hdr; exact hdr.1.2
  have h1 := E_QC hT hN (ops.toList.take m) 0 tm h _ (fun j o e => by
    have hj : j < m := by have := (List.getElem?_eq_some_iff.1 e).1; simp at this; omega
    rw [List.getElem?_take_of_lt hj] at e
    simpa using e) (he _ _ (Q .normal) (XQ0_ok hT hN) (XS0_ok (O := O) (w0 := c) hT hN) (fun _ _ h => h) _ (fun _ _ h => h))
  have hl : (ops.toList.take m).length = m := by simp; omega
  rw [hl] at h1
  have key : ∀ (k i : Nat) (tm : TM) (h : Heap) (K K' : TM → Heap → Prop), (∀ tm h, K tm h → K' tm h) → QC P N ops i k tm h K → QC P N ops i k tm h K' := by
    intro k
    induction k with
    | zero => intro i tm h K K' hk hq; exact hk _ _ hq
    | succ k ih => intro i tm h K K' hk hq; obtain ⟨o, sv, ext, a1, a2, a3, a4⟩ := hq; exact ⟨o, sv, ext, a1, a2, a3, ih _ _ _ _ _ hk a4⟩
  have h2 := key m 0 tm h _ (fun tm' h' => SC P O c N ops m (ops.size - m) tm' h' (Q .normal)) (fun tm' h' he' => by
    have h2 := E_SC hT hN (ops.toList.drop m) m tm' h' (Q .normal) (fun j o e => by rw [List.getElem?_drop] at e; simpa using e) he'
    rw [List.length_drop, Array.length_toList] at h2
    exact h2) h1
  exact wpIn_region_any hmix (rAnyIn hnd (lift_in Q) _ _ _ _ (wpAny_draws m hdr h2 hst fun ρ' F' tm' h' a' w' hst' hk => ⟨ρ', F', tm', h', hst', hk⟩))
end
end Go.IL

set_option linter.unusedVariables false
set_option linter.unusedSimpArgs false
namespace Go.IL
open Go.RowKit

/-! ### A loop over a function -/
theorem VRel.bturn {ρ : Rho} {O F : Nat → Prop} {w w' : World} {b : Nat} {o : Obj} (hoth : ∀ b', b' ≠ b → w'.heap[b']? = w.heap[b']?) (hD : w.heap[b]? = some o) (ho : book o = true) {s : SV} {v : Value} (h : VRel ρ O F w s v) : VRel ρ O F w' s v := by
  have hcell : ∀ b' off u, w.cell? ⟨b', off, none⟩ = some u → w'.cell? ⟨b', off, none⟩ = some u := fun b' off u e => by
    have : b' ≠ b := by rintro rfl; cases o <;> simp [World.cell?, hD, book] at e ho
    rw [cell_of_heap (hoth b' this), e]
  have hobj : ∀ (b' : Nat) (o' : Obj), w.heap[b']? = some o' → book o' = false → w'.heap[b']? = some o' := fun b' o' e hne => by
    have : b' ≠ b := by rintro rfl; rw [hD] at e; cases e; rw [ho] at hne; cases hne
    rw [hoth b' this, e]
  induction h with
  | any v => exact .any v
  | bool b => exact .bool b
  | int k n => exact .int k n
  | str s => exact .str s
  | raw v => exact .raw v
  | agg cs vs hl _ ih => exact .agg cs vs hl ih
  | tup cs vs hl _ ih => exact .tup cs vs hl ih
  | ptr id i j ri h => exact .ptr id i j ri h
  | ref id off m cap ri h h1 hc hm => exact .ref id off m cap ri h h1 hc hm
  | sl o xs a cap k cs hk hcap hm ha _ ih =>
    refine .sl o xs a cap k cs hk hcap hm (fun hp => ?_) ih
    obtain ⟨b', off, e, hb, hc⟩ := ha hp
    exact ⟨b', off, e, hb, fun i j hi hj => hcell _ _ _ (hc i j hi hj)⟩
  | rptr o x j b' off cs hb ha _ ih => exact .rptr o x j b' off cs hb (fun i hi => hcell _ _ _ (ha i hi)) ih
  | mp o xs b' es cs hb hw hk hn he _ ih => exact .mp o xs b' es cs hb (hobj _ _ hw rfl) hk hn he ih
  | it o xs seen r b' es cs hr hrw hb hw hk hn he _ ih => exact .it o xs seen r b' es cs hr (hobj _ _ hrw rfl) hb (hobj _ _ hw rfl) hk hn he ih
  | nils => exact .nils
  | nilp => exact .nilp
  | clo f cs vs hl _ ih => exact .clo f cs vs hl ih
  | cnd g s v _ h0 ih => exact .cnd g s v ih h0

mutual
/-- It hangs on rows' places alone. -/
def SV.det : SV → Bool
  | .any | .bool _ | .int _ _ | .str _ | .raw _ | .nils | .nilp | .ptr _ _ _ | .ref _ _ _ => true
  | .agg cs | .tup cs | .clo _ cs => detL cs
  | .cnd _ v => v.det
  | _ => false
def detL : List SV → Bool
  | [] => true
  | s :: r => s.det && detL r
end
theorem detL_get : ∀ {l : List SV} {i : Nat} {s : SV}, detL l = true → l[i]? = some s → s.det = true
  | _ :: _, 0, _, h, e => by simp at e; subst e; simp [detL] at h; exact h.1
  | _ :: _, i + 1, _, h, e => by simp [detL] at h; exact detL_get h.2 (by simpa using e)
theorem VRel.det {ρ ρ' : Rho} {O F O' F' : Nat → Prop} {w w' : World} (hρ : ∀ id ri, ρ id = some ri → ρ' id = some ri) {s : SV} {v : Value} (h : VRel ρ O F w s v) : s.det = true → VRel ρ' O' F' w' s v := by
  induction h with
  | any v => intro _; exact .any v
  | bool b => intro _; exact .bool b
  | int k n => intro _; exact .int k n
  | str s => intro _; exact .str s
  | raw v => intro _; exact .raw v
  | agg cs vs hl _ ih => intro hn; simp only [SV.det] at hn; exact .agg cs vs hl fun i c v e1 e2 => ih i c v e1 e2 (detL_get hn e1)
  | tup cs vs hl _ ih => intro hn; simp only [SV.det] at hn; exact .tup cs vs hl fun i c v e1 e2 => ih i c v e1 e2 (detL_get hn e1)
  | ptr id i j ri h => intro _; exact .ptr id i j ri (hρ _ _ h)
  | ref id off m cap ri h h1 hc hm => intro _; exact .ref id off m cap ri (hρ _ _ h) h1 hc hm
  | sl => intro hn; cases hn
  | rptr => intro hn; cases hn
  | mp => intro hn; cases hn
  | it => intro hn; cases hn
  | nils => intro _; exact .nils
  | nilp => intro _; exact .nilp
  | clo f cs vs hl _ ih => intro hn; simp only [SV.det] at hn; exact .clo f cs vs hl fun i c v e1 e2 => ih i c v e1 e2 (detL_get hn e1)
  | cnd g s v _ h0 ih => intro hn; simp only [SV.det] at hn; exact .cnd g s v (fun e => ih e hn) h0
def detT : TM → Bool
  | [] => true
  | (_, s) :: r => s.det && detT r
theorem detT_get : ∀ {tm : TM} (t : Nat), detT tm = true → (tm.get t).det = true
  | [], t, _ => rfl
  | (u, s) :: r, t, h => by
    simp only [detT, Bool.and_eq_true] at h
    simp only [TM.get]
    split
    · exact h.1
    · exact detT_get t h.2

section
variable {P : Program} {O : Nat → Prop} {c : Ctx} {N : Nat} {ρ : Rho} {F : Nat → Prop} {tm : TM} {h : Heap} {a : Act} {w w' : World}

theorem Keep.trans {O : Nat → Prop} {a b d : World} (h : Keep O a b) (k : Keep O b d) : Keep O a d :=
  ⟨k.os.trans h.os, k.tape.trans h.tape, k.output.trans h.output, Nat.le_trans h.size k.size, fun x ho => (k.block x ho).trans (h.block x ho), fun x o e e' => k.books x o (h.books x o e e') e'⟩

/-- The same rows held against another world, by another activation. -/
theorem St.other {c' : Ctx} {N' : Nat} {tm' : TM} {a' : Act} (hst : St O c N ρ F tm h a w) (hd : DefO c'.w a' w) (hs : a'.tmps.size = N') (hr : ∀ t, VRel ρ O F w (tm'.get t) (a'.tmps.getD t undef)) (hk : Keep O c'.w w) (h0 : ∀ id ri, c'.r id = some ri → ρ id = some ri) : St O c' N' ρ F tm' h a' w :=
  ⟨hst.sat, hd, hs, hr, hk, hst.free, hst.rno, hst.fno, h0⟩

theorem St.grown (hst : St O c N ρ F tm h a w) (hg : w.grownBy w' none) : St O c N ρ F tm h a w' := by
  have hx : Ext ρ F w ρ F w' := ⟨fun _ _ h => h, fun id ri h h' => (by rw [h'] at h; cases h), fun _ h => h, fun b h h' => absurd h h', ⟨hg.os, hg.tape, hg.output, hg.size, fun b hb => hg.block b hb (by simp)⟩⟩
  exact ⟨⟨fun id r ri e1 e2 => (hst.sat.row id r ri e1 e2).ext hst.sat.lt hx, hst.sat.inj, fun b hb => Nat.lt_of_lt_of_le (hst.sat.lt b hb) hg.size⟩, hst.defers.next rfl fun D e => (hx.below.block D (Array.getElem?_eq_some_iff.1 e).1).trans e, hst.size, fun t => (hst.rel t).ext hst.sat.lt hx,
    hst.keep.below (fun b hb => hst.sat.lt b (.inl hb)) hx.below, hst.free, hst.rno, hst.fno, hst.ext0⟩

/-- A block of books turns. -/
theorem St.bturn {b : Nat} {o : Obj} (hst : St O c N ρ F tm h a w) (hb : w.heap[b]? = some o) (ho : book o = true) (hO : ¬ O b) (hge : c.w.heap.size ≤ b) (hd : a.defers = []) (o' : Obj) : St O c N ρ F tm h a (w.putObj b o') := by
  have hoth : ∀ b', b' ≠ b → (w.putObj b o').heap[b']? = w.heap[b']? := fun b' hb => World.putObj_heap_other hb
  refine ⟨⟨fun id r ri e1 e2 => ?_, hst.sat.inj, fun b hb => by rw [World.putObj_size]; exact hst.sat.lt b hb⟩, DefO.nil hd, hst.size, fun t => (hst.rel t).bturn hoth hb ho, ⟨hst.keep.os, hst.keep.tape, hst.keep.output, by rw [World.putObj_size]; exact hst.keep.size, fun b' hb' => (hoth b' (by rintro rfl; exact hO hb')).trans (hst.keep.block b' hb'), fun b' o e e' => (hoth b' (by rintro rfl; have := (Array.getElem?_eq_some_iff.1 e).1; omega)).trans (hst.keep.books b' o e e')⟩, hst.free, hst.rno, hst.fno, hst.ext0⟩
  have h1 := hst.sat.row id r ri e1 e2
  refine ⟨h1.k, h1.no, h1.nf, h1.wf, ?_⟩
  obtain ⟨arr, a1, a2, a3, a4⟩ := h1.cells
  refine ⟨arr, (hoth _ (by rintro e; rw [e, hb] at a1; cases a1; cases ho)).trans a1, a2, a3, fun i j x y f1 f2 => ?_⟩
  obtain ⟨v, g1, g2⟩ := a4 i j x y f1 f2
  exact ⟨v, g1, g2.bturn hoth hb ho⟩
end

/-- How a captured value looks to the function that captured it: a variable by what it holds. -/
def cv (h : Heap) : SV → SV
  | .ptr id i j => if i < (rowXs h id).length then .rptr true ((elAt (rowXs h id) i).map (rei 4 h)) j else .any
  | s => rei 4 h s
theorem cv_rel {ρ : Rho} {O F : Nat → Prop} {w : World} {h : Heap} (hs : Sat ρ O F h w) {s : SV} {v : Value} (hv : VRel ρ O F w s v) : VRel (fun _ => none) (fun b => b < w.heap.size) (fun _ => False) w (cv h s) v := by
  cases s <;> try exact rei_rel hs 4 _ _ hv
  case ptr id i j =>
    simp only [cv]
    split
    · rename_i hi
      cases hv with
      | ptr _ _ _ ri hρ =>
        cases hr : hrow h id with
        | none => simp [rowXs, hr] at hi
        | some r =>
          have exs : rowXs h id = r.xs := by simp [rowXs, hr]
          rw [exs] at hi ⊢
          have hR := hs.row id r ri (hrow_some hr) hρ
          obtain ⟨arr, e1, e2, e3, e4⟩ := hR.cells
          have hx := row_at hi
          have hxl := hR.wf _ (List.mem_of_getElem? hx)
          refine .rptr true _ j ri.b (i * ri.k) (fun j => (w.cell? ⟨ri.b, i * ri.k + j, none⟩).getD undef) (.inr ⟨rfl, hR.lt⟩) (fun t ht => ?_) fun t y e => ?_
          · rw [List.length_map] at ht
            obtain ⟨u, h1, _⟩ := e4 i t _ _ hx (rel_at ht)
            have : w.cell? ⟨ri.b, i * ri.k + t, none⟩ = some u := by simp only [World.cell?, e1, hR.k]; simpa using h1
            simp [this]
          · obtain ⟨y', h2, rfl⟩ := map_get e
            obtain ⟨u, h1, h3⟩ := e4 i t _ _ hx h2
            have : w.cell? ⟨ri.b, i * ri.k + t, none⟩ = some u := by simp only [World.cell?, e1, hR.k]; simpa using h1
            simp only [this, Option.getD_some]
            exact rei_rel hs 4 _ _ h3
    · exact .any _

/-- What is told of a captured variable's content to the function that captured it. -/
def fl1 : SV → SV
  | .int k n => .int k n
  | _ => .any
def fl : SV → SV
  | .int k n => .int k n
  | .bool b => .bool b
  | .str s => .str s
  | .mp _ xs => .mp true (xs.map fun x => x.map fl1)
  | _ => .any
def flRow (r : Row) : Row := ⟨r.k, r.elem, r.xs.map fun x => x.map fl⟩
theorem fl1_rel {ρ ρ' : Rho} {O F O' F' : Nat → Prop} {w : World} {s : SV} {v : Value} (h : VRel ρ O F w s v) : VRel ρ' O' F' w (fl1 s) v := by
  cases h <;> first | exact .int _ _ | exact .any _
theorem fl_rel {ρ ρ' : Rho} {O F O' F' : Nat → Prop} {w : World} (hO : ∀ (b : Nat) (es : Array MapEntry) (c : Nat), w.heap[b]? = some (.map es c) → O' b) {s : SV} {v : Value} (h : VRel ρ O F w s v) : VRel ρ' O' F' w (fl s) v := by
  cases h with
  | int => exact .int _ _
  | bool => exact .bool _
  | str => exact .str _
  | mp o xs b es cs hb hw hk hn he hh =>
    have hlen : (xs.map fun x => x.map fl1).length = xs.length := by simp
    refine .mp true _ b es cs (.inr ⟨rfl, hO b es _ hw⟩) (by rw [hlen]; exact hw) (fun x hx => ?_) (hn.trans hlen.symm) (fun i hi => he i (by rwa [hlen] at hi)) fun i j x y e1 e2 => ?_
    · obtain ⟨x', hx', rfl⟩ := List.mem_map.1 hx
      rw [List.length_map]; exact hk x' hx'
    · rw [List.getElem?_map] at e1
      obtain ⟨x', h1, rfl⟩ := Option.map_eq_some_iff.1 e1
      obtain ⟨y', h2, rfl⟩ := map_get e2
      exact fl1_rel (hh i j x' y' h1 h2)
  | _ => exact .any _

/-- The blocks that are no row's. -/
def Rest (ρ : Rho) (w : World) : Nat → Prop := fun b => b < w.heap.size ∧ ∀ id ri, ρ id = some ri → ri.b ≠ b

/-- What a function comes to that is ranged over: the values that it yields (one of the lists of Y), if each round goes on; caps: what it captured, rows: what that leads to. -/
def SeqOf (P : Program) (gf : FuncId) (caps : List SV) (rows : List Row) {α : Type} (xv : α → Value) (Y : List α → Prop) : Prop :=
  Entr P gf ∧ ∀ (l : Nat) (J : List α → World → Prop) (W : World) (vs : Array Value) (ρ : Rho),
    (∀ id, rows.length ≤ id → ρ id = none) → caps.length = vs.size → (∀ (i : Nat) (s : SV) (v : Value) (O F : Nat → Prop) (w : World), caps[i]? = some s → vs[i]? = some v → VRel ρ O F w s v) →
    (∀ pre A B, J pre A → A.grownBy B none → J pre B) →
    (∀ pre A B r o, J pre A → A.grownBy B (some r) → W.heap.size ≤ r → A.heap[r]? = some o → o.isWalk = true → J pre B) →
    (∀ pre A, J pre A → Sat ρ (Rest ρ A) (fun _ => False) (rows.map some) A) →
    (∀ pre x A, (∃ r, Y (pre ++ x :: r)) → J pre A → YieldAt Fence.wide 0 P l #[xv x] A fun e B => e = .returned (.bool true) ∧ J (pre ++ [x]) B) →
    J [] W → Calls P gf (#[.func (.yield l) #[] #[]] ++ vs) W fun e B => (∃ v, e = .returned v) ∧ ∃ ys, Y ys ∧ J ys B
end Go.IL

set_option linter.unusedVariables false
set_option linter.unusedSimpArgs false
namespace Go.IL
open Go.RowKit
section
variable {P : Program} {O : Nat → Prop} {w0 : Ctx} {N : Nat} {tm : TM} {h : Heap} {Q : Exit → TM → Heap → Prop}

theorem VRel.cells {ρ : Rho} {O F : Nat → Prop} {w w' : World} (hcell : ∀ b off u, w.cell? ⟨b, off, none⟩ = some u → w'.cell? ⟨b, off, none⟩ = some u) {s : SV} {v : Value} (h : VRel ρ O F w s v) : s.nomap = true → VRel ρ O F w' s v := by
  induction h with
  | any v => intro _; exact .any v
  | bool b => intro _; exact .bool b
  | int k n => intro _; exact .int k n
  | str s => intro _; exact .str s
  | raw v => intro _; exact .raw v
  | agg cs vs hl _ ih => intro hn; simp only [SV.nomap] at hn; exact .agg cs vs hl fun i c v e1 e2 => ih i c v e1 e2 (nomapL_get hn e1)
  | tup cs vs hl _ ih => intro hn; simp only [SV.nomap] at hn; exact .tup cs vs hl fun i c v e1 e2 => ih i c v e1 e2 (nomapL_get hn e1)
  | ptr id i j ri h => intro _; exact .ptr id i j ri h
  | ref id off m cap ri h h1 hc hm => intro _; exact .ref id off m cap ri h h1 hc hm
  | sl o xs a cap k cs hk hcap hm ha _ ih =>
    intro hn
    simp only [SV.nomap] at hn
    refine .sl o xs a cap k cs hk hcap hm (fun hp => ?_) fun i j x y e1 e2 => ih i j x y e1 e2 (nomapL_get (nomapLL_get hn e1) e2)
    obtain ⟨b', off, e, hb, hc⟩ := ha hp
    exact ⟨b', off, e, hb, fun i j hi hj => hcell _ _ _ (hc i j hi hj)⟩
  | rptr o x j b' off cs hb ha _ ih =>
    intro hn
    simp only [SV.nomap] at hn
    exact .rptr o x j b' off cs hb (fun i hi => hcell _ _ _ (ha i hi)) fun i y e => ih i y e (nomapL_get hn e)
  | mp => intro hn; cases hn
  | it => intro hn; cases hn
  | nils => intro _; exact .nils
  | nilp => intro _; exact .nilp
  | clo f cs vs hl _ ih => intro hn; simp only [SV.nomap] at hn; exact .clo f cs vs hl fun i c v e1 e2 => ih i c v e1 e2 (nomapL_get hn e1)
  | cnd g s v _ h0 ih => intro hn; simp only [SV.nomap] at hn; exact .cnd g s v (fun e => ih e hn) h0

/-- A block of books turns; the state is held against another world. -/
theorem St.bturnC {c c' : Ctx} {ρ : Rho} {F : Nat → Prop} {a a' : Act} {w : World} {tm' : TM} {b : Nat} {o o' : Obj} (hst : St O c N ρ F tm h a w) (hb : w.heap[b]? = some o) (ho : book o = true) (hd : DefO c'.w a' (w.putObj b o')) (hs : a'.tmps.size = N) (hr : ∀ t, VRel ρ O F w (tm'.get t) (a'.tmps.getD t undef)) (hk : Keep O c'.w (w.putObj b o')) (h0 : ∀ id ri, c'.r id = some ri → ρ id = some ri) :
    St O c' N ρ F tm' h a' (w.putObj b o') := by
  have hoth : ∀ b', b' ≠ b → (w.putObj b o').heap[b']? = w.heap[b']? := fun b' hb => World.putObj_heap_other hb
  refine ⟨⟨fun id r ri e1 e2 => ?_, hst.sat.inj, fun b hb => by rw [World.putObj_size]; exact hst.sat.lt b hb⟩, hd, hs, fun t => (hr t).bturn hoth hb ho, hk, hst.free, hst.rno, hst.fno, h0⟩
  have h1 := hst.sat.row id r ri e1 e2
  refine ⟨h1.k, h1.no, h1.nf, h1.wf, ?_⟩
  obtain ⟨arr, a1, a2, a3, a4⟩ := h1.cells
  refine ⟨arr, (hoth _ (by rintro e; rw [e, hb] at a1; cases a1; cases ho)).trans a1, a2, a3, fun i j x y f1 f2 => ?_⟩
  obtain ⟨v, g1, g2⟩ := a4 i j x y f1 f2
  exact ⟨v, g1, g2.bturn hoth hb ho⟩
theorem Keep.put {w B : World} {l : Nat} {o : Obj} (h : Keep O w B) (hl : w.heap.size ≤ l) (hO : ¬ O l) : Keep O w (B.putObj l o) :=
  ⟨h.os, h.tape, h.output, by rw [World.putObj_size]; exact h.size, fun b hb => (World.putObj_heap_other (by rintro rfl; exact hO hb)).trans (h.block b hb), fun b o' e e' => (World.putObj_heap_other (by have := (Array.getElem?_eq_some_iff.1 e).1; omega)).trans (h.books b o' e e')⟩
theorem Keep.put2 {A B : World} {l : Nat} {o o' : Obj} (h : Keep O A B) (hl : l < B.heap.size) (hO : ¬ O l) : Keep O (A.putObj l o) (B.putObj l o) := by
  refine ⟨h.os, h.tape, h.output, by simpa using h.size, fun b hb => ?_, fun b o' e e' => ?_⟩
  · have : b ≠ l := by rintro rfl; exact hO hb
    rw [World.putObj_heap_other this, World.putObj_heap_other this]; exact h.block b hb
  · by_cases c : b = l
    · subst c
      rw [World.putObj_heap_same hl]
      have : b < A.heap.size := by have := (Array.getElem?_eq_some_iff.1 e).1; simpa using this
      rw [World.putObj_heap_same this] at e; exact e
    · rw [World.putObj_heap_other c] at e ⊢; exact h.books b o' e e'
theorem Keep.via {w A B : World} {l : Nat} {o o' : Obj} (h : Keep O w A) (k : Keep O (A.putObj l o) B) (hl : w.heap.size ≤ l) (hO : ¬ O l) : Keep O w (B.putObj l o') := by
  refine Keep.put ⟨k.os.trans h.os, k.tape.trans h.tape, k.output.trans h.output, ?_, fun b hb => ?_, fun b o' e e' => ?_⟩ hl hO
  · have := k.size; rw [World.putObj_size] at this; exact Nat.le_trans h.size this
  · rw [k.block b hb, World.putObj_heap_other (by rintro rfl; exact hO hb)]; exact h.block b hb
  · have hne : b ≠ l := by have := (Array.getElem?_eq_some_iff.1 e).1; omega
    exact k.books b o' (by rw [World.putObj_heap_other hne]; exact h.books b o' e e') e'

/-- Behind a round's body: the rows are these. -/
def RoundQ (O : Nat → Prop) (N n0 : Nat) (h' : Heap) : Exit → TM → Heap → Prop
  | .normal, tm, h => ∀ c : Ctx, (∀ id ri, c.r id = some ri → id < n0) → Ent O c N tm h [] h'
  | _, _, _ => False

/-- **for x := range f { .. }**, whose body never leaves the loop: the rows are a fold of what has come. -/
theorem IW.rangeFunc {α : Type} {g : Operand} {p gf : Nat} {assign body : Code} {caps capsC : List SV} {rowsC : List Row} (σ : List Nat) (xsv : α → SV) (xv : α → Value) (H : List α → Heap) (Y : List α → Prop)
    (hg : opnd tm g = .clo gf caps) (hp : p < N) (hdet : detT tm = true) (hnm : ∀ t, (tm.get t).nomap = true) (hnH : ∀ pre, nomapH (H pre) = true) (hH0 : H [] = h) (hlen : ∀ pre, h.length ≤ (H pre).length)
    (hxv : ∀ x (ρ : Rho) (O F : Nat → Prop) (w : World), VRel ρ O F w (xsv x) (xv x)) (hσ : σ.Nodup) (hσl : σ.length = rowsC.length) (hcaps : caps = renL (sg σ h.length) capsC) (hcd : detL capsC = true) (hrows : ∀ (pre : List α) (i : Nat) (r : Row), rowsC[i]? = some r → ∃ r', hrow (H pre) (sg σ h.length i) = some r' ∧ r = flRow r') (hseq : SeqOf P gf capsC rowsC xv Y)
    (hround : ∀ (c : Ctx) (k : Nat) (pre : List α) (x : α), (∃ r, Y (pre ++ x :: r)) → (∀ id ri, c.r id = some ri → id < h.length) → IWR P O c N k 0 assign ((p, xsv x) :: tm) (H pre) (thn (fun tm1 h1 => ∀ c2 : Ctx, (∀ id ri, c2.r id = some ri → id < h.length) → IWR P O c2 N k 0 body tm1 h1 (RoundQ O N h.length (H (pre ++ [x])))) (fun _ _ _ => False)))
    (hdone : ∀ ys, Y ys → Q .normal tm (H ys)) : IW P O w0 N (.rangeFunc g #[p] assign body) tm h Q := by
  intro ρ F a w hst
  refine (wpIn_wide (n := 2)).1 (wpIn_rangeFunc fun fn hfn => ?_)
  have hvg := opnd_rel (a := a) g (fun t _ => hst.rel t)
  rw [hg] at hvg
  generalize hag : a.eval g = vg at hvg
  cases hvg with
  | clo _ _ vs hl hcs =>
  obtain ⟨rec, hrec⟩ : ∃ rec : LoopState → Option Code → Loop, rec = fun st pe => { state := st, pending := pe, fn, tmps := a.tmps, params := #[p], assign, body, defers := w.heap.size } := ⟨_, rfl⟩
  obtain ⟨W1, hW1⟩ : ∃ W1, (w.alloc (.deferred (some []))).alloc (.loop (rec .ready none)) = W1 := ⟨_, rfl⟩
  have hL1 : W1.heap[w.heap.size + 1]? = some (.loop (rec .ready none)) := by
    rw [← hW1]; have := World.alloc_heap_new (w.alloc (.deferred (some []))) (.loop (rec .ready none)); rwa [World.size_alloc] at this
  have hK1 : W1.heap[w.heap.size]? = some (.deferred (some [])) := by
    rw [← hW1]; exact (Below.heap_alloc _ _ _ (by simp)).trans (World.alloc_heap_new w _)
  have hsz1 : W1.heap.size = w.heap.size + 2 := by rw [← hW1]; simp
  have hg1 : w.grownBy W1 none := by
    rw [← hW1]; exact (World.grownBy_alloc w _ none).trans (World.grownBy_alloc _ _ none)
  have hOlt : ∀ b, O b → b < w.heap.size := fun b hb => hst.sat.lt b (.inl hb)
  -- the caller's state between two rounds
  let aN : Act := { tmps := a.tmps, defers := [] }
  let J : List α → World → Prop := fun pre W => (∃ ρ' F', St O { w := w, r := ρ } N ρ' F' tm (H pre) aN W) ∧ W.heap[w.heap.size + 1]? = some (.loop (rec .ready none)) ∧ W.heap[w.heap.size]? = some (.deferred (some []))
  have hst0 : St O { w := w, r := ρ } N ρ F tm (H []) aN w := by rw [hH0]; exact hst.other (DefO.nil rfl) hst.size hst.rel (Keep.refl _ _) fun _ _ h => h
  have hJ1 : J [] W1 := ⟨⟨ρ, F, hst0.grown hg1⟩, hL1, hK1⟩
  refine ⟨w.heap.size + 1, [{ target := .collected w.heap.size, args := #[] }], W1, { target := .fn (.func gf) vs, args := #[.func (.yield (w.heap.size + 1)) #[] #[]] }, W1, gf,
    #[.func (.yield (w.heap.size + 1)) #[] #[]] ++ vs, W1, ?_, ?_, fun _ _ => trivial, ?_, fun e => (by cases e), ?_⟩
  · rw [← hW1, hrec]; exact run_enterLoop_outer _ _ _ _ _
  · simp only [resolve, hag]
    simp [go_sem]
  · simp only [invoke, Array.empty_append]
    exact hseq.1 _ _
  · have hρc : ∀ id ri, (fun id => if id < σ.length then ρ (sg σ h.length id) else none) id = some ri → id < σ.length ∧ ρ (sg σ h.length id) = some ri := fun id ri e => by
      by_cases c : id < σ.length
      · simp only [if_pos c] at e; exact ⟨c, e⟩
      · simp only [if_neg c] at e; cases e
    refine callsIn_wide.2 ((hseq.2 (w.heap.size + 1) J W1 vs (fun id => if id < σ.length then ρ (sg σ h.length id) else none) (fun id hid => by simp only [if_neg (show ¬ id < σ.length by omega)]) ?_ ?_ ?_ ?_ ?_ ?_ hJ1).mono ?_)
    · rw [← hl, hcaps, renL_map]; simp
    · intro i s v O' F' w' e1 e2
      have h1 : caps[i]? = some (s.ren (sg σ h.length)) := by rw [hcaps, renL_map, List.getElem?_map, e1]; rfl
      refine ((hcs i _ v h1 e2).unren s rfl).det (fun id ri e => ?_) (detL_get hcd e1)
      by_cases c : id < σ.length
      · simp only [if_pos c]; exact e
      · simp only [sg] at e
        rw [List.getD_eq_getElem?_getD, List.getElem?_eq_none (by omega)] at e
        simp only [Option.getD_none] at e
        rw [hst.free _ (Nat.le_refl _)] at e; cases e
    · rintro pre A B ⟨⟨ρ', F', hs⟩, hl1, hk1⟩ hgr
      exact ⟨⟨ρ', F', hs.grown hgr⟩, (hgr.block _ (Array.getElem?_eq_some_iff.1 hl1).1 (by simp)).trans hl1, (hgr.block _ (Array.getElem?_eq_some_iff.1 hk1).1 (by simp)).trans hk1⟩
    · rintro pre A B r o ⟨⟨ρ', F', hs⟩, hl1, hk1⟩ hgr hr ho hwalk
      have hnc : ∀ off, A.cell? ⟨r, off, none⟩ = none := fun off => by cases o <;> simp [World.cell?, ho, Obj.isWalk] at hwalk ⊢
      have hnb : ∀ o', book o' = true → A.heap[r]? ≠ some o' := fun o' hb e => by rw [ho] at e; cases e; cases o <;> simp [book, Obj.isWalk] at hb hwalk
      have hrow : ∀ b, b < A.heap.size → b ≠ r → B.heap[b]? = A.heap[b]? := fun b hb hne => hgr.block b hb (by simpa using hne)
      refine ⟨⟨ρ', F', ?_⟩, (hrow _ (Array.getElem?_eq_some_iff.1 hl1).1 (by omega)).trans hl1, (hrow _ (Array.getElem?_eq_some_iff.1 hk1).1 (by omega)).trans hk1⟩
      have hcell : ∀ b' off u, A.cell? ⟨b', off, none⟩ = some u → B.cell? ⟨b', off, none⟩ = some u := fun b' off u e => by
        have hne : b' ≠ r := by rintro rfl; rw [hnc] at e; cases e
        have hlt : b' < A.heap.size := by
          rcases Nat.lt_or_ge b' A.heap.size with h | h
          · exact h
          · simp [World.cell?, Array.getElem?_eq_none h] at e
        rw [cell_of_heap (hrow b' hlt hne), e]
      have hv : ∀ s v, VRel ρ' O F' A s v → s.nomap = true → VRel ρ' O F' B s v := fun s v h => h.cells hcell
      refine ⟨⟨fun id r' ri e1 e2 => ?_, hs.sat.inj, fun b hb => Nat.lt_of_lt_of_le (hs.sat.lt b hb) hgr.size⟩, DefO.nil rfl, hs.size, fun t => hv _ _ (hs.rel t) (hnm t), ⟨hgr.os.trans hs.keep.os, hgr.tape.trans hs.keep.tape, hgr.output.trans hs.keep.output, Nat.le_trans hs.keep.size hgr.size, fun b hb => (hrow b (hs.sat.lt b (.inl hb)) (by have := hOlt b hb; omega)).trans (hs.keep.block b hb), fun b o' e e' => (hrow b (Array.getElem?_eq_some_iff.1 (hs.keep.books b o' e e')).1 (by rintro rfl; exact hnb o' e' (hs.keep.books _ o' e e'))).trans (hs.keep.books b o' e e')⟩, hs.free, hs.rno, hs.fno, hs.ext0⟩
      have h1 := hs.sat.row id r' ri e1 e2
      refine ⟨h1.k, h1.no, h1.nf, h1.wf, ?_⟩
      obtain ⟨arr, a1, a2, a3, a4⟩ := h1.cells
      refine ⟨arr, (hrow _ h1.lt (by rintro rfl; rw [ho] at a1; cases a1; cases hwalk)).trans a1, a2, a3, fun i j x y f1 f2 => ?_⟩
      obtain ⟨v, g1, g2⟩ := a4 i j x y f1 f2
      exact ⟨v, g1, hv _ _ g2 (nomapL_get (nomapLL_get (nomapH_get (hnH pre) e1) f1) f2)⟩
    · rintro pre A ⟨⟨ρ', F', hs⟩, hl1, hk1⟩
      have hR : ∀ id ri, (fun id => if id < σ.length then ρ (sg σ h.length id) else none) id = some ri → ∃ r', rowsC[id]? = some (flRow r') ∧ hrow (H pre) (sg σ h.length id) = some r' ∧ RowIn ρ' O F' A r' ri ∧ ρ' (sg σ h.length id) = some ri := fun id ri e => by
        obtain ⟨c, e1⟩ := hρc id ri e
        have hrc : rowsC[id]? = some rowsC[id] := by simp [show id < rowsC.length by omega]
        obtain ⟨r', h1, h2⟩ := hrows pre id _ hrc
        exact ⟨r', by rw [hrc, h2], h1, hs.sat.row _ r' ri (hrow_some h1) (hs.ext0 _ _ e1), hs.ext0 _ _ e1⟩
      refine ⟨fun id r ri e1 e2 => ?_, fun id id' r r' ri ri' e1 e1' e2 e2' hb => ?_, fun b hb => hb.elim (fun h => h.1) False.elim⟩
      · obtain ⟨r', h1, h2, h3, h4⟩ := hR id ri e2
        rw [List.getElem?_map, h1] at e1
        simp at e1; subst e1
        refine ⟨h3.k, fun ho => ho.2 id ri e2 rfl, fun h => h, fun x hx => ?_, ?_⟩
        · obtain ⟨x', hx', rfl⟩ := List.mem_map.1 hx
          rw [List.length_map]; exact h3.wf x' hx'
        · obtain ⟨arr, a1, a2, a3, a4⟩ := h3.cells
          refine ⟨arr, a1, a2, by simpa [flRow] using a3, fun i j x y f1 f2 => ?_⟩
          simp only [flRow, List.getElem?_map] at f1
          obtain ⟨x', g1, rfl⟩ := Option.map_eq_some_iff.1 f1
          obtain ⟨y', g2, rfl⟩ := map_get f2
          obtain ⟨v, g3, g4⟩ := a4 i j x' y' g1 g2
          refine ⟨v, g3, fl_rel (fun b es c hbm => ⟨(Array.getElem?_eq_some_iff.1 hbm).1, fun id2 ri2 e5 hb5 => ?_⟩) g4⟩
          obtain ⟨r2, _, _, q3, _⟩ := hR id2 ri2 e5
          obtain ⟨arr2, b1, _⟩ := q3.cells
          rw [hb5, hbm] at b1; cases b1
      · obtain ⟨q, _, h2, _, h4⟩ := hR id ri e2
        obtain ⟨q', _, h2', _, h4'⟩ := hR id' ri' e2'
        have h5 := hs.sat.inj _ _ q q' ri ri' (hrow_some h2) (hrow_some h2') h4 h4' hb
        have hi := (hρc id ri e2).1
        have hi' := (hρc id' ri' e2').1
        simp only [sg, List.getD_eq_getElem?_getD, List.getElem?_eq_getElem hi, List.getElem?_eq_getElem hi', Option.getD_some] at h5
        have hp := List.pairwise_iff_getElem.1 hσ
        rcases Nat.lt_trichotomy id id' with h6 | h6 | h6
        · exact absurd h5 (hp id id' hi hi' h6)
        · exact h6
        · exact absurd h5.symm (hp id' id hi' hi h6)
    · rintro pre x A hpx ⟨⟨ρ', F', hs⟩, hl1, hk1⟩
      have hy := run_yield (P := P) (args := #[xv x]) hl1 (by rw [hrec]; rfl)
      rw [hrec] at hy
      have hAw : w.heap.size + 1 < A.heap.size := (Array.getElem?_eq_some_iff.1 hl1).1
      refine ⟨fn, _, assign, body, hy, roundIn_of_wpIn trivial ?_⟩
      have ha0 : St O { w := A, r := ρ } N ρ' F' ((p, xsv x) :: tm) (H pre) { tmps := (#[p].zip #[xv x]).foldl (fun t (p, v) => t.setIfInBounds p v) a.tmps, defers := [] } A := by
        refine hs.other (DefO.nil rfl) (by simpa using hst.size) (fun t => ?_) (Keep.refl _ _) hs.ext0
        simp only [TM.get]
        have : (#[p].zip #[xv x]).foldl (fun t (p, v) => t.setIfInBounds p v) a.tmps = a.tmps.setIfInBounds p (xv x) := by simp
        rw [this]
        by_cases e : p = t
        · subst e
          rw [if_pos rfl]
          have : p < a.tmps.size := by rw [hst.size]; exact hp
          simp only [Array.getD_eq_getD_getElem?, Array.getElem?_setIfInBounds_self_of_lt this, Option.getD_some]
          exact hxv x _ _ _ _
        · rw [if_neg e]
          simp only [Array.getD_eq_getD_getElem?, Array.getElem?_setIfInBounds_ne e]
          have := hs.rel t
          simpa [Array.getD_eq_getD_getElem?] using this
      have hdom : ∀ id ri, ρ id = some ri → id < h.length := fun id ri e => by
        rcases Nat.lt_or_ge id h.length with h' | h'
        · exact h'
        · rw [hst.free id h'] at e; cases e
      refine wpIn_mono (hround { w := A, r := ρ } (w.heap.size + 1) pre x hpx hdom _ _ _ _ ha0) fun e a1 A1 hq => ?_
      cases e <;> simp only [lift] at hq <;> try exact hq.elim
      all_goals try (obtain ⟨_, _, _, _, _, hq⟩ := hq; exact hq.elim)
      obtain ⟨ρ1, F1, tm1, h1, hs1, hb1⟩ := hq
      -- the record is busy
      have hl2 : A1.heap[w.heap.size + 1]? = some (.loop (rec .ready none)) := hs1.keep.books _ _ hl1 rfl
      have hk2 : A1.heap[w.heap.size]? = some (.deferred (some [])) := hs1.keep.books _ _ hk1 rfl
      refine ⟨_, run_beginRound hl2 (by rw [hrec]), ?_⟩
      have hOl : ¬ O (w.heap.size + 1) := fun ho => by have := hOlt _ ho; omega
      have hA1 : w.heap.size + 1 < A1.heap.size := (Array.getElem?_eq_some_iff.1 hl2).1
      have hs2 : St O { w := A.putObj (w.heap.size + 1) (.loop { rec .ready none with state := .busy }), r := ρ } N ρ1 F1 tm1 h1 a1 (A1.putObj (w.heap.size + 1) (.loop { rec .ready none with state := .busy })) := by
        refine hs1.bturnC hl2 rfl ?_ hs1.size hs1.rel (Keep.put2 (o' := .loop (rec .ready none)) hs1.keep hA1 hOl) hs1.ext0
        obtain ⟨ds, d1, d2, d3⟩ := hs1.defers
        refine ⟨ds, d1, d2, fun D hD => ⟨by simpa using (d3 D hD).1, ?_⟩⟩
        rw [World.putObj_heap_other (by rintro rfl; have h5 := (d3 _ hD).2; rw [hl2] at h5; cases h5)]
        exact (d3 D hD).2
      refine wpIn_mono (hb1 { w := A.putObj (w.heap.size + 1) (.loop { rec .ready none with state := .busy }), r := ρ } hdom _ _ _ _ hs2) fun e a3 A3 hq => ?_
      cases e <;> simp only [lift] at hq <;> try exact hq.elim
      all_goals try (obtain ⟨_, _, _, _, _, hq⟩ := hq; exact hq.elim)
      obtain ⟨ρ3, F3, tm3, h3, hs3, hent⟩ := hq
      obtain ⟨ρ4, F4, hs4⟩ := hent _ hdom _ _ _ _ hs3
      have hlA : (A.putObj (w.heap.size + 1) (.loop { rec .ready none with state := .busy })).heap[w.heap.size + 1]? = some (.loop { rec .ready none with state := .busy }) := World.putObj_heap_same hAw
      have hl3 : A3.heap[w.heap.size + 1]? = some (.loop { rec .ready none with state := .busy }) := hs4.keep.books _ _ hlA rfl
      have hk3 : A3.heap[w.heap.size]? = some (.deferred (some [])) := hs4.keep.books _ _ (by show (A.putObj _ _).heap[w.heap.size]? = _; rw [World.putObj_heap_other (by omega)]; exact hk1) rfl
      have hend := run_endRound (P := P) none hl3
      have hback : (.loop { { rec .ready none with state := .busy } with state := if (none : Option Code).isNone then .ready else .done, pending := none } : Obj) = .loop (rec .ready none) := by rw [hrec]; rfl
      rw [hback] at hend
      refine ⟨_, _, hend, rfl, ⟨ρ4, F4, ?_⟩, World.putObj_heap_same (Array.getElem?_eq_some_iff.1 hl3).1, (World.putObj_heap_other (by omega)).trans hk3⟩
      exact hs4.bturnC hl3 rfl (DefO.nil rfl) hst.size (fun t => (hst.rel t).det hs4.ext0 (detT_get t hdet)) (Keep.via hs.keep hs4.keep (by simp) hOl) hs4.ext0
    · rintro e B ⟨⟨v, rfl⟩, ys, hys, ⟨ρ', F', hs⟩, hl1, hk1⟩
      have hOl : ¬ O (w.heap.size + 1) := fun ho => by have := hOlt _ ho; omega
      refine ⟨none, _, by have := run_endLoop (P := P) hl1 (by rw [hrec]; simp); rw [hrec] at this; exact this, ρ', F', tm, H ys, ?_, hdone ys hys⟩
      refine hs.bturnC hl1 rfl ?_ hst.size hs.rel (hst.keep.trans (Keep.put hs.keep (by simp) hOl)) fun id ri e => hs.ext0 _ _ (hst.ext0 _ _ e)
      obtain ⟨ds, d1, d2, d3⟩ := hst.defers
      refine ⟨w.heap.size :: ds, by simp [marks, d1], List.nodup_cons.2 ⟨fun hm => ?_, d2⟩, fun D hD => ?_⟩
      · have := (Array.getElem?_eq_some_iff.1 (d3 _ hm).2).1; omega
      · rcases List.mem_cons.1 hD with rfl | hD
        · exact ⟨hst.keep.size, (World.putObj_heap_other (by omega)).trans hk1⟩
        · refine ⟨(d3 D hD).1, ?_⟩
          have hlt := (Array.getElem?_eq_some_iff.1 (d3 D hD).2).1
          rw [World.putObj_heap_other (by omega)]
          exact hs.keep.books _ _ (d3 D hD).2 rfl
end
end Go.IL

set_option linter.unusedVariables false
set_option linter.unusedSimpArgs false
namespace Go.IL
open Go.RowKit
section
variable {P : Program} {N : Nat} {ops : Array Oper}
/-- Quiet operations, one behind the other, for a call of whatever state: nothing that lay turns. -/
theorem QC.below {K : TM → Heap → Prop} : ∀ (k i : Nat) (tm : TM) (h : Heap), QC P N ops i k tm h K → ∀ (ρ : Rho) (O F : Nat → Prop) (a : Act) (w : World) (Q : Exit → Act → World → Prop), Sat ρ O F h w → (∀ id, h.length ≤ id → ρ id = none) →
    (∀ t, VRel ρ O F w (tm.get t) (a.tmps.getD t undef)) → a.tmps.size = N →
    (∀ ρ' F' tm' h' a' w', Ext ρ F w ρ' F' w' → (∀ id, id < h.length → ρ' id = ρ id) → Sat ρ' O F' h' w' → (∀ id, h'.length ≤ id → ρ' id = none) → (∀ t, VRel ρ' O F' w' (tm'.get t) (a'.tmps.getD t undef)) → a'.tmps.size = N → a'.defers = a.defers → h.length ≤ h'.length → K tm' h' → Q .normal a' w') →
    wpOps P ops Q (List.range' i k) a w
  | 0, i, tm, h, hq, ρ, O, F, a, w, Q, hs, hf, hr, hn, hQ => hQ ρ F tm h a w (Ext.refl _ _ _) (fun _ _ => rfl) hs hf hr hn rfl (Nat.le_refl _) hq
  | k + 1, i, tm, h, hq, ρ, O, F, a, w, Q, hs, hf, hr, hn, hQ => by
    obtain ⟨o, sv, ext, ho, hd, hg, hrest⟩ := hq
    have hG := hg ρ O F w a hs (fun t _ => hr t) (fun id h1 _ => hf id h1) (wpOps P ops Q (List.range' (i + 1) k)) Q
      (fun v ρ' F' w' hx hid hs' hv => by
        refine QC.below k (i + 1) _ _ hrest ρ' O F' (a.put o.dst v) w' Q hs' (fun id hid' => ?_) (fun t => ?_) (by rw [Act.put_size]; exact hn) fun ρ2 F2 tm2 h2 a2 w2 hx2 he2 hs2 hf2 hr2 hn2 hd2 hl2 hk2 => ?_
        · have h1 : ρ id = none := hf id (by simp only [List.length_append] at hid'; omega)
          by_cases e : ρ' id = ρ id
          · rw [e]; exact h1
          · have := hid id e
            simp only [List.length_append] at hid'
            omega
        · rw [Act.put_getD hn hd, TM.get_put]
          by_cases e : o.dst = some t
          · simp only [e, if_true]; exact hv
          · simp only [e, if_false]; exact (hr t).ext hs.lt hx
        · refine hQ ρ2 F2 tm2 h2 a2 w2 (hx.trans hx2) (fun id hid' => ?_) hs2 hf2 hr2 hn2 (hd2.trans (Act.put_defers' _ _ _)) (by simp only [List.length_append] at hl2; omega) hk2
          rw [he2 id (by simp only [List.length_append]; omega)]
          by_cases e : ρ' id = ρ id
          · exact e
          · have := hid id e; omega)
    rw [List.range'_succ, wpOps_cons]
    unfold wpOp
    simp only [ho]
    split
    · rename_i hw; simp only [hw, if_true] at hG; exact .inl hG
    · rename_i hw; simp only [hw] at hG; exact hG

/-- What of a value stays known when memory turns under it: numbers, and places of the first n rows. -/
def kp (n : Nat) (s : SV) : SV := bif s.det && s.bnd n then s else .any
theorem kp_rel {n : Nat} {ρ ρ' : Rho} {O F O' F' : Nat → Prop} {w w' : World} (hρ : ∀ id ri, id < n → ρ id = some ri → ρ' id = some ri) {s : SV} {v : Value} (h : VRel ρ O F w s v) : VRel ρ' O' F' w' (kp n s) v := by
  unfold kp
  cases e : (s.det && s.bnd n) with
  | false => exact .any _
  | true =>
    simp only [Bool.and_eq_true] at e
    exact (h.bnd e.2).det (fun id ri e1 => by
      split at e1
      · exact hρ id ri (by assumption) e1
      · cases e1) e.1
def kpT (n : Nat) : TM → TM
  | [] => []
  | (t, s) :: r => (t, kp n s) :: kpT n r
theorem kpT_get (n : Nat) : ∀ (tm : TM) (t : Nat), (kpT n tm).get t = kp n (tm.get t)
  | [], t => rfl
  | (u, s) :: r, t => by
    simp only [kpT, TM.get]
    split
    · rfl
    · exact kpT_get n r t

/-! ### A function that is ranged over -/
structure JS (ρ : Rho) (N : Nat) (tm : TM) (a : Act) (W : World) : Prop where
  rel : ∀ t, VRel ρ (Rest ρ W) (fun _ => False) W (tm.get t) (a.tmps.getD t undef)
  defers : a.defers = []
  size : a.tmps.size = N
def liftJ {α : Type} (J : List α → World → Prop) (ρ : Rho) (N : Nat) (Q : Exit → TM → List α → Prop) : Exit → Act → World → Prop
  | .outgrown, _, _ => False
  | .panic _, _, _ => False
  | e, a, W => ∃ tm pre, JS ρ N tm a W ∧ J pre W ∧ Q e tm pre
def IWJ (P : Program) {α : Type} (J : List α → World → Prop) (ρ : Rho) (N : Nat) (code : Code) (tm : TM) (pre : List α) (Q : Exit → TM → List α → Prop) : Prop :=
  ∀ (a : Act) (W : World), JS ρ N tm a W → J pre W → code.wp P (liftJ J ρ N Q) a W
/-- What the rows and the caller's word bear. -/
structure JC {α : Type} (J : List α → World → Prop) (ρ : Rho) (rows : List Row) : Prop where
  free : ∀ id, rows.length ≤ id → ρ id = none
  grown : ∀ pre A B, J pre A → A.grownBy B none → J pre B
  sat : ∀ pre A, J pre A → Sat ρ (Rest ρ A) (fun _ => False) (rows.map some) A

variable {α : Type} {J : List α → World → Prop} {ρ : Rho} {rows : List Row} {tm : TM} {pre : List α} {tab : Tab} {id : Nat}
def thnJ (K : TM → List α → Prop) (Q : Exit → TM → List α → Prop) : Exit → TM → List α → Prop
  | .normal, tm, pre => K tm pre
  | e, tm, pre => Q e tm pre
def blkJ (id : Nat) (Q : Exit → TM → List α → Prop) : Exit → TM → List α → Prop
  | .exit id', tm, pre => if id' = id then Q .normal tm pre else Q (.exit id') tm pre
  | e, tm, pre => Q e tm pre
variable {Q : Exit → TM → List α → Prop}
theorem IWJ.skip (hq : Q .normal tm pre) : IWJ P J ρ N .skip tm pre Q := fun a W h hj => wp_skip ⟨tm, pre, h, hj, hq⟩
theorem IWJ.ret (hq : Q .ret tm pre) : IWJ P J ρ N .ret tm pre Q := fun a W h hj => wp_ret ⟨tm, pre, h, hj, hq⟩
theorem IWJ.exit {id : Nat} (hq : Q (.exit id) tm pre) : IWJ P J ρ N (.exit id) tm pre Q := fun a W h hj => wp_exit ⟨tm, pre, h, hj, hq⟩
theorem IWJ.seq {x y : Code} (hi : IWJ P J ρ N x tm pre (thnJ (fun tm pre => IWJ P J ρ N y tm pre Q) Q)) : IWJ P J ρ N (.seq x y) tm pre Q :=
  fun a W h hj => wp_seq (wp_mono (hi a W h hj) fun e a w hl => by
    cases e <;> first | exact hl | (obtain ⟨tm, pre, h1, h2, h3⟩ := hl; first | exact h3 _ _ h1 h2 | exact ⟨tm, pre, h1, h2, h3⟩))
theorem IWJ.block {id : Nat} {x : Code} (hi : IWJ P J ρ N x tm pre (blkJ id Q)) : IWJ P J ρ N (.block id x) tm pre Q :=
  fun a W h hj => wp_block (wp_mono (hi a W h hj) fun e a w hl => by
    cases e <;> first | exact hl | skip
    case exit id' =>
      obtain ⟨tm, pre, h1, h2, h3⟩ := hl
      simp only [blkJ] at h3
      simp only [Exit.inBlock]
      split
      · rename_i e; rw [if_pos e] at h3; exact ⟨tm, pre, h1, h2, h3⟩
      · rename_i e; rw [if_neg e] at h3; exact ⟨tm, pre, h1, h2, h3⟩)
theorem IWJ.cond {t : Nat} {b : Bool} {x y : Code} (hb : tm.get t = .bool b) (h1 : b = true → IWJ P J ρ N x tm pre Q) (h0 : b = false → IWJ P J ρ N y tm pre Q) : IWJ P J ρ N (.cond (.tmp t) x y) tm pre Q := by
  intro a W h hj
  have hv := h.rel t
  rw [hb] at hv
  generalize hvv : a.tmps.getD t undef = v at hv
  cases hv
  refine wp_cond (t := b) hvv ?_
  cases b with
  | true => exact h1 rfl a W h hj
  | false => exact h0 rfl a W h hj
/-- Of the temporaries those that are wanted. -/
def subJ (tm : TM) : TM → Prop
  | [] => True
  | (t, s) :: r => tm.get t = s ∧ subJ tm r
theorem subJ_get : ∀ {tm' : TM}, subJ tm tm' → ∀ t, tm'.get t = .any ∨ tm.get t = tm'.get t
  | [], _, t => .inl rfl
  | (u, s) :: r, h, t => by
    simp only [TM.get]
    by_cases e : u = t
    · subst e; rw [if_pos rfl]; exact .inr h.1
    · rw [if_neg e]; exact subJ_get h.2 t
theorem JS.sub {tm' : TM} {a : Act} {W : World} (h : JS ρ N tm a W) (hs : subJ tm tm') : JS ρ N tm' a W :=
  ⟨fun t => by rcases subJ_get hs t with e | e; rw [e]; exact .any _; rw [← e]; exact h.rel t, h.defers, h.size⟩
theorem IWJ.loop {β : Type} {c : Code} (L : β → TM) (R : β → List α) (μ : β → Nat) (x0 : β) (h0 : subJ tm (L x0)) (hp0 : pre = R x0)
    (hr : ∀ x, IWJ P J ρ N c (L x) (R x) (thnJ (fun tm' pre' => ∃ x', μ x' < μ x ∧ subJ tm' (L x') ∧ pre' = R x') Q)) : IWJ P J ρ N (.loop c) tm pre Q := by
  intro a W h hj
  subst hp0
  refine wp_loop_ghost (fun n a w => ∃ x, μ x = n ∧ JS ρ N (L x) a w ∧ J (R x) w) (μ x0) ⟨x0, rfl, h.sub h0, hj⟩ fun n a w hI => ?_
  obtain ⟨x, hx, hs, hjx⟩ := hI
  refine wp_mono (hr x a w hs hjx) fun e a1 w1 hq => ?_
  cases e <;> first | exact hq | skip
  case normal =>
    obtain ⟨tm1, pre1, hs1, hj1, x', hlt, hsub, rfl⟩ := hq
    exact ⟨μ x', by omega, x', rfl, hs1.sub hsub, hj1⟩

theorem IWJ.region (hJ : JC J ρ rows) (hT : TabOk P tab) (D : List (Option Nat)) (hN : dstB N ops D = true)
    (he : ∀ (X : XT) (K : TM → Heap → Prop), XQ P tab ops D X → (∀ tm' h', Q .normal (kpT rows.length tm') pre → K tm' h') → E tab D X ops.toList tm (rows.map some) K) : IWJ P J ρ N (.region id ops false) tm pre Q := by
  intro a W h hj
  have h1 := E_QC hT hN ops.toList 0 tm (rows.map some) (fun tm' _ => Q .normal (kpT rows.length tm') pre) (fun j o e => by simpa using e) (he _ _ (XQ0_ok hT hN) fun _ _ h => h)
  rw [Array.length_toList] at h1
  refine wp_region ?_
  rw [List.range_eq_range']
  refine QC.below _ _ _ _ h1 ρ (Rest ρ W) (fun _ => False) a W _ (hJ.sat _ _ hj) (fun id hid => hJ.free id (by simpa using hid)) h.rel h.size fun ρ' F' tm' h' a' w' hx heq hs hf hr hn hd hl hk => ?_
  refine ⟨_, pre, ⟨fun t => ?_, hd.trans h.defers, hn⟩, hJ.grown _ _ _ hj ⟨hx.below.os, hx.below.tape, hx.below.output, hx.below.size, fun b hb _ => hx.below.block b hb⟩, hk⟩
  rw [kpT_get]
  refine kp_rel (fun id ri hid e => ?_) (hr t)
  rw [← heq id (by simpa using hid)]; exact e
end
end Go.IL

set_option linter.unusedVariables false
set_option linter.unusedSimpArgs false
namespace Go.IL
open Go.RowKit
section
variable {P : Program} {N n : Nat} {ops : Array Oper} {Q : Exit → Act → World → Prop}
theorem rowsInW {row : String} {args : Array Value} {w : World} {R : Value → World → Prop} (h : Rows P row args w R) : RowsIn Fence.wide n P row args w R :=
  fun f cs _ => let ⟨v, w', r, s⟩ := h f cs; ⟨v, w', r, stepsIn_wide.2 s⟩
theorem opInW {o : Oper} {a : Act} {w : World} {next : Act → World → Prop} (h : o.wp P a w next Q) : o.wpIn Fence.wide n P a w next Q := by
  refine ⟨fun _ _ => trivial, ?_⟩
  rw [show Fence.wide.round = none from rfl, Oper.semAt_none]
  unfold Oper.wp at h
  generalize (execOp a.eval o).run P w = r at h
  cases r with
  | ok x w' =>
    cases x
    case enter f args => exact ⟨fun e => (by cases e), callsIn_wide.2 h⟩
    case row row args => exact ⟨fun e => (by cases e), rowsInW h⟩
    case round => exact h.elim
    all_goals exact h
  | halt x w' => cases x <;> exact h

/-- As QC.below, with more to come. -/
theorem QC.belowIn {K : TM → Heap → Prop} {rest : List Nat} : ∀ (k i : Nat) (tm : TM) (h : Heap), QC P N ops i k tm h K → ∀ (ρ : Rho) (O F : Nat → Prop) (a : Act) (w : World), Sat ρ O F h w → (∀ id, h.length ≤ id → ρ id = none) →
    (∀ t, VRel ρ O F w (tm.get t) (a.tmps.getD t undef)) → a.tmps.size = N →
    (∀ ρ' F' tm' h' a' w', Ext ρ F w ρ' F' w' → (∀ id, id < h.length → ρ' id = ρ id) → Sat ρ' O F' h' w' → (∀ id, h'.length ≤ id → ρ' id = none) → (∀ t, VRel ρ' O F' w' (tm'.get t) (a'.tmps.getD t undef)) → a'.tmps.size = N → a'.defers = a.defers → h.length ≤ h'.length → K tm' h' → wpOpsIn Fence.wide n P ops Q rest a' w') →
    wpOpsIn Fence.wide n P ops Q (List.range' i k ++ rest) a w
  | 0, i, tm, h, hq, ρ, O, F, a, w, hs, hf, hr, hn, hQ => hQ ρ F tm h a w (Ext.refl _ _ _) (fun _ _ => rfl) hs hf hr hn rfl (Nat.le_refl _) hq
  | k + 1, i, tm, h, hq, ρ, O, F, a, w, hs, hf, hr, hn, hQ => by
    obtain ⟨o, sv, ext, ho, hd, hg, hrest⟩ := hq
    have hG := hg ρ O F w a hs (fun t _ => hr t) (fun id h1 _ => hf id h1) (wpOpsIn Fence.wide n P ops Q (List.range' (i + 1) k ++ rest)) Q
      (fun v ρ' F' w' hx hid hs' hv => by
        refine QC.belowIn k (i + 1) _ _ hrest ρ' O F' (a.put o.dst v) w' hs' (fun id hid' => ?_) (fun t => ?_) (by rw [Act.put_size]; exact hn) fun ρ2 F2 tm2 h2 a2 w2 hx2 he2 hs2 hf2 hr2 hn2 hd2 hl2 hk2 => ?_
        · have h1 : ρ id = none := hf id (by simp only [List.length_append] at hid'; omega)
          by_cases e : ρ' id = ρ id
          · rw [e]; exact h1
          · have := hid id e
            simp only [List.length_append] at hid'
            omega
        · rw [Act.put_getD hn hd, TM.get_put]
          by_cases e : o.dst = some t
          · simp only [e, if_true]; exact hv
          · simp only [e, if_false]; exact (hr t).ext hs.lt hx
        · refine hQ ρ2 F2 tm2 h2 a2 w2 (hx.trans hx2) (fun id hid' => ?_) hs2 hf2 hr2 hn2 (hd2.trans (Act.put_defers' _ _ _)) (by simp only [List.length_append] at hl2; omega) hk2
          rw [he2 id (by simp only [List.length_append]; omega)]
          by_cases e : ρ' id = ρ id
          · exact e
          · have := hid id e; omega)
    rw [List.range'_succ, List.cons_append, wpOpsIn_cons]
    unfold wpOpIn
    simp only [ho]
    split
    · rename_i hw; simp only [hw, if_true] at hG; exact opInW hG
    · rename_i hw; simp only [hw] at hG; exact ⟨fun _ _ => trivial, hG⟩

variable {α : Type} {J : List α → World → Prop} {ρ : Rho} {rows : List Row} {tm : TM} {pre : List α} {tab : Tab} {id : Nat}

theorem IWJ.region_yield {Q : Exit → TM → List α → Prop} (hJ : JC J ρ rows) (hT : TabOk P tab) (D : List (Option Nat)) (hN : dstB N ops D = true) {m d t0 tx jg dg l : Nat} {xv : α → Value} {x : α} {g : Bool} {o : Oper} {ats : Array TypeId}
    (ho : ops[m]? = some o) (hop : o.op = .call ⟨.value (.tmp t0), #[.tmp tx], ats⟩) (hdst : o.dst = some d) (hgd : o.guard = some (jg, true)) (hgj : (ops[jg]?).bind (·.dst) = some dg)
    (hy : g = true → ∀ A, J pre A → YieldAt Fence.wide 0 P l #[xv x] A fun e B => e = .returned (.bool true) ∧ J (pre ++ [x]) B)
    (he : ∀ (X : XT) (K : TM → Heap → Prop), XQ P tab ops D X → (∀ tm1 h1, (tm1.get dg = .bool g ∧ (g = true → tm1.get t0 = .cnd true (.raw (.func (.yield l) #[] #[])) ∧ ∀ (ρ : Rho) (O F : Nat → Prop) (w : World) (v : Value), VRel ρ O F w (tm1.get tx) v → v = xv x) ∧
      ∀ (X2 : XT) (K2 : TM → Heap → Prop), XQ P tab ops D X2 → (∀ tm' h', Q .normal (kpT rows.length tm') (bif g then pre ++ [x] else pre) → K2 tm' h') → E tab D X2 (ops.toList.drop (m + 1)) ((d, .cnd g (.bool true)) :: kpT rows.length tm1) (rows.map some) K2) → K tm1 h1) → E tab D X (ops.toList.take m) tm (rows.map some) K) : IWJ P J ρ N (.region id ops false) tm pre Q := by
  intro a W h hj
  have hm : m < ops.size := (Array.getElem?_eq_some_iff.1 ho).1
  have hdN : d < N := dstB_lt hN ho d hdst
  have h1 := E_QC hT hN (ops.toList.take m) 0 tm (rows.map some) _ (fun j o' e => by
    have hj : j < m := by have := (List.getElem?_eq_some_iff.1 e).1; simp at this; omega
    rw [List.getElem?_take_of_lt hj] at e
    simpa using e) (he _ _ (XQ0_ok hT hN) fun _ _ h => h)
  have hl : (ops.toList.take m).length = m := by simp; omega
  rw [hl] at h1
  refine (wpIn_wide (n := 0)).1 (wpIn_region ?_)
  have hr : List.range ops.size = List.range' 0 m ++ (m :: (List.range' (m + 1) (ops.size - (m + 1)) ++ [])) := by
    rw [List.append_nil, List.range_eq_range', ← List.range'_succ, show ops.size - (m + 1) + 1 = ops.size - m by omega]
    have := @List.range'_append_1 0 m (ops.size - m)
    rw [Nat.zero_add, show m + (ops.size - m) = ops.size by omega] at this
    exact this.symm
  rw [hr]
  refine QC.belowIn _ _ _ _ h1 ρ (Rest ρ W) (fun _ => False) a W (hJ.sat _ _ hj) (fun id hid => hJ.free id (by simpa using hid)) h.rel h.size fun ρ1 F1 tm1 h1' a1 W1 hx heq hs hf hrel hn hd hlen hk => ?_
  obtain ⟨hg1, hg2, hrest⟩ := hk
  have hj1 : J pre W1 := hJ.grown _ _ _ hj ⟨hx.below.os, hx.below.tape, hx.below.output, hx.below.size, fun b hb _ => hx.below.block b hb⟩
  have hkp : ∀ (B : World) t, VRel ρ (Rest ρ B) (fun _ => False) B ((kpT rows.length tm1).get t) (a1.tmps.getD t undef) := fun B t => by
    rw [kpT_get]
    refine kp_rel (fun id ri hid e => ?_) (hrel t)
    rw [← heq id (by simpa using hid)]; exact e
  have hgo : ∀ (pre' : List α) (B : World) (v : Value), pre' = (bif g then pre ++ [x] else pre) → J pre' B → (∀ ρ O F w, VRel ρ O F w (.cnd g (.bool true)) v) → wpOpsIn Fence.wide 0 P ops (liftJ J ρ N Q) (List.range' (m + 1) (ops.size - (m + 1)) ++ []) (a1.put o.dst v) B := by
    intro pre' B v hp' hjB hv
    have h2 := E_QC hT hN (ops.toList.drop (m + 1)) (m + 1) ((d, .cnd g (.bool true)) :: kpT rows.length tm1) (rows.map some) _ (fun j o' e => by rw [List.getElem?_drop] at e; simpa using e) (hrest _ _ (XQ0_ok hT hN) fun _ _ h => h)
    rw [List.length_drop, Array.length_toList] at h2
    refine QC.belowIn _ _ _ _ h2 ρ (Rest ρ B) (fun _ => False) _ B (hJ.sat _ _ hjB) (fun id hid => hJ.free id (by simpa using hid)) (fun t => ?_) (by rw [Act.put_size]; exact hn) fun ρ2 F2 tm2 h2' a2 W2 hx2 heq2 hs2 hf2 hrel2 hn2 hd2 hlen2 hk2 => ?_
    · rw [Act.put_getD hn (fun d' e => by rw [hdst] at e; cases e; exact hdN), hdst]
      simp only [TM.get, Option.some.injEq]
      by_cases e : d = t
      · simp only [e, if_true]; exact hv _ _ _ _
      · simp only [e, if_false]; exact hkp B t
    · refine ⟨_, pre', ⟨fun t => ?_, (hd2.trans (Act.put_defers' _ _ _)).trans (hd.trans h.defers), hn2⟩, hJ.grown _ _ _ hjB ⟨hx2.below.os, hx2.below.tape, hx2.below.output, hx2.below.size, fun b hb _ => hx2.below.block b hb⟩, by rw [hp']; exact hk2⟩
      rw [kpT_get]
      refine kp_rel (fun id ri hid e => ?_) (hrel2 t)
      rw [← heq2 id (by simpa using hid)]; exact e
  have hw : Region.wanted o (yielded ops a1.tmps) = g := gcond_eq (tm := tm1) hgd hgj (by rw [hg1]; cases g <;> rfl) (fun t _ => hrel t)
  rw [wpOpsIn_cons]
  unfold wpOpIn
  simp only [ho]
  rw [hw]
  cases g with
  | false =>
    simp only [Bool.false_eq_true, if_false]
    exact ⟨fun _ _ => trivial, hgo pre W1 undef rfl hj1 fun _ _ _ _ => .cnd _ _ _ (fun e => by cases e) (fun _ => rfl)⟩
  | true =>
    simp only [if_true]
    obtain ⟨e0, ex⟩ := hg2 rfl
    have hv0 := hrel t0
    rw [e0] at hv0
    have hvx := ex _ _ _ _ _ (hrel tx)
    generalize hv00 : a1.tmps.getD t0 undef = v0 at hv0
    cases hv0 with
    | cnd _ _ _ hc _ =>
    have hc' := hc rfl
    cases hc'
    obtain ⟨fn, tmps, assign, body, hrun, hround⟩ := hy rfl W1 hj1
    refine ⟨fun _ _ => trivial, ?_⟩
    rw [show Fence.wide.round = none from rfl, Oper.semAt_none]
    have hexec : (execOp a1.eval o).run P W1 = .ok (.round l fn tmps assign body) W1 := by
      obtain ⟨_, op, _, _, _, _⟩ := o
      simp only at hop
      subst hop
      simp only [execOp, resolve, show a1.eval (.tmp t0) = .func (.yield l) #[] #[] from hv00, Deferred.ofValue]
      rw [run_bind, run_pure]
      simp only [invoke, Array.empty_append, Array.append_empty, List.map_toArray, List.map_cons, List.map_nil, show a1.eval (.tmp tx) = xv x from hvx]
      exact hrun
    rw [hexec, Oper.uponIn_round]
    refine ⟨fun e => (by cases e), hround.mono ?_⟩
    rintro e B ⟨rfl, hjB⟩
    exact hgo (pre ++ [x]) B _ rfl hjB fun _ _ _ _ => .cnd _ _ _ (fun _ => .bool _) (fun e => by cases e)
end
end Go.IL

set_option linter.unusedVariables false
set_option linter.unusedSimpArgs false
namespace Go.IL
open Go.RowKit
section
variable {P : Program} {N : Nat}
theorem SeqOf.intro {gf : FuncId} {fn : Func} {c : Code} {caps : List SV} {rows : List Row} {α : Type} {xv : α → Value} {Y : List α → Prop} (hf : P.funcs[gf]? = some fn) (hb : fn.body = some c) (hN : fn.ntmps = N) (hres : fn.results = #[]) (hname : (fn.name == "runtime.NumGoroutine") = false) (hcl : caps.length + 1 ≤ N)
    (hw : ∀ (l : Nat) (J : List α → World → Prop) (ρ : Rho) (S : Nat), JC J ρ rows → (∀ pre A B r o, J pre A → A.grownBy B (some r) → S ≤ r → A.heap[r]? = some o → o.isWalk = true → J pre B) →
      (∀ pre x A, (∃ r, Y (pre ++ x :: r)) → J pre A → YieldAt Fence.wide 0 P l #[xv x] A fun e B => e = .returned (.bool true) ∧ J (pre ++ [x]) B) →
      IWJ P J ρ N c ((0, .raw (.func (.yield l) #[] #[])) :: argTM 1 caps) [] (fun e _ pre => (e = .normal ∨ e = .ret) ∧ Y pre)) : SeqOf P gf caps rows xv Y := by
  refine ⟨enters hf hname (by rw [hb]; rfl), fun l J W vs ρ hfree hlen hvs hgrow hwalk hsat hy hj => calls_of_wp hf hb ?_⟩
  have hjs : JS ρ N ((0, .raw (.func (.yield l) #[] #[])) :: argTM 1 caps) { tmps := (#[Value.func (.yield l) #[] #[]] ++ vs) ++ Array.replicate (fn.ntmps - (#[Value.func (.yield l) #[] #[]] ++ vs).size) undef, defers := [] } W := by
    refine ⟨fun t => ?_, rfl, by simp; omega⟩
    simp only [TM.get]
    by_cases e : 0 = t
    · subst e; rw [if_pos rfl]
      have : ((#[Value.func (.yield l) #[] #[]] ++ vs) ++ Array.replicate (fn.ntmps - (#[Value.func (.yield l) #[] #[]] ++ vs).size) undef).getD 0 undef = .func (.yield l) #[] #[] := by simp [Array.getD_eq_getD_getElem?, Array.getElem?_append]
      rw [this]; exact .raw _
    · rw [if_neg e, argTM_get, if_pos (by omega)]
      cases ec : caps[t - 1]? with
      | none => exact .any _
      | some s =>
        have ht : t - 1 < vs.size := by rw [← hlen]; exact (List.getElem?_eq_some_iff.1 ec).1
        have e2 : vs[t - 1]? = some vs[t - 1] := by simp [ht]
        have h3 := hvs (t - 1) s _ (Rest ρ W) (fun _ => False) W ec e2
        have h4 : ((#[Value.func (.yield l) #[] #[]] ++ vs) ++ Array.replicate (fn.ntmps - (#[Value.func (.yield l) #[] #[]] ++ vs).size) undef).getD t undef = vs[t - 1] := by
          rw [Array.getD_eq_getD_getElem?, Array.getElem?_append_left (by simp; omega), Array.getElem?_append_right (by simp; omega)]
          simp [ht]
        rw [h4]; exact h3
  refine wp_mono (hw l J ρ W.heap.size ⟨hfree, hgrow, hsat⟩ hwalk hy _ W hjs hj) fun e a w hl => ?_
  cases e <;> simp only [liftJ] at hl <;> try exact hl.elim
  all_goals
    obtain ⟨tm, pre, h1, h2, h3, h4⟩ := hl
    first
    | (exfalso; rcases h3 with h3 | h3 <;> cases h3; done)
    | (refine ⟨h1.defers, .tuple #[], ?_, ⟨_, rfl⟩, pre, h4, h2⟩
       simp [results, hres, run_bind, run_pure])
end
end Go.IL

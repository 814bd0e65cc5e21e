/- Contracts of what is made valid, and of the law FontLeaves. -/
import Derived.Test.YtnbpbehlemaeoaaB9
set_option linter.unusedVariables false
set_option linter.unusedSimpArgs false
set_option maxRecDepth 10000
namespace Go.Proofs.Ytnbpbehlemaeoaa
open Go.IL
/-- Is there ink, or a line, above a pixel? -/
def upB (w : Nat) (p l : List Int) (x y : Nat) : Bool := decide (0 < y) && ((p.getD ((y - 1) * w + x) 0 == 1) || hasS l ((y : Int) - 1))
def dnB (w h : Nat) (p l : List Int) (x y : Nat) : Bool := decide (y + 1 < h) && ((p.getD ((y + 1) * w + x) 0 == 1) || hasS l ((y : Int) + 1))
theorem liF_pix {w h x y : Nat} {p l : List Int} (hr : rightS w h p = true) (hq : p.length = w * h) (hx : x < w) (hy : y < h) : (liF w h p l).getD (y * w + x) 0 = if hasS l (y : Int) then 1 else p.getD (y * w + x) 0 := by
  have hlt := cell_lt hx hy
  unfold liF
  rw [if_pos hr, rm_getD _ (by omega)]
  have e := (cell_eq (t := y * w + x) (y := y) hx).1 rfl
  simp only [linedF, Int.toNat_natCast, e.1]
theorem li_up {w h x y : Nat} {p l : List Int} (hr : rightS w h p = true) (hp : ∀ t, p.getD t 0 = 0 ∨ p.getD t 0 = 1) (hq : p.length = w * h) (hx : x < w) (hy : y < h) : (atF w h (liF w h p l) (x : Int) ((y : Int) - 1) == 0) = !upB w p l x y := by
  unfold upB
  cases y with
  | zero => rw [atF, if_pos (by omega)]; rfl
  | succ y =>
    rw [atF, if_neg (by omega)]
    have e1 : (((y + 1 : Nat) : Int) - 1).toNat = y := by omega
    have e2 : ((y + 1 : Nat) : Int) - 1 = (y : Int) := by omega
    rw [e1, Int.toNat_natCast, liF_pix hr hq hx (by omega), e2]
    simp only [Nat.add_sub_cancel, Nat.zero_lt_succ, decide_true, Bool.true_and]
    cases hasS l (y : Int) with
    | true => simp
    | false => rcases hp (y * w + x) with h1 | h1 <;> rw [h1] <;> rfl
theorem li_dn {w h x y : Nat} {p l : List Int} (hr : rightS w h p = true) (hp : ∀ t, p.getD t 0 = 0 ∨ p.getD t 0 = 1) (hq : p.length = w * h) (hx : x < w) (hy : y < h) : (atF w h (liF w h p l) (x : Int) ((y : Int) + 1) == 0) = !dnB w h p l x y := by
  unfold dnB
  by_cases c : y + 1 < h
  · rw [atF, if_neg (by omega)]
    have e1 : ((y : Int) + 1).toNat = y + 1 := by omega
    have e2 : (y : Int) + 1 = ((y + 1 : Nat) : Int) := by omega
    rw [e1, Int.toNat_natCast, liF_pix hr hq hx c, e2]
    simp only [c, decide_true, Bool.true_and]
    cases hasS l ((y + 1 : Nat) : Int) with
    | true => simp
    | false => rcases hp ((y + 1) * w + x) with h1 | h1 <;> rw [h1] <;> rfl
  · rw [atF, if_pos (by omega)]
    simp only [c, decide_false, Bool.false_and]; rfl
theorem drs_rd {w h : Nat} {p l : List Int} (hr : rightS w h p = true) (hp : ∀ x ∈ p, 0 ≤ x) : drsF w h p l = rm p.length (rdF w h (liF w h p l) l) := by
  have hq := liF_length w h p l
  rw [if_pos hr] at hq
  rw [← hq, rd_dr (liF_bits hp)]
  simp [drsF, hr]
theorem leaves_pix {w h x y : Nat} {p l : List Int} (hr : rightS w h p = true) (hp : ∀ x ∈ p, 0 ≤ x) (hq : p.length = w * h) (hx : x < w) (hy : y < h) :
    (drsF w h p l).getD (y * w + x) 0 = if hasS l (y : Int) then (if upB w p l x y || dnB w h p l x y then 1 else 0) else p.getD (y * w + x) 0 := by
  have hb : ∀ t, p.getD t 0 = 0 ∨ p.getD t 0 = 1 := fun t => getD_bits (right_bits hr hp) t
  have hlt := cell_lt hx hy
  rw [drs_rd hr hp, rm_getD _ (by omega)]
  have e := (cell_eq (t := y * w + x) (y := y) hx).1 rfl
  simp only [rdF, e.1, e.2]
  rw [li_up hr hb hq hx hy, li_dn hr hb hq hx hy, liF_pix hr hq hx hy]
  cases hasS l (y : Int) <;> cases upB w p l x y <;> cases dnB w h p l x y <;> rfl
end Go.Proofs.Ytnbpbehlemaeoaa

set_option linter.unusedVariables false
set_option linter.unusedSimpArgs false
set_option maxRecDepth 10000
namespace Go.Proofs.Ytnbpbehlemaeoaa
open Go.IL
/-- A valid image of any one. -/
def vF (p : List Int) (i t : Nat) : Int := if t < i ∧ t < p.length then (p.getD t 0).tmod 2 else 0
def vW (W : Int) : Nat := (pickF W 21).toNat
def vP (W H : Int) (p : List Int) : List Int := rm (vW W * vW H) fun t => if t < p.length then (p.getD t 0).tmod 2 else 0
theorem vW_bd (W : Int) : ((vW W : Nat) : Int) = pickF W 21 ∧ vW W ≤ 20 := by
  have := pickF_bd W 21 (by omega)
  unfold vW; omega
theorem vP_len (W H : Int) (p : List Int) : (vP W H p).length = vW W * vW H := rm_length _ _
theorem fValid (W H : Int) (p : List Int) (hW : I64 W) (hH : I64 H) (hp : ∀ x ∈ p, 0 ≤ x ∧ x < 256) : FSpec Try.prog 30 [ink W H p] (resI (vW W) (vW H) (vP W H p)) (resR (vP W H p)) := by
  obtain ⟨hw, hw20⟩ := vW_bd W
  obtain ⟨hh, hh20⟩ := vW_bd H
  unfold I64 at hW hH
  refine res_ref ?_
  have e1 := vP_len W H p
  obtain ⟨w, hwe⟩ : ∃ w, w = vW W := ⟨_, rfl⟩
  obtain ⟨h, hhe⟩ : ∃ h, h = vW H := ⟨_, rfl⟩
  have hvp : vP W H p = rm (w * h) fun t => if t < p.length then (p.getD t 0).tmod 2 else 0 := by rw [hwe, hhe]; rfl
  rw [e1, hvp, ← hwe, ← hhe]
  rw [← hwe] at hw hw20
  rw [← hhe] at hh hh20
  clear e1 hvp hwe hhe
  have hn : w * h ≤ 20 * 20 := Nat.mul_le_mul hw20 hh20
  have em : IntKind.i64.wrap ((w : Int) * (h : Int)) = ((w * h : Nat) : Int) := by
    rw [← Int.natCast_mul]; exact wrap_eq (by omega) (by omega)
  obtain ⟨n, hne⟩ : ∃ n, n = w * h := ⟨_, rfl⟩
  rw [← hne] at em hn ⊢
  refine FSpec.intro tab_ok Try.func30 rfl rfl rfl (by kernel_rfl) (by simp) fun w0 => ?_
  simp only [argTM, Nat.zero_add, Nat.reduceAdd]
  simp only [ink]
  repeat refine IW.seq ?_
  refine IW.region_seq tab_ok [some 1, some 2] rfl fun X K hX hK => ?_
  simp only [go_sem, if_true, if_false, reduceIte, Nat.reduceEqDiff, Nat.reduceAdd, Nat.reduceLT, Nat.reduceLeDiff, reduceCtorEq]
  refine hK _ _ ?_; clear hX hK X K
  show IW _ _ _ _ _ _ _ _
  repeat refine IW.seq ?_
  refine IW.region_draw tab_ok mixed [some 5, some 6, some 7, some 8, some 9, some 10, some 11, some 3, none] 8 (by kernel_rfl) rfl fun Xq Xs K hXq hXs hK K1 hK1 => ?_
  simp only [go_sem, if_true, if_false, reduceIte, Nat.reduceEqDiff, Nat.reduceAdd, Nat.reduceLT, Nat.reduceLeDiff, reduceCtorEq]
  refine hXq.quiet _ _ (OpG.of_B rfl (opB_call rfl rfl (FSpec.nz (kPick W 21 ⟨by omega, by omega⟩ (by omega)) (by simp [go_sem, if_true, if_false, reduceIte, Nat.reduceEqDiff, Nat.reduceAdd, Nat.reduceLT, Nat.reduceLeDiff, reduceCtorEq, List.map_cons, List.map_nil, List.append_nil, opnd, unc, ← hw])))) ?_
  simp only [go_sem, if_true, if_false, reduceIte, Nat.reduceEqDiff, Nat.reduceAdd, Nat.reduceLT, Nat.reduceLeDiff, reduceCtorEq, ← hw]
  refine hXq.quiet _ _ (OpG.of_B rfl (opB_call rfl rfl (FSpec.nz (kPick H 21 ⟨by omega, by omega⟩ (by omega)) (by simp [go_sem, if_true, if_false, reduceIte, Nat.reduceEqDiff, Nat.reduceAdd, Nat.reduceLT, Nat.reduceLeDiff, reduceCtorEq, List.map_cons, List.map_nil, List.append_nil, opnd, unc, ← hh])))) ?_
  simp only [go_sem, if_true, if_false, reduceIte, Nat.reduceEqDiff, Nat.reduceAdd, Nat.reduceLT, Nat.reduceLeDiff, reduceCtorEq, ← hh]
  refine hK1 _ _ ?_; clear hXq hK1 K1 Xq
  simp only [List.drop_zero, List.drop_succ_cons, go_sem, if_true, if_false, reduceIte, Nat.reduceEqDiff, Nat.reduceAdd, Nat.reduceLT, Nat.reduceLeDiff, reduceCtorEq]
  refine hXs.op _ _ rfl (opS_store tab_ok rfl (by simp [go_sem, if_true, if_false, reduceIte, Nat.reduceEqDiff, Nat.reduceAdd, Nat.reduceLT, Nat.reduceLeDiff, reduceCtorEq]) (by simp [go_sem, if_true, if_false, reduceIte, Nat.reduceEqDiff, Nat.reduceAdd, Nat.reduceLT, Nat.reduceLeDiff, reduceCtorEq]) (by simp [go_sem, if_true, if_false, reduceIte, Nat.reduceEqDiff, Nat.reduceAdd, Nat.reduceLT, Nat.reduceLeDiff, reduceCtorEq]) (by simp [go_sem, if_true, if_false, reduceIte, Nat.reduceEqDiff, Nat.reduceAdd, Nat.reduceLT, Nat.reduceLeDiff, reduceCtorEq]) (by simp [go_sem, if_true, if_false, reduceIte, Nat.reduceEqDiff, Nat.reduceAdd, Nat.reduceLT, Nat.reduceLeDiff, reduceCtorEq]) (by simp [go_sem, if_true, if_false, reduceIte, Nat.reduceEqDiff, Nat.reduceAdd, Nat.reduceLT, Nat.reduceLeDiff, reduceCtorEq])) ?_
  simp only [go_sem, if_true, if_false, reduceIte, Nat.reduceEqDiff, Nat.reduceAdd, Nat.reduceLT, Nat.reduceLeDiff, reduceCtorEq]
  refine hK _ _ ?_; clear hXs hK K Xs
  show IW _ _ _ _ _ _ _ _
  repeat refine IW.seq ?_
  refine IW.region_seq tab_ok [some 12, some 13, some 14, some 15, some 16, some 17, some 18, none] rfl fun X K hX hK => ?_
  simp only [go_sem, if_true, if_false, reduceIte, Nat.reduceEqDiff, Nat.reduceAdd, Nat.reduceLT, Nat.reduceLeDiff, reduceCtorEq, em]
  refine hX.quiet _ _ (OpG.of_B rfl (opB_makeSlice tab_ok (k := .i64) (n := n) (by simp only [go_sem, if_true, if_false, reduceIte, Nat.reduceEqDiff, Nat.reduceAdd, Nat.reduceLT, Nat.reduceLeDiff, reduceCtorEq]) rfl (by simp [go_sem, if_true, if_false, reduceIte, Nat.reduceEqDiff, Nat.reduceAdd, Nat.reduceLT, Nat.reduceLeDiff, reduceCtorEq]) (by simp [go_sem, if_true, if_false, reduceIte, Nat.reduceEqDiff, Nat.reduceAdd, Nat.reduceLT, Nat.reduceLeDiff, reduceCtorEq]; omega) (by omega))) ?_
  simp only [go_sem, if_true, if_false, reduceIte, Nat.reduceEqDiff, Nat.reduceAdd, Nat.reduceLT, Nat.reduceLeDiff, reduceCtorEq]
  refine hX.op _ _ rfl (opS_store tab_ok rfl (by simp [go_sem, if_true, if_false, reduceIte, Nat.reduceEqDiff, Nat.reduceAdd, Nat.reduceLT, Nat.reduceLeDiff, reduceCtorEq]) (by simp [go_sem, if_true, if_false, reduceIte, Nat.reduceEqDiff, Nat.reduceAdd, Nat.reduceLT, Nat.reduceLeDiff, reduceCtorEq]) (by simp [go_sem, if_true, if_false, reduceIte, Nat.reduceEqDiff, Nat.reduceAdd, Nat.reduceLT, Nat.reduceLeDiff, reduceCtorEq]) (by simp [go_sem, if_true, if_false, reduceIte, Nat.reduceEqDiff, Nat.reduceAdd, Nat.reduceLT, Nat.reduceLeDiff, reduceCtorEq]) (by simp [go_sem, if_true, if_false, reduceIte, Nat.reduceEqDiff, Nat.reduceAdd, Nat.reduceLT, Nat.reduceLeDiff, reduceCtorEq]) (by simp [go_sem, if_true, if_false, reduceIte, Nat.reduceEqDiff, Nat.reduceAdd, Nat.reduceLT, Nat.reduceLeDiff, reduceCtorEq])) ?_
  simp only [go_sem, if_true, if_false, reduceIte, Nat.reduceEqDiff, Nat.reduceAdd, Nat.reduceLT, Nat.reduceLeDiff, reduceCtorEq]
  refine hK _ _ ?_; clear hX hK X K
  show IW _ _ _ _ _ _ _ _
  repeat refine IW.seq ?_
  refine IW.region_seq tab_ok [some 4] rfl fun X K hX hK => ?_
  simp only [go_sem, if_true, if_false, reduceIte, Nat.reduceEqDiff, Nat.reduceAdd, Nat.reduceLT, Nat.reduceLeDiff, reduceCtorEq]
  refine hK _ _ ?_; clear hX hK X K
  show IW _ _ _ _ _ _ _ _
  repeat refine IW.seq ?_
  refine IW.block ?_
  refine IW.loop (α := {i : Nat // i ≤ n ∧ i ≤ p.length}) (fun i => [(1, .ptr 0 0 0), (2, .ptr 1 0 0), (3, .ptr 2 0 0), (4, .int .i64 i.1)]) (fun i => [some ⟨3, 33, [[.int .i64 W, .int .i64 H, .sl true (nums .u8 p)]]⟩, some ⟨3, 33, [[.int .i64 0, .int .i64 0, .nils]]⟩, some ⟨3, 33, [[.int .i64 w, .int .i64 h, .ref 3 0 n]]⟩, some ⟨1, 5, nums .u8 (rm n (vF p i.1))⟩]) (fun i => n - i.1) ⟨0, Nat.zero_le _, Nat.zero_le _⟩ ?_ fun ⟨i, hi, hip⟩ => ?_
  · have : List.replicate n (0 : Int) = rm n (vF p 0) := by rw [rm_zero]; exact rm_congr fun t _ => by simp [vF]
    refine Ent.cut ?_ ?_ <;> simp only [go_sem, if_true, if_false, reduceIte, Nat.reduceEqDiff, Nat.reduceAdd, Nat.reduceLT, Nat.reduceLeDiff, reduceCtorEq, this]
  · simp only []
    repeat refine IW.seq ?_
    refine IW.region_seq tab_ok [some 19, some 20, some 21, some 22, some 23, some 24, some 25, some 26, some 27, some 28, some 29, some 30] rfl fun X K hX hK => ?_
    simp only [go_sem, if_true, if_false, reduceIte, Nat.reduceEqDiff, Nat.reduceAdd, Nat.reduceLT, Nat.reduceLeDiff, reduceCtorEq]
    refine hK _ _ ?_; clear hX hK X K
    show IW _ _ _ _ _ _ _ _
    repeat refine IW.seq ?_
    refine IW.cond rfl (fun hb1 => ?_) (fun hb1 => ?_)
    · have hlt : i < n ∧ i < p.length := by
        simp only [Bool.and_eq_true, decide_eq_true_eq] at hb1; omega
      obtain ⟨hin, hipl⟩ := hlt
      refine IW.skip ?_
      show IW _ _ _ _ _ _ _ _
      refine IW.seq (IW.block ?_)
      have hx := hp (p.getD i 0) (by rw [List.getD_eq_getElem?_getD, List.getElem?_eq_getElem hipl]; exact List.getElem_mem hipl)
      repeat refine IW.seq ?_
      refine IW.region_draw tab_ok mixed [some 33, some 34, some 35, some 36, some 37, some 38, some 39, some 40, some 41, some 42, none] 10 (by kernel_rfl) rfl fun Xq Xs K hXq hXs hK K1 hK1 => ?_
      simp only [go_sem, if_true, if_false, reduceIte, Nat.reduceEqDiff, Nat.reduceAdd, Nat.reduceLT, Nat.reduceLeDiff, reduceCtorEq, nums_at hipl]
      refine ⟨⟨by omega, by omega⟩, by omega, ⟨by omega, by omega⟩, ?_⟩
      refine hK1 _ _ ?_; clear hXq hK1 K1 Xq
      simp only [List.drop_zero, List.drop_succ_cons, go_sem, if_true, if_false, reduceIte, Nat.reduceEqDiff, Nat.reduceAdd, Nat.reduceLT, Nat.reduceLeDiff, reduceCtorEq]
      have hat := nums_at (k := .u8) (xs := rm n (vF p i)) (i := i) (by rw [rm_length]; exact hin)
      refine hXs.op _ _ rfl (opS_store tab_ok rfl (by simp [go_sem, if_true, if_false, reduceIte, Nat.reduceEqDiff, Nat.reduceAdd, Nat.reduceLT, Nat.reduceLeDiff, reduceCtorEq]) (by simp [go_sem, if_true, if_false, reduceIte, Nat.reduceEqDiff, Nat.reduceAdd, Nat.reduceLT, Nat.reduceLeDiff, reduceCtorEq]) (by simp [go_sem, if_true, if_false, reduceIte, Nat.reduceEqDiff, Nat.reduceAdd, Nat.reduceLT, Nat.reduceLeDiff, reduceCtorEq]) (by simp [go_sem, if_true, if_false, reduceIte, Nat.reduceEqDiff, Nat.reduceAdd, Nat.reduceLT, Nat.reduceLeDiff, reduceCtorEq, hin, hat]) (by simp [go_sem, if_true, if_false, reduceIte, Nat.reduceEqDiff, Nat.reduceAdd, Nat.reduceLT, Nat.reduceLeDiff, reduceCtorEq]) (by simp [go_sem, if_true, if_false, reduceIte, Nat.reduceEqDiff, Nat.reduceAdd, Nat.reduceLT, Nat.reduceLeDiff, reduceCtorEq])) ?_
      simp only [go_sem, if_true, if_false, reduceIte, Nat.reduceEqDiff, Nat.reduceAdd, Nat.reduceLT, Nat.reduceLeDiff, reduceCtorEq, hin, hat]
      refine hK _ _ ?_; clear hXs hK K Xs
      show IW _ _ _ _ _ _ _ _
      repeat refine IW.seq ?_
      refine IW.region_seq tab_ok [some 31, some 32, some 4] rfl fun X K hX hK => ?_
      simp only [go_sem, if_true, if_false, reduceIte, Nat.reduceEqDiff, Nat.reduceAdd, Nat.reduceLT, Nat.reduceLeDiff, reduceCtorEq, succ_wrap hin (by omega)]
      refine hK _ _ ⟨⟨i + 1, hin, hipl⟩, by simp only []; omega, ?_⟩
      have hs : (rm n fun t => if t = i then (p.getD i 0).tmod 2 else vF p i t) = rm n (vF p (i + 1)) := rm_congr fun t _ => by
        unfold vF
        by_cases c : t = i
        · subst c; rw [if_pos rfl, if_pos ⟨by omega, hipl⟩]
        · rw [if_neg c]
          by_cases d : t < i
          · rw [if_pos ⟨d, by omega⟩, if_pos ⟨by omega, by omega⟩]
          · rw [if_neg (by omega), if_neg (by omega)]
      refine Ent.cut ?_ ?_ <;> simp only [go_sem, if_true, if_false, reduceIte, Nat.reduceEqDiff, Nat.reduceAdd, Nat.reduceLT, Nat.reduceLeDiff, reduceCtorEq, rm_set, hs]
    · refine IW.exit ?_
      show IW _ _ _ _ _ _ _ _
      have hs : rm n (vF p i) = rm n fun t => if t < p.length then (p.getD t 0).tmod 2 else 0 := rm_congr fun t ht => by
        have hlt : ¬ (i < n ∧ i < p.length) := fun hlt => by
          simp [hlt.1, hlt.2] at hb1
        unfold vF
        by_cases c : t < p.length
        · rw [if_pos ⟨by omega, c⟩, if_pos c]
        · rw [if_neg (fun h => c h.2), if_neg c]
      rw [hs]
      repeat refine IW.seq ?_
      refine IW.region_seq tab_ok [some 43, none] rfl fun X K hX hK => ?_
      simp only [go_sem, if_true, if_false, reduceIte, Nat.reduceEqDiff, Nat.reduceAdd, Nat.reduceLT, Nat.reduceLeDiff, reduceCtorEq]
      refine hX.op _ _ rfl (opS_store tab_ok rfl (by simp [go_sem, if_true, if_false, reduceIte, Nat.reduceEqDiff, Nat.reduceAdd, Nat.reduceLT, Nat.reduceLeDiff, reduceCtorEq]) (by simp [go_sem, if_true, if_false, reduceIte, Nat.reduceEqDiff, Nat.reduceAdd, Nat.reduceLT, Nat.reduceLeDiff, reduceCtorEq]) (by simp [go_sem, if_true, if_false, reduceIte, Nat.reduceEqDiff, Nat.reduceAdd, Nat.reduceLT, Nat.reduceLeDiff, reduceCtorEq]) (by simp [go_sem, if_true, if_false, reduceIte, Nat.reduceEqDiff, Nat.reduceAdd, Nat.reduceLT, Nat.reduceLeDiff, reduceCtorEq]) (by simp [go_sem, if_true, if_false, reduceIte, Nat.reduceEqDiff, Nat.reduceAdd, Nat.reduceLT, Nat.reduceLeDiff, reduceCtorEq]) (by simp [go_sem, if_true, if_false, reduceIte, Nat.reduceEqDiff, Nat.reduceAdd, Nat.reduceLT, Nat.reduceLeDiff, reduceCtorEq])) ?_
      simp only [go_sem, if_true, if_false, reduceIte, Nat.reduceEqDiff, Nat.reduceAdd, Nat.reduceLT, Nat.reduceLeDiff, reduceCtorEq]
      refine hK _ _ ?_; clear hX hK X K
      show IW _ _ _ _ _ _ _ _
      refine IW.ret (Fin.cell1 3 ⟨trivial, by simp [go_sem, if_true, if_false, reduceIte, Nat.reduceEqDiff, Nat.reduceAdd, Nat.reduceLT, Nat.reduceLeDiff, reduceCtorEq]⟩ rfl (by simp [go_sem, if_true, if_false, reduceIte, Nat.reduceEqDiff, Nat.reduceAdd, Nat.reduceLT, Nat.reduceLeDiff, reduceCtorEq]) ?_ ?_)
      · simp [go_sem, if_true, if_false, reduceIte, Nat.reduceEqDiff, Nat.reduceAdd, Nat.reduceLT, Nat.reduceLeDiff, reduceCtorEq]
      · simp [go_sem, if_true, if_false, reduceIte, Nat.reduceEqDiff, Nat.reduceAdd, Nat.reduceLT, Nat.reduceLeDiff, reduceCtorEq]
end Go.Proofs.Ytnbpbehlemaeoaa

set_option linter.unusedVariables false
set_option linter.unusedSimpArgs false
set_option maxRecDepth 10000
namespace Go.Proofs.Ytnbpbehlemaeoaa
open Go.IL
theorem vP_bits {W H : Int} {p : List Int} (hp : ∀ x ∈ p, 0 ≤ x ∧ x < 256) : ∀ x ∈ vP W H p, 0 ≤ x ∧ x ≤ 1 := by
  intro x hx
  simp only [vP, rm, List.mem_map] at hx
  obtain ⟨t, _, rfl⟩ := hx
  split
  · rename_i hl
    have := hp (p.getD t 0) (by rw [List.getD_eq_getElem?_getD, List.getElem?_eq_getElem hl]; exact List.getElem_mem hl)
    generalize p.getD t 0 = y at *
    have : y.tmod 2 = y % 2 := Int.tmod_eq_emod_of_nonneg this.1
    omega
  · omega
theorem vP_right {W H : Int} {p : List Int} (hp : ∀ x ∈ p, 0 ≤ x ∧ x < 256) : rightS (vW W) (vW H) (vP W H p) = true := by
  have h1 := vW_bd W
  have h2 := vW_bd H
  have h3 := vP_len W H p
  have h4 : ((vP W H p).length : Int) = ((vW W : Nat) : Int) * ((vW H : Nat) : Int) := by rw [h3, Int.natCast_mul]
  simp only [rightS, Bool.and_eq_true, decide_eq_true_eq, List.all_eq_true]
  exact ⟨⟨by omega, by omega, by omega, by omega, h4⟩, fun x hx => (vP_bits hp x hx).2⟩
/-- The marks of some lines. -/
def mkL (l : List Int) : List Int := l.foldl markIns []
theorem mkL_any' (l ks : List Int) (m : Int) : ((l.foldl markIns ks).any (· == m)) = (ks.any (· == m) || hasS l m) := by
  induction l generalizing ks with
  | nil => simp [hasS]
  | cons x l ih =>
    rw [List.foldl_cons, ih, markIns_any]
    simp [hasS, Bool.or_assoc]
theorem mkL_any (l : List Int) (m : Int) : ((mkL l).any (· == m)) = hasS l m := by rw [mkL, mkL_any']; simp
theorem mkL_snoc {l : List Int} {i : Nat} (h : i < l.length) : mkL (l.take (i + 1)) = markIns (mkL (l.take i)) (l.getD i 0) := by
  have h1 : l.take (i + 1) = l.take i ++ [l.getD i 0] := by rw [List.take_add_one]; simp [h]
  rw [h1, mkL, List.foldl_append]; rfl
theorem mkeys_bnd (n : Nat) : ∀ ks : List Int, bndLL n (mkeys ks) = true
  | [] => rfl
  | k :: r => by show (bndL n [SV.int .i64 k, SV.bool true] && bndLL n (mkeys r)) = true; rw [mkeys_bnd n r]; rfl
theorem m53 : Try.prog.underlying 53 = some (.map 3 4) := by kernel_rfl
set_option maxHeartbeats 4000000 in
theorem fLeaves (W H : Int) (p l : List Int) (hW : I64 W) (hH : I64 H) (hp : ∀ x ∈ p, 0 ≤ x ∧ x < 256) : FSpec Try.prog 6 [ink W H p, .sl true (nums .i64 l)] (.bool true) [] := by
  have hvl := fValid W H p hW hH hp
  have hr := vP_right (W := W) (H := H) hp
  have hbt := vP_bits (W := W) (H := H) hp
  have hvlen := vP_len W H p
  have hw20 := (vW_bd W).2
  have hh20 := (vW_bd H).2
  generalize hP : vP W H p = P at *
  generalize hwe : vW W = w at *
  generalize hhe : vW H = h at *
  have hn : w * h ≤ 20 * 20 := Nat.mul_le_mul hw20 hh20
  refine FSpec.intro tab_ok Try.func6 rfl rfl rfl (by kernel_rfl) (by simp) fun w0 => ?_
  simp only [argTM, Nat.zero_add, Nat.reduceAdd]
  simp only [ink]
  repeat refine IW.seq ?_
  refine IW.region_seq tab_ok [some 2, some 4] rfl fun X K hX hK => ?_
  simp only [go_sem, if_true, if_false, reduceIte, Nat.reduceEqDiff, Nat.reduceAdd, Nat.reduceLT, Nat.reduceLeDiff, reduceCtorEq]
  refine hK _ _ ?_; clear hX hK X K
  show IW _ _ _ _ _ _ _ _
  repeat refine IW.seq ?_
  refine IW.region_seq tab_ok [some 14, some 15, none] rfl fun X K hX hK => ?_
  simp only [go_sem, if_true, if_false, reduceIte, Nat.reduceEqDiff, Nat.reduceAdd, Nat.reduceLT, Nat.reduceLeDiff, reduceCtorEq]
  refine hX.quiet _ _ (OpG.of_B rfl (opB_call rfl rfl (FSpec.nz (hvl) (by simp [go_sem, if_true, if_false, reduceIte, Nat.reduceEqDiff, Nat.reduceAdd, Nat.reduceLT, Nat.reduceLeDiff, reduceCtorEq, List.map_cons, List.map_nil, List.append_nil, opnd, unc, resI, resR])))) ?_
  simp only [go_sem, if_true, if_false, reduceIte, Nat.reduceEqDiff, Nat.reduceAdd, Nat.reduceLT, Nat.reduceLeDiff, reduceCtorEq, resI, resR]
  refine hX.op _ _ rfl (opS_store tab_ok rfl (by simp [go_sem, if_true, if_false, reduceIte, Nat.reduceEqDiff, Nat.reduceAdd, Nat.reduceLT, Nat.reduceLeDiff, reduceCtorEq]) (by simp [go_sem, if_true, if_false, reduceIte, Nat.reduceEqDiff, Nat.reduceAdd, Nat.reduceLT, Nat.reduceLeDiff, reduceCtorEq]) (by simp [go_sem, if_true, if_false, reduceIte, Nat.reduceEqDiff, Nat.reduceAdd, Nat.reduceLT, Nat.reduceLeDiff, reduceCtorEq]) (by simp [go_sem, if_true, if_false, reduceIte, Nat.reduceEqDiff, Nat.reduceAdd, Nat.reduceLT, Nat.reduceLeDiff, reduceCtorEq]) (by simp [go_sem, if_true, if_false, reduceIte, Nat.reduceEqDiff, Nat.reduceAdd, Nat.reduceLT, Nat.reduceLeDiff, reduceCtorEq]) (by simp [go_sem, if_true, if_false, reduceIte, Nat.reduceEqDiff, Nat.reduceAdd, Nat.reduceLT, Nat.reduceLeDiff, reduceCtorEq])) ?_
  simp only [go_sem, if_true, if_false, reduceIte, Nat.reduceEqDiff, Nat.reduceAdd, Nat.reduceLT, Nat.reduceLeDiff, reduceCtorEq]
  refine hK _ _ ?_; clear hX hK X K
  show IW _ _ _ _ _ _ _ _
  repeat refine IW.seq ?_
  refine IW.region_seq tab_ok [some 16, some 17, some 18] rfl fun X K hX hK => ?_
  simp only [go_sem, if_true, if_false, reduceIte, Nat.reduceEqDiff, Nat.reduceAdd, Nat.reduceLT, Nat.reduceLeDiff, reduceCtorEq]
  refine hK _ _ ?_; clear hX hK X K
  show IW _ _ _ _ _ _ _ _
  refine IW.joinI (α := {l' : List Int // l'.length ≤ 10}) (fun l' => [(1, .sl true (nums .i64 l'.1)), (2, .ptr 0 0 0)]) (fun _ => [some ⟨3, 33, [[.int .i64 w, .int .i64 h, lsV 1 P.length]]⟩, some ⟨1, 5, nums .u8 P⟩]) ?_ fun ⟨l', hl'⟩ => ?_
  · refine IW.cond rfl (fun hb => ?_) (fun hb => ?_)
    · repeat refine IW.seq ?_
      refine IW.region_seq tab_ok [some 19, some 20, some 1] rfl fun X K hX hK => ?_
      simp only [go_sem, if_true, if_false, reduceIte, Nat.reduceEqDiff, Nat.reduceAdd, Nat.reduceLT, Nat.reduceLeDiff, reduceCtorEq]
      have h10 : 10 ≤ l.length := by simp only [decide_eq_true_eq] at hb; omega
      refine ⟨⟨by omega, by omega, by omega, nums_w _ _⟩, ?_⟩
      refine hK _ _ ⟨⟨l.take 10, by simp; omega⟩, ?_⟩
      have e10 : List.take (10 - 0 : Int).toNat (nums .i64 l) = nums .i64 (l.take 10) := by simp [nums, List.map_take]
      refine Ent.cut ?_ ?_ <;> simp only [go_sem, if_true, if_false, reduceIte, Nat.reduceEqDiff, Nat.reduceAdd, Nat.reduceLT, Nat.reduceLeDiff, reduceCtorEq, e10]
    · refine IW.skip ⟨⟨l, by simp only [decide_eq_false_iff_not] at hb; omega⟩, ?_⟩
      refine Ent.cut ?_ ?_ <;> simp only [go_sem, if_true, if_false, reduceIte, Nat.reduceEqDiff, Nat.reduceAdd, Nat.reduceLT, Nat.reduceLeDiff, reduceCtorEq]
  · have hd0 := fDress w h P l' (by omega) (by omega)
    have e2 : riW w h P w = w := by simp only [riW, hr, if_true]
    have e3 : riW w h P h = h := by simp only [riW, hr, if_true]
    have hdl : (drsF w h P l').length = P.length := by rw [drsF_length, if_pos hr]
    have hpix : ∀ {x y : Nat}, x < w → y < h → _ := fun {x y} hx hy => leaves_pix (l := l') hr (fun x hx => (hbt x hx).1) hvlen hx hy
    rw [e2, e3] at hd0
    generalize drsF w h P l' = d at *
    have h01 : ((0 : Int) == 1) = false := by decide
    repeat refine IW.seq ?_
    refine IW.region_seq tab_ok [some 21, some 22, some 23, some 5, none] rfl fun X K hX hK => ?_
    simp only [go_sem, if_true, if_false, reduceIte, Nat.reduceEqDiff, Nat.reduceAdd, Nat.reduceLT, Nat.reduceLeDiff, reduceCtorEq]
    refine hX.quiet _ _ (OpG.of_B rfl (opB_call rfl rfl (FSpec.nz (hd0) (by simp [go_sem, if_true, if_false, reduceIte, Nat.reduceEqDiff, Nat.reduceAdd, Nat.reduceLT, Nat.reduceLeDiff, reduceCtorEq, List.map_cons, List.map_nil, List.append_nil, opnd, unc, resI, resR])))) ?_
    simp only [go_sem, if_true, if_false, reduceIte, Nat.reduceEqDiff, Nat.reduceAdd, Nat.reduceLT, Nat.reduceLeDiff, reduceCtorEq, resI, resR]
    refine hX.op _ _ rfl (opS_store tab_ok rfl (by simp [go_sem, if_true, if_false, reduceIte, Nat.reduceEqDiff, Nat.reduceAdd, Nat.reduceLT, Nat.reduceLeDiff, reduceCtorEq]) (by simp [go_sem, if_true, if_false, reduceIte, Nat.reduceEqDiff, Nat.reduceAdd, Nat.reduceLT, Nat.reduceLeDiff, reduceCtorEq]) (by simp [go_sem, if_true, if_false, reduceIte, Nat.reduceEqDiff, Nat.reduceAdd, Nat.reduceLT, Nat.reduceLeDiff, reduceCtorEq]) (by simp [go_sem, if_true, if_false, reduceIte, Nat.reduceEqDiff, Nat.reduceAdd, Nat.reduceLT, Nat.reduceLeDiff, reduceCtorEq]) (by simp [go_sem, if_true, if_false, reduceIte, Nat.reduceEqDiff, Nat.reduceAdd, Nat.reduceLT, Nat.reduceLeDiff, reduceCtorEq]) (by simp [go_sem, if_true, if_false, reduceIte, Nat.reduceEqDiff, Nat.reduceAdd, Nat.reduceLT, Nat.reduceLeDiff, reduceCtorEq])) ?_
    simp only [go_sem, if_true, if_false, reduceIte, Nat.reduceEqDiff, Nat.reduceAdd, Nat.reduceLT, Nat.reduceLeDiff, reduceCtorEq]
    refine hK _ _ ?_; clear hX hK X K
    show IW _ _ _ _ _ _ _ _
    rw [hdl]
    repeat refine IW.seq ?_
    refine IW.joinI (α := Unit) (fun _ => [(44, .bool false), (1, .sl true (nums .i64 l')), (2, .ptr 0 0 0), (5, .ptr 3 0 0)]) (fun _ => [some ⟨3, 33, [[.int .i64 w, .int .i64 h, lsV 1 P.length]]⟩, some ⟨1, 5, nums .u8 P⟩, some ⟨1, 5, nums .u8 d⟩, some ⟨3, 33, [[.int .i64 w, .int .i64 h, lsV 2 P.length]]⟩]) ?_ fun _ => ?_
    · generalize P.length = n0
      cases n0 with
      | zero =>
        repeat refine IW.seq ?_
        refine IW.region_seq tab_ok [some 24, some 25, some 26, some 27, some 28, some 29, some 30, some 31, some 32, some 33, some 34, some 35, some 36, some 37, some 38, some 39, some 40, some 41, some 42, some 43, some 44] rfl fun X K hX hK => ?_
        simp only [go_sem, if_true, if_false, reduceIte, Nat.reduceEqDiff, Nat.reduceAdd, Nat.reduceLT, Nat.reduceLeDiff, reduceCtorEq, lsV, bne_self_eq_false, Bool.or_self, Bool.not_false]
        refine hK _ _ ⟨(), ?_⟩
        refine Ent.cut ?_ ?_ <;> simp only [go_sem, if_true, if_false, reduceIte, Nat.reduceEqDiff, Nat.reduceAdd, Nat.reduceLT, Nat.reduceLeDiff, reduceCtorEq, lsV]
      | succ n0 =>
        repeat refine IW.seq ?_
        refine IW.region_seq tab_ok [some 24, some 25, some 26, some 27, some 28, some 29, some 30, some 31, some 32, some 33, some 34, some 35, some 36, some 37, some 38, some 39, some 40, some 41, some 42, some 43, some 44] rfl fun X K hX hK => ?_
        simp only [go_sem, if_true, if_false, reduceIte, Nat.reduceEqDiff, Nat.reduceAdd, Nat.reduceLT, Nat.reduceLeDiff, reduceCtorEq, lsV, bne_self_eq_false, Bool.or_self, Bool.not_false]
        refine hK _ _ ⟨(), ?_⟩
        refine Ent.cut ?_ ?_ <;> simp only [go_sem, if_true, if_false, reduceIte, Nat.reduceEqDiff, Nat.reduceAdd, Nat.reduceLT, Nat.reduceLeDiff, reduceCtorEq, lsV]
    · repeat refine IW.seq ?_
      refine IW.cond rfl (fun hb => ?_) (fun hb => ?_)
      · cases hb
      · refine IW.skip ?_
        show IW _ _ _ _ _ _ _ _
        repeat refine IW.seq ?_
        refine IW.region_seq tab_ok [some 45, some 6] rfl fun X K hX hK => ?_
        simp only [go_sem, if_true, if_false, reduceIte, Nat.reduceEqDiff, Nat.reduceAdd, Nat.reduceLT, Nat.reduceLeDiff, reduceCtorEq]
        refine hX.quiet _ _ (OpG.of_B rfl opB_makeMap) ?_
        simp only [go_sem, if_true, if_false, reduceIte, Nat.reduceEqDiff, Nat.reduceAdd, Nat.reduceLT, Nat.reduceLeDiff, reduceCtorEq]
        refine hK _ _ ?_; clear hX hK X K
        show IW _ _ _ _ _ _ _ _
        repeat refine IW.seq ?_
        refine IW.region_seq tab_ok [some 7] rfl fun X K hX hK => ?_
        simp only [go_sem, if_true, if_false, reduceIte, Nat.reduceEqDiff, Nat.reduceAdd, Nat.reduceLT, Nat.reduceLeDiff, reduceCtorEq]
        refine hK _ _ ?_; clear hX hK X K
        show IW _ _ _ _ _ _ _ _
        repeat refine IW.seq ?_
        refine IW.block ?_
        refine IW.loop (α := {i : Nat // i ≤ l'.length}) (fun i => [(1, .sl true (nums .i64 l')), (2, .ptr 0 0 0), (5, .ptr 3 0 0), (6, .mp false (mkeys (mkL (l'.take i.1)))), (7, .int .i64 i.1)]) (fun _ => [some ⟨3, 33, [[.int .i64 w, .int .i64 h, lsV 1 P.length]]⟩, some ⟨1, 5, nums .u8 P⟩, some ⟨1, 5, nums .u8 d⟩, some ⟨3, 33, [[.int .i64 w, .int .i64 h, lsV 2 P.length]]⟩]) (fun i => l'.length - i.1) ⟨0, Nat.zero_le _⟩ ?_ fun ⟨i, hi⟩ => ?_
        · have : mkeys (mkL []) = [] := rfl
          refine Ent.cut ?_ ?_ <;> simp only [go_sem, if_true, if_false, reduceIte, Nat.reduceEqDiff, Nat.reduceAdd, Nat.reduceLT, Nat.reduceLeDiff, reduceCtorEq, List.take_zero, this]
        · simp only []
          repeat refine IW.seq ?_
          refine IW.region_seq tab_ok [some 46, some 47, some 48, some 49] rfl fun X K hX hK => ?_
          simp only [go_sem, if_true, if_false, reduceIte, Nat.reduceEqDiff, Nat.reduceAdd, Nat.reduceLT, Nat.reduceLeDiff, reduceCtorEq]
          refine hK _ _ ?_; clear hX hK X K
          show IW _ _ _ _ _ _ _ _
          repeat refine IW.seq ?_
          refine IW.cond rfl (fun hb1 => ?_) (fun hb1 => ?_)
          · simp only [decide_eq_true_eq] at hb1
            have hil : i < l'.length := by omega
            refine IW.skip ?_
            show IW _ _ _ _ _ _ _ _
            refine IW.seq (IW.block ?_)
            refine IW.region_alias tab_ok [some 52, some 53, some 54, some 55, some 56, none] 52 6 rfl rfl (by decide) (by decide) (by decide) fun X K hX hK => ?_
            simp only [go_sem, if_true, if_false, reduceIte, Nat.reduceEqDiff, Nat.reduceAdd, Nat.reduceLT, Nat.reduceLeDiff, reduceCtorEq, nums_at hil]
            refine ⟨⟨by omega, by omega⟩, ?_⟩
            refine hX.mark (n := l'.getD i 0) (ks := mkL (l'.take i)) (by simp [go_sem, if_true, if_false, reduceIte, Nat.reduceEqDiff, Nat.reduceAdd, Nat.reduceLT, Nat.reduceLeDiff, reduceCtorEq]) (by simp [go_sem, if_true, if_false, reduceIte, Nat.reduceEqDiff, Nat.reduceAdd, Nat.reduceLT, Nat.reduceLeDiff, reduceCtorEq]) (by simp [go_sem, if_true, if_false, reduceIte, Nat.reduceEqDiff, Nat.reduceAdd, Nat.reduceLT, Nat.reduceLeDiff, reduceCtorEq]) m53 u3 (by cases P.length <;> simp [go_sem, if_true, if_false, reduceIte, Nat.reduceEqDiff, Nat.reduceAdd, Nat.reduceLT, Nat.reduceLeDiff, reduceCtorEq, lsV]) (by decide) ?_
            refine hK _ _ ?_
            clear hX hK X K
            show IW _ _ _ _ _ _ _ _
            rw [← mkL_snoc hil]
            repeat refine IW.seq ?_
            refine IW.region_seq tab_ok [some 50, some 51, some 7] rfl fun X K hX hK => ?_
            simp only [go_sem, if_true, if_false, reduceIte, Nat.reduceEqDiff, Nat.reduceAdd, Nat.reduceLT, Nat.reduceLeDiff, reduceCtorEq, succ_wrap hil (by omega)]
            refine hK _ _ ⟨⟨i + 1, hil⟩, by simp only []; omega, ?_⟩
            refine Ent.cut ?_ ?_ <;> simp only [go_sem, if_true, if_false, reduceIte, Nat.reduceEqDiff, Nat.reduceAdd, Nat.reduceLT, Nat.reduceLeDiff, reduceCtorEq, mkeys_bnd]
          · refine IW.exit ?_
            show IW _ _ _ _ _ _ _ _
            simp only [decide_eq_false_iff_not] at hb1
            have htl : l'.take i = l' := List.take_of_length_le (by omega)
            rw [htl]
            have hmk : ∀ y : Int, ((mkL l').any (· == y)) = hasS l' y := fun y => mkL_any l' y
            repeat refine IW.seq ?_
            refine IW.region_seq tab_ok [some 8] rfl fun X K hX hK => ?_
            simp only [go_sem, if_true, if_false, reduceIte, Nat.reduceEqDiff, Nat.reduceAdd, Nat.reduceLT, Nat.reduceLeDiff, reduceCtorEq]
            refine hK _ _ ?_; clear hX hK X K
            show IW _ _ _ _ _ _ _ _
            repeat refine IW.seq ?_
            refine IW.block ?_
            refine IW.loop (α := {y : Nat // y ≤ h}) (fun y => [(2, .ptr 0 0 0), (5, .ptr 3 0 0), (6, .mp false (mkeys (mkL l'))), (8, .int .i64 y.1)]) (fun _ => [some ⟨3, 33, [[.int .i64 w, .int .i64 h, lsV 1 P.length]]⟩, some ⟨1, 5, nums .u8 P⟩, some ⟨1, 5, nums .u8 d⟩, some ⟨3, 33, [[.int .i64 w, .int .i64 h, lsV 2 P.length]]⟩]) (fun y => h - y.1) ⟨0, Nat.zero_le _⟩ ?_ fun ⟨y, hy⟩ => ?_
            · refine Ent.cut ?_ ?_ <;> simp only [go_sem, if_true, if_false, reduceIte, Nat.reduceEqDiff, Nat.reduceAdd, Nat.reduceLT, Nat.reduceLeDiff, reduceCtorEq, mkeys_bnd]
            · simp only []
              repeat refine IW.seq ?_
              refine IW.region_seq tab_ok [some 57, some 58, some 59, some 60] rfl fun X K hX hK => ?_
              simp only [go_sem, if_true, if_false, reduceIte, Nat.reduceEqDiff, Nat.reduceAdd, Nat.reduceLT, Nat.reduceLeDiff, reduceCtorEq]
              refine hK _ _ ?_; clear hX hK X K
              show IW _ _ _ _ _ _ _ _
              repeat refine IW.seq ?_
              refine IW.cond rfl (fun hb2 => ?_) (fun hb2 => ?_)
              · simp only [decide_eq_true_eq] at hb2
                have hyh : y < h := by omega
                refine IW.skip ?_
                show IW _ _ _ _ _ _ _ _
                refine IW.seq (IW.block ?_)
                repeat refine IW.seq ?_
                refine IW.region_seq tab_ok [some 9] rfl fun X K hX hK => ?_
                simp only [go_sem, if_true, if_false, reduceIte, Nat.reduceEqDiff, Nat.reduceAdd, Nat.reduceLT, Nat.reduceLeDiff, reduceCtorEq]
                refine hK _ _ ?_; clear hX hK X K
                show IW _ _ _ _ _ _ _ _
                repeat refine IW.seq ?_
                refine IW.block ?_
                refine IW.loop (α := {x : Nat // x ≤ w}) (fun x => [(2, .ptr 0 0 0), (5, .ptr 3 0 0), (6, .mp false (mkeys (mkL l'))), (8, .int .i64 y), (9, .int .i64 x.1)]) (fun _ => [some ⟨3, 33, [[.int .i64 w, .int .i64 h, lsV 1 P.length]]⟩, some ⟨1, 5, nums .u8 P⟩, some ⟨1, 5, nums .u8 d⟩, some ⟨3, 33, [[.int .i64 w, .int .i64 h, lsV 2 P.length]]⟩]) (fun x => w - x.1) ⟨0, Nat.zero_le _⟩ ?_ fun ⟨x, hx⟩ => ?_
                · refine Ent.cut ?_ ?_ <;> simp only [go_sem, if_true, if_false, reduceIte, Nat.reduceEqDiff, Nat.reduceAdd, Nat.reduceLT, Nat.reduceLeDiff, reduceCtorEq, mkeys_bnd]
                · simp only []
                  repeat refine IW.seq ?_
                  refine IW.region_seq tab_ok [some 63, some 64, some 65, some 66] rfl fun X K hX hK => ?_
                  simp only [go_sem, if_true, if_false, reduceIte, Nat.reduceEqDiff, Nat.reduceAdd, Nat.reduceLT, Nat.reduceLeDiff, reduceCtorEq]
                  refine hK _ _ ?_; clear hX hK X K
                  show IW _ _ _ _ _ _ _ _
                  repeat refine IW.seq ?_
                  refine IW.cond rfl (fun hb3 => ?_) (fun hb3 => ?_)
                  · simp only [decide_eq_true_eq] at hb3
                    have hxw : x < w := by omega
                    obtain ⟨w1, w2, w3⟩ := wrap_cell hxw hyh hvlen (by omega)
                    have hne1 := lsV_ne (id := 1) (n := P.length) (by omega)
                    have hne2 := lsV_ne (id := 2) (n := P.length) (by omega)
                    rw [hne1, hne2]
                    refine IW.skip ?_
                    show IW _ _ _ _ _ _ _ _
                    refine IW.seq (IW.block ?_)
                    repeat refine IW.seq ?_
                    refine IW.joinI (α := Unit) (fun _ => [(10, .bool (upB w P l' x y)), (2, .ptr 0 0 0), (5, .ptr 3 0 0), (6, .mp false (mkeys (mkL l'))), (8, .int .i64 y), (9, .int .i64 x)]) (fun _ => [some ⟨3, 33, [[.int .i64 w, .int .i64 h, .ref 1 0 P.length]]⟩, some ⟨1, 5, nums .u8 P⟩, some ⟨1, 5, nums .u8 d⟩, some ⟨3, 33, [[.int .i64 w, .int .i64 h, .ref 2 0 P.length]]⟩]) ?_ fun _ => ?_
                    · cases y with
                      | zero =>
                        have z0 : IntKind.i64.wrap (0 - 1) = -1 := by decide
                        have z1 : IntKind.i64.wrap (-1 * (w : Int)) = -w := (wrap_eq (by omega) (by omega)).trans (by omega)
                        have z2 : (IntKind.i64.wrap (-(w : Int) + (x : Int))).toNat = 0 := by rw [wrap_eq (by omega) (by omega)]; omega
                        have hat := nums_at (k := .u8) (xs := P) (i := 0) (by omega)
                        repeat refine IW.seq ?_
                        refine IW.region_seq tab_ok [some 69, some 70, some 71, some 72, some 73, some 74, some 75, some 76, some 77, some 78, some 79, some 80, some 81, some 82, some 83, some 84, some 85, some 86, some 87, some 88, some 89, some 90, some 10] rfl fun X K hX hK => ?_
                        simp only [go_sem, if_true, if_false, reduceIte, Nat.reduceEqDiff, Nat.reduceAdd, Nat.reduceLT, Nat.reduceLeDiff, reduceCtorEq, gt_iff_lt, Int.lt_irrefl, decide_false, false_implies, true_and, Int.natCast_zero, Nat.lt_irrefl, z0, z1, z2, hat]
                        refine hX.quiet (.cnd false (.bool false)) [] (OpG.of_BG (sv := .bool false) (ext := []) rfl rfl rfl (by simp [go_sem, if_true, if_false, reduceIte, Nat.reduceEqDiff, Nat.reduceAdd, Nat.reduceLT, Nat.reduceLeDiff, reduceCtorEq]) fun hc => by cases hc) ?_
                        simp only [go_sem, if_true, if_false, reduceIte, Nat.reduceEqDiff, Nat.reduceAdd, Nat.reduceLT, Nat.reduceLeDiff, reduceCtorEq]
                        refine ⟨by simp, hK _ _ ⟨(), ?_⟩⟩
                        have hu : upB w P l' x 0 = false := rfl
                        refine Ent.cut ?_ ?_ <;> simp only [go_sem, if_true, if_false, reduceIte, Nat.reduceEqDiff, Nat.reduceAdd, Nat.reduceLT, Nat.reduceLeDiff, reduceCtorEq, hu, mkeys_bnd, Int.natCast_zero]
                      | succ y =>
                        obtain ⟨v1, v2, v3⟩ := wrap_cell hxw (show y < h by omega) hvlen (by omega)
                        have v0 : IntKind.i64.wrap (((y + 1 : Nat) : Int) - 1) = (y : Int) := (wrap_eq (by omega) (by omega)).trans (by omega)
                        have vg : decide (((y + 1 : Nat) : Int) > 0) = true := by simp only [decide_eq_true_eq]; omega
                        have hat := nums_at (k := .u8) (xs := P) (i := y * w + x) (by omega)
                        cases hc : (P.getD (y * w + x) 0 == 1) with
                        | true =>
                          repeat refine IW.seq ?_
                          refine IW.region_seq tab_ok [some 69, some 70, some 71, some 72, some 73, some 74, some 75, some 76, some 77, some 78, some 79, some 80, some 81, some 82, some 83, some 84, some 85, some 86, some 87, some 88, some 89, some 90, some 10] rfl fun X K hX hK => ?_
                          simp only [go_sem, if_true, if_false, reduceIte, Nat.reduceEqDiff, Nat.reduceAdd, Nat.reduceLT, Nat.reduceLeDiff, reduceCtorEq, v0, v1, v2, vg, hat, hc]
                          refine ⟨⟨by omega, by omega⟩, by omega, ?_⟩
                          refine hX.quiet (.cnd false (.bool false)) [] (OpG.of_BG (sv := .bool false) (ext := []) rfl rfl rfl (by simp [go_sem, if_true, if_false, reduceIte, Nat.reduceEqDiff, Nat.reduceAdd, Nat.reduceLT, Nat.reduceLeDiff, reduceCtorEq]) fun hc => by cases hc) ?_
                          simp only [go_sem, if_true, if_false, reduceIte, Nat.reduceEqDiff, Nat.reduceAdd, Nat.reduceLT, Nat.reduceLeDiff, reduceCtorEq]
                          refine hK _ _ ⟨(), ?_⟩
                          have hu : upB w P l' x (y + 1) = true := by simp only [upB, Nat.add_sub_cancel, hc]; simp
                          refine Ent.cut ?_ ?_ <;> simp only [go_sem, if_true, if_false, reduceIte, Nat.reduceEqDiff, Nat.reduceAdd, Nat.reduceLT, Nat.reduceLeDiff, reduceCtorEq, hu, mkeys_bnd]
                        | false =>
                          repeat refine IW.seq ?_
                          refine IW.region_seq tab_ok [some 69, some 70, some 71, some 72, some 73, some 74, some 75, some 76, some 77, some 78, some 79, some 80, some 81, some 82, some 83, some 84, some 85, some 86, some 87, some 88, some 89, some 90, some 10] rfl fun X K hX hK => ?_
                          simp only [go_sem, if_true, if_false, reduceIte, Nat.reduceEqDiff, Nat.reduceAdd, Nat.reduceLT, Nat.reduceLeDiff, reduceCtorEq, v0, v1, v2, vg, hat, hc]
                          refine ⟨⟨by omega, by omega⟩, by omega, ?_⟩
                          refine hX.quiet _ _ (OpG.of_BG rfl rfl rfl (by first | (simp only [go_sem, if_true, if_false, reduceIte, Nat.reduceEqDiff, Nat.reduceAdd, Nat.reduceLT, Nat.reduceLeDiff, reduceCtorEq]; done) | (simp [go_sem, if_true, if_false, reduceIte, Nat.reduceEqDiff, Nat.reduceAdd, Nat.reduceLT, Nat.reduceLeDiff, reduceCtorEq] <;> (intros; simp_all))) fun hc => opB_marked tab_ok (ks := mkL l') (n := (y : Int)) rfl rfl m53 u3 (by simp [go_sem, if_true, if_false, reduceIte, Nat.reduceEqDiff, Nat.reduceAdd, Nat.reduceLT, Nat.reduceLeDiff, reduceCtorEq]) rfl rfl) ?_
                          simp only [go_sem, if_true, if_false, reduceIte, Nat.reduceEqDiff, Nat.reduceAdd, Nat.reduceLT, Nat.reduceLeDiff, reduceCtorEq, hmk]
                          refine hK _ _ ⟨(), ?_⟩
                          have hu : upB w P l' x (y + 1) = hasS l' (y : Int) := by
                            have e9 : ((y + 1 : Nat) : Int) - 1 = y := by omega
                            simp only [upB, Nat.add_sub_cancel, hc, e9]; simp
                          refine Ent.cut ?_ ?_ <;> simp only [go_sem, if_true, if_false, reduceIte, Nat.reduceEqDiff, Nat.reduceAdd, Nat.reduceLT, Nat.reduceLeDiff, reduceCtorEq, hu, mkeys_bnd]
                    · repeat refine IW.seq ?_
                      refine IW.joinI (α := Unit) (fun _ => [(11, .bool (dnB w h P l' x y)), (10, .bool (upB w P l' x y)), (2, .ptr 0 0 0), (5, .ptr 3 0 0), (6, .mp false (mkeys (mkL l'))), (8, .int .i64 y), (9, .int .i64 x)]) (fun _ => [some ⟨3, 33, [[.int .i64 w, .int .i64 h, .ref 1 0 P.length]]⟩, some ⟨1, 5, nums .u8 P⟩, some ⟨1, 5, nums .u8 d⟩, some ⟨3, 33, [[.int .i64 w, .int .i64 h, .ref 2 0 P.length]]⟩]) ?_ fun _ => ?_
                      · have v0 : IntKind.i64.wrap ((y : Int) + 1) = ((y + 1 : Nat) : Int) := (wrap_eq (by omega) (by omega)).trans (by omega)
                        have hyw : (y + 1) * w ≤ 20 * 20 := Nat.mul_le_mul (by omega) (by omega)
                        have v1 : IntKind.i64.wrap (((y + 1 : Nat) : Int) * (w : Int)) = (((y + 1) * w : Nat) : Int) := by
                          rw [← Int.natCast_mul]; exact wrap_eq (by omega) (by omega)
                        have v2 : IntKind.i64.wrap ((((y + 1) * w : Nat) : Int) + (x : Int)) = (((y + 1) * w + x : Nat) : Int) := (wrap_eq (by omega) (by omega)).trans (by omega)
                        by_cases c : y + 1 < h
                        · have v3 := cell_lt hxw c
                          have vg : decide (((y + 1 : Nat) : Int) < (h : Int)) = true := by simp only [decide_eq_true_eq]; omega
                          have hat := nums_at (k := .u8) (xs := P) (i := (y + 1) * w + x) (by omega)
                          cases hc : (P.getD ((y + 1) * w + x) 0 == 1) with
                          | true =>
                            repeat refine IW.seq ?_
                            refine IW.region_seq tab_ok [some 91, some 92, some 93, some 94, some 95, some 96, some 97, some 98, some 99, some 100, some 101, some 102, some 103, some 104, some 105, some 106, some 107, some 108, some 109, some 110, some 111, some 112, some 113, some 114, some 115, some 11] rfl fun X K hX hK => ?_
                            simp only [go_sem, if_true, if_false, reduceIte, Nat.reduceEqDiff, Nat.reduceAdd, Nat.reduceLT, Nat.reduceLeDiff, reduceCtorEq, v0, v1, v2, vg, hat, hc]
                            refine ⟨⟨by omega, by omega⟩, by omega, ?_⟩
                            refine hX.quiet (.cnd false (.bool false)) [] (OpG.of_BG (sv := .bool false) (ext := []) rfl rfl rfl (by simp [go_sem, if_true, if_false, reduceIte, Nat.reduceEqDiff, Nat.reduceAdd, Nat.reduceLT, Nat.reduceLeDiff, reduceCtorEq]) fun hc => by cases hc) ?_
                            simp only [go_sem, if_true, if_false, reduceIte, Nat.reduceEqDiff, Nat.reduceAdd, Nat.reduceLT, Nat.reduceLeDiff, reduceCtorEq]
                            refine hK _ _ ⟨(), ?_⟩
                            have hu : dnB w h P l' x y = true := by simp only [dnB, hc, c]; simp
                            refine Ent.cut ?_ ?_ <;> simp only [go_sem, if_true, if_false, reduceIte, Nat.reduceEqDiff, Nat.reduceAdd, Nat.reduceLT, Nat.reduceLeDiff, reduceCtorEq, hu, mkeys_bnd]
                          | false =>
                            repeat refine IW.seq ?_
                            refine IW.region_seq tab_ok [some 91, some 92, some 93, some 94, some 95, some 96, some 97, some 98, some 99, some 100, some 101, some 102, some 103, some 104, some 105, some 106, some 107, some 108, some 109, some 110, some 111, some 112, some 113, some 114, some 115, some 11] rfl fun X K hX hK => ?_
                            simp only [go_sem, if_true, if_false, reduceIte, Nat.reduceEqDiff, Nat.reduceAdd, Nat.reduceLT, Nat.reduceLeDiff, reduceCtorEq, v0, v1, v2, vg, hat, hc]
                            refine ⟨⟨by omega, by omega⟩, by omega, ?_⟩
                            refine hX.quiet _ _ (OpG.of_BG rfl rfl rfl (by first | (simp only [go_sem, if_true, if_false, reduceIte, Nat.reduceEqDiff, Nat.reduceAdd, Nat.reduceLT, Nat.reduceLeDiff, reduceCtorEq]; done) | (simp [go_sem, if_true, if_false, reduceIte, Nat.reduceEqDiff, Nat.reduceAdd, Nat.reduceLT, Nat.reduceLeDiff, reduceCtorEq] <;> (intros; simp_all))) fun hc => opB_marked tab_ok (ks := mkL l') (n := ((y + 1 : Nat) : Int)) rfl rfl m53 u3 (by simp [go_sem, if_true, if_false, reduceIte, Nat.reduceEqDiff, Nat.reduceAdd, Nat.reduceLT, Nat.reduceLeDiff, reduceCtorEq]) rfl rfl) ?_
                            simp only [go_sem, if_true, if_false, reduceIte, Nat.reduceEqDiff, Nat.reduceAdd, Nat.reduceLT, Nat.reduceLeDiff, reduceCtorEq, hmk]
                            refine hK _ _ ⟨(), ?_⟩
                            have hu : dnB w h P l' x y = hasS l' ((y + 1 : Nat) : Int) := by
                              have e9 : (y : Int) + 1 = ((y + 1 : Nat) : Int) := by omega
                              simp only [dnB, hc, c, e9]; simp
                            refine Ent.cut ?_ ?_ <;> simp only [go_sem, if_true, if_false, reduceIte, Nat.reduceEqDiff, Nat.reduceAdd, Nat.reduceLT, Nat.reduceLeDiff, reduceCtorEq, hu, mkeys_bnd]
                        · have vg : decide (((y + 1 : Nat) : Int) < (h : Int)) = false := by simp only [decide_eq_false_iff_not]; omega
                          have hyh' : y + 1 = h := by omega
                          have hat : (nums .u8 P).getD ((y + 1) * w + x) [] = [] := by
                            have hle : (nums .u8 P).length ≤ (y + 1) * w + x := by rw [nums_length, hvlen, hyh', Nat.mul_comm w h]; omega
                            rw [List.getD_eq_getElem?_getD, List.getElem?_eq_none hle]; rfl
                          have hnil : ([] : List SV).getD 0 .any = .any := rfl
                          repeat refine IW.seq ?_
                          refine IW.region_seq tab_ok [some 91, some 92, some 93, some 94, some 95, some 96, some 97, some 98, some 99, some 100, some 101, some 102, some 103, some 104, some 105, some 106, some 107, some 108, some 109, some 110, some 111, some 112, some 113, some 114, some 115, some 11] rfl fun X K hX hK => ?_
                          simp only [go_sem, if_true, if_false, reduceIte, Nat.reduceEqDiff, Nat.reduceAdd, Nat.reduceLT, Nat.reduceLeDiff, reduceCtorEq, v0, v1, v2, vg, hat, Int.toNat_natCast, hnil]
                          refine hX.quiet (.cnd false (.bool false)) [] (OpG.of_BG (sv := .bool false) (ext := []) rfl rfl rfl (by simp [go_sem, if_true, if_false, reduceIte, Nat.reduceEqDiff, Nat.reduceAdd, Nat.reduceLT, Nat.reduceLeDiff, reduceCtorEq]) fun hc => by cases hc) ?_
                          simp only [go_sem, if_true, if_false, reduceIte, Nat.reduceEqDiff, Nat.reduceAdd, Nat.reduceLT, Nat.reduceLeDiff, reduceCtorEq]
                          first | refine hK _ _ ⟨(), ?_⟩ | refine ⟨by simp, hK _ _ ⟨(), ?_⟩⟩
                          have hu : dnB w h P l' x y = false := by simp only [dnB, c]; simp
                          refine Ent.cut ?_ ?_ <;> simp only [go_sem, if_true, if_false, reduceIte, Nat.reduceEqDiff, Nat.reduceAdd, Nat.reduceLT, Nat.reduceLeDiff, reduceCtorEq, hu, mkeys_bnd]
                      · repeat refine IW.seq ?_
                        have hatP := nums_at (k := .u8) (xs := P) (i := y * w + x) (by omega)
                        have hatD := nums_at (k := .u8) (xs := d) (i := y * w + x) (by omega)
                        have hpx := hpix hxw hyh
                        repeat refine IW.seq ?_
                        refine IW.region_draw tab_ok mixed [some 116, some 117, some 118, some 119, some 120, some 121, some 122, some 123, some 124, some 125, some 126, some 127, some 128, some 129, some 130, some 131, some 132, some 133, some 134, some 135, some 12, some 13] 22 (by kernel_rfl) rfl fun Xq Xs K hXq hXs hK K1 hK1 => ?_
                        simp only [go_sem, if_true, if_false, reduceIte, Nat.reduceEqDiff, Nat.reduceAdd, Nat.reduceLT, Nat.reduceLeDiff, reduceCtorEq, w1, w2, hatP, hatD]
                        refine ⟨⟨by omega, by omega⟩, by omega, ⟨by omega, by omega⟩, by omega, ?_⟩
                        refine hK1 _ _ ?_; clear hXq hK1 K1 Xq
                        simp only [List.drop_zero, List.drop_succ_cons, go_sem, if_true, if_false, reduceIte, Nat.reduceEqDiff, Nat.reduceAdd, Nat.reduceLT, Nat.reduceLeDiff, reduceCtorEq]
                        refine hK _ _ ?_; clear hXs hK K Xs
                        show IW _ _ _ _ _ _ _ _
                        repeat refine IW.seq ?_
                        refine IW.joinI (α := Unit) (fun _ => [(158, .bool false), (2, .ptr 0 0 0), (5, .ptr 3 0 0), (6, .mp false (mkeys (mkL l'))), (8, .int .i64 y), (9, .int .i64 x)]) (fun _ => [some ⟨3, 33, [[.int .i64 w, .int .i64 h, .ref 1 0 P.length]]⟩, some ⟨1, 5, nums .u8 P⟩, some ⟨1, 5, nums .u8 d⟩, some ⟨3, 33, [[.int .i64 w, .int .i64 h, .ref 2 0 P.length]]⟩]) ?_ fun _ => ?_
                        · cases hs : hasS l' (y : Int) with
                          | false =>
                            rw [hs] at hpx
                            simp only [Bool.false_eq_true, if_false] at hpx
                            repeat refine IW.seq ?_
                            refine IW.region_seq tab_ok [some 136, some 137, some 138, some 139, some 140, some 141, some 142, some 143, some 144, some 145, some 146, some 147, some 148, some 149, some 150, some 151, some 152, some 153, some 154, some 155, some 156, some 157, some 158] rfl fun X K hX hK => ?_
                            simp only [go_sem, if_true, if_false, reduceIte, Nat.reduceEqDiff, Nat.reduceAdd, Nat.reduceLT, Nat.reduceLeDiff, reduceCtorEq]
                            refine hX.quiet _ _ (OpG.of_B rfl (opB_marked tab_ok (ks := mkL l') (n := (y : Int)) rfl rfl m53 u3 (by simp [go_sem, if_true, if_false, reduceIte, Nat.reduceEqDiff, Nat.reduceAdd, Nat.reduceLT, Nat.reduceLeDiff, reduceCtorEq]) rfl rfl)) ?_
                            simp only [go_sem, if_true, if_false, reduceIte, Nat.reduceEqDiff, Nat.reduceAdd, Nat.reduceLT, Nat.reduceLeDiff, reduceCtorEq, hmk, hs, hpx, bne_self_eq_false]
                            refine hX.quiet _ _ (OpG.of_BG rfl rfl rfl (by first | (simp only [go_sem, if_true, if_false, reduceIte, Nat.reduceEqDiff, Nat.reduceAdd, Nat.reduceLT, Nat.reduceLeDiff, reduceCtorEq]; done) | (simp [go_sem, if_true, if_false, reduceIte, Nat.reduceEqDiff, Nat.reduceAdd, Nat.reduceLT, Nat.reduceLeDiff, reduceCtorEq] <;> (intros; simp_all))) fun hc => opB_marked tab_ok (ks := mkL l') (n := (y : Int)) rfl rfl m53 u3 (by simp [go_sem, if_true, if_false, reduceIte, Nat.reduceEqDiff, Nat.reduceAdd, Nat.reduceLT, Nat.reduceLeDiff, reduceCtorEq]) rfl rfl) ?_
                            simp only [go_sem, if_true, if_false, reduceIte, Nat.reduceEqDiff, Nat.reduceAdd, Nat.reduceLT, Nat.reduceLeDiff, reduceCtorEq, hmk, hs, hpx, bne_self_eq_false]
                            refine hK _ _ ⟨(), ?_⟩
                            refine Ent.cut ?_ ?_ <;> simp only [go_sem, if_true, if_false, reduceIte, Nat.reduceEqDiff, Nat.reduceAdd, Nat.reduceLT, Nat.reduceLeDiff, reduceCtorEq, mkeys_bnd]
                          | true =>
                            rw [hs] at hpx
                            simp only [if_true] at hpx
                            cases hu : upB w P l' x y with
                            | true =>
                              cases hdn : dnB w h P l' x y with
                              | true =>
                                rw [hu, hdn] at hpx
                                simp only [Bool.or_true, Bool.or_false, Bool.or_self, if_true, Bool.false_eq_true, if_false] at hpx
                                repeat refine IW.seq ?_
                                refine IW.region_seq tab_ok [some 136, some 137, some 138, some 139, some 140, some 141, some 142, some 143, some 144, some 145, some 146, some 147, some 148, some 149, some 150, some 151, some 152, some 153, some 154, some 155, some 156, some 157, some 158] rfl fun X K hX hK => ?_
                                simp only [go_sem, if_true, if_false, reduceIte, Nat.reduceEqDiff, Nat.reduceAdd, Nat.reduceLT, Nat.reduceLeDiff, reduceCtorEq]
                                refine hX.quiet _ _ (OpG.of_B rfl (opB_marked tab_ok (ks := mkL l') (n := (y : Int)) rfl rfl m53 u3 (by simp [go_sem, if_true, if_false, reduceIte, Nat.reduceEqDiff, Nat.reduceAdd, Nat.reduceLT, Nat.reduceLeDiff, reduceCtorEq]) rfl rfl)) ?_
                                simp only [go_sem, if_true, if_false, reduceIte, Nat.reduceEqDiff, Nat.reduceAdd, Nat.reduceLT, Nat.reduceLeDiff, reduceCtorEq, hmk, hs, hpx]
                                refine hX.quiet _ _ (OpG.of_BG rfl rfl rfl (by first | (simp only [go_sem, if_true, if_false, reduceIte, Nat.reduceEqDiff, Nat.reduceAdd, Nat.reduceLT, Nat.reduceLeDiff, reduceCtorEq]; done) | (simp [go_sem, if_true, if_false, reduceIte, Nat.reduceEqDiff, Nat.reduceAdd, Nat.reduceLT, Nat.reduceLeDiff, reduceCtorEq] <;> (intros; simp_all))) fun hc => opB_marked tab_ok (ks := mkL l') (n := (y : Int)) rfl rfl m53 u3 (by simp [go_sem, if_true, if_false, reduceIte, Nat.reduceEqDiff, Nat.reduceAdd, Nat.reduceLT, Nat.reduceLeDiff, reduceCtorEq]) rfl rfl) ?_
                                simp only [go_sem, if_true, if_false, reduceIte, Nat.reduceEqDiff, Nat.reduceAdd, Nat.reduceLT, Nat.reduceLeDiff, reduceCtorEq, hmk, hs, hpx, beq_self_eq_true, h01]
                                refine hK _ _ ⟨(), ?_⟩
                                refine Ent.cut ?_ ?_ <;> simp only [go_sem, if_true, if_false, reduceIte, Nat.reduceEqDiff, Nat.reduceAdd, Nat.reduceLT, Nat.reduceLeDiff, reduceCtorEq, mkeys_bnd]
                              | false =>
                                rw [hu, hdn] at hpx
                                simp only [Bool.or_true, Bool.or_false, Bool.or_self, if_true, Bool.false_eq_true, if_false] at hpx
                                repeat refine IW.seq ?_
                                refine IW.region_seq tab_ok [some 136, some 137, some 138, some 139, some 140, some 141, some 142, some 143, some 144, some 145, some 146, some 147, some 148, some 149, some 150, some 151, some 152, some 153, some 154, some 155, some 156, some 157, some 158] rfl fun X K hX hK => ?_
                                simp only [go_sem, if_true, if_false, reduceIte, Nat.reduceEqDiff, Nat.reduceAdd, Nat.reduceLT, Nat.reduceLeDiff, reduceCtorEq]
                                refine hX.quiet _ _ (OpG.of_B rfl (opB_marked tab_ok (ks := mkL l') (n := (y : Int)) rfl rfl m53 u3 (by simp [go_sem, if_true, if_false, reduceIte, Nat.reduceEqDiff, Nat.reduceAdd, Nat.reduceLT, Nat.reduceLeDiff, reduceCtorEq]) rfl rfl)) ?_
                                simp only [go_sem, if_true, if_false, reduceIte, Nat.reduceEqDiff, Nat.reduceAdd, Nat.reduceLT, Nat.reduceLeDiff, reduceCtorEq, hmk, hs, hpx]
                                refine hX.quiet _ _ (OpG.of_BG rfl rfl rfl (by first | (simp only [go_sem, if_true, if_false, reduceIte, Nat.reduceEqDiff, Nat.reduceAdd, Nat.reduceLT, Nat.reduceLeDiff, reduceCtorEq]; done) | (simp [go_sem, if_true, if_false, reduceIte, Nat.reduceEqDiff, Nat.reduceAdd, Nat.reduceLT, Nat.reduceLeDiff, reduceCtorEq] <;> (intros; simp_all))) fun hc => opB_marked tab_ok (ks := mkL l') (n := (y : Int)) rfl rfl m53 u3 (by simp [go_sem, if_true, if_false, reduceIte, Nat.reduceEqDiff, Nat.reduceAdd, Nat.reduceLT, Nat.reduceLeDiff, reduceCtorEq]) rfl rfl) ?_
                                simp only [go_sem, if_true, if_false, reduceIte, Nat.reduceEqDiff, Nat.reduceAdd, Nat.reduceLT, Nat.reduceLeDiff, reduceCtorEq, hmk, hs, hpx, beq_self_eq_true, h01]
                                refine hK _ _ ⟨(), ?_⟩
                                refine Ent.cut ?_ ?_ <;> simp only [go_sem, if_true, if_false, reduceIte, Nat.reduceEqDiff, Nat.reduceAdd, Nat.reduceLT, Nat.reduceLeDiff, reduceCtorEq, mkeys_bnd]
                            | false =>
                              cases hdn : dnB w h P l' x y with
                              | true =>
                                rw [hu, hdn] at hpx
                                simp only [Bool.or_true, Bool.or_false, Bool.or_self, if_true, Bool.false_eq_true, if_false] at hpx
                                repeat refine IW.seq ?_
                                refine IW.region_seq tab_ok [some 136, some 137, some 138, some 139, some 140, some 141, some 142, some 143, some 144, some 145, some 146, some 147, some 148, some 149, some 150, some 151, some 152, some 153, some 154, some 155, some 156, some 157, some 158] rfl fun X K hX hK => ?_
                                simp only [go_sem, if_true, if_false, reduceIte, Nat.reduceEqDiff, Nat.reduceAdd, Nat.reduceLT, Nat.reduceLeDiff, reduceCtorEq]
                                refine hX.quiet _ _ (OpG.of_B rfl (opB_marked tab_ok (ks := mkL l') (n := (y : Int)) rfl rfl m53 u3 (by simp [go_sem, if_true, if_false, reduceIte, Nat.reduceEqDiff, Nat.reduceAdd, Nat.reduceLT, Nat.reduceLeDiff, reduceCtorEq]) rfl rfl)) ?_
                                simp only [go_sem, if_true, if_false, reduceIte, Nat.reduceEqDiff, Nat.reduceAdd, Nat.reduceLT, Nat.reduceLeDiff, reduceCtorEq, hmk, hs, hpx]
                                refine hX.quiet _ _ (OpG.of_BG rfl rfl rfl (by first | (simp only [go_sem, if_true, if_false, reduceIte, Nat.reduceEqDiff, Nat.reduceAdd, Nat.reduceLT, Nat.reduceLeDiff, reduceCtorEq]; done) | (simp [go_sem, if_true, if_false, reduceIte, Nat.reduceEqDiff, Nat.reduceAdd, Nat.reduceLT, Nat.reduceLeDiff, reduceCtorEq] <;> (intros; simp_all))) fun hc => opB_marked tab_ok (ks := mkL l') (n := (y : Int)) rfl rfl m53 u3 (by simp [go_sem, if_true, if_false, reduceIte, Nat.reduceEqDiff, Nat.reduceAdd, Nat.reduceLT, Nat.reduceLeDiff, reduceCtorEq]) rfl rfl) ?_
                                simp only [go_sem, if_true, if_false, reduceIte, Nat.reduceEqDiff, Nat.reduceAdd, Nat.reduceLT, Nat.reduceLeDiff, reduceCtorEq, hmk, hs, hpx, beq_self_eq_true, h01]
                                refine hK _ _ ⟨(), ?_⟩
                                refine Ent.cut ?_ ?_ <;> simp only [go_sem, if_true, if_false, reduceIte, Nat.reduceEqDiff, Nat.reduceAdd, Nat.reduceLT, Nat.reduceLeDiff, reduceCtorEq, mkeys_bnd]
                              | false =>
                                rw [hu, hdn] at hpx
                                simp only [Bool.or_true, Bool.or_false, Bool.or_self, if_true, Bool.false_eq_true, if_false] at hpx
                                repeat refine IW.seq ?_
                                refine IW.region_seq tab_ok [some 136, some 137, some 138, some 139, some 140, some 141, some 142, some 143, some 144, some 145, some 146, some 147, some 148, some 149, some 150, some 151, some 152, some 153, some 154, some 155, some 156, some 157, some 158] rfl fun X K hX hK => ?_
                                simp only [go_sem, if_true, if_false, reduceIte, Nat.reduceEqDiff, Nat.reduceAdd, Nat.reduceLT, Nat.reduceLeDiff, reduceCtorEq]
                                refine hX.quiet _ _ (OpG.of_B rfl (opB_marked tab_ok (ks := mkL l') (n := (y : Int)) rfl rfl m53 u3 (by simp [go_sem, if_true, if_false, reduceIte, Nat.reduceEqDiff, Nat.reduceAdd, Nat.reduceLT, Nat.reduceLeDiff, reduceCtorEq]) rfl rfl)) ?_
                                simp only [go_sem, if_true, if_false, reduceIte, Nat.reduceEqDiff, Nat.reduceAdd, Nat.reduceLT, Nat.reduceLeDiff, reduceCtorEq, hmk, hs, hpx]
                                refine hX.quiet _ _ (OpG.of_BG rfl rfl rfl (by first | (simp only [go_sem, if_true, if_false, reduceIte, Nat.reduceEqDiff, Nat.reduceAdd, Nat.reduceLT, Nat.reduceLeDiff, reduceCtorEq]; done) | (simp [go_sem, if_true, if_false, reduceIte, Nat.reduceEqDiff, Nat.reduceAdd, Nat.reduceLT, Nat.reduceLeDiff, reduceCtorEq] <;> (intros; simp_all))) fun hc => opB_marked tab_ok (ks := mkL l') (n := (y : Int)) rfl rfl m53 u3 (by simp [go_sem, if_true, if_false, reduceIte, Nat.reduceEqDiff, Nat.reduceAdd, Nat.reduceLT, Nat.reduceLeDiff, reduceCtorEq]) rfl rfl) ?_
                                simp only [go_sem, if_true, if_false, reduceIte, Nat.reduceEqDiff, Nat.reduceAdd, Nat.reduceLT, Nat.reduceLeDiff, reduceCtorEq, hmk, hs, hpx, beq_self_eq_true, h01]
                                refine hK _ _ ⟨(), ?_⟩
                                refine Ent.cut ?_ ?_ <;> simp only [go_sem, if_true, if_false, reduceIte, Nat.reduceEqDiff, Nat.reduceAdd, Nat.reduceLT, Nat.reduceLeDiff, reduceCtorEq, mkeys_bnd]
                        · repeat refine IW.seq ?_
                          refine IW.cond rfl (fun hb9 => ?_) (fun hb9 => ?_)
                          · cases hb9
                          · refine IW.skip ?_
                            show IW _ _ _ _ _ _ _ _
                            repeat refine IW.seq ?_
                            refine IW.region_seq tab_ok [some 67, some 68, some 9] rfl fun X K hX hK => ?_
                            simp only [go_sem, if_true, if_false, reduceIte, Nat.reduceEqDiff, Nat.reduceAdd, Nat.reduceLT, Nat.reduceLeDiff, reduceCtorEq, succ_wrap hxw (by omega)]
                            refine hK _ _ ⟨⟨x + 1, hxw⟩, by simp only []; omega, ?_⟩
                            refine Ent.cut ?_ ?_ <;> simp only [go_sem, if_true, if_false, reduceIte, Nat.reduceEqDiff, Nat.reduceAdd, Nat.reduceLT, Nat.reduceLeDiff, reduceCtorEq, mkeys_bnd]
                  · refine IW.exit ?_
                    show IW _ _ _ _ _ _ _ _
                    simp only [decide_eq_false_iff_not] at hb3
                    repeat refine IW.seq ?_
                    refine IW.region_seq tab_ok [some 61, some 62, some 8] rfl fun X K hX hK => ?_
                    simp only [go_sem, if_true, if_false, reduceIte, Nat.reduceEqDiff, Nat.reduceAdd, Nat.reduceLT, Nat.reduceLeDiff, reduceCtorEq, succ_wrap hyh (by omega)]
                    refine hK _ _ ⟨⟨y + 1, hyh⟩, by simp only []; omega, ?_⟩
                    refine Ent.cut ?_ ?_ <;> simp only [go_sem, if_true, if_false, reduceIte, Nat.reduceEqDiff, Nat.reduceAdd, Nat.reduceLT, Nat.reduceLeDiff, reduceCtorEq, mkeys_bnd]
              · refine IW.exit ?_
                show IW _ _ _ _ _ _ _ _
                repeat refine IW.seq ?_
                refine IW.region_seq tab_ok [some 159, some 4] rfl fun X K hX hK => ?_
                simp only [go_sem, if_true, if_false, reduceIte, Nat.reduceEqDiff, Nat.reduceAdd, Nat.reduceLT, Nat.reduceLeDiff, reduceCtorEq]
                refine hX.quiet _ _ (OpG.of_B rfl (opB_call rfl rfl (FSpec.nz (fAwake) (by simp [go_sem, if_true, if_false, reduceIte, Nat.reduceEqDiff, Nat.reduceAdd, Nat.reduceLT, Nat.reduceLeDiff, reduceCtorEq, List.map_cons, List.map_nil, List.append_nil, opnd, unc])))) ?_
                simp only [go_sem, if_true, if_false, reduceIte, Nat.reduceEqDiff, Nat.reduceAdd, Nat.reduceLT, Nat.reduceLeDiff, reduceCtorEq]
                refine hK _ _ ?_; clear hX hK X K
                show IW _ _ _ _ _ _ _ _
                refine IW.ret (Fin.scal rfl rfl ?_)
                rfl
end Go.Proofs.Ytnbpbehlemaeoaa

set_option linter.unusedVariables false
set_option linter.unusedSimpArgs false
set_option maxRecDepth 10000
namespace Go.Proofs.Ytnbpbehlemaeoaa
open Go.IL
open Go.ChangeShapes Go.WideShapes Go.ChangeAt Go.RowKit Go.Joins
/-- An image that came in, its sides ints. -/
theorem ink_argW {H : Type} {enc : TypeId × Value → H} {w : World} {base : Nat} {v : Value} {d : DataW H} {p : List MemPlace} (hv : Value.okWide Try.prog w .any base 33 v) (h : DataW.Trod enc Try.prog w 0 (fun _ => true) true 33 v d p) :
    ∃ (W H : Int) (q : List Int), VRel (fun _ => none) (fun b => b < w.heap.size) (fun _ => False) w (ink W H q) v ∧ (∀ x ∈ q, 0 ≤ x ∧ x < 256) ∧ I64 W ∧ I64 H := by
  obtain ⟨f0, f1, f2, hu, hone, t0, t1, t2⟩ := u33
  obtain ⟨c0, c1, c2, y0, y1, y2, m, rfl, rfl, rfl, hy0, hy1, hy2⟩ := open_agg3 hu hone c33 hv h
  obtain ⟨x, e0, -, wx⟩ := DataW.trod_int uint3 (trodAt hy0 t0)
  obtain ⟨y, e1, -, wy⟩ := DataW.trod_int uint3 (trodAt hy1 t1)
  simp only [List.cons.injEq, and_true] at e0 e1
  subst e0 e1
  have mk : ∀ (q : List Int), VRel (fun _ => none) (fun b => b < w.heap.size) (fun _ => False) w (.sl true (nums .u8 q)) c2 → VRel (fun _ => none) (fun b => b < w.heap.size) (fun _ => False) w (ink x y q) (.agg #[.int .i64 x, .int .i64 y, c2]) := fun q hq =>
    .agg _ _ rfl fun i c v h1 h2 => by
      match i with
      | 0 => cases h1; cases h2; exact .int _ _
      | 1 => cases h1; cases h2; exact .int _ _
      | 2 => cases h1; cases h2; exact hq
      | i + 3 => simp at h1
  rcases open_ints u31 u5 c5 (trodAt hy2 t2) with ⟨hcs, _⟩ | ⟨a, len, cap, zs, hcs, _, hl, hm, hz, _, hcell, hwz⟩
  · simp only [List.cons.injEq, and_true] at hcs
    subst hcs
    exact ⟨x, y, [], mk [] (nz_rel (s := .nils) .nils), by simp, i64_of wx, i64_of wy⟩
  · simp only [List.cons.injEq, and_true] at hcs
    subst hcs
    exact ⟨x, y, zs.take len, mk _ (ints_arg hl hm (by simpa using hz) hcell), fun z hz => bytes_of (hwz z (List.mem_of_mem_take hz)), i64_of wx, i64_of wy⟩
end Go.Proofs.Ytnbpbehlemaeoaa

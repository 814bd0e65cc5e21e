/- Contracts of dressing, windows and texts on both sides, and of the law FontDresses. -/
import Derived.Test.YtnbpbehlemaeoaaB8
set_option linter.unusedVariables false
set_option linter.unusedSimpArgs false
set_option maxRecDepth 10000
namespace Go.Proofs.Ytnbpbehlemaeoaa
open Go.IL
theorem refAtG (W H : Nat) (x y : Int) (p : List Int) (hp : p.length = W * H) (hl : p.length ≤ 1000000) : FSpec Try.prog 68 [ink W H p, .int .i64 x, .int .i64 y] (.int .u8 (atF W H p x y)) [] := by
  refine FSpec.intro tab_ok Try.func68 rfl rfl rfl (by kernel_rfl) (by simp) fun w0 => ?_
  simp only [argTM, Nat.zero_add, Nat.reduceAdd]
  simp only [ink]
  repeat refine IW.seq ?_
  refine IW.region_seq tab_ok [some 3, some 6] rfl fun X K hX hK => ?_
  simp only [go_sem, if_true, if_false, reduceIte, Nat.reduceEqDiff, Nat.reduceAdd, Nat.reduceLT, Nat.reduceLeDiff, reduceCtorEq]
  refine hK _ _ ?_; clear hX hK X K
  show IW _ _ _ _ _ _ _ _
  repeat refine IW.seq ?_
  refine IW.region_seq tab_ok [some 7, some 8, some 9, some 10, some 11, some 12, some 13, some 14, some 15, some 16, some 17, some 18, some 19, some 20, some 21, some 22, some 23, some 24] rfl fun X K hX hK => ?_
  simp only [go_sem, if_true, if_false, reduceIte, Nat.reduceEqDiff, Nat.reduceAdd, Nat.reduceLT, Nat.reduceLeDiff, reduceCtorEq]
  refine hK _ _ ?_; clear hX hK X K
  show IW _ _ _ _ _ _ _ _
  repeat refine IW.seq ?_
  refine IW.cond rfl (fun hb => ?_) (fun hb => ?_)
  · repeat refine IW.seq ?_
    refine IW.region_seq tab_ok [some 6] rfl fun X K hX hK => ?_
    simp only [go_sem, if_true, if_false, reduceIte, Nat.reduceEqDiff, Nat.reduceAdd, Nat.reduceLT, Nat.reduceLeDiff, reduceCtorEq]
    refine hK _ _ ?_; clear hX hK X K
    show IW _ _ _ _ _ _ _ _
    refine IW.ret (Fin.scal rfl rfl ?_)
    simp only [Bool.or_eq_true, decide_eq_true_eq] at hb
    show SV.int .u8 0 = SV.int .u8 _
    rw [atF, if_pos (by omega)]
  · refine IW.skip ?_
    show IW _ _ _ _ _ _ _ _
    simp only [Bool.or_eq_false_iff, decide_eq_false_iff_not] at hb
    obtain ⟨x, rfl⟩ : ∃ n : Nat, x = n := ⟨x.toNat, by omega⟩
    obtain ⟨y, rfl⟩ : ∃ n : Nat, y = n := ⟨y.toNat, by omega⟩
    have hlt : y * W + x < p.length := by
      have : (y + 1) * W ≤ H * W := Nat.mul_le_mul_right _ (by omega)
      rw [Nat.add_mul] at this; rw [hp, Nat.mul_comm W H]; omega
    have e1 : IntKind.i64.wrap ((y : Int) * (W : Int)) = ((y * W : Nat) : Int) := by
      rw [← Int.natCast_mul]; exact wrap_eq (by omega) (by omega)
    have e2 : IntKind.i64.wrap (((y * W : Nat) : Int) + (x : Int)) = ((y * W + x : Nat) : Int) := (wrap_eq (by omega) (by omega)).trans (by omega)
    repeat refine IW.seq ?_
    refine IW.region_seq tab_ok [some 25, some 26, some 27, some 28, some 29, some 30, some 31, some 32, some 33, some 34, some 6] rfl fun X K hX hK => ?_
    simp only [go_sem, if_true, if_false, reduceIte, Nat.reduceEqDiff, Nat.reduceAdd, Nat.reduceLT, Nat.reduceLeDiff, reduceCtorEq, e1, e2, nums_at hlt]
    refine ⟨⟨by omega, by omega⟩, ?_⟩
    refine hK _ _ ?_; clear hX hK X K
    show IW _ _ _ _ _ _ _ _
    refine IW.ret (Fin.scal rfl rfl ?_)
    show SV.int .u8 _ = SV.int .u8 _
    rw [atF, if_neg (by omega)]
    simp only [Int.toNat_natCast]
/-- The reference's dressing, pixel by pixel. -/
def rdF (w h : Nat) (q l : List Int) (t : Nat) : Int := if hasS l ((t / w : Nat) : Int) && (atF w h q ((t % w : Nat) : Int) (((t / w : Nat) : Int) - 1) == 0) && (atF w h q ((t % w : Nat) : Int) (((t / w : Nat) : Int) + 1) == 0) then 0 else q.getD t 0
theorem refDress0 (w h : Nat) (p l q : List Int) (hr : rightS w h p = true) (hq : q.length = p.length) (hl : p.length ≤ 1000000) (hll : l.length ≤ 1000000)
    (hs : FSpec Try.prog 37 [ink w h p, .sl true (nums .i64 l)] (resI w h q) (resR q)) : FSpec Try.prog 38 [ink w h p, .sl true (nums .i64 l)] (.agg [.int .i64 w, .int .i64 h, .ref 0 0 p.length]) (resR (rm p.length (rdF w h q l))) := by
  obtain ⟨hlen, h0, h1, h2, h3⟩ := right_len hr
  have hlen' : p.length = w * h := by exact_mod_cast hlen
  have hql : q.length ≤ 1000000 := by omega
  have hqw : q.length = w * h := by omega
  refine FSpec.intro tab_ok Try.func38 rfl rfl rfl (by kernel_rfl) (by simp) fun w0 => ?_
  simp only [argTM, Nat.zero_add, Nat.reduceAdd]
  simp only [ink]
  repeat refine IW.seq ?_
  refine IW.region_seq tab_ok [some 2, some 4] rfl fun X K hX hK => ?_
  simp only [go_sem, if_true, if_false, reduceIte, Nat.reduceEqDiff, Nat.reduceAdd, Nat.reduceLT, Nat.reduceLeDiff, reduceCtorEq]
  refine hK _ _ ?_; clear hX hK X K
  show IW _ _ _ _ _ _ _ _
  repeat refine IW.seq ?_
  refine IW.region_seq tab_ok [some 9, some 10, some 11] rfl fun X K hX hK => ?_
  simp only [go_sem, if_true, if_false, reduceIte, Nat.reduceEqDiff, Nat.reduceAdd, Nat.reduceLT, Nat.reduceLeDiff, reduceCtorEq]
  refine hX.quiet _ _ (OpG.of_B rfl (opB_call rfl rfl (FSpec.nz (refRight w h p hl) (by simp [go_sem, if_true, if_false, reduceIte, Nat.reduceEqDiff, Nat.reduceAdd, Nat.reduceLT, Nat.reduceLeDiff, reduceCtorEq, List.map_cons, List.map_nil, List.append_nil, opnd, unc])))) ?_
  simp only [go_sem, if_true, if_false, reduceIte, Nat.reduceEqDiff, Nat.reduceAdd, Nat.reduceLT, Nat.reduceLeDiff, reduceCtorEq]
  refine hK _ _ ?_; clear hX hK X K
  show IW _ _ _ _ _ _ _ _
  repeat refine IW.seq ?_
  refine IW.cond rfl (fun hb => ?_) (fun hb => ?_)
  · simp [hr] at hb
  · refine IW.skip ?_
    show IW _ _ _ _ _ _ _ _
    repeat refine IW.seq ?_
    refine IW.region_seq tab_ok [some 13, some 14, some 15, some 5, none] rfl fun X K hX hK => ?_
    simp only [go_sem, if_true, if_false, reduceIte, Nat.reduceEqDiff, Nat.reduceAdd, Nat.reduceLT, Nat.reduceLeDiff, reduceCtorEq]
    refine hX.quiet _ _ (OpG.of_B rfl (opB_call rfl rfl (FSpec.nz (hs) (by simp [go_sem, if_true, if_false, reduceIte, Nat.reduceEqDiff, Nat.reduceAdd, Nat.reduceLT, Nat.reduceLeDiff, reduceCtorEq, List.map_cons, List.map_nil, List.append_nil, opnd, unc, resI, resR])))) ?_
    simp only [go_sem, if_true, if_false, reduceIte, Nat.reduceEqDiff, Nat.reduceAdd, Nat.reduceLT, Nat.reduceLeDiff, reduceCtorEq, resI, resR]
    refine hX.op _ _ rfl (opS_store tab_ok rfl (by simp [go_sem, if_true, if_false, reduceIte, Nat.reduceEqDiff, Nat.reduceAdd, Nat.reduceLT, Nat.reduceLeDiff, reduceCtorEq]) (by simp [go_sem, if_true, if_false, reduceIte, Nat.reduceEqDiff, Nat.reduceAdd, Nat.reduceLT, Nat.reduceLeDiff, reduceCtorEq]) (by simp [go_sem, if_true, if_false, reduceIte, Nat.reduceEqDiff, Nat.reduceAdd, Nat.reduceLT, Nat.reduceLeDiff, reduceCtorEq]) (by simp [go_sem, if_true, if_false, reduceIte, Nat.reduceEqDiff, Nat.reduceAdd, Nat.reduceLT, Nat.reduceLeDiff, reduceCtorEq]) (by simp [go_sem, if_true, if_false, reduceIte, Nat.reduceEqDiff, Nat.reduceAdd, Nat.reduceLT, Nat.reduceLeDiff, reduceCtorEq]) (by simp [go_sem, if_true, if_false, reduceIte, Nat.reduceEqDiff, Nat.reduceAdd, Nat.reduceLT, Nat.reduceLeDiff, reduceCtorEq])) ?_
    simp only [go_sem, if_true, if_false, reduceIte, Nat.reduceEqDiff, Nat.reduceAdd, Nat.reduceLT, Nat.reduceLeDiff, reduceCtorEq]
    refine hK _ _ ?_; clear hX hK X K
    show IW _ _ _ _ _ _ _ _
    repeat refine IW.seq ?_
    refine IW.region_seq tab_ok [some 16, some 17, some 18, some 19, some 20, some 6, none] rfl fun X K hX hK => ?_
    simp only [go_sem, if_true, if_false, reduceIte, Nat.reduceEqDiff, Nat.reduceAdd, Nat.reduceLT, Nat.reduceLeDiff, reduceCtorEq]
    refine hX.quiet _ _ (OpG.of_B rfl (opB_call rfl rfl (FSpec.nz (refBlank w h (by omega) (by omega) (by omega)) (by simp [go_sem, if_true, if_false, reduceIte, Nat.reduceEqDiff, Nat.reduceAdd, Nat.reduceLT, Nat.reduceLeDiff, reduceCtorEq, List.map_cons, List.map_nil, List.append_nil, opnd, unc, imgSV, imgRows])))) ?_
    simp only [go_sem, if_true, if_false, reduceIte, Nat.reduceEqDiff, Nat.reduceAdd, Nat.reduceLT, Nat.reduceLeDiff, reduceCtorEq, imgSV, imgRows]
    refine hX.op _ _ rfl (opS_store tab_ok rfl (by simp [go_sem, if_true, if_false, reduceIte, Nat.reduceEqDiff, Nat.reduceAdd, Nat.reduceLT, Nat.reduceLeDiff, reduceCtorEq]) (by simp [go_sem, if_true, if_false, reduceIte, Nat.reduceEqDiff, Nat.reduceAdd, Nat.reduceLT, Nat.reduceLeDiff, reduceCtorEq]) (by simp [go_sem, if_true, if_false, reduceIte, Nat.reduceEqDiff, Nat.reduceAdd, Nat.reduceLT, Nat.reduceLeDiff, reduceCtorEq]) (by simp [go_sem, if_true, if_false, reduceIte, Nat.reduceEqDiff, Nat.reduceAdd, Nat.reduceLT, Nat.reduceLeDiff, reduceCtorEq]) (by simp [go_sem, if_true, if_false, reduceIte, Nat.reduceEqDiff, Nat.reduceAdd, Nat.reduceLT, Nat.reduceLeDiff, reduceCtorEq]) (by simp [go_sem, if_true, if_false, reduceIte, Nat.reduceEqDiff, Nat.reduceAdd, Nat.reduceLT, Nat.reduceLeDiff, reduceCtorEq])) ?_
    simp only [go_sem, if_true, if_false, reduceIte, Nat.reduceEqDiff, Nat.reduceAdd, Nat.reduceLT, Nat.reduceLeDiff, reduceCtorEq]
    refine hK _ _ ?_; clear hX hK X K
    show IW _ _ _ _ _ _ _ _
    repeat refine IW.seq ?_
    refine IW.region_seq tab_ok [some 7] rfl fun X K hX hK => ?_
    simp only [go_sem, if_true, if_false, reduceIte, Nat.reduceEqDiff, Nat.reduceAdd, Nat.reduceLT, Nat.reduceLeDiff, reduceCtorEq]
    refine hK _ _ ?_; clear hX hK X K
    show IW _ _ _ _ _ _ _ _
    repeat refine IW.seq ?_
    refine IW.block ?_
    have hrow : ∀ {y : Nat}, y < h → y * w + w ≤ p.length := fun {y} hy => by
      have : (y + 1) * w ≤ h * w := Nat.mul_le_mul_right _ hy
      rw [Nat.add_mul] at this; rw [hlen', Nat.mul_comm w h]; omega
    obtain ⟨HH, hHH⟩ : ∃ HH : List Int → Heap, HH = fun z => [some ⟨3, 33, [[.int .i64 w, .int .i64 h, .sl true (nums .u8 p)]]⟩, some ⟨3, 33, [[.int .i64 0, .int .i64 0, .nils]]⟩, some ⟨1, 5, nums .u8 q⟩, some ⟨3, 33, [[.int .i64 w, .int .i64 h, lsV 2 q.length]]⟩, some ⟨1, 5, nums .u8 z⟩, some ⟨3, 33, [[.int .i64 w, .int .i64 h, .ref 4 0 p.length]]⟩] := ⟨_, rfl⟩
    refine IW.loop (α := {y : Nat // y ≤ h}) (fun y => [(1, .sl true (nums .i64 l)), (2, .ptr 0 0 0), (4, .ptr 1 0 0), (5, .ptr 3 0 0), (6, .ptr 5 0 0), (7, .int .i64 y.1)]) (fun y => HH (upto (rdF w h q l) p.length (y.1 * w))) (fun y => h - y.1) ⟨0, by omega⟩ ?_ fun ⟨y, hy⟩ => ?_
    · subst hHH
      refine Ent.cut ?_ ?_ <;> simp only [go_sem, if_true, if_false, reduceIte, Nat.reduceEqDiff, Nat.reduceAdd, Nat.reduceLT, Nat.reduceLeDiff, reduceCtorEq, hlen', Nat.zero_mul, upto_zero, List.length_replicate]
    · simp only []
      subst hHH
      repeat refine IW.seq ?_
      refine IW.region_seq tab_ok [some 21, some 22, some 23, some 24] rfl fun X K hX hK => ?_
      simp only [go_sem, if_true, if_false, reduceIte, Nat.reduceEqDiff, Nat.reduceAdd, Nat.reduceLT, Nat.reduceLeDiff, reduceCtorEq]
      refine hK _ _ ?_; clear hX hK X K
      show IW _ _ _ _ _ _ _ _
      repeat refine IW.seq ?_
      refine IW.cond rfl (fun hb1 => ?_) (fun hb1 => ?_)
      · refine IW.skip ?_
        show IW _ _ _ _ _ _ _ _
        simp only [decide_eq_true_eq] at hb1
        have hyh : y < h := by omega
        have hr' := hrow hyh
        refine IW.seq (IW.block ?_)
        repeat refine IW.seq ?_
        refine IW.region_seq tab_ok [some 8] rfl fun X K hX hK => ?_
        simp only [go_sem, if_true, if_false, reduceIte, Nat.reduceEqDiff, Nat.reduceAdd, Nat.reduceLT, Nat.reduceLeDiff, reduceCtorEq]
        refine hK _ _ ?_; clear hX hK X K
        show IW _ _ _ _ _ _ _ _
        repeat refine IW.seq ?_
        refine IW.block ?_
        refine IW.loop (α := {x : Nat // x ≤ w}) (fun x => [(1, .sl true (nums .i64 l)), (2, .ptr 0 0 0), (4, .ptr 1 0 0), (5, .ptr 3 0 0), (6, .ptr 5 0 0), (7, .int .i64 y), (8, .int .i64 x.1)]) (fun x => [some ⟨3, 33, [[.int .i64 w, .int .i64 h, .sl true (nums .u8 p)]]⟩, some ⟨3, 33, [[.int .i64 0, .int .i64 0, .nils]]⟩, some ⟨1, 5, nums .u8 q⟩, some ⟨3, 33, [[.int .i64 w, .int .i64 h, lsV 2 q.length]]⟩, some ⟨1, 5, nums .u8 (upto (rdF w h q l) p.length (y * w + x.1))⟩, some ⟨3, 33, [[.int .i64 w, .int .i64 h, .ref 4 0 p.length]]⟩]) (fun x => w - x.1) ⟨0, by omega⟩ ?_ fun ⟨x, hx⟩ => ?_
        · refine Ent.cut ?_ ?_ <;> simp only [go_sem, if_true, if_false, reduceIte, Nat.reduceEqDiff, Nat.reduceAdd, Nat.reduceLT, Nat.reduceLeDiff, reduceCtorEq, Nat.add_zero]
        · simp only []
          repeat refine IW.seq ?_
          refine IW.region_seq tab_ok [some 27, some 28, some 29, some 30] rfl fun X K hX hK => ?_
          simp only [go_sem, if_true, if_false, reduceIte, Nat.reduceEqDiff, Nat.reduceAdd, Nat.reduceLT, Nat.reduceLeDiff, reduceCtorEq]
          refine hK _ _ ?_; clear hX hK X K
          show IW _ _ _ _ _ _ _ _
          repeat refine IW.seq ?_
          refine IW.cond rfl (fun hb2 => ?_) (fun hb2 => ?_)
          · refine IW.skip ?_
            show IW _ _ _ _ _ _ _ _
            simp only [decide_eq_true_eq] at hb2
            have hxw : x < w := by omega
            have e1 : IntKind.i64.wrap ((y : Int) * (w : Int)) = ((y * w : Nat) : Int) := by
              rw [← Int.natCast_mul]; exact wrap_eq (by omega) (by omega)
            have e2 : IntKind.i64.wrap (((y * w : Nat) : Int) + (x : Int)) = ((y * w + x : Nat) : Int) := (wrap_eq (by omega) (by omega)).trans (by omega)
            have e3 : IntKind.i64.wrap ((y : Int) - 1) = (y : Int) - 1 := wrap_eq (by omega) (by omega)
            have e4 : IntKind.i64.wrap ((y : Int) + 1) = (y : Int) + 1 := wrap_eq (by omega) (by omega)
            have hdiv : (y * w + x) / w = y := by rw [Nat.mul_comm, Nat.mul_add_div (by omega), Nat.div_eq_of_lt hxw]; rfl
            have hmod : (y * w + x) % w = x := by rw [Nat.mul_comm, Nat.mul_add_mod, Nat.mod_eq_of_lt hxw]
            have hat : atF w h q (x : Int) (y : Int) = q.getD (y * w + x) 0 := by rw [atF, if_neg (by omega)]; simp only [Int.toNat_natCast]
            refine IW.seq (IW.block ?_)
            repeat refine IW.seq ?_
            refine IW.region_draw tab_ok mixed [some 33, some 34, some 35, some 36, some 37, some 38, some 39, some 40, some 41, some 42, some 43, some 44, some 45, none] 13 (by kernel_rfl) rfl fun Xq Xs K hXq hXs hK K1 hK1 => ?_
            simp only [go_sem, if_true, if_false, reduceIte, Nat.reduceEqDiff, Nat.reduceAdd, Nat.reduceLT, Nat.reduceLeDiff, reduceCtorEq, e1, e2, Int.toNat_natCast]
            refine hXq.quiet _ _ (OpG.of_B rfl (opB_call rfl rfl (FSpec.nz (refAtG w h x y q hqw hql) (by simp [go_sem, if_true, if_false, reduceIte, Nat.reduceEqDiff, Nat.reduceAdd, Nat.reduceLT, Nat.reduceLeDiff, reduceCtorEq, List.map_cons, List.map_nil, List.append_nil, opnd, unc, e1, e2, Int.toNat_natCast, hat])))) ?_
            simp only [go_sem, if_true, if_false, reduceIte, Nat.reduceEqDiff, Nat.reduceAdd, Nat.reduceLT, Nat.reduceLeDiff, reduceCtorEq, e1, e2, Int.toNat_natCast, hat]
            have hk2 : y * w + x < p.length := by omega
            refine ⟨⟨by omega, by omega⟩, ?_⟩
            refine hK1 _ _ ?_; clear hXq hK1 K1 Xq
            simp only [List.drop_zero, List.drop_succ_cons, go_sem, if_true, if_false, reduceIte, Nat.reduceEqDiff, Nat.reduceAdd, Nat.reduceLT, Nat.reduceLeDiff, reduceCtorEq]
            have hk3 := nums_at (k := .u8) (xs := upto (rdF w h q l) p.length (y * w + x)) (i := y * w + x) (by simp [upto_length, hk2])
            refine hXs.op _ _ rfl (opS_store tab_ok rfl (by simp [go_sem, if_true, if_false, reduceIte, Nat.reduceEqDiff, Nat.reduceAdd, Nat.reduceLT, Nat.reduceLeDiff, reduceCtorEq]) (by simp [go_sem, if_true, if_false, reduceIte, Nat.reduceEqDiff, Nat.reduceAdd, Nat.reduceLT, Nat.reduceLeDiff, reduceCtorEq]) (by simp [go_sem, if_true, if_false, reduceIte, Nat.reduceEqDiff, Nat.reduceAdd, Nat.reduceLT, Nat.reduceLeDiff, reduceCtorEq]) (by simp [go_sem, if_true, if_false, reduceIte, Nat.reduceEqDiff, Nat.reduceAdd, Nat.reduceLT, Nat.reduceLeDiff, reduceCtorEq, hk2, hk3]) (by simp [go_sem, if_true, if_false, reduceIte, Nat.reduceEqDiff, Nat.reduceAdd, Nat.reduceLT, Nat.reduceLeDiff, reduceCtorEq]) (by simp [go_sem, if_true, if_false, reduceIte, Nat.reduceEqDiff, Nat.reduceAdd, Nat.reduceLT, Nat.reduceLeDiff, reduceCtorEq])) ?_
            simp only [go_sem, if_true, if_false, reduceIte, Nat.reduceEqDiff, Nat.reduceAdd, Nat.reduceLT, Nat.reduceLeDiff, reduceCtorEq, hk2, hk3]
            refine hK _ _ ?_; clear hXs hK K Xs
            show IW _ _ _ _ _ _ _ _
            repeat refine IW.seq ?_
            refine IW.region_seq tab_ok [some 46, some 47, some 48, some 49, some 50, some 51, some 52, some 53, some 54, some 55, some 56, some 57, some 58, some 59, some 60, some 61, some 62, some 63, some 64] rfl fun X K hX hK => ?_
            simp only [go_sem, if_true, if_false, reduceIte, Nat.reduceEqDiff, Nat.reduceAdd, Nat.reduceLT, Nat.reduceLeDiff, reduceCtorEq, e3, e4]
            refine hX.quiet _ _ (OpG.of_B rfl (opB_call rfl rfl (FSpec.nz (refHas l y hll) (by simp [go_sem, if_true, if_false, reduceIte, Nat.reduceEqDiff, Nat.reduceAdd, Nat.reduceLT, Nat.reduceLeDiff, reduceCtorEq, List.map_cons, List.map_nil, List.append_nil, opnd, unc])))) ?_
            simp only [go_sem, if_true, if_false, reduceIte, Nat.reduceEqDiff, Nat.reduceAdd, Nat.reduceLT, Nat.reduceLeDiff, reduceCtorEq]
            refine hX.quiet _ _ (OpG.of_BG rfl rfl rfl (by first | (simp only [go_sem, if_true, if_false, reduceIte, Nat.reduceEqDiff, Nat.reduceAdd, Nat.reduceLT, Nat.reduceLeDiff, reduceCtorEq]; done) | (simp [go_sem, if_true, if_false, reduceIte, Nat.reduceEqDiff, Nat.reduceAdd, Nat.reduceLT, Nat.reduceLeDiff, reduceCtorEq] <;> (intros; simp_all))) fun hc => opB_call rfl rfl (FSpec.nz (refAtG w h x ((y : Int) - 1) q hqw hql) (by simp [go_sem, if_true, if_false, reduceIte, Nat.reduceEqDiff, Nat.reduceAdd, Nat.reduceLT, Nat.reduceLeDiff, reduceCtorEq, List.map_cons, List.map_nil, List.append_nil, opnd, unc, e3, e4]))) ?_
            simp only [go_sem, if_true, if_false, reduceIte, Nat.reduceEqDiff, Nat.reduceAdd, Nat.reduceLT, Nat.reduceLeDiff, reduceCtorEq, e3, e4]
            refine hX.quiet _ _ (OpG.of_BG rfl rfl rfl (by first | (simp only [go_sem, if_true, if_false, reduceIte, Nat.reduceEqDiff, Nat.reduceAdd, Nat.reduceLT, Nat.reduceLeDiff, reduceCtorEq]; done) | (simp [go_sem, if_true, if_false, reduceIte, Nat.reduceEqDiff, Nat.reduceAdd, Nat.reduceLT, Nat.reduceLeDiff, reduceCtorEq] <;> (intros; simp_all))) fun hc => opB_call rfl rfl (FSpec.nz (refAtG w h x ((y : Int) + 1) q hqw hql) (by simp [go_sem, if_true, if_false, reduceIte, Nat.reduceEqDiff, Nat.reduceAdd, Nat.reduceLT, Nat.reduceLeDiff, reduceCtorEq, List.map_cons, List.map_nil, List.append_nil, opnd, unc, e3, e4]))) ?_
            simp only [go_sem, if_true, if_false, reduceIte, Nat.reduceEqDiff, Nat.reduceAdd, Nat.reduceLT, Nat.reduceLeDiff, reduceCtorEq, e3, e4]
            refine hK _ _ ?_; clear hX hK X K
            show IW _ _ _ _ _ _ _ _
            have hset := upto_set (rdF w h q l) p.length (y * w + x)
            have hf : rdF w h q l (y * w + x) = if hasS l (y : Int) && (atF w h q (x : Int) ((y : Int) - 1) == 0) && (atF w h q (x : Int) ((y : Int) + 1) == 0) then 0 else q.getD (y * w + x) 0 := by
              simp only [rdF, hdiv, hmod]
            repeat refine IW.seq ?_
            refine IW.cond rfl (fun hb3 => ?_) (fun hb3 => ?_)
            · have hk4 := nums_at (k := .u8) (xs := (upto (rdF w h q l) p.length (y * w + x)).set (y * w + x) (q.getD (y * w + x) 0)) (i := y * w + x) (by simp [upto_length, hk2])
              repeat refine IW.seq ?_
              refine IW.region_seq tab_ok [some 65, some 66, some 67, some 68, some 69, some 70, some 71, some 72, some 73, none] rfl fun X K hX hK => ?_
              simp only [go_sem, if_true, if_false, reduceIte, Nat.reduceEqDiff, Nat.reduceAdd, Nat.reduceLT, Nat.reduceLeDiff, reduceCtorEq, e1, e2, Int.toNat_natCast]
              refine ⟨⟨by omega, by omega⟩, ?_⟩
              refine hX.op _ _ rfl (opS_store tab_ok rfl (by simp [go_sem, if_true, if_false, reduceIte, Nat.reduceEqDiff, Nat.reduceAdd, Nat.reduceLT, Nat.reduceLeDiff, reduceCtorEq]) (by simp [go_sem, if_true, if_false, reduceIte, Nat.reduceEqDiff, Nat.reduceAdd, Nat.reduceLT, Nat.reduceLeDiff, reduceCtorEq]) (by simp [go_sem, if_true, if_false, reduceIte, Nat.reduceEqDiff, Nat.reduceAdd, Nat.reduceLT, Nat.reduceLeDiff, reduceCtorEq]) (by simp [go_sem, if_true, if_false, reduceIte, Nat.reduceEqDiff, Nat.reduceAdd, Nat.reduceLT, Nat.reduceLeDiff, reduceCtorEq, hk2, hk4]) (by simp [go_sem, if_true, if_false, reduceIte, Nat.reduceEqDiff, Nat.reduceAdd, Nat.reduceLT, Nat.reduceLeDiff, reduceCtorEq]) (by simp [go_sem, if_true, if_false, reduceIte, Nat.reduceEqDiff, Nat.reduceAdd, Nat.reduceLT, Nat.reduceLeDiff, reduceCtorEq])) ?_
              simp only [go_sem, if_true, if_false, reduceIte, Nat.reduceEqDiff, Nat.reduceAdd, Nat.reduceLT, Nat.reduceLeDiff, reduceCtorEq, hk2, hk4]
              refine hK _ _ ?_; clear hX hK X K
              show IW _ _ _ _ _ _ _ _
              repeat refine IW.seq ?_
              refine IW.region_seq tab_ok [some 31, some 32, some 8] rfl fun X K hX hK => ?_
              simp only [go_sem, if_true, if_false, reduceIte, Nat.reduceEqDiff, Nat.reduceAdd, Nat.reduceLT, Nat.reduceLeDiff, reduceCtorEq, succ_wrap hxw (by omega)]
              refine hK _ _ ⟨⟨x + 1, hxw⟩, by simp only []; omega, ?_⟩
              rw [hf, if_pos hb3] at hset
              refine Ent.cut ?_ ?_ <;> simp only [go_sem, if_true, if_false, reduceIte, Nat.reduceEqDiff, Nat.reduceAdd, Nat.reduceLT, Nat.reduceLeDiff, reduceCtorEq, List.set_set, ← Nat.add_assoc, hset]
            · refine IW.skip ?_
              show IW _ _ _ _ _ _ _ _
              repeat refine IW.seq ?_
              refine IW.region_seq tab_ok [some 31, some 32, some 8] rfl fun X K hX hK => ?_
              simp only [go_sem, if_true, if_false, reduceIte, Nat.reduceEqDiff, Nat.reduceAdd, Nat.reduceLT, Nat.reduceLeDiff, reduceCtorEq, succ_wrap hxw (by omega)]
              refine hK _ _ ⟨⟨x + 1, hxw⟩, by simp only []; omega, ?_⟩
              rw [hf, if_neg (by rw [hb3]; simp)] at hset
              refine Ent.cut ?_ ?_ <;> simp only [go_sem, if_true, if_false, reduceIte, Nat.reduceEqDiff, Nat.reduceAdd, Nat.reduceLT, Nat.reduceLeDiff, reduceCtorEq, ← Nat.add_assoc, hset]
          · refine IW.exit ?_
            show IW _ _ _ _ _ _ _ _
            simp only [decide_eq_false_iff_not] at hb2
            have hxw : x = w := by omega
            subst hxw
            repeat refine IW.seq ?_
            refine IW.region_seq tab_ok [some 25, some 26, some 7] rfl fun X K hX hK => ?_
            simp only [go_sem, if_true, if_false, reduceIte, Nat.reduceEqDiff, Nat.reduceAdd, Nat.reduceLT, Nat.reduceLeDiff, reduceCtorEq, succ_wrap hyh (by omega)]
            refine hK _ _ ⟨⟨y + 1, hyh⟩, by simp only []; omega, ?_⟩
            refine Ent.cut ?_ ?_ <;> simp only [go_sem, if_true, if_false, reduceIte, Nat.reduceEqDiff, Nat.reduceAdd, Nat.reduceLT, Nat.reduceLeDiff, reduceCtorEq, Nat.add_mul, Nat.one_mul]
      · refine IW.exit ?_
        show IW _ _ _ _ _ _ _ _
        simp only [decide_eq_false_iff_not] at hb1
        have hyh : y = h := by omega
        subst hyh
        repeat refine IW.seq ?_
        refine IW.region_seq tab_ok [some 74, none] rfl fun X K hX hK => ?_
        simp only [go_sem, if_true, if_false, reduceIte, Nat.reduceEqDiff, Nat.reduceAdd, Nat.reduceLT, Nat.reduceLeDiff, reduceCtorEq]
        refine hX.op _ _ rfl (opS_store tab_ok rfl (by simp [go_sem, if_true, if_false, reduceIte, Nat.reduceEqDiff, Nat.reduceAdd, Nat.reduceLT, Nat.reduceLeDiff, reduceCtorEq]) (by simp [go_sem, if_true, if_false, reduceIte, Nat.reduceEqDiff, Nat.reduceAdd, Nat.reduceLT, Nat.reduceLeDiff, reduceCtorEq]) (by simp [go_sem, if_true, if_false, reduceIte, Nat.reduceEqDiff, Nat.reduceAdd, Nat.reduceLT, Nat.reduceLeDiff, reduceCtorEq]) (by simp [go_sem, if_true, if_false, reduceIte, Nat.reduceEqDiff, Nat.reduceAdd, Nat.reduceLT, Nat.reduceLeDiff, reduceCtorEq]) (by simp [go_sem, if_true, if_false, reduceIte, Nat.reduceEqDiff, Nat.reduceAdd, Nat.reduceLT, Nat.reduceLeDiff, reduceCtorEq]) (by simp [go_sem, if_true, if_false, reduceIte, Nat.reduceEqDiff, Nat.reduceAdd, Nat.reduceLT, Nat.reduceLeDiff, reduceCtorEq])) ?_
        simp only [go_sem, if_true, if_false, reduceIte, Nat.reduceEqDiff, Nat.reduceAdd, Nat.reduceLT, Nat.reduceLeDiff, reduceCtorEq]
        refine hK _ _ ?_; clear hX hK X K
        show IW _ _ _ _ _ _ _ _
        refine IW.ret (Fin.cell1 4 ⟨trivial, by simp [go_sem, if_true, if_false, reduceIte, Nat.reduceEqDiff, Nat.reduceAdd, Nat.reduceLT, Nat.reduceLeDiff, reduceCtorEq]⟩ rfl (by simp [go_sem, if_true, if_false, reduceIte, Nat.reduceEqDiff, Nat.reduceAdd, Nat.reduceLT, Nat.reduceLeDiff, reduceCtorEq]) ?_ ?_)
        · simp [go_sem, if_true, if_false, reduceIte, Nat.reduceEqDiff, Nat.reduceAdd, Nat.reduceLT, Nat.reduceLeDiff, reduceCtorEq]
        · simp [go_sem, if_true, if_false, reduceIte, Nat.reduceEqDiff, Nat.reduceAdd, Nat.reduceLT, Nat.reduceLeDiff, reduceCtorEq, Nat.mul_comm y w, ← hlen', upto_all, rm]
theorem right_bits {W H : Int} {p : List Int} (hr : rightS W H p = true) (hp : ∀ x ∈ p, 0 ≤ x) : ∀ x ∈ p, x = 0 ∨ x = 1 := fun x hx => by
  have := hp x hx
  simp only [rightS, Bool.and_eq_true, List.all_eq_true, decide_eq_true_eq] at hr
  have := hr.2 x hx
  omega
theorem getD_bits {p : List Int} (hp : ∀ x ∈ p, x = 0 ∨ x = 1) (t : Nat) : p.getD t 0 = 0 ∨ p.getD t 0 = 1 := by
  rcases Nat.lt_or_ge t p.length with h | h
  · exact hp _ (by simp [h])
  · left; simp [h]
theorem liF_bits {W H : Int} {p l : List Int} (hp : ∀ x ∈ p, 0 ≤ x) : ∀ x ∈ liF W H p l, x = 0 ∨ x = 1 := by
  intro x hx
  unfold liF at hx
  split at hx
  · rename_i hr
    simp only [rm, List.mem_map] at hx
    obtain ⟨t, _, rfl⟩ := hx
    unfold linedF
    split
    · exact .inr rfl
    · exact getD_bits (right_bits hr hp) t
  · cases hx
theorem atF_bits {w h : Nat} {q : List Int} (hq : ∀ x ∈ q, x = 0 ∨ x = 1) (x y : Int) : atF w h q x y = 0 ∨ atF w h q x y = 1 := by
  unfold atF
  split
  · exact .inl rfl
  · exact getD_bits hq _
theorem rd_dr {w h : Nat} {q l : List Int} (hq : ∀ x ∈ q, x = 0 ∨ x = 1) : rm q.length (rdF w h q l) = drF w h q l := by
  refine List.map_congr_left fun t _ => ?_
  unfold rdF drC
  rcases atF_bits (w := w) (h := h) hq ((t % w : Nat) : Int) (((t / w : Nat) : Int) - 1) with h1 | h1 <;> rcases atF_bits (w := w) (h := h) hq ((t % w : Nat) : Int) (((t / w : Nat) : Int) + 1) with h2 | h2 <;> rw [h1, h2] <;> cases hasS l ((t / w : Nat) : Int) <;> rfl
theorem refDress (W H : Int) (p l : List Int) (hl : p.length ≤ 1000000) (hll : l.length ≤ 1000000) (hp : ∀ x ∈ p, 0 ≤ x) : FSpec Try.prog 38 [ink W H p, .sl true (nums .i64 l)] (resI (riW W H p W) (riW W H p H) (drsF W H p l)) (resR (drsF W H p l)) := by
  by_cases hr : rightS W H p = true
  case neg =>
    have e1 : drsF W H p l = [] := by simp [drsF, hr]
    have e2 : riW W H p W = 0 := by simp [riW, hr]
    have e3 : riW W H p H = 0 := by simp [riW, hr]
    rw [e1, e2, e3]
    refine res_nil ?_
    refine FSpec.intro tab_ok Try.func38 rfl rfl rfl (by kernel_rfl) (by simp) fun w0 => ?_
    simp only [argTM, Nat.zero_add, Nat.reduceAdd]
    simp only [ink]
    repeat refine IW.seq ?_
    refine IW.region_seq tab_ok [some 2, some 4] rfl fun X K hX hK => ?_
    simp only [go_sem, if_true, if_false, reduceIte, Nat.reduceEqDiff, Nat.reduceAdd, Nat.reduceLT, Nat.reduceLeDiff, reduceCtorEq]
    refine hK _ _ ?_; clear hX hK X K
    show IW _ _ _ _ _ _ _ _
    repeat refine IW.seq ?_
    refine IW.region_seq tab_ok [some 9, some 10, some 11] rfl fun X K hX hK => ?_
    simp only [go_sem, if_true, if_false, reduceIte, Nat.reduceEqDiff, Nat.reduceAdd, Nat.reduceLT, Nat.reduceLeDiff, reduceCtorEq]
    refine hX.quiet _ _ (OpG.of_B rfl (opB_call rfl rfl (FSpec.nz (refRight W H p hl) (by simp [go_sem, if_true, if_false, reduceIte, Nat.reduceEqDiff, Nat.reduceAdd, Nat.reduceLT, Nat.reduceLeDiff, reduceCtorEq, List.map_cons, List.map_nil, List.append_nil, opnd, unc])))) ?_
    simp only [go_sem, if_true, if_false, reduceIte, Nat.reduceEqDiff, Nat.reduceAdd, Nat.reduceLT, Nat.reduceLeDiff, reduceCtorEq]
    refine hK _ _ ?_; clear hX hK X K
    show IW _ _ _ _ _ _ _ _
    repeat refine IW.seq ?_
    refine IW.cond rfl (fun hb => ?_) (fun hb => ?_)
    · repeat refine IW.seq ?_
      refine IW.region_seq tab_ok [some 12, none] rfl fun X K hX hK => ?_
      simp only [go_sem, if_true, if_false, reduceIte, Nat.reduceEqDiff, Nat.reduceAdd, Nat.reduceLT, Nat.reduceLeDiff, reduceCtorEq]
      refine hX.op _ _ rfl (opS_store tab_ok rfl (by simp [go_sem, if_true, if_false, reduceIte, Nat.reduceEqDiff, Nat.reduceAdd, Nat.reduceLT, Nat.reduceLeDiff, reduceCtorEq]) (by simp [go_sem, if_true, if_false, reduceIte, Nat.reduceEqDiff, Nat.reduceAdd, Nat.reduceLT, Nat.reduceLeDiff, reduceCtorEq]) (by simp [go_sem, if_true, if_false, reduceIte, Nat.reduceEqDiff, Nat.reduceAdd, Nat.reduceLT, Nat.reduceLeDiff, reduceCtorEq]) (by simp [go_sem, if_true, if_false, reduceIte, Nat.reduceEqDiff, Nat.reduceAdd, Nat.reduceLT, Nat.reduceLeDiff, reduceCtorEq]) (by simp [go_sem, if_true, if_false, reduceIte, Nat.reduceEqDiff, Nat.reduceAdd, Nat.reduceLT, Nat.reduceLeDiff, reduceCtorEq]) (by simp [go_sem, if_true, if_false, reduceIte, Nat.reduceEqDiff, Nat.reduceAdd, Nat.reduceLT, Nat.reduceLeDiff, reduceCtorEq])) ?_
      simp only [go_sem, if_true, if_false, reduceIte, Nat.reduceEqDiff, Nat.reduceAdd, Nat.reduceLT, Nat.reduceLeDiff, reduceCtorEq]
      refine hK _ _ ?_; clear hX hK X K
      show IW _ _ _ _ _ _ _ _
      refine IW.ret (Fin.cell ⟨trivial, by simp [go_sem, if_true, if_false, reduceIte, Nat.reduceEqDiff, Nat.reduceAdd, Nat.reduceLT, Nat.reduceLeDiff, reduceCtorEq]⟩ rfl rfl ?_)
      simp [go_sem, if_true, if_false, reduceIte, Nat.reduceEqDiff, Nat.reduceAdd, Nat.reduceLT, Nat.reduceLeDiff, reduceCtorEq]
    · simp [hr] at hb
  case pos =>
    obtain ⟨hlen, h0, h1, h2, h3⟩ := right_len hr
    obtain ⟨w, rfl⟩ : ∃ w : Nat, W = w := ⟨W.toNat, by omega⟩
    obtain ⟨h, rfl⟩ : ∃ h : Nat, H = h := ⟨H.toNat, by omega⟩
    have e2 : riW w h p w = w := by simp [riW, hr]
    have e3 : riW w h p h = h := by simp [riW, hr]
    have hq := liF_length w h p l
    rw [if_pos hr] at hq
    have hs := refLined' w h p l hl hll
    have e4 : drsF w h p l = rm p.length (rdF w h (liF w h p l) l) := by
      rw [← hq, rd_dr (liF_bits hp)]
      simp [drsF, hr]
    rw [e2, e3] at hs
    rw [e2, e3, e4]
    have := refDress0 w h p l (liF w h p l) hr hq hl hll hs
    have hl2 : (rm p.length (rdF w h (liF w h p l) l)).length = p.length := rm_length _ _
    exact res_ref (by rw [hl2]; exact this)
end Go.Proofs.Ytnbpbehlemaeoaa

set_option linter.unusedVariables false
set_option linter.unusedSimpArgs false
set_option maxRecDepth 10000
namespace Go.Proofs.Ytnbpbehlemaeoaa
open Go.IL
/-- No bytes as a text. -/
theorem opB_nilStr {P : Program} {tab : Tab} (hT : TabOk P tab) {dst : Option Nat} {T e D ty : TypeId} {pos : String} {after : Array Edge} {guard : Option (Nat × Bool)} {g : Operand → SV} {h : Heap} {x : Operand}
    (hx : g x = .nils) (hsh : (tab T).shape = .slice e) (hes : (tab e).shape = .int .u8) (hD : (tab D).shape = .str) :
    OpB P ⟨dst, .convert T D x, ty, pos, after, guard⟩ g h (.str (IL.strOf [])) [] := by
  refine opB_ok fun ρ O F w a hs hr => ?_
  have vx := hr x (by simp [Op.operands])
  rw [hx] at vx
  generalize hax : a.eval x = v at vx
  cases vx
  have hu := slice_under hT hsh
  have hus := str_under hT hD
  have hue := int_under hT hes
  refine ⟨.string .empty, ?_, .str _⟩
  have hrun : (convert T D (.slice none 0 0)).run P w = .ok (.string .empty) w := by
    unfold convert
    rw [run_bind, run_underlying' hu]
    simp only []
    rw [run_bind, run_underlying' hus]
    simp only []
    rw [run_bind, run_underlying' hue]
    simp only [Conv.bytesToString]
    rfl
  simp only [execOp, hax]
  exact run_v hrun
/-- A list of bytes that has been appended to: row 1. -/
def apV (bs : List Int) : SV := match bs with | [] => .nils | _ :: _ => .ref 1 0 bs.length
theorem apV_snoc (bs : List Int) (c : Int) : apV (bs ++ [c]) = .ref 1 0 (bs.length + 1) := by cases bs <;> simp [apV]
section
variable {O : Nat → Prop} {w0 : Ctx} {N : Nat} {ops : Array Oper} {D : List (Option Nat)} {X : XT}
theorem push {dst : Option Nat} {x y : Operand} {ty : TypeId} {pos : String} {after : Array Edge} {r : List Oper} {tm : TM} {bs : List Int} {c : Int} {r0 : Option Row} {K : TM → Heap → Prop} (hX : XS Try.prog O w0 N tab ops D X) (hx : opnd tm x = apV bs) (hy : opnd tm y = .ref 2 0 1) (hl : bs.length ≤ 1000000) (hd : ∀ d, dst = some d → d < N)
    (he : E tab D X r (tm.put dst (.ref 3 0 (bs.length + 1))) [r0, none, some ⟨1, 5, [[.int .u8 c]]⟩, some ⟨1, 5, nums .u8 (bs ++ [c])⟩] K) :
    X ⟨dst, .call ⟨.builtin .append, #[x, y], #[31, 31]⟩, ty, pos, after, none⟩ r tm [r0, wbR bs, some ⟨1, 5, [[.int .u8 c]]⟩] K := by
  have hys : srcO [r0, wbR bs, some ⟨1, 5, [[.int .u8 c]]⟩] (opnd tm y) = some [[.int .u8 c]] := by rw [hy]; rfl
  cases bs with
  | nil =>
    refine hX.quiet _ _ (OpG.of_B rfl (opB_append_nil tab_ok (ys := [[.int .u8 c]]) (m := 1) hx hys rfl (by omega) rfl rfl (by decide) (by intro x hx; simp at hx; subst hx; rfl) rfl (by decide) (by decide))) ?_
    exact he
  | cons b bs =>
    have hlen : (nums .u8 (b :: bs)).length = (b :: bs).length := nums_length _ _
    refine hX.op _ _ rfl (opS_append tab_ok (id := 1) (n := (b :: bs).length) (m := 1) (ys := [[.int .u8 c]]) hx hys rfl (by omega) rfl rfl (by decide) (by show _ ≤ (nums .u8 (b :: bs)).length; omega) rfl rfl rfl (by intro x hx; simp at hx; subst hx; rfl) rfl (by show ((b :: bs).length + 1) * 1 ≤ _; omega) (by omega) hd) ?_
    have e1 : (nums .u8 (b :: bs)).take (b :: bs).length ++ [[SV.int .u8 c]] = nums .u8 (b :: bs ++ [c]) := by
      rw [List.take_of_length_le (by omega)]; simp [nums]
    have e2 : rowXs [r0, wbR (b :: bs), some ⟨1, 5, [[SV.int .u8 c]]⟩] 1 = nums .u8 (b :: bs) := rfl
    rw [e2, e1]
    exact he
end
theorem refShow (W H : Int) (p : List Int) (hl : p.length ≤ 1000000) (hp : ∀ x ∈ p, 0 ≤ x) : FSpec Try.prog 42 [ink W H p] (.str (showF W H p)) [] := by
  by_cases hr : rightS W H p = true
  case neg =>
    have e1 : showF W H p = ⟨#[]⟩ := by simp [showF, hr]
    rw [e1]
    refine FSpec.intro tab_ok Try.func42 rfl rfl rfl (by kernel_rfl) (by simp) fun w0 => ?_
    simp only [argTM, Nat.zero_add, Nat.reduceAdd]
    simp only [ink]
    repeat refine IW.seq ?_
    refine IW.region_seq tab_ok [some 1, some 2] rfl fun X K hX hK => ?_
    simp only [go_sem, if_true, if_false, reduceIte, Nat.reduceEqDiff, Nat.reduceAdd, Nat.reduceLT, Nat.reduceLeDiff, reduceCtorEq]
    refine hK _ _ ?_; clear hX hK X K
    show IW _ _ _ _ _ _ _ _
    repeat refine IW.seq ?_
    refine IW.region_seq tab_ok [some 6, some 7, some 8] rfl fun X K hX hK => ?_
    simp only [go_sem, if_true, if_false, reduceIte, Nat.reduceEqDiff, Nat.reduceAdd, Nat.reduceLT, Nat.reduceLeDiff, reduceCtorEq]
    refine hX.quiet _ _ (OpG.of_B rfl (opB_call rfl rfl (FSpec.nz (refRight W H p hl) (by simp [go_sem, if_true, if_false, reduceIte, Nat.reduceEqDiff, Nat.reduceAdd, Nat.reduceLT, Nat.reduceLeDiff, reduceCtorEq, List.map_cons, List.map_nil, List.append_nil, opnd, unc])))) ?_
    simp only [go_sem, if_true, if_false, reduceIte, Nat.reduceEqDiff, Nat.reduceAdd, Nat.reduceLT, Nat.reduceLeDiff, reduceCtorEq]
    refine hK _ _ ?_; clear hX hK X K
    show IW _ _ _ _ _ _ _ _
    repeat refine IW.seq ?_
    refine IW.cond rfl (fun hb => ?_) (fun hb => ?_)
    · repeat refine IW.seq ?_
      refine IW.region_seq tab_ok [some 2] rfl fun X K hX hK => ?_
      simp only [go_sem, if_true, if_false, reduceIte, Nat.reduceEqDiff, Nat.reduceAdd, Nat.reduceLT, Nat.reduceLeDiff, reduceCtorEq]
      refine hK _ _ ?_; clear hX hK X K
      show IW _ _ _ _ _ _ _ _
      refine IW.ret (Fin.scal rfl rfl ?_)
      rfl
    · simp [hr] at hb
  case pos =>
    obtain ⟨h1, h2, h3, h4, h5⟩ := right_len hr
    obtain ⟨w, rfl⟩ : ∃ w : Nat, W = w := ⟨W.toNat, by omega⟩
    obtain ⟨h, rfl⟩ : ∃ h : Nat, H = h := ⟨H.toNat, by omega⟩
    have e1 : showF w h p = IL.strOf (shL w p h) := by simp [showF, hr]
    have hwh : p.length = w * h := by exact_mod_cast h1
    have hbits := right_bits hr hp
    have hwh6 : w * h ≤ 640 * 640 := Nat.mul_le_mul (by omega) (by omega)
    rw [e1]
    refine FSpec.intro tab_ok Try.func42 rfl rfl rfl (by kernel_rfl) (by simp) fun w0 => ?_
    simp only [argTM, Nat.zero_add, Nat.reduceAdd]
    simp only [ink]
    repeat refine IW.seq ?_
    refine IW.region_seq tab_ok [some 1, some 2] rfl fun X K hX hK => ?_
    simp only [go_sem, if_true, if_false, reduceIte, Nat.reduceEqDiff, Nat.reduceAdd, Nat.reduceLT, Nat.reduceLeDiff, reduceCtorEq]
    refine hK _ _ ?_; clear hX hK X K
    show IW _ _ _ _ _ _ _ _
    repeat refine IW.seq ?_
    refine IW.region_seq tab_ok [some 6, some 7, some 8] rfl fun X K hX hK => ?_
    simp only [go_sem, if_true, if_false, reduceIte, Nat.reduceEqDiff, Nat.reduceAdd, Nat.reduceLT, Nat.reduceLeDiff, reduceCtorEq]
    refine hX.quiet _ _ (OpG.of_B rfl (opB_call rfl rfl (FSpec.nz (refRight w h p hl) (by simp [go_sem, if_true, if_false, reduceIte, Nat.reduceEqDiff, Nat.reduceAdd, Nat.reduceLT, Nat.reduceLeDiff, reduceCtorEq, List.map_cons, List.map_nil, List.append_nil, opnd, unc])))) ?_
    simp only [go_sem, if_true, if_false, reduceIte, Nat.reduceEqDiff, Nat.reduceAdd, Nat.reduceLT, Nat.reduceLeDiff, reduceCtorEq]
    refine hK _ _ ?_; clear hX hK X K
    show IW _ _ _ _ _ _ _ _
    repeat refine IW.seq ?_
    refine IW.cond rfl (fun hb => ?_) (fun hb => ?_)
    · simp [hr] at hb
    · refine IW.skip ?_
      show IW _ _ _ _ _ _ _ _
      repeat refine IW.seq ?_
      refine IW.region_seq tab_ok [some 3] rfl fun X K hX hK => ?_
      simp only [go_sem, if_true, if_false, reduceIte, Nat.reduceEqDiff, Nat.reduceAdd, Nat.reduceLT, Nat.reduceLeDiff, reduceCtorEq]
      refine hK _ _ ?_; clear hX hK X K
      show IW _ _ _ _ _ _ _ _
      repeat refine IW.seq ?_
      refine IW.region_seq tab_ok [some 4] rfl fun X K hX hK => ?_
      simp only [go_sem, if_true, if_false, reduceIte, Nat.reduceEqDiff, Nat.reduceAdd, Nat.reduceLT, Nat.reduceLeDiff, reduceCtorEq]
      refine hK _ _ ?_; clear hX hK X K
      show IW _ _ _ _ _ _ _ _
      repeat refine IW.seq ?_
      refine IW.block ?_
      refine IW.loop (α := {y : Nat // y ≤ h}) (fun y => [(1, .ptr 0 0 0), (3, apV (shL w p y.1)), (4, .int .i64 y.1)]) (fun y => [some ⟨3, 33, [[.int .i64 w, .int .i64 h, .sl true (nums .u8 p)]]⟩, wbR (shL w p y.1)]) (fun y => h - y.1) ⟨0, Nat.zero_le _⟩ ?_ fun ⟨y, hy⟩ => ?_
      · refine Ent.ren [0, 1] rfl (by decide) ?_ ?_ (fun id ri e => by cases e) <;> simp [go_sem, if_true, if_false, reduceIte, Nat.reduceEqDiff, Nat.reduceAdd, Nat.reduceLT, Nat.reduceLeDiff, reduceCtorEq, subT, subH, sg, SV.ren, Row.ren, shL_zero, apV, wbR]
      · simp only []
        repeat refine IW.seq ?_
        refine IW.region_seq tab_ok [some 9, some 10, some 11, some 12] rfl fun X K hX hK => ?_
        simp only [go_sem, if_true, if_false, reduceIte, Nat.reduceEqDiff, Nat.reduceAdd, Nat.reduceLT, Nat.reduceLeDiff, reduceCtorEq]
        refine hK _ _ ?_; clear hX hK X K
        show IW _ _ _ _ _ _ _ _
        repeat refine IW.seq ?_
        refine IW.cond rfl (fun hb1 => ?_) (fun hb1 => ?_)
        · simp only [decide_eq_true_eq] at hb1
          have hyh : y < h := by omega
          refine IW.skip ?_
          show IW _ _ _ _ _ _ _ _
          refine IW.seq (IW.block ?_)
          repeat refine IW.seq ?_
          refine IW.region_seq tab_ok [some 5] rfl fun X K hX hK => ?_
          simp only [go_sem, if_true, if_false, reduceIte, Nat.reduceEqDiff, Nat.reduceAdd, Nat.reduceLT, Nat.reduceLeDiff, reduceCtorEq]
          refine hK _ _ ?_; clear hX hK X K
          show IW _ _ _ _ _ _ _ _
          repeat refine IW.seq ?_
          refine IW.block ?_
          refine IW.loop (α := {x : Nat // x ≤ w}) (fun x => [(1, .ptr 0 0 0), (3, apV (shL w p y ++ shRow w p y x.1)), (4, .int .i64 y), (5, .int .i64 x.1)]) (fun x => [some ⟨3, 33, [[.int .i64 w, .int .i64 h, .sl true (nums .u8 p)]]⟩, wbR (shL w p y ++ shRow w p y x.1)]) (fun x => w - x.1) ⟨0, Nat.zero_le _⟩ ?_ fun ⟨x, hx⟩ => ?_
          · have : shL w p y ++ shRow w p y 0 = shL w p y := by simp [shRow]
            simp only [this]
            cases shL w p y with
            | nil =>
              refine Ent.ren [0, 1] rfl (by decide) ?_ ?_ (fun id ri e => by cases e) <;> simp [go_sem, if_true, if_false, reduceIte, Nat.reduceEqDiff, Nat.reduceAdd, Nat.reduceLT, Nat.reduceLeDiff, reduceCtorEq, subT, subH, sg, SV.ren, Row.ren, apV, wbR]
            | cons b r =>
              refine Ent.ren [0, 1] rfl (by decide) ?_ ?_ (fun id ri e => by cases e) <;> simp [go_sem, if_true, if_false, reduceIte, Nat.reduceEqDiff, Nat.reduceAdd, Nat.reduceLT, Nat.reduceLeDiff, reduceCtorEq, subT, subH, sg, SV.ren, Row.ren, apV, wbR, nums_ren]
          · simp only []
            repeat refine IW.seq ?_
            refine IW.region_seq tab_ok [some 15, some 16, some 17, some 18] rfl fun X K hX hK => ?_
            simp only [go_sem, if_true, if_false, reduceIte, Nat.reduceEqDiff, Nat.reduceAdd, Nat.reduceLT, Nat.reduceLeDiff, reduceCtorEq]
            refine hK _ _ ?_; clear hX hK X K
            show IW _ _ _ _ _ _ _ _
            have hbl : (shL w p y ++ shRow w p y x).length ≤ 1000000 := by
              rw [List.length_append, shL_length, shRow_length]
              have : y * (w + 1) = y * w + y := Nat.mul_succ y w
              have hm1 : y * w ≤ h * w := Nat.mul_le_mul_right w hy
              rw [Nat.mul_comm h w] at hm1
              omega
            repeat refine IW.seq ?_
            refine IW.cond rfl (fun hb2 => ?_) (fun hb2 => ?_)
            · simp only [decide_eq_true_eq] at hb2
              have hxw : x < w := by omega
              refine IW.skip ?_
              show IW _ _ _ _ _ _ _ _
              refine IW.seq (IW.block ?_)
              have hat : atF w h p (x : Int) (y : Int) = p.getD (y * w + x) 0 := by rw [atF, if_neg (by omega)]; simp only [Int.toNat_natCast]
              repeat refine IW.seq ?_
              refine IW.region_seq tab_ok [some 21, some 22, some 23, some 24, some 25] rfl fun X K hX hK => ?_
              simp only [go_sem, if_true, if_false, reduceIte, Nat.reduceEqDiff, Nat.reduceAdd, Nat.reduceLT, Nat.reduceLeDiff, reduceCtorEq]
              refine hX.quiet _ _ (OpG.of_B rfl (opB_call rfl rfl (FSpec.nz (refAtG w h x y p hwh hl) (by simp [go_sem, if_true, if_false, reduceIte, Nat.reduceEqDiff, Nat.reduceAdd, Nat.reduceLT, Nat.reduceLeDiff, reduceCtorEq, List.map_cons, List.map_nil, List.append_nil, opnd, unc, hat])))) ?_
              simp only [go_sem, if_true, if_false, reduceIte, Nat.reduceEqDiff, Nat.reduceAdd, Nat.reduceLT, Nat.reduceLeDiff, reduceCtorEq, hat]
              refine hK _ _ ?_; clear hX hK X K
              show IW _ _ _ _ _ _ _ _
              repeat refine IW.seq ?_
              refine IW.cond rfl (fun hb3 => ?_) (fun hb3 => ?_)
              · have hcc : (if p.getD (y * w + x) 0 = 0 then (46 : Int) else 35) = 35 := by
                  rw [beq_iff_eq] at hb3; rw [hb3]; rfl
                repeat refine IW.seq ?_
                refine IW.region_seq tab_ok [some 26, some 27, some 28, some 3] rfl fun X K hX hK => ?_
                simp only [go_sem, if_true, if_false, reduceIte, Nat.reduceEqDiff, Nat.reduceAdd, Nat.reduceLT, Nat.reduceLeDiff, reduceCtorEq]
                refine hX.quiet _ _ (OpG.of_B rfl (opB_buildSlice tab_ok rfl (by simp [go_sem, if_true, if_false, reduceIte, Nat.reduceEqDiff, Nat.reduceAdd, Nat.reduceLT, Nat.reduceLeDiff, reduceCtorEq]) (by simp [go_sem, if_true, if_false, reduceIte, Nat.reduceEqDiff, Nat.reduceAdd, Nat.reduceLT, Nat.reduceLeDiff, reduceCtorEq]) (by simp) (by simp [go_sem, if_true, if_false, reduceIte, Nat.reduceEqDiff, Nat.reduceAdd, Nat.reduceLT, Nat.reduceLeDiff, reduceCtorEq, bsO, List.map_cons, List.map_nil]))) ?_
                simp only [go_sem, if_true, if_false, reduceIte, Nat.reduceEqDiff, Nat.reduceAdd, Nat.reduceLT, Nat.reduceLeDiff, reduceCtorEq, List.map_cons, List.map_nil]
                refine push (c := 35) (bs := shL w p y ++ shRow w p y x) hX (by simp [go_sem, if_true, if_false, reduceIte, Nat.reduceEqDiff, Nat.reduceAdd, Nat.reduceLT, Nat.reduceLeDiff, reduceCtorEq]) (by simp [go_sem, if_true, if_false, reduceIte, Nat.reduceEqDiff, Nat.reduceAdd, Nat.reduceLT, Nat.reduceLeDiff, reduceCtorEq]) hbl (by intro d e; cases e; decide) ?_
                simp only [go_sem, if_true, if_false, reduceIte, Nat.reduceEqDiff, Nat.reduceAdd, Nat.reduceLT, Nat.reduceLeDiff, reduceCtorEq]
                refine hK _ _ ?_; clear hX hK X K
                show IW _ _ _ _ _ _ _ _
                repeat refine IW.seq ?_
                refine IW.region_seq tab_ok [some 19, some 20, some 5] rfl fun X K hX hK => ?_
                simp only [go_sem, if_true, if_false, reduceIte, Nat.reduceEqDiff, Nat.reduceAdd, Nat.reduceLT, Nat.reduceLeDiff, reduceCtorEq, succ_wrap hxw (Nat.le_trans (Nat.le_of_lt_succ (show w < 641 by omega)) (by decide))]
                refine hK _ _ ⟨⟨x + 1, hxw⟩, by simp only []; omega, ?_⟩
                simp only [shRow_succ, hcc, ← List.append_assoc, apV_snoc, wbR_snoc]
                refine Ent.ren [0, 3] rfl (by decide) ?_ ?_ (fun id ri e => by cases e) <;> simp [go_sem, if_true, if_false, reduceIte, Nat.reduceEqDiff, Nat.reduceAdd, Nat.reduceLT, Nat.reduceLeDiff, reduceCtorEq, subT, subH, sg, SV.ren, Row.ren, nums_ren, shL_length, shRow_length]
              · have hcc : (if p.getD (y * w + x) 0 = 0 then (46 : Int) else 35) = 46 := by
                  rw [if_pos ((getD_bits hbits (y * w + x)).resolve_right (by simpa using hb3))]
                repeat refine IW.seq ?_
                refine IW.region_seq tab_ok [some 29, some 30, some 31, some 3] rfl fun X K hX hK => ?_
                simp only [go_sem, if_true, if_false, reduceIte, Nat.reduceEqDiff, Nat.reduceAdd, Nat.reduceLT, Nat.reduceLeDiff, reduceCtorEq]
                refine hX.quiet _ _ (OpG.of_B rfl (opB_buildSlice tab_ok rfl (by simp [go_sem, if_true, if_false, reduceIte, Nat.reduceEqDiff, Nat.reduceAdd, Nat.reduceLT, Nat.reduceLeDiff, reduceCtorEq]) (by simp [go_sem, if_true, if_false, reduceIte, Nat.reduceEqDiff, Nat.reduceAdd, Nat.reduceLT, Nat.reduceLeDiff, reduceCtorEq]) (by simp) (by simp [go_sem, if_true, if_false, reduceIte, Nat.reduceEqDiff, Nat.reduceAdd, Nat.reduceLT, Nat.reduceLeDiff, reduceCtorEq, bsO, List.map_cons, List.map_nil]))) ?_
                simp only [go_sem, if_true, if_false, reduceIte, Nat.reduceEqDiff, Nat.reduceAdd, Nat.reduceLT, Nat.reduceLeDiff, reduceCtorEq, List.map_cons, List.map_nil]
                refine push (c := 46) (bs := shL w p y ++ shRow w p y x) hX (by simp [go_sem, if_true, if_false, reduceIte, Nat.reduceEqDiff, Nat.reduceAdd, Nat.reduceLT, Nat.reduceLeDiff, reduceCtorEq]) (by simp [go_sem, if_true, if_false, reduceIte, Nat.reduceEqDiff, Nat.reduceAdd, Nat.reduceLT, Nat.reduceLeDiff, reduceCtorEq]) hbl (by intro d e; cases e; decide) ?_
                simp only [go_sem, if_true, if_false, reduceIte, Nat.reduceEqDiff, Nat.reduceAdd, Nat.reduceLT, Nat.reduceLeDiff, reduceCtorEq]
                refine hK _ _ ?_; clear hX hK X K
                show IW _ _ _ _ _ _ _ _
                repeat refine IW.seq ?_
                refine IW.region_seq tab_ok [some 19, some 20, some 5] rfl fun X K hX hK => ?_
                simp only [go_sem, if_true, if_false, reduceIte, Nat.reduceEqDiff, Nat.reduceAdd, Nat.reduceLT, Nat.reduceLeDiff, reduceCtorEq, succ_wrap hxw (Nat.le_trans (Nat.le_of_lt_succ (show w < 641 by omega)) (by decide))]
                refine hK _ _ ⟨⟨x + 1, hxw⟩, by simp only []; omega, ?_⟩
                simp only [shRow_succ, hcc, ← List.append_assoc, apV_snoc, wbR_snoc]
                refine Ent.ren [0, 3] rfl (by decide) ?_ ?_ (fun id ri e => by cases e) <;> simp [go_sem, if_true, if_false, reduceIte, Nat.reduceEqDiff, Nat.reduceAdd, Nat.reduceLT, Nat.reduceLeDiff, reduceCtorEq, subT, subH, sg, SV.ren, Row.ren, nums_ren, shL_length, shRow_length]
            · refine IW.exit ?_
              show IW _ _ _ _ _ _ _ _
              simp only [decide_eq_false_iff_not] at hb2
              obtain rfl : x = w := by omega
              repeat refine IW.seq ?_
              refine IW.region_seq tab_ok [some 32, some 33, some 34, some 3] rfl fun X K hX hK => ?_
              simp only [go_sem, if_true, if_false, reduceIte, Nat.reduceEqDiff, Nat.reduceAdd, Nat.reduceLT, Nat.reduceLeDiff, reduceCtorEq]
              refine hX.quiet _ _ (OpG.of_B rfl (opB_buildSlice tab_ok rfl (by simp [go_sem, if_true, if_false, reduceIte, Nat.reduceEqDiff, Nat.reduceAdd, Nat.reduceLT, Nat.reduceLeDiff, reduceCtorEq]) (by simp [go_sem, if_true, if_false, reduceIte, Nat.reduceEqDiff, Nat.reduceAdd, Nat.reduceLT, Nat.reduceLeDiff, reduceCtorEq]) (by simp) (by simp [go_sem, if_true, if_false, reduceIte, Nat.reduceEqDiff, Nat.reduceAdd, Nat.reduceLT, Nat.reduceLeDiff, reduceCtorEq, bsO, List.map_cons, List.map_nil]))) ?_
              simp only [go_sem, if_true, if_false, reduceIte, Nat.reduceEqDiff, Nat.reduceAdd, Nat.reduceLT, Nat.reduceLeDiff, reduceCtorEq, List.map_cons, List.map_nil]
              refine push (c := 10) (bs := shL x p y ++ shRow x p y x) hX (by simp [go_sem, if_true, if_false, reduceIte, Nat.reduceEqDiff, Nat.reduceAdd, Nat.reduceLT, Nat.reduceLeDiff, reduceCtorEq]) (by simp [go_sem, if_true, if_false, reduceIte, Nat.reduceEqDiff, Nat.reduceAdd, Nat.reduceLT, Nat.reduceLeDiff, reduceCtorEq]) hbl (by intro d e; cases e; decide) ?_
              simp only [go_sem, if_true, if_false, reduceIte, Nat.reduceEqDiff, Nat.reduceAdd, Nat.reduceLT, Nat.reduceLeDiff, reduceCtorEq]
              refine hK _ _ ?_; clear hX hK X K
              show IW _ _ _ _ _ _ _ _
              repeat refine IW.seq ?_
              refine IW.region_seq tab_ok [some 13, some 14, some 4] rfl fun X K hX hK => ?_
              simp only [go_sem, if_true, if_false, reduceIte, Nat.reduceEqDiff, Nat.reduceAdd, Nat.reduceLT, Nat.reduceLeDiff, reduceCtorEq, succ_wrap hyh (Nat.le_trans (Nat.le_of_lt_succ (show h < 641 by omega)) (by decide))]
              refine hK _ _ ⟨⟨y + 1, hyh⟩, by simp only []; omega, ?_⟩
              simp only [shL_succ, apV_snoc, wbR_snoc]
              refine Ent.ren [0, 3] rfl (by decide) ?_ ?_ (fun id ri e => by cases e) <;> simp [go_sem, if_true, if_false, reduceIte, Nat.reduceEqDiff, Nat.reduceAdd, Nat.reduceLT, Nat.reduceLeDiff, reduceCtorEq, subT, subH, sg, SV.ren, Row.ren, nums_ren, shL_length, shRow_length]
        · refine IW.exit ?_
          show IW _ _ _ _ _ _ _ _
          simp only [decide_eq_false_iff_not] at hb1
          obtain rfl : y = h := by omega
          cases hbs : shL w p y with
          | nil =>
            simp only [apV, wbR]
            repeat refine IW.seq ?_
            refine IW.region_seq tab_ok [some 35, some 36, some 2] rfl fun X K hX hK => ?_
            simp only [go_sem, if_true, if_false, reduceIte, Nat.reduceEqDiff, Nat.reduceAdd, Nat.reduceLT, Nat.reduceLeDiff, reduceCtorEq]
            refine hX.quiet _ _ (OpG.of_B rfl (opB_nilStr tab_ok (by simp [go_sem, if_true, if_false, reduceIte, Nat.reduceEqDiff, Nat.reduceAdd, Nat.reduceLT, Nat.reduceLeDiff, reduceCtorEq]) rfl rfl rfl)) ?_
            simp only [go_sem, if_true, if_false, reduceIte, Nat.reduceEqDiff, Nat.reduceAdd, Nat.reduceLT, Nat.reduceLeDiff, reduceCtorEq]
            refine hK _ _ ?_; clear hX hK X K
            show IW _ _ _ _ _ _ _ _
            refine IW.ret (Fin.scal rfl rfl ?_)
            rfl
          | cons b bs =>
            simp only [apV, wbR]
            repeat refine IW.seq ?_
            refine IW.region_seq tab_ok [some 35, some 36, some 2] rfl fun X K hX hK => ?_
            simp only [go_sem, if_true, if_false, reduceIte, Nat.reduceEqDiff, Nat.reduceAdd, Nat.reduceLT, Nat.reduceLeDiff, reduceCtorEq]
            refine hX.quiet _ _ (OpG.of_B rfl (opB_bytesStr tab_ok (xs := b :: bs) (by simp only [go_sem, if_true, if_false, reduceIte, Nat.reduceEqDiff, Nat.reduceAdd, Nat.reduceLT, Nat.reduceLeDiff, reduceCtorEq]; simp [nums, List.take_of_length_le]) (by simp) rfl rfl rfl)) ?_
            simp only [go_sem, if_true, if_false, reduceIte, Nat.reduceEqDiff, Nat.reduceAdd, Nat.reduceLT, Nat.reduceLeDiff, reduceCtorEq]
            refine hK _ _ ?_; clear hX hK X K
            show IW _ _ _ _ _ _ _ _
            refine IW.ret (Fin.scal rfl rfl ?_)
            rfl
end Go.Proofs.Ytnbpbehlemaeoaa

set_option linter.unusedVariables false
set_option linter.unusedSimpArgs false
set_option maxRecDepth 10000
namespace Go.Proofs.Ytnbpbehlemaeoaa
open Go.IL
def rectV (X Y RW RH : Int) : SV := .agg [.int .i64 X, .int .i64 Y, .int .i64 RW, .int .i64 RH]
def winOk (W H : Int) (p : List Int) (RW RH : Int) : Bool := rightS W H p && decide (0 ≤ RW ∧ 0 ≤ RH ∧ RW ≤ 640 ∧ RH ≤ 640)
def winP (w h rw : Nat) (X Y : Int) (p : List Int) (t : Nat) : Int := atF w h p (X + ((t % rw : Nat) : Int)) (Y + ((t / rw : Nat) : Int))
def winG (w h rw : Nat) (X Y : Int) (p : List Int) (pre : List (Int × Int)) (t : Nat) : Int := if (X + ((t % rw : Nat) : Int), Y + ((t / rw : Nat) : Int)) ∈ pre then winP w h rw X Y p t else 0
def winF (W H : Int) (p : List Int) (X Y RW RH : Int) : List Int := if winOk W H p RW RH then rm (RW.toNat * RH.toNat) (winP W.toNat H.toNat RW.toNat X Y p) else []
def winS (W H : Int) (p : List Int) (RW RH x : Int) : Int := if winOk W H p RW RH then x else 0
theorem win_shape {W H RW RH : Int} {p : List Int} : (!rightS W H p || decide (RW < 0) || decide (RH < 0) || decide (640 < RW) || decide (640 < RH)) = !winOk W H p RW RH := by
  unfold winOk
  cases rightS W H p <;> simp only [Bool.not_true, Bool.not_false, Bool.true_or, Bool.false_or, Bool.false_and, Bool.true_and]
  by_cases a : RW < 0 <;> by_cases b : RH < 0 <;> by_cases c : 640 < RW <;> by_cases d : 640 < RH <;> simp [a, b, c, d] <;> omega
theorem fWindow0 (w h rw rh : Nat) (X Y : Int) (p : List Int) (hr : rightS w h p = true) (hrw : rw ≤ 640) (hrh : rh ≤ 640) (hX : I64 X) (hY : I64 Y) (hl : p.length ≤ 1000000) :
    FSpec Try.prog 39 [ink w h p, rectV X Y rw rh] (resI rw rh (rm (rw * rh) (winP w h rw X Y p))) (resR (rm (rw * rh) (winP w h rw X Y p))) := by
  obtain ⟨hlen, h0, h1, h2, h3⟩ := right_len hr
  have hq : p.length = w * h := by exact_mod_cast hlen
  have hmul : rw * rh ≤ 640 * 640 := Nat.mul_le_mul hrw hrh
  have hblank := res_img (fBlank rw rh (by omega) (by omega) (by omega))
  simp only [imgW, imgH, imgP] at hblank
  have hok : winOk w h p rw rh = true := by simp only [winOk, hr, Bool.true_and, decide_eq_true_eq]; omega
  refine FSpec.intro tab_ok Try.func39 rfl rfl rfl (by kernel_rfl) (by simp) fun w0 => ?_
  simp only [argTM, Nat.zero_add, Nat.reduceAdd]
  simp only [ink, rectV]
  repeat refine IW.seq ?_
  refine IW.region_seq tab_ok [some 2, some 3, some 4] rfl fun X K hX hK => ?_
  simp only [go_sem, if_true, if_false, reduceIte, Nat.reduceEqDiff, Nat.reduceAdd, Nat.reduceLT, Nat.reduceLeDiff, reduceCtorEq]
  refine hK _ _ ?_; clear hX hK X K
  show IW _ _ _ _ _ _ _ _
  repeat refine IW.seq ?_
  refine IW.region_seq tab_ok [some 7, some 8, some 9, some 10, some 11, some 12, some 13, some 14, some 15, some 16, some 17, some 18, some 19, some 20, some 21, some 22, some 23, some 24, some 25, some 26, some 27, some 28, some 29] rfl fun X K hX hK => ?_
  simp only [go_sem, if_true, if_false, reduceIte, Nat.reduceEqDiff, Nat.reduceAdd, Nat.reduceLT, Nat.reduceLeDiff, reduceCtorEq]
  refine hX.quiet _ _ (OpG.of_B rfl (opB_call rfl rfl (FSpec.nz (fRight w h p hl) (by simp [go_sem, if_true, if_false, reduceIte, Nat.reduceEqDiff, Nat.reduceAdd, Nat.reduceLT, Nat.reduceLeDiff, reduceCtorEq, List.map_cons, List.map_nil, List.append_nil, opnd, unc])))) ?_
  simp only [go_sem, if_true, if_false, reduceIte, Nat.reduceEqDiff, Nat.reduceAdd, Nat.reduceLT, Nat.reduceLeDiff, reduceCtorEq]
  simp only [gt_iff_lt, win_shape, hok, Bool.not_true]
  refine hK _ _ ?_; clear hX hK X K
  show IW _ _ _ _ _ _ _ _
  repeat refine IW.seq ?_
  refine IW.cond rfl (fun hb => ?_) (fun hb => ?_)
  · simp at hb
  · refine IW.skip ?_
    show IW _ _ _ _ _ _ _ _
    repeat refine IW.seq ?_
    refine IW.region_seq tab_ok [some 31, some 32, some 33, some 34, some 35, some 5, none] rfl fun X K hX hK => ?_
    simp only [go_sem, if_true, if_false, reduceIte, Nat.reduceEqDiff, Nat.reduceAdd, Nat.reduceLT, Nat.reduceLeDiff, reduceCtorEq]
    refine hX.quiet _ _ (OpG.of_B rfl (opB_call rfl rfl (FSpec.nz (hblank) (by simp [go_sem, if_true, if_false, reduceIte, Nat.reduceEqDiff, Nat.reduceAdd, Nat.reduceLT, Nat.reduceLeDiff, reduceCtorEq, List.map_cons, List.map_nil, List.append_nil, opnd, unc, resI, resR])))) ?_
    simp only [go_sem, if_true, if_false, reduceIte, Nat.reduceEqDiff, Nat.reduceAdd, Nat.reduceLT, Nat.reduceLeDiff, reduceCtorEq, resI, resR]
    refine hX.op _ _ rfl (opS_store tab_ok rfl (by simp [go_sem, if_true, if_false, reduceIte, Nat.reduceEqDiff, Nat.reduceAdd, Nat.reduceLT, Nat.reduceLeDiff, reduceCtorEq]) (by simp [go_sem, if_true, if_false, reduceIte, Nat.reduceEqDiff, Nat.reduceAdd, Nat.reduceLT, Nat.reduceLeDiff, reduceCtorEq]) (by simp [go_sem, if_true, if_false, reduceIte, Nat.reduceEqDiff, Nat.reduceAdd, Nat.reduceLT, Nat.reduceLeDiff, reduceCtorEq]) (by simp [go_sem, if_true, if_false, reduceIte, Nat.reduceEqDiff, Nat.reduceAdd, Nat.reduceLT, Nat.reduceLeDiff, reduceCtorEq]) (by simp [go_sem, if_true, if_false, reduceIte, Nat.reduceEqDiff, Nat.reduceAdd, Nat.reduceLT, Nat.reduceLeDiff, reduceCtorEq]) (by simp [go_sem, if_true, if_false, reduceIte, Nat.reduceEqDiff, Nat.reduceAdd, Nat.reduceLT, Nat.reduceLeDiff, reduceCtorEq])) ?_
    simp only [go_sem, if_true, if_false, reduceIte, Nat.reduceEqDiff, Nat.reduceAdd, Nat.reduceLT, Nat.reduceLeDiff, reduceCtorEq]
    refine hK _ _ ?_; clear hX hK X K
    show IW _ _ _ _ _ _ _ _
    repeat refine IW.seq ?_
    refine IW.region_seq tab_ok [some 36, some 37, some 38, some 39] rfl fun X K hX hK => ?_
    simp only [go_sem, if_true, if_false, reduceIte, Nat.reduceEqDiff, Nat.reduceAdd, Nat.reduceLT, Nat.reduceLeDiff, reduceCtorEq]
    refine hX.quiet _ _ (OpG.of_B rfl (opPoints rfl (isSlc_sl _ _) rfl)) ?_
    simp only [go_sem, if_true, if_false, reduceIte, Nat.reduceEqDiff, Nat.reduceAdd, Nat.reduceLT, Nat.reduceLeDiff, reduceCtorEq]
    refine hK _ _ ?_; clear hX hK X K
    show IW _ _ _ _ _ _ _ _
    repeat refine IW.seq ?_
    refine IW.block ?_
    obtain ⟨n, hn⟩ : ∃ n, n = rw * rh := ⟨_, rfl⟩
    rw [← hn]
    obtain ⟨HH, hHH⟩ : ∃ HH : List (Int × Int) → Heap, HH = fun pre => [some ⟨3, 33, [[.int .i64 w, .int .i64 h, .sl true (nums .u8 p)]]⟩, some ⟨4, 56, [[.int .i64 X, .int .i64 Y, .int .i64 rw, .int .i64 rh]]⟩, some ⟨3, 33, [[.int .i64 0, .int .i64 0, .nils]]⟩, some ⟨1, 5, nums .u8 (rm n (winG w h rw X Y p pre))⟩,
      some ⟨3, 33, [[.int .i64 rw, .int .i64 rh, lsV 3 n]]⟩, some ⟨3, 90, [[.int .i64 w, .int .i64 h, .any]]⟩, some ⟨4, 56, [[.int .i64 X, .int .i64 Y, .int .i64 rw, .int .i64 rh]]⟩] := ⟨_, rfl⟩
    have hIw : I64 rw := by unfold I64; omega
    have hIh : I64 rh := by unfold I64; omega
    refine IW.ent (tm' := [(39, .clo 80 [.ptr 5 0 0, .ptr 6 0 0]), (2, .ptr 0 0 0), (3, .ptr 1 0 0), (4, .ptr 2 0 0), (5, .ptr 4 0 0)]) (h' := HH []) (Ent.cut ?_ ?_) ?_
    · rw [hHH]; simp only [go_sem, if_true, if_false, reduceIte, Nat.reduceEqDiff, Nat.reduceAdd, Nat.reduceLT, Nat.reduceLeDiff, reduceCtorEq]
    · have : rm n (winG w h rw X Y p []) = List.replicate n 0 := by
        rw [List.eq_replicate_iff]
        refine ⟨rm_length _ _, fun b hb => ?_⟩
        simp only [rm, List.mem_map] at hb
        obtain ⟨t, _, rfl⟩ := hb
        simp [winG]
      rw [hHH]; simp only [go_sem, if_true, if_false, reduceIte, Nat.reduceEqDiff, Nat.reduceAdd, Nat.reduceLT, Nat.reduceLeDiff, reduceCtorEq, this, List.length_replicate]
    refine IW.rangeFunc (capsC := [.ptr 0 0 0, .ptr 1 0 0]) (rowsC := [⟨3, 90, [[.int .i64 w, .int .i64 h, .any]]⟩, ⟨4, 56, [[.int .i64 X, .int .i64 Y, .int .i64 rw, .int .i64 rh]]⟩]) [5, 6] (fun x : Int × Int => .agg [.int .i64 x.1, .int .i64 x.2]) ptV HH (fun ys => ys = ptRows w X Y rw rh h) rfl (by decide) rfl (fun t => nomapT_get t rfl) (fun pre => by rw [hHH]; simp only [go_sem, if_true, if_false, reduceIte, Nat.reduceEqDiff, Nat.reduceAdd, Nat.reduceLT, Nat.reduceLeDiff, reduceCtorEq]) rfl (fun pre => by rw [hHH]; exact Nat.le_refl _) (fun x ρ O F w => ptV_rel x ρ O F w) (by decide) rfl (by rw [hHH]; rfl) rfl (fun pre i r e => ?_) (fPoints w h X Y rw rh (by omega) (by omega) hX hY hIw hIh) (fun c k pre x hpx hc => ?_) (fun ys hys => ?_)
    · rw [hHH]
      match i, e with
      | 0, e => cases e; exact ⟨_, rfl, rfl⟩
      | 1, e => cases e; exact ⟨_, rfl, rfl⟩
      | i + 2, e => simp at e
    · obtain ⟨x, y, hx, hy, rfl, hix, hiy⟩ := mem_ptRows (mem_ext hpx)
      have hlen9 : (HH []).length = 7 := by rw [hHH]; rfl
      rw [hlen9] at hc
      have hHp : HH pre = _ := congrFun hHH pre
      rw [hHp]
      simp only [insF, decide_eq_true_eq] at hix hiy
      obtain ⟨dx, hdx⟩ : ∃ dx : Nat, (x : Int) - X = dx := ⟨((x : Int) - X).toNat, by omega⟩
      obtain ⟨dy, hdy⟩ : ∃ dy : Nat, (y : Int) - Y = dy := ⟨((y : Int) - Y).toNat, by omega⟩
      have hdx2 : dx < rw := by omega
      have hdy2 : dy < rh := by omega
      obtain ⟨w1, w2, w3⟩ := wrap_cell hx hy hq (by omega)
      obtain ⟨v1, v2, v3⟩ := wrap_cell hdx2 hdy2 hn (by omega)
      unfold I64 at hX hY
      have f1 : IntKind.i64.wrap ((y : Int) - Y) = (dy : Int) := (wrap_eq (by omega) (by omega)).trans hdy
      have f3 : IntKind.i64.wrap (((dy * rw : Nat) : Int) + (x : Int)) = ((dy * rw + x : Nat) : Int) := (wrap_eq (by omega) (by omega)).trans (by omega)
      have f4 : IntKind.i64.wrap (((dy * rw + x : Nat) : Int) - X) = ((dy * rw + dx : Nat) : Int) := (wrap_eq (by omega) (by omega)).trans (by omega)
      have hat0 := nums_at (k := .u8) (xs := p) (i := y * w + x) w3
      have hne := lsV_ne (id := 3) (n := n) (by omega)
      have hat := nums_at (k := .u8) (xs := rm n (winG w h rw X Y p pre)) (i := dy * rw + dx) (by rw [rm_length]; exact v3)
      repeat refine IWR.seq ?_
      refine IWR.region_seq tab_ok [some 6, none] rfl (by kernel_rfl) fun X K hX hK => ?_
      simp only [go_sem, if_true, if_false, reduceIte, Nat.reduceEqDiff, Nat.reduceAdd, Nat.reduceLT, Nat.reduceLeDiff, reduceCtorEq]
      refine hX.op _ _ rfl (opS_store tab_ok rfl (by simp [go_sem, if_true, if_false, reduceIte, Nat.reduceEqDiff, Nat.reduceAdd, Nat.reduceLT, Nat.reduceLeDiff, reduceCtorEq]) (by simp [go_sem, if_true, if_false, reduceIte, Nat.reduceEqDiff, Nat.reduceAdd, Nat.reduceLT, Nat.reduceLeDiff, reduceCtorEq]) (by simp [go_sem, if_true, if_false, reduceIte, Nat.reduceEqDiff, Nat.reduceAdd, Nat.reduceLT, Nat.reduceLeDiff, reduceCtorEq]) (by simp [go_sem, if_true, if_false, reduceIte, Nat.reduceEqDiff, Nat.reduceAdd, Nat.reduceLT, Nat.reduceLeDiff, reduceCtorEq]) (by simp [go_sem, if_true, if_false, reduceIte, Nat.reduceEqDiff, Nat.reduceAdd, Nat.reduceLT, Nat.reduceLeDiff, reduceCtorEq]) (by simp [go_sem, if_true, if_false, reduceIte, Nat.reduceEqDiff, Nat.reduceAdd, Nat.reduceLT, Nat.reduceLeDiff, reduceCtorEq])) ?_
      simp only [go_sem, if_true, if_false, reduceIte, Nat.reduceEqDiff, Nat.reduceAdd, Nat.reduceLT, Nat.reduceLeDiff, reduceCtorEq]
      refine hK _ _ fun c2 hc2 => ?_
      clear hX hK X K
      rw [hlen9] at hc2
      show IWR _ _ _ _ _ _ _ _ _ _
      repeat refine IWR.seq ?_
      refine IWR.block ?_
      rw [hne]
      repeat refine IWR.seq ?_
      refine IWR.region_draw tab_ok mixed [some 41, some 42, some 43, some 44, some 45, some 46, some 47, some 48, some 49, some 50, some 51, some 52, some 53, some 54, some 55, some 56, some 57, some 58, some 59, some 60, some 61, some 62, some 63, some 64, some 65, some 66, some 67, some 68, some 69, none] 29 (by kernel_rfl) rfl (by kernel_rfl) fun Xq Xs K hXq hXs hK K1 hK1 => ?_
      simp only [go_sem, if_true, if_false, reduceIte, Nat.reduceEqDiff, Nat.reduceAdd, Nat.reduceLT, Nat.reduceLeDiff, reduceCtorEq, f1, f3, f4, v1, w1, w2, hat0]
      refine ⟨⟨by omega, by omega⟩, ⟨by omega, by omega⟩, ?_⟩
      refine hK1 _ _ ?_; clear hXq hK1 K1 Xq
      simp only [List.drop_zero, List.drop_succ_cons, go_sem, if_true, if_false, reduceIte, Nat.reduceEqDiff, Nat.reduceAdd, Nat.reduceLT, Nat.reduceLeDiff, reduceCtorEq]
      refine hXs.op _ _ rfl (opS_store tab_ok rfl (by simp [go_sem, if_true, if_false, reduceIte, Nat.reduceEqDiff, Nat.reduceAdd, Nat.reduceLT, Nat.reduceLeDiff, reduceCtorEq]) (by simp [go_sem, if_true, if_false, reduceIte, Nat.reduceEqDiff, Nat.reduceAdd, Nat.reduceLT, Nat.reduceLeDiff, reduceCtorEq]) (by simp [go_sem, if_true, if_false, reduceIte, Nat.reduceEqDiff, Nat.reduceAdd, Nat.reduceLT, Nat.reduceLeDiff, reduceCtorEq]) (by simp [go_sem, if_true, if_false, reduceIte, Nat.reduceEqDiff, Nat.reduceAdd, Nat.reduceLT, Nat.reduceLeDiff, reduceCtorEq, v3, hat]) (by simp [go_sem, if_true, if_false, reduceIte, Nat.reduceEqDiff, Nat.reduceAdd, Nat.reduceLT, Nat.reduceLeDiff, reduceCtorEq]) (by simp [go_sem, if_true, if_false, reduceIte, Nat.reduceEqDiff, Nat.reduceAdd, Nat.reduceLT, Nat.reduceLeDiff, reduceCtorEq])) ?_
      simp only [go_sem, if_true, if_false, reduceIte, Nat.reduceEqDiff, Nat.reduceAdd, Nat.reduceLT, Nat.reduceLeDiff, reduceCtorEq, v3, hat]
      refine hK _ _ fun c3 hc3 => ?_
      obtain ⟨hdv, hmd⟩ := (cell_eq hdx2).1 (rfl : dy * rw + dx = dy * rw + dx)
      have hself : winG w h rw X Y p (pre ++ [((x : Int), (y : Int))]) (dy * rw + dx) = p.getD (y * w + x) 0 := by
        have e1 : X + (dx : Int) = (x : Int) := by omega
        have e2 : Y + (dy : Int) = (y : Int) := by omega
        simp only [winG, winP, hdv, hmd, e1, e2, List.mem_append, List.mem_singleton, or_true, if_true]
        rw [atF, if_neg (by omega)]
        simp only [Int.toNat_natCast]
      have hstep : ∀ t, t < n → t ≠ dy * rw + dx → winG w h rw X Y p (pre ++ [((x : Int), (y : Int))]) t = winG w h rw X Y p pre t := fun t _ ht => by
        have h4 : ¬ (t / rw = dy ∧ t % rw = dx) := fun h => ht ((cell_eq hdx2).2 h)
        have h5 : ¬ ((X + ((t % rw : Nat) : Int), Y + ((t / rw : Nat) : Int)) = ((x : Int), (y : Int))) := fun h => by
          have a1 := (Prod.mk.inj h).1
          have a2 := (Prod.mk.inj h).2
          generalize t / rw = q1 at *
          generalize t % rw = r1 at *
          exact h4 ⟨by omega, by omega⟩
        simp only [winG, List.mem_append, List.mem_singleton, h5, or_false]
      refine Ent.cut ?_ ?_ (fun id ri e => by have := hc3 id ri e; rw [hHH] at this ⊢; exact this)
      · rw [hHH]; trivial
      · have : rm n (fun t => if t = dy * rw + dx then p.getD (y * w + x) 0 else winG w h rw X Y p pre t) = rm n (winG w h rw X Y p (pre ++ [((x : Int), (y : Int))])) := rm_congr fun t ht => by
          by_cases c : t = dy * rw + dx
          · rw [if_pos c, c, hself]
          · rw [if_neg c, hstep t ht c]
        rw [hHH]
        simp only [go_sem, if_true, if_false, reduceIte, Nat.reduceEqDiff, Nat.reduceAdd, Nat.reduceLT, Nat.reduceLeDiff, reduceCtorEq, rm_set, this, hne]
    · subst hys
      have hfin : rm n (winG w h rw X Y p (ptRows w X Y rw rh h)) = rm n (winP w h rw X Y p) := rm_congr fun t ht => by
        have hw0 : 0 < rw := by
          rcases Nat.eq_zero_or_pos rw with h0 | h0
          · rw [h0, Nat.zero_mul] at hn; omega
          · exact h0
        have h1 := Nat.mod_lt t hw0
        have h2 : t / rw < rh := Nat.div_lt_of_lt_mul (by rw [← hn]; exact ht)
        unfold winG winP
        generalize t / rw = q1 at *
        generalize t % rw = r1 at *
        split
        · rfl
        · rename_i hni
          rw [atF]
          split
          · rfl
          · exfalso
            apply hni
            obtain ⟨x, hx⟩ : ∃ x : Nat, X + (r1 : Int) = x := ⟨(X + (r1 : Int)).toNat, by omega⟩
            obtain ⟨y, hy⟩ : ∃ y : Nat, Y + (q1 : Int) = y := ⟨(Y + (q1 : Int)).toNat, by omega⟩
            rw [hx, hy]
            exact in_ptRows (by omega) (by omega) (by simp only [insF, decide_eq_true_eq]; omega) (by simp only [insF, decide_eq_true_eq]; omega)
      rw [hHH]
      simp only []
      rw [hfin]
      have hfl : n = (rm n (winP w h rw X Y p)).length := by rw [rm_length]
      show IW _ _ _ _ _ _ _ _
      repeat refine IW.seq ?_
      refine IW.region_seq tab_ok [some 70, none] rfl fun X K hX hK => ?_
      simp only [go_sem, if_true, if_false, reduceIte, Nat.reduceEqDiff, Nat.reduceAdd, Nat.reduceLT, Nat.reduceLeDiff, reduceCtorEq]
      refine hX.op _ _ rfl (opS_store tab_ok rfl (by simp [go_sem, if_true, if_false, reduceIte, Nat.reduceEqDiff, Nat.reduceAdd, Nat.reduceLT, Nat.reduceLeDiff, reduceCtorEq]) (by simp [go_sem, if_true, if_false, reduceIte, Nat.reduceEqDiff, Nat.reduceAdd, Nat.reduceLT, Nat.reduceLeDiff, reduceCtorEq]) (by simp [go_sem, if_true, if_false, reduceIte, Nat.reduceEqDiff, Nat.reduceAdd, Nat.reduceLT, Nat.reduceLeDiff, reduceCtorEq]) (by simp [go_sem, if_true, if_false, reduceIte, Nat.reduceEqDiff, Nat.reduceAdd, Nat.reduceLT, Nat.reduceLeDiff, reduceCtorEq]) (by simp [go_sem, if_true, if_false, reduceIte, Nat.reduceEqDiff, Nat.reduceAdd, Nat.reduceLT, Nat.reduceLeDiff, reduceCtorEq]) (by simp [go_sem, if_true, if_false, reduceIte, Nat.reduceEqDiff, Nat.reduceAdd, Nat.reduceLT, Nat.reduceLeDiff, reduceCtorEq])) ?_
      simp only [go_sem, if_true, if_false, reduceIte, Nat.reduceEqDiff, Nat.reduceAdd, Nat.reduceLT, Nat.reduceLeDiff, reduceCtorEq]
      refine hK _ _ ?_; clear hX hK X K
      show IW _ _ _ _ _ _ _ _
      have hfl2 : lsV 3 n = lsV 3 (rm n (winP w h rw X Y p)).length := by rw [rm_length]
      rw [hfl2]
      refine IW.ret (Fin.cell1 3 ⟨trivial, by simp [go_sem, if_true, if_false, reduceIte, Nat.reduceEqDiff, Nat.reduceAdd, Nat.reduceLT, Nat.reduceLeDiff, reduceCtorEq]⟩ (by simp [go_sem, if_true, if_false, reduceIte, Nat.reduceEqDiff, Nat.reduceAdd, Nat.reduceLT, Nat.reduceLeDiff, reduceCtorEq, resI]) (by simp [go_sem, if_true, if_false, reduceIte, Nat.reduceEqDiff, Nat.reduceAdd, Nat.reduceLT, Nat.reduceLeDiff, reduceCtorEq]) (by simp [go_sem, if_true, if_false, reduceIte, Nat.reduceEqDiff, Nat.reduceAdd, Nat.reduceLT, Nat.reduceLeDiff, reduceCtorEq, resI]) (by simp [go_sem, if_true, if_false, reduceIte, Nat.reduceEqDiff, Nat.reduceAdd, Nat.reduceLT, Nat.reduceLeDiff, reduceCtorEq]))
theorem win_of {W H RW RH : Int} {p : List Int} (h : winOk W H p RW RH = true) : rightS W H p = true ∧ 0 ≤ RW ∧ 0 ≤ RH ∧ RW ≤ 640 ∧ RH ≤ 640 := by
  simpa [winOk] using h
theorem fWindow (W H : Int) (p : List Int) (X Y RW RH : Int) (hX : I64 X) (hY : I64 Y) (hl : p.length ≤ 1000000) :
    FSpec Try.prog 39 [ink W H p, rectV X Y RW RH] (resI (winS W H p RW RH RW) (winS W H p RW RH RH) (winF W H p X Y RW RH)) (resR (winF W H p X Y RW RH)) := by
  by_cases hok : winOk W H p RW RH = true
  case neg =>
    have e1 : winF W H p X Y RW RH = [] := by simp [winF, hok]
    have e2 : winS W H p RW RH RW = 0 := by simp [winS, hok]
    have e3 : winS W H p RW RH RH = 0 := by simp [winS, hok]
    rw [Bool.not_eq_true] at hok
    rw [e1, e2, e3]
    refine res_nil ?_
    refine FSpec.intro tab_ok Try.func39 rfl rfl rfl (by kernel_rfl) (by simp) fun w0 => ?_
    simp only [argTM, Nat.zero_add, Nat.reduceAdd]
    simp only [ink, rectV]
    repeat refine IW.seq ?_
    refine IW.region_seq tab_ok [some 2, some 3, some 4] rfl fun X K hX hK => ?_
    simp only [go_sem, if_true, if_false, reduceIte, Nat.reduceEqDiff, Nat.reduceAdd, Nat.reduceLT, Nat.reduceLeDiff, reduceCtorEq]
    refine hK _ _ ?_; clear hX hK X K
    show IW _ _ _ _ _ _ _ _
    repeat refine IW.seq ?_
    refine IW.region_seq tab_ok [some 7, some 8, some 9, some 10, some 11, some 12, some 13, some 14, some 15, some 16, some 17, some 18, some 19, some 20, some 21, some 22, some 23, some 24, some 25, some 26, some 27, some 28, some 29] rfl fun X K hX hK => ?_
    simp only [go_sem, if_true, if_false, reduceIte, Nat.reduceEqDiff, Nat.reduceAdd, Nat.reduceLT, Nat.reduceLeDiff, reduceCtorEq]
    refine hX.quiet _ _ (OpG.of_B rfl (opB_call rfl rfl (FSpec.nz (fRight W H p hl) (by simp [go_sem, if_true, if_false, reduceIte, Nat.reduceEqDiff, Nat.reduceAdd, Nat.reduceLT, Nat.reduceLeDiff, reduceCtorEq, List.map_cons, List.map_nil, List.append_nil, opnd, unc])))) ?_
    simp only [go_sem, if_true, if_false, reduceIte, Nat.reduceEqDiff, Nat.reduceAdd, Nat.reduceLT, Nat.reduceLeDiff, reduceCtorEq]
    simp only [gt_iff_lt, win_shape, hok, Bool.not_false]
    refine hK _ _ ?_; clear hX hK X K
    show IW _ _ _ _ _ _ _ _
    repeat refine IW.seq ?_
    refine IW.cond rfl (fun hb => ?_) (fun hb => ?_)
    · repeat refine IW.seq ?_
      refine IW.region_seq tab_ok [some 30, none] rfl fun X K hX hK => ?_
      simp only [go_sem, if_true, if_false, reduceIte, Nat.reduceEqDiff, Nat.reduceAdd, Nat.reduceLT, Nat.reduceLeDiff, reduceCtorEq]
      refine hX.op _ _ rfl (opS_store tab_ok rfl (by simp [go_sem, if_true, if_false, reduceIte, Nat.reduceEqDiff, Nat.reduceAdd, Nat.reduceLT, Nat.reduceLeDiff, reduceCtorEq]) (by simp [go_sem, if_true, if_false, reduceIte, Nat.reduceEqDiff, Nat.reduceAdd, Nat.reduceLT, Nat.reduceLeDiff, reduceCtorEq]) (by simp [go_sem, if_true, if_false, reduceIte, Nat.reduceEqDiff, Nat.reduceAdd, Nat.reduceLT, Nat.reduceLeDiff, reduceCtorEq]) (by simp [go_sem, if_true, if_false, reduceIte, Nat.reduceEqDiff, Nat.reduceAdd, Nat.reduceLT, Nat.reduceLeDiff, reduceCtorEq]) (by simp [go_sem, if_true, if_false, reduceIte, Nat.reduceEqDiff, Nat.reduceAdd, Nat.reduceLT, Nat.reduceLeDiff, reduceCtorEq]) (by simp [go_sem, if_true, if_false, reduceIte, Nat.reduceEqDiff, Nat.reduceAdd, Nat.reduceLT, Nat.reduceLeDiff, reduceCtorEq])) ?_
      simp only [go_sem, if_true, if_false, reduceIte, Nat.reduceEqDiff, Nat.reduceAdd, Nat.reduceLT, Nat.reduceLeDiff, reduceCtorEq]
      refine hK _ _ ?_; clear hX hK X K
      show IW _ _ _ _ _ _ _ _
      refine IW.ret (Fin.cell ⟨trivial, by simp [go_sem, if_true, if_false, reduceIte, Nat.reduceEqDiff, Nat.reduceAdd, Nat.reduceLT, Nat.reduceLeDiff, reduceCtorEq]⟩ rfl rfl ?_)
      simp [go_sem, if_true, if_false, reduceIte, Nat.reduceEqDiff, Nat.reduceAdd, Nat.reduceLT, Nat.reduceLeDiff, reduceCtorEq]
    · simp at hb
  case pos =>
    obtain ⟨hr, a1, a2, a3, a4⟩ := win_of hok
    obtain ⟨hlen, h0, h1, h2, h3⟩ := right_len hr
    obtain ⟨w, rfl⟩ : ∃ w : Nat, W = w := ⟨W.toNat, by omega⟩
    obtain ⟨h, rfl⟩ : ∃ h : Nat, H = h := ⟨H.toNat, by omega⟩
    obtain ⟨rw', rfl⟩ : ∃ w : Nat, RW = w := ⟨RW.toNat, by omega⟩
    obtain ⟨rh, rfl⟩ : ∃ w : Nat, RH = w := ⟨RH.toNat, by omega⟩
    have := fWindow0 w h rw' rh X Y p hr (by omega) (by omega) hX hY hl
    simpa only [winF, winS, hok, if_true, Int.toNat_natCast] using this
theorem refWindow0 (w h rw rh : Nat) (X Y : Int) (p : List Int) (hr : rightS w h p = true) (hrw : rw ≤ 640) (hrh : rh ≤ 640) (hl : p.length ≤ 1000000) :
    FSpec Try.prog 40 [ink w h p, rectV X Y rw rh] (resI rw rh (rm (rw * rh) (winP w h rw X Y p))) (resR (rm (rw * rh) (winP w h rw X Y p))) := by
  obtain ⟨hlen, h0, h1, h2, h3⟩ := right_len hr
  have hq : p.length = w * h := by exact_mod_cast hlen
  have hmul : rw * rh ≤ 640 * 640 := Nat.mul_le_mul hrw hrh
  have hblank := refBlank rw rh (by omega) (by omega) (by omega)
  simp only [imgSV, imgRows] at hblank
  have hok : winOk w h p rw rh = true := by simp only [winOk, hr, Bool.true_and, decide_eq_true_eq]; omega
  have hfar : (decide (X < -1000) || decide (Y < -1000) || decide (1000 < X) || decide (1000 < Y)) = true → ∀ t, t < rw * rh → winP w h rw X Y p t = 0 := fun hf t ht => by
    have hw0 : 0 < rw := by
      rcases Nat.eq_zero_or_pos rw with h0 | h0
      · rw [h0, Nat.zero_mul] at ht; omega
      · exact h0
    have h5 := Nat.mod_lt t hw0
    have h6 : t / rw < rh := Nat.div_lt_of_lt_mul ht
    simp only [Bool.or_eq_true, decide_eq_true_eq] at hf
    unfold winP
    generalize t / rw = q1 at *
    generalize t % rw = r1 at *
    rw [atF, if_pos (by omega)]
  obtain ⟨n, hn⟩ : ∃ n, n = rw * rh := ⟨_, rfl⟩
  refine res_ref ?_
  rw [rm_length]
  refine FSpec.intro tab_ok Try.func40 rfl rfl rfl (by kernel_rfl) (by simp) fun w0 => ?_
  simp only [argTM, Nat.zero_add, Nat.reduceAdd]
  simp only [ink, rectV]
  repeat refine IW.seq ?_
  refine IW.region_seq tab_ok [some 2, some 3, some 4] rfl fun X K hX hK => ?_
  simp only [go_sem, if_true, if_false, reduceIte, Nat.reduceEqDiff, Nat.reduceAdd, Nat.reduceLT, Nat.reduceLeDiff, reduceCtorEq]
  refine hK _ _ ?_; clear hX hK X K
  show IW _ _ _ _ _ _ _ _
  repeat refine IW.seq ?_
  refine IW.region_seq tab_ok [some 8, some 9, some 10, some 11, some 12, some 13, some 14, some 15, some 16, some 17, some 18, some 19, some 20, some 21, some 22, some 23, some 24, some 25, some 26, some 27, some 28, some 29, some 30] rfl fun X K hX hK => ?_
  simp only [go_sem, if_true, if_false, reduceIte, Nat.reduceEqDiff, Nat.reduceAdd, Nat.reduceLT, Nat.reduceLeDiff, reduceCtorEq]
  refine hX.quiet _ _ (OpG.of_B rfl (opB_call rfl rfl (FSpec.nz (refRight w h p hl) (by simp [go_sem, if_true, if_false, reduceIte, Nat.reduceEqDiff, Nat.reduceAdd, Nat.reduceLT, Nat.reduceLeDiff, reduceCtorEq, List.map_cons, List.map_nil, List.append_nil, opnd, unc])))) ?_
  simp only [go_sem, if_true, if_false, reduceIte, Nat.reduceEqDiff, Nat.reduceAdd, Nat.reduceLT, Nat.reduceLeDiff, reduceCtorEq]
  simp only [gt_iff_lt, win_shape, hok, Bool.not_true]
  refine hK _ _ ?_; clear hX hK X K
  show IW _ _ _ _ _ _ _ _
  repeat refine IW.seq ?_
  refine IW.cond rfl (fun hb => ?_) (fun hb => ?_)
  · simp at hb
  · refine IW.skip ?_
    show IW _ _ _ _ _ _ _ _
    repeat refine IW.seq ?_
    refine IW.region_seq tab_ok [some 32, some 33, some 34, some 35, some 36, some 5, none] rfl fun X K hX hK => ?_
    simp only [go_sem, if_true, if_false, reduceIte, Nat.reduceEqDiff, Nat.reduceAdd, Nat.reduceLT, Nat.reduceLeDiff, reduceCtorEq]
    refine hX.quiet _ _ (OpG.of_B rfl (opB_call rfl rfl (FSpec.nz (hblank) (by simp [go_sem, if_true, if_false, reduceIte, Nat.reduceEqDiff, Nat.reduceAdd, Nat.reduceLT, Nat.reduceLeDiff, reduceCtorEq, List.map_cons, List.map_nil, List.append_nil, opnd, unc])))) ?_
    simp only [go_sem, if_true, if_false, reduceIte, Nat.reduceEqDiff, Nat.reduceAdd, Nat.reduceLT, Nat.reduceLeDiff, reduceCtorEq]
    refine hX.op _ _ rfl (opS_store tab_ok rfl (by simp [go_sem, if_true, if_false, reduceIte, Nat.reduceEqDiff, Nat.reduceAdd, Nat.reduceLT, Nat.reduceLeDiff, reduceCtorEq]) (by simp [go_sem, if_true, if_false, reduceIte, Nat.reduceEqDiff, Nat.reduceAdd, Nat.reduceLT, Nat.reduceLeDiff, reduceCtorEq]) (by simp [go_sem, if_true, if_false, reduceIte, Nat.reduceEqDiff, Nat.reduceAdd, Nat.reduceLT, Nat.reduceLeDiff, reduceCtorEq]) (by simp [go_sem, if_true, if_false, reduceIte, Nat.reduceEqDiff, Nat.reduceAdd, Nat.reduceLT, Nat.reduceLeDiff, reduceCtorEq]) (by simp [go_sem, if_true, if_false, reduceIte, Nat.reduceEqDiff, Nat.reduceAdd, Nat.reduceLT, Nat.reduceLeDiff, reduceCtorEq]) (by simp [go_sem, if_true, if_false, reduceIte, Nat.reduceEqDiff, Nat.reduceAdd, Nat.reduceLT, Nat.reduceLeDiff, reduceCtorEq])) ?_
    simp only [go_sem, if_true, if_false, reduceIte, Nat.reduceEqDiff, Nat.reduceAdd, Nat.reduceLT, Nat.reduceLeDiff, reduceCtorEq]
    refine hK _ _ ?_; clear hX hK X K
    show IW _ _ _ _ _ _ _ _
    repeat refine IW.seq ?_
    refine IW.region_seq tab_ok [some 37, some 38, some 39, some 40, some 41, some 42, some 43, some 44, some 45, some 46, some 47, some 48, some 49, some 50, some 51, some 52, some 53, some 54] rfl fun X K hX hK => ?_
    simp only [go_sem, if_true, if_false, reduceIte, Nat.reduceEqDiff, Nat.reduceAdd, Nat.reduceLT, Nat.reduceLeDiff, reduceCtorEq]
    refine hK _ _ ?_; clear hX hK X K
    show IW _ _ _ _ _ _ _ _
    repeat refine IW.seq ?_
    refine IW.cond rfl (fun hb2 => ?_) (fun hb2 => ?_)
    · have hz : rm (rw * rh) (winP w h rw X Y p) = List.replicate (rw * rh) 0 := by
        rw [List.eq_replicate_iff]
        refine ⟨rm_length _ _, fun b hb => ?_⟩
        simp only [rm, List.mem_map, List.mem_range] at hb
        obtain ⟨t, ht, rfl⟩ := hb
        exact hfar (by simpa [gt_iff_lt] using hb2) t ht
      repeat refine IW.seq ?_
      refine IW.region_seq tab_ok [some 55, none] rfl fun X K hX hK => ?_
      simp only [go_sem, if_true, if_false, reduceIte, Nat.reduceEqDiff, Nat.reduceAdd, Nat.reduceLT, Nat.reduceLeDiff, reduceCtorEq]
      refine hX.op _ _ rfl (opS_store tab_ok rfl (by simp [go_sem, if_true, if_false, reduceIte, Nat.reduceEqDiff, Nat.reduceAdd, Nat.reduceLT, Nat.reduceLeDiff, reduceCtorEq]) (by simp [go_sem, if_true, if_false, reduceIte, Nat.reduceEqDiff, Nat.reduceAdd, Nat.reduceLT, Nat.reduceLeDiff, reduceCtorEq]) (by simp [go_sem, if_true, if_false, reduceIte, Nat.reduceEqDiff, Nat.reduceAdd, Nat.reduceLT, Nat.reduceLeDiff, reduceCtorEq]) (by simp [go_sem, if_true, if_false, reduceIte, Nat.reduceEqDiff, Nat.reduceAdd, Nat.reduceLT, Nat.reduceLeDiff, reduceCtorEq]) (by simp [go_sem, if_true, if_false, reduceIte, Nat.reduceEqDiff, Nat.reduceAdd, Nat.reduceLT, Nat.reduceLeDiff, reduceCtorEq]) (by simp [go_sem, if_true, if_false, reduceIte, Nat.reduceEqDiff, Nat.reduceAdd, Nat.reduceLT, Nat.reduceLeDiff, reduceCtorEq])) ?_
      simp only [go_sem, if_true, if_false, reduceIte, Nat.reduceEqDiff, Nat.reduceAdd, Nat.reduceLT, Nat.reduceLeDiff, reduceCtorEq]
      refine hK _ _ ?_; clear hX hK X K
      show IW _ _ _ _ _ _ _ _
      rw [hz]
      refine IW.ret (Fin.cell1 3 ⟨trivial, by simp [go_sem, if_true, if_false, reduceIte, Nat.reduceEqDiff, Nat.reduceAdd, Nat.reduceLT, Nat.reduceLeDiff, reduceCtorEq]⟩ rfl (by simp [go_sem, if_true, if_false, reduceIte, Nat.reduceEqDiff, Nat.reduceAdd, Nat.reduceLT, Nat.reduceLeDiff, reduceCtorEq]) ?_ ?_)
      · simp [go_sem, if_true, if_false, reduceIte, Nat.reduceEqDiff, Nat.reduceAdd, Nat.reduceLT, Nat.reduceLeDiff, reduceCtorEq]
      · simp [go_sem, if_true, if_false, reduceIte, Nat.reduceEqDiff, Nat.reduceAdd, Nat.reduceLT, Nat.reduceLeDiff, reduceCtorEq]
    · refine IW.skip ?_
      show IW _ _ _ _ _ _ _ _
      simp only [Bool.or_eq_false_iff, decide_eq_false_iff_not] at hb2
      repeat refine IW.seq ?_
      refine IW.region_seq tab_ok [some 6] rfl fun X K hX hK => ?_
      simp only [go_sem, if_true, if_false, reduceIte, Nat.reduceEqDiff, Nat.reduceAdd, Nat.reduceLT, Nat.reduceLeDiff, reduceCtorEq]
      refine hK _ _ ?_; clear hX hK X K
      show IW _ _ _ _ _ _ _ _
      repeat refine IW.seq ?_
      refine IW.block ?_
      have hrow : ∀ {y : Nat}, y < rh → y * rw + rw ≤ n := fun {y} hy => by
        have : (y + 1) * rw ≤ rh * rw := Nat.mul_le_mul_right _ hy
        rw [Nat.add_mul] at this; rw [hn, Nat.mul_comm rw rh]; omega
      refine IW.loop (α := {y : Nat // y ≤ rh}) (fun y => [(2, .ptr 0 0 0), (3, .ptr 1 0 0), (4, .ptr 2 0 0), (5, .ptr 4 0 0), (6, .int .i64 y.1)]) (fun y => [some ⟨3, 33, [[.int .i64 w, .int .i64 h, .sl true (nums .u8 p)]]⟩, some ⟨4, 56, [[.int .i64 X, .int .i64 Y, .int .i64 rw, .int .i64 rh]]⟩, some ⟨3, 33, [[.int .i64 0, .int .i64 0, .nils]]⟩, some ⟨1, 5, nums .u8 (upto (winP w h rw X Y p) n (y.1 * rw))⟩, some ⟨3, 33, [[.int .i64 rw, .int .i64 rh, .ref 3 0 n]]⟩]) (fun y => rh - y.1) ⟨0, by omega⟩ ?_ fun ⟨y, hy⟩ => ?_
      · refine Ent.cut ?_ ?_ <;> simp only [go_sem, if_true, if_false, reduceIte, Nat.reduceEqDiff, Nat.reduceAdd, Nat.reduceLT, Nat.reduceLeDiff, reduceCtorEq, hn, Nat.zero_mul, upto_zero, List.length_replicate]
      · simp only []
        repeat refine IW.seq ?_
        refine IW.region_seq tab_ok [some 56, some 57, some 58, some 59] rfl fun X K hX hK => ?_
        simp only [go_sem, if_true, if_false, reduceIte, Nat.reduceEqDiff, Nat.reduceAdd, Nat.reduceLT, Nat.reduceLeDiff, reduceCtorEq]
        refine hK _ _ ?_; clear hX hK X K
        show IW _ _ _ _ _ _ _ _
        repeat refine IW.seq ?_
        refine IW.cond rfl (fun hb3 => ?_) (fun hb3 => ?_)
        · refine IW.skip ?_
          show IW _ _ _ _ _ _ _ _
          simp only [decide_eq_true_eq] at hb3
          have hyh : y < rh := by omega
          have hr' := hrow hyh
          refine IW.seq (IW.block ?_)
          repeat refine IW.seq ?_
          refine IW.region_seq tab_ok [some 7] rfl fun X K hX hK => ?_
          simp only [go_sem, if_true, if_false, reduceIte, Nat.reduceEqDiff, Nat.reduceAdd, Nat.reduceLT, Nat.reduceLeDiff, reduceCtorEq]
          refine hK _ _ ?_; clear hX hK X K
          show IW _ _ _ _ _ _ _ _
          repeat refine IW.seq ?_
          refine IW.block ?_
          refine IW.loop (α := {x : Nat // x ≤ rw}) (fun x => [(2, .ptr 0 0 0), (3, .ptr 1 0 0), (4, .ptr 2 0 0), (5, .ptr 4 0 0), (6, .int .i64 y), (7, .int .i64 x.1)]) (fun x => [some ⟨3, 33, [[.int .i64 w, .int .i64 h, .sl true (nums .u8 p)]]⟩, some ⟨4, 56, [[.int .i64 X, .int .i64 Y, .int .i64 rw, .int .i64 rh]]⟩, some ⟨3, 33, [[.int .i64 0, .int .i64 0, .nils]]⟩, some ⟨1, 5, nums .u8 (upto (winP w h rw X Y p) n (y * rw + x.1))⟩, some ⟨3, 33, [[.int .i64 rw, .int .i64 rh, .ref 3 0 n]]⟩]) (fun x => rw - x.1) ⟨0, by omega⟩ ?_ fun ⟨x, hx⟩ => ?_
          · refine Ent.cut ?_ ?_ <;> simp only [go_sem, if_true, if_false, reduceIte, Nat.reduceEqDiff, Nat.reduceAdd, Nat.reduceLT, Nat.reduceLeDiff, reduceCtorEq, Nat.add_zero]
          · simp only []
            repeat refine IW.seq ?_
            refine IW.region_seq tab_ok [some 62, some 63, some 64, some 65] rfl fun X K hX hK => ?_
            simp only [go_sem, if_true, if_false, reduceIte, Nat.reduceEqDiff, Nat.reduceAdd, Nat.reduceLT, Nat.reduceLeDiff, reduceCtorEq]
            refine hK _ _ ?_; clear hX hK X K
            show IW _ _ _ _ _ _ _ _
            repeat refine IW.seq ?_
            refine IW.cond rfl (fun hb4 => ?_) (fun hb4 => ?_)
            · refine IW.skip ?_
              show IW _ _ _ _ _ _ _ _
              simp only [decide_eq_true_eq] at hb4
              have hxw : x < rw := by omega
              have e1 : IntKind.i64.wrap ((y : Int) * (rw : Int)) = ((y * rw : Nat) : Int) := by
                rw [← Int.natCast_mul]; exact wrap_eq (by omega) (by omega)
              have e2 : IntKind.i64.wrap (((y * rw : Nat) : Int) + (x : Int)) = ((y * rw + x : Nat) : Int) := (wrap_eq (by omega) (by omega)).trans (by omega)
              have e3 : IntKind.i64.wrap (X + (x : Int)) = X + (x : Int) := wrap_eq (by omega) (by omega)
              have e4 : IntKind.i64.wrap (Y + (y : Int)) = Y + (y : Int) := wrap_eq (by omega) (by omega)
              obtain ⟨hdiv, hmod⟩ := (cell_eq hxw).1 (rfl : y * rw + x = y * rw + x)
              have hat : winP w h rw X Y p (y * rw + x) = atF w h p (X + (x : Int)) (Y + (y : Int)) := by simp only [winP, hdiv, hmod]
              refine IW.seq (IW.block ?_)
              repeat refine IW.seq ?_
              refine IW.region_draw tab_ok mixed [some 68, some 69, some 70, some 71, some 72, some 73, some 74, some 75, some 76, some 77, some 78, some 79, some 80, some 81, some 82, some 83, some 84, some 85, some 86, none] 19 (by kernel_rfl) rfl fun Xq Xs K hXq hXs hK K1 hK1 => ?_
              simp only [go_sem, if_true, if_false, reduceIte, Nat.reduceEqDiff, Nat.reduceAdd, Nat.reduceLT, Nat.reduceLeDiff, reduceCtorEq, e1, e2, e3, e4]
              refine hXq.quiet _ _ (OpG.of_B rfl (opB_call rfl rfl (FSpec.nz (refAtG w h (X + (x : Int)) (Y + (y : Int)) p hq hl) (by simp [go_sem, if_true, if_false, reduceIte, Nat.reduceEqDiff, Nat.reduceAdd, Nat.reduceLT, Nat.reduceLeDiff, reduceCtorEq, List.map_cons, List.map_nil, List.append_nil, opnd, unc, e1, e2, e3, e4])))) ?_
              simp only [go_sem, if_true, if_false, reduceIte, Nat.reduceEqDiff, Nat.reduceAdd, Nat.reduceLT, Nat.reduceLeDiff, reduceCtorEq, e1, e2, e3, e4]
              have hk2 : y * rw + x < n := by omega
              refine ⟨⟨by omega, by omega⟩, ?_⟩
              refine hK1 _ _ ?_; clear hXq hK1 K1 Xq
              simp only [List.drop_zero, List.drop_succ_cons, go_sem, if_true, if_false, reduceIte, Nat.reduceEqDiff, Nat.reduceAdd, Nat.reduceLT, Nat.reduceLeDiff, reduceCtorEq]
              have hk3 := nums_at (k := .u8) (xs := upto (winP w h rw X Y p) n (y * rw + x)) (i := y * rw + x) (by simp [upto_length, hk2])
              refine hXs.op _ _ rfl (opS_store tab_ok rfl (by simp [go_sem, if_true, if_false, reduceIte, Nat.reduceEqDiff, Nat.reduceAdd, Nat.reduceLT, Nat.reduceLeDiff, reduceCtorEq]) (by simp [go_sem, if_true, if_false, reduceIte, Nat.reduceEqDiff, Nat.reduceAdd, Nat.reduceLT, Nat.reduceLeDiff, reduceCtorEq]) (by simp [go_sem, if_true, if_false, reduceIte, Nat.reduceEqDiff, Nat.reduceAdd, Nat.reduceLT, Nat.reduceLeDiff, reduceCtorEq]) (by simp [go_sem, if_true, if_false, reduceIte, Nat.reduceEqDiff, Nat.reduceAdd, Nat.reduceLT, Nat.reduceLeDiff, reduceCtorEq, hk2, hk3]) (by simp [go_sem, if_true, if_false, reduceIte, Nat.reduceEqDiff, Nat.reduceAdd, Nat.reduceLT, Nat.reduceLeDiff, reduceCtorEq]) (by simp [go_sem, if_true, if_false, reduceIte, Nat.reduceEqDiff, Nat.reduceAdd, Nat.reduceLT, Nat.reduceLeDiff, reduceCtorEq])) ?_
              simp only [go_sem, if_true, if_false, reduceIte, Nat.reduceEqDiff, Nat.reduceAdd, Nat.reduceLT, Nat.reduceLeDiff, reduceCtorEq, hk2, hk3]
              refine hK _ _ ?_; clear hXs hK K Xs
              show IW _ _ _ _ _ _ _ _
              have hset := upto_set (winP w h rw X Y p) n (y * rw + x)
              rw [hat] at hset
              repeat refine IW.seq ?_
              refine IW.region_seq tab_ok [some 66, some 67, some 7] rfl fun X K hX hK => ?_
              simp only [go_sem, if_true, if_false, reduceIte, Nat.reduceEqDiff, Nat.reduceAdd, Nat.reduceLT, Nat.reduceLeDiff, reduceCtorEq, succ_wrap hxw (by omega)]
              refine hK _ _ ⟨⟨x + 1, hxw⟩, by simp only []; omega, ?_⟩
              refine Ent.cut ?_ ?_ <;> simp only [go_sem, if_true, if_false, reduceIte, Nat.reduceEqDiff, Nat.reduceAdd, Nat.reduceLT, Nat.reduceLeDiff, reduceCtorEq, ← Nat.add_assoc, hset]
            · refine IW.exit ?_
              show IW _ _ _ _ _ _ _ _
              simp only [decide_eq_false_iff_not] at hb4
              have hxw : x = rw := by omega
              subst hxw
              repeat refine IW.seq ?_
              refine IW.region_seq tab_ok [some 60, some 61, some 6] rfl fun X K hX hK => ?_
              simp only [go_sem, if_true, if_false, reduceIte, Nat.reduceEqDiff, Nat.reduceAdd, Nat.reduceLT, Nat.reduceLeDiff, reduceCtorEq, succ_wrap hyh (by omega)]
              refine hK _ _ ⟨⟨y + 1, hyh⟩, by simp only []; omega, ?_⟩
              refine Ent.cut ?_ ?_ <;> simp only [go_sem, if_true, if_false, reduceIte, Nat.reduceEqDiff, Nat.reduceAdd, Nat.reduceLT, Nat.reduceLeDiff, reduceCtorEq, Nat.add_mul, Nat.one_mul]
        · refine IW.exit ?_
          show IW _ _ _ _ _ _ _ _
          simp only [decide_eq_false_iff_not] at hb3
          have hyh : y = rh := by omega
          subst hyh
          repeat refine IW.seq ?_
          refine IW.region_seq tab_ok [some 87, none] rfl fun X K hX hK => ?_
          simp only [go_sem, if_true, if_false, reduceIte, Nat.reduceEqDiff, Nat.reduceAdd, Nat.reduceLT, Nat.reduceLeDiff, reduceCtorEq]
          refine hX.op _ _ rfl (opS_store tab_ok rfl (by simp [go_sem, if_true, if_false, reduceIte, Nat.reduceEqDiff, Nat.reduceAdd, Nat.reduceLT, Nat.reduceLeDiff, reduceCtorEq]) (by simp [go_sem, if_true, if_false, reduceIte, Nat.reduceEqDiff, Nat.reduceAdd, Nat.reduceLT, Nat.reduceLeDiff, reduceCtorEq]) (by simp [go_sem, if_true, if_false, reduceIte, Nat.reduceEqDiff, Nat.reduceAdd, Nat.reduceLT, Nat.reduceLeDiff, reduceCtorEq]) (by simp [go_sem, if_true, if_false, reduceIte, Nat.reduceEqDiff, Nat.reduceAdd, Nat.reduceLT, Nat.reduceLeDiff, reduceCtorEq]) (by simp [go_sem, if_true, if_false, reduceIte, Nat.reduceEqDiff, Nat.reduceAdd, Nat.reduceLT, Nat.reduceLeDiff, reduceCtorEq]) (by simp [go_sem, if_true, if_false, reduceIte, Nat.reduceEqDiff, Nat.reduceAdd, Nat.reduceLT, Nat.reduceLeDiff, reduceCtorEq])) ?_
          simp only [go_sem, if_true, if_false, reduceIte, Nat.reduceEqDiff, Nat.reduceAdd, Nat.reduceLT, Nat.reduceLeDiff, reduceCtorEq]
          refine hK _ _ ?_; clear hX hK X K
          show IW _ _ _ _ _ _ _ _
          refine IW.ret (Fin.cell1 3 ⟨trivial, by simp [go_sem, if_true, if_false, reduceIte, Nat.reduceEqDiff, Nat.reduceAdd, Nat.reduceLT, Nat.reduceLeDiff, reduceCtorEq]⟩ rfl (by simp [go_sem, if_true, if_false, reduceIte, Nat.reduceEqDiff, Nat.reduceAdd, Nat.reduceLT, Nat.reduceLeDiff, reduceCtorEq]) ?_ ?_)
          · simp [go_sem, if_true, if_false, reduceIte, Nat.reduceEqDiff, Nat.reduceAdd, Nat.reduceLT, Nat.reduceLeDiff, reduceCtorEq, hn]
          · simp [go_sem, if_true, if_false, reduceIte, Nat.reduceEqDiff, Nat.reduceAdd, Nat.reduceLT, Nat.reduceLeDiff, reduceCtorEq, Nat.mul_comm y rw, ← hn, upto_all, rm]
theorem refWindow (W H : Int) (p : List Int) (X Y RW RH : Int) (hl : p.length ≤ 1000000) :
    FSpec Try.prog 40 [ink W H p, rectV X Y RW RH] (resI (winS W H p RW RH RW) (winS W H p RW RH RH) (winF W H p X Y RW RH)) (resR (winF W H p X Y RW RH)) := by
  by_cases hok : winOk W H p RW RH = true
  case neg =>
    have e1 : winF W H p X Y RW RH = [] := by simp [winF, hok]
    have e2 : winS W H p RW RH RW = 0 := by simp [winS, hok]
    have e3 : winS W H p RW RH RH = 0 := by simp [winS, hok]
    rw [Bool.not_eq_true] at hok
    rw [e1, e2, e3]
    refine res_nil ?_
    refine FSpec.intro tab_ok Try.func40 rfl rfl rfl (by kernel_rfl) (by simp) fun w0 => ?_
    simp only [argTM, Nat.zero_add, Nat.reduceAdd]
    simp only [ink, rectV]
    repeat refine IW.seq ?_
    refine IW.region_seq tab_ok [some 2, some 3, some 4] rfl fun X K hX hK => ?_
    simp only [go_sem, if_true, if_false, reduceIte, Nat.reduceEqDiff, Nat.reduceAdd, Nat.reduceLT, Nat.reduceLeDiff, reduceCtorEq]
    refine hK _ _ ?_; clear hX hK X K
    show IW _ _ _ _ _ _ _ _
    repeat refine IW.seq ?_
    refine IW.region_seq tab_ok [some 8, some 9, some 10, some 11, some 12, some 13, some 14, some 15, some 16, some 17, some 18, some 19, some 20, some 21, some 22, some 23, some 24, some 25, some 26, some 27, some 28, some 29, some 30] rfl fun X K hX hK => ?_
    simp only [go_sem, if_true, if_false, reduceIte, Nat.reduceEqDiff, Nat.reduceAdd, Nat.reduceLT, Nat.reduceLeDiff, reduceCtorEq]
    refine hX.quiet _ _ (OpG.of_B rfl (opB_call rfl rfl (FSpec.nz (refRight W H p hl) (by simp [go_sem, if_true, if_false, reduceIte, Nat.reduceEqDiff, Nat.reduceAdd, Nat.reduceLT, Nat.reduceLeDiff, reduceCtorEq, List.map_cons, List.map_nil, List.append_nil, opnd, unc])))) ?_
    simp only [go_sem, if_true, if_false, reduceIte, Nat.reduceEqDiff, Nat.reduceAdd, Nat.reduceLT, Nat.reduceLeDiff, reduceCtorEq]
    simp only [gt_iff_lt, win_shape, hok, Bool.not_false]
    refine hK _ _ ?_; clear hX hK X K
    show IW _ _ _ _ _ _ _ _
    repeat refine IW.seq ?_
    refine IW.cond rfl (fun hb => ?_) (fun hb => ?_)
    · repeat refine IW.seq ?_
      refine IW.region_seq tab_ok [some 31, none] rfl fun X K hX hK => ?_
      simp only [go_sem, if_true, if_false, reduceIte, Nat.reduceEqDiff, Nat.reduceAdd, Nat.reduceLT, Nat.reduceLeDiff, reduceCtorEq]
      refine hX.op _ _ rfl (opS_store tab_ok rfl (by simp [go_sem, if_true, if_false, reduceIte, Nat.reduceEqDiff, Nat.reduceAdd, Nat.reduceLT, Nat.reduceLeDiff, reduceCtorEq]) (by simp [go_sem, if_true, if_false, reduceIte, Nat.reduceEqDiff, Nat.reduceAdd, Nat.reduceLT, Nat.reduceLeDiff, reduceCtorEq]) (by simp [go_sem, if_true, if_false, reduceIte, Nat.reduceEqDiff, Nat.reduceAdd, Nat.reduceLT, Nat.reduceLeDiff, reduceCtorEq]) (by simp [go_sem, if_true, if_false, reduceIte, Nat.reduceEqDiff, Nat.reduceAdd, Nat.reduceLT, Nat.reduceLeDiff, reduceCtorEq]) (by simp [go_sem, if_true, if_false, reduceIte, Nat.reduceEqDiff, Nat.reduceAdd, Nat.reduceLT, Nat.reduceLeDiff, reduceCtorEq]) (by simp [go_sem, if_true, if_false, reduceIte, Nat.reduceEqDiff, Nat.reduceAdd, Nat.reduceLT, Nat.reduceLeDiff, reduceCtorEq])) ?_
      simp only [go_sem, if_true, if_false, reduceIte, Nat.reduceEqDiff, Nat.reduceAdd, Nat.reduceLT, Nat.reduceLeDiff, reduceCtorEq]
      refine hK _ _ ?_; clear hX hK X K
      show IW _ _ _ _ _ _ _ _
      refine IW.ret (Fin.cell ⟨trivial, by simp [go_sem, if_true, if_false, reduceIte, Nat.reduceEqDiff, Nat.reduceAdd, Nat.reduceLT, Nat.reduceLeDiff, reduceCtorEq]⟩ rfl rfl ?_)
      simp [go_sem, if_true, if_false, reduceIte, Nat.reduceEqDiff, Nat.reduceAdd, Nat.reduceLT, Nat.reduceLeDiff, reduceCtorEq]
    · simp at hb
  case pos =>
    obtain ⟨hr, a1, a2, a3, a4⟩ := win_of hok
    obtain ⟨hlen, h0, h1, h2, h3⟩ := right_len hr
    obtain ⟨w, rfl⟩ : ∃ w : Nat, W = w := ⟨W.toNat, by omega⟩
    obtain ⟨h, rfl⟩ : ∃ h : Nat, H = h := ⟨H.toNat, by omega⟩
    obtain ⟨rw', rfl⟩ : ∃ w : Nat, RW = w := ⟨RW.toNat, by omega⟩
    obtain ⟨rh, rfl⟩ : ∃ w : Nat, RH = w := ⟨RH.toNat, by omega⟩
    have := refWindow0 w h rw' rh X Y p hr (by omega) (by omega) hl
    simpa only [winF, winS, hok, if_true, Int.toNat_natCast] using this
end Go.Proofs.Ytnbpbehlemaeoaa

set_option linter.unusedVariables false
set_option linter.unusedSimpArgs false
set_option maxRecDepth 10000
namespace Go.Proofs.Ytnbpbehlemaeoaa
open Go.IL
theorem winF_le (W H : Int) (p : List Int) (X Y RW RH : Int) : (winF W H p X Y RW RH).length ≤ 1000000 := by
  unfold winF
  split
  · rename_i h
    obtain ⟨_, h1, h2, h3, h4⟩ := win_of h
    rw [rm_length]
    have : RW.toNat * RH.toNat ≤ 640 * 640 := Nat.mul_le_mul (by omega) (by omega)
    omega
  · simp
theorem nz_agg4 (a b c d : SV) : nz (.agg [a, b, c, d]) = .agg [a, b, c, d] := by cases c <;> rfl
theorem cndO_ls (c : Bool) (id n : Nat) : cndO c (lsV id n) = True := by cases n <;> simp [lsV, cndO]
theorem unc_ls (id n : Nat) : unc (lsV id n) = lsV id n := by cases n <;> rfl
attribute [go_sem high] cndO_ls unc_ls
set_option maxHeartbeats 2000000 in
/-- The law's function. -/
theorem fDresses (W H : Int) (p l : List Int) (X Y RW RH : Int) (hp : ∀ x ∈ p, 0 ≤ x) (hX : I64 X) (hY : I64 Y) : FSpec Try.prog 7 [ink W H p, .sl true (nums .i64 l), rectV X Y RW RH] (.bool true) [] := by
  refine FSpec.intro tab_ok Try.func7 rfl rfl rfl (by kernel_rfl) (by simp) fun w0 => ?_
  simp only [argTM, Nat.zero_add, Nat.reduceAdd]
  simp only [ink, rectV]
  repeat refine IW.seq ?_
  refine IW.region_seq tab_ok [some 3, some 5, some 6] rfl fun X K hX hK => ?_
  simp only [go_sem, if_true, if_false, reduceIte, Nat.reduceEqDiff, Nat.reduceAdd, Nat.reduceLT, Nat.reduceLeDiff, reduceCtorEq]
  refine hK _ _ ?_; clear hX hK X K
  show IW _ _ _ _ _ _ _ _
  repeat refine IW.seq ?_
  refine IW.region_seq tab_ok [some 9, some 10, some 11, some 12, some 13, some 14, some 15] rfl fun X K hX hK => ?_
  simp only [go_sem, if_true, if_false, reduceIte, Nat.reduceEqDiff, Nat.reduceAdd, Nat.reduceLT, Nat.reduceLeDiff, reduceCtorEq]
  refine hX.quiet _ _ (OpG.of_B rfl (opB_call rfl rfl (FSpec.nz (lBig W H p) (by simp [go_sem, if_true, if_false, reduceIte, Nat.reduceEqDiff, Nat.reduceAdd, Nat.reduceLT, Nat.reduceLeDiff, reduceCtorEq, List.map_cons, List.map_nil, List.append_nil, opnd, unc])))) ?_
  simp only [go_sem, if_true, if_false, reduceIte, Nat.reduceEqDiff, Nat.reduceAdd, Nat.reduceLT, Nat.reduceLeDiff, reduceCtorEq]
  refine hK _ _ ?_; clear hX hK X K
  show IW _ _ _ _ _ _ _ _
  repeat refine IW.seq ?_
  refine IW.cond rfl (fun hb => ?_) (fun hb => ?_)
  · repeat refine IW.seq ?_
    refine IW.region_seq tab_ok [some 16, some 6] rfl fun X K hX hK => ?_
    simp only [go_sem, if_true, if_false, reduceIte, Nat.reduceEqDiff, Nat.reduceAdd, Nat.reduceLT, Nat.reduceLeDiff, reduceCtorEq]
    refine hX.quiet _ _ (OpG.of_B rfl (opB_call rfl rfl (FSpec.nz (fAwake) (by simp [go_sem, if_true, if_false, reduceIte, Nat.reduceEqDiff, Nat.reduceAdd, Nat.reduceLT, Nat.reduceLeDiff, reduceCtorEq, List.map_cons, List.map_nil, List.append_nil, opnd, unc])))) ?_
    simp only [go_sem, if_true, if_false, reduceIte, Nat.reduceEqDiff, Nat.reduceAdd, Nat.reduceLT, Nat.reduceLeDiff, reduceCtorEq]
    refine hK _ _ ?_; clear hX hK X K
    show IW _ _ _ _ _ _ _ _
    refine IW.ret (Fin.scal rfl rfl ?_)
    rfl
  · simp only [Bool.or_eq_false_iff, decide_eq_false_iff_not, gt_iff_lt] at hb
    have hl : p.length ≤ 1000000 := by omega
    have hll : l.length ≤ 1000000 := by omega
    have hli : (liF W H p l).length ≤ 1000000 := by rw [liF_length]; split <;> omega
    have hdr : (drsF W H p l).length ≤ 1000000 := by rw [drsF_length]; split <;> omega
    have hwf : (winF W H p X Y RW RH).length ≤ 1000000 := winF_le W H p X Y RW RH
    refine IW.skip ?_
    show IW _ _ _ _ _ _ _ _
    repeat refine IW.seq ?_
    refine IW.region_seq tab_ok [some 17, some 18, some 7, none] rfl fun X K hX hK => ?_
    simp only [go_sem, if_true, if_false, reduceIte, Nat.reduceEqDiff, Nat.reduceAdd, Nat.reduceLT, Nat.reduceLeDiff, reduceCtorEq]
    refine hX.quiet _ _ (OpG.of_B rfl (opB_call rfl rfl (FSpec.nz (kCopyInk W H p hl) (by simp [go_sem, if_true, if_false, reduceIte, Nat.reduceEqDiff, Nat.reduceAdd, Nat.reduceLT, Nat.reduceLeDiff, reduceCtorEq, List.map_cons, List.map_nil, List.append_nil, opnd, unc, resI, resR])))) ?_
    simp only [go_sem, if_true, if_false, reduceIte, Nat.reduceEqDiff, Nat.reduceAdd, Nat.reduceLT, Nat.reduceLeDiff, reduceCtorEq, resI, resR]
    refine hX.op _ _ rfl (opS_store tab_ok rfl (by simp [go_sem, if_true, if_false, reduceIte, Nat.reduceEqDiff, Nat.reduceAdd, Nat.reduceLT, Nat.reduceLeDiff, reduceCtorEq]) (by simp [go_sem, if_true, if_false, reduceIte, Nat.reduceEqDiff, Nat.reduceAdd, Nat.reduceLT, Nat.reduceLeDiff, reduceCtorEq]) (by simp [go_sem, if_true, if_false, reduceIte, Nat.reduceEqDiff, Nat.reduceAdd, Nat.reduceLT, Nat.reduceLeDiff, reduceCtorEq]) (by simp [go_sem, if_true, if_false, reduceIte, Nat.reduceEqDiff, Nat.reduceAdd, Nat.reduceLT, Nat.reduceLeDiff, reduceCtorEq]) (by simp [go_sem, if_true, if_false, reduceIte, Nat.reduceEqDiff, Nat.reduceAdd, Nat.reduceLT, Nat.reduceLeDiff, reduceCtorEq]) (by simp [go_sem, if_true, if_false, reduceIte, Nat.reduceEqDiff, Nat.reduceAdd, Nat.reduceLT, Nat.reduceLeDiff, reduceCtorEq])) ?_
    simp only [go_sem, if_true, if_false, reduceIte, Nat.reduceEqDiff, Nat.reduceAdd, Nat.reduceLT, Nat.reduceLeDiff, reduceCtorEq]
    refine hK _ _ ?_; clear hX hK X K
    show IW _ _ _ _ _ _ _ _
    repeat refine IW.seq ?_
    refine IW.region_seq tab_ok [some 19, some 20, some 8] rfl fun X K hX hK => ?_
    simp only [go_sem, if_true, if_false, reduceIte, Nat.reduceEqDiff, Nat.reduceAdd, Nat.reduceLT, Nat.reduceLeDiff, reduceCtorEq]
    refine hX.quiet _ _ (OpG.of_B rfl (opB_call rfl rfl (FSpec.nz (ls_nums (kCopyInts l hll)) (by simp [go_sem, if_true, if_false, reduceIte, Nat.reduceEqDiff, Nat.reduceAdd, Nat.reduceLT, Nat.reduceLeDiff, reduceCtorEq, List.map_cons, List.map_nil, List.append_nil, opnd, unc])))) ?_
    simp only [go_sem, if_true, if_false, reduceIte, Nat.reduceEqDiff, Nat.reduceAdd, Nat.reduceLT, Nat.reduceLeDiff, reduceCtorEq]
    refine hK _ _ ?_; clear hX hK X K
    show IW _ _ _ _ _ _ _ _
    repeat refine IW.seq ?_
    refine IW.region_draw tab_ok mixed [some 21, some 22, some 23, some 24, some 25, some 26, some 27, some 28, some 29, some 30, some 31, some 32, some 33, some 34, some 35, some 36, some 37, some 38, some 39, some 40, some 41, some 42, some 43, some 44, some 45, some 46, some 47, some 48, some 49, some 50, some 51, some 52, some 53, some 54, some 55, some 56, some 57, some 58, some 59, some 60, some 61, some 62] 42 (by kernel_rfl) rfl fun Xq Xs K hXq hXs hK K1 hK1 => ?_
    simp only [go_sem, if_true, if_false, reduceIte, Nat.reduceEqDiff, Nat.reduceAdd, Nat.reduceLT, Nat.reduceLeDiff, reduceCtorEq]
    refine hXq.quiet _ _ (OpG.of_B rfl (opB_call rfl rfl (FSpec.nz (fRight W H p hl) (by simp [go_sem, if_true, if_false, reduceIte, Nat.reduceEqDiff, Nat.reduceAdd, Nat.reduceLT, Nat.reduceLeDiff, reduceCtorEq, List.map_cons, List.map_nil, List.append_nil, opnd, unc])))) ?_
    simp only [go_sem, if_true, if_false, reduceIte, Nat.reduceEqDiff, Nat.reduceAdd, Nat.reduceLT, Nat.reduceLeDiff, reduceCtorEq]
    refine hXq.quiet _ _ (OpG.of_B rfl (opB_call rfl rfl (FSpec.nz (refRight W H p hl) (by simp [go_sem, if_true, if_false, reduceIte, Nat.reduceEqDiff, Nat.reduceAdd, Nat.reduceLT, Nat.reduceLeDiff, reduceCtorEq, List.map_cons, List.map_nil, List.append_nil, opnd, unc, beq_self_eq_true, Bool.not_true, Bool.not_false])))) ?_
    simp only [go_sem, if_true, if_false, reduceIte, Nat.reduceEqDiff, Nat.reduceAdd, Nat.reduceLT, Nat.reduceLeDiff, reduceCtorEq, beq_self_eq_true, Bool.not_true, Bool.not_false]
    refine ⟨by cases l.length <;> trivial, ?_⟩
    have hun := unc_ls 4 l.length
    unfold unc at hun
    simp only [hun]
    refine hXq.quiet _ _ (OpG.of_BG rfl rfl rfl (by first | (simp only [go_sem, if_true, if_false, reduceIte, Nat.reduceEqDiff, Nat.reduceAdd, Nat.reduceLT, Nat.reduceLeDiff, reduceCtorEq]; done) | (simp [go_sem, if_true, if_false, reduceIte, Nat.reduceEqDiff, Nat.reduceAdd, Nat.reduceLT, Nat.reduceLeDiff, reduceCtorEq] <;> (intros; simp_all))) fun hc => opB_call rfl rfl (FSpec.nz (fLined W H p l hl hll) (by simp [go_sem, if_true, if_false, reduceIte, Nat.reduceEqDiff, Nat.reduceAdd, Nat.reduceLT, Nat.reduceLeDiff, reduceCtorEq, List.map_cons, List.map_nil, List.append_nil, opnd, unc, resI, resR]))) ?_
    simp only [go_sem, if_true, if_false, reduceIte, Nat.reduceEqDiff, Nat.reduceAdd, Nat.reduceLT, Nat.reduceLeDiff, reduceCtorEq, resI, resR]
    refine hXq.quiet _ _ (OpG.of_BG rfl rfl rfl (by first | (simp only [go_sem, if_true, if_false, reduceIte, Nat.reduceEqDiff, Nat.reduceAdd, Nat.reduceLT, Nat.reduceLeDiff, reduceCtorEq]; done) | (simp [go_sem, if_true, if_false, reduceIte, Nat.reduceEqDiff, Nat.reduceAdd, Nat.reduceLT, Nat.reduceLeDiff, reduceCtorEq] <;> (intros; simp_all))) fun hc => opB_call rfl rfl (FSpec.nz (refLined' W H p l hl hll) (by simp [go_sem, if_true, if_false, reduceIte, Nat.reduceEqDiff, Nat.reduceAdd, Nat.reduceLT, Nat.reduceLeDiff, reduceCtorEq, List.map_cons, List.map_nil, List.append_nil, opnd, unc, resI, resR]))) ?_
    simp only [go_sem, if_true, if_false, reduceIte, Nat.reduceEqDiff, Nat.reduceAdd, Nat.reduceLT, Nat.reduceLeDiff, reduceCtorEq, resI, resR]
    refine hXq.quiet _ _ (OpG.of_BG rfl rfl rfl (by first | (simp only [go_sem, if_true, if_false, reduceIte, Nat.reduceEqDiff, Nat.reduceAdd, Nat.reduceLT, Nat.reduceLeDiff, reduceCtorEq]; done) | (simp [go_sem, if_true, if_false, reduceIte, Nat.reduceEqDiff, Nat.reduceAdd, Nat.reduceLT, Nat.reduceLeDiff, reduceCtorEq] <;> (intros; simp_all))) fun hc => opB_call rfl rfl (FSpec.nz (kSameInk (riW W H p W) (riW W H p H) (liF W H p l) (riW W H p W) (riW W H p H) (liF W H p l) hli hli) (by simp [go_sem, if_true, if_false, reduceIte, Nat.reduceEqDiff, Nat.reduceAdd, Nat.reduceLT, Nat.reduceLeDiff, reduceCtorEq, List.map_cons, List.map_nil, List.append_nil, opnd, unc, and_self, decide_true, Bool.not_true]))) ?_
    simp only [go_sem, if_true, if_false, reduceIte, Nat.reduceEqDiff, Nat.reduceAdd, Nat.reduceLT, Nat.reduceLeDiff, reduceCtorEq, and_self, decide_true, Bool.not_true]
    refine ⟨by cases l.length <;> trivial, ?_⟩
    simp only [hun]
    refine hXq.quiet _ _ (OpG.of_BG rfl rfl rfl (by first | (simp only [go_sem, if_true, if_false, reduceIte, Nat.reduceEqDiff, Nat.reduceAdd, Nat.reduceLT, Nat.reduceLeDiff, reduceCtorEq]; done) | (simp [go_sem, if_true, if_false, reduceIte, Nat.reduceEqDiff, Nat.reduceAdd, Nat.reduceLT, Nat.reduceLeDiff, reduceCtorEq] <;> (intros; simp_all))) fun hc => opB_call rfl rfl (FSpec.nz (fDress W H p l hl hll) (by simp [go_sem, if_true, if_false, reduceIte, Nat.reduceEqDiff, Nat.reduceAdd, Nat.reduceLT, Nat.reduceLeDiff, reduceCtorEq, List.map_cons, List.map_nil, List.append_nil, opnd, unc, resI, resR]))) ?_
    simp only [go_sem, if_true, if_false, reduceIte, Nat.reduceEqDiff, Nat.reduceAdd, Nat.reduceLT, Nat.reduceLeDiff, reduceCtorEq, resI, resR]
    refine hXq.quiet _ _ (OpG.of_BG rfl rfl rfl (by first | (simp only [go_sem, if_true, if_false, reduceIte, Nat.reduceEqDiff, Nat.reduceAdd, Nat.reduceLT, Nat.reduceLeDiff, reduceCtorEq]; done) | (simp [go_sem, if_true, if_false, reduceIte, Nat.reduceEqDiff, Nat.reduceAdd, Nat.reduceLT, Nat.reduceLeDiff, reduceCtorEq] <;> (intros; simp_all))) fun hc => opB_call rfl rfl (FSpec.nz (refDress W H p l hl hll hp) (by simp [go_sem, if_true, if_false, reduceIte, Nat.reduceEqDiff, Nat.reduceAdd, Nat.reduceLT, Nat.reduceLeDiff, reduceCtorEq, List.map_cons, List.map_nil, List.append_nil, opnd, unc, resI, resR]))) ?_
    simp only [go_sem, if_true, if_false, reduceIte, Nat.reduceEqDiff, Nat.reduceAdd, Nat.reduceLT, Nat.reduceLeDiff, reduceCtorEq, resI, resR]
    refine hXq.quiet _ _ (OpG.of_BG rfl rfl rfl (by first | (simp only [go_sem, if_true, if_false, reduceIte, Nat.reduceEqDiff, Nat.reduceAdd, Nat.reduceLT, Nat.reduceLeDiff, reduceCtorEq]; done) | (simp [go_sem, if_true, if_false, reduceIte, Nat.reduceEqDiff, Nat.reduceAdd, Nat.reduceLT, Nat.reduceLeDiff, reduceCtorEq] <;> (intros; simp_all))) fun hc => opB_call rfl rfl (FSpec.nz (kSameInk (riW W H p W) (riW W H p H) (drsF W H p l) (riW W H p W) (riW W H p H) (drsF W H p l) hdr hdr) (by simp [go_sem, if_true, if_false, reduceIte, Nat.reduceEqDiff, Nat.reduceAdd, Nat.reduceLT, Nat.reduceLeDiff, reduceCtorEq, List.map_cons, List.map_nil, List.append_nil, opnd, unc, and_self, decide_true, Bool.not_true]))) ?_
    simp only [go_sem, if_true, if_false, reduceIte, Nat.reduceEqDiff, Nat.reduceAdd, Nat.reduceLT, Nat.reduceLeDiff, reduceCtorEq, and_self, decide_true, Bool.not_true]
    refine hXq.quiet _ _ (OpG.of_BG rfl rfl rfl (by first | (simp only [go_sem, if_true, if_false, reduceIte, Nat.reduceEqDiff, Nat.reduceAdd, Nat.reduceLT, Nat.reduceLeDiff, reduceCtorEq]; done) | (simp [go_sem, if_true, if_false, reduceIte, Nat.reduceEqDiff, Nat.reduceAdd, Nat.reduceLT, Nat.reduceLeDiff, reduceCtorEq] <;> (intros; simp_all))) fun hc => opB_call rfl rfl (FSpec.nz (fWindow W H p X Y RW RH hX hY hl) (by simp [go_sem, if_true, if_false, reduceIte, Nat.reduceEqDiff, Nat.reduceAdd, Nat.reduceLT, Nat.reduceLeDiff, reduceCtorEq, List.map_cons, List.map_nil, List.append_nil, opnd, unc, resI, resR, rectV, nz_agg4]))) ?_
    simp only [go_sem, if_true, if_false, reduceIte, Nat.reduceEqDiff, Nat.reduceAdd, Nat.reduceLT, Nat.reduceLeDiff, reduceCtorEq, resI, resR, rectV, nz_agg4]
    refine hXq.quiet _ _ (OpG.of_BG rfl rfl rfl (by first | (simp only [go_sem, if_true, if_false, reduceIte, Nat.reduceEqDiff, Nat.reduceAdd, Nat.reduceLT, Nat.reduceLeDiff, reduceCtorEq]; done) | (simp [go_sem, if_true, if_false, reduceIte, Nat.reduceEqDiff, Nat.reduceAdd, Nat.reduceLT, Nat.reduceLeDiff, reduceCtorEq] <;> (intros; simp_all))) fun hc => opB_call rfl rfl (FSpec.nz (refWindow W H p X Y RW RH hl) (by simp [go_sem, if_true, if_false, reduceIte, Nat.reduceEqDiff, Nat.reduceAdd, Nat.reduceLT, Nat.reduceLeDiff, reduceCtorEq, List.map_cons, List.map_nil, List.append_nil, opnd, unc, resI, resR, rectV, nz_agg4]))) ?_
    simp only [go_sem, if_true, if_false, reduceIte, Nat.reduceEqDiff, Nat.reduceAdd, Nat.reduceLT, Nat.reduceLeDiff, reduceCtorEq, resI, resR, rectV, nz_agg4]
    refine hXq.quiet _ _ (OpG.of_BG rfl rfl rfl (by first | (simp only [go_sem, if_true, if_false, reduceIte, Nat.reduceEqDiff, Nat.reduceAdd, Nat.reduceLT, Nat.reduceLeDiff, reduceCtorEq]; done) | (simp [go_sem, if_true, if_false, reduceIte, Nat.reduceEqDiff, Nat.reduceAdd, Nat.reduceLT, Nat.reduceLeDiff, reduceCtorEq] <;> (intros; simp_all))) fun hc => opB_call rfl rfl (FSpec.nz (kSameInk (winS W H p RW RH RW) (winS W H p RW RH RH) (winF W H p X Y RW RH) (winS W H p RW RH RW) (winS W H p RW RH RH) (winF W H p X Y RW RH) hwf hwf) (by simp [go_sem, if_true, if_false, reduceIte, Nat.reduceEqDiff, Nat.reduceAdd, Nat.reduceLT, Nat.reduceLeDiff, reduceCtorEq, List.map_cons, List.map_nil, List.append_nil, opnd, unc, and_self, decide_true, Bool.not_true]))) ?_
    simp only [go_sem, if_true, if_false, reduceIte, Nat.reduceEqDiff, Nat.reduceAdd, Nat.reduceLT, Nat.reduceLeDiff, reduceCtorEq, and_self, decide_true, Bool.not_true]
    refine hXq.quiet _ _ (OpG.of_BG rfl rfl rfl (by first | (simp only [go_sem, if_true, if_false, reduceIte, Nat.reduceEqDiff, Nat.reduceAdd, Nat.reduceLT, Nat.reduceLeDiff, reduceCtorEq]; done) | (simp [go_sem, if_true, if_false, reduceIte, Nat.reduceEqDiff, Nat.reduceAdd, Nat.reduceLT, Nat.reduceLeDiff, reduceCtorEq] <;> (intros; simp_all))) fun hc => opB_call rfl rfl (FSpec.nz (fShow W H p hl hp) (by simp [go_sem, if_true, if_false, reduceIte, Nat.reduceEqDiff, Nat.reduceAdd, Nat.reduceLT, Nat.reduceLeDiff, reduceCtorEq, List.map_cons, List.map_nil, List.append_nil, opnd, unc]))) ?_
    simp only [go_sem, if_true, if_false, reduceIte, Nat.reduceEqDiff, Nat.reduceAdd, Nat.reduceLT, Nat.reduceLeDiff, reduceCtorEq]
    refine hXq.quiet _ _ (OpG.of_BG rfl rfl rfl (by first | (simp only [go_sem, if_true, if_false, reduceIte, Nat.reduceEqDiff, Nat.reduceAdd, Nat.reduceLT, Nat.reduceLeDiff, reduceCtorEq]; done) | (simp [go_sem, if_true, if_false, reduceIte, Nat.reduceEqDiff, Nat.reduceAdd, Nat.reduceLT, Nat.reduceLeDiff, reduceCtorEq] <;> (intros; simp_all))) fun hc => opB_call rfl rfl (FSpec.nz (refShow W H p hl hp) (by simp [go_sem, if_true, if_false, reduceIte, Nat.reduceEqDiff, Nat.reduceAdd, Nat.reduceLT, Nat.reduceLeDiff, reduceCtorEq, List.map_cons, List.map_nil, List.append_nil, opnd, unc, beq_self_eq_true, Bool.not_true]))) ?_
    simp only [go_sem, if_true, if_false, reduceIte, Nat.reduceEqDiff, Nat.reduceAdd, Nat.reduceLT, Nat.reduceLeDiff, reduceCtorEq, beq_self_eq_true, Bool.not_true]
    refine hK1 _ _ ?_; clear hXq hK1 K1 Xq
    simp only [List.drop_zero, List.drop_succ_cons, go_sem, if_true, if_false, reduceIte, Nat.reduceEqDiff, Nat.reduceAdd, Nat.reduceLT, Nat.reduceLeDiff, reduceCtorEq]
    refine hK _ _ ?_; clear hXs hK K Xs
    show IW _ _ _ _ _ _ _ _
    repeat refine IW.seq ?_
    refine IW.cond rfl (fun hb5 => ?_) (fun hb5 => ?_)
    · simp at hb5
    · refine IW.skip ?_
      show IW _ _ _ _ _ _ _ _
      repeat refine IW.seq ?_
      refine IW.region_seq tab_ok [some 63, some 64, some 65, some 66, some 67, some 68, some 69, some 70, some 71, some 72, some 73, some 6] rfl fun X K hX hK => ?_
      simp only [go_sem, if_true, if_false, reduceIte, Nat.reduceEqDiff, Nat.reduceAdd, Nat.reduceLT, Nat.reduceLeDiff, reduceCtorEq]
      refine hX.quiet _ _ (OpG.of_B rfl (opB_call rfl rfl (FSpec.nz (kSameInk W H p W H p hl hl) (by simp [go_sem, if_true, if_false, reduceIte, Nat.reduceEqDiff, Nat.reduceAdd, Nat.reduceLT, Nat.reduceLeDiff, reduceCtorEq, List.map_cons, List.map_nil, List.append_nil, opnd, unc, and_self, decide_true])))) ?_
      simp only [go_sem, if_true, if_false, reduceIte, Nat.reduceEqDiff, Nat.reduceAdd, Nat.reduceLT, Nat.reduceLeDiff, reduceCtorEq, and_self, decide_true]
      refine ⟨by cases l.length <;> trivial, ?_⟩
      simp only [hun]
      refine hX.quiet _ _ (OpG.of_BG rfl rfl rfl (by first | (simp only [go_sem, if_true, if_false, reduceIte, Nat.reduceEqDiff, Nat.reduceAdd, Nat.reduceLT, Nat.reduceLeDiff, reduceCtorEq]; done) | (simp [go_sem, if_true, if_false, reduceIte, Nat.reduceEqDiff, Nat.reduceAdd, Nat.reduceLT, Nat.reduceLeDiff, reduceCtorEq] <;> (intros; simp_all))) fun hc => opB_call rfl rfl (FSpec.nz (kSameInts l l hll hll) (by simp [go_sem, if_true, if_false, reduceIte, Nat.reduceEqDiff, Nat.reduceAdd, Nat.reduceLT, Nat.reduceLeDiff, reduceCtorEq, List.map_cons, List.map_nil, List.append_nil, opnd, unc, decide_true]))) ?_
      simp only [go_sem, if_true, if_false, reduceIte, Nat.reduceEqDiff, Nat.reduceAdd, Nat.reduceLT, Nat.reduceLeDiff, reduceCtorEq, decide_true]
      refine hX.quiet _ _ (OpG.of_BG rfl rfl rfl (by first | (simp only [go_sem, if_true, if_false, reduceIte, Nat.reduceEqDiff, Nat.reduceAdd, Nat.reduceLT, Nat.reduceLeDiff, reduceCtorEq]; done) | (simp [go_sem, if_true, if_false, reduceIte, Nat.reduceEqDiff, Nat.reduceAdd, Nat.reduceLT, Nat.reduceLeDiff, reduceCtorEq] <;> (intros; simp_all))) fun hc => opB_call rfl rfl (FSpec.nz (fAwake) (by simp [go_sem, if_true, if_false, reduceIte, Nat.reduceEqDiff, Nat.reduceAdd, Nat.reduceLT, Nat.reduceLeDiff, reduceCtorEq, List.map_cons, List.map_nil, List.append_nil, opnd, unc]))) ?_
      simp only [go_sem, if_true, if_false, reduceIte, Nat.reduceEqDiff, Nat.reduceAdd, Nat.reduceLT, Nat.reduceLeDiff, reduceCtorEq]
      refine hK _ _ ?_; clear hX hK X K
      show IW _ _ _ _ _ _ _ _
      refine IW.ret (Fin.scal rfl rfl ?_)
      rfl
end Go.Proofs.Ytnbpbehlemaeoaa

set_option linter.unusedVariables false
set_option linter.unusedSimpArgs false
set_option maxRecDepth 10000
namespace Go.Proofs.Ytnbpbehlemaeoaa
open Go.IL
open Go.ChangeShapes Go.WideShapes Go.ChangeAt Go.RowKit Go.Joins
theorem u23 : Try.prog.underlying 23 = some (.slice 3) := by kernel_rfl
theorem c3 : Try.prog.cellsOf 3 = 1 := by kernel_rfl
theorem c56 : Try.prog.cellsOf 56 = 4 := by kernel_rfl
theorem u56 : ∃ f0 f1 f2 f3 : Field, Try.prog.underlying 56 = some (.struct #[f0, f1, f2, f3]) ∧ Go.Deep.oneCellFields Try.prog #[f0, f1, f2, f3] = true ∧ f0.type = 3 ∧ f1.type = 3 ∧ f2.type = 3 ∧ f3.type = 3 := by
  refine ⟨_, _, _, _, by rfl, ?_, ?_, ?_, ?_, ?_⟩
  · rfl
  · rfl
  · rfl
  · rfl
  · rfl
/-- Numbers that came in. -/
theorem nums_arg {H : Type} {enc : TypeId × Value → H} {w : World} {base : Nat} {v : Value} {d : DataW H} {p : List MemPlace} (hv : Value.okWide Try.prog w .any base 23 v) (h : DataW.Trod enc Try.prog w 0 (fun _ => true) true 23 v d p) :
    ∃ l : List Int, VRel (fun _ => none) (fun b => b < w.heap.size) (fun _ => False) w (.sl true (nums .i64 l)) v ∧ ∀ x ∈ l, I64 x := by
  obtain ⟨a0, len0, cap0, rfl⟩ := okWide_slice u23 hv
  obtain ⟨fuel, hf⟩ := h
  rcases open_ints u23 uint3 c3 hf with ⟨hcs, _⟩ | ⟨a, len, cap, zs, hcs, _, hl, hm, hz, _, hcell, hwz⟩
  · simp [Value.cells] at hcs
    obtain ⟨rfl, rfl, rfl⟩ := hcs
    exact ⟨[], nz_rel (s := .nils) .nils, by simp⟩
  · simp [Value.cells] at hcs
    obtain ⟨rfl, rfl, rfl⟩ := hcs
    refine ⟨zs.take len0, ints_arg hl hm (by simpa using hz) hcell, fun x hx => ?_⟩
    have := hwz x (List.mem_of_mem_take hx)
    simp [Lit.wf, IntKind.min, IntKind.max, IntKind.signed, IntKind.bits] at this
    unfold I64; omega
theorem i64_of {n : Int} (h : (Lit.int .i64 n).wf = true) : I64 n := by
  simp [Lit.wf, IntKind.min, IntKind.max, IntKind.signed, IntKind.bits] at h
  unfold I64; omega
/-- A rectangle that came in. -/
theorem rect_arg {H : Type} {enc : TypeId × Value → H} {w : World} {base : Nat} {v : Value} {d : DataW H} {p : List MemPlace} (hv : Value.okWide Try.prog w .any base 56 v) (h : DataW.Trod enc Try.prog w 0 (fun _ => true) true 56 v d p) :
    ∃ X Y RW RH : Int, VRel (fun _ => none) (fun b => b < w.heap.size) (fun _ => False) w (rectV X Y RW RH) v ∧ I64 X ∧ I64 Y ∧ I64 RW ∧ I64 RH := by
  obtain ⟨f0, f1, f2, f3, hu, hone, t0, t1, t2, t3⟩ := u56
  obtain ⟨c0, c1, c2, c3, y0, y1, y2, y3, m, rfl, -, -, hy0, hy1, hy2, hy3⟩ := open_agg4 hu hone c56 hv h
  obtain ⟨a, e0, -, wa⟩ := DataW.trod_int uint3 (trodAt hy0 t0)
  obtain ⟨b, e1, -, wb⟩ := DataW.trod_int uint3 (trodAt hy1 t1)
  obtain ⟨c, e2, -, wc⟩ := DataW.trod_int uint3 (trodAt hy2 t2)
  obtain ⟨e, e3, -, we⟩ := DataW.trod_int uint3 (trodAt hy3 t3)
  simp only [List.cons.injEq, and_true] at e0 e1 e2 e3
  subst e0 e1 e2 e3
  refine ⟨a, b, c, e, .agg _ _ rfl fun i s v h1 h2 => ?_, i64_of wa, i64_of wb, i64_of wc, i64_of we⟩
  match i with
  | 0 => cases h1; cases h2; exact .int _ _
  | 1 => cases h1; cases h2; exact .int _ _
  | 2 => cases h1; cases h2; exact .int _ _
  | 3 => cases h1; cases h2; exact .int _ _
  | i + 4 => simp at h1
/-- A number that came in. -/
theorem int_arg {H : Type} {enc : TypeId × Value → H} {w : World} {base : Nat} {v : Value} {d : DataW H} {p : List MemPlace} (hv : Value.okWide Try.prog w .any base 3 v) (h : DataW.Trod enc Try.prog w 0 (fun _ => true) true 3 v d p) :
    ∃ n : Int, VRel (fun _ => none) (fun b => b < w.heap.size) (fun _ => False) w (.int .i64 n) v ∧ I64 n := by
  obtain ⟨x, rfl, rfl, rfl, wx⟩ := open_int uint3 hv h
  exact ⟨x, .int _ _, i64_of wx⟩
/-- A truth that came in. -/
theorem bool_arg {H : Type} {enc : TypeId × Value → H} {w : World} {base : Nat} {v : Value} {d : DataW H} {p : List MemPlace} (hv : Value.okWide Try.prog w .any base 4 v) (h : DataW.Trod enc Try.prog w 0 (fun _ => true) true 4 v d p) :
    ∃ t : Bool, VRel (fun _ => none) (fun b => b < w.heap.size) (fun _ => False) w (.bool t) v := by
  obtain ⟨x, rfl, rfl, rfl⟩ := open_bool u4 hv h
  exact ⟨x, .bool _⟩
end Go.Proofs.Ytnbpbehlemaeoaa

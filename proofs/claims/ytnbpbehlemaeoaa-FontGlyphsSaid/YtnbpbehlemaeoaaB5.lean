/- Contracts of its functions on images. -/
import Derived.Test.YtnbpbehlemaeoaaB4
set_option linter.unusedVariables false
set_option linter.unusedSimpArgs false
set_option maxRecDepth 10000
namespace Go.Proofs.Ytnbpbehlemaeoaa
open Go.IL
theorem strs_length (l : List ByteArray) : (strs l).length = l.length := by simp [strs]
theorem strs_at {l : List ByteArray} {i : Nat} (h : i < l.length) : (strs l).getD i [] = [.str (l.getD i default)] := by simp [strs, h]
theorem strs_bnd (n : Nat) : ∀ l : List ByteArray, bndLL n (strs l) = true
  | [] => rfl
  | x :: xs => by show bndLL n ([SV.str x] :: strs xs) = true; simp [bndLL, bndL, SV.bnd, strs_bnd n xs]
theorem strs_rei (n : Nat) (h : Heap) (l : List ByteArray) : (strs l).map (fun x => x.map (rei (n + 1) h)) = strs l := by simp [strs, rei]
theorem strs_take (l : List ByteArray) : (strs l).take l.length = strs l := List.take_of_length_le (by simp [strs])
attribute [go_sem] Int.toNat_zero Int.toNat_natCast strs_length strs_bnd strs_rei strs_take
theorem fBlank (W H : Nat) (hb : W * H ≤ 1000000) (hw : W ≤ 1000000) (hh : H ≤ 1000000) : FSpec Try.prog 58 [.int .i64 W, .int .i64 H] (imgSV (some (W, H, List.replicate (W * H) 0))) (imgRows (some (W, H, List.replicate (W * H) 0))) := by
  refine FSpec.intro tab_ok Try.func58 rfl rfl rfl (by kernel_rfl) (by simp) fun w0 => ?_
  simp only [argTM, Nat.zero_add, Nat.reduceAdd]
  repeat refine IW.seq ?_
  refine IW.region_seq tab_ok [some 4] rfl fun X K hX hK => ?_
  simp only [go_sem, if_true, if_false, reduceIte, Nat.reduceEqDiff, Nat.reduceAdd, Nat.reduceLT, Nat.reduceLeDiff, reduceCtorEq]
  refine hK _ _ ?_; clear hX hK X K
  show IW _ _ _ _ _ _ _ _
  have e1 : IntKind.i64.wrap ((W : Int) * (H : Int)) = ((W * H : Nat) : Int) := by
    rw [← Int.natCast_mul]; exact wrap_eq (by omega) (by omega)
  repeat refine IW.seq ?_
  refine IW.region_seq tab_ok [some 5, some 6, some 7, some 8, some 9, some 10, some 11, none] rfl fun X K hX hK => ?_
  simp only [go_sem, if_true, if_false, reduceIte, Nat.reduceEqDiff, Nat.reduceAdd, Nat.reduceLT, Nat.reduceLeDiff, reduceCtorEq, e1]
  refine hX.quiet _ _ (OpG.of_B rfl (opB_makeSlice tab_ok (k := .i64) (n := W * H) (by simp only [go_sem, if_true, if_false, reduceIte, Nat.reduceEqDiff, Nat.reduceAdd, Nat.reduceLT, Nat.reduceLeDiff, reduceCtorEq]) rfl (by simp [go_sem, if_true, if_false, reduceIte, Nat.reduceEqDiff, Nat.reduceAdd, Nat.reduceLT, Nat.reduceLeDiff, reduceCtorEq]) (by simp [go_sem, if_true, if_false, reduceIte, Nat.reduceEqDiff, Nat.reduceAdd, Nat.reduceLT, Nat.reduceLeDiff, reduceCtorEq]; omega) (by omega))) ?_
  simp only [go_sem, if_true, if_false, reduceIte, Nat.reduceEqDiff, Nat.reduceAdd, Nat.reduceLT, Nat.reduceLeDiff, reduceCtorEq]
  refine hX.op _ _ rfl (opS_store tab_ok rfl (by simp [go_sem, if_true, if_false, reduceIte, Nat.reduceEqDiff, Nat.reduceAdd, Nat.reduceLT, Nat.reduceLeDiff, reduceCtorEq]) (by simp [go_sem, if_true, if_false, reduceIte, Nat.reduceEqDiff, Nat.reduceAdd, Nat.reduceLT, Nat.reduceLeDiff, reduceCtorEq]) (by simp [go_sem, if_true, if_false, reduceIte, Nat.reduceEqDiff, Nat.reduceAdd, Nat.reduceLT, Nat.reduceLeDiff, reduceCtorEq]) (by simp [go_sem, if_true, if_false, reduceIte, Nat.reduceEqDiff, Nat.reduceAdd, Nat.reduceLT, Nat.reduceLeDiff, reduceCtorEq]) (by simp [go_sem, if_true, if_false, reduceIte, Nat.reduceEqDiff, Nat.reduceAdd, Nat.reduceLT, Nat.reduceLeDiff, reduceCtorEq]) (by simp [go_sem, if_true, if_false, reduceIte, Nat.reduceEqDiff, Nat.reduceAdd, Nat.reduceLT, Nat.reduceLeDiff, reduceCtorEq])) ?_
  simp only [go_sem, if_true, if_false, reduceIte, Nat.reduceEqDiff, Nat.reduceAdd, Nat.reduceLT, Nat.reduceLeDiff, reduceCtorEq]
  refine hK _ _ ?_; clear hX hK X K
  show IW _ _ _ _ _ _ _ _
  refine IW.ret (Fin.cell1 1 ⟨trivial, by simp [go_sem, if_true, if_false, reduceIte, Nat.reduceEqDiff, Nat.reduceAdd, Nat.reduceLT, Nat.reduceLeDiff, reduceCtorEq]⟩ rfl (by simp [go_sem, if_true, if_false, reduceIte, Nat.reduceEqDiff, Nat.reduceAdd, Nat.reduceLT, Nat.reduceLeDiff, reduceCtorEq]) ?_ ?_)
  · simp [go_sem, if_true, if_false, reduceIte, Nat.reduceEqDiff, Nat.reduceAdd, Nat.reduceLT, Nat.reduceLeDiff, reduceCtorEq, imgSV]
  · simp [go_sem, if_true, if_false, reduceIte, Nat.reduceEqDiff, Nat.reduceAdd, Nat.reduceLT, Nat.reduceLeDiff, reduceCtorEq]
/-- The pixels of some rows, w wide. -/
def drawF (rows : List ByteArray) (w t : Nat) : Int := if sbAt (rows.getD (t / w) default) (t % w) = 35 then 1 else 0
def drawS (rows : List ByteArray) : Img := let w := (rows.getD 0 default).size; some (w, rows.length, (List.range (w * rows.length)).map (drawF rows w))
theorem fDraw (rows : List ByteArray) (w : Nat) (h0 : 0 < rows.length) (hw : ∀ i, i < rows.length → (rows.getD i default).size = w) (hb1 : rows.length ≤ 640) (hb2 : w ≤ 640) : FSpec Try.prog 53 [.sl true (strs rows)] (imgSV (drawS rows)) (imgRows (drawS rows)) := by
  have hw0 := hw 0 h0
  have hmul : w * rows.length ≤ 640 * 640 := Nat.mul_le_mul hb2 hb1
  simp only [drawS, hw0]
  generalize hn : rows.length = n at *
  refine FSpec.intro tab_ok Try.func53 rfl rfl rfl (by kernel_rfl) (by simp) fun w0 => ?_
  simp only [argTM, Nat.zero_add, Nat.reduceAdd]
  repeat refine IW.seq ?_
  refine IW.region_seq tab_ok [some 2] rfl fun X K hX hK => ?_
  simp only [go_sem, if_true, if_false, reduceIte, Nat.reduceEqDiff, Nat.reduceAdd, Nat.reduceLT, Nat.reduceLeDiff, reduceCtorEq]
  refine hK _ _ ?_; clear hX hK X K
  show IW _ _ _ _ _ _ _ _
  have hlt0 : 0 < rows.length := by omega
  repeat refine IW.seq ?_
  refine IW.region_seq tab_ok [some 7, some 8, some 9, some 10, some 11, some 12, some 13, some 3, none] rfl fun X K hX hK => ?_
  simp only [go_sem, if_true, if_false, reduceIte, Nat.reduceEqDiff, Nat.reduceAdd, Nat.reduceLT, Nat.reduceLeDiff, reduceCtorEq, strs_at hlt0, hw0, hn]
  refine ⟨⟨Int.le_refl _, by omega⟩, ?_⟩
  refine hX.quiet _ _ (OpG.of_B rfl (opB_call rfl rfl (FSpec.nz (fBlank w n (by omega) (by omega) (by omega)) (by simp [go_sem, if_true, if_false, reduceIte, Nat.reduceEqDiff, Nat.reduceAdd, Nat.reduceLT, Nat.reduceLeDiff, reduceCtorEq, List.map_cons, List.map_nil, List.append_nil, opnd, unc, imgSV, imgRows])))) ?_
  simp only [go_sem, if_true, if_false, reduceIte, Nat.reduceEqDiff, Nat.reduceAdd, Nat.reduceLT, Nat.reduceLeDiff, reduceCtorEq, imgSV, imgRows]
  refine hX.op _ _ rfl (opS_store tab_ok rfl (by simp [go_sem, if_true, if_false, reduceIte, Nat.reduceEqDiff, Nat.reduceAdd, Nat.reduceLT, Nat.reduceLeDiff, reduceCtorEq]) (by simp [go_sem, if_true, if_false, reduceIte, Nat.reduceEqDiff, Nat.reduceAdd, Nat.reduceLT, Nat.reduceLeDiff, reduceCtorEq]) (by simp [go_sem, if_true, if_false, reduceIte, Nat.reduceEqDiff, Nat.reduceAdd, Nat.reduceLT, Nat.reduceLeDiff, reduceCtorEq]) (by simp [go_sem, if_true, if_false, reduceIte, Nat.reduceEqDiff, Nat.reduceAdd, Nat.reduceLT, Nat.reduceLeDiff, reduceCtorEq]) (by simp [go_sem, if_true, if_false, reduceIte, Nat.reduceEqDiff, Nat.reduceAdd, Nat.reduceLT, Nat.reduceLeDiff, reduceCtorEq]) (by simp [go_sem, if_true, if_false, reduceIte, Nat.reduceEqDiff, Nat.reduceAdd, Nat.reduceLT, Nat.reduceLeDiff, reduceCtorEq])) ?_
  simp only [go_sem, if_true, if_false, reduceIte, Nat.reduceEqDiff, Nat.reduceAdd, Nat.reduceLT, Nat.reduceLeDiff, reduceCtorEq]
  refine hK _ _ ?_; clear hX hK X K
  show IW _ _ _ _ _ _ _ _
  repeat refine IW.seq ?_
  refine IW.region_seq tab_ok [some 14, some 15, some 16] rfl fun X K hX hK => ?_
  simp only [go_sem, if_true, if_false, reduceIte, Nat.reduceEqDiff, Nat.reduceAdd, Nat.reduceLT, Nat.reduceLeDiff, reduceCtorEq, hn]
  refine hK _ _ ?_; clear hX hK X K
  show IW _ _ _ _ _ _ _ _
  repeat refine IW.seq ?_
  refine IW.block ?_
  have hrow : ∀ {y : Nat}, y < n → y * w + w ≤ w * n := fun {y} hy => by
    have : (y + 1) * w ≤ n * w := Nat.mul_le_mul_right _ hy
    rw [Nat.add_mul] at this; rw [Nat.mul_comm w n]; omega
  refine IW.loop (α := {y : Nat // y ≤ n}) (fun y => [(2, .ptr 0 0 0), (3, .ptr 2 0 0), (14, .sl true (strs rows)), (15, .int .i64 n), (16, .int .i64 y.1)]) (fun y => [some ⟨3, 33, [[.int .i64 0, .int .i64 0, .nils]]⟩, some ⟨1, 5, nums .u8 (upto (drawF rows w) (w * n) (y.1 * w))⟩, some ⟨3, 33, [[.int .i64 w, .int .i64 n, .ref 1 0 (w * n)]]⟩]) (fun y => n - y.1) ⟨0, by omega⟩ ?_ fun ⟨y, hy⟩ => ?_
  · refine Ent.cut ?_ ?_ <;> simp only [go_sem, if_true, if_false, reduceIte, Nat.reduceEqDiff, Nat.reduceAdd, Nat.reduceLT, Nat.reduceLeDiff, reduceCtorEq, Nat.zero_mul, upto_zero, List.length_replicate]
  · simp only []
    repeat refine IW.seq ?_
    refine IW.region_seq tab_ok [some 17] rfl fun X K hX hK => ?_
    simp only [go_sem, if_true, if_false, reduceIte, Nat.reduceEqDiff, Nat.reduceAdd, Nat.reduceLT, Nat.reduceLeDiff, reduceCtorEq]
    refine hK _ _ ?_; clear hX hK X K
    show IW _ _ _ _ _ _ _ _
    repeat refine IW.seq ?_
    refine IW.cond rfl (fun hb1 => ?_) (fun hb1 => ?_)
    · refine IW.skip ?_
      show IW _ _ _ _ _ _ _ _
      simp only [decide_eq_true_eq] at hb1
      have hyh : y < n := by omega
      have hyr : y < rows.length := by omega
      have hr := hrow hyh
      refine IW.seq (IW.block ?_)
      repeat refine IW.seq ?_
      refine IW.region_seq tab_ok [some 18, some 19, some 20, some 4, some 5] rfl fun X K hX hK => ?_
      simp only [go_sem, if_true, if_false, reduceIte, Nat.reduceEqDiff, Nat.reduceAdd, Nat.reduceLT, Nat.reduceLeDiff, reduceCtorEq, Int.toNat_natCast, strs_at hyr, hn]
      refine ⟨⟨by omega, by omega⟩, ?_⟩
      refine hK _ _ ?_; clear hX hK X K
      show IW _ _ _ _ _ _ _ _
      repeat refine IW.seq ?_
      refine IW.region_seq tab_ok [some 21, some 22, some 23] rfl fun X K hX hK => ?_
      simp only [go_sem, if_true, if_false, reduceIte, Nat.reduceEqDiff, Nat.reduceAdd, Nat.reduceLT, Nat.reduceLeDiff, reduceCtorEq, hw y hyh]
      refine hK _ _ ?_; clear hX hK X K
      show IW _ _ _ _ _ _ _ _
      repeat refine IW.seq ?_
      refine IW.block ?_
      refine IW.loop (α := {x : Nat // x ≤ w}) (fun x => [(2, .ptr 0 0 0), (3, .ptr 2 0 0), (4, .int .i64 y), (5, .str (rows.getD y default)), (14, .sl true (strs rows)), (15, .int .i64 n), (16, .int .i64 y), (22, .int .i64 w), (23, .int .i64 x.1)]) (fun x => [some ⟨3, 33, [[.int .i64 0, .int .i64 0, .nils]]⟩, some ⟨1, 5, nums .u8 (upto (drawF rows w) (w * n) (y * w + x.1))⟩, some ⟨3, 33, [[.int .i64 w, .int .i64 n, .ref 1 0 (w * n)]]⟩]) (fun x => w - x.1) ⟨0, by omega⟩ ?_ fun ⟨x, hx⟩ => ?_
      · refine Ent.cut ?_ ?_ <;> simp only [go_sem, if_true, if_false, reduceIte, Nat.reduceEqDiff, Nat.reduceAdd, Nat.reduceLT, Nat.reduceLeDiff, reduceCtorEq, Nat.add_zero]
      · simp only []
        repeat refine IW.seq ?_
        refine IW.region_seq tab_ok [some 24] rfl fun X K hX hK => ?_
        simp only [go_sem, if_true, if_false, reduceIte, Nat.reduceEqDiff, Nat.reduceAdd, Nat.reduceLT, Nat.reduceLeDiff, reduceCtorEq]
        refine hK _ _ ?_; clear hX hK X K
        show IW _ _ _ _ _ _ _ _
        repeat refine IW.seq ?_
        refine IW.cond rfl (fun hb2 => ?_) (fun hb2 => ?_)
        · refine IW.skip ?_
          show IW _ _ _ _ _ _ _ _
          simp only [decide_eq_true_eq] at hb2
          have hxw : x < w := by omega
          have e1 : IntKind.i64.wrap ((y : Int) * (w : Int)) = ((y * w : Nat) : Int) := by
            rw [← Int.natCast_mul]; exact wrap_eq (by omega) (by omega)
          have e2 : IntKind.i64.wrap (((y * w : Nat) : Int) + (x : Int)) = ((y * w + x : Nat) : Int) := (wrap_eq (by omega) (by omega)).trans (by omega)
          have hdiv : (y * w + x) / w = y := by rw [Nat.mul_comm, Nat.mul_add_div (by omega), Nat.div_eq_of_lt hxw]; rfl
          have hmod : (y * w + x) % w = x := by rw [Nat.mul_comm, Nat.mul_add_mod, Nat.mod_eq_of_lt hxw]
          refine IW.seq (IW.block ?_)
          repeat refine IW.seq ?_
          refine IW.region_seq tab_ok [some 25, some 6] rfl fun X K hX hK => ?_
          simp only [go_sem, if_true, if_false, reduceIte, Nat.reduceEqDiff, Nat.reduceAdd, Nat.reduceLT, Nat.reduceLeDiff, reduceCtorEq]
          refine hK _ _ ?_; clear hX hK X K
          show IW _ _ _ _ _ _ _ _
          repeat refine IW.seq ?_
          refine IW.region_seq tab_ok [some 26, some 27, some 28, some 29] rfl fun X K hX hK => ?_
          simp only [go_sem, if_true, if_false, reduceIte, Nat.reduceEqDiff, Nat.reduceAdd, Nat.reduceLT, Nat.reduceLeDiff, reduceCtorEq, Int.toNat_natCast, hw y hyh]
          refine ⟨⟨by omega, by omega⟩, ?_⟩
          refine hK _ _ ?_; clear hX hK X K
          show IW _ _ _ _ _ _ _ _
          have hset := upto_set (drawF rows w) (w * n) (y * w + x)
          have hk2 : y * w + x < w * n := by omega
          repeat refine IW.seq ?_
          refine IW.cond rfl (fun hb3 => ?_) (fun hb3 => ?_)
          · have hk3 := nums_at (k := .u8) (xs := upto (drawF rows w) (w * n) (y * w + x)) (i := y * w + x) (by simp [upto_length, hk2])
            repeat refine IW.seq ?_
            refine IW.region_seq tab_ok [some 30, some 31, some 32, some 33, some 34, some 35, some 36, some 37, some 38, none] rfl fun X K hX hK => ?_
            simp only [go_sem, if_true, if_false, reduceIte, Nat.reduceEqDiff, Nat.reduceAdd, Nat.reduceLT, Nat.reduceLeDiff, reduceCtorEq, e1, e2]
            refine ⟨⟨by omega, by omega⟩, ?_⟩
            refine hX.op _ _ rfl (opS_store tab_ok rfl (by simp [go_sem, if_true, if_false, reduceIte, Nat.reduceEqDiff, Nat.reduceAdd, Nat.reduceLT, Nat.reduceLeDiff, reduceCtorEq]) (by simp [go_sem, if_true, if_false, reduceIte, Nat.reduceEqDiff, Nat.reduceAdd, Nat.reduceLT, Nat.reduceLeDiff, reduceCtorEq]) (by simp [go_sem, if_true, if_false, reduceIte, Nat.reduceEqDiff, Nat.reduceAdd, Nat.reduceLT, Nat.reduceLeDiff, reduceCtorEq]) (by simp [go_sem, if_true, if_false, reduceIte, Nat.reduceEqDiff, Nat.reduceAdd, Nat.reduceLT, Nat.reduceLeDiff, reduceCtorEq, hk2, hk3]) (by simp [go_sem, if_true, if_false, reduceIte, Nat.reduceEqDiff, Nat.reduceAdd, Nat.reduceLT, Nat.reduceLeDiff, reduceCtorEq]) (by simp [go_sem, if_true, if_false, reduceIte, Nat.reduceEqDiff, Nat.reduceAdd, Nat.reduceLT, Nat.reduceLeDiff, reduceCtorEq])) ?_
            simp only [go_sem, if_true, if_false, reduceIte, Nat.reduceEqDiff, Nat.reduceAdd, Nat.reduceLT, Nat.reduceLeDiff, reduceCtorEq, hk2, hk3]
            refine hK _ _ ?_; clear hX hK X K
            show IW _ _ _ _ _ _ _ _
            repeat refine IW.seq ?_
            refine IW.region_seq tab_ok [some 39, some 23] rfl fun X K hX hK => ?_
            simp only [go_sem, if_true, if_false, reduceIte, Nat.reduceEqDiff, Nat.reduceAdd, Nat.reduceLT, Nat.reduceLeDiff, reduceCtorEq, succ_wrap hxw (by omega)]
            refine hK _ _ ⟨⟨x + 1, hxw⟩, by simp only []; omega, ?_⟩
            have : drawF rows w (y * w + x) = 1 := by simp only [drawF, hdiv, hmod]; rw [if_pos (by simpa using hb3)]
            rw [this] at hset
            refine Ent.cut ?_ ?_ <;> simp only [go_sem, if_true, if_false, reduceIte, Nat.reduceEqDiff, Nat.reduceAdd, Nat.reduceLT, Nat.reduceLeDiff, reduceCtorEq, ← Nat.add_assoc, hset]
          · refine IW.skip ?_
            show IW _ _ _ _ _ _ _ _
            repeat refine IW.seq ?_
            refine IW.region_seq tab_ok [some 39, some 23] rfl fun X K hX hK => ?_
            simp only [go_sem, if_true, if_false, reduceIte, Nat.reduceEqDiff, Nat.reduceAdd, Nat.reduceLT, Nat.reduceLeDiff, reduceCtorEq, succ_wrap hxw (by omega)]
            refine hK _ _ ⟨⟨x + 1, hxw⟩, by simp only []; omega, ?_⟩
            have h0 : drawF rows w (y * w + x) = 0 := by simp only [drawF, hdiv, hmod]; rw [if_neg (by simpa using hb3)]
            have h1 : (upto (drawF rows w) (w * n) (y * w + x)).set (y * w + x) 0 = upto (drawF rows w) (w * n) (y * w + x) := by
              apply List.ext_getElem
              · simp
              · intro i h1 h2
                by_cases c : y * w + x = i
                · subst c; simp [upto]
                · rw [List.getElem_set_ne c]
            rw [h0, h1] at hset
            refine Ent.cut ?_ ?_ <;> simp only [go_sem, if_true, if_false, reduceIte, Nat.reduceEqDiff, Nat.reduceAdd, Nat.reduceLT, Nat.reduceLeDiff, reduceCtorEq, ← Nat.add_assoc, ← hset]
        · refine IW.exit ?_
          show IW _ _ _ _ _ _ _ _
          simp only [decide_eq_false_iff_not] at hb2
          have hxw : x = w := by omega
          subst hxw
          repeat refine IW.seq ?_
          refine IW.region_seq tab_ok [some 40, some 16] rfl fun X K hX hK => ?_
          simp only [go_sem, if_true, if_false, reduceIte, Nat.reduceEqDiff, Nat.reduceAdd, Nat.reduceLT, Nat.reduceLeDiff, reduceCtorEq, succ_wrap hyh (by omega)]
          refine hK _ _ ⟨⟨y + 1, hyh⟩, by simp only []; omega, ?_⟩
          refine Ent.cut ?_ ?_ <;> simp only [go_sem, if_true, if_false, reduceIte, Nat.reduceEqDiff, Nat.reduceAdd, Nat.reduceLT, Nat.reduceLeDiff, reduceCtorEq, Nat.add_mul, Nat.one_mul]
    · refine IW.exit ?_
      show IW _ _ _ _ _ _ _ _
      simp only [decide_eq_false_iff_not] at hb1
      have hyh : y = n := by omega
      subst hyh
      repeat refine IW.seq ?_
      refine IW.region_seq tab_ok [some 41, none] rfl fun X K hX hK => ?_
      simp only [go_sem, if_true, if_false, reduceIte, Nat.reduceEqDiff, Nat.reduceAdd, Nat.reduceLT, Nat.reduceLeDiff, reduceCtorEq]
      refine hX.op _ _ rfl (opS_store tab_ok rfl (by simp [go_sem, if_true, if_false, reduceIte, Nat.reduceEqDiff, Nat.reduceAdd, Nat.reduceLT, Nat.reduceLeDiff, reduceCtorEq]) (by simp [go_sem, if_true, if_false, reduceIte, Nat.reduceEqDiff, Nat.reduceAdd, Nat.reduceLT, Nat.reduceLeDiff, reduceCtorEq]) (by simp [go_sem, if_true, if_false, reduceIte, Nat.reduceEqDiff, Nat.reduceAdd, Nat.reduceLT, Nat.reduceLeDiff, reduceCtorEq]) (by simp [go_sem, if_true, if_false, reduceIte, Nat.reduceEqDiff, Nat.reduceAdd, Nat.reduceLT, Nat.reduceLeDiff, reduceCtorEq]) (by simp [go_sem, if_true, if_false, reduceIte, Nat.reduceEqDiff, Nat.reduceAdd, Nat.reduceLT, Nat.reduceLeDiff, reduceCtorEq]) (by simp [go_sem, if_true, if_false, reduceIte, Nat.reduceEqDiff, Nat.reduceAdd, Nat.reduceLT, Nat.reduceLeDiff, reduceCtorEq])) ?_
      simp only [go_sem, if_true, if_false, reduceIte, Nat.reduceEqDiff, Nat.reduceAdd, Nat.reduceLT, Nat.reduceLeDiff, reduceCtorEq]
      refine hK _ _ ?_; clear hX hK X K
      show IW _ _ _ _ _ _ _ _
      refine IW.ret (Fin.cell1 1 ⟨trivial, by simp [go_sem, if_true, if_false, reduceIte, Nat.reduceEqDiff, Nat.reduceAdd, Nat.reduceLT, Nat.reduceLeDiff, reduceCtorEq]⟩ rfl (by simp [go_sem, if_true, if_false, reduceIte, Nat.reduceEqDiff, Nat.reduceAdd, Nat.reduceLT, Nat.reduceLeDiff, reduceCtorEq]) ?_ ?_)
      · simp [go_sem, if_true, if_false, reduceIte, Nat.reduceEqDiff, Nat.reduceAdd, Nat.reduceLT, Nat.reduceLeDiff, reduceCtorEq, imgSV]
      · simp [go_sem, if_true, if_false, reduceIte, Nat.reduceEqDiff, Nat.reduceAdd, Nat.reduceLT, Nat.reduceLeDiff, reduceCtorEq, Nat.mul_comm y w, upto_all]
end Go.Proofs.Ytnbpbehlemaeoaa

set_option linter.unusedVariables false
set_option linter.unusedSimpArgs false
set_option maxRecDepth 10000
namespace Go.Proofs.Ytnbpbehlemaeoaa
open Go.IL
/-- A glyph, or none. -/
def glyphSV (r : Img) : SV := .tup [imgSV r, .int .i64 (match r with | some _ => 0 | none => 20)]
theorem strs_def (l : List ByteArray) : l.map (fun s => [SV.str s]) = strs l := rfl
theorem strs_ren (σ : Nat → Nat) (l : List ByteArray) : renLL σ (strs l) = strs l := by rw [renLL_map]; simp [strs, renL, SV.ren]
theorem strs_nomap : ∀ l : List ByteArray, nomapLL (strs l) = true
  | [] => rfl
  | x :: xs => by show nomapLL ([SV.str x] :: strs xs) = true; simp [nomapLL, nomapL, SV.nomap, strs_nomap xs]
attribute [go_sem] strs_nomap strs_ren
theorem fGlyph21 : FSpec Try.prog 18 [.int .i64 2, .int .i64 1] (glyphSV (drawS (drw2.getD 0 default).2)) (imgRows (drawS (drw2.getD 0 default).2)) := by
  refine FSpec.intro tab_ok Try.func18 rfl rfl rfl (by kernel_rfl) (by simp) fun w0 => ?_
  simp only [argTM, Nat.zero_add, Nat.reduceAdd]
  repeat refine IW.seq ?_
  refine IW.region_seq tab_ok [some 4, some 5] rfl fun X K hX hK => ?_
  simp only [go_sem, if_true, if_false, reduceIte, Nat.reduceEqDiff, Nat.reduceAdd, Nat.reduceLT, Nat.reduceLeDiff, reduceCtorEq]
  refine hK _ _ ?_; clear hX hK X K
  show IW _ _ _ _ _ _ _ _
  repeat refine IW.seq ?_
  refine IW.region_seq tab_ok [some 9, some 10, some 11, some 12, some 8, some 13, some 14, some 6, some 7] rfl fun X K hX hK => ?_
  simp only [go_sem, if_true, if_false, reduceIte, Nat.reduceEqDiff, Nat.reduceAdd, Nat.reduceLT, Nat.reduceLeDiff, reduceCtorEq]
  refine hX.quiet _ _ (OpG.of_B rfl (opB_call rfl rfl (FSpec.nz (fDraw2) (by simp [go_sem, if_true, if_false, reduceIte, Nat.reduceEqDiff, Nat.reduceAdd, Nat.reduceLT, Nat.reduceLeDiff, reduceCtorEq, List.map_cons, List.map_nil, List.append_nil, opnd, unc, mapSV, drw2, mapE, mapRows, List.map_cons, List.map_nil])))) ?_
  simp only [go_sem, if_true, if_false, reduceIte, Nat.reduceEqDiff, Nat.reduceAdd, Nat.reduceLT, Nat.reduceLeDiff, reduceCtorEq, mapSV, drw2, mapE, mapRows, List.map_cons, List.map_nil]
  refine hX.quiet _ _ (OpG.of_B rfl (opB_lookup tab_ok rfl rfl m72 u3 (by simp [go_sem, if_true, if_false, reduceIte, Nat.reduceEqDiff, Nat.reduceAdd, Nat.reduceLT, Nat.reduceLeDiff, reduceCtorEq]) rfl rfl (by simp [go_sem, if_true, if_false, reduceIte, Nat.reduceEqDiff, Nat.reduceAdd, Nat.reduceLT, Nat.reduceLeDiff, reduceCtorEq]))) ?_
  simp only [go_sem, if_true, if_false, reduceIte, Nat.reduceEqDiff, Nat.reduceAdd, Nat.reduceLT, Nat.reduceLeDiff, reduceCtorEq, Int.reduceBEq, beq_self_eq_true]
  refine hK _ _ ?_; clear hX hK X K
  show IW _ _ _ _ _ _ _ _
  repeat refine IW.seq ?_
  refine IW.region_seq tab_ok [some 15, some 16] rfl fun X K hX hK => ?_
  simp only [go_sem, if_true, if_false, reduceIte, Nat.reduceEqDiff, Nat.reduceAdd, Nat.reduceLT, Nat.reduceLeDiff, reduceCtorEq]
  refine hK _ _ ?_; clear hX hK X K
  show IW _ _ _ _ _ _ _ _
  repeat refine IW.seq ?_
  refine IW.cond rfl (fun hb => absurd hb (by decide)) (fun hb => ?_)
  refine IW.skip ?_
  show IW _ _ _ _ _ _ _ _
  repeat refine IW.seq ?_
  refine IW.region_seq tab_ok [some 18, some 19, none, some 5] rfl fun X K hX hK => ?_
  simp only [go_sem, if_true, if_false, reduceIte, Nat.reduceEqDiff, Nat.reduceAdd, Nat.reduceLT, Nat.reduceLeDiff, reduceCtorEq]
  refine hX.quiet _ _ (OpG.of_B rfl (opB_call rfl rfl (FSpec.nz (fDraw (drw2.getD 0 default).2 4 (by decide) (by decide) (by decide) (by decide)) rfl))) ?_
  simp only [go_sem, if_true, if_false, reduceIte, Nat.reduceEqDiff, Nat.reduceAdd, Nat.reduceLT, Nat.reduceLeDiff, reduceCtorEq, imgSV, imgRows, drawS, List.map_cons, List.map_nil]
  refine hX.op _ _ rfl (opS_store tab_ok rfl (by simp [go_sem, if_true, if_false, reduceIte, Nat.reduceEqDiff, Nat.reduceAdd, Nat.reduceLT, Nat.reduceLeDiff, reduceCtorEq]) (by simp [go_sem, if_true, if_false, reduceIte, Nat.reduceEqDiff, Nat.reduceAdd, Nat.reduceLT, Nat.reduceLeDiff, reduceCtorEq]) (by simp [go_sem, if_true, if_false, reduceIte, Nat.reduceEqDiff, Nat.reduceAdd, Nat.reduceLT, Nat.reduceLeDiff, reduceCtorEq]) (by simp [go_sem, if_true, if_false, reduceIte, Nat.reduceEqDiff, Nat.reduceAdd, Nat.reduceLT, Nat.reduceLeDiff, reduceCtorEq]) (by simp [go_sem, if_true, if_false, reduceIte, Nat.reduceEqDiff, Nat.reduceAdd, Nat.reduceLT, Nat.reduceLeDiff, reduceCtorEq]) (by simp [go_sem, if_true, if_false, reduceIte, Nat.reduceEqDiff, Nat.reduceAdd, Nat.reduceLT, Nat.reduceLeDiff, reduceCtorEq])) ?_
  simp only [go_sem, if_true, if_false, reduceIte, Nat.reduceEqDiff, Nat.reduceAdd, Nat.reduceLT, Nat.reduceLeDiff, reduceCtorEq]
  refine hK _ _ ?_; clear hX hK X K
  show IW _ _ _ _ _ _ _ _
  refine IW.ret ⟨⟨⟨trivial, by simp [go_sem, if_true, if_false, reduceIte, Nat.reduceEqDiff, Nat.reduceAdd, Nat.reduceLT, Nat.reduceLeDiff, reduceCtorEq]⟩, trivial, trivial⟩, rfl, ?_, [4], rfl, by simp, ?_, ?_⟩
  · rfl
  · rfl
  · exact ⟨rfl, trivial⟩
theorem fSize1 : FSpec Try.prog 13 [.int .i64 1] (.tup [.int .i64 6, .int .i64 5]) [] := by
  refine FSpec.intro tab_ok Try.func13 rfl rfl rfl (by kernel_rfl) (by simp) fun w0 => ?_
  simp only [argTM, Nat.zero_add, Nat.reduceAdd]
  repeat refine IW.seq ?_
  refine IW.region_seq tab_ok [some 2, some 3] rfl fun X K hX hK => ?_
  simp only [go_sem, if_true, if_false, reduceIte, Nat.reduceEqDiff, Nat.reduceAdd, Nat.reduceLT, Nat.reduceLeDiff, reduceCtorEq]
  refine hK _ _ ?_; clear hX hK X K
  show IW _ _ _ _ _ _ _ _
  repeat refine IW.seq ?_
  refine IW.region_seq tab_ok [some 6, some 7, some 8] rfl fun X K hX hK => ?_
  simp only [go_sem, if_true, if_false, reduceIte, Nat.reduceEqDiff, Nat.reduceAdd, Nat.reduceLT, Nat.reduceLeDiff, reduceCtorEq]
  refine hX.quiet _ _ (OpG.of_B rfl (opB_call rfl rfl (FSpec.nz (fDraw1) (by simp [go_sem, if_true, if_false, reduceIte, Nat.reduceEqDiff, Nat.reduceAdd, Nat.reduceLT, Nat.reduceLeDiff, reduceCtorEq, List.map_cons, List.map_nil, List.append_nil, opnd, unc, mapSV, drw1, mapE, mapRows, List.map_cons, List.map_nil])))) ?_
  simp only [go_sem, if_true, if_false, reduceIte, Nat.reduceEqDiff, Nat.reduceAdd, Nat.reduceLT, Nat.reduceLeDiff, reduceCtorEq, mapSV, drw1, mapE, mapRows, List.map_cons, List.map_nil]
  refine hX.quiet _ _ (OpG.of_B rfl (opB_range rfl m72)) ?_
  simp only [go_sem, if_true, if_false, reduceIte, Nat.reduceEqDiff, Nat.reduceAdd, Nat.reduceLT, Nat.reduceLeDiff, reduceCtorEq]
  refine hK _ _ ?_; clear hX hK X K
  show IW _ _ _ _ _ _ _ _
  repeat refine IW.seq ?_
  refine IW.block ?_
  generalize hh : ([_, _, _] : Heap) = hp
  refine IW.loop (α := Unit) (fun _ => [(8, .it false [[.int .i64 1, .ref 0 0 5], [.int .i64 2, .ref 1 0 5], [.int .i64 3, .ref 2 0 5]] [])]) (fun _ => hp) (fun _ => 0) () ?_ fun _ => ?_
  · subst hh
    refine Ent.cut ?_ ?_ <;> simp only [go_sem, if_true, if_false, reduceIte, Nat.reduceEqDiff, Nat.reduceAdd, Nat.reduceLT, Nat.reduceLeDiff, reduceCtorEq]
  · subst hh
    show IW _ _ _ _ _ _ _ _
    repeat refine IW.seq ?_
    refine IW.region_seq tab_ok [some 9, some 10] rfl fun X K hX hK => ?_
    simp only [go_sem, if_true, if_false, reduceIte, Nat.reduceEqDiff, Nat.reduceAdd, Nat.reduceLT, Nat.reduceLeDiff, reduceCtorEq]
    refine hX.opn _ _ rfl (opN_next rfl (by simp [go_sem, if_true, if_false, reduceIte, Nat.reduceEqDiff, Nat.reduceAdd, Nat.reduceLT, Nat.reduceLeDiff, reduceCtorEq]) (by simp [go_sem, if_true, if_false, reduceIte, Nat.reduceEqDiff, Nat.reduceAdd, Nat.reduceLT, Nat.reduceLeDiff, reduceCtorEq]) (by intro d e; cases e; decide)) fun c hc => ?_
    match c, hc with
    | none, hc => exact absurd (hc 0 (by decide)) (by simp)
    | some j, hc =>
      simp only [nextTo, go_sem, if_true, if_false, reduceIte, Nat.reduceEqDiff, Nat.reduceAdd, Nat.reduceLT, Nat.reduceLeDiff, reduceCtorEq, List.nil_append]
      refine hK _ _ ?_; clear hX hK X K
      show IW _ _ _ _ _ _ _ _
      repeat refine IW.seq ?_
      refine IW.cond rfl (fun hb => ?_) (fun hb => absurd hb (by decide))
      refine IW.skip ?_
      show IW _ _ _ _ _ _ _ _
      repeat refine IW.seq ?_
      refine IW.block ?_
      have hj : j = 0 ∨ j = 1 ∨ j = 2 := by have := hc.1; simp at this; omega
      rcases hj with rfl | rfl | rfl
      · repeat refine IW.seq ?_
        refine IW.region_seq tab_ok [some 11, some 12, some 5] rfl fun X K hX hK => ?_
        simp only [go_sem, if_true, if_false, reduceIte, Nat.reduceEqDiff, Nat.reduceAdd, Nat.reduceLT, Nat.reduceLeDiff, reduceCtorEq]
        refine hX.quiet _ _ (OpG.of_B rfl (opB_entry (seen := []) (j := 0) rfl (by simp [go_sem, if_true, if_false, reduceIte, Nat.reduceEqDiff, Nat.reduceAdd, Nat.reduceLT, Nat.reduceLeDiff, reduceCtorEq]))) ?_
        simp only [go_sem, if_true, if_false, reduceIte, Nat.reduceEqDiff, Nat.reduceAdd, Nat.reduceLT, Nat.reduceLeDiff, reduceCtorEq]
        refine hK _ _ ?_; clear hX hK X K
        show IW _ _ _ _ _ _ _ _
        repeat refine IW.seq ?_
        refine IW.region_seq tab_ok [some 13, some 14, some 15, some 16, some 17, some 18, some 2, some 3] rfl fun X K hX hK => ?_
        simp only [go_sem, if_true, if_false, reduceIte, Nat.reduceEqDiff, Nat.reduceAdd, Nat.reduceLT, Nat.reduceLeDiff, reduceCtorEq, strs, List.map_cons, List.map_nil]
        try refine ⟨⟨by decide, by decide⟩, ?_⟩
        refine hK _ _ ?_; clear hX hK X K
        show IW _ _ _ _ _ _ _ _
        exact IW.ret ⟨⟨trivial, trivial, trivial⟩, rfl, rfl, [], rfl, List.nodup_nil, rfl, trivial⟩
      · repeat refine IW.seq ?_
        refine IW.region_seq tab_ok [some 11, some 12, some 5] rfl fun X K hX hK => ?_
        simp only [go_sem, if_true, if_false, reduceIte, Nat.reduceEqDiff, Nat.reduceAdd, Nat.reduceLT, Nat.reduceLeDiff, reduceCtorEq]
        refine hX.quiet _ _ (OpG.of_B rfl (opB_entry (seen := []) (j := 1) rfl (by simp [go_sem, if_true, if_false, reduceIte, Nat.reduceEqDiff, Nat.reduceAdd, Nat.reduceLT, Nat.reduceLeDiff, reduceCtorEq]))) ?_
        simp only [go_sem, if_true, if_false, reduceIte, Nat.reduceEqDiff, Nat.reduceAdd, Nat.reduceLT, Nat.reduceLeDiff, reduceCtorEq]
        refine hK _ _ ?_; clear hX hK X K
        show IW _ _ _ _ _ _ _ _
        repeat refine IW.seq ?_
        refine IW.region_seq tab_ok [some 13, some 14, some 15, some 16, some 17, some 18, some 2, some 3] rfl fun X K hX hK => ?_
        simp only [go_sem, if_true, if_false, reduceIte, Nat.reduceEqDiff, Nat.reduceAdd, Nat.reduceLT, Nat.reduceLeDiff, reduceCtorEq, strs, List.map_cons, List.map_nil]
        try refine ⟨⟨by decide, by decide⟩, ?_⟩
        refine hK _ _ ?_; clear hX hK X K
        show IW _ _ _ _ _ _ _ _
        exact IW.ret ⟨⟨trivial, trivial, trivial⟩, rfl, rfl, [], rfl, List.nodup_nil, rfl, trivial⟩
      · repeat refine IW.seq ?_
        refine IW.region_seq tab_ok [some 11, some 12, some 5] rfl fun X K hX hK => ?_
        simp only [go_sem, if_true, if_false, reduceIte, Nat.reduceEqDiff, Nat.reduceAdd, Nat.reduceLT, Nat.reduceLeDiff, reduceCtorEq]
        refine hX.quiet _ _ (OpG.of_B rfl (opB_entry (seen := []) (j := 2) rfl (by simp [go_sem, if_true, if_false, reduceIte, Nat.reduceEqDiff, Nat.reduceAdd, Nat.reduceLT, Nat.reduceLeDiff, reduceCtorEq]))) ?_
        simp only [go_sem, if_true, if_false, reduceIte, Nat.reduceEqDiff, Nat.reduceAdd, Nat.reduceLT, Nat.reduceLeDiff, reduceCtorEq]
        refine hK _ _ ?_; clear hX hK X K
        show IW _ _ _ _ _ _ _ _
        repeat refine IW.seq ?_
        refine IW.region_seq tab_ok [some 13, some 14, some 15, some 16, some 17, some 18, some 2, some 3] rfl fun X K hX hK => ?_
        simp only [go_sem, if_true, if_false, reduceIte, Nat.reduceEqDiff, Nat.reduceAdd, Nat.reduceLT, Nat.reduceLeDiff, reduceCtorEq, strs, List.map_cons, List.map_nil]
        try refine ⟨⟨by decide, by decide⟩, ?_⟩
        refine hK _ _ ?_; clear hX hK X K
        show IW _ _ _ _ _ _ _ _
        exact IW.ret ⟨⟨trivial, trivial, trivial⟩, rfl, rfl, [], rfl, List.nodup_nil, rfl, trivial⟩
end Go.Proofs.Ytnbpbehlemaeoaa

set_option linter.unusedVariables false
set_option linter.unusedSimpArgs false
set_option maxRecDepth 10000
namespace Go.Proofs.Ytnbpbehlemaeoaa
open Go.IL
theorem fIndex (l : List Int) (n : Int) (hl : l.length ≤ 1000000) : ∃ m : Int, (0 ≤ m ↔ hasS l n = true) ∧ FSpec Try.prog 82 [.sl true (nums .i64 l), .int .i64 n] (.int .i64 m) [] := by
  have key : ∀ (i : Nat), i ≤ l.length → (∀ j, j < i → l.getD j 0 ≠ n) → True := fun _ _ _ => trivial
  by_cases hex : ∃ i, i < l.length ∧ l.getD i 0 = n ∧ ∀ j, j < i → l.getD j 0 ≠ n
  · obtain ⟨i0, h1, h2, h3⟩ := hex
    refine ⟨i0, ⟨fun _ => List.any_eq_true.2 ⟨_, getD_mem h1, by simpa using h2⟩, fun _ => by omega⟩, ?_⟩
    refine FSpec.intro tab_ok Try.func82 rfl rfl rfl (by kernel_rfl) (by simp) fun w0 => ?_
    simp only [argTM, Nat.zero_add, Nat.reduceAdd]
    repeat refine IW.seq ?_
    refine IW.region_seq tab_ok [some 4] rfl fun X K hX hK => ?_
    simp only [go_sem, if_true, if_false, reduceIte, Nat.reduceEqDiff, Nat.reduceAdd, Nat.reduceLT, Nat.reduceLeDiff, reduceCtorEq]
    refine hK _ _ ?_; clear hX hK X K
    show IW _ _ _ _ _ _ _ _
    repeat refine IW.seq ?_
    refine IW.region_seq tab_ok [some 6, some 7, some 8] rfl fun X K hX hK => ?_
    simp only [go_sem, if_true, if_false, reduceIte, Nat.reduceEqDiff, Nat.reduceAdd, Nat.reduceLT, Nat.reduceLeDiff, reduceCtorEq]
    refine hK _ _ ?_; clear hX hK X K
    show IW _ _ _ _ _ _ _ _
    repeat refine IW.seq ?_
    refine IW.block ?_
    refine IW.loop (α := {i : Nat // i ≤ i0}) (fun i => [(0, .sl true (nums .i64 l)), (1, .int .i64 n), (7, .int .i64 l.length), (8, .int .i64 i.1)]) (fun _ => []) (fun i => i0 - i.1) ⟨0, by omega⟩ ?_ fun ⟨i, hi⟩ => ?_
    · refine Ent.cut ?_ ?_ <;> simp only [go_sem, if_true, if_false, reduceIte, Nat.reduceEqDiff, Nat.reduceAdd, Nat.reduceLT, Nat.reduceLeDiff, reduceCtorEq]
    · simp only []
      have hlt : i < l.length := by omega
      repeat refine IW.seq ?_
      refine IW.region_seq tab_ok [some 9] rfl fun X K hX hK => ?_
      simp only [go_sem, if_true, if_false, reduceIte, Nat.reduceEqDiff, Nat.reduceAdd, Nat.reduceLT, Nat.reduceLeDiff, reduceCtorEq]
      refine hK _ _ ?_; clear hX hK X K
      show IW _ _ _ _ _ _ _ _
      repeat refine IW.seq ?_
      refine IW.cond rfl (fun hb1 => ?_) (fun hb1 => ?_)
      · refine IW.skip ?_
        show IW _ _ _ _ _ _ _ _
        repeat refine IW.seq ?_
        refine IW.block ?_
        repeat refine IW.seq ?_
        refine IW.region_seq tab_ok [some 10, some 5] rfl fun X K hX hK => ?_
        simp only [go_sem, if_true, if_false, reduceIte, Nat.reduceEqDiff, Nat.reduceAdd, Nat.reduceLT, Nat.reduceLeDiff, reduceCtorEq]
        refine hK _ _ ?_; clear hX hK X K
        show IW _ _ _ _ _ _ _ _
        repeat refine IW.seq ?_
        refine IW.region_seq tab_ok [some 11, some 12, some 13, some 14, some 15, some 16] rfl fun X K hX hK => ?_
        simp only [go_sem, if_true, if_false, reduceIte, Nat.reduceEqDiff, Nat.reduceAdd, Nat.reduceLT, Nat.reduceLeDiff, reduceCtorEq, nums_at hlt]
        refine ⟨⟨by omega, by omega⟩, ?_⟩
        refine hK _ _ ?_; clear hX hK X K
        show IW _ _ _ _ _ _ _ _
        repeat refine IW.seq ?_
        refine IW.cond rfl (fun hb2 => ?_) (fun hb2 => ?_)
        · repeat refine IW.seq ?_
          refine IW.region_seq tab_ok [some 17, some 4] rfl fun X K hX hK => ?_
          simp only [go_sem, if_true, if_false, reduceIte, Nat.reduceEqDiff, Nat.reduceAdd, Nat.reduceLT, Nat.reduceLeDiff, reduceCtorEq]
          refine hK _ _ ?_; clear hX hK X K
          show IW _ _ _ _ _ _ _ _
          refine IW.ret (Fin.scal rfl rfl ?_)
          simp only [beq_iff_eq] at hb2
          have : i = i0 := by
            rcases Nat.lt_or_ge i i0 with h | h
            · exact absurd hb2.symm (h3 i h)
            · omega
          subst this; rfl
        · refine IW.skip ?_
          show IW _ _ _ _ _ _ _ _
          simp only [beq_eq_false_iff_ne, ne_eq] at hb2
          have hne : i ≠ i0 := by rintro rfl; exact hb2 h2.symm
          repeat refine IW.seq ?_
          refine IW.region_seq tab_ok [some 18, some 8] rfl fun X K hX hK => ?_
          simp only [go_sem, if_true, if_false, reduceIte, Nat.reduceEqDiff, Nat.reduceAdd, Nat.reduceLT, Nat.reduceLeDiff, reduceCtorEq, succ_wrap hlt (by omega)]
          refine hK _ _ ⟨⟨i + 1, by omega⟩, by simp only []; omega, ?_⟩
          refine Ent.cut ?_ ?_ <;> simp only [go_sem, if_true, if_false, reduceIte, Nat.reduceEqDiff, Nat.reduceAdd, Nat.reduceLT, Nat.reduceLeDiff, reduceCtorEq]
      · exfalso; simp only [decide_eq_false_iff_not] at hb1; omega
  · have hall : ∀ i, i < l.length → l.getD i 0 ≠ n := by
      intro i
      induction i using Nat.strongRecOn with
      | _ i ih => intro hi e; exact hex ⟨i, hi, e, fun j hj => ih j hj (by omega)⟩
    refine ⟨-1, ⟨fun h => by omega, fun h => ?_⟩, ?_⟩
    · obtain ⟨x, hx, e⟩ := List.any_eq_true.1 h
      obtain ⟨j, hj, rfl⟩ := List.mem_iff_getElem.1 hx
      exact absurd (by simpa [hj] using e) (hall j hj)
    · refine FSpec.intro tab_ok Try.func82 rfl rfl rfl (by kernel_rfl) (by simp) fun w0 => ?_
      simp only [argTM, Nat.zero_add, Nat.reduceAdd]
      repeat refine IW.seq ?_
      refine IW.region_seq tab_ok [some 4] rfl fun X K hX hK => ?_
      simp only [go_sem, if_true, if_false, reduceIte, Nat.reduceEqDiff, Nat.reduceAdd, Nat.reduceLT, Nat.reduceLeDiff, reduceCtorEq]
      refine hK _ _ ?_; clear hX hK X K
      show IW _ _ _ _ _ _ _ _
      repeat refine IW.seq ?_
      refine IW.region_seq tab_ok [some 6, some 7, some 8] rfl fun X K hX hK => ?_
      simp only [go_sem, if_true, if_false, reduceIte, Nat.reduceEqDiff, Nat.reduceAdd, Nat.reduceLT, Nat.reduceLeDiff, reduceCtorEq]
      refine hK _ _ ?_; clear hX hK X K
      show IW _ _ _ _ _ _ _ _
      repeat refine IW.seq ?_
      refine IW.block ?_
      refine IW.loop (α := {i : Nat // i ≤ l.length}) (fun i => [(0, .sl true (nums .i64 l)), (1, .int .i64 n), (7, .int .i64 l.length), (8, .int .i64 i.1)]) (fun _ => []) (fun i => l.length - i.1) ⟨0, by omega⟩ ?_ fun ⟨i, hi⟩ => ?_
      · refine Ent.cut ?_ ?_ <;> simp only [go_sem, if_true, if_false, reduceIte, Nat.reduceEqDiff, Nat.reduceAdd, Nat.reduceLT, Nat.reduceLeDiff, reduceCtorEq]
      · simp only []
        repeat refine IW.seq ?_
        refine IW.region_seq tab_ok [some 9] rfl fun X K hX hK => ?_
        simp only [go_sem, if_true, if_false, reduceIte, Nat.reduceEqDiff, Nat.reduceAdd, Nat.reduceLT, Nat.reduceLeDiff, reduceCtorEq]
        refine hK _ _ ?_; clear hX hK X K
        show IW _ _ _ _ _ _ _ _
        repeat refine IW.seq ?_
        refine IW.cond rfl (fun hb1 => ?_) (fun hb1 => ?_)
        · refine IW.skip ?_
          show IW _ _ _ _ _ _ _ _
          simp only [decide_eq_true_eq] at hb1
          have hlt : i < l.length := by omega
          repeat refine IW.seq ?_
          refine IW.block ?_
          repeat refine IW.seq ?_
          refine IW.region_seq tab_ok [some 10, some 5] rfl fun X K hX hK => ?_
          simp only [go_sem, if_true, if_false, reduceIte, Nat.reduceEqDiff, Nat.reduceAdd, Nat.reduceLT, Nat.reduceLeDiff, reduceCtorEq]
          refine hK _ _ ?_; clear hX hK X K
          show IW _ _ _ _ _ _ _ _
          repeat refine IW.seq ?_
          refine IW.region_seq tab_ok [some 11, some 12, some 13, some 14, some 15, some 16] rfl fun X K hX hK => ?_
          simp only [go_sem, if_true, if_false, reduceIte, Nat.reduceEqDiff, Nat.reduceAdd, Nat.reduceLT, Nat.reduceLeDiff, reduceCtorEq, nums_at hlt]
          refine ⟨⟨by omega, by omega⟩, ?_⟩
          refine hK _ _ ?_; clear hX hK X K
          show IW _ _ _ _ _ _ _ _
          repeat refine IW.seq ?_
          refine IW.cond rfl (fun hb2 => ?_) (fun hb2 => ?_)
          · exfalso; simp only [beq_iff_eq] at hb2; exact hall i hlt hb2.symm
          · refine IW.skip ?_
            show IW _ _ _ _ _ _ _ _
            repeat refine IW.seq ?_
            refine IW.region_seq tab_ok [some 18, some 8] rfl fun X K hX hK => ?_
            simp only [go_sem, if_true, if_false, reduceIte, Nat.reduceEqDiff, Nat.reduceAdd, Nat.reduceLT, Nat.reduceLeDiff, reduceCtorEq, succ_wrap hlt (by omega)]
            refine hK _ _ ⟨⟨i + 1, hlt⟩, by simp only []; omega, ?_⟩
            refine Ent.cut ?_ ?_ <;> simp only [go_sem, if_true, if_false, reduceIte, Nat.reduceEqDiff, Nat.reduceAdd, Nat.reduceLT, Nat.reduceLeDiff, reduceCtorEq]
        · refine IW.exit ?_
          show IW _ _ _ _ _ _ _ _
          repeat refine IW.seq ?_
          refine IW.region_seq tab_ok [some 4] rfl fun X K hX hK => ?_
          simp only [go_sem, if_true, if_false, reduceIte, Nat.reduceEqDiff, Nat.reduceAdd, Nat.reduceLT, Nat.reduceLeDiff, reduceCtorEq]
          refine hK _ _ ?_; clear hX hK X K
          show IW _ _ _ _ _ _ _ _
          refine IW.ret (Fin.scal rfl rfl ?_)
          rfl
theorem fContains (l : List Int) (n : Int) (hl : l.length ≤ 1000000) : FSpec Try.prog 64 [.sl true (nums .i64 l), .int .i64 n] (.bool (hasS l n)) [] := by
  obtain ⟨m, hm, hs⟩ := fIndex l n hl
  refine FSpec.intro tab_ok Try.func64 rfl rfl rfl (by kernel_rfl) (by simp) fun w0 => ?_
  simp only [argTM, Nat.zero_add, Nat.reduceAdd]
  repeat refine IW.seq ?_
  refine IW.region_seq tab_ok [some 4] rfl fun X K hX hK => ?_
  simp only [go_sem, if_true, if_false, reduceIte, Nat.reduceEqDiff, Nat.reduceAdd, Nat.reduceLT, Nat.reduceLeDiff, reduceCtorEq]
  refine hK _ _ ?_; clear hX hK X K
  show IW _ _ _ _ _ _ _ _
  repeat refine IW.seq ?_
  refine IW.region_seq tab_ok [some 5, some 6, some 7, some 8, some 4] rfl fun X K hX hK => ?_
  simp only [go_sem, if_true, if_false, reduceIte, Nat.reduceEqDiff, Nat.reduceAdd, Nat.reduceLT, Nat.reduceLeDiff, reduceCtorEq]
  refine hX.quiet _ _ (OpG.of_B rfl (opB_call rfl rfl (FSpec.nz (hs) (by simp [go_sem, if_true, if_false, reduceIte, Nat.reduceEqDiff, Nat.reduceAdd, Nat.reduceLT, Nat.reduceLeDiff, reduceCtorEq, List.map_cons, List.map_nil, List.append_nil, opnd, unc])))) ?_
  simp only [go_sem, if_true, if_false, reduceIte, Nat.reduceEqDiff, Nat.reduceAdd, Nat.reduceLT, Nat.reduceLeDiff, reduceCtorEq]
  refine hK _ _ ?_; clear hX hK X K
  show IW _ _ _ _ _ _ _ _
  refine IW.ret (Fin.scal rfl rfl ?_)
  show SV.bool (decide (0 ≤ m)) = SV.bool _
  congr 1
  by_cases h : 0 ≤ m
  · simp only [h, decide_true, hm.1 h]
  · have : hasS l n = false := by
      cases e : hasS l n with
      | false => rfl
      | true => exact absurd (hm.2 e) h
    simp only [h, decide_false, this]
/-- A pixel; outside there is paper. -/
def atF (W H : Nat) (p : List Int) (x y : Int) : Int := if x < 0 ∨ y < 0 ∨ (W : Int) ≤ x ∨ (H : Int) ≤ y then 0 else p.getD (y.toNat * W + x.toNat) 0
theorem iAt (W H : Nat) (x y : Int) (p : List Int) (hp : p.length = W * H) (hl : p.length ≤ 1000000) : FSpec Try.prog 65 [img W H p, .int .i64 x, .int .i64 y] (.int .u8 (atF W H p x y)) [] := by
  refine FSpec.intro tab_ok Try.func65 rfl rfl rfl (by kernel_rfl) (by simp) fun w0 => ?_
  simp only [argTM, Nat.zero_add, Nat.reduceAdd]
  repeat refine IW.seq ?_
  refine IW.region_seq tab_ok [some 3, some 6] rfl fun X K hX hK => ?_
  simp only [go_sem, if_true, if_false, reduceIte, Nat.reduceEqDiff, Nat.reduceAdd, Nat.reduceLT, Nat.reduceLeDiff, reduceCtorEq]
  refine hK _ _ ?_; clear hX hK X K
  show IW _ _ _ _ _ _ _ _
  repeat refine IW.seq ?_
  refine IW.region_seq tab_ok [some 7, some 8, some 9, some 10, some 11, some 12, some 13, some 14, some 15, some 16, some 17, some 18, some 19, some 20, some 21, some 22, some 23, some 24, some 25, some 26] rfl fun X K hX hK => ?_
  simp only [go_sem, if_true, if_false, reduceIte, Nat.reduceEqDiff, Nat.reduceAdd, Nat.reduceLT, Nat.reduceLeDiff, reduceCtorEq]
  refine hK _ _ ?_; clear hX hK X K
  show IW _ _ _ _ _ _ _ _
  repeat refine IW.seq ?_
  refine IW.cond rfl (fun hb => ?_) (fun hb => ?_)
  · repeat refine IW.seq ?_
    refine IW.region_seq tab_ok [some 6] rfl fun X K hX hK => ?_
    simp only [go_sem, if_true, if_false, reduceIte, Nat.reduceEqDiff, Nat.reduceAdd, Nat.reduceLT, Nat.reduceLeDiff, reduceCtorEq]
    refine hK _ _ ?_; clear hX hK X K
    show IW _ _ _ _ _ _ _ _
    refine IW.ret (Fin.scal rfl rfl ?_)
    simp only [Bool.or_eq_true, decide_eq_true_eq] at hb
    show SV.int .u8 0 = SV.int .u8 _
    rw [atF, if_pos (by omega)]
  · refine IW.skip ?_
    show IW _ _ _ _ _ _ _ _
    simp only [Bool.or_eq_false_iff, decide_eq_false_iff_not] at hb
    obtain ⟨x, rfl⟩ : ∃ n : Nat, x = n := ⟨x.toNat, by omega⟩
    obtain ⟨y, rfl⟩ : ∃ n : Nat, y = n := ⟨y.toNat, by omega⟩
    have hlt : y * W + x < p.length := by
      have : (y + 1) * W ≤ H * W := Nat.mul_le_mul_right _ (by omega)
      rw [Nat.add_mul] at this; rw [hp, Nat.mul_comm W H]; omega
    have e1 : IntKind.i64.wrap ((y : Int) * (W : Int)) = ((y * W : Nat) : Int) := by
      rw [← Int.natCast_mul]; exact wrap_eq (by omega) (by omega)
    have e2 : IntKind.i64.wrap (((y * W : Nat) : Int) + (x : Int)) = ((y * W + x : Nat) : Int) := (wrap_eq (by omega) (by omega)).trans (by omega)
    repeat refine IW.seq ?_
    refine IW.region_seq tab_ok [some 27, some 28, some 29, some 30, some 31, some 32, some 33, some 34, some 35, some 36, some 37, some 38, some 6] rfl fun X K hX hK => ?_
    simp only [go_sem, if_true, if_false, reduceIte, Nat.reduceEqDiff, Nat.reduceAdd, Nat.reduceLT, Nat.reduceLeDiff, reduceCtorEq, e1, e2, nums_at hlt]
    refine ⟨⟨by omega, by omega⟩, ?_⟩
    refine hK _ _ ?_; clear hX hK X K
    show IW _ _ _ _ _ _ _ _
    refine IW.ret (Fin.scal rfl rfl ?_)
    show SV.int .u8 _ = SV.int .u8 _
    rw [atF, if_neg (by omega)]
    simp only [Int.toNat_natCast]
end Go.Proofs.Ytnbpbehlemaeoaa

set_option linter.unusedVariables false
set_option linter.unusedSimpArgs false
set_option maxRecDepth 10000
namespace Go.Proofs.Ytnbpbehlemaeoaa
open Go.IL
def insF (x first n : Int) : Bool := decide (first ≤ x ∧ x - first < n)
theorem fInside (x first n : Int) (hx : -9223372036854775808 ≤ x ∧ x ≤ 9223372036854775807) (hf : -9223372036854775808 ≤ first ∧ first ≤ 9223372036854775807) (hn : -9223372036854775808 ≤ n ∧ n ≤ 9223372036854775807) :
    FSpec Try.prog 81 [.int .i64 x, .int .i64 first, .int .i64 n] (.bool (insF x first n)) [] := by
  refine FSpec.intro tab_ok Try.func81 rfl rfl rfl (by kernel_rfl) (by simp) fun w0 => ?_
  simp only [argTM, Nat.zero_add, Nat.reduceAdd]
  repeat refine IW.seq ?_
  refine IW.region_seq tab_ok [some 6] rfl fun X K hX hK => ?_
  simp only [go_sem, if_true, if_false, reduceIte, Nat.reduceEqDiff, Nat.reduceAdd, Nat.reduceLT, Nat.reduceLeDiff, reduceCtorEq]
  refine hK _ _ ?_; clear hX hK X K
  show IW _ _ _ _ _ _ _ _
  repeat refine IW.seq ?_
  refine IW.region_seq tab_ok [some 7, some 8, some 9, some 10, some 11, some 12, some 13] rfl fun X K hX hK => ?_
  simp only [go_sem, if_true, if_false, reduceIte, Nat.reduceEqDiff, Nat.reduceAdd, Nat.reduceLT, Nat.reduceLeDiff, reduceCtorEq]
  refine hK _ _ ?_; clear hX hK X K
  show IW _ _ _ _ _ _ _ _
  repeat refine IW.seq ?_
  refine IW.cond rfl (fun hb => ?_) (fun hb => ?_)
  · repeat refine IW.seq ?_
    refine IW.region_seq tab_ok [some 6] rfl fun X K hX hK => ?_
    simp only [go_sem, if_true, if_false, reduceIte, Nat.reduceEqDiff, Nat.reduceAdd, Nat.reduceLT, Nat.reduceLeDiff, reduceCtorEq]
    refine hK _ _ ?_; clear hX hK X K
    show IW _ _ _ _ _ _ _ _
    refine IW.ret (Fin.scal rfl rfl ?_)
    simp only [Bool.or_eq_true, decide_eq_true_eq] at hb
    show SV.bool false = SV.bool _
    have : ¬ (first ≤ x ∧ x - first < n) := by omega
    simp only [insF, this, decide_false]
  · refine IW.skip ?_
    show IW _ _ _ _ _ _ _ _
    simp only [Bool.or_eq_false_iff, decide_eq_false_iff_not] at hb
    repeat refine IW.seq ?_
    refine IW.region_seq tab_ok [some 14, some 15, some 16, some 17, some 18, some 19, some 20, some 21, some 6] rfl fun X K hX hK => ?_
    simp only [go_sem, if_true, if_false, reduceIte, Nat.reduceEqDiff, Nat.reduceAdd, Nat.reduceLT, Nat.reduceLeDiff, reduceCtorEq]
    have e1 : IntKind.u64.wrap (IntKind.u64.wrap x - IntKind.u64.wrap first) = x - first := by simp only [IntKind.wrap_u64]; omega
    have e2 : IntKind.u64.wrap n = n := by simp only [IntKind.wrap_u64]; omega
    simp only [e1, e2]
    refine hK _ _ ?_; clear hX hK X K
    show IW _ _ _ _ _ _ _ _
    refine IW.ret (Fin.scal rfl rfl ?_)
    show SV.bool (decide (x - first < n)) = SV.bool _
    have : first ≤ x := by omega
    simp only [insF, this, true_and]
end Go.Proofs.Ytnbpbehlemaeoaa

set_option linter.unusedVariables false
set_option linter.unusedSimpArgs false
set_option maxRecDepth 10000
namespace Go.Proofs.Ytnbpbehlemaeoaa
open Go.IL
/-- Elements of two numbers each. -/
def prs (l : List (Int × Int)) : List (List SV) := l.map fun p => [.int .i64 p.1, .int .i64 p.2]
theorem prs_length (l : List (Int × Int)) : (prs l).length = l.length := by simp [prs]
theorem prs_at {l : List (Int × Int)} {i : Nat} (h : i < l.length) : (prs l).getD i [] = [.int .i64 (l.getD i (0, 0)).1, .int .i64 (l.getD i (0, 0)).2] := by simp [prs, h]
theorem prs_bnd (n : Nat) : ∀ l : List (Int × Int), bndLL n (prs l) = true
  | [] => rfl
  | x :: xs => by show bndLL n ([SV.int .i64 x.1, SV.int .i64 x.2] :: prs xs) = true; simp [bndLL, bndL, SV.bnd, prs_bnd n xs]
theorem prs_nold : ∀ l : List (Int × Int), noldLL (prs l) = true
  | [] => rfl
  | x :: xs => by show noldLL ([SV.int .i64 x.1, SV.int .i64 x.2] :: prs xs) = true; simp [noldLL, noldL, SV.nold, prs_nold xs]
theorem prs_nomap : ∀ l : List (Int × Int), nomapLL (prs l) = true
  | [] => rfl
  | x :: xs => by show nomapLL ([SV.int .i64 x.1, SV.int .i64 x.2] :: prs xs) = true; simp [nomapLL, nomapL, SV.nomap, prs_nomap xs]
theorem prs_ren (σ : Nat → Nat) (l : List (Int × Int)) : renLL σ (prs l) = prs l := by rw [renLL_map]; simp [prs, renL, SV.ren]
theorem prs_rei (n : Nat) (h : Heap) (l : List (Int × Int)) : (prs l).map (fun x => x.map (rei (n + 1) h)) = prs l := by simp [prs, rei]
theorem prs_reW (σ : List Nat) (n : Nat) (h : Heap) (l : List (Int × Int)) : (prs l).map (fun x => x.map (reW σ (n + 1) h)) = prs l := by simp [prs, reW]
theorem nums_reW (k : IntKind) (σ : List Nat) (n : Nat) (h : Heap) (l : List Int) : (nums k l).map (fun x => x.map (reW σ (n + 1) h)) = nums k l := by simp [nums, reW]
theorem prs_take (l : List (Int × Int)) (n : Nat) : (prs l).take n = prs (l.take n) := by simp [prs]
theorem prs_takelen (l : List (Int × Int)) : (prs l).take l.length = prs l := List.take_of_length_le (by simp [prs])
theorem prs_drop (l : List (Int × Int)) (n : Nat) : (prs l).drop n = prs (l.drop n) := by simp [prs]
theorem prs_set (l : List (Int × Int)) (i : Nat) (p : Int × Int) : (prs l).set i [.int .i64 p.1, .int .i64 p.2] = prs (l.set i p) := by simp [prs]
theorem prs_append (a b : List (Int × Int)) : prs a ++ prs b = prs (a ++ b) := by simp [prs]
theorem prs_scal (l : List (Int × Int)) : ((prs l).all fun x => x.all scal) = true := by simp [prs, scal]
theorem prs_w (l : List (Int × Int)) : ∀ x ∈ prs l, x.length = 2 := by intro x hx; simp [prs] at hx; obtain ⟨_, _, _, rfl⟩ := hx; rfl
attribute [go_sem] prs_length prs_bnd prs_nold prs_nomap prs_ren prs_rei prs_reW nums_reW prs_takelen prs_scal
theorem eqTy70 : eqTy Try.prog 70 [.int .i64, .int .i64] = true := by kernel_rfl
theorem eqTy68 : eqTy Try.prog 68 [.int .i64, .int .i64] = true := by kernel_rfl
theorem eqTy44 : eqTy Try.prog 44 [.int .i64, .int .i64] = true := by kernel_rfl
theorem same_full {α : Type} [DecidableEq α] {a b : List α} {d : α} (hl : a.length = b.length) (h : ∀ j, j < a.length → a.getD j d = b.getD j d) : a = b := by
  apply List.ext_getElem hl
  intro i h1 h2
  have := h i h1
  simpa [h1, h2] using this
theorem kSameInts (a b : List Int) (ha : a.length ≤ 1000000) (hb : b.length ≤ 1000000) : FSpec Try.prog 15 [.sl true (nums .i64 a), .sl true (nums .i64 b)] (.bool (decide (a = b))) [] := by
  refine FSpec.intro tab_ok Try.func15 rfl rfl rfl (by kernel_rfl) (by simp) fun w0 => ?_
  simp only [argTM, Nat.zero_add, Nat.reduceAdd]
  repeat refine IW.seq ?_
  refine IW.region_seq tab_ok [some 4] rfl fun X K hX hK => ?_
  simp only [go_sem, if_true, if_false, reduceIte, Nat.reduceEqDiff, Nat.reduceAdd, Nat.reduceLT, Nat.reduceLeDiff, reduceCtorEq]
  refine hK _ _ ?_; clear hX hK X K
  show IW _ _ _ _ _ _ _ _
  repeat refine IW.seq ?_
  refine IW.region_seq tab_ok [some 6, some 7, some 8, some 9, some 10] rfl fun X K hX hK => ?_
  simp only [go_sem, if_true, if_false, reduceIte, Nat.reduceEqDiff, Nat.reduceAdd, Nat.reduceLT, Nat.reduceLeDiff, reduceCtorEq]
  refine hK _ _ ?_; clear hX hK X K
  show IW _ _ _ _ _ _ _ _
  repeat refine IW.seq ?_
  refine IW.cond rfl (fun hb1 => ?_) (fun hb1 => ?_)
  · repeat refine IW.seq ?_
    refine IW.region_seq tab_ok [some 4] rfl fun X K hX hK => ?_
    simp only [go_sem, if_true, if_false, reduceIte, Nat.reduceEqDiff, Nat.reduceAdd, Nat.reduceLT, Nat.reduceLeDiff, reduceCtorEq]
    refine hK _ _ ?_; clear hX hK X K
    show IW _ _ _ _ _ _ _ _
    refine IW.ret (Fin.scal rfl rfl ?_)
    simp only [bne_iff_ne, ne_eq] at hb1
    have : a ≠ b := by rintro rfl; exact hb1 rfl
    show SV.bool false = SV.bool _
    rw [decide_eq_false this]
  · refine IW.skip ?_
    show IW _ _ _ _ _ _ _ _
    simp only [bne_eq_false_iff_eq] at hb1
    have hl : a.length = b.length := by omega
    repeat refine IW.seq ?_
    refine IW.region_seq tab_ok [some 5] rfl fun X K hX hK => ?_
    simp only [go_sem, if_true, if_false, reduceIte, Nat.reduceEqDiff, Nat.reduceAdd, Nat.reduceLT, Nat.reduceLeDiff, reduceCtorEq]
    refine hK _ _ ?_; clear hX hK X K
    show IW _ _ _ _ _ _ _ _
    repeat refine IW.seq ?_
    refine IW.block ?_
    refine IW.loop (α := {i : Nat // i ≤ a.length ∧ ∀ j, j < i → a.getD j 0 = b.getD j 0}) (fun i => [(0, .sl true (nums .i64 a)), (1, .sl true (nums .i64 b)), (5, .int .i64 i.1)]) (fun _ => []) (fun i => a.length - i.1) ⟨0, by omega, fun j h => absurd h (by omega)⟩ ?_ fun ⟨i, hi, hp⟩ => ?_
    · refine Ent.cut ?_ ?_ <;> simp only [go_sem, if_true, if_false, reduceIte, Nat.reduceEqDiff, Nat.reduceAdd, Nat.reduceLT, Nat.reduceLeDiff, reduceCtorEq]
    · simp only []
      repeat refine IW.seq ?_
      refine IW.region_seq tab_ok [some 11, some 12, some 13, some 14] rfl fun X K hX hK => ?_
      simp only [go_sem, if_true, if_false, reduceIte, Nat.reduceEqDiff, Nat.reduceAdd, Nat.reduceLT, Nat.reduceLeDiff, reduceCtorEq]
      refine hK _ _ ?_; clear hX hK X K
      show IW _ _ _ _ _ _ _ _
      repeat refine IW.seq ?_
      refine IW.cond rfl (fun hb2 => ?_) (fun hb2 => ?_)
      · refine IW.skip ?_
        show IW _ _ _ _ _ _ _ _
        simp only [decide_eq_true_eq] at hb2
        have hlt : i < a.length := by omega
        have hlt' : i < b.length := by omega
        repeat refine IW.seq ?_
        refine IW.block ?_
        repeat refine IW.seq ?_
        refine IW.region_draw tab_ok mixed [some 17, some 18, some 19, some 20, some 21, some 22, some 23, some 24, some 25] 9 (by kernel_rfl) rfl fun Xq Xs K hXq hXs hK K1 hK1 => ?_
        simp only [go_sem, if_true, if_false, reduceIte, Nat.reduceEqDiff, Nat.reduceAdd, Nat.reduceLT, Nat.reduceLeDiff, reduceCtorEq, nums_at hlt, nums_at hlt']
        refine ⟨⟨by omega, by omega⟩, ⟨by omega, by omega⟩, ?_⟩
        refine hK1 _ _ ?_; clear hXq hK1 K1 Xq
        simp only [List.drop_zero, List.drop_succ_cons, go_sem, if_true, if_false, reduceIte, Nat.reduceEqDiff, Nat.reduceAdd, Nat.reduceLT, Nat.reduceLeDiff, reduceCtorEq]
        refine hK _ _ ?_; clear hXs hK K Xs
        show IW _ _ _ _ _ _ _ _
        repeat refine IW.seq ?_
        refine IW.cond rfl (fun hb3 => ?_) (fun hb3 => ?_)
        · repeat refine IW.seq ?_
          refine IW.region_seq tab_ok [some 4] rfl fun X K hX hK => ?_
          simp only [go_sem, if_true, if_false, reduceIte, Nat.reduceEqDiff, Nat.reduceAdd, Nat.reduceLT, Nat.reduceLeDiff, reduceCtorEq]
          refine hK _ _ ?_; clear hX hK X K
          show IW _ _ _ _ _ _ _ _
          refine IW.ret (Fin.scal rfl rfl ?_)
          simp only [bne_iff_ne, ne_eq] at hb3
          show SV.bool false = SV.bool _
          rw [decide_eq_false (fun e => hb3 (by rw [e]))]
        · refine IW.skip ?_
          show IW _ _ _ _ _ _ _ _
          repeat refine IW.seq ?_
          refine IW.region_seq tab_ok [some 15, some 16, some 5] rfl fun X K hX hK => ?_
          simp only [go_sem, if_true, if_false, reduceIte, Nat.reduceEqDiff, Nat.reduceAdd, Nat.reduceLT, Nat.reduceLeDiff, reduceCtorEq, succ_wrap hlt (by omega)]
          refine hK _ _ ⟨⟨i + 1, hlt, fun j hj => ?_⟩, by simp only []; omega, ?_⟩
          · rcases Nat.lt_succ_iff_lt_or_eq.1 hj with h | h
            · exact hp j h
            · subst h
              simpa using hb3
          · refine Ent.cut ?_ ?_ <;> simp only [go_sem, if_true, if_false, reduceIte, Nat.reduceEqDiff, Nat.reduceAdd, Nat.reduceLT, Nat.reduceLeDiff, reduceCtorEq]
      · refine IW.exit ?_
        show IW _ _ _ _ _ _ _ _
        repeat refine IW.seq ?_
        refine IW.region_seq tab_ok [some 4] rfl fun X K hX hK => ?_
        simp only [go_sem, if_true, if_false, reduceIte, Nat.reduceEqDiff, Nat.reduceAdd, Nat.reduceLT, Nat.reduceLeDiff, reduceCtorEq]
        refine hK _ _ ?_; clear hX hK X K
        show IW _ _ _ _ _ _ _ _
        refine IW.ret (Fin.scal rfl rfl ?_)
        simp only [decide_eq_false_iff_not] at hb2
        show SV.bool true = SV.bool _
        rw [decide_eq_true (same_full hl fun j hj => hp j (by omega))]
theorem kSameBytes (a b : List Int) (ha : a.length ≤ 1000000) (hb : b.length ≤ 1000000) : FSpec Try.prog 57 [.sl true (nums .u8 a), .sl true (nums .u8 b)] (.bool (decide (a = b))) [] := by
  refine FSpec.intro tab_ok Try.func57 rfl rfl rfl (by kernel_rfl) (by simp) fun w0 => ?_
  simp only [argTM, Nat.zero_add, Nat.reduceAdd]
  repeat refine IW.seq ?_
  refine IW.region_seq tab_ok [some 4] rfl fun X K hX hK => ?_
  simp only [go_sem, if_true, if_false, reduceIte, Nat.reduceEqDiff, Nat.reduceAdd, Nat.reduceLT, Nat.reduceLeDiff, reduceCtorEq]
  refine hK _ _ ?_; clear hX hK X K
  show IW _ _ _ _ _ _ _ _
  repeat refine IW.seq ?_
  refine IW.region_seq tab_ok [some 6, some 7, some 8, some 9, some 10] rfl fun X K hX hK => ?_
  simp only [go_sem, if_true, if_false, reduceIte, Nat.reduceEqDiff, Nat.reduceAdd, Nat.reduceLT, Nat.reduceLeDiff, reduceCtorEq]
  refine hK _ _ ?_; clear hX hK X K
  show IW _ _ _ _ _ _ _ _
  repeat refine IW.seq ?_
  refine IW.cond rfl (fun hb1 => ?_) (fun hb1 => ?_)
  · repeat refine IW.seq ?_
    refine IW.region_seq tab_ok [some 4] rfl fun X K hX hK => ?_
    simp only [go_sem, if_true, if_false, reduceIte, Nat.reduceEqDiff, Nat.reduceAdd, Nat.reduceLT, Nat.reduceLeDiff, reduceCtorEq]
    refine hK _ _ ?_; clear hX hK X K
    show IW _ _ _ _ _ _ _ _
    refine IW.ret (Fin.scal rfl rfl ?_)
    simp only [bne_iff_ne, ne_eq] at hb1
    have : a ≠ b := by rintro rfl; exact hb1 rfl
    show SV.bool false = SV.bool _
    rw [decide_eq_false this]
  · refine IW.skip ?_
    show IW _ _ _ _ _ _ _ _
    simp only [bne_eq_false_iff_eq] at hb1
    have hl : a.length = b.length := by omega
    repeat refine IW.seq ?_
    refine IW.region_seq tab_ok [some 5] rfl fun X K hX hK => ?_
    simp only [go_sem, if_true, if_false, reduceIte, Nat.reduceEqDiff, Nat.reduceAdd, Nat.reduceLT, Nat.reduceLeDiff, reduceCtorEq]
    refine hK _ _ ?_; clear hX hK X K
    show IW _ _ _ _ _ _ _ _
    repeat refine IW.seq ?_
    refine IW.block ?_
    refine IW.loop (α := {i : Nat // i ≤ a.length ∧ ∀ j, j < i → a.getD j 0 = b.getD j 0}) (fun i => [(0, .sl true (nums .u8 a)), (1, .sl true (nums .u8 b)), (5, .int .i64 i.1)]) (fun _ => []) (fun i => a.length - i.1) ⟨0, by omega, fun j h => absurd h (by omega)⟩ ?_ fun ⟨i, hi, hp⟩ => ?_
    · refine Ent.cut ?_ ?_ <;> simp only [go_sem, if_true, if_false, reduceIte, Nat.reduceEqDiff, Nat.reduceAdd, Nat.reduceLT, Nat.reduceLeDiff, reduceCtorEq]
    · simp only []
      repeat refine IW.seq ?_
      refine IW.region_seq tab_ok [some 11, some 12, some 13, some 14] rfl fun X K hX hK => ?_
      simp only [go_sem, if_true, if_false, reduceIte, Nat.reduceEqDiff, Nat.reduceAdd, Nat.reduceLT, Nat.reduceLeDiff, reduceCtorEq]
      refine hK _ _ ?_; clear hX hK X K
      show IW _ _ _ _ _ _ _ _
      repeat refine IW.seq ?_
      refine IW.cond rfl (fun hb2 => ?_) (fun hb2 => ?_)
      · refine IW.skip ?_
        show IW _ _ _ _ _ _ _ _
        simp only [decide_eq_true_eq] at hb2
        have hlt : i < a.length := by omega
        have hlt' : i < b.length := by omega
        repeat refine IW.seq ?_
        refine IW.block ?_
        repeat refine IW.seq ?_
        refine IW.region_draw tab_ok mixed [some 17, some 18, some 19, some 20, some 21, some 22, some 23, some 24, some 25] 9 (by kernel_rfl) rfl fun Xq Xs K hXq hXs hK K1 hK1 => ?_
        simp only [go_sem, if_true, if_false, reduceIte, Nat.reduceEqDiff, Nat.reduceAdd, Nat.reduceLT, Nat.reduceLeDiff, reduceCtorEq, nums_at hlt, nums_at hlt']
        refine ⟨⟨by omega, by omega⟩, ⟨by omega, by omega⟩, ?_⟩
        refine hK1 _ _ ?_; clear hXq hK1 K1 Xq
        simp only [List.drop_zero, List.drop_succ_cons, go_sem, if_true, if_false, reduceIte, Nat.reduceEqDiff, Nat.reduceAdd, Nat.reduceLT, Nat.reduceLeDiff, reduceCtorEq]
        refine hK _ _ ?_; clear hXs hK K Xs
        show IW _ _ _ _ _ _ _ _
        repeat refine IW.seq ?_
        refine IW.cond rfl (fun hb3 => ?_) (fun hb3 => ?_)
        · repeat refine IW.seq ?_
          refine IW.region_seq tab_ok [some 4] rfl fun X K hX hK => ?_
          simp only [go_sem, if_true, if_false, reduceIte, Nat.reduceEqDiff, Nat.reduceAdd, Nat.reduceLT, Nat.reduceLeDiff, reduceCtorEq]
          refine hK _ _ ?_; clear hX hK X K
          show IW _ _ _ _ _ _ _ _
          refine IW.ret (Fin.scal rfl rfl ?_)
          simp only [bne_iff_ne, ne_eq] at hb3
          show SV.bool false = SV.bool _
          rw [decide_eq_false (fun e => hb3 (by rw [e]))]
        · refine IW.skip ?_
          show IW _ _ _ _ _ _ _ _
          repeat refine IW.seq ?_
          refine IW.region_seq tab_ok [some 15, some 16, some 5] rfl fun X K hX hK => ?_
          simp only [go_sem, if_true, if_false, reduceIte, Nat.reduceEqDiff, Nat.reduceAdd, Nat.reduceLT, Nat.reduceLeDiff, reduceCtorEq, succ_wrap hlt (by omega)]
          refine hK _ _ ⟨⟨i + 1, hlt, fun j hj => ?_⟩, by simp only []; omega, ?_⟩
          · rcases Nat.lt_succ_iff_lt_or_eq.1 hj with h | h
            · exact hp j h
            · subst h
              simpa using hb3
          · refine Ent.cut ?_ ?_ <;> simp only [go_sem, if_true, if_false, reduceIte, Nat.reduceEqDiff, Nat.reduceAdd, Nat.reduceLT, Nat.reduceLeDiff, reduceCtorEq]
      · refine IW.exit ?_
        show IW _ _ _ _ _ _ _ _
        repeat refine IW.seq ?_
        refine IW.region_seq tab_ok [some 4] rfl fun X K hX hK => ?_
        simp only [go_sem, if_true, if_false, reduceIte, Nat.reduceEqDiff, Nat.reduceAdd, Nat.reduceLT, Nat.reduceLeDiff, reduceCtorEq]
        refine hK _ _ ?_; clear hX hK X K
        show IW _ _ _ _ _ _ _ _
        refine IW.ret (Fin.scal rfl rfl ?_)
        simp only [decide_eq_false_iff_not] at hb2
        show SV.bool true = SV.bool _
        rw [decide_eq_true (same_full hl fun j hj => hp j (by omega))]
theorem kSameOptions (a b : List (Int × Int)) (ha : a.length ≤ 1000000) (hb : b.length ≤ 1000000) : FSpec Try.prog 27 [.sl true (prs a), .sl true (prs b)] (.bool (decide (a = b))) [] := by
  refine FSpec.intro tab_ok Try.func27 rfl rfl rfl (by kernel_rfl) (by simp) fun w0 => ?_
  simp only [argTM, Nat.zero_add, Nat.reduceAdd]
  repeat refine IW.seq ?_
  refine IW.region_seq tab_ok [some 4] rfl fun X K hX hK => ?_
  simp only [go_sem, if_true, if_false, reduceIte, Nat.reduceEqDiff, Nat.reduceAdd, Nat.reduceLT, Nat.reduceLeDiff, reduceCtorEq]
  refine hK _ _ ?_; clear hX hK X K
  show IW _ _ _ _ _ _ _ _
  repeat refine IW.seq ?_
  refine IW.region_seq tab_ok [some 6, some 7, some 8, some 9, some 10] rfl fun X K hX hK => ?_
  simp only [go_sem, if_true, if_false, reduceIte, Nat.reduceEqDiff, Nat.reduceAdd, Nat.reduceLT, Nat.reduceLeDiff, reduceCtorEq]
  refine hK _ _ ?_; clear hX hK X K
  show IW _ _ _ _ _ _ _ _
  repeat refine IW.seq ?_
  refine IW.cond rfl (fun hb1 => ?_) (fun hb1 => ?_)
  · repeat refine IW.seq ?_
    refine IW.region_seq tab_ok [some 4] rfl fun X K hX hK => ?_
    simp only [go_sem, if_true, if_false, reduceIte, Nat.reduceEqDiff, Nat.reduceAdd, Nat.reduceLT, Nat.reduceLeDiff, reduceCtorEq]
    refine hK _ _ ?_; clear hX hK X K
    show IW _ _ _ _ _ _ _ _
    refine IW.ret (Fin.scal rfl rfl ?_)
    simp only [bne_iff_ne, ne_eq] at hb1
    have : a ≠ b := by rintro rfl; exact hb1 rfl
    show SV.bool false = SV.bool _
    rw [decide_eq_false this]
  · refine IW.skip ?_
    show IW _ _ _ _ _ _ _ _
    simp only [bne_eq_false_iff_eq] at hb1
    have hl : a.length = b.length := by omega
    repeat refine IW.seq ?_
    refine IW.region_seq tab_ok [some 5] rfl fun X K hX hK => ?_
    simp only [go_sem, if_true, if_false, reduceIte, Nat.reduceEqDiff, Nat.reduceAdd, Nat.reduceLT, Nat.reduceLeDiff, reduceCtorEq]
    refine hK _ _ ?_; clear hX hK X K
    show IW _ _ _ _ _ _ _ _
    repeat refine IW.seq ?_
    refine IW.block ?_
    refine IW.loop (α := {i : Nat // i ≤ a.length ∧ ∀ j, j < i → a.getD j (0, 0) = b.getD j (0, 0)}) (fun i => [(0, .sl true (prs a)), (1, .sl true (prs b)), (5, .int .i64 i.1)]) (fun _ => []) (fun i => a.length - i.1) ⟨0, by omega, fun j h => absurd h (by omega)⟩ ?_ fun ⟨i, hi, hp⟩ => ?_
    · refine Ent.cut ?_ ?_ <;> simp only [go_sem, if_true, if_false, reduceIte, Nat.reduceEqDiff, Nat.reduceAdd, Nat.reduceLT, Nat.reduceLeDiff, reduceCtorEq]
    · simp only []
      repeat refine IW.seq ?_
      refine IW.region_seq tab_ok [some 11, some 12, some 13, some 14] rfl fun X K hX hK => ?_
      simp only [go_sem, if_true, if_false, reduceIte, Nat.reduceEqDiff, Nat.reduceAdd, Nat.reduceLT, Nat.reduceLeDiff, reduceCtorEq]
      refine hK _ _ ?_; clear hX hK X K
      show IW _ _ _ _ _ _ _ _
      repeat refine IW.seq ?_
      refine IW.cond rfl (fun hb2 => ?_) (fun hb2 => ?_)
      · refine IW.skip ?_
        show IW _ _ _ _ _ _ _ _
        simp only [decide_eq_true_eq] at hb2
        have hlt : i < a.length := by omega
        have hlt' : i < b.length := by omega
        repeat refine IW.seq ?_
        refine IW.block ?_
        repeat refine IW.seq ?_
        refine IW.region_draw tab_ok mixed [some 17, some 18, some 19, some 20, some 21, some 22, some 23, some 24, some 25] 9 (by kernel_rfl) rfl fun Xq Xs K hXq hXs hK K1 hK1 => ?_
        simp only [go_sem, if_true, if_false, reduceIte, Nat.reduceEqDiff, Nat.reduceAdd, Nat.reduceLT, Nat.reduceLeDiff, reduceCtorEq, prs_at hlt, prs_at hlt']
        refine ⟨⟨by omega, by omega⟩, ⟨by omega, by omega⟩, ?_⟩
        refine hXq.quiet _ _ (OpG.of_B rfl (opB_eqAgg eqTy70 rfl rfl rfl rfl rfl)) ?_
        simp only [go_sem, if_true, if_false, reduceIte, Nat.reduceEqDiff, Nat.reduceAdd, Nat.reduceLT, Nat.reduceLeDiff, reduceCtorEq]
        refine hK1 _ _ ?_; clear hXq hK1 K1 Xq
        simp only [List.drop_zero, List.drop_succ_cons, go_sem, if_true, if_false, reduceIte, Nat.reduceEqDiff, Nat.reduceAdd, Nat.reduceLT, Nat.reduceLeDiff, reduceCtorEq]
        refine hK _ _ ?_; clear hXs hK K Xs
        show IW _ _ _ _ _ _ _ _
        repeat refine IW.seq ?_
        refine IW.cond rfl (fun hb3 => ?_) (fun hb3 => ?_)
        · repeat refine IW.seq ?_
          refine IW.region_seq tab_ok [some 4] rfl fun X K hX hK => ?_
          simp only [go_sem, if_true, if_false, reduceIte, Nat.reduceEqDiff, Nat.reduceAdd, Nat.reduceLT, Nat.reduceLeDiff, reduceCtorEq]
          refine hK _ _ ?_; clear hX hK X K
          show IW _ _ _ _ _ _ _ _
          refine IW.ret (Fin.scal rfl rfl ?_)
          simp only [Bool.not_eq_true', Bool.and_eq_false_iff, beq_eq_false_iff_ne, ne_eq] at hb3
          have hb3 : ¬ (a.getD i (0, 0) = b.getD i (0, 0)) := fun e => by rw [e] at hb3; simp at hb3
          show SV.bool false = SV.bool _
          rw [decide_eq_false (fun e => hb3 (by rw [e]))]
        · refine IW.skip ?_
          show IW _ _ _ _ _ _ _ _
          repeat refine IW.seq ?_
          refine IW.region_seq tab_ok [some 15, some 16, some 5] rfl fun X K hX hK => ?_
          simp only [go_sem, if_true, if_false, reduceIte, Nat.reduceEqDiff, Nat.reduceAdd, Nat.reduceLT, Nat.reduceLeDiff, reduceCtorEq, succ_wrap hlt (by omega)]
          refine hK _ _ ⟨⟨i + 1, hlt, fun j hj => ?_⟩, by simp only []; omega, ?_⟩
          · rcases Nat.lt_succ_iff_lt_or_eq.1 hj with h | h
            · exact hp j h
            · subst h
              simp only [Bool.not_eq_false', Bool.and_eq_true, beq_iff_eq] at hb3
              exact Prod.ext hb3.1 hb3.2
          · refine Ent.cut ?_ ?_ <;> simp only [go_sem, if_true, if_false, reduceIte, Nat.reduceEqDiff, Nat.reduceAdd, Nat.reduceLT, Nat.reduceLeDiff, reduceCtorEq]
      · refine IW.exit ?_
        show IW _ _ _ _ _ _ _ _
        repeat refine IW.seq ?_
        refine IW.region_seq tab_ok [some 4] rfl fun X K hX hK => ?_
        simp only [go_sem, if_true, if_false, reduceIte, Nat.reduceEqDiff, Nat.reduceAdd, Nat.reduceLT, Nat.reduceLeDiff, reduceCtorEq]
        refine hK _ _ ?_; clear hX hK X K
        show IW _ _ _ _ _ _ _ _
        refine IW.ret (Fin.scal rfl rfl ?_)
        simp only [decide_eq_false_iff_not] at hb2
        show SV.bool true = SV.bool _
        rw [decide_eq_true (same_full hl fun j hj => hp j (by omega))]
theorem kSamePoints (a b : List (Int × Int)) (ha : a.length ≤ 1000000) (hb : b.length ≤ 1000000) : FSpec Try.prog 44 [.sl true (prs a), .sl true (prs b)] (.bool (decide (a = b))) [] := by
  refine FSpec.intro tab_ok Try.func44 rfl rfl rfl (by kernel_rfl) (by simp) fun w0 => ?_
  simp only [argTM, Nat.zero_add, Nat.reduceAdd]
  repeat refine IW.seq ?_
  refine IW.region_seq tab_ok [some 4] rfl fun X K hX hK => ?_
  simp only [go_sem, if_true, if_false, reduceIte, Nat.reduceEqDiff, Nat.reduceAdd, Nat.reduceLT, Nat.reduceLeDiff, reduceCtorEq]
  refine hK _ _ ?_; clear hX hK X K
  show IW _ _ _ _ _ _ _ _
  repeat refine IW.seq ?_
  refine IW.region_seq tab_ok [some 6, some 7, some 8, some 9, some 10] rfl fun X K hX hK => ?_
  simp only [go_sem, if_true, if_false, reduceIte, Nat.reduceEqDiff, Nat.reduceAdd, Nat.reduceLT, Nat.reduceLeDiff, reduceCtorEq]
  refine hK _ _ ?_; clear hX hK X K
  show IW _ _ _ _ _ _ _ _
  repeat refine IW.seq ?_
  refine IW.cond rfl (fun hb1 => ?_) (fun hb1 => ?_)
  · repeat refine IW.seq ?_
    refine IW.region_seq tab_ok [some 4] rfl fun X K hX hK => ?_
    simp only [go_sem, if_true, if_false, reduceIte, Nat.reduceEqDiff, Nat.reduceAdd, Nat.reduceLT, Nat.reduceLeDiff, reduceCtorEq]
    refine hK _ _ ?_; clear hX hK X K
    show IW _ _ _ _ _ _ _ _
    refine IW.ret (Fin.scal rfl rfl ?_)
    simp only [bne_iff_ne, ne_eq] at hb1
    have : a ≠ b := by rintro rfl; exact hb1 rfl
    show SV.bool false = SV.bool _
    rw [decide_eq_false this]
  · refine IW.skip ?_
    show IW _ _ _ _ _ _ _ _
    simp only [bne_eq_false_iff_eq] at hb1
    have hl : a.length = b.length := by omega
    repeat refine IW.seq ?_
    refine IW.region_seq tab_ok [some 5] rfl fun X K hX hK => ?_
    simp only [go_sem, if_true, if_false, reduceIte, Nat.reduceEqDiff, Nat.reduceAdd, Nat.reduceLT, Nat.reduceLeDiff, reduceCtorEq]
    refine hK _ _ ?_; clear hX hK X K
    show IW _ _ _ _ _ _ _ _
    repeat refine IW.seq ?_
    refine IW.block ?_
    refine IW.loop (α := {i : Nat // i ≤ a.length ∧ ∀ j, j < i → a.getD j (0, 0) = b.getD j (0, 0)}) (fun i => [(0, .sl true (prs a)), (1, .sl true (prs b)), (5, .int .i64 i.1)]) (fun _ => []) (fun i => a.length - i.1) ⟨0, by omega, fun j h => absurd h (by omega)⟩ ?_ fun ⟨i, hi, hp⟩ => ?_
    · refine Ent.cut ?_ ?_ <;> simp only [go_sem, if_true, if_false, reduceIte, Nat.reduceEqDiff, Nat.reduceAdd, Nat.reduceLT, Nat.reduceLeDiff, reduceCtorEq]
    · simp only []
      repeat refine IW.seq ?_
      refine IW.region_seq tab_ok [some 11, some 12, some 13, some 14] rfl fun X K hX hK => ?_
      simp only [go_sem, if_true, if_false, reduceIte, Nat.reduceEqDiff, Nat.reduceAdd, Nat.reduceLT, Nat.reduceLeDiff, reduceCtorEq]
      refine hK _ _ ?_; clear hX hK X K
      show IW _ _ _ _ _ _ _ _
      repeat refine IW.seq ?_
      refine IW.cond rfl (fun hb2 => ?_) (fun hb2 => ?_)
      · refine IW.skip ?_
        show IW _ _ _ _ _ _ _ _
        simp only [decide_eq_true_eq] at hb2
        have hlt : i < a.length := by omega
        have hlt' : i < b.length := by omega
        repeat refine IW.seq ?_
        refine IW.block ?_
        repeat refine IW.seq ?_
        refine IW.region_draw tab_ok mixed [some 17, some 18, some 19, some 20, some 21, some 22, some 23, some 24, some 25] 9 (by kernel_rfl) rfl fun Xq Xs K hXq hXs hK K1 hK1 => ?_
        simp only [go_sem, if_true, if_false, reduceIte, Nat.reduceEqDiff, Nat.reduceAdd, Nat.reduceLT, Nat.reduceLeDiff, reduceCtorEq, prs_at hlt, prs_at hlt']
        refine ⟨⟨by omega, by omega⟩, ⟨by omega, by omega⟩, ?_⟩
        refine hXq.quiet _ _ (OpG.of_B rfl (opB_eqAgg eqTy68 rfl rfl rfl rfl rfl)) ?_
        simp only [go_sem, if_true, if_false, reduceIte, Nat.reduceEqDiff, Nat.reduceAdd, Nat.reduceLT, Nat.reduceLeDiff, reduceCtorEq]
        refine hK1 _ _ ?_; clear hXq hK1 K1 Xq
        simp only [List.drop_zero, List.drop_succ_cons, go_sem, if_true, if_false, reduceIte, Nat.reduceEqDiff, Nat.reduceAdd, Nat.reduceLT, Nat.reduceLeDiff, reduceCtorEq]
        refine hK _ _ ?_; clear hXs hK K Xs
        show IW _ _ _ _ _ _ _ _
        repeat refine IW.seq ?_
        refine IW.cond rfl (fun hb3 => ?_) (fun hb3 => ?_)
        · repeat refine IW.seq ?_
          refine IW.region_seq tab_ok [some 4] rfl fun X K hX hK => ?_
          simp only [go_sem, if_true, if_false, reduceIte, Nat.reduceEqDiff, Nat.reduceAdd, Nat.reduceLT, Nat.reduceLeDiff, reduceCtorEq]
          refine hK _ _ ?_; clear hX hK X K
          show IW _ _ _ _ _ _ _ _
          refine IW.ret (Fin.scal rfl rfl ?_)
          simp only [Bool.not_eq_true', Bool.and_eq_false_iff, beq_eq_false_iff_ne, ne_eq] at hb3
          have hb3 : ¬ (a.getD i (0, 0) = b.getD i (0, 0)) := fun e => by rw [e] at hb3; simp at hb3
          show SV.bool false = SV.bool _
          rw [decide_eq_false (fun e => hb3 (by rw [e]))]
        · refine IW.skip ?_
          show IW _ _ _ _ _ _ _ _
          repeat refine IW.seq ?_
          refine IW.region_seq tab_ok [some 15, some 16, some 5] rfl fun X K hX hK => ?_
          simp only [go_sem, if_true, if_false, reduceIte, Nat.reduceEqDiff, Nat.reduceAdd, Nat.reduceLT, Nat.reduceLeDiff, reduceCtorEq, succ_wrap hlt (by omega)]
          refine hK _ _ ⟨⟨i + 1, hlt, fun j hj => ?_⟩, by simp only []; omega, ?_⟩
          · rcases Nat.lt_succ_iff_lt_or_eq.1 hj with h | h
            · exact hp j h
            · subst h
              simp only [Bool.not_eq_false', Bool.and_eq_true, beq_iff_eq] at hb3
              exact Prod.ext hb3.1 hb3.2
          · refine Ent.cut ?_ ?_ <;> simp only [go_sem, if_true, if_false, reduceIte, Nat.reduceEqDiff, Nat.reduceAdd, Nat.reduceLT, Nat.reduceLeDiff, reduceCtorEq]
      · refine IW.exit ?_
        show IW _ _ _ _ _ _ _ _
        repeat refine IW.seq ?_
        refine IW.region_seq tab_ok [some 4] rfl fun X K hX hK => ?_
        simp only [go_sem, if_true, if_false, reduceIte, Nat.reduceEqDiff, Nat.reduceAdd, Nat.reduceLT, Nat.reduceLeDiff, reduceCtorEq]
        refine hK _ _ ?_; clear hX hK X K
        show IW _ _ _ _ _ _ _ _
        refine IW.ret (Fin.scal rfl rfl ?_)
        simp only [decide_eq_false_iff_not] at hb2
        show SV.bool true = SV.bool _
        rw [decide_eq_true (same_full hl fun j hj => hp j (by omega))]
end Go.Proofs.Ytnbpbehlemaeoaa

set_option linter.unusedVariables false
set_option linter.unusedSimpArgs false
set_option maxRecDepth 10000
namespace Go.Proofs.Ytnbpbehlemaeoaa
open Go.IL
def pickF (x n : Int) : Int := if n < 1 then 0 else if x.tmod n < 0 then x.tmod n + n else x.tmod n
theorem pickF_bd (x n : Int) : (0 < n → 0 ≤ pickF x n ∧ pickF x n < n) := by
  intro h
  unfold pickF
  rw [if_neg (by omega)]
  have h1 := Int.tmod_lt_of_pos x h
  have h2 := Int.lt_tmod_of_pos x h
  split <;> omega
theorem kPick (x n : Int) (hx : -9223372036854775808 ≤ x ∧ x ≤ 9223372036854775807) (hn : n ≤ 9223372036854775807) : FSpec Try.prog 12 [.int .i64 x, .int .i64 n] (.int .i64 (pickF x n)) [] := by
  refine FSpec.intro tab_ok Try.func12 rfl rfl rfl (by kernel_rfl) (by simp) fun w0 => ?_
  simp only [argTM, Nat.zero_add, Nat.reduceAdd]
  repeat refine IW.seq ?_
  refine IW.region_seq tab_ok [some 4] rfl fun X K hX hK => ?_
  simp only [go_sem, if_true, if_false, reduceIte, Nat.reduceEqDiff, Nat.reduceAdd, Nat.reduceLT, Nat.reduceLeDiff, reduceCtorEq]
  refine hK _ _ ?_; clear hX hK X K
  show IW _ _ _ _ _ _ _ _
  repeat refine IW.seq ?_
  refine IW.region_seq tab_ok [some 6, some 7] rfl fun X K hX hK => ?_
  simp only [go_sem, if_true, if_false, reduceIte, Nat.reduceEqDiff, Nat.reduceAdd, Nat.reduceLT, Nat.reduceLeDiff, reduceCtorEq]
  refine hK _ _ ?_; clear hX hK X K
  show IW _ _ _ _ _ _ _ _
  repeat refine IW.seq ?_
  refine IW.cond rfl (fun hb => ?_) (fun hb => ?_)
  · repeat refine IW.seq ?_
    refine IW.region_seq tab_ok [some 4] rfl fun X K hX hK => ?_
    simp only [go_sem, if_true, if_false, reduceIte, Nat.reduceEqDiff, Nat.reduceAdd, Nat.reduceLT, Nat.reduceLeDiff, reduceCtorEq]
    refine hK _ _ ?_; clear hX hK X K
    show IW _ _ _ _ _ _ _ _
    refine IW.ret (Fin.scal rfl rfl ?_)
    simp only [decide_eq_true_eq] at hb
    show SV.int .i64 0 = SV.int .i64 _
    rw [pickF, if_pos hb]
  · refine IW.skip ?_
    show IW _ _ _ _ _ _ _ _
    simp only [decide_eq_false_iff_not] at hb
    have h0 : n ≠ 0 := by omega
    repeat refine IW.seq ?_
    refine IW.region_seq tab_ok [some 8, some 9, some 10, some 5] rfl fun X K hX hK => ?_
    simp only [go_sem, if_true, if_false, reduceIte, Nat.reduceEqDiff, Nat.reduceAdd, Nat.reduceLT, Nat.reduceLeDiff, reduceCtorEq]
    refine ⟨h0, ?_⟩
    refine hK _ _ ?_; clear hX hK X K
    show IW _ _ _ _ _ _ _ _
    repeat refine IW.seq ?_
    refine IW.region_seq tab_ok [some 11, some 12] rfl fun X K hX hK => ?_
    simp only [go_sem, if_true, if_false, reduceIte, Nat.reduceEqDiff, Nat.reduceAdd, Nat.reduceLT, Nat.reduceLeDiff, reduceCtorEq]
    refine hK _ _ ?_; clear hX hK X K
    show IW _ _ _ _ _ _ _ _
    have h1 := Int.tmod_lt_of_pos x (show 0 < n by omega)
    have h2 := Int.lt_tmod_of_pos x (show 0 < n by omega)
    repeat refine IW.seq ?_
    refine IW.cond rfl (fun hb2 => ?_) (fun hb2 => ?_)
    · simp only [decide_eq_true_eq] at hb2
      have e1 : IntKind.i64.wrap (x.tmod n + n) = x.tmod n + n := wrap_eq (by omega) (by omega)
      repeat refine IW.seq ?_
      refine IW.region_seq tab_ok [some 13, some 14, some 15, some 5] rfl fun X K hX hK => ?_
      simp only [go_sem, if_true, if_false, reduceIte, Nat.reduceEqDiff, Nat.reduceAdd, Nat.reduceLT, Nat.reduceLeDiff, reduceCtorEq, e1]
      refine hK _ _ ?_; clear hX hK X K
      show IW _ _ _ _ _ _ _ _
      repeat refine IW.seq ?_
      refine IW.region_seq tab_ok [some 16, some 4] rfl fun X K hX hK => ?_
      simp only [go_sem, if_true, if_false, reduceIte, Nat.reduceEqDiff, Nat.reduceAdd, Nat.reduceLT, Nat.reduceLeDiff, reduceCtorEq]
      refine hK _ _ ?_; clear hX hK X K
      show IW _ _ _ _ _ _ _ _
      refine IW.ret (Fin.scal rfl rfl ?_)
      show SV.int .i64 _ = SV.int .i64 _
      rw [pickF, if_neg hb, if_pos hb2]
    · refine IW.skip ?_
      show IW _ _ _ _ _ _ _ _
      simp only [decide_eq_false_iff_not] at hb2
      repeat refine IW.seq ?_
      refine IW.region_seq tab_ok [some 16, some 4] rfl fun X K hX hK => ?_
      simp only [go_sem, if_true, if_false, reduceIte, Nat.reduceEqDiff, Nat.reduceAdd, Nat.reduceLT, Nat.reduceLeDiff, reduceCtorEq]
      refine hK _ _ ?_; clear hX hK X K
      show IW _ _ _ _ _ _ _ _
      refine IW.ret (Fin.scal rfl rfl ?_)
      show SV.int .i64 _ = SV.int .i64 _
      rw [pickF, if_neg hb, if_neg hb2]
theorem lBig (W H : Int) (p : List Int) : FSpec Try.prog 22 [ink W H p] (.bool (decide (4000 < p.length))) [] := by
  refine FSpec.intro tab_ok Try.func22 rfl rfl rfl (by kernel_rfl) (by simp) fun w0 => ?_
  simp only [argTM, Nat.zero_add, Nat.reduceAdd]
  simp only [ink]
  repeat refine IW.seq ?_
  refine IW.region_seq tab_ok [some 1, some 2] rfl fun X K hX hK => ?_
  simp only [go_sem, if_true, if_false, reduceIte, Nat.reduceEqDiff, Nat.reduceAdd, Nat.reduceLT, Nat.reduceLeDiff, reduceCtorEq]
  refine hK _ _ ?_; clear hX hK X K
  show IW _ _ _ _ _ _ _ _
  repeat refine IW.seq ?_
  refine IW.region_seq tab_ok [some 3, some 4, some 5, some 6, some 2] rfl fun X K hX hK => ?_
  simp only [go_sem, if_true, if_false, reduceIte, Nat.reduceEqDiff, Nat.reduceAdd, Nat.reduceLT, Nat.reduceLeDiff, reduceCtorEq]
  refine hK _ _ ?_; clear hX hK X K
  show IW _ _ _ _ _ _ _ _
  refine IW.ret (Fin.scal rfl rfl ?_)
  show SV.bool _ = SV.bool _
  congr 1
  by_cases h : 4000 < p.length
  · rw [decide_eq_true h, decide_eq_true (by omega)]
  · rw [decide_eq_false h, decide_eq_false (by omega)]
/-- A list of numbers that a call has made: nil or empty, or a row. -/
def lsSV (k : IntKind) (p : List Int) : SV := if p = [] then .sl false [] else .ref 0 0 p.length
def lsRows (k : IntKind) (e : TypeId) (p : List Int) : List Row := if p = [] then [] else [⟨1, e, nums k p⟩]
theorem sl_nil {o : Bool} : VRel (fun _ => none) (fun _ => False) (fun _ => False) default (.sl false []) (.slice none 0 0) :=
  .sl false [] none 0 0 (fun _ _ => undef) (by simp) (by simp) (by simp) (by simp) (by simp)
/-- What is told of a result may be less. -/
theorem FSpec.weak {f : FuncId} {args : List SV} {sv sv' : SV} {rows : List Row} (h : FSpec Try.prog f args sv rows) (hv : ∀ (ρ : Rho) (F : Nat → Prop) (w : World) (v : Value), VRel ρ (fun _ => False) F w sv v → VRel ρ (fun _ => False) F w sv' v) : FSpec Try.prog f args sv' rows :=
  ⟨h.1, fun w cargs hA => (h.2 w cargs hA).mono fun e w' hp => by
    obtain ⟨v, ρ, F, h1, h2, h3, h4, h5, h6, h7⟩ := hp
    exact ⟨v, ρ, F, h1, h2, h3, h4, h5, h6, hv _ _ _ _ h7⟩⟩
theorem FSpec.drop {f : FuncId} {args : List SV} {sv sv' : SV} {rows : List Row} (h : FSpec Try.prog f args sv rows) (hv : ∀ (ρ : Rho) (F : Nat → Prop) (w : World) (v : Value), VRel ρ (fun _ => False) F w sv v → VRel (fun _ => none) (fun _ => False) F w sv' v) : FSpec Try.prog f args sv' [] :=
  ⟨h.1, fun w cargs hA => (h.2 w cargs hA).mono fun e w' hp => by
    obtain ⟨v, ρ, F, h1, h2, h3, h4, h5, h6, h7⟩ := hp
    exact ⟨v, fun _ => none, F, h1, h2, ⟨fun id r ri e => by simp at e, fun id id' r r' ri ri' e => by simp at e, h3.lt⟩, h4, fun id ri e => (by cases e), fun _ _ => rfl, hv _ _ _ _ h7⟩⟩
theorem nils_sl {ρ : Rho} {O F : Nat → Prop} {w : World} {v : Value} (h : VRel ρ O F w .nils v) : VRel (fun _ => none) O F w (.sl false []) v := by
  cases h
  exact .sl false [] none 0 0 (fun _ _ => undef) (by simp) (by simp) (by simp) (by simp) (by simp)
theorem ref0_sl {ρ : Rho} {O F : Nat → Prop} {w : World} {v : Value} {id off : Nat} (h : VRel ρ O F w (.ref id off 0) v) : VRel (fun _ => none) O F w (.sl false []) v := by
  cases h with
  | ref _ _ _ cap ri _ h1 h2 h3 => exact .sl false [] _ cap 0 (fun _ _ => undef) (by simp) (by simp) h3 (by simp) (by simp)
theorem raw0_sl {ρ : Rho} {O F : Nat → Prop} {w : World} {v : Value} {a : Option Addr} {c : Nat} (hc : c ≤ 9223372036854775807) (h : VRel ρ O F w (.raw (.slice a 0 c)) v) : VRel (fun _ => none) O F w (.sl false []) v := by
  cases h
  exact .sl false [] _ c 0 (fun _ _ => undef) (by simp) (by simp) hc (by simp) (by simp)
attribute [go_sem] Go.IL.opB_append0
theorem kCopyInts (l : List Int) (hl : l.length ≤ 1000000) : FSpec Try.prog 33 [.sl true (nums .i64 l)] (lsSV .i64 l) (lsRows .i64 3 l) := by
  cases l with
  | nil =>
    refine FSpec.drop (sv := .nils) (rows := []) ?_ fun ρ F w v h => nils_sl h
    refine FSpec.intro tab_ok Try.func33 rfl rfl rfl (by kernel_rfl) (by simp) fun w0 => ?_
    simp only [argTM, Nat.zero_add, Nat.reduceAdd]
    repeat refine IW.seq ?_
    refine IW.region_seq tab_ok [some 2] rfl fun X K hX hK => ?_
    simp only [go_sem, if_true, if_false, reduceIte, Nat.reduceEqDiff, Nat.reduceAdd, Nat.reduceLT, Nat.reduceLeDiff, reduceCtorEq]
    refine hK _ _ ?_; clear hX hK X K
    show IW _ _ _ _ _ _ _ _
    repeat refine IW.seq ?_
    refine IW.region_seq tab_ok [some 3] rfl fun X K hX hK => ?_
    simp only [go_sem, if_true, if_false, reduceIte, Nat.reduceEqDiff, Nat.reduceAdd, Nat.reduceLT, Nat.reduceLeDiff, reduceCtorEq]
    refine hK _ _ ?_; clear hX hK X K
    show IW _ _ _ _ _ _ _ _
    repeat refine IW.seq ?_
    refine IW.region_seq tab_ok [some 4, some 5, some 6, some 2] rfl fun X K hX hK => ?_
    simp only [go_sem, if_true, if_false, reduceIte, Nat.reduceEqDiff, Nat.reduceAdd, Nat.reduceLT, Nat.reduceLeDiff, reduceCtorEq, nums_nil]
    refine hX.quiet _ _ (OpG.of_B rfl (opB_append0 tab_ok trivial trivial rfl rfl)) ?_
    simp only [go_sem, if_true, if_false, reduceIte, Nat.reduceEqDiff, Nat.reduceAdd, Nat.reduceLT, Nat.reduceLeDiff, reduceCtorEq]
    refine hK _ _ ?_; clear hX hK X K
    show IW _ _ _ _ _ _ _ _
    refine IW.ret (Fin.scal rfl rfl ?_)
    rfl
  | cons x l =>
    show FSpec Try.prog 33 _ (.ref 0 0 (l.length + 1)) [⟨1, 3, nums .i64 (x :: l)⟩]
    have hl' : (x :: l).length = l.length + 1 := rfl
    generalize hxs : x :: l = xs at *
    rw [← hl']
    have hpos : 0 < xs.length := by omega
    refine FSpec.intro tab_ok Try.func33 rfl rfl rfl (by kernel_rfl) (by simp) fun w0 => ?_
    simp only [argTM, Nat.zero_add, Nat.reduceAdd]
    repeat refine IW.seq ?_
    refine IW.region_seq tab_ok [some 2] rfl fun X K hX hK => ?_
    simp only [go_sem, if_true, if_false, reduceIte, Nat.reduceEqDiff, Nat.reduceAdd, Nat.reduceLT, Nat.reduceLeDiff, reduceCtorEq]
    refine hK _ _ ?_; clear hX hK X K
    show IW _ _ _ _ _ _ _ _
    repeat refine IW.seq ?_
    refine IW.region_seq tab_ok [some 3] rfl fun X K hX hK => ?_
    simp only [go_sem, if_true, if_false, reduceIte, Nat.reduceEqDiff, Nat.reduceAdd, Nat.reduceLT, Nat.reduceLeDiff, reduceCtorEq]
    refine hK _ _ ?_; clear hX hK X K
    show IW _ _ _ _ _ _ _ _
    repeat refine IW.seq ?_
    refine IW.region_seq tab_ok [some 4, some 5, some 6, some 2] rfl fun X K hX hK => ?_
    simp only [go_sem, if_true, if_false, reduceIte, Nat.reduceEqDiff, Nat.reduceAdd, Nat.reduceLT, Nat.reduceLeDiff, reduceCtorEq]
    refine hX.quiet _ _ (OpG.of_B rfl (opB_append_nil tab_ok (ys := nums .i64 xs) rfl (by simp [go_sem, if_true, if_false, reduceIte, Nat.reduceEqDiff, Nat.reduceAdd, Nat.reduceLT, Nat.reduceLeDiff, reduceCtorEq, nums_length, hpos]) rfl (by simp [go_sem, if_true, if_false, reduceIte, Nat.reduceEqDiff, Nat.reduceAdd, Nat.reduceLT, Nat.reduceLeDiff, reduceCtorEq, nums_length, hpos]; try omega) rfl (by simp [go_sem, if_true, if_false, reduceIte, Nat.reduceEqDiff, Nat.reduceAdd, Nat.reduceLT, Nat.reduceLeDiff, reduceCtorEq]) (by simp [go_sem, if_true, if_false, reduceIte, Nat.reduceEqDiff, Nat.reduceAdd, Nat.reduceLT, Nat.reduceLeDiff, reduceCtorEq]) (by first | exact nums_w _ _ | exact prs_w _ | simp [go_sem, if_true, if_false, reduceIte, Nat.reduceEqDiff, Nat.reduceAdd, Nat.reduceLT, Nat.reduceLeDiff, reduceCtorEq, nums]) (by simp [go_sem, if_true, if_false, reduceIte, Nat.reduceEqDiff, Nat.reduceAdd, Nat.reduceLT, Nat.reduceLeDiff, reduceCtorEq]) (by simp [go_sem, if_true, if_false, reduceIte, Nat.reduceEqDiff, Nat.reduceAdd, Nat.reduceLT, Nat.reduceLeDiff, reduceCtorEq]; try omega) (by simp [go_sem, if_true, if_false, reduceIte, Nat.reduceEqDiff, Nat.reduceAdd, Nat.reduceLT, Nat.reduceLeDiff, reduceCtorEq]; try omega))) ?_
    simp only [go_sem, if_true, if_false, reduceIte, Nat.reduceEqDiff, Nat.reduceAdd, Nat.reduceLT, Nat.reduceLeDiff, reduceCtorEq, List.length_cons, List.length_nil, nums_length, hpos]
    refine hK _ _ ?_; clear hX hK X K
    show IW _ _ _ _ _ _ _ _
    refine IW.ret (Fin.tmp1 0 rfl (by simp [go_sem, if_true, if_false, reduceIte, Nat.reduceEqDiff, Nat.reduceAdd, Nat.reduceLT, Nat.reduceLeDiff, reduceCtorEq]) (by first | (simp [go_sem, if_true, if_false, reduceIte, Nat.reduceEqDiff, Nat.reduceAdd, Nat.reduceLT, Nat.reduceLeDiff, reduceCtorEq]; done) | simp [go_sem, if_true, if_false, reduceIte, Nat.reduceEqDiff, Nat.reduceAdd, Nat.reduceLT, Nat.reduceLeDiff, reduceCtorEq, nums]) (by first | (simp [go_sem, if_true, if_false, reduceIte, Nat.reduceEqDiff, Nat.reduceAdd, Nat.reduceLT, Nat.reduceLeDiff, reduceCtorEq]; done) | simp [go_sem, if_true, if_false, reduceIte, Nat.reduceEqDiff, Nat.reduceAdd, Nat.reduceLT, Nat.reduceLeDiff, reduceCtorEq, nums]))
theorem kCopyBytes (l : List Int) (hl : l.length ≤ 1000000) : FSpec Try.prog 66 [.sl true (nums .u8 l)] (lsSV .u8 l) (lsRows .u8 5 l) := by
  cases l with
  | nil =>
    refine FSpec.drop (sv := .nils) (rows := []) ?_ fun ρ F w v h => nils_sl h
    refine FSpec.intro tab_ok Try.func66 rfl rfl rfl (by kernel_rfl) (by simp) fun w0 => ?_
    simp only [argTM, Nat.zero_add, Nat.reduceAdd]
    repeat refine IW.seq ?_
    refine IW.region_seq tab_ok [some 2] rfl fun X K hX hK => ?_
    simp only [go_sem, if_true, if_false, reduceIte, Nat.reduceEqDiff, Nat.reduceAdd, Nat.reduceLT, Nat.reduceLeDiff, reduceCtorEq]
    refine hK _ _ ?_; clear hX hK X K
    show IW _ _ _ _ _ _ _ _
    repeat refine IW.seq ?_
    refine IW.region_seq tab_ok [some 3] rfl fun X K hX hK => ?_
    simp only [go_sem, if_true, if_false, reduceIte, Nat.reduceEqDiff, Nat.reduceAdd, Nat.reduceLT, Nat.reduceLeDiff, reduceCtorEq]
    refine hK _ _ ?_; clear hX hK X K
    show IW _ _ _ _ _ _ _ _
    repeat refine IW.seq ?_
    refine IW.region_seq tab_ok [some 4, some 5, some 6, some 2] rfl fun X K hX hK => ?_
    simp only [go_sem, if_true, if_false, reduceIte, Nat.reduceEqDiff, Nat.reduceAdd, Nat.reduceLT, Nat.reduceLeDiff, reduceCtorEq, nums_nil]
    refine hX.quiet _ _ (OpG.of_B rfl (opB_append0 tab_ok trivial trivial rfl rfl)) ?_
    simp only [go_sem, if_true, if_false, reduceIte, Nat.reduceEqDiff, Nat.reduceAdd, Nat.reduceLT, Nat.reduceLeDiff, reduceCtorEq]
    refine hK _ _ ?_; clear hX hK X K
    show IW _ _ _ _ _ _ _ _
    refine IW.ret (Fin.scal rfl rfl ?_)
    rfl
  | cons x l =>
    show FSpec Try.prog 66 _ (.ref 0 0 (l.length + 1)) [⟨1, 5, nums .u8 (x :: l)⟩]
    have hl' : (x :: l).length = l.length + 1 := rfl
    generalize hxs : x :: l = xs at *
    rw [← hl']
    have hpos : 0 < xs.length := by omega
    refine FSpec.intro tab_ok Try.func66 rfl rfl rfl (by kernel_rfl) (by simp) fun w0 => ?_
    simp only [argTM, Nat.zero_add, Nat.reduceAdd]
    repeat refine IW.seq ?_
    refine IW.region_seq tab_ok [some 2] rfl fun X K hX hK => ?_
    simp only [go_sem, if_true, if_false, reduceIte, Nat.reduceEqDiff, Nat.reduceAdd, Nat.reduceLT, Nat.reduceLeDiff, reduceCtorEq]
    refine hK _ _ ?_; clear hX hK X K
    show IW _ _ _ _ _ _ _ _
    repeat refine IW.seq ?_
    refine IW.region_seq tab_ok [some 3] rfl fun X K hX hK => ?_
    simp only [go_sem, if_true, if_false, reduceIte, Nat.reduceEqDiff, Nat.reduceAdd, Nat.reduceLT, Nat.reduceLeDiff, reduceCtorEq]
    refine hK _ _ ?_; clear hX hK X K
    show IW _ _ _ _ _ _ _ _
    repeat refine IW.seq ?_
    refine IW.region_seq tab_ok [some 4, some 5, some 6, some 2] rfl fun X K hX hK => ?_
    simp only [go_sem, if_true, if_false, reduceIte, Nat.reduceEqDiff, Nat.reduceAdd, Nat.reduceLT, Nat.reduceLeDiff, reduceCtorEq]
    refine hX.quiet _ _ (OpG.of_B rfl (opB_append_nil tab_ok (ys := nums .u8 xs) rfl (by simp [go_sem, if_true, if_false, reduceIte, Nat.reduceEqDiff, Nat.reduceAdd, Nat.reduceLT, Nat.reduceLeDiff, reduceCtorEq, nums_length, hpos]) rfl (by simp [go_sem, if_true, if_false, reduceIte, Nat.reduceEqDiff, Nat.reduceAdd, Nat.reduceLT, Nat.reduceLeDiff, reduceCtorEq, nums_length, hpos]; try omega) rfl (by simp [go_sem, if_true, if_false, reduceIte, Nat.reduceEqDiff, Nat.reduceAdd, Nat.reduceLT, Nat.reduceLeDiff, reduceCtorEq]) (by simp [go_sem, if_true, if_false, reduceIte, Nat.reduceEqDiff, Nat.reduceAdd, Nat.reduceLT, Nat.reduceLeDiff, reduceCtorEq]) (by first | exact nums_w _ _ | exact prs_w _ | simp [go_sem, if_true, if_false, reduceIte, Nat.reduceEqDiff, Nat.reduceAdd, Nat.reduceLT, Nat.reduceLeDiff, reduceCtorEq, nums]) (by simp [go_sem, if_true, if_false, reduceIte, Nat.reduceEqDiff, Nat.reduceAdd, Nat.reduceLT, Nat.reduceLeDiff, reduceCtorEq]) (by simp [go_sem, if_true, if_false, reduceIte, Nat.reduceEqDiff, Nat.reduceAdd, Nat.reduceLT, Nat.reduceLeDiff, reduceCtorEq]; try omega) (by simp [go_sem, if_true, if_false, reduceIte, Nat.reduceEqDiff, Nat.reduceAdd, Nat.reduceLT, Nat.reduceLeDiff, reduceCtorEq]; try omega))) ?_
    simp only [go_sem, if_true, if_false, reduceIte, Nat.reduceEqDiff, Nat.reduceAdd, Nat.reduceLT, Nat.reduceLeDiff, reduceCtorEq, List.length_cons, List.length_nil, nums_length, hpos]
    refine hK _ _ ?_; clear hX hK X K
    show IW _ _ _ _ _ _ _ _
    refine IW.ret (Fin.tmp1 0 rfl (by simp [go_sem, if_true, if_false, reduceIte, Nat.reduceEqDiff, Nat.reduceAdd, Nat.reduceLT, Nat.reduceLeDiff, reduceCtorEq]) (by first | (simp [go_sem, if_true, if_false, reduceIte, Nat.reduceEqDiff, Nat.reduceAdd, Nat.reduceLT, Nat.reduceLeDiff, reduceCtorEq]; done) | simp [go_sem, if_true, if_false, reduceIte, Nat.reduceEqDiff, Nat.reduceAdd, Nat.reduceLT, Nat.reduceLeDiff, reduceCtorEq, nums]) (by first | (simp [go_sem, if_true, if_false, reduceIte, Nat.reduceEqDiff, Nat.reduceAdd, Nat.reduceLT, Nat.reduceLeDiff, reduceCtorEq]; done) | simp [go_sem, if_true, if_false, reduceIte, Nat.reduceEqDiff, Nat.reduceAdd, Nat.reduceLT, Nat.reduceLeDiff, reduceCtorEq, nums]))
theorem elem31 : (tab 31).shape = .slice 5 := rfl
theorem fClone (l : List Int) (hl : l.length ≤ 1000000) : FSpec Try.prog 62 [.sl true (nums .u8 l)] (lsSV .u8 l) (lsRows .u8 5 l) := by
  cases l with
  | nil =>
    suffices h : ∀ a c, c ≤ 9223372036854775807 → FSpec Try.prog 62 [.raw (.slice a 0 c)] (.sl false []) [] from
      ⟨(h none 0 (by omega)).1, fun w cargs hA => by
        have h1 : cargs.size = 1 := hA.1.symm
        have h2 := hA.2 0 (.sl true []) cargs[0] rfl (by simp [h1])
        generalize hc : cargs[0] = v at h2
        cases h2 with
        | sl _ _ a cap k cs _ _ hm =>
          refine (h a cap hm).2 w cargs ⟨hA.1, fun i s v e1 e2 => ?_⟩
          cases i with
          | zero =>
            simp at e1; subst e1
            have : cargs[0]? = some (.slice a 0 cap) := by simp [h1, hc]
            rw [this] at e2; cases e2
            exact .raw _
          | succ i => simp at e1⟩
    intro a c hc
    cases a with
    | none =>
      refine FSpec.drop (sv := .nils) (rows := []) ?_ fun ρ F w v h => nils_sl h
      refine FSpec.intro tab_ok Try.func62 rfl rfl rfl (by kernel_rfl) (by simp) fun w0 => ?_
      simp only [argTM, Nat.zero_add, Nat.reduceAdd]
      repeat refine IW.seq ?_
      refine IW.region_seq tab_ok [some 2] rfl fun X K hX hK => ?_
      simp only [go_sem, if_true, if_false, reduceIte, Nat.reduceEqDiff, Nat.reduceAdd, Nat.reduceLT, Nat.reduceLeDiff, reduceCtorEq]
      refine hK _ _ ?_; clear hX hK X K
      show IW _ _ _ _ _ _ _ _
      repeat refine IW.seq ?_
      refine IW.region_seq tab_ok [some 3, some 4] rfl fun X K hX hK => ?_
      simp only [go_sem, if_true, if_false, reduceIte, Nat.reduceEqDiff, Nat.reduceAdd, Nat.reduceLT, Nat.reduceLeDiff, reduceCtorEq]
      refine hX.quiet _ _ (OpG.of_B rfl (opB_isNil tab_ok elem31 rfl rfl)) ?_
      simp only [go_sem, if_true, if_false, reduceIte, Nat.reduceEqDiff, Nat.reduceAdd, Nat.reduceLT, Nat.reduceLeDiff, reduceCtorEq, Option.isNone_none]
      refine hK _ _ ?_; clear hX hK X K
      show IW _ _ _ _ _ _ _ _
      repeat refine IW.seq ?_
      refine IW.cond rfl (fun hb => ?_) (fun hb => absurd hb (by decide))
      repeat refine IW.seq ?_
      refine IW.region_seq tab_ok [some 2] rfl fun X K hX hK => ?_
      simp only [go_sem, if_true, if_false, reduceIte, Nat.reduceEqDiff, Nat.reduceAdd, Nat.reduceLT, Nat.reduceLeDiff, reduceCtorEq]
      refine hK _ _ ?_; clear hX hK X K
      show IW _ _ _ _ _ _ _ _
      refine IW.ret (Fin.scal rfl rfl ?_)
      rfl
    | some a =>
      refine FSpec.drop (sv := .ref 0 0 0) (rows := [⟨1, 5, []⟩]) ?_ fun ρ F w v h => ref0_sl h
      refine FSpec.intro tab_ok Try.func62 rfl rfl rfl (by kernel_rfl) (by simp) fun w0 => ?_
      simp only [argTM, Nat.zero_add, Nat.reduceAdd]
      repeat refine IW.seq ?_
      refine IW.region_seq tab_ok [some 2] rfl fun X K hX hK => ?_
      simp only [go_sem, if_true, if_false, reduceIte, Nat.reduceEqDiff, Nat.reduceAdd, Nat.reduceLT, Nat.reduceLeDiff, reduceCtorEq]
      refine hK _ _ ?_; clear hX hK X K
      show IW _ _ _ _ _ _ _ _
      repeat refine IW.seq ?_
      refine IW.region_seq tab_ok [some 3, some 4] rfl fun X K hX hK => ?_
      simp only [go_sem, if_true, if_false, reduceIte, Nat.reduceEqDiff, Nat.reduceAdd, Nat.reduceLT, Nat.reduceLeDiff, reduceCtorEq]
      refine hX.quiet _ _ (OpG.of_B rfl (opB_isNil tab_ok elem31 rfl rfl)) ?_
      simp only [go_sem, if_true, if_false, reduceIte, Nat.reduceEqDiff, Nat.reduceAdd, Nat.reduceLT, Nat.reduceLeDiff, reduceCtorEq, Option.isNone_some]
      refine hK _ _ ?_; clear hX hK X K
      show IW _ _ _ _ _ _ _ _
      repeat refine IW.seq ?_
      refine IW.cond rfl (fun hb => absurd hb (by decide)) (fun hb => ?_)
      refine IW.skip ?_
      show IW _ _ _ _ _ _ _ _
      repeat refine IW.seq ?_
      refine IW.region_seq tab_ok [some 5, some 6, some 7, some 2] rfl fun X K hX hK => ?_
      simp only [go_sem, if_true, if_false, reduceIte, Nat.reduceEqDiff, Nat.reduceAdd, Nat.reduceLT, Nat.reduceLeDiff, reduceCtorEq]
      refine hX.quiet _ _ (OpG.of_B rfl (opB_buildSlice tab_ok rfl (by simp [go_sem, if_true, if_false, reduceIte, Nat.reduceEqDiff, Nat.reduceAdd, Nat.reduceLT, Nat.reduceLeDiff, reduceCtorEq]) (by simp [go_sem, if_true, if_false, reduceIte, Nat.reduceEqDiff, Nat.reduceAdd, Nat.reduceLT, Nat.reduceLeDiff, reduceCtorEq]) (by simp) (by simp [go_sem, if_true, if_false, reduceIte, Nat.reduceEqDiff, Nat.reduceAdd, Nat.reduceLT, Nat.reduceLeDiff, reduceCtorEq, bsO, List.map_cons, List.map_nil]))) ?_
      simp only [go_sem, if_true, if_false, reduceIte, Nat.reduceEqDiff, Nat.reduceAdd, Nat.reduceLT, Nat.reduceLeDiff, reduceCtorEq, List.map_cons, List.map_nil]
      refine hX.quiet _ _ (OpG.of_B rfl (opB_append0 tab_ok trivial trivial rfl rfl)) ?_
      simp only [go_sem, if_true, if_false, reduceIte, Nat.reduceEqDiff, Nat.reduceAdd, Nat.reduceLT, Nat.reduceLeDiff, reduceCtorEq]
      refine hK _ _ ?_; clear hX hK X K
      show IW _ _ _ _ _ _ _ _
      refine IW.ret (Fin.tmp1 0 rfl (by simp [go_sem, if_true, if_false, reduceIte, Nat.reduceEqDiff, Nat.reduceAdd, Nat.reduceLT, Nat.reduceLeDiff, reduceCtorEq]) (by first | (simp [go_sem, if_true, if_false, reduceIte, Nat.reduceEqDiff, Nat.reduceAdd, Nat.reduceLT, Nat.reduceLeDiff, reduceCtorEq]; done) | simp [go_sem, if_true, if_false, reduceIte, Nat.reduceEqDiff, Nat.reduceAdd, Nat.reduceLT, Nat.reduceLeDiff, reduceCtorEq, nums]) (by first | (simp [go_sem, if_true, if_false, reduceIte, Nat.reduceEqDiff, Nat.reduceAdd, Nat.reduceLT, Nat.reduceLeDiff, reduceCtorEq]; done) | simp [go_sem, if_true, if_false, reduceIte, Nat.reduceEqDiff, Nat.reduceAdd, Nat.reduceLT, Nat.reduceLeDiff, reduceCtorEq, nums]))
  | cons x l =>
    show FSpec Try.prog 62 _ (.ref 0 0 (x :: l).length) [⟨1, 5, nums .u8 (x :: l)⟩]
    refine FSpec.intro tab_ok Try.func62 rfl rfl rfl (by kernel_rfl) (by simp) fun w0 => ?_
    simp only [argTM, Nat.zero_add, Nat.reduceAdd]
    repeat refine IW.seq ?_
    refine IW.region_seq tab_ok [some 2] rfl fun X K hX hK => ?_
    simp only [go_sem, if_true, if_false, reduceIte, Nat.reduceEqDiff, Nat.reduceAdd, Nat.reduceLT, Nat.reduceLeDiff, reduceCtorEq]
    refine hK _ _ ?_; clear hX hK X K
    show IW _ _ _ _ _ _ _ _
    repeat refine IW.seq ?_
    refine IW.region_seq tab_ok [some 3, some 4] rfl fun X K hX hK => ?_
    simp only [go_sem, if_true, if_false, reduceIte, Nat.reduceEqDiff, Nat.reduceAdd, Nat.reduceLT, Nat.reduceLeDiff, reduceCtorEq]
    refine hX.quiet _ _ (OpG.of_B rfl (opB_isNil tab_ok elem31 rfl rfl)) ?_
    simp only [go_sem, if_true, if_false, reduceIte, Nat.reduceEqDiff, Nat.reduceAdd, Nat.reduceLT, Nat.reduceLeDiff, reduceCtorEq]
    refine hK _ _ ?_; clear hX hK X K
    show IW _ _ _ _ _ _ _ _
    repeat refine IW.seq ?_
    refine IW.cond rfl (fun hb => absurd hb (by decide)) (fun hb => ?_)
    refine IW.skip ?_
    show IW _ _ _ _ _ _ _ _
    repeat refine IW.seq ?_
    refine IW.region_seq tab_ok [some 5, some 6, some 7, some 2] rfl fun X K hX hK => ?_
    simp only [go_sem, if_true, if_false, reduceIte, Nat.reduceEqDiff, Nat.reduceAdd, Nat.reduceLT, Nat.reduceLeDiff, reduceCtorEq]
    refine hX.quiet _ _ (OpG.of_B rfl (opB_buildSlice tab_ok rfl (by simp [go_sem, if_true, if_false, reduceIte, Nat.reduceEqDiff, Nat.reduceAdd, Nat.reduceLT, Nat.reduceLeDiff, reduceCtorEq]) (by simp [go_sem, if_true, if_false, reduceIte, Nat.reduceEqDiff, Nat.reduceAdd, Nat.reduceLT, Nat.reduceLeDiff, reduceCtorEq]) (by simp) (by simp [go_sem, if_true, if_false, reduceIte, Nat.reduceEqDiff, Nat.reduceAdd, Nat.reduceLT, Nat.reduceLeDiff, reduceCtorEq, bsO, List.map_cons, List.map_nil]))) ?_
    simp only [go_sem, if_true, if_false, reduceIte, Nat.reduceEqDiff, Nat.reduceAdd, Nat.reduceLT, Nat.reduceLeDiff, reduceCtorEq, List.map_cons, List.map_nil]
    have hpos : 0 < (x :: l).length := by simp
    generalize hxs : x :: l = xs at *
    refine hX.op _ _ rfl (opS_append tab_ok (ys := nums .u8 xs) rfl (by simp [go_sem, if_true, if_false, reduceIte, Nat.reduceEqDiff, Nat.reduceAdd, Nat.reduceLT, Nat.reduceLeDiff, reduceCtorEq, nums_length]) rfl (by simp [go_sem, if_true, if_false, reduceIte, Nat.reduceEqDiff, Nat.reduceAdd, Nat.reduceLT, Nat.reduceLeDiff, reduceCtorEq, nums_length]; try omega) rfl (by simp [go_sem, if_true, if_false, reduceIte, Nat.reduceEqDiff, Nat.reduceAdd, Nat.reduceLT, Nat.reduceLeDiff, reduceCtorEq]) (by simp [go_sem, if_true, if_false, reduceIte, Nat.reduceEqDiff, Nat.reduceAdd, Nat.reduceLT, Nat.reduceLeDiff, reduceCtorEq]) (by simp [go_sem, if_true, if_false, reduceIte, Nat.reduceEqDiff, Nat.reduceAdd, Nat.reduceLT, Nat.reduceLeDiff, reduceCtorEq, nums_length]) rfl rfl rfl (by first | exact nums_w _ _ | exact prs_w _ | simp [go_sem, if_true, if_false, reduceIte, Nat.reduceEqDiff, Nat.reduceAdd, Nat.reduceLT, Nat.reduceLeDiff, reduceCtorEq, nums]) (by simp [go_sem, if_true, if_false, reduceIte, Nat.reduceEqDiff, Nat.reduceAdd, Nat.reduceLT, Nat.reduceLeDiff, reduceCtorEq]) (by simp [go_sem, if_true, if_false, reduceIte, Nat.reduceEqDiff, Nat.reduceAdd, Nat.reduceLT, Nat.reduceLeDiff, reduceCtorEq]; omega) (by simp [go_sem, if_true, if_false, reduceIte, Nat.reduceEqDiff, Nat.reduceAdd, Nat.reduceLT, Nat.reduceLeDiff, reduceCtorEq]; omega) (by intro d e; cases e; decide)) ?_
    simp only [go_sem, if_true, if_false, reduceIte, Nat.reduceEqDiff, Nat.reduceAdd, Nat.reduceLT, Nat.reduceLeDiff, reduceCtorEq, List.length_cons, List.length_nil, nums_length]
    refine hK _ _ ?_; clear hX hK X K
    show IW _ _ _ _ _ _ _ _
    refine IW.ret (Fin.tmp1 1 rfl (by simp [go_sem, if_true, if_false, reduceIte, Nat.reduceEqDiff, Nat.reduceAdd, Nat.reduceLT, Nat.reduceLeDiff, reduceCtorEq]) (by first | (simp [go_sem, if_true, if_false, reduceIte, Nat.reduceEqDiff, Nat.reduceAdd, Nat.reduceLT, Nat.reduceLeDiff, reduceCtorEq]; done) | simp [go_sem, if_true, if_false, reduceIte, Nat.reduceEqDiff, Nat.reduceAdd, Nat.reduceLT, Nat.reduceLeDiff, reduceCtorEq, nums]) (by first | (simp [go_sem, if_true, if_false, reduceIte, Nat.reduceEqDiff, Nat.reduceAdd, Nat.reduceLT, Nat.reduceLeDiff, reduceCtorEq]; done) | simp [go_sem, if_true, if_false, reduceIte, Nat.reduceEqDiff, Nat.reduceAdd, Nat.reduceLT, Nat.reduceLeDiff, reduceCtorEq, nums]))
end Go.Proofs.Ytnbpbehlemaeoaa

set_option linter.unusedVariables false
set_option linter.unusedSimpArgs false
set_option maxRecDepth 10000
namespace Go.Proofs.Ytnbpbehlemaeoaa
open Go.IL
/-- A list that a call has made, of n elements, in row id: where there are none it may be nil. -/
def lsV (id n : Nat) : SV := match n with | 0 => .sl false [] | n + 1 => .ref id 0 (n + 1)
theorem lsV_ne {id n : Nat} (h : 0 < n) : lsV id n = .ref id 0 n := by cases n with | zero => omega | succ n => rfl
theorem lsV_ren (σ : Nat → Nat) (id n : Nat) : (lsV id n).ren σ = lsV (σ id) n := by cases n <;> simp [lsV, SV.ren, renLL]
theorem lsV_nold (id n : Nat) : (lsV id n).nold = true := by cases n <;> simp [lsV, SV.nold, noldLL]
theorem lsV_bnd {id n m : Nat} (h : id < m) : (lsV id n).bnd m = true := by cases n <;> simp [lsV, SV.bnd, bndLL, h]
theorem lsV_nomap (id n : Nat) : (lsV id n).nomap = true := by cases n <;> simp [lsV, SV.nomap, nomapLL]
theorem lsV_scal (id n : Nat) : scal (lsV id n) = true := by cases n <;> rfl
theorem lsV_cells (id n : Nat) : (lsV id n).cells = [lsV id n] := by cases n <;> rfl
theorem lsV_len (id n : Nat) : lenV (lsV id n) = .int .i64 n := by cases n <;> simp [lsV, lenV]
theorem lsV_lenO (ti : TI) (id n : Nat) : lenO ti (lsV id n) = (match ti.shape with | .slice _ => True | _ => False) := by cases n <;> rfl
theorem lsV_rei {n m id : Nat} {h : Heap} (hl : (rowXs h id).length = n) (hs : (hrow h id).isSome = true) : rei (m + 1) h (lsV id n) = .sl true ((rowXs h id).map fun x => x.map (rei m h)) := by
  cases n with
  | zero => have : rowXs h id = [] := List.length_eq_zero_iff.1 hl
            simp [lsV, rei, this]
  | succ n => simp only [lsV, rei]
              rw [if_pos ⟨by omega, hs⟩, List.drop_zero, List.take_of_length_le (by omega)]
theorem lsV_nz (id n : Nat) : nz (lsV id n) = lsV id n := by cases n <;> rfl
theorem nz_agg_ls (a b : SV) (id n : Nat) : nz (.agg [a, b, lsV id n]) = .agg [a, b, lsV id n] := by cases n <;> rfl
theorem rel_ls {ρ : Rho} {O F : Nat → Prop} {w : World} {v : Value} {id n : Nat} (h : VRel ρ O F w (.ref id 0 n) v) : VRel ρ O F w (lsV id n) v := by
  cases n with
  | zero => exact (ref0_sl h).mono (fun _ _ e => by cases e) fun _ _ h => ⟨h, rfl⟩
  | succ n => exact h
theorem rel_ls_nil {ρ : Rho} {O F : Nat → Prop} {w : World} {v : Value} {id : Nat} (h : VRel ρ O F w .nils v) : VRel ρ O F w (lsV id 0) v := (nils_sl h).mono (fun _ _ e => by cases e) fun _ _ h => ⟨h, rfl⟩
theorem rel_agg3 {ρ ρ' : Rho} {O F : Nat → Prop} {w : World} {v : Value} {a b c c' : SV} (ha : ∀ v, VRel ρ O F w a v → VRel ρ' O F w a v) (hb : ∀ v, VRel ρ O F w b v → VRel ρ' O F w b v) (hc : ∀ v, VRel ρ O F w c v → VRel ρ' O F w c' v) (h : VRel ρ O F w (.agg [a, b, c]) v) : VRel ρ' O F w (.agg [a, b, c']) v := by
  cases h with
  | agg _ vs hl hh =>
    refine .agg _ vs (by simpa using hl) fun i x u e1 e2 => ?_
    match i, e1 with
    | 0, e1 => cases e1; exact ha _ (hh 0 _ u rfl e2)
    | 1, e1 => cases e1; exact hb _ (hh 1 _ u rfl e2)
    | 2, e1 => cases e1; exact hc _ (hh 2 _ u rfl e2)
    | i + 3, e1 => simp at e1
theorem int_any {ρ ρ' : Rho} {O F O' F' : Nat → Prop} {w w' : World} {k : IntKind} {n : Int} {v : Value} (h : VRel ρ O F w (.int k n) v) : VRel ρ' O' F' w' (.int k n) v := by cases h; exact .int _ _
/-- A row that nothing leads to may be told. -/
theorem FSpec.ghost {f : FuncId} {args : List SV} {sv sv' : SV} {r : Row} (h : FSpec Try.prog f args sv []) (hv : ∀ (F : Nat → Prop) (w : World) (v : Value), VRel (fun _ => none) (fun _ => False) F w sv v → VRel (fun _ => none) (fun _ => False) F w sv' v) : FSpec Try.prog f args sv' [r] :=
  ⟨h.1, fun w cargs hA => (h.2 w cargs hA).mono fun e w' hp => by
    obtain ⟨v, ρ, F, h1, h2, h3, h4, h5, h6, h7⟩ := hp
    have hρ : ρ = fun _ => none := funext fun id => h6 id (Nat.zero_le _)
    subst hρ
    exact ⟨v, fun _ => none, F, h1, h2, ⟨fun id r ri _ e => (by cases e), fun id id' r r' ri ri' _ _ e => (by cases e), h3.lt⟩, h4, fun id ri e => (by cases e), fun _ _ => rfl, hv _ _ _ h7⟩⟩
/-- An image that a call gives back. -/
def resI (W H : Int) (p : List Int) : SV := .agg [.int .i64 W, .int .i64 H, lsV 0 p.length]
def resR (p : List Int) : List Row := [⟨1, 5, nums .u8 p⟩]
attribute [go_sem ↓ high] lsV_ren lsV_nold lsV_bnd lsV_nomap lsV_scal lsV_cells lsV_len lsV_lenO lsV_rei lsV_nz nz_agg_ls
theorem res_ref {f : FuncId} {args : List SV} {W H : Int} {p : List Int} (h : FSpec Try.prog f args (.agg [.int .i64 W, .int .i64 H, .ref 0 0 p.length]) (resR p)) : FSpec Try.prog f args (resI W H p) (resR p) :=
  FSpec.weak h fun ρ F w v h => rel_agg3 (fun _ h => h) (fun _ h => h) (fun _ h => rel_ls h) h
theorem res_nil {f : FuncId} {args : List SV} {W H : Int} (h : FSpec Try.prog f args (.agg [.int .i64 W, .int .i64 H, .nils]) []) : FSpec Try.prog f args (resI W H []) (resR []) :=
  FSpec.ghost h fun F w v h => rel_agg3 (fun _ h => h) (fun _ h => h) (fun _ h => rel_ls_nil h) h
def imgW : Img → Int | none => 0 | some (w, _, _) => w
def imgH : Img → Int | none => 0 | some (_, h, _) => h
def imgP : Img → List Int | none => [] | some (_, _, p) => p
theorem res_img {f : FuncId} {args : List SV} {r : Img} (h : FSpec Try.prog f args (imgSV r) (imgRows r)) : FSpec Try.prog f args (resI (imgW r) (imgH r) (imgP r)) (resR (imgP r)) := by
  cases r with
  | none => exact res_nil h
  | some r => exact res_ref h
theorem ls_nums {f : FuncId} {args : List SV} {k : IntKind} {e : TypeId} {p : List Int} (h : FSpec Try.prog f args (lsSV k p) (lsRows k e p)) : FSpec Try.prog f args (lsV 0 p.length) [⟨1, e, nums k p⟩] := by
  cases p with
  | nil => exact FSpec.ghost (r := ⟨1, e, nums k []⟩) h fun F w v h => h
  | cons x p => exact FSpec.weak h fun ρ F w v h => h
theorem kCopyInk (W H : Int) (p : List Int) (hl : p.length ≤ 1000000) : FSpec Try.prog 32 [ink W H p] (resI W H p) (resR p) := by
  refine FSpec.intro tab_ok Try.func32 rfl rfl rfl (by kernel_rfl) (by simp) fun w0 => ?_
  simp only [argTM, Nat.zero_add, Nat.reduceAdd]
  simp only [ink]
  repeat refine IW.seq ?_
  refine IW.region_seq tab_ok [some 1, some 2] rfl fun X K hX hK => ?_
  simp only [go_sem, if_true, if_false, reduceIte, Nat.reduceEqDiff, Nat.reduceAdd, Nat.reduceLT, Nat.reduceLeDiff, reduceCtorEq]
  refine hK _ _ ?_; clear hX hK X K
  show IW _ _ _ _ _ _ _ _
  repeat refine IW.seq ?_
  refine IW.region_draw tab_ok mixed [some 3, some 4, some 5, some 6, some 7, some 8, some 9, some 10, none] 8 (by kernel_rfl) rfl fun Xq Xs K hXq hXs hK K1 hK1 => ?_
  simp only [go_sem, if_true, if_false, reduceIte, Nat.reduceEqDiff, Nat.reduceAdd, Nat.reduceLT, Nat.reduceLeDiff, reduceCtorEq]
  refine hXq.quiet _ _ (OpG.of_B rfl (opB_call rfl rfl (FSpec.nz (ls_nums (kCopyBytes p hl)) (by simp [go_sem, if_true, if_false, reduceIte, Nat.reduceEqDiff, Nat.reduceAdd, Nat.reduceLT, Nat.reduceLeDiff, reduceCtorEq, List.map_cons, List.map_nil, List.append_nil, opnd, unc])))) ?_
  simp only [go_sem, if_true, if_false, reduceIte, Nat.reduceEqDiff, Nat.reduceAdd, Nat.reduceLT, Nat.reduceLeDiff, reduceCtorEq]
  refine hK1 _ _ ?_; clear hXq hK1 K1 Xq
  simp only [List.drop_zero, List.drop_succ_cons, go_sem, if_true, if_false, reduceIte, Nat.reduceEqDiff, Nat.reduceAdd, Nat.reduceLT, Nat.reduceLeDiff, reduceCtorEq]
  refine hXs.op _ _ rfl (opS_store tab_ok rfl (by simp [go_sem, if_true, if_false, reduceIte, Nat.reduceEqDiff, Nat.reduceAdd, Nat.reduceLT, Nat.reduceLeDiff, reduceCtorEq]) (by simp [go_sem, if_true, if_false, reduceIte, Nat.reduceEqDiff, Nat.reduceAdd, Nat.reduceLT, Nat.reduceLeDiff, reduceCtorEq]) (by simp [go_sem, if_true, if_false, reduceIte, Nat.reduceEqDiff, Nat.reduceAdd, Nat.reduceLT, Nat.reduceLeDiff, reduceCtorEq]) (by simp [go_sem, if_true, if_false, reduceIte, Nat.reduceEqDiff, Nat.reduceAdd, Nat.reduceLT, Nat.reduceLeDiff, reduceCtorEq]) (by simp [go_sem, if_true, if_false, reduceIte, Nat.reduceEqDiff, Nat.reduceAdd, Nat.reduceLT, Nat.reduceLeDiff, reduceCtorEq]) (by simp [go_sem, if_true, if_false, reduceIte, Nat.reduceEqDiff, Nat.reduceAdd, Nat.reduceLT, Nat.reduceLeDiff, reduceCtorEq])) ?_
  simp only [go_sem, if_true, if_false, reduceIte, Nat.reduceEqDiff, Nat.reduceAdd, Nat.reduceLT, Nat.reduceLeDiff, reduceCtorEq]
  refine hK _ _ ?_; clear hXs hK K Xs
  show IW _ _ _ _ _ _ _ _
  refine IW.ret (Fin.cell1 2 ⟨trivial, by simp [go_sem, if_true, if_false, reduceIte, Nat.reduceEqDiff, Nat.reduceAdd, Nat.reduceLT, Nat.reduceLeDiff, reduceCtorEq]⟩ (by simp [go_sem, if_true, if_false, reduceIte, Nat.reduceEqDiff, Nat.reduceAdd, Nat.reduceLT, Nat.reduceLeDiff, reduceCtorEq, resI]) (by simp [go_sem, if_true, if_false, reduceIte, Nat.reduceEqDiff, Nat.reduceAdd, Nat.reduceLT, Nat.reduceLeDiff, reduceCtorEq]) (by simp [go_sem, if_true, if_false, reduceIte, Nat.reduceEqDiff, Nat.reduceAdd, Nat.reduceLT, Nat.reduceLeDiff, reduceCtorEq, resI]) (by simp [go_sem, if_true, if_false, reduceIte, Nat.reduceEqDiff, Nat.reduceAdd, Nat.reduceLT, Nat.reduceLeDiff, reduceCtorEq]))
theorem kSameInk (W H : Int) (p : List Int) (W' H' : Int) (q : List Int) (hl : p.length ≤ 1000000) (hl' : q.length ≤ 1000000) : FSpec Try.prog 20 [ink W H p, ink W' H' q] (.bool (decide (W = W' ∧ H = H' ∧ p = q))) [] := by
  refine FSpec.intro tab_ok Try.func20 rfl rfl rfl (by kernel_rfl) (by simp) fun w0 => ?_
  simp only [argTM, Nat.zero_add, Nat.reduceAdd]
  simp only [ink]
  repeat refine IW.seq ?_
  refine IW.region_seq tab_ok [some 2, some 3, some 4] rfl fun X K hX hK => ?_
  simp only [go_sem, if_true, if_false, reduceIte, Nat.reduceEqDiff, Nat.reduceAdd, Nat.reduceLT, Nat.reduceLeDiff, reduceCtorEq]
  refine hK _ _ ?_; clear hX hK X K
  show IW _ _ _ _ _ _ _ _
  repeat refine IW.seq ?_
  refine IW.region_seq tab_ok [some 5, some 6, some 7, some 8, some 9, some 10, some 11, some 12, some 13, some 14, some 15, some 16, some 17, some 18, some 19, some 20, some 21, some 22, some 23, some 4] rfl fun X K hX hK => ?_
  simp only [go_sem, if_true, if_false, reduceIte, Nat.reduceEqDiff, Nat.reduceAdd, Nat.reduceLT, Nat.reduceLeDiff, reduceCtorEq]
  refine hX.quiet _ _ (OpG.of_BG rfl rfl rfl (by first | (simp only [go_sem, if_true, if_false, reduceIte, Nat.reduceEqDiff, Nat.reduceAdd, Nat.reduceLT, Nat.reduceLeDiff, reduceCtorEq]; done) | (simp [go_sem, if_true, if_false, reduceIte, Nat.reduceEqDiff, Nat.reduceAdd, Nat.reduceLT, Nat.reduceLeDiff, reduceCtorEq] <;> (intros; simp_all))) fun hc => opB_call rfl rfl (FSpec.nz (kSameBytes p q hl hl') (by simp [go_sem, if_true, if_false, reduceIte, Nat.reduceEqDiff, Nat.reduceAdd, Nat.reduceLT, Nat.reduceLeDiff, reduceCtorEq, List.map_cons, List.map_nil, List.append_nil, opnd, unc]))) ?_
  simp only [go_sem, if_true, if_false, reduceIte, Nat.reduceEqDiff, Nat.reduceAdd, Nat.reduceLT, Nat.reduceLeDiff, reduceCtorEq]
  refine hK _ _ ?_; clear hX hK X K
  show IW _ _ _ _ _ _ _ _
  refine IW.ret (Fin.scal rfl rfl ?_)
  show SV.bool _ = SV.bool _
  congr 1
  rw [Bool.eq_iff_iff]
  simp only [Bool.and_eq_true, decide_eq_true_eq, beq_iff_eq]
  exact and_assoc
end Go.Proofs.Ytnbpbehlemaeoaa

set_option linter.unusedVariables false
set_option linter.unusedSimpArgs false
set_option maxRecDepth 10000
namespace Go.Proofs.Ytnbpbehlemaeoaa
open Go.IL
/-- The pixels of row y, the first n columns, that lie in a rectangle; those of the first m rows. -/
def ptRow (RX RY RW RH : Int) (y n : Nat) : List (Int × Int) := ((List.range n).filter fun (x : Nat) => insF x RX RW && insF y RY RH).map fun (x : Nat) => ((x : Int), (y : Int))
def ptRows (W : Nat) (RX RY RW RH : Int) (m : Nat) : List (Int × Int) := (List.range m).flatMap fun y => ptRow RX RY RW RH y W
theorem ptRow_succ (RX RY RW RH : Int) (y n : Nat) : ptRow RX RY RW RH y (n + 1) = ptRow RX RY RW RH y n ++ (if insF n RX RW && insF y RY RH then [((n : Int), (y : Int))] else []) := by
  unfold ptRow
  rw [List.range_succ, List.filter_append, List.map_append]
  congr 1
  cases h : insF n RX RW && insF y RY RH <;> simp [h]
theorem ptRows_succ (W : Nat) (RX RY RW RH : Int) (m : Nat) : ptRows W RX RY RW RH (m + 1) = ptRows W RX RY RW RH m ++ ptRow RX RY RW RH m W := by
  unfold ptRows
  rw [List.range_succ, List.flatMap_append]
  simp
theorem ptRow_pre (RX RY RW RH : Int) (y : Nat) {n m : Nat} (h : n ≤ m) : ∃ r, ptRow RX RY RW RH y m = ptRow RX RY RW RH y n ++ r := by
  induction m with
  | zero => obtain rfl : n = 0 := by omega
            exact ⟨[], by simp⟩
  | succ m ih =>
    by_cases e : n = m + 1
    · subst e; exact ⟨[], by simp⟩
    · obtain ⟨r, hr⟩ := ih (by omega)
      exact ⟨r ++ _, by rw [ptRow_succ, hr, List.append_assoc]⟩
theorem ptRows_pre (W : Nat) (RX RY RW RH : Int) {n m : Nat} (h : n ≤ m) : ∃ r, ptRows W RX RY RW RH m = ptRows W RX RY RW RH n ++ r := by
  induction m with
  | zero => obtain rfl : n = 0 := by omega
            exact ⟨[], by simp⟩
  | succ m ih =>
    by_cases e : n = m + 1
    · subst e; exact ⟨[], by simp⟩
    · obtain ⟨r, hr⟩ := ih (by omega)
      exact ⟨r ++ _, by rw [ptRows_succ, hr, List.append_assoc]⟩
def ptV (p : Int × Int) : Value := .agg #[.int .i64 p.1, .int .i64 p.2]
theorem ptV_of {ρ : Rho} {O F : Nat → Prop} {w : World} {a b : Int} {v : Value} (h : VRel ρ O F w (.agg [.int .i64 a, .int .i64 b]) v) : v = ptV (a, b) := by
  cases h with
  | agg _ vs hl hh =>
    obtain ⟨l⟩ := vs
    match l, hl with
    | [x, y], _ =>
      have h1 := hh 0 _ x rfl rfl
      have h2 := hh 1 _ y rfl rfl
      cases h1; cases h2; rfl
theorem ptV_rel (p : Int × Int) (ρ : Rho) (O F : Nat → Prop) (w : World) : VRel ρ O F w (.agg [.int .i64 p.1, .int .i64 p.2]) (ptV p) := by
  refine .agg _ _ rfl fun i c v e1 e2 => ?_
  match i, e1, e2 with
  | 0, e1, e2 => cases e1; cases e2; exact .int _ _
  | 1, e1, e2 => cases e1; cases e2; exact .int _ _
  | i + 2, e1, e2 => simp at e1
def I64 (n : Int) : Prop := -9223372036854775808 ≤ n ∧ n ≤ 9223372036854775807
/-- The pixels of a rectangle that are in the image, row by row. -/
theorem fPoints (W H : Nat) (RX RY RW RH : Int) (hW : W ≤ 1000000) (hH : H ≤ 1000000) (hRX : I64 RX) (hRY : I64 RY) (hRW : I64 RW) (hRH : I64 RH) :
    SeqOf Try.prog 80 [.ptr 0 0 0, .ptr 1 0 0] [⟨3, 90, [[.int .i64 W, .int .i64 H, .any]]⟩, ⟨4, 56, [[.int .i64 RX, .int .i64 RY, .int .i64 RW, .int .i64 RH]]⟩] ptV (fun ys => ys = ptRows W RX RY RW RH H) := by
  refine SeqOf.intro Try.func80 rfl rfl rfl (by kernel_rfl) (by simp) fun l J ρ S hJ hwalk hy => ?_
  simp only [argTM, Nat.zero_add, Nat.reduceAdd]
  repeat refine IWJ.seq ?_
  refine IWJ.region hJ tab_ok [some 6, some 7, some 8, some 9] rfl fun X K hX hK => ?_
  simp only [go_sem, if_true, if_false, reduceIte, Nat.reduceEqDiff, Nat.reduceAdd, Nat.reduceLT, Nat.reduceLeDiff, reduceCtorEq]
  refine hK _ _ ?_; clear hX hK X K
  show IWJ _ _ _ _ _ _ _ _
  simp only [kpT, kp, SV.det, detL, cond_true, decide_true, go_sem, if_true, if_false, reduceIte, Nat.reduceEqDiff, Nat.reduceAdd, Nat.reduceLT, Nat.reduceLeDiff, reduceCtorEq]
  refine IWJ.block ?_
  refine IWJ.loop (β := {y : Nat // y ≤ H}) (fun y => [(0, .raw (.func (.yield l) #[] #[])), (1, .ptr 0 0 0), (2, .ptr 1 0 0), (8, .int .i64 H), (9, .int .i64 y.1)]) (fun y => ptRows W RX RY RW RH y.1) (fun y => H - y.1) ⟨0, by omega⟩ ?_ ?_ fun ⟨y, hyH⟩ => ?_
  · simp only [subJ, kpT, kp, SV.det, detL, cond_true, decide_true, go_sem, if_true, if_false, reduceIte, Nat.reduceEqDiff, Nat.reduceAdd, Nat.reduceLT, Nat.reduceLeDiff, reduceCtorEq, cast0]
  · rfl
  · simp only []
    repeat refine IWJ.seq ?_
    refine IWJ.region hJ tab_ok [some 10] rfl fun X K hX hK => ?_
    simp only [go_sem, if_true, if_false, reduceIte, Nat.reduceEqDiff, Nat.reduceAdd, Nat.reduceLT, Nat.reduceLeDiff, reduceCtorEq]
    refine hK _ _ ?_; clear hX hK X K
    show IWJ _ _ _ _ _ _ _ _
    simp only [kpT, kp, SV.det, detL, cond_true, decide_true, go_sem, if_true, if_false, reduceIte, Nat.reduceEqDiff, Nat.reduceAdd, Nat.reduceLT, Nat.reduceLeDiff, reduceCtorEq]
    repeat refine IWJ.seq ?_
    refine IWJ.cond rfl (fun hb1 => ?_) (fun hb1 => ?_)
    · refine IWJ.skip ?_
      show IWJ _ _ _ _ _ _ _ _
      simp only [decide_eq_true_eq] at hb1
      have hyl : y < H := by omega
      refine IWJ.seq (IWJ.block ?_)
      repeat refine IWJ.seq ?_
      refine IWJ.region hJ tab_ok [some 11, some 4] rfl fun X K hX hK => ?_
      simp only [go_sem, if_true, if_false, reduceIte, Nat.reduceEqDiff, Nat.reduceAdd, Nat.reduceLT, Nat.reduceLeDiff, reduceCtorEq]
      refine hK _ _ ?_; clear hX hK X K
      show IWJ _ _ _ _ _ _ _ _
      simp only [kpT, kp, SV.det, detL, cond_true, decide_true, go_sem, if_true, if_false, reduceIte, Nat.reduceEqDiff, Nat.reduceAdd, Nat.reduceLT, Nat.reduceLeDiff, reduceCtorEq]
      repeat refine IWJ.seq ?_
      refine IWJ.region hJ tab_ok [some 12, some 13, some 14, some 15] rfl fun X K hX hK => ?_
      simp only [go_sem, if_true, if_false, reduceIte, Nat.reduceEqDiff, Nat.reduceAdd, Nat.reduceLT, Nat.reduceLeDiff, reduceCtorEq]
      refine hK _ _ ?_; clear hX hK X K
      show IWJ _ _ _ _ _ _ _ _
      simp only [kpT, kp, SV.det, detL, cond_true, decide_true, go_sem, if_true, if_false, reduceIte, Nat.reduceEqDiff, Nat.reduceAdd, Nat.reduceLT, Nat.reduceLeDiff, reduceCtorEq]
      refine IWJ.block ?_
      refine IWJ.loop (β := {x : Nat // x ≤ W}) (fun x => [(0, .raw (.func (.yield l) #[] #[])), (1, .ptr 0 0 0), (2, .ptr 1 0 0), (4, .int .i64 y), (8, .int .i64 H), (9, .int .i64 y), (14, .int .i64 W), (15, .int .i64 x.1)]) (fun x => ptRows W RX RY RW RH y ++ ptRow RX RY RW RH y x.1) (fun x => W - x.1) ⟨0, by omega⟩ ?_ ?_ fun ⟨x, hxW⟩ => ?_
      · simp only [subJ, kpT, kp, SV.det, detL, cond_true, decide_true, go_sem, if_true, if_false, reduceIte, Nat.reduceEqDiff, Nat.reduceAdd, Nat.reduceLT, Nat.reduceLeDiff, reduceCtorEq, cast0]
      · simp [ptRow]
      · simp only []
        repeat refine IWJ.seq ?_
        refine IWJ.region hJ tab_ok [some 16] rfl fun X K hX hK => ?_
        simp only [go_sem, if_true, if_false, reduceIte, Nat.reduceEqDiff, Nat.reduceAdd, Nat.reduceLT, Nat.reduceLeDiff, reduceCtorEq]
        refine hK _ _ ?_; clear hX hK X K
        show IWJ _ _ _ _ _ _ _ _
        simp only [kpT, kp, SV.det, detL, cond_true, decide_true, go_sem, if_true, if_false, reduceIte, Nat.reduceEqDiff, Nat.reduceAdd, Nat.reduceLT, Nat.reduceLeDiff, reduceCtorEq]
        repeat refine IWJ.seq ?_
        refine IWJ.cond rfl (fun hb2 => ?_) (fun hb2 => ?_)
        · refine IWJ.skip ?_
          show IWJ _ _ _ _ _ _ _ _
          simp only [decide_eq_true_eq] at hb2
          have hxl : x < W := by omega
          refine IWJ.seq (IWJ.block ?_)
          repeat refine IWJ.seq ?_
          refine IWJ.region hJ tab_ok [some 17, some 5] rfl fun X K hX hK => ?_
          simp only [go_sem, if_true, if_false, reduceIte, Nat.reduceEqDiff, Nat.reduceAdd, Nat.reduceLT, Nat.reduceLeDiff, reduceCtorEq]
          refine hK _ _ ?_; clear hX hK X K
          show IWJ _ _ _ _ _ _ _ _
          simp only [kpT, kp, SV.det, detL, cond_true, decide_true, go_sem, if_true, if_false, reduceIte, Nat.reduceEqDiff, Nat.reduceAdd, Nat.reduceLT, Nat.reduceLeDiff, reduceCtorEq]
          have hin := fInside x RX RW (by omega) hRX hRW
          have hin2 := fInside y RY RH (by omega) hRY hRH
          have hrow := ptRow_succ RX RY RW RH y x
          repeat refine IWJ.seq ?_
          refine IWJ.region_yield hJ tab_ok [some 18, some 19, some 20, some 21, some 22, some 23, some 24, some 25, some 26, some 27, some 28, some 29, some 30, some 31, some 32, some 33, some 34, some 35, some 36, some 37, some 38, some 39] rfl (m := 19) (d := 37) (t0 := 33) (tx := 36) (jg := 14) (dg := 32) (l := l) (x := ((x : Int), (y : Int))) (xv := ptV) (g := insF x RX RW && insF y RY RH) rfl rfl rfl rfl rfl ?_ fun X K hX hK => ?_
          · intro hg A hA
            refine hy _ _ A ?_ hA
            obtain ⟨r1, h1⟩ := ptRow_pre RX RY RW RH y (show x + 1 ≤ W from hxl)
            obtain ⟨r2, h2⟩ := ptRows_pre W RX RY RW RH (show y + 1 ≤ H from hyl)
            refine ⟨r1 ++ r2, ?_⟩
            rw [h2, ptRows_succ, h1, hrow, if_pos hg]
            simp
          · simp only [go_sem, if_true, if_false, reduceIte, Nat.reduceEqDiff, Nat.reduceAdd, Nat.reduceLT, Nat.reduceLeDiff, reduceCtorEq]
            refine hX.quiet _ _ (OpG.of_B rfl (opB_call rfl rfl (FSpec.nz (hin) (by simp [go_sem, if_true, if_false, reduceIte, Nat.reduceEqDiff, Nat.reduceAdd, Nat.reduceLT, Nat.reduceLeDiff, reduceCtorEq, List.map_cons, List.map_nil, List.append_nil, opnd, unc])))) ?_
            simp only [go_sem, if_true, if_false, reduceIte, Nat.reduceEqDiff, Nat.reduceAdd, Nat.reduceLT, Nat.reduceLeDiff, reduceCtorEq]
            refine hX.quiet _ _ (OpG.of_BG rfl rfl rfl (by first | (simp only [go_sem, if_true, if_false, reduceIte, Nat.reduceEqDiff, Nat.reduceAdd, Nat.reduceLT, Nat.reduceLeDiff, reduceCtorEq]; done) | (simp [go_sem, if_true, if_false, reduceIte, Nat.reduceEqDiff, Nat.reduceAdd, Nat.reduceLT, Nat.reduceLeDiff, reduceCtorEq] <;> (intros; simp_all))) fun hc => opB_call rfl rfl (FSpec.nz (hin2) (by simp [go_sem, if_true, if_false, reduceIte, Nat.reduceEqDiff, Nat.reduceAdd, Nat.reduceLT, Nat.reduceLeDiff, reduceCtorEq, List.map_cons, List.map_nil, List.append_nil, opnd, unc]))) ?_
            simp only [go_sem, if_true, if_false, reduceIte, Nat.reduceEqDiff, Nat.reduceAdd, Nat.reduceLT, Nat.reduceLeDiff, reduceCtorEq]
            refine hK _ _ ?_; clear hX hK X K
            refine ⟨?_, ?_, ?_⟩
            · simp only [go_sem, if_true, if_false, reduceIte, Nat.reduceEqDiff, Nat.reduceAdd, Nat.reduceLT, Nat.reduceLeDiff, reduceCtorEq]
            · intro hg
              simp only [hg, go_sem, if_true, if_false, reduceIte, Nat.reduceEqDiff, Nat.reduceAdd, Nat.reduceLT, Nat.reduceLeDiff, reduceCtorEq]
              intro ρ O F w v hv
              cases hv with
              | cnd _ _ _ h1 _ => exact ptV_of (h1 rfl)
            · intro X K hX hK
              simp only [kpT, kp, SV.det, detL, decide_true, List.drop_zero, go_sem, if_true, if_false, reduceIte, Nat.reduceEqDiff, Nat.reduceAdd, Nat.reduceLT, Nat.reduceLeDiff, reduceCtorEq]
              simp only [Bool.and_false]
              refine hK _ _ ?_; clear hX hK X K
              show IWJ _ _ _ _ _ _ _ _
              simp only [kpT, kp, SV.det, detL, decide_true, cond_true, go_sem, if_true, if_false, reduceIte, Nat.reduceEqDiff, Nat.reduceAdd, Nat.reduceLT, Nat.reduceLeDiff, reduceCtorEq]
              refine IWJ.cond rfl (fun hb => absurd hb (by decide)) (fun _ => ?_)
              refine IWJ.skip ?_
              show IWJ _ _ _ _ _ _ _ _
              repeat refine IWJ.seq ?_
              refine IWJ.region hJ tab_ok [some 40, some 15] rfl fun X K hX hK => ?_
              simp only [go_sem, if_true, if_false, reduceIte, Nat.reduceEqDiff, Nat.reduceAdd, Nat.reduceLT, Nat.reduceLeDiff, reduceCtorEq, succ_wrap hxl (by omega)]
              refine hK _ _ ⟨⟨x + 1, hxl⟩, by simp only []; omega, ?_, ?_⟩
              · simp only [subJ, kpT, kp, SV.det, detL, cond_true, decide_true, go_sem, if_true, if_false, reduceIte, Nat.reduceEqDiff, Nat.reduceAdd, Nat.reduceLT, Nat.reduceLeDiff, reduceCtorEq]
              · simp only [hrow]
                cases insF x RX RW && insF y RY RH <;> simp
        · refine IWJ.exit ?_
          show IWJ _ _ _ _ _ _ _ _
          simp only [decide_eq_false_iff_not] at hb2
          have hx : x = W := by omega
          subst hx
          repeat refine IWJ.seq ?_
          refine IWJ.region hJ tab_ok [some 41, some 9] rfl fun X K hX hK => ?_
          simp only [go_sem, if_true, if_false, reduceIte, Nat.reduceEqDiff, Nat.reduceAdd, Nat.reduceLT, Nat.reduceLeDiff, reduceCtorEq, succ_wrap hyl (by omega)]
          refine hK _ _ ⟨⟨y + 1, hyl⟩, by simp only []; omega, ?_, ?_⟩
          · simp only [subJ, kpT, kp, SV.det, detL, cond_true, decide_true, go_sem, if_true, if_false, reduceIte, Nat.reduceEqDiff, Nat.reduceAdd, Nat.reduceLT, Nat.reduceLeDiff, reduceCtorEq]
          · exact (ptRows_succ _ _ _ _ _ _).symm
    · refine IWJ.exit ?_
      simp only [decide_eq_false_iff_not] at hb1
      have : y = H := by omega
      subst this
      exact ⟨.inl rfl, rfl⟩
end Go.Proofs.Ytnbpbehlemaeoaa

set_option linter.unusedVariables false
set_option linter.unusedSimpArgs false
set_option maxRecDepth 10000
namespace Go.Proofs.Ytnbpbehlemaeoaa
open Go.IL
theorem iPoints0 (W H X0 Y0 RW RH : Int) (a : Option Addr) (n c : Nat) : FSpec Try.prog 63 [.agg [.int .i64 W, .int .i64 H, .raw (.slice a n c)], .agg [.int .i64 X0, .int .i64 Y0, .int .i64 RW, .int .i64 RH]]
    (.clo 80 [.ptr 0 0 0, .ptr 1 0 0]) [⟨3, 90, [[.int .i64 W, .int .i64 H, .raw (.slice a n c)]]⟩, ⟨4, 56, [[.int .i64 X0, .int .i64 Y0, .int .i64 RW, .int .i64 RH]]⟩] := by
  refine FSpec.intro tab_ok Try.func63 rfl rfl rfl (by kernel_rfl) (by simp) fun w0 => ?_
  simp only [argTM, Nat.zero_add, Nat.reduceAdd]
  repeat refine IW.seq ?_
  refine IW.region_seq tab_ok [some 2, some 3, some 4] rfl fun X K hX hK => ?_
  simp only [go_sem, if_true, if_false, reduceIte, Nat.reduceEqDiff, Nat.reduceAdd, Nat.reduceLT, Nat.reduceLeDiff, reduceCtorEq]
  refine hK _ _ ?_; clear hX hK X K
  show IW _ _ _ _ _ _ _ _
  repeat refine IW.seq ?_
  refine IW.region_seq tab_ok [some 5, some 4] rfl fun X K hX hK => ?_
  simp only [go_sem, if_true, if_false, reduceIte, Nat.reduceEqDiff, Nat.reduceAdd, Nat.reduceLT, Nat.reduceLeDiff, reduceCtorEq]
  refine hK _ _ ?_; clear hX hK X K
  show IW _ _ _ _ _ _ _ _
  refine IW.ret ⟨⟨trivial, trivial⟩, rfl, rfl, [0, 1], rfl, by decide, ?_, ?_⟩
  · simp [go_sem, if_true, if_false, reduceIte, Nat.reduceEqDiff, Nat.reduceAdd, Nat.reduceLT, Nat.reduceLeDiff, reduceCtorEq, resAll, resSV]
  · simp [go_sem, if_true, if_false, reduceIte, Nat.reduceEqDiff, Nat.reduceAdd, Nat.reduceLT, Nat.reduceLeDiff, reduceCtorEq, subH]
/-- It is a slice. -/
def isSlc (c : SV) : Prop := ∀ (ρ : Rho) (O F : Nat → Prop) (w : World) (u : Value), VRel ρ O F w c u → ∃ a n k, u = .slice a n k
theorem isSlc_ls (id n : Nat) : isSlc (lsV id n) := fun ρ O F w u h => by
  cases n <;> (cases h; exact ⟨_, _, _, rfl⟩)
theorem isSlc_sl (o : Bool) (xs : List (List SV)) : isSlc (.sl o xs) := fun ρ O F w u h => by cases h; exact ⟨_, _, _, rfl⟩
theorem isSlc_ref (id off n : Nat) : isSlc (.ref id off n) := fun ρ O F w u h => by cases h; exact ⟨_, _, _, rfl⟩
theorem rel_4i {ρ ρ' : Rho} {O F O' F' : Nat → Prop} {w w' : World} {a b c d : Int} {v : Value} (h : VRel ρ O F w (.agg [.int .i64 a, .int .i64 b, .int .i64 c, .int .i64 d]) v) : VRel ρ' O' F' w' (.agg [.int .i64 a, .int .i64 b, .int .i64 c, .int .i64 d]) v := by
  cases h with
  | agg _ us hl hh =>
    refine .agg _ us hl fun i s u e1 e2 => ?_
    match i, e1 with
    | 0, e1 => cases e1; exact int_any (hh 0 _ u rfl e2)
    | 1, e1 => cases e1; exact int_any (hh 1 _ u rfl e2)
    | 2, e1 => cases e1; exact int_any (hh 2 _ u rfl e2)
    | 3, e1 => cases e1; exact int_any (hh 3 _ u rfl e2)
    | i + 4, e1 => simp at e1
theorem opPoints {dst : Option Nat} {x y : Operand} {ats : Array TypeId} {ty : TypeId} {pos : String} {after : Array Edge} {guard : Option (Nat × Bool)} {g : Operand → SV} {h : Heap} {W H X0 Y0 RW RH : Int} {c : SV}
    (hx : g x = .agg [.int .i64 W, .int .i64 H, c]) (hc : isSlc c) (hy : g y = .agg [.int .i64 X0, .int .i64 Y0, .int .i64 RW, .int .i64 RH]) :
    OpB Try.prog ⟨dst, .call ⟨.value (.func 63), #[x, y], ats⟩, ty, pos, after, guard⟩ g h ((SV.clo 80 [.ptr 0 0 0, .ptr 1 0 0]).ren (h.length + ·))
      [some ⟨3, 90, [[.int .i64 W, .int .i64 H, .any]]⟩, some ⟨4, 56, [[.int .i64 X0, .int .i64 Y0, .int .i64 RW, .int .i64 RH]]⟩] := by
  refine opB_callV _ fun ρ O F w vs hl hr => ?_
  match vs, hl with
  | [v, u], _ =>
    have hv := hr 0 x v rfl rfl
    have hu := hr 1 y u rfl rfl
    rw [hx] at hv; rw [hy] at hu
    have hv' : ∃ a n k, v = .agg #[.int .i64 W, .int .i64 H, .slice a n k] := by
      cases hv with
      | agg _ us hl hh =>
        obtain ⟨l⟩ := us
        match l, hl with
        | [a, b, d], _ =>
          have h0 := hh 0 _ a rfl rfl
          have h1 := hh 1 _ b rfl rfl
          obtain ⟨q, n, k, rfl⟩ := hc _ _ _ _ _ (hh 2 _ d rfl rfl)
          cases h0; cases h1
          exact ⟨q, n, k, rfl⟩
    obtain ⟨a, n, k, rfl⟩ := hv'
    refine ⟨[.agg [.int .i64 W, .int .i64 H, .raw (.slice a n k)], .agg [.int .i64 X0, .int .i64 Y0, .int .i64 RW, .int .i64 RH]], _, iPoints0 W H X0 Y0 RW RH a n k, rfl, ?_, rfl, ?_⟩
    · intro i s v' ρ' O' F' w' e1 e2
      match i, e1, e2 with
      | 0, e1, e2 =>
        cases e1; cases e2
        refine .agg _ _ rfl fun i c v e1 e2 => ?_
        match i, e1, e2 with
        | 0, e1, e2 => cases e1; cases e2; exact .int _ _
        | 1, e1, e2 => cases e1; cases e2; exact .int _ _
        | 2, e1, e2 => cases e1; cases e2; exact .raw _
        | i + 3, e1, e2 => simp at e1
      | 1, e1, e2 =>
        cases e1; cases e2
        exact rel_4i hu
      | i + 2, e1, e2 => simp at e1
    · intro ρ' F' w' _ hs
      refine hs.retell rfl fun i r' e => ?_
      match i, e with
      | 0, e =>
        cases e
        refine ⟨_, rfl, rfl, rfl, rfl, by simp, fun i j x' y' e1 e2 => ?_⟩
        match i, j, e1, e2 with
        | 0, 0, e1, e2 => cases e1; cases e2; exact ⟨_, _, rfl, rfl, fun v h => h⟩
        | 0, 1, e1, e2 => cases e1; cases e2; exact ⟨_, _, rfl, rfl, fun v h => h⟩
        | 0, 2, e1, e2 => cases e1; cases e2; exact ⟨_, _, rfl, rfl, fun v h => .any _⟩
        | 0, j + 3, e1, e2 => cases e1; simp at e2
        | i + 1, _, e1, _ => simp at e1
      | 1, e =>
        cases e
        refine ⟨_, rfl, rfl, rfl, rfl, by simp, fun i j x' y' e1 e2 => ?_⟩
        match i, j, e1, e2 with
        | 0, 0, e1, e2 => cases e1; cases e2; exact ⟨_, _, rfl, rfl, fun v h => h⟩
        | 0, 1, e1, e2 => cases e1; cases e2; exact ⟨_, _, rfl, rfl, fun v h => h⟩
        | 0, 2, e1, e2 => cases e1; cases e2; exact ⟨_, _, rfl, rfl, fun v h => h⟩
        | 0, 3, e1, e2 => cases e1; cases e2; exact ⟨_, _, rfl, rfl, fun v h => h⟩
        | 0, j + 4, e1, e2 => cases e1; simp at e2
        | i + 1, _, e1, _ => simp at e1
      | i + 2, e => simp at e
end Go.Proofs.Ytnbpbehlemaeoaa

set_option linter.unusedVariables false
set_option linter.unusedSimpArgs false
set_option maxRecDepth 10000
namespace Go.Proofs.Ytnbpbehlemaeoaa
open Go.IL
/-- n numbers by their places. -/
def rm (n : Nat) (f : Nat → Int) : List Int := (List.range n).map f
theorem rm_length (n : Nat) (f : Nat → Int) : (rm n f).length = n := by simp [rm]
theorem rm_getD {n i : Nat} (f : Nat → Int) (h : i < n) : (rm n f).getD i 0 = f i := by simp [rm, h]
theorem rm_set (n k : Nat) (f : Nat → Int) (v : Int) : (rm n f).set k v = rm n (fun t => if t = k then v else f t) := by
  apply List.ext_getElem
  · simp [rm]
  · intro i h1 h2
    rw [List.getElem_set]
    simp only [rm, List.getElem_map, List.getElem_range]
    by_cases e : k = i
    · rw [if_pos e, if_pos e.symm]
    · rw [if_neg e, if_neg (fun h => e h.symm)]
theorem rm_congr {n : Nat} {f g : Nat → Int} (h : ∀ t, t < n → f t = g t) : rm n f = rm n g := List.map_congr_left fun t ht => h t (List.mem_range.1 ht)
theorem rm_self (p : List Int) : p = rm p.length (fun t => p.getD t 0) := by
  apply List.ext_getElem
  · simp [rm]
  · intro i h1 h2; simp [rm, h1]
theorem rm_zero (n : Nat) : List.replicate n (0 : Int) = rm n fun _ => 0 := by
  apply List.ext_getElem
  · simp [rm]
  · intro i h1 h2; simp [rm]
attribute [go_sem] rm_length
theorem cell_eq {W t x y : Nat} (hx : x < W) : t = y * W + x ↔ t / W = y ∧ t % W = x := by
  constructor
  · rintro rfl
    exact ⟨by rw [Nat.mul_comm, Nat.mul_add_div (by omega), Nat.div_eq_of_lt hx]; rfl, by rw [Nat.mul_comm, Nat.mul_add_mod, Nat.mod_eq_of_lt hx]⟩
  · rintro ⟨rfl, rfl⟩
    have := Nat.div_add_mod t W
    rw [Nat.mul_comm] at this; omega
theorem cell_lt {W H x y : Nat} (hx : x < W) (hy : y < H) : y * W + x < W * H := by
  have : (y + 1) * W ≤ H * W := Nat.mul_le_mul_right _ hy
  rw [Nat.add_mul] at this; rw [Nat.mul_comm W H]; omega
theorem wrap_cell {W H x y n : Nat} (hx : x < W) (hy : y < H) (hn : n = W * H) (hl : n ≤ 1000000) : IntKind.i64.wrap ((y : Int) * (W : Int)) = ((y * W : Nat) : Int) ∧ IntKind.i64.wrap (((y * W : Nat) : Int) + (x : Int)) = ((y * W + x : Nat) : Int) ∧ y * W + x < n := by
  have := cell_lt hx hy
  subst hn
  refine ⟨?_, (wrap_eq (by omega) (by omega)).trans (by omega), this⟩
  rw [← Int.natCast_mul]; exact wrap_eq (by omega) (by omega)
def liF (W H : Int) (p l : List Int) : List Int := if rightS W H p then rm p.length (linedF W.toNat p l) else []
def riW (W H : Int) (p : List Int) (x : Int) : Int := if rightS W H p then x else 0
theorem liF_eq (W H : Int) (p l : List Int) : imgP (linedS W H p l) = liF W H p l ∧ imgW (linedS W H p l) = riW W H p W ∧ imgH (linedS W H p l) = riW W H p H := by
  unfold linedS liF riW
  by_cases h : rightS W H p = true
  · have := right_len h
    simp only [h, if_true, imgP, imgW, imgH]
    exact ⟨rfl, by omega, by omega⟩
  · simp only [h, if_false, imgP, imgW, imgH]; exact ⟨rfl, rfl, rfl⟩
theorem refLined' (W H : Int) (p l : List Int) (hl : p.length ≤ 1000000) (hll : l.length ≤ 1000000) : FSpec Try.prog 37 [ink W H p, .sl true (nums .i64 l)] (resI (riW W H p W) (riW W H p H) (liF W H p l)) (resR (liF W H p l)) := by
  have h := res_img (refLined W H p l hl hll)
  obtain ⟨h1, h2, h3⟩ := liF_eq W H p l
  rw [h1, h2, h3] at h; exact h
theorem hasS_take (l : List Int) (i : Nat) (h : i < l.length) (n : Int) : hasS (l.take (i + 1)) n = (hasS (l.take i) n || (l.getD i 0 == n)) := by
  simp only [hasS]
  rw [List.take_add_one, List.any_append]
  simp [h]
theorem fLined (W H : Int) (p l : List Int) (hl : p.length ≤ 1000000) (hll : l.length ≤ 1000000) : FSpec Try.prog 36 [ink W H p, .sl true (nums .i64 l)] (resI (riW W H p W) (riW W H p H) (liF W H p l)) (resR (liF W H p l)) := by
  by_cases hr : rightS W H p = true
  case neg =>
    have e1 : liF W H p l = [] := by simp [liF, hr]
    have e2 : riW W H p W = 0 := by simp [riW, hr]
    have e3 : riW W H p H = 0 := by simp [riW, hr]
    rw [e1, e2, e3]
    refine res_nil ?_
    refine FSpec.intro tab_ok Try.func36 rfl rfl rfl (by kernel_rfl) (by simp) fun w0 => ?_
    simp only [argTM, Nat.zero_add, Nat.reduceAdd]
    simp only [ink]
    repeat refine IW.seq ?_
    refine IW.region_seq tab_ok [some 2, some 4] rfl fun X K hX hK => ?_
    simp only [go_sem, if_true, if_false, reduceIte, Nat.reduceEqDiff, Nat.reduceAdd, Nat.reduceLT, Nat.reduceLeDiff, reduceCtorEq]
    refine hK _ _ ?_; clear hX hK X K
    show IW _ _ _ _ _ _ _ _
    repeat refine IW.seq ?_
    refine IW.region_seq tab_ok [some 9, some 10, some 11] rfl fun X K hX hK => ?_
    simp only [go_sem, if_true, if_false, reduceIte, Nat.reduceEqDiff, Nat.reduceAdd, Nat.reduceLT, Nat.reduceLeDiff, reduceCtorEq]
    refine hX.quiet _ _ (OpG.of_B rfl (opB_call rfl rfl (FSpec.nz (fRight W H p hl) (by simp [go_sem, if_true, if_false, reduceIte, Nat.reduceEqDiff, Nat.reduceAdd, Nat.reduceLT, Nat.reduceLeDiff, reduceCtorEq, List.map_cons, List.map_nil, List.append_nil, opnd, unc])))) ?_
    simp only [go_sem, if_true, if_false, reduceIte, Nat.reduceEqDiff, Nat.reduceAdd, Nat.reduceLT, Nat.reduceLeDiff, reduceCtorEq]
    refine hK _ _ ?_; clear hX hK X K
    show IW _ _ _ _ _ _ _ _
    repeat refine IW.seq ?_
    refine IW.cond rfl (fun hb => ?_) (fun hb => ?_)
    · repeat refine IW.seq ?_
      refine IW.region_seq tab_ok [some 12, none] rfl fun X K hX hK => ?_
      simp only [go_sem, if_true, if_false, reduceIte, Nat.reduceEqDiff, Nat.reduceAdd, Nat.reduceLT, Nat.reduceLeDiff, reduceCtorEq]
      refine hX.op _ _ rfl (opS_store tab_ok rfl (by simp [go_sem, if_true, if_false, reduceIte, Nat.reduceEqDiff, Nat.reduceAdd, Nat.reduceLT, Nat.reduceLeDiff, reduceCtorEq]) (by simp [go_sem, if_true, if_false, reduceIte, Nat.reduceEqDiff, Nat.reduceAdd, Nat.reduceLT, Nat.reduceLeDiff, reduceCtorEq]) (by simp [go_sem, if_true, if_false, reduceIte, Nat.reduceEqDiff, Nat.reduceAdd, Nat.reduceLT, Nat.reduceLeDiff, reduceCtorEq]) (by simp [go_sem, if_true, if_false, reduceIte, Nat.reduceEqDiff, Nat.reduceAdd, Nat.reduceLT, Nat.reduceLeDiff, reduceCtorEq]) (by simp [go_sem, if_true, if_false, reduceIte, Nat.reduceEqDiff, Nat.reduceAdd, Nat.reduceLT, Nat.reduceLeDiff, reduceCtorEq]) (by simp [go_sem, if_true, if_false, reduceIte, Nat.reduceEqDiff, Nat.reduceAdd, Nat.reduceLT, Nat.reduceLeDiff, reduceCtorEq])) ?_
      simp only [go_sem, if_true, if_false, reduceIte, Nat.reduceEqDiff, Nat.reduceAdd, Nat.reduceLT, Nat.reduceLeDiff, reduceCtorEq]
      refine hK _ _ ?_; clear hX hK X K
      show IW _ _ _ _ _ _ _ _
      refine IW.ret (Fin.cell ⟨trivial, by simp [go_sem, if_true, if_false, reduceIte, Nat.reduceEqDiff, Nat.reduceAdd, Nat.reduceLT, Nat.reduceLeDiff, reduceCtorEq]⟩ rfl rfl ?_)
      simp [go_sem, if_true, if_false, reduceIte, Nat.reduceEqDiff, Nat.reduceAdd, Nat.reduceLT, Nat.reduceLeDiff, reduceCtorEq]
    · exact absurd (by simpa using hb) hr
  case pos =>
  obtain ⟨hlen, h0, h1, h2, h3⟩ := right_len hr
  obtain ⟨w, rfl⟩ : ∃ w : Nat, W = w := ⟨W.toNat, by omega⟩
  obtain ⟨h, rfl⟩ : ∃ h : Nat, H = h := ⟨H.toNat, by omega⟩
  have hlen' : p.length = w * h := by exact_mod_cast hlen
  have e1 : liF w h p l = rm p.length (linedF w p l) := by simp [liF, hr]
  have e2 : riW w h p w = w := by simp [riW, hr]
  have e3 : riW w h p h = h := by simp [riW, hr]
  rw [e1, e2, e3]
  refine FSpec.intro tab_ok Try.func36 rfl rfl rfl (by kernel_rfl) (by simp) fun w0 => ?_
  simp only [argTM, Nat.zero_add, Nat.reduceAdd]
  simp only [ink]
  repeat refine IW.seq ?_
  refine IW.region_seq tab_ok [some 2, some 4] rfl fun X K hX hK => ?_
  simp only [go_sem, if_true, if_false, reduceIte, Nat.reduceEqDiff, Nat.reduceAdd, Nat.reduceLT, Nat.reduceLeDiff, reduceCtorEq]
  refine hK _ _ ?_; clear hX hK X K
  show IW _ _ _ _ _ _ _ _
  repeat refine IW.seq ?_
  refine IW.region_seq tab_ok [some 9, some 10, some 11] rfl fun X K hX hK => ?_
  simp only [go_sem, if_true, if_false, reduceIte, Nat.reduceEqDiff, Nat.reduceAdd, Nat.reduceLT, Nat.reduceLeDiff, reduceCtorEq]
  refine hX.quiet _ _ (OpG.of_B rfl (opB_call rfl rfl (FSpec.nz (fRight w h p hl) (by simp [go_sem, if_true, if_false, reduceIte, Nat.reduceEqDiff, Nat.reduceAdd, Nat.reduceLT, Nat.reduceLeDiff, reduceCtorEq, List.map_cons, List.map_nil, List.append_nil, opnd, unc])))) ?_
  simp only [go_sem, if_true, if_false, reduceIte, Nat.reduceEqDiff, Nat.reduceAdd, Nat.reduceLT, Nat.reduceLeDiff, reduceCtorEq]
  refine hK _ _ ?_; clear hX hK X K
  show IW _ _ _ _ _ _ _ _
  repeat refine IW.seq ?_
  refine IW.cond rfl (fun hb => ?_) (fun hb => ?_)
  · simp [hr] at hb
  · refine IW.skip ?_
    show IW _ _ _ _ _ _ _ _
    repeat refine IW.seq ?_
    refine IW.region_draw tab_ok mixed [some 13, some 14, some 15, some 16, some 17, some 18, some 19, some 20, some 5, none] 9 (by kernel_rfl) rfl fun Xq Xs K hXq hXs hK K1 hK1 => ?_
    simp only [go_sem, if_true, if_false, reduceIte, Nat.reduceEqDiff, Nat.reduceAdd, Nat.reduceLT, Nat.reduceLeDiff, reduceCtorEq]
    refine hXq.quiet _ _ (OpG.of_B rfl (opB_call rfl rfl (FSpec.nz (ls_nums (fClone p hl)) (by simp [go_sem, if_true, if_false, reduceIte, Nat.reduceEqDiff, Nat.reduceAdd, Nat.reduceLT, Nat.reduceLeDiff, reduceCtorEq, List.map_cons, List.map_nil, List.append_nil, opnd, unc])))) ?_
    simp only [go_sem, if_true, if_false, reduceIte, Nat.reduceEqDiff, Nat.reduceAdd, Nat.reduceLT, Nat.reduceLeDiff, reduceCtorEq]
    refine hK1 _ _ ?_; clear hXq hK1 K1 Xq
    simp only [List.drop_zero, List.drop_succ_cons, go_sem, if_true, if_false, reduceIte, Nat.reduceEqDiff, Nat.reduceAdd, Nat.reduceLT, Nat.reduceLeDiff, reduceCtorEq]
    refine hXs.op _ _ rfl (opS_store tab_ok rfl (by simp [go_sem, if_true, if_false, reduceIte, Nat.reduceEqDiff, Nat.reduceAdd, Nat.reduceLT, Nat.reduceLeDiff, reduceCtorEq]) (by simp [go_sem, if_true, if_false, reduceIte, Nat.reduceEqDiff, Nat.reduceAdd, Nat.reduceLT, Nat.reduceLeDiff, reduceCtorEq]) (by simp [go_sem, if_true, if_false, reduceIte, Nat.reduceEqDiff, Nat.reduceAdd, Nat.reduceLT, Nat.reduceLeDiff, reduceCtorEq]) (by simp [go_sem, if_true, if_false, reduceIte, Nat.reduceEqDiff, Nat.reduceAdd, Nat.reduceLT, Nat.reduceLeDiff, reduceCtorEq]) (by simp [go_sem, if_true, if_false, reduceIte, Nat.reduceEqDiff, Nat.reduceAdd, Nat.reduceLT, Nat.reduceLeDiff, reduceCtorEq]) (by simp [go_sem, if_true, if_false, reduceIte, Nat.reduceEqDiff, Nat.reduceAdd, Nat.reduceLT, Nat.reduceLeDiff, reduceCtorEq])) ?_
    simp only [go_sem, if_true, if_false, reduceIte, Nat.reduceEqDiff, Nat.reduceAdd, Nat.reduceLT, Nat.reduceLeDiff, reduceCtorEq]
    refine hK _ _ ?_; clear hXs hK K Xs
    show IW _ _ _ _ _ _ _ _
    repeat refine IW.seq ?_
    refine IW.region_seq tab_ok [some 21, some 22, some 23] rfl fun X K hX hK => ?_
    simp only [go_sem, if_true, if_false, reduceIte, Nat.reduceEqDiff, Nat.reduceAdd, Nat.reduceLT, Nat.reduceLeDiff, reduceCtorEq]
    refine hK _ _ ?_; clear hX hK X K
    show IW _ _ _ _ _ _ _ _
    repeat refine IW.seq ?_
    refine IW.block ?_
    refine IW.loop (α := {i : Nat // i ≤ l.length}) (fun i => [(2, .ptr 0 0 0), (4, .ptr 1 0 0), (5, .ptr 3 0 0), (21, .sl true (nums .i64 l)), (22, .int .i64 l.length), (23, .int .i64 i.1)]) (fun i => [some ⟨3, 33, [[.int .i64 w, .int .i64 h, .sl true (nums .u8 p)]]⟩, some ⟨3, 33, [[.int .i64 0, .int .i64 0, .nils]]⟩, some ⟨1, 5, nums .u8 (rm p.length (linedF w p (l.take i.1)))⟩, some ⟨3, 33, [[.int .i64 w, .int .i64 h, lsV 2 p.length]]⟩]) (fun i => l.length - i.1) ⟨0, by omega⟩ ?_ fun ⟨i, hi⟩ => ?_
    · have : rm p.length (linedF w p []) = p := by
        conv => rhs; rw [rm_self p]
        exact rm_congr fun t _ => by simp [linedF, hasS]
      refine Ent.cut ?_ ?_ <;> simp only [go_sem, if_true, if_false, reduceIte, Nat.reduceEqDiff, Nat.reduceAdd, Nat.reduceLT, Nat.reduceLeDiff, reduceCtorEq, this]
    · simp only []
      repeat refine IW.seq ?_
      refine IW.region_seq tab_ok [some 24] rfl fun X K hX hK => ?_
      simp only [go_sem, if_true, if_false, reduceIte, Nat.reduceEqDiff, Nat.reduceAdd, Nat.reduceLT, Nat.reduceLeDiff, reduceCtorEq]
      refine hK _ _ ?_; clear hX hK X K
      show IW _ _ _ _ _ _ _ _
      repeat refine IW.seq ?_
      refine IW.cond rfl (fun hb1 => ?_) (fun hb1 => ?_)
      · refine IW.skip ?_
        show IW _ _ _ _ _ _ _ _
        simp only [decide_eq_true_eq] at hb1
        have hlt : i < l.length := by omega
        have htk := hasS_take l i hlt
        refine IW.seq (IW.block ?_)
        repeat refine IW.seq ?_
        refine IW.region_seq tab_ok [some 25, some 26, some 7] rfl fun X K hX hK => ?_
        simp only [go_sem, if_true, if_false, reduceIte, Nat.reduceEqDiff, Nat.reduceAdd, Nat.reduceLT, Nat.reduceLeDiff, reduceCtorEq, nums_at hlt]
        refine ⟨⟨by omega, by omega⟩, ?_⟩
        refine hK _ _ ?_; clear hX hK X K
        show IW _ _ _ _ _ _ _ _
        generalize hy0 : l.getD i 0 = y0 at *
        repeat refine IW.seq ?_
        refine IW.region_seq tab_ok [some 27, some 28, some 29, some 30, some 31, some 32, some 33, some 34] rfl fun X K hX hK => ?_
        simp only [go_sem, if_true, if_false, reduceIte, Nat.reduceEqDiff, Nat.reduceAdd, Nat.reduceLT, Nat.reduceLeDiff, reduceCtorEq]
        refine hK _ _ ?_; clear hX hK X K
        show IW _ _ _ _ _ _ _ _
        repeat refine IW.seq ?_
        refine IW.cond rfl (fun hb2 => ?_) (fun hb2 => ?_)
        · simp only [Bool.and_eq_true, decide_eq_true_eq] at hb2
          obtain ⟨y, rfl⟩ : ∃ y : Nat, y0 = y := ⟨y0.toNat, by omega⟩
          have hyh : y < h := by omega
          repeat refine IW.seq ?_
          refine IW.region_seq tab_ok [some 35, some 36, some 37] rfl fun X K hX hK => ?_
          simp only [go_sem, if_true, if_false, reduceIte, Nat.reduceEqDiff, Nat.reduceAdd, Nat.reduceLT, Nat.reduceLeDiff, reduceCtorEq]
          refine hK _ _ ?_; clear hX hK X K
          show IW _ _ _ _ _ _ _ _
          repeat refine IW.seq ?_
          refine IW.block ?_
          refine IW.loop (α := {x : Nat // x ≤ w}) (fun x => [(2, .ptr 0 0 0), (4, .ptr 1 0 0), (5, .ptr 3 0 0), (7, .int .i64 y), (21, .sl true (nums .i64 l)), (22, .int .i64 l.length), (23, .int .i64 i), (36, .int .i64 w), (37, .int .i64 x.1)]) (fun x => [some ⟨3, 33, [[.int .i64 w, .int .i64 h, .sl true (nums .u8 p)]]⟩, some ⟨3, 33, [[.int .i64 0, .int .i64 0, .nils]]⟩, some ⟨1, 5, nums .u8 (rm p.length fun t => if t / w = y ∧ t % w < x.1 then 1 else linedF w p (l.take i) t)⟩, some ⟨3, 33, [[.int .i64 w, .int .i64 h, lsV 2 p.length]]⟩]) (fun x => w - x.1) ⟨0, by omega⟩ ?_ fun ⟨x, hx⟩ => ?_
          · have : (rm p.length fun t => if t / w = y ∧ t % w < 0 then 1 else linedF w p (l.take i) t) = rm p.length (linedF w p (l.take i)) := rm_congr fun t _ => by rw [if_neg (by omega)]
            refine Ent.cut ?_ ?_ <;> simp only [go_sem, if_true, if_false, reduceIte, Nat.reduceEqDiff, Nat.reduceAdd, Nat.reduceLT, Nat.reduceLeDiff, reduceCtorEq, this]
          · simp only []
            repeat refine IW.seq ?_
            refine IW.region_seq tab_ok [some 38] rfl fun X K hX hK => ?_
            simp only [go_sem, if_true, if_false, reduceIte, Nat.reduceEqDiff, Nat.reduceAdd, Nat.reduceLT, Nat.reduceLeDiff, reduceCtorEq]
            refine hK _ _ ?_; clear hX hK X K
            show IW _ _ _ _ _ _ _ _
            repeat refine IW.seq ?_
            refine IW.cond rfl (fun hb3 => ?_) (fun hb3 => ?_)
            · refine IW.skip ?_
              show IW _ _ _ _ _ _ _ _
              simp only [decide_eq_true_eq] at hb3
              have hxw : x < w := by omega
              obtain ⟨w1, w2, w3⟩ := wrap_cell hxw hyh hlen' hl
              refine IW.seq (IW.block ?_)
              repeat refine IW.seq ?_
              refine IW.region_seq tab_ok [some 39, some 8] rfl fun X K hX hK => ?_
              simp only [go_sem, if_true, if_false, reduceIte, Nat.reduceEqDiff, Nat.reduceAdd, Nat.reduceLT, Nat.reduceLeDiff, reduceCtorEq]
              refine hK _ _ ?_; clear hX hK X K
              show IW _ _ _ _ _ _ _ _
              have hne := lsV_ne (id := 2) (n := p.length) (by omega)
              rw [hne]
              repeat refine IW.seq ?_
              refine IW.region_seq tab_ok [some 40, some 41, some 42, some 43, some 44, some 45, some 46, some 47, some 48, none] rfl fun X K hX hK => ?_
              simp only [go_sem, if_true, if_false, reduceIte, Nat.reduceEqDiff, Nat.reduceAdd, Nat.reduceLT, Nat.reduceLeDiff, reduceCtorEq, w1, w2]
              refine ⟨⟨by omega, by omega⟩, ?_⟩
              have hat := nums_at (k := .u8) (xs := rm p.length fun t => if t / w = y ∧ t % w < x then 1 else linedF w p (l.take i) t) (i := y * w + x) (by rw [rm_length]; exact w3)
              refine hX.op _ _ rfl (opS_store tab_ok rfl (by simp [go_sem, if_true, if_false, reduceIte, Nat.reduceEqDiff, Nat.reduceAdd, Nat.reduceLT, Nat.reduceLeDiff, reduceCtorEq]) (by simp [go_sem, if_true, if_false, reduceIte, Nat.reduceEqDiff, Nat.reduceAdd, Nat.reduceLT, Nat.reduceLeDiff, reduceCtorEq]) (by simp [go_sem, if_true, if_false, reduceIte, Nat.reduceEqDiff, Nat.reduceAdd, Nat.reduceLT, Nat.reduceLeDiff, reduceCtorEq]) (by simp [go_sem, if_true, if_false, reduceIte, Nat.reduceEqDiff, Nat.reduceAdd, Nat.reduceLT, Nat.reduceLeDiff, reduceCtorEq, w3, hat]) (by simp [go_sem, if_true, if_false, reduceIte, Nat.reduceEqDiff, Nat.reduceAdd, Nat.reduceLT, Nat.reduceLeDiff, reduceCtorEq]) (by simp [go_sem, if_true, if_false, reduceIte, Nat.reduceEqDiff, Nat.reduceAdd, Nat.reduceLT, Nat.reduceLeDiff, reduceCtorEq])) ?_
              simp only [go_sem, if_true, if_false, reduceIte, Nat.reduceEqDiff, Nat.reduceAdd, Nat.reduceLT, Nat.reduceLeDiff, reduceCtorEq, w3, hat]
              refine hK _ _ ?_; clear hX hK X K
              show IW _ _ _ _ _ _ _ _
              repeat refine IW.seq ?_
              refine IW.region_seq tab_ok [some 49, some 37] rfl fun X K hX hK => ?_
              simp only [go_sem, if_true, if_false, reduceIte, Nat.reduceEqDiff, Nat.reduceAdd, Nat.reduceLT, Nat.reduceLeDiff, reduceCtorEq, succ_wrap hxw (by omega)]
              refine hK _ _ ⟨⟨x + 1, hxw⟩, by simp only []; omega, ?_⟩
              have : (rm p.length fun t => if t = y * w + x then 1 else if t / w = y ∧ t % w < x then 1 else linedF w p (l.take i) t) = rm p.length fun t => if t / w = y ∧ t % w < x + 1 then 1 else linedF w p (l.take i) t := rm_congr fun t _ => by
                by_cases c : t = y * w + x
                · have := (cell_eq hxw).1 c
                  rw [if_pos c, if_pos (by omega)]
                · have : ¬ (t / w = y ∧ t % w = x) := fun h => c ((cell_eq hxw).2 h)
                  rw [if_neg c]
                  by_cases d : t / w = y ∧ t % w < x
                  · rw [if_pos d, if_pos (by omega)]
                  · rw [if_neg d, if_neg (by omega)]
              refine Ent.cut ?_ ?_ <;> simp only [go_sem, if_true, if_false, reduceIte, Nat.reduceEqDiff, Nat.reduceAdd, Nat.reduceLT, Nat.reduceLeDiff, reduceCtorEq, rm_set, this]
            · refine IW.exit ?_
              show IW _ _ _ _ _ _ _ _
              simp only [decide_eq_false_iff_not] at hb3
              have hxw : x = w := by omega
              subst hxw
              repeat refine IW.seq ?_
              refine IW.region_seq tab_ok [some 50, some 23] rfl fun X K hX hK => ?_
              simp only [go_sem, if_true, if_false, reduceIte, Nat.reduceEqDiff, Nat.reduceAdd, Nat.reduceLT, Nat.reduceLeDiff, reduceCtorEq, succ_wrap hlt (by omega)]
              refine hK _ _ ⟨⟨i + 1, hlt⟩, by simp only []; omega, ?_⟩
              have : (rm p.length fun t => if t / x = y ∧ t % x < x then 1 else linedF x p (l.take i) t) = rm p.length (linedF x p (l.take (i + 1))) := rm_congr fun t ht => by
                have hx0 : 0 < x := by
                  rcases Nat.eq_zero_or_pos x with h0 | h0
                  · rw [h0, Nat.zero_mul] at hlen'; omega
                  · exact h0
                have hm := Nat.mod_lt t hx0
                simp only [linedF, htk]
                by_cases c : t / x = y
                · rw [if_pos ⟨c, hm⟩, c, if_pos (by simp)]
                · rw [if_neg (fun h => c h.1)]
                  have : ((y : Int) == ((t / x : Nat) : Int)) = false := by simpa using fun e => c (by omega)
                  rw [this, Bool.or_false]
              refine Ent.cut ?_ ?_ <;> simp only [go_sem, if_true, if_false, reduceIte, Nat.reduceEqDiff, Nat.reduceAdd, Nat.reduceLT, Nat.reduceLeDiff, reduceCtorEq, this]
        · refine IW.skip ?_
          show IW _ _ _ _ _ _ _ _
          repeat refine IW.seq ?_
          refine IW.region_seq tab_ok [some 50, some 23] rfl fun X K hX hK => ?_
          simp only [go_sem, if_true, if_false, reduceIte, Nat.reduceEqDiff, Nat.reduceAdd, Nat.reduceLT, Nat.reduceLeDiff, reduceCtorEq, succ_wrap hlt (by omega)]
          refine hK _ _ ⟨⟨i + 1, hlt⟩, by simp only []; omega, ?_⟩
          have : rm p.length (linedF w p (l.take i)) = rm p.length (linedF w p (l.take (i + 1))) := rm_congr fun t ht => by
            simp only [linedF, htk]
            have hdiv : t / w < h := Nat.div_lt_of_lt_mul (by rw [← hlen']; exact ht)
            generalize t / w = q at *
            have : (y0 == ((q : Nat) : Int)) = false := by
              simp only [Bool.and_eq_false_iff, decide_eq_false_iff_not] at hb2
              simp only [beq_eq_false_iff_ne, ne_eq]; omega
            rw [this, Bool.or_false]
          refine Ent.cut ?_ ?_ <;> simp only [go_sem, if_true, if_false, reduceIte, Nat.reduceEqDiff, Nat.reduceAdd, Nat.reduceLT, Nat.reduceLeDiff, reduceCtorEq, this]
      · refine IW.exit ?_
        show IW _ _ _ _ _ _ _ _
        simp only [decide_eq_false_iff_not] at hb1
        have : l.take i = l := List.take_of_length_le (by omega)
        rw [this]
        repeat refine IW.seq ?_
        refine IW.region_seq tab_ok [some 51, none] rfl fun X K hX hK => ?_
        simp only [go_sem, if_true, if_false, reduceIte, Nat.reduceEqDiff, Nat.reduceAdd, Nat.reduceLT, Nat.reduceLeDiff, reduceCtorEq]
        refine hX.op _ _ rfl (opS_store tab_ok rfl (by simp [go_sem, if_true, if_false, reduceIte, Nat.reduceEqDiff, Nat.reduceAdd, Nat.reduceLT, Nat.reduceLeDiff, reduceCtorEq]) (by simp [go_sem, if_true, if_false, reduceIte, Nat.reduceEqDiff, Nat.reduceAdd, Nat.reduceLT, Nat.reduceLeDiff, reduceCtorEq]) (by simp [go_sem, if_true, if_false, reduceIte, Nat.reduceEqDiff, Nat.reduceAdd, Nat.reduceLT, Nat.reduceLeDiff, reduceCtorEq]) (by simp [go_sem, if_true, if_false, reduceIte, Nat.reduceEqDiff, Nat.reduceAdd, Nat.reduceLT, Nat.reduceLeDiff, reduceCtorEq]) (by simp [go_sem, if_true, if_false, reduceIte, Nat.reduceEqDiff, Nat.reduceAdd, Nat.reduceLT, Nat.reduceLeDiff, reduceCtorEq]) (by simp [go_sem, if_true, if_false, reduceIte, Nat.reduceEqDiff, Nat.reduceAdd, Nat.reduceLT, Nat.reduceLeDiff, reduceCtorEq])) ?_
        simp only [go_sem, if_true, if_false, reduceIte, Nat.reduceEqDiff, Nat.reduceAdd, Nat.reduceLT, Nat.reduceLeDiff, reduceCtorEq]
        refine hK _ _ ?_; clear hX hK X K
        show IW _ _ _ _ _ _ _ _
        refine IW.ret (Fin.cell1 2 ⟨trivial, by simp [go_sem, if_true, if_false, reduceIte, Nat.reduceEqDiff, Nat.reduceAdd, Nat.reduceLT, Nat.reduceLeDiff, reduceCtorEq]⟩ (by simp [go_sem, if_true, if_false, reduceIte, Nat.reduceEqDiff, Nat.reduceAdd, Nat.reduceLT, Nat.reduceLeDiff, reduceCtorEq, resI]) (by simp [go_sem, if_true, if_false, reduceIte, Nat.reduceEqDiff, Nat.reduceAdd, Nat.reduceLT, Nat.reduceLeDiff, reduceCtorEq]) (by simp [go_sem, if_true, if_false, reduceIte, Nat.reduceEqDiff, Nat.reduceAdd, Nat.reduceLT, Nat.reduceLeDiff, reduceCtorEq, resI]) (by simp [go_sem, if_true, if_false, reduceIte, Nat.reduceEqDiff, Nat.reduceAdd, Nat.reduceLT, Nat.reduceLeDiff, reduceCtorEq]))
end Go.Proofs.Ytnbpbehlemaeoaa

set_option linter.unusedVariables false
set_option linter.unusedSimpArgs false
set_option maxRecDepth 10000
namespace Go.Proofs.Ytnbpbehlemaeoaa
open Go.IL
def nomapT : TM → Bool
  | [] => true
  | (_, s) :: r => s.nomap && nomapT r
theorem nomapT_get : ∀ {tm : TM} (t : Nat), nomapT tm = true → (tm.get t).nomap = true
  | [], t, _ => rfl
  | (u, s) :: r, t, h => by
    simp only [nomapT, Bool.and_eq_true] at h
    simp only [TM.get]
    split
    · exact h.1
    · exact nomapT_get t h.2
theorem mem_ptRow {X0 Y0 RW RH : Int} {y n : Nat} {p : Int × Int} (h : p ∈ ptRow X0 Y0 RW RH y n) : ∃ x : Nat, x < n ∧ p = ((x : Int), (y : Int)) ∧ insF x X0 RW = true ∧ insF y Y0 RH = true := by
  simp only [ptRow, List.mem_map, List.mem_filter, List.mem_range, Bool.and_eq_true] at h
  obtain ⟨x, ⟨h1, h2, h3⟩, rfl⟩ := h
  exact ⟨x, h1, rfl, h2, h3⟩
theorem mem_ptRows {W : Nat} {X0 Y0 RW RH : Int} {m : Nat} {p : Int × Int} (h : p ∈ ptRows W X0 Y0 RW RH m) : ∃ x y : Nat, x < W ∧ y < m ∧ p = ((x : Int), (y : Int)) ∧ insF x X0 RW = true ∧ insF y Y0 RH = true := by
  simp only [ptRows, List.mem_flatMap, List.mem_range] at h
  obtain ⟨y, hy, h⟩ := h
  obtain ⟨x, h1, h2, h3, h4⟩ := mem_ptRow h
  exact ⟨x, y, h1, hy, h2, h3, h4⟩
theorem in_ptRows {W : Nat} {X0 Y0 RW RH : Int} {m x y : Nat} (hx : x < W) (hy : y < m) (h1 : insF x X0 RW = true) (h2 : insF y Y0 RH = true) : ((x : Int), (y : Int)) ∈ ptRows W X0 Y0 RW RH m := by
  simp only [ptRows, List.mem_flatMap, List.mem_range, ptRow, List.mem_map, List.mem_filter, Bool.and_eq_true]
  exact ⟨y, hy, x, ⟨hx, h1, h2⟩, rfl⟩
theorem insF_nat {a b : Nat} (h : a < b) : insF (a : Nat) 0 (b : Nat) = true := by simp only [insF, decide_eq_true_eq]; omega
theorem mem_ext {Y0 : List (Int × Int)} {pre : List (Int × Int)} {x : Int × Int} (h : ∃ r, pre ++ x :: r = Y0) : x ∈ Y0 := by
  obtain ⟨r, rfl⟩ := h; simp
/-- Is the pixel t of an image with lines q to be taken away? -/
def drC (w h : Nat) (q l : List Int) (t : Nat) : Bool := hasS l ((t / w : Nat) : Int) && (IntKind.u8.wrap (atF w h q ((t % w : Nat) : Int) (((t / w : Nat) : Int) - 1) + atF w h q ((t % w : Nat) : Int) (((t / w : Nat) : Int) + 1)) == 0)
def drG (w h : Nat) (q l : List Int) (pre : List (Int × Int)) (t : Nat) : Int := if (((t % w : Nat) : Int), ((t / w : Nat) : Int)) ∈ pre ∧ drC w h q l t = true then 0 else q.getD t 0
def drF (w h : Nat) (q l : List Int) : List Int := rm q.length fun t => if drC w h q l t then 0 else q.getD t 0
theorem fDress0 (W H : Int) (p l : List Int) (hl : p.length ≤ 1000000) (hll : l.length ≤ 1000000) (w h : Nat) (q : List Int) (hs : FSpec Try.prog 36 [ink W H p, .sl true (nums .i64 l)] (resI w h q) (resR q)) (hq : q.length = w * h) (hw : w ≤ 640) (hh : h ≤ 640) :
    FSpec Try.prog 31 [ink W H p, .sl true (nums .i64 l)] (resI w h (drF w h q l)) (resR (drF w h q l)) := by
  have hmul : w * h ≤ 640 * 640 := Nat.mul_le_mul hw hh
  refine FSpec.intro tab_ok Try.func31 rfl rfl rfl (by kernel_rfl) (by simp) fun w0 => ?_
  simp only [argTM, Nat.zero_add, Nat.reduceAdd]
  simp only [ink]
  repeat refine IW.seq ?_
  refine IW.region_seq tab_ok [some 2, some 3, some 4] rfl fun X K hX hK => ?_
  simp only [go_sem, if_true, if_false, reduceIte, Nat.reduceEqDiff, Nat.reduceAdd, Nat.reduceLT, Nat.reduceLeDiff, reduceCtorEq]
  refine hK _ _ ?_; clear hX hK X K
  show IW _ _ _ _ _ _ _ _
  repeat refine IW.seq ?_
  refine IW.region_seq tab_ok [some 8, some 9, some 10, some 5, none] rfl fun X K hX hK => ?_
  simp only [go_sem, if_true, if_false, reduceIte, Nat.reduceEqDiff, Nat.reduceAdd, Nat.reduceLT, Nat.reduceLeDiff, reduceCtorEq]
  refine hX.quiet _ _ (OpG.of_B rfl (opB_call rfl rfl (FSpec.nz (hs) (by simp [go_sem, if_true, if_false, reduceIte, Nat.reduceEqDiff, Nat.reduceAdd, Nat.reduceLT, Nat.reduceLeDiff, reduceCtorEq, List.map_cons, List.map_nil, List.append_nil, opnd, unc, resI, resR])))) ?_
  simp only [go_sem, if_true, if_false, reduceIte, Nat.reduceEqDiff, Nat.reduceAdd, Nat.reduceLT, Nat.reduceLeDiff, reduceCtorEq, resI, resR]
  refine hX.op _ _ rfl (opS_store tab_ok rfl (by simp [go_sem, if_true, if_false, reduceIte, Nat.reduceEqDiff, Nat.reduceAdd, Nat.reduceLT, Nat.reduceLeDiff, reduceCtorEq]) (by simp [go_sem, if_true, if_false, reduceIte, Nat.reduceEqDiff, Nat.reduceAdd, Nat.reduceLT, Nat.reduceLeDiff, reduceCtorEq]) (by simp [go_sem, if_true, if_false, reduceIte, Nat.reduceEqDiff, Nat.reduceAdd, Nat.reduceLT, Nat.reduceLeDiff, reduceCtorEq]) (by simp [go_sem, if_true, if_false, reduceIte, Nat.reduceEqDiff, Nat.reduceAdd, Nat.reduceLT, Nat.reduceLeDiff, reduceCtorEq]) (by simp [go_sem, if_true, if_false, reduceIte, Nat.reduceEqDiff, Nat.reduceAdd, Nat.reduceLT, Nat.reduceLeDiff, reduceCtorEq]) (by simp [go_sem, if_true, if_false, reduceIte, Nat.reduceEqDiff, Nat.reduceAdd, Nat.reduceLT, Nat.reduceLeDiff, reduceCtorEq])) ?_
  simp only [go_sem, if_true, if_false, reduceIte, Nat.reduceEqDiff, Nat.reduceAdd, Nat.reduceLT, Nat.reduceLeDiff, reduceCtorEq]
  refine hK _ _ ?_; clear hX hK X K
  show IW _ _ _ _ _ _ _ _
  repeat refine IW.seq ?_
  refine IW.region_draw tab_ok mixed [some 11, some 12, some 13, some 14, some 15, some 16, some 17, some 18, some 19, some 6, none] 10 (by kernel_rfl) rfl fun Xq Xs K hXq hXs hK K1 hK1 => ?_
  simp only [go_sem, if_true, if_false, reduceIte, Nat.reduceEqDiff, Nat.reduceAdd, Nat.reduceLT, Nat.reduceLeDiff, reduceCtorEq]
  refine hXq.quiet _ _ (OpG.of_B rfl (opB_call rfl rfl (FSpec.nz (ls_nums (fClone q (by omega))) (by simp [go_sem, if_true, if_false, reduceIte, Nat.reduceEqDiff, Nat.reduceAdd, Nat.reduceLT, Nat.reduceLeDiff, reduceCtorEq, List.map_cons, List.map_nil, List.append_nil, opnd, unc])))) ?_
  simp only [go_sem, if_true, if_false, reduceIte, Nat.reduceEqDiff, Nat.reduceAdd, Nat.reduceLT, Nat.reduceLeDiff, reduceCtorEq]
  refine hK1 _ _ ?_; clear hXq hK1 K1 Xq
  simp only [List.drop_zero, List.drop_succ_cons, go_sem, if_true, if_false, reduceIte, Nat.reduceEqDiff, Nat.reduceAdd, Nat.reduceLT, Nat.reduceLeDiff, reduceCtorEq]
  refine hXs.op _ _ rfl (opS_store tab_ok rfl (by simp [go_sem, if_true, if_false, reduceIte, Nat.reduceEqDiff, Nat.reduceAdd, Nat.reduceLT, Nat.reduceLeDiff, reduceCtorEq]) (by simp [go_sem, if_true, if_false, reduceIte, Nat.reduceEqDiff, Nat.reduceAdd, Nat.reduceLT, Nat.reduceLeDiff, reduceCtorEq]) (by simp [go_sem, if_true, if_false, reduceIte, Nat.reduceEqDiff, Nat.reduceAdd, Nat.reduceLT, Nat.reduceLeDiff, reduceCtorEq]) (by simp [go_sem, if_true, if_false, reduceIte, Nat.reduceEqDiff, Nat.reduceAdd, Nat.reduceLT, Nat.reduceLeDiff, reduceCtorEq]) (by simp [go_sem, if_true, if_false, reduceIte, Nat.reduceEqDiff, Nat.reduceAdd, Nat.reduceLT, Nat.reduceLeDiff, reduceCtorEq]) (by simp [go_sem, if_true, if_false, reduceIte, Nat.reduceEqDiff, Nat.reduceAdd, Nat.reduceLT, Nat.reduceLeDiff, reduceCtorEq])) ?_
  simp only [go_sem, if_true, if_false, reduceIte, Nat.reduceEqDiff, Nat.reduceAdd, Nat.reduceLT, Nat.reduceLeDiff, reduceCtorEq]
  refine hK _ _ ?_; clear hXs hK K Xs
  show IW _ _ _ _ _ _ _ _
  repeat refine IW.seq ?_
  refine IW.region_seq tab_ok [some 20, some 21, some 22, some 23, some 24, some 25, some 26, some 27, some 28] rfl fun X K hX hK => ?_
  simp only [go_sem, if_true, if_false, reduceIte, Nat.reduceEqDiff, Nat.reduceAdd, Nat.reduceLT, Nat.reduceLeDiff, reduceCtorEq]
  refine hX.quiet _ _ (OpG.of_B rfl (opPoints rfl (isSlc_ls _ _) rfl)) ?_
  simp only [go_sem, if_true, if_false, reduceIte, Nat.reduceEqDiff, Nat.reduceAdd, Nat.reduceLT, Nat.reduceLeDiff, reduceCtorEq]
  refine hK _ _ ?_; clear hX hK X K
  show IW _ _ _ _ _ _ _ _
  repeat refine IW.seq ?_
  refine IW.block ?_
  obtain ⟨HH, hHH⟩ : ∃ HH : List (Int × Int) → Heap, HH = fun pre => [some ⟨3, 33, [[.int .i64 W, .int .i64 H, .sl true (nums .u8 p)]]⟩, some ⟨1, 23, [[.sl true (nums .i64 l)]]⟩, some ⟨3, 33, [[.int .i64 0, .int .i64 0, .nils]]⟩, some ⟨1, 5, nums .u8 (rm q.length (drG w h q l pre))⟩,
    some ⟨3, 33, [[.int .i64 w, .int .i64 h, lsV 3 q.length]]⟩, some ⟨1, 5, nums .u8 q⟩, some ⟨3, 90, [[.int .i64 w, .int .i64 h, lsV 5 q.length]]⟩, some ⟨3, 90, [[.int .i64 w, .int .i64 h, .any]]⟩, some ⟨4, 56, [[.int .i64 0, .int .i64 0, .int .i64 w, .int .i64 h]]⟩] := ⟨_, rfl⟩
  have hI0 : I64 0 := by unfold I64; omega
  have hIw : I64 w := by unfold I64; omega
  have hIh : I64 h := by unfold I64; omega
  refine IW.ent (tm' := [(28, .clo 80 [.ptr 7 0 0, .ptr 8 0 0]), (3, .ptr 1 0 0), (4, .ptr 2 0 0), (5, .ptr 4 0 0), (6, .ptr 6 0 0)]) (h' := HH []) (Ent.cut ?_ ?_) ?_
  · rw [hHH]; simp only [go_sem, if_true, if_false, reduceIte, Nat.reduceEqDiff, Nat.reduceAdd, Nat.reduceLT, Nat.reduceLeDiff, reduceCtorEq]
  · have : rm q.length (drG w h q l []) = q := by
      conv => rhs; rw [rm_self q]
      exact rm_congr fun t _ => by simp [drG]
    rw [hHH]; simp only [go_sem, if_true, if_false, reduceIte, Nat.reduceEqDiff, Nat.reduceAdd, Nat.reduceLT, Nat.reduceLeDiff, reduceCtorEq, this]
  refine IW.rangeFunc (capsC := [.ptr 0 0 0, .ptr 1 0 0]) (rowsC := [⟨3, 90, [[.int .i64 w, .int .i64 h, .any]]⟩, ⟨4, 56, [[.int .i64 0, .int .i64 0, .int .i64 w, .int .i64 h]]⟩]) [7, 8] (fun x : Int × Int => .agg [.int .i64 x.1, .int .i64 x.2]) ptV HH (fun ys => ys = ptRows w 0 0 w h h) rfl (by decide) rfl (fun t => nomapT_get t rfl) (fun pre => by rw [hHH]; simp only [go_sem, if_true, if_false, reduceIte, Nat.reduceEqDiff, Nat.reduceAdd, Nat.reduceLT, Nat.reduceLeDiff, reduceCtorEq]) rfl (fun pre => by rw [hHH]; exact Nat.le_refl _) (fun x ρ O F w => ptV_rel x ρ O F w) (by decide) rfl (by rw [hHH]; rfl) rfl (fun pre i r e => ?_) (fPoints w h 0 0 w h (by omega) (by omega) hI0 hI0 hIw hIh) (fun c k pre x hpx hc => ?_) (fun ys hys => ?_)
  · rw [hHH]
    match i, e with
    | 0, e => cases e; exact ⟨_, rfl, rfl⟩
    | 1, e => cases e; exact ⟨_, rfl, rfl⟩
    | i + 2, e => simp at e
  · obtain ⟨x, y, hx, hy, rfl, _, _⟩ := mem_ptRows (mem_ext hpx)
    have hlen9 : (HH []).length = 9 := by rw [hHH]; rfl
    rw [hlen9] at hc
    have hHp : HH pre = _ := congrFun hHH pre
    rw [hHp]
    repeat refine IWR.seq ?_
    refine IWR.region_seq tab_ok [some 7, none] rfl (by kernel_rfl) fun X K hX hK => ?_
    simp only [go_sem, if_true, if_false, reduceIte, Nat.reduceEqDiff, Nat.reduceAdd, Nat.reduceLT, Nat.reduceLeDiff, reduceCtorEq]
    refine hX.op _ _ rfl (opS_store tab_ok rfl (by simp [go_sem, if_true, if_false, reduceIte, Nat.reduceEqDiff, Nat.reduceAdd, Nat.reduceLT, Nat.reduceLeDiff, reduceCtorEq]) (by simp [go_sem, if_true, if_false, reduceIte, Nat.reduceEqDiff, Nat.reduceAdd, Nat.reduceLT, Nat.reduceLeDiff, reduceCtorEq]) (by simp [go_sem, if_true, if_false, reduceIte, Nat.reduceEqDiff, Nat.reduceAdd, Nat.reduceLT, Nat.reduceLeDiff, reduceCtorEq]) (by simp [go_sem, if_true, if_false, reduceIte, Nat.reduceEqDiff, Nat.reduceAdd, Nat.reduceLT, Nat.reduceLeDiff, reduceCtorEq]) (by simp [go_sem, if_true, if_false, reduceIte, Nat.reduceEqDiff, Nat.reduceAdd, Nat.reduceLT, Nat.reduceLeDiff, reduceCtorEq]) (by simp [go_sem, if_true, if_false, reduceIte, Nat.reduceEqDiff, Nat.reduceAdd, Nat.reduceLT, Nat.reduceLeDiff, reduceCtorEq])) ?_
    simp only [go_sem, if_true, if_false, reduceIte, Nat.reduceEqDiff, Nat.reduceAdd, Nat.reduceLT, Nat.reduceLeDiff, reduceCtorEq]
    refine hK _ _ fun c2 hc2 => ?_
    clear hX hK X K
    rw [hlen9] at hc2
    show IWR _ _ _ _ _ _ _ _ _ _
    repeat refine IWR.seq ?_
    refine IWR.block ?_
    have e1 : IntKind.i64.wrap ((y : Int) - 1) = (y : Int) - 1 := wrap_eq (by omega) (by omega)
    have e2 : IntKind.i64.wrap ((y : Int) + 1) = (y : Int) + 1 := wrap_eq (by omega) (by omega)
    obtain ⟨w1, w2, w3⟩ := wrap_cell hx hy hq (by omega)
    repeat refine IWR.seq ?_
    refine IWR.region_draw tab_ok mixed [some 30, some 31, some 32, some 33, some 34, some 35, some 36, some 37, some 38, some 39, some 40, some 41, some 42, some 43, some 44, some 45, some 46, some 47, some 48, some 49, some 50, some 51] 22 (by kernel_rfl) rfl (by kernel_rfl) fun Xq Xs K hXq hXs hK K1 hK1 => ?_
    simp only [go_sem, if_true, if_false, reduceIte, Nat.reduceEqDiff, Nat.reduceAdd, Nat.reduceLT, Nat.reduceLeDiff, reduceCtorEq, e1, e2]
    refine hXq.quiet _ _ (OpG.of_B rfl (opB_call rfl rfl (FSpec.nz (fContains l y hll) (by simp [go_sem, if_true, if_false, reduceIte, Nat.reduceEqDiff, Nat.reduceAdd, Nat.reduceLT, Nat.reduceLeDiff, reduceCtorEq, List.map_cons, List.map_nil, List.append_nil, opnd, unc, e1, e2])))) ?_
    simp only [go_sem, if_true, if_false, reduceIte, Nat.reduceEqDiff, Nat.reduceAdd, Nat.reduceLT, Nat.reduceLeDiff, reduceCtorEq, e1, e2]
    refine hXq.quiet _ _ (OpG.of_BG rfl rfl rfl (by first | (simp only [go_sem, if_true, if_false, reduceIte, Nat.reduceEqDiff, Nat.reduceAdd, Nat.reduceLT, Nat.reduceLeDiff, reduceCtorEq]; done) | (simp [go_sem, if_true, if_false, reduceIte, Nat.reduceEqDiff, Nat.reduceAdd, Nat.reduceLT, Nat.reduceLeDiff, reduceCtorEq] <;> (intros; simp_all))) fun hc => opB_call rfl rfl (FSpec.nz (iAt w h x (y - 1) q hq (by omega)) (by simp [go_sem, if_true, if_false, reduceIte, Nat.reduceEqDiff, Nat.reduceAdd, Nat.reduceLT, Nat.reduceLeDiff, reduceCtorEq, List.map_cons, List.map_nil, List.append_nil, opnd, unc, e1, e2]))) ?_
    simp only [go_sem, if_true, if_false, reduceIte, Nat.reduceEqDiff, Nat.reduceAdd, Nat.reduceLT, Nat.reduceLeDiff, reduceCtorEq, e1, e2]
    refine hXq.quiet _ _ (OpG.of_BG rfl rfl rfl (by first | (simp only [go_sem, if_true, if_false, reduceIte, Nat.reduceEqDiff, Nat.reduceAdd, Nat.reduceLT, Nat.reduceLeDiff, reduceCtorEq]; done) | (simp [go_sem, if_true, if_false, reduceIte, Nat.reduceEqDiff, Nat.reduceAdd, Nat.reduceLT, Nat.reduceLeDiff, reduceCtorEq] <;> (intros; simp_all))) fun hc => opB_call rfl rfl (FSpec.nz (iAt w h x (y + 1) q hq (by omega)) (by simp [go_sem, if_true, if_false, reduceIte, Nat.reduceEqDiff, Nat.reduceAdd, Nat.reduceLT, Nat.reduceLeDiff, reduceCtorEq, List.map_cons, List.map_nil, List.append_nil, opnd, unc, e1, e2]))) ?_
    simp only [go_sem, if_true, if_false, reduceIte, Nat.reduceEqDiff, Nat.reduceAdd, Nat.reduceLT, Nat.reduceLeDiff, reduceCtorEq, e1, e2]
    refine hK1 _ _ ?_; clear hXq hK1 K1 Xq
    simp only [List.drop_zero, List.drop_succ_cons, go_sem, if_true, if_false, reduceIte, Nat.reduceEqDiff, Nat.reduceAdd, Nat.reduceLT, Nat.reduceLeDiff, reduceCtorEq]
    refine hK _ _ ?_; clear hXs hK K Xs
    show IWR _ _ _ _ _ _ _ _ _ _
    obtain ⟨hdv, hmd⟩ := (cell_eq hx).1 (rfl : y * w + x = y * w + x)
    have hdc : drC w h q l (y * w + x) = (hasS l y && (IntKind.u8.wrap (atF w h q x (y - 1) + atF w h q x (y + 1)) == 0)) := by
      simp only [drC, hdv, hmd]
    have hstep : ∀ t, t < q.length → t ≠ y * w + x → drG w h q l (pre ++ [((x : Int), (y : Int))]) t = drG w h q l pre t := fun t _ ht => by
      have : ¬ (t % w = x ∧ t / w = y) := fun h => ht ((cell_eq hx).2 ⟨h.2, h.1⟩)
      have h2 : ¬ ((((t % w : Nat) : Int), ((t / w : Nat) : Int)) = ((x : Int), (y : Int))) := fun h => this ⟨Int.natCast_inj.1 (Prod.mk.inj h).1, Int.natCast_inj.1 (Prod.mk.inj h).2⟩
      simp only [drG, List.mem_append, List.mem_singleton, h2, or_false]
    have hself : drG w h q l (pre ++ [((x : Int), (y : Int))]) (y * w + x) = if drC w h q l (y * w + x) = true then 0 else q.getD (y * w + x) 0 := by
      simp only [drG, hdv, hmd, List.mem_append, List.mem_singleton, or_true, true_and]
    repeat refine IWR.seq ?_
    refine IWR.cond rfl (fun hb => ?_) (fun hb => ?_)
    · have hne := lsV_ne (id := 3) (n := q.length) (by omega)
      have hne5 := lsV_ne (id := 5) (n := q.length) (by omega)
      have hat := nums_at (k := .u8) (xs := rm q.length (drG w h q l pre)) (i := y * w + x) (by rw [rm_length]; exact w3)
      rw [hne]
      repeat refine IWR.seq ?_
      refine IWR.region_seq tab_ok [some 52, some 53, some 54, some 55, some 56, some 57, some 58, some 59, some 60, some 61, some 62, none] rfl (by kernel_rfl) fun X K hX hK => ?_
      simp only [go_sem, if_true, if_false, reduceIte, Nat.reduceEqDiff, Nat.reduceAdd, Nat.reduceLT, Nat.reduceLeDiff, reduceCtorEq, w1, w2]
      refine ⟨⟨by omega, by omega⟩, ?_⟩
      refine hX.op _ _ rfl (opS_store tab_ok rfl (by simp [go_sem, if_true, if_false, reduceIte, Nat.reduceEqDiff, Nat.reduceAdd, Nat.reduceLT, Nat.reduceLeDiff, reduceCtorEq]) (by simp [go_sem, if_true, if_false, reduceIte, Nat.reduceEqDiff, Nat.reduceAdd, Nat.reduceLT, Nat.reduceLeDiff, reduceCtorEq]) (by simp [go_sem, if_true, if_false, reduceIte, Nat.reduceEqDiff, Nat.reduceAdd, Nat.reduceLT, Nat.reduceLeDiff, reduceCtorEq]) (by simp [go_sem, if_true, if_false, reduceIte, Nat.reduceEqDiff, Nat.reduceAdd, Nat.reduceLT, Nat.reduceLeDiff, reduceCtorEq, w3, hat]) (by simp [go_sem, if_true, if_false, reduceIte, Nat.reduceEqDiff, Nat.reduceAdd, Nat.reduceLT, Nat.reduceLeDiff, reduceCtorEq]) (by simp [go_sem, if_true, if_false, reduceIte, Nat.reduceEqDiff, Nat.reduceAdd, Nat.reduceLT, Nat.reduceLeDiff, reduceCtorEq])) ?_
      simp only [go_sem, if_true, if_false, reduceIte, Nat.reduceEqDiff, Nat.reduceAdd, Nat.reduceLT, Nat.reduceLeDiff, reduceCtorEq, w3, hat]
      refine hK _ _ fun c3 hc3 => ?_
      refine Ent.cut ?_ ?_ (fun id ri e => by have := hc3 id ri e; rw [hHH] at this ⊢; exact this)
      · rw [hHH]; trivial
      · have : rm q.length (fun t => if t = y * w + x then 0 else drG w h q l pre t) = rm q.length (drG w h q l (pre ++ [((x : Int), (y : Int))])) := rm_congr fun t ht => by
          by_cases c : t = y * w + x
          · rw [if_pos c, c, hself, if_pos (by rw [hdc]; exact hb)]
          · rw [if_neg c, hstep t ht c]
        rw [hHH]
        simp only [go_sem, if_true, if_false, reduceIte, Nat.reduceEqDiff, Nat.reduceAdd, Nat.reduceLT, Nat.reduceLeDiff, reduceCtorEq, rm_set, this, hne]
    · refine IWR.skip fun c3 hc3 => ?_
      refine Ent.cut ?_ ?_ (fun id ri e => by have := hc3 id ri e; rw [hHH] at this ⊢; exact this)
      · rw [hHH]; trivial
      · have : rm q.length (drG w h q l pre) = rm q.length (drG w h q l (pre ++ [((x : Int), (y : Int))])) := rm_congr fun t ht => by
          by_cases c : t = y * w + x
          · rw [c, hself, if_neg (by rw [hdc, hb]; simp)]
            rw [drG, if_neg (by rw [hdc, hb]; simp)]
          · rw [hstep t ht c]
        rw [hHH]
        simp only [go_sem, if_true, if_false, reduceIte, Nat.reduceEqDiff, Nat.reduceAdd, Nat.reduceLT, Nat.reduceLeDiff, reduceCtorEq, this]
  · subst hys
    have hfin : rm q.length (drG w h q l (ptRows w 0 0 w h h)) = drF w h q l := rm_congr fun t ht => by
      have hw0 : 0 < w := by
        rcases Nat.eq_zero_or_pos w with h0 | h0
        · rw [h0, Nat.zero_mul] at hq; omega
        · exact h0
      have h1 := Nat.mod_lt t hw0
      have h2 : t / w < h := Nat.div_lt_of_lt_mul (by rw [← hq]; exact ht)
      have h3 := in_ptRows (X0 := 0) (Y0 := 0) (RW := w) (RH := h) h1 h2 (insF_nat h1) (insF_nat h2)
      simp only [drG, h3, true_and]
    rw [hHH]
    simp only []
    rw [hfin]
    have hfl : q.length = (drF w h q l).length := by rw [drF, rm_length]
    rw [hfl]
    repeat refine IW.seq ?_
    refine IW.region_seq tab_ok [some 63, none] rfl fun X K hX hK => ?_
    simp only [go_sem, if_true, if_false, reduceIte, Nat.reduceEqDiff, Nat.reduceAdd, Nat.reduceLT, Nat.reduceLeDiff, reduceCtorEq]
    refine hX.op _ _ rfl (opS_store tab_ok rfl (by simp [go_sem, if_true, if_false, reduceIte, Nat.reduceEqDiff, Nat.reduceAdd, Nat.reduceLT, Nat.reduceLeDiff, reduceCtorEq]) (by simp [go_sem, if_true, if_false, reduceIte, Nat.reduceEqDiff, Nat.reduceAdd, Nat.reduceLT, Nat.reduceLeDiff, reduceCtorEq]) (by simp [go_sem, if_true, if_false, reduceIte, Nat.reduceEqDiff, Nat.reduceAdd, Nat.reduceLT, Nat.reduceLeDiff, reduceCtorEq]) (by simp [go_sem, if_true, if_false, reduceIte, Nat.reduceEqDiff, Nat.reduceAdd, Nat.reduceLT, Nat.reduceLeDiff, reduceCtorEq]) (by simp [go_sem, if_true, if_false, reduceIte, Nat.reduceEqDiff, Nat.reduceAdd, Nat.reduceLT, Nat.reduceLeDiff, reduceCtorEq]) (by simp [go_sem, if_true, if_false, reduceIte, Nat.reduceEqDiff, Nat.reduceAdd, Nat.reduceLT, Nat.reduceLeDiff, reduceCtorEq])) ?_
    simp only [go_sem, if_true, if_false, reduceIte, Nat.reduceEqDiff, Nat.reduceAdd, Nat.reduceLT, Nat.reduceLeDiff, reduceCtorEq]
    refine hK _ _ ?_; clear hX hK X K
    show IW _ _ _ _ _ _ _ _
    refine IW.ret (Fin.cell1 3 ⟨trivial, by simp [go_sem, if_true, if_false, reduceIte, Nat.reduceEqDiff, Nat.reduceAdd, Nat.reduceLT, Nat.reduceLeDiff, reduceCtorEq]⟩ (by simp [go_sem, if_true, if_false, reduceIte, Nat.reduceEqDiff, Nat.reduceAdd, Nat.reduceLT, Nat.reduceLeDiff, reduceCtorEq, resI]) (by simp [go_sem, if_true, if_false, reduceIte, Nat.reduceEqDiff, Nat.reduceAdd, Nat.reduceLT, Nat.reduceLeDiff, reduceCtorEq]) (by simp [go_sem, if_true, if_false, reduceIte, Nat.reduceEqDiff, Nat.reduceAdd, Nat.reduceLT, Nat.reduceLeDiff, reduceCtorEq, resI]) (by simp [go_sem, if_true, if_false, reduceIte, Nat.reduceEqDiff, Nat.reduceAdd, Nat.reduceLT, Nat.reduceLeDiff, reduceCtorEq]))
end Go.Proofs.Ytnbpbehlemaeoaa

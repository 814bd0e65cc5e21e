/- What the reference's tables say; the law FontGlyphs. -/
import Derived.Test.YtnbpbehlemaeoaaB9
set_option linter.unusedVariables false
set_option linter.unusedSimpArgs false
set_option maxRecDepth 10000
namespace Go.Proofs.Ytnbpbehlemaeoaa
open Go.IL
theorem refSize_1 : FSpec Try.prog 14 [.int .i64 1] (.tup [.int .i64 6, .int .i64 5]) [] := by
  refine FSpec.intro tab_ok Try.func14 rfl rfl rfl (by kernel_rfl) (by simp) fun w0 => ?_
  simp only [argTM, Nat.zero_add, Nat.reduceAdd]
  repeat refine IW.seq ?_
  refine IW.region_seq tab_ok [some 2, some 3] rfl fun X K hX hK => ?_
  simp only [go_sem, if_true, if_false, reduceIte, Nat.reduceEqDiff, Nat.reduceAdd, Nat.reduceLT, Nat.reduceLeDiff, reduceCtorEq]
  refine hK _ _ ?_; clear hX hK X K
  show IW _ _ _ _ _ _ _ _
  repeat refine IW.seq ?_
  refine IW.region_seq tab_ok [some 4] rfl fun X K hX hK => ?_
  simp only [go_sem, if_true, if_false, reduceIte, Nat.reduceEqDiff, Nat.reduceAdd, Nat.reduceLT, Nat.reduceLeDiff, reduceCtorEq]
  refine hK _ _ ?_; clear hX hK X K
  show IW _ _ _ _ _ _ _ _
  repeat refine IW.seq ?_
  refine IW.block ?_
  repeat refine IW.seq ?_
  refine IW.region_seq tab_ok [some 6, some 5] rfl fun X K hX hK => ?_
  simp only [go_sem, if_true, if_false, reduceIte, Nat.reduceEqDiff, Nat.reduceAdd, Nat.reduceLT, Nat.reduceLeDiff, reduceCtorEq]
  refine hK _ _ ?_; clear hX hK X K
  show IW _ _ _ _ _ _ _ _
  repeat refine IW.seq ?_
  refine IW.cond rfl (fun _ => ?_) (fun hb => absurd hb (by decide))
  refine IW.skip ?_
  show IW _ _ _ _ _ _ _ _
  repeat refine IW.seq ?_
  refine IW.cond rfl (fun _ => ?_) (fun hb => absurd hb (by decide))
  repeat refine IW.seq ?_
  refine IW.region_seq tab_ok [some 2, some 3] rfl fun X K hX hK => ?_
  simp only [go_sem, if_true, if_false, reduceIte, Nat.reduceEqDiff, Nat.reduceAdd, Nat.reduceLT, Nat.reduceLeDiff, reduceCtorEq]
  refine hK _ _ ?_; clear hX hK X K
  show IW _ _ _ _ _ _ _ _
  refine IW.ret ⟨⟨trivial, trivial, trivial⟩, rfl, rfl, [], rfl, List.nodup_nil, ?_, trivial⟩
  simp [go_sem, if_true, if_false, reduceIte, Nat.reduceEqDiff, Nat.reduceAdd, Nat.reduceLT, Nat.reduceLeDiff, reduceCtorEq, resAll, resSV]
theorem refSize_2 : FSpec Try.prog 14 [.int .i64 2] (.tup [.int .i64 4, .int .i64 5]) [] := by
  refine FSpec.intro tab_ok Try.func14 rfl rfl rfl (by kernel_rfl) (by simp) fun w0 => ?_
  simp only [argTM, Nat.zero_add, Nat.reduceAdd]
  repeat refine IW.seq ?_
  refine IW.region_seq tab_ok [some 2, some 3] rfl fun X K hX hK => ?_
  simp only [go_sem, if_true, if_false, reduceIte, Nat.reduceEqDiff, Nat.reduceAdd, Nat.reduceLT, Nat.reduceLeDiff, reduceCtorEq]
  refine hK _ _ ?_; clear hX hK X K
  show IW _ _ _ _ _ _ _ _
  repeat refine IW.seq ?_
  refine IW.region_seq tab_ok [some 4] rfl fun X K hX hK => ?_
  simp only [go_sem, if_true, if_false, reduceIte, Nat.reduceEqDiff, Nat.reduceAdd, Nat.reduceLT, Nat.reduceLeDiff, reduceCtorEq]
  refine hK _ _ ?_; clear hX hK X K
  show IW _ _ _ _ _ _ _ _
  repeat refine IW.seq ?_
  refine IW.block ?_
  repeat refine IW.seq ?_
  refine IW.region_seq tab_ok [some 6, some 5] rfl fun X K hX hK => ?_
  simp only [go_sem, if_true, if_false, reduceIte, Nat.reduceEqDiff, Nat.reduceAdd, Nat.reduceLT, Nat.reduceLeDiff, reduceCtorEq]
  refine hK _ _ ?_; clear hX hK X K
  show IW _ _ _ _ _ _ _ _
  repeat refine IW.seq ?_
  refine IW.cond rfl (fun hb => absurd hb (by decide)) (fun _ => ?_)
  repeat refine IW.seq ?_
  refine IW.region_seq tab_ok [some 7, some 5] rfl fun X K hX hK => ?_
  simp only [go_sem, if_true, if_false, reduceIte, Nat.reduceEqDiff, Nat.reduceAdd, Nat.reduceLT, Nat.reduceLeDiff, reduceCtorEq]
  refine hK _ _ ?_; clear hX hK X K
  show IW _ _ _ _ _ _ _ _
  repeat refine IW.seq ?_
  refine IW.cond rfl (fun hb => absurd hb (by decide)) (fun _ => ?_)
  repeat refine IW.seq ?_
  refine IW.region_seq tab_ok [some 9, some 8] rfl fun X K hX hK => ?_
  simp only [go_sem, if_true, if_false, reduceIte, Nat.reduceEqDiff, Nat.reduceAdd, Nat.reduceLT, Nat.reduceLeDiff, reduceCtorEq]
  refine hK _ _ ?_; clear hX hK X K
  show IW _ _ _ _ _ _ _ _
  repeat refine IW.seq ?_
  refine IW.cond rfl (fun _ => ?_) (fun hb => absurd hb (by decide))
  refine IW.skip ?_
  show IW _ _ _ _ _ _ _ _
  repeat refine IW.seq ?_
  refine IW.cond rfl (fun _ => ?_) (fun hb => absurd hb (by decide))
  repeat refine IW.seq ?_
  refine IW.region_seq tab_ok [some 2, some 3] rfl fun X K hX hK => ?_
  simp only [go_sem, if_true, if_false, reduceIte, Nat.reduceEqDiff, Nat.reduceAdd, Nat.reduceLT, Nat.reduceLeDiff, reduceCtorEq]
  refine hK _ _ ?_; clear hX hK X K
  show IW _ _ _ _ _ _ _ _
  refine IW.ret ⟨⟨trivial, trivial, trivial⟩, rfl, rfl, [], rfl, List.nodup_nil, ?_, trivial⟩
  simp [go_sem, if_true, if_false, reduceIte, Nat.reduceEqDiff, Nat.reduceAdd, Nat.reduceLT, Nat.reduceLeDiff, reduceCtorEq, resAll, resSV]
theorem refSize_3 : FSpec Try.prog 14 [.int .i64 3] (.tup [.int .i64 2, .int .i64 5]) [] := by
  refine FSpec.intro tab_ok Try.func14 rfl rfl rfl (by kernel_rfl) (by simp) fun w0 => ?_
  simp only [argTM, Nat.zero_add, Nat.reduceAdd]
  repeat refine IW.seq ?_
  refine IW.region_seq tab_ok [some 2, some 3] rfl fun X K hX hK => ?_
  simp only [go_sem, if_true, if_false, reduceIte, Nat.reduceEqDiff, Nat.reduceAdd, Nat.reduceLT, Nat.reduceLeDiff, reduceCtorEq]
  refine hK _ _ ?_; clear hX hK X K
  show IW _ _ _ _ _ _ _ _
  repeat refine IW.seq ?_
  refine IW.region_seq tab_ok [some 4] rfl fun X K hX hK => ?_
  simp only [go_sem, if_true, if_false, reduceIte, Nat.reduceEqDiff, Nat.reduceAdd, Nat.reduceLT, Nat.reduceLeDiff, reduceCtorEq]
  refine hK _ _ ?_; clear hX hK X K
  show IW _ _ _ _ _ _ _ _
  repeat refine IW.seq ?_
  refine IW.block ?_
  repeat refine IW.seq ?_
  refine IW.region_seq tab_ok [some 6, some 5] rfl fun X K hX hK => ?_
  simp only [go_sem, if_true, if_false, reduceIte, Nat.reduceEqDiff, Nat.reduceAdd, Nat.reduceLT, Nat.reduceLeDiff, reduceCtorEq]
  refine hK _ _ ?_; clear hX hK X K
  show IW _ _ _ _ _ _ _ _
  repeat refine IW.seq ?_
  refine IW.cond rfl (fun hb => absurd hb (by decide)) (fun _ => ?_)
  repeat refine IW.seq ?_
  refine IW.region_seq tab_ok [some 7, some 5] rfl fun X K hX hK => ?_
  simp only [go_sem, if_true, if_false, reduceIte, Nat.reduceEqDiff, Nat.reduceAdd, Nat.reduceLT, Nat.reduceLeDiff, reduceCtorEq]
  refine hK _ _ ?_; clear hX hK X K
  show IW _ _ _ _ _ _ _ _
  repeat refine IW.seq ?_
  refine IW.cond rfl (fun hb => absurd hb (by decide)) (fun _ => ?_)
  repeat refine IW.seq ?_
  refine IW.region_seq tab_ok [some 9, some 8] rfl fun X K hX hK => ?_
  simp only [go_sem, if_true, if_false, reduceIte, Nat.reduceEqDiff, Nat.reduceAdd, Nat.reduceLT, Nat.reduceLeDiff, reduceCtorEq]
  refine hK _ _ ?_; clear hX hK X K
  show IW _ _ _ _ _ _ _ _
  repeat refine IW.seq ?_
  refine IW.cond rfl (fun hb => absurd hb (by decide)) (fun _ => ?_)
  repeat refine IW.seq ?_
  refine IW.region_seq tab_ok [some 10, some 8] rfl fun X K hX hK => ?_
  simp only [go_sem, if_true, if_false, reduceIte, Nat.reduceEqDiff, Nat.reduceAdd, Nat.reduceLT, Nat.reduceLeDiff, reduceCtorEq]
  refine hK _ _ ?_; clear hX hK X K
  show IW _ _ _ _ _ _ _ _
  repeat refine IW.seq ?_
  refine IW.cond rfl (fun hb => absurd hb (by decide)) (fun _ => ?_)
  repeat refine IW.seq ?_
  refine IW.region_seq tab_ok [some 11, some 8] rfl fun X K hX hK => ?_
  simp only [go_sem, if_true, if_false, reduceIte, Nat.reduceEqDiff, Nat.reduceAdd, Nat.reduceLT, Nat.reduceLeDiff, reduceCtorEq]
  refine hK _ _ ?_; clear hX hK X K
  show IW _ _ _ _ _ _ _ _
  repeat refine IW.seq ?_
  refine IW.cond rfl (fun hb => absurd hb (by decide)) (fun _ => ?_)
  repeat refine IW.seq ?_
  refine IW.region_seq tab_ok [some 13, some 12] rfl fun X K hX hK => ?_
  simp only [go_sem, if_true, if_false, reduceIte, Nat.reduceEqDiff, Nat.reduceAdd, Nat.reduceLT, Nat.reduceLeDiff, reduceCtorEq]
  refine hK _ _ ?_; clear hX hK X K
  show IW _ _ _ _ _ _ _ _
  repeat refine IW.seq ?_
  refine IW.cond rfl (fun _ => ?_) (fun hb => absurd hb (by decide))
  repeat refine IW.seq ?_
  refine IW.region_seq tab_ok [some 2, some 3] rfl fun X K hX hK => ?_
  simp only [go_sem, if_true, if_false, reduceIte, Nat.reduceEqDiff, Nat.reduceAdd, Nat.reduceLT, Nat.reduceLeDiff, reduceCtorEq]
  refine hK _ _ ?_; clear hX hK X K
  show IW _ _ _ _ _ _ _ _
  refine IW.ret ⟨⟨trivial, trivial, trivial⟩, rfl, rfl, [], rfl, List.nodup_nil, ?_, trivial⟩
  simp [go_sem, if_true, if_false, reduceIte, Nat.reduceEqDiff, Nat.reduceAdd, Nat.reduceLT, Nat.reduceLeDiff, reduceCtorEq, resAll, resSV]
theorem refSize_4 : FSpec Try.prog 14 [.int .i64 4] (.tup [.int .i64 3, .int .i64 5]) [] := by
  refine FSpec.intro tab_ok Try.func14 rfl rfl rfl (by kernel_rfl) (by simp) fun w0 => ?_
  simp only [argTM, Nat.zero_add, Nat.reduceAdd]
  repeat refine IW.seq ?_
  refine IW.region_seq tab_ok [some 2, some 3] rfl fun X K hX hK => ?_
  simp only [go_sem, if_true, if_false, reduceIte, Nat.reduceEqDiff, Nat.reduceAdd, Nat.reduceLT, Nat.reduceLeDiff, reduceCtorEq]
  refine hK _ _ ?_; clear hX hK X K
  show IW _ _ _ _ _ _ _ _
  repeat refine IW.seq ?_
  refine IW.region_seq tab_ok [some 4] rfl fun X K hX hK => ?_
  simp only [go_sem, if_true, if_false, reduceIte, Nat.reduceEqDiff, Nat.reduceAdd, Nat.reduceLT, Nat.reduceLeDiff, reduceCtorEq]
  refine hK _ _ ?_; clear hX hK X K
  show IW _ _ _ _ _ _ _ _
  repeat refine IW.seq ?_
  refine IW.block ?_
  repeat refine IW.seq ?_
  refine IW.region_seq tab_ok [some 6, some 5] rfl fun X K hX hK => ?_
  simp only [go_sem, if_true, if_false, reduceIte, Nat.reduceEqDiff, Nat.reduceAdd, Nat.reduceLT, Nat.reduceLeDiff, reduceCtorEq]
  refine hK _ _ ?_; clear hX hK X K
  show IW _ _ _ _ _ _ _ _
  repeat refine IW.seq ?_
  refine IW.cond rfl (fun hb => absurd hb (by decide)) (fun _ => ?_)
  repeat refine IW.seq ?_
  refine IW.region_seq tab_ok [some 7, some 5] rfl fun X K hX hK => ?_
  simp only [go_sem, if_true, if_false, reduceIte, Nat.reduceEqDiff, Nat.reduceAdd, Nat.reduceLT, Nat.reduceLeDiff, reduceCtorEq]
  refine hK _ _ ?_; clear hX hK X K
  show IW _ _ _ _ _ _ _ _
  repeat refine IW.seq ?_
  refine IW.cond rfl (fun hb => absurd hb (by decide)) (fun _ => ?_)
  repeat refine IW.seq ?_
  refine IW.region_seq tab_ok [some 9, some 8] rfl fun X K hX hK => ?_
  simp only [go_sem, if_true, if_false, reduceIte, Nat.reduceEqDiff, Nat.reduceAdd, Nat.reduceLT, Nat.reduceLeDiff, reduceCtorEq]
  refine hK _ _ ?_; clear hX hK X K
  show IW _ _ _ _ _ _ _ _
  repeat refine IW.seq ?_
  refine IW.cond rfl (fun hb => absurd hb (by decide)) (fun _ => ?_)
  repeat refine IW.seq ?_
  refine IW.region_seq tab_ok [some 10, some 8] rfl fun X K hX hK => ?_
  simp only [go_sem, if_true, if_false, reduceIte, Nat.reduceEqDiff, Nat.reduceAdd, Nat.reduceLT, Nat.reduceLeDiff, reduceCtorEq]
  refine hK _ _ ?_; clear hX hK X K
  show IW _ _ _ _ _ _ _ _
  repeat refine IW.seq ?_
  refine IW.cond rfl (fun hb => absurd hb (by decide)) (fun _ => ?_)
  repeat refine IW.seq ?_
  refine IW.region_seq tab_ok [some 11, some 8] rfl fun X K hX hK => ?_
  simp only [go_sem, if_true, if_false, reduceIte, Nat.reduceEqDiff, Nat.reduceAdd, Nat.reduceLT, Nat.reduceLeDiff, reduceCtorEq]
  refine hK _ _ ?_; clear hX hK X K
  show IW _ _ _ _ _ _ _ _
  repeat refine IW.seq ?_
  refine IW.cond rfl (fun hb => absurd hb (by decide)) (fun _ => ?_)
  repeat refine IW.seq ?_
  refine IW.region_seq tab_ok [some 13, some 12] rfl fun X K hX hK => ?_
  simp only [go_sem, if_true, if_false, reduceIte, Nat.reduceEqDiff, Nat.reduceAdd, Nat.reduceLT, Nat.reduceLeDiff, reduceCtorEq]
  refine hK _ _ ?_; clear hX hK X K
  show IW _ _ _ _ _ _ _ _
  repeat refine IW.seq ?_
  refine IW.cond rfl (fun hb => absurd hb (by decide)) (fun _ => ?_)
  repeat refine IW.seq ?_
  refine IW.region_seq tab_ok [some 15, some 14] rfl fun X K hX hK => ?_
  simp only [go_sem, if_true, if_false, reduceIte, Nat.reduceEqDiff, Nat.reduceAdd, Nat.reduceLT, Nat.reduceLeDiff, reduceCtorEq]
  refine hK _ _ ?_; clear hX hK X K
  show IW _ _ _ _ _ _ _ _
  repeat refine IW.seq ?_
  refine IW.cond rfl (fun _ => ?_) (fun hb => absurd hb (by decide))
  repeat refine IW.seq ?_
  refine IW.region_seq tab_ok [some 2, some 3] rfl fun X K hX hK => ?_
  simp only [go_sem, if_true, if_false, reduceIte, Nat.reduceEqDiff, Nat.reduceAdd, Nat.reduceLT, Nat.reduceLeDiff, reduceCtorEq]
  refine hK _ _ ?_; clear hX hK X K
  show IW _ _ _ _ _ _ _ _
  refine IW.ret ⟨⟨trivial, trivial, trivial⟩, rfl, rfl, [], rfl, List.nodup_nil, ?_, trivial⟩
  simp [go_sem, if_true, if_false, reduceIte, Nat.reduceEqDiff, Nat.reduceAdd, Nat.reduceLT, Nat.reduceLeDiff, reduceCtorEq, resAll, resSV]
theorem refSize_5 : FSpec Try.prog 14 [.int .i64 5] (.tup [.int .i64 6, .int .i64 7]) [] := by
  refine FSpec.intro tab_ok Try.func14 rfl rfl rfl (by kernel_rfl) (by simp) fun w0 => ?_
  simp only [argTM, Nat.zero_add, Nat.reduceAdd]
  repeat refine IW.seq ?_
  refine IW.region_seq tab_ok [some 2, some 3] rfl fun X K hX hK => ?_
  simp only [go_sem, if_true, if_false, reduceIte, Nat.reduceEqDiff, Nat.reduceAdd, Nat.reduceLT, Nat.reduceLeDiff, reduceCtorEq]
  refine hK _ _ ?_; clear hX hK X K
  show IW _ _ _ _ _ _ _ _
  repeat refine IW.seq ?_
  refine IW.region_seq tab_ok [some 4] rfl fun X K hX hK => ?_
  simp only [go_sem, if_true, if_false, reduceIte, Nat.reduceEqDiff, Nat.reduceAdd, Nat.reduceLT, Nat.reduceLeDiff, reduceCtorEq]
  refine hK _ _ ?_; clear hX hK X K
  show IW _ _ _ _ _ _ _ _
  repeat refine IW.seq ?_
  refine IW.block ?_
  repeat refine IW.seq ?_
  refine IW.region_seq tab_ok [some 6, some 5] rfl fun X K hX hK => ?_
  simp only [go_sem, if_true, if_false, reduceIte, Nat.reduceEqDiff, Nat.reduceAdd, Nat.reduceLT, Nat.reduceLeDiff, reduceCtorEq]
  refine hK _ _ ?_; clear hX hK X K
  show IW _ _ _ _ _ _ _ _
  repeat refine IW.seq ?_
  refine IW.cond rfl (fun hb => absurd hb (by decide)) (fun _ => ?_)
  repeat refine IW.seq ?_
  refine IW.region_seq tab_ok [some 7, some 5] rfl fun X K hX hK => ?_
  simp only [go_sem, if_true, if_false, reduceIte, Nat.reduceEqDiff, Nat.reduceAdd, Nat.reduceLT, Nat.reduceLeDiff, reduceCtorEq]
  refine hK _ _ ?_; clear hX hK X K
  show IW _ _ _ _ _ _ _ _
  repeat refine IW.seq ?_
  refine IW.cond rfl (fun hb => absurd hb (by decide)) (fun _ => ?_)
  repeat refine IW.seq ?_
  refine IW.region_seq tab_ok [some 9, some 8] rfl fun X K hX hK => ?_
  simp only [go_sem, if_true, if_false, reduceIte, Nat.reduceEqDiff, Nat.reduceAdd, Nat.reduceLT, Nat.reduceLeDiff, reduceCtorEq]
  refine hK _ _ ?_; clear hX hK X K
  show IW _ _ _ _ _ _ _ _
  repeat refine IW.seq ?_
  refine IW.cond rfl (fun hb => absurd hb (by decide)) (fun _ => ?_)
  repeat refine IW.seq ?_
  refine IW.region_seq tab_ok [some 10, some 8] rfl fun X K hX hK => ?_
  simp only [go_sem, if_true, if_false, reduceIte, Nat.reduceEqDiff, Nat.reduceAdd, Nat.reduceLT, Nat.reduceLeDiff, reduceCtorEq]
  refine hK _ _ ?_; clear hX hK X K
  show IW _ _ _ _ _ _ _ _
  repeat refine IW.seq ?_
  refine IW.cond rfl (fun hb => absurd hb (by decide)) (fun _ => ?_)
  repeat refine IW.seq ?_
  refine IW.region_seq tab_ok [some 11, some 8] rfl fun X K hX hK => ?_
  simp only [go_sem, if_true, if_false, reduceIte, Nat.reduceEqDiff, Nat.reduceAdd, Nat.reduceLT, Nat.reduceLeDiff, reduceCtorEq]
  refine hK _ _ ?_; clear hX hK X K
  show IW _ _ _ _ _ _ _ _
  repeat refine IW.seq ?_
  refine IW.cond rfl (fun hb => absurd hb (by decide)) (fun _ => ?_)
  repeat refine IW.seq ?_
  refine IW.region_seq tab_ok [some 13, some 12] rfl fun X K hX hK => ?_
  simp only [go_sem, if_true, if_false, reduceIte, Nat.reduceEqDiff, Nat.reduceAdd, Nat.reduceLT, Nat.reduceLeDiff, reduceCtorEq]
  refine hK _ _ ?_; clear hX hK X K
  show IW _ _ _ _ _ _ _ _
  repeat refine IW.seq ?_
  refine IW.cond rfl (fun hb => absurd hb (by decide)) (fun _ => ?_)
  repeat refine IW.seq ?_
  refine IW.region_seq tab_ok [some 15, some 14] rfl fun X K hX hK => ?_
  simp only [go_sem, if_true, if_false, reduceIte, Nat.reduceEqDiff, Nat.reduceAdd, Nat.reduceLT, Nat.reduceLeDiff, reduceCtorEq]
  refine hK _ _ ?_; clear hX hK X K
  show IW _ _ _ _ _ _ _ _
  repeat refine IW.seq ?_
  refine IW.cond rfl (fun hb => absurd hb (by decide)) (fun _ => ?_)
  repeat refine IW.seq ?_
  refine IW.region_seq tab_ok [some 17, some 16] rfl fun X K hX hK => ?_
  simp only [go_sem, if_true, if_false, reduceIte, Nat.reduceEqDiff, Nat.reduceAdd, Nat.reduceLT, Nat.reduceLeDiff, reduceCtorEq]
  refine hK _ _ ?_; clear hX hK X K
  show IW _ _ _ _ _ _ _ _
  repeat refine IW.seq ?_
  refine IW.cond rfl (fun _ => ?_) (fun hb => absurd hb (by decide))
  repeat refine IW.seq ?_
  refine IW.region_seq tab_ok [some 2, some 3] rfl fun X K hX hK => ?_
  simp only [go_sem, if_true, if_false, reduceIte, Nat.reduceEqDiff, Nat.reduceAdd, Nat.reduceLT, Nat.reduceLeDiff, reduceCtorEq]
  refine hK _ _ ?_; clear hX hK X K
  show IW _ _ _ _ _ _ _ _
  refine IW.ret ⟨⟨trivial, trivial, trivial⟩, rfl, rfl, [], rfl, List.nodup_nil, ?_, trivial⟩
  simp [go_sem, if_true, if_false, reduceIte, Nat.reduceEqDiff, Nat.reduceAdd, Nat.reduceLT, Nat.reduceLeDiff, reduceCtorEq, resAll, resSV]
theorem refSize_6 : FSpec Try.prog 14 [.int .i64 6] (.tup [.int .i64 6, .int .i64 5]) [] := by
  refine FSpec.intro tab_ok Try.func14 rfl rfl rfl (by kernel_rfl) (by simp) fun w0 => ?_
  simp only [argTM, Nat.zero_add, Nat.reduceAdd]
  repeat refine IW.seq ?_
  refine IW.region_seq tab_ok [some 2, some 3] rfl fun X K hX hK => ?_
  simp only [go_sem, if_true, if_false, reduceIte, Nat.reduceEqDiff, Nat.reduceAdd, Nat.reduceLT, Nat.reduceLeDiff, reduceCtorEq]
  refine hK _ _ ?_; clear hX hK X K
  show IW _ _ _ _ _ _ _ _
  repeat refine IW.seq ?_
  refine IW.region_seq tab_ok [some 4] rfl fun X K hX hK => ?_
  simp only [go_sem, if_true, if_false, reduceIte, Nat.reduceEqDiff, Nat.reduceAdd, Nat.reduceLT, Nat.reduceLeDiff, reduceCtorEq]
  refine hK _ _ ?_; clear hX hK X K
  show IW _ _ _ _ _ _ _ _
  repeat refine IW.seq ?_
  refine IW.block ?_
  repeat refine IW.seq ?_
  refine IW.region_seq tab_ok [some 6, some 5] rfl fun X K hX hK => ?_
  simp only [go_sem, if_true, if_false, reduceIte, Nat.reduceEqDiff, Nat.reduceAdd, Nat.reduceLT, Nat.reduceLeDiff, reduceCtorEq]
  refine hK _ _ ?_; clear hX hK X K
  show IW _ _ _ _ _ _ _ _
  repeat refine IW.seq ?_
  refine IW.cond rfl (fun hb => absurd hb (by decide)) (fun _ => ?_)
  repeat refine IW.seq ?_
  refine IW.region_seq tab_ok [some 7, some 5] rfl fun X K hX hK => ?_
  simp only [go_sem, if_true, if_false, reduceIte, Nat.reduceEqDiff, Nat.reduceAdd, Nat.reduceLT, Nat.reduceLeDiff, reduceCtorEq]
  refine hK _ _ ?_; clear hX hK X K
  show IW _ _ _ _ _ _ _ _
  repeat refine IW.seq ?_
  refine IW.cond rfl (fun _ => ?_) (fun hb => absurd hb (by decide))
  repeat refine IW.seq ?_
  refine IW.region_seq tab_ok [some 2, some 3] rfl fun X K hX hK => ?_
  simp only [go_sem, if_true, if_false, reduceIte, Nat.reduceEqDiff, Nat.reduceAdd, Nat.reduceLT, Nat.reduceLeDiff, reduceCtorEq]
  refine hK _ _ ?_; clear hX hK X K
  show IW _ _ _ _ _ _ _ _
  refine IW.ret ⟨⟨trivial, trivial, trivial⟩, rfl, rfl, [], rfl, List.nodup_nil, ?_, trivial⟩
  simp [go_sem, if_true, if_false, reduceIte, Nat.reduceEqDiff, Nat.reduceAdd, Nat.reduceLT, Nat.reduceLeDiff, reduceCtorEq, resAll, resSV]
theorem refSize_7 : FSpec Try.prog 14 [.int .i64 7] (.tup [.int .i64 4, .int .i64 5]) [] := by
  refine FSpec.intro tab_ok Try.func14 rfl rfl rfl (by kernel_rfl) (by simp) fun w0 => ?_
  simp only [argTM, Nat.zero_add, Nat.reduceAdd]
  repeat refine IW.seq ?_
  refine IW.region_seq tab_ok [some 2, some 3] rfl fun X K hX hK => ?_
  simp only [go_sem, if_true, if_false, reduceIte, Nat.reduceEqDiff, Nat.reduceAdd, Nat.reduceLT, Nat.reduceLeDiff, reduceCtorEq]
  refine hK _ _ ?_; clear hX hK X K
  show IW _ _ _ _ _ _ _ _
  repeat refine IW.seq ?_
  refine IW.region_seq tab_ok [some 4] rfl fun X K hX hK => ?_
  simp only [go_sem, if_true, if_false, reduceIte, Nat.reduceEqDiff, Nat.reduceAdd, Nat.reduceLT, Nat.reduceLeDiff, reduceCtorEq]
  refine hK _ _ ?_; clear hX hK X K
  show IW _ _ _ _ _ _ _ _
  repeat refine IW.seq ?_
  refine IW.block ?_
  repeat refine IW.seq ?_
  refine IW.region_seq tab_ok [some 6, some 5] rfl fun X K hX hK => ?_
  simp only [go_sem, if_true, if_false, reduceIte, Nat.reduceEqDiff, Nat.reduceAdd, Nat.reduceLT, Nat.reduceLeDiff, reduceCtorEq]
  refine hK _ _ ?_; clear hX hK X K
  show IW _ _ _ _ _ _ _ _
  repeat refine IW.seq ?_
  refine IW.cond rfl (fun hb => absurd hb (by decide)) (fun _ => ?_)
  repeat refine IW.seq ?_
  refine IW.region_seq tab_ok [some 7, some 5] rfl fun X K hX hK => ?_
  simp only [go_sem, if_true, if_false, reduceIte, Nat.reduceEqDiff, Nat.reduceAdd, Nat.reduceLT, Nat.reduceLeDiff, reduceCtorEq]
  refine hK _ _ ?_; clear hX hK X K
  show IW _ _ _ _ _ _ _ _
  repeat refine IW.seq ?_
  refine IW.cond rfl (fun hb => absurd hb (by decide)) (fun _ => ?_)
  repeat refine IW.seq ?_
  refine IW.region_seq tab_ok [some 9, some 8] rfl fun X K hX hK => ?_
  simp only [go_sem, if_true, if_false, reduceIte, Nat.reduceEqDiff, Nat.reduceAdd, Nat.reduceLT, Nat.reduceLeDiff, reduceCtorEq]
  refine hK _ _ ?_; clear hX hK X K
  show IW _ _ _ _ _ _ _ _
  repeat refine IW.seq ?_
  refine IW.cond rfl (fun hb => absurd hb (by decide)) (fun _ => ?_)
  repeat refine IW.seq ?_
  refine IW.region_seq tab_ok [some 10, some 8] rfl fun X K hX hK => ?_
  simp only [go_sem, if_true, if_false, reduceIte, Nat.reduceEqDiff, Nat.reduceAdd, Nat.reduceLT, Nat.reduceLeDiff, reduceCtorEq]
  refine hK _ _ ?_; clear hX hK X K
  show IW _ _ _ _ _ _ _ _
  repeat refine IW.seq ?_
  refine IW.cond rfl (fun _ => ?_) (fun hb => absurd hb (by decide))
  refine IW.skip ?_
  show IW _ _ _ _ _ _ _ _
  repeat refine IW.seq ?_
  refine IW.cond rfl (fun _ => ?_) (fun hb => absurd hb (by decide))
  repeat refine IW.seq ?_
  refine IW.region_seq tab_ok [some 2, some 3] rfl fun X K hX hK => ?_
  simp only [go_sem, if_true, if_false, reduceIte, Nat.reduceEqDiff, Nat.reduceAdd, Nat.reduceLT, Nat.reduceLeDiff, reduceCtorEq]
  refine hK _ _ ?_; clear hX hK X K
  show IW _ _ _ _ _ _ _ _
  refine IW.ret ⟨⟨trivial, trivial, trivial⟩, rfl, rfl, [], rfl, List.nodup_nil, ?_, trivial⟩
  simp [go_sem, if_true, if_false, reduceIte, Nat.reduceEqDiff, Nat.reduceAdd, Nat.reduceLT, Nat.reduceLeDiff, reduceCtorEq, resAll, resSV]
theorem refSize_8 : FSpec Try.prog 14 [.int .i64 8] (.tup [.int .i64 4, .int .i64 5]) [] := by
  refine FSpec.intro tab_ok Try.func14 rfl rfl rfl (by kernel_rfl) (by simp) fun w0 => ?_
  simp only [argTM, Nat.zero_add, Nat.reduceAdd]
  repeat refine IW.seq ?_
  refine IW.region_seq tab_ok [some 2, some 3] rfl fun X K hX hK => ?_
  simp only [go_sem, if_true, if_false, reduceIte, Nat.reduceEqDiff, Nat.reduceAdd, Nat.reduceLT, Nat.reduceLeDiff, reduceCtorEq]
  refine hK _ _ ?_; clear hX hK X K
  show IW _ _ _ _ _ _ _ _
  repeat refine IW.seq ?_
  refine IW.region_seq tab_ok [some 4] rfl fun X K hX hK => ?_
  simp only [go_sem, if_true, if_false, reduceIte, Nat.reduceEqDiff, Nat.reduceAdd, Nat.reduceLT, Nat.reduceLeDiff, reduceCtorEq]
  refine hK _ _ ?_; clear hX hK X K
  show IW _ _ _ _ _ _ _ _
  repeat refine IW.seq ?_
  refine IW.block ?_
  repeat refine IW.seq ?_
  refine IW.region_seq tab_ok [some 6, some 5] rfl fun X K hX hK => ?_
  simp only [go_sem, if_true, if_false, reduceIte, Nat.reduceEqDiff, Nat.reduceAdd, Nat.reduceLT, Nat.reduceLeDiff, reduceCtorEq]
  refine hK _ _ ?_; clear hX hK X K
  show IW _ _ _ _ _ _ _ _
  repeat refine IW.seq ?_
  refine IW.cond rfl (fun hb => absurd hb (by decide)) (fun _ => ?_)
  repeat refine IW.seq ?_
  refine IW.region_seq tab_ok [some 7, some 5] rfl fun X K hX hK => ?_
  simp only [go_sem, if_true, if_false, reduceIte, Nat.reduceEqDiff, Nat.reduceAdd, Nat.reduceLT, Nat.reduceLeDiff, reduceCtorEq]
  refine hK _ _ ?_; clear hX hK X K
  show IW _ _ _ _ _ _ _ _
  repeat refine IW.seq ?_
  refine IW.cond rfl (fun hb => absurd hb (by decide)) (fun _ => ?_)
  repeat refine IW.seq ?_
  refine IW.region_seq tab_ok [some 9, some 8] rfl fun X K hX hK => ?_
  simp only [go_sem, if_true, if_false, reduceIte, Nat.reduceEqDiff, Nat.reduceAdd, Nat.reduceLT, Nat.reduceLeDiff, reduceCtorEq]
  refine hK _ _ ?_; clear hX hK X K
  show IW _ _ _ _ _ _ _ _
  repeat refine IW.seq ?_
  refine IW.cond rfl (fun hb => absurd hb (by decide)) (fun _ => ?_)
  repeat refine IW.seq ?_
  refine IW.region_seq tab_ok [some 10, some 8] rfl fun X K hX hK => ?_
  simp only [go_sem, if_true, if_false, reduceIte, Nat.reduceEqDiff, Nat.reduceAdd, Nat.reduceLT, Nat.reduceLeDiff, reduceCtorEq]
  refine hK _ _ ?_; clear hX hK X K
  show IW _ _ _ _ _ _ _ _
  repeat refine IW.seq ?_
  refine IW.cond rfl (fun hb => absurd hb (by decide)) (fun _ => ?_)
  repeat refine IW.seq ?_
  refine IW.region_seq tab_ok [some 11, some 8] rfl fun X K hX hK => ?_
  simp only [go_sem, if_true, if_false, reduceIte, Nat.reduceEqDiff, Nat.reduceAdd, Nat.reduceLT, Nat.reduceLeDiff, reduceCtorEq]
  refine hK _ _ ?_; clear hX hK X K
  show IW _ _ _ _ _ _ _ _
  repeat refine IW.seq ?_
  refine IW.cond rfl (fun _ => ?_) (fun hb => absurd hb (by decide))
  repeat refine IW.seq ?_
  refine IW.region_seq tab_ok [some 2, some 3] rfl fun X K hX hK => ?_
  simp only [go_sem, if_true, if_false, reduceIte, Nat.reduceEqDiff, Nat.reduceAdd, Nat.reduceLT, Nat.reduceLeDiff, reduceCtorEq]
  refine hK _ _ ?_; clear hX hK X K
  show IW _ _ _ _ _ _ _ _
  refine IW.ret ⟨⟨trivial, trivial, trivial⟩, rfl, rfl, [], rfl, List.nodup_nil, ?_, trivial⟩
  simp [go_sem, if_true, if_false, reduceIte, Nat.reduceEqDiff, Nat.reduceAdd, Nat.reduceLT, Nat.reduceLeDiff, reduceCtorEq, resAll, resSV]
theorem refSize_9 : FSpec Try.prog 14 [.int .i64 9] (.tup [.int .i64 10, .int .i64 25]) [] := by
  refine FSpec.intro tab_ok Try.func14 rfl rfl rfl (by kernel_rfl) (by simp) fun w0 => ?_
  simp only [argTM, Nat.zero_add, Nat.reduceAdd]
  repeat refine IW.seq ?_
  refine IW.region_seq tab_ok [some 2, some 3] rfl fun X K hX hK => ?_
  simp only [go_sem, if_true, if_false, reduceIte, Nat.reduceEqDiff, Nat.reduceAdd, Nat.reduceLT, Nat.reduceLeDiff, reduceCtorEq]
  refine hK _ _ ?_; clear hX hK X K
  show IW _ _ _ _ _ _ _ _
  repeat refine IW.seq ?_
  refine IW.region_seq tab_ok [some 4] rfl fun X K hX hK => ?_
  simp only [go_sem, if_true, if_false, reduceIte, Nat.reduceEqDiff, Nat.reduceAdd, Nat.reduceLT, Nat.reduceLeDiff, reduceCtorEq]
  refine hK _ _ ?_; clear hX hK X K
  show IW _ _ _ _ _ _ _ _
  repeat refine IW.seq ?_
  refine IW.block ?_
  repeat refine IW.seq ?_
  refine IW.region_seq tab_ok [some 6, some 5] rfl fun X K hX hK => ?_
  simp only [go_sem, if_true, if_false, reduceIte, Nat.reduceEqDiff, Nat.reduceAdd, Nat.reduceLT, Nat.reduceLeDiff, reduceCtorEq]
  refine hK _ _ ?_; clear hX hK X K
  show IW _ _ _ _ _ _ _ _
  repeat refine IW.seq ?_
  refine IW.cond rfl (fun hb => absurd hb (by decide)) (fun _ => ?_)
  repeat refine IW.seq ?_
  refine IW.region_seq tab_ok [some 7, some 5] rfl fun X K hX hK => ?_
  simp only [go_sem, if_true, if_false, reduceIte, Nat.reduceEqDiff, Nat.reduceAdd, Nat.reduceLT, Nat.reduceLeDiff, reduceCtorEq]
  refine hK _ _ ?_; clear hX hK X K
  show IW _ _ _ _ _ _ _ _
  repeat refine IW.seq ?_
  refine IW.cond rfl (fun hb => absurd hb (by decide)) (fun _ => ?_)
  repeat refine IW.seq ?_
  refine IW.region_seq tab_ok [some 9, some 8] rfl fun X K hX hK => ?_
  simp only [go_sem, if_true, if_false, reduceIte, Nat.reduceEqDiff, Nat.reduceAdd, Nat.reduceLT, Nat.reduceLeDiff, reduceCtorEq]
  refine hK _ _ ?_; clear hX hK X K
  show IW _ _ _ _ _ _ _ _
  repeat refine IW.seq ?_
  refine IW.cond rfl (fun hb => absurd hb (by decide)) (fun _ => ?_)
  repeat refine IW.seq ?_
  refine IW.region_seq tab_ok [some 10, some 8] rfl fun X K hX hK => ?_
  simp only [go_sem, if_true, if_false, reduceIte, Nat.reduceEqDiff, Nat.reduceAdd, Nat.reduceLT, Nat.reduceLeDiff, reduceCtorEq]
  refine hK _ _ ?_; clear hX hK X K
  show IW _ _ _ _ _ _ _ _
  repeat refine IW.seq ?_
  refine IW.cond rfl (fun hb => absurd hb (by decide)) (fun _ => ?_)
  repeat refine IW.seq ?_
  refine IW.region_seq tab_ok [some 11, some 8] rfl fun X K hX hK => ?_
  simp only [go_sem, if_true, if_false, reduceIte, Nat.reduceEqDiff, Nat.reduceAdd, Nat.reduceLT, Nat.reduceLeDiff, reduceCtorEq]
  refine hK _ _ ?_; clear hX hK X K
  show IW _ _ _ _ _ _ _ _
  repeat refine IW.seq ?_
  refine IW.cond rfl (fun hb => absurd hb (by decide)) (fun _ => ?_)
  repeat refine IW.seq ?_
  refine IW.region_seq tab_ok [some 13, some 12] rfl fun X K hX hK => ?_
  simp only [go_sem, if_true, if_false, reduceIte, Nat.reduceEqDiff, Nat.reduceAdd, Nat.reduceLT, Nat.reduceLeDiff, reduceCtorEq]
  refine hK _ _ ?_; clear hX hK X K
  show IW _ _ _ _ _ _ _ _
  repeat refine IW.seq ?_
  refine IW.cond rfl (fun hb => absurd hb (by decide)) (fun _ => ?_)
  repeat refine IW.seq ?_
  refine IW.region_seq tab_ok [some 15, some 14] rfl fun X K hX hK => ?_
  simp only [go_sem, if_true, if_false, reduceIte, Nat.reduceEqDiff, Nat.reduceAdd, Nat.reduceLT, Nat.reduceLeDiff, reduceCtorEq]
  refine hK _ _ ?_; clear hX hK X K
  show IW _ _ _ _ _ _ _ _
  repeat refine IW.seq ?_
  refine IW.cond rfl (fun hb => absurd hb (by decide)) (fun _ => ?_)
  repeat refine IW.seq ?_
  refine IW.region_seq tab_ok [some 17, some 16] rfl fun X K hX hK => ?_
  simp only [go_sem, if_true, if_false, reduceIte, Nat.reduceEqDiff, Nat.reduceAdd, Nat.reduceLT, Nat.reduceLeDiff, reduceCtorEq]
  refine hK _ _ ?_; clear hX hK X K
  show IW _ _ _ _ _ _ _ _
  repeat refine IW.seq ?_
  refine IW.cond rfl (fun hb => absurd hb (by decide)) (fun _ => ?_)
  repeat refine IW.seq ?_
  refine IW.region_seq tab_ok [some 19, some 18] rfl fun X K hX hK => ?_
  simp only [go_sem, if_true, if_false, reduceIte, Nat.reduceEqDiff, Nat.reduceAdd, Nat.reduceLT, Nat.reduceLeDiff, reduceCtorEq]
  refine hK _ _ ?_; clear hX hK X K
  show IW _ _ _ _ _ _ _ _
  repeat refine IW.seq ?_
  refine IW.cond rfl (fun _ => ?_) (fun hb => absurd hb (by decide))
  repeat refine IW.seq ?_
  refine IW.region_seq tab_ok [some 2, some 3] rfl fun X K hX hK => ?_
  simp only [go_sem, if_true, if_false, reduceIte, Nat.reduceEqDiff, Nat.reduceAdd, Nat.reduceLT, Nat.reduceLeDiff, reduceCtorEq]
  refine hK _ _ ?_; clear hX hK X K
  show IW _ _ _ _ _ _ _ _
  refine IW.ret ⟨⟨trivial, trivial, trivial⟩, rfl, rfl, [], rfl, List.nodup_nil, ?_, trivial⟩
  simp [go_sem, if_true, if_false, reduceIte, Nat.reduceEqDiff, Nat.reduceAdd, Nat.reduceLT, Nat.reduceLeDiff, reduceCtorEq, resAll, resSV]
theorem refSize_10 : FSpec Try.prog 14 [.int .i64 10] (.tup [.int .i64 2, .int .i64 4]) [] := by
  refine FSpec.intro tab_ok Try.func14 rfl rfl rfl (by kernel_rfl) (by simp) fun w0 => ?_
  simp only [argTM, Nat.zero_add, Nat.reduceAdd]
  repeat refine IW.seq ?_
  refine IW.region_seq tab_ok [some 2, some 3] rfl fun X K hX hK => ?_
  simp only [go_sem, if_true, if_false, reduceIte, Nat.reduceEqDiff, Nat.reduceAdd, Nat.reduceLT, Nat.reduceLeDiff, reduceCtorEq]
  refine hK _ _ ?_; clear hX hK X K
  show IW _ _ _ _ _ _ _ _
  repeat refine IW.seq ?_
  refine IW.region_seq tab_ok [some 4] rfl fun X K hX hK => ?_
  simp only [go_sem, if_true, if_false, reduceIte, Nat.reduceEqDiff, Nat.reduceAdd, Nat.reduceLT, Nat.reduceLeDiff, reduceCtorEq]
  refine hK _ _ ?_; clear hX hK X K
  show IW _ _ _ _ _ _ _ _
  repeat refine IW.seq ?_
  refine IW.block ?_
  repeat refine IW.seq ?_
  refine IW.region_seq tab_ok [some 6, some 5] rfl fun X K hX hK => ?_
  simp only [go_sem, if_true, if_false, reduceIte, Nat.reduceEqDiff, Nat.reduceAdd, Nat.reduceLT, Nat.reduceLeDiff, reduceCtorEq]
  refine hK _ _ ?_; clear hX hK X K
  show IW _ _ _ _ _ _ _ _
  repeat refine IW.seq ?_
  refine IW.cond rfl (fun hb => absurd hb (by decide)) (fun _ => ?_)
  repeat refine IW.seq ?_
  refine IW.region_seq tab_ok [some 7, some 5] rfl fun X K hX hK => ?_
  simp only [go_sem, if_true, if_false, reduceIte, Nat.reduceEqDiff, Nat.reduceAdd, Nat.reduceLT, Nat.reduceLeDiff, reduceCtorEq]
  refine hK _ _ ?_; clear hX hK X K
  show IW _ _ _ _ _ _ _ _
  repeat refine IW.seq ?_
  refine IW.cond rfl (fun hb => absurd hb (by decide)) (fun _ => ?_)
  repeat refine IW.seq ?_
  refine IW.region_seq tab_ok [some 9, some 8] rfl fun X K hX hK => ?_
  simp only [go_sem, if_true, if_false, reduceIte, Nat.reduceEqDiff, Nat.reduceAdd, Nat.reduceLT, Nat.reduceLeDiff, reduceCtorEq]
  refine hK _ _ ?_; clear hX hK X K
  show IW _ _ _ _ _ _ _ _
  repeat refine IW.seq ?_
  refine IW.cond rfl (fun hb => absurd hb (by decide)) (fun _ => ?_)
  repeat refine IW.seq ?_
  refine IW.region_seq tab_ok [some 10, some 8] rfl fun X K hX hK => ?_
  simp only [go_sem, if_true, if_false, reduceIte, Nat.reduceEqDiff, Nat.reduceAdd, Nat.reduceLT, Nat.reduceLeDiff, reduceCtorEq]
  refine hK _ _ ?_; clear hX hK X K
  show IW _ _ _ _ _ _ _ _
  repeat refine IW.seq ?_
  refine IW.cond rfl (fun hb => absurd hb (by decide)) (fun _ => ?_)
  repeat refine IW.seq ?_
  refine IW.region_seq tab_ok [some 11, some 8] rfl fun X K hX hK => ?_
  simp only [go_sem, if_true, if_false, reduceIte, Nat.reduceEqDiff, Nat.reduceAdd, Nat.reduceLT, Nat.reduceLeDiff, reduceCtorEq]
  refine hK _ _ ?_; clear hX hK X K
  show IW _ _ _ _ _ _ _ _
  repeat refine IW.seq ?_
  refine IW.cond rfl (fun hb => absurd hb (by decide)) (fun _ => ?_)
  repeat refine IW.seq ?_
  refine IW.region_seq tab_ok [some 13, some 12] rfl fun X K hX hK => ?_
  simp only [go_sem, if_true, if_false, reduceIte, Nat.reduceEqDiff, Nat.reduceAdd, Nat.reduceLT, Nat.reduceLeDiff, reduceCtorEq]
  refine hK _ _ ?_; clear hX hK X K
  show IW _ _ _ _ _ _ _ _
  repeat refine IW.seq ?_
  refine IW.cond rfl (fun hb => absurd hb (by decide)) (fun _ => ?_)
  repeat refine IW.seq ?_
  refine IW.region_seq tab_ok [some 15, some 14] rfl fun X K hX hK => ?_
  simp only [go_sem, if_true, if_false, reduceIte, Nat.reduceEqDiff, Nat.reduceAdd, Nat.reduceLT, Nat.reduceLeDiff, reduceCtorEq]
  refine hK _ _ ?_; clear hX hK X K
  show IW _ _ _ _ _ _ _ _
  repeat refine IW.seq ?_
  refine IW.cond rfl (fun hb => absurd hb (by decide)) (fun _ => ?_)
  repeat refine IW.seq ?_
  refine IW.region_seq tab_ok [some 17, some 16] rfl fun X K hX hK => ?_
  simp only [go_sem, if_true, if_false, reduceIte, Nat.reduceEqDiff, Nat.reduceAdd, Nat.reduceLT, Nat.reduceLeDiff, reduceCtorEq]
  refine hK _ _ ?_; clear hX hK X K
  show IW _ _ _ _ _ _ _ _
  repeat refine IW.seq ?_
  refine IW.cond rfl (fun hb => absurd hb (by decide)) (fun _ => ?_)
  repeat refine IW.seq ?_
  refine IW.region_seq tab_ok [some 19, some 18] rfl fun X K hX hK => ?_
  simp only [go_sem, if_true, if_false, reduceIte, Nat.reduceEqDiff, Nat.reduceAdd, Nat.reduceLT, Nat.reduceLeDiff, reduceCtorEq]
  refine hK _ _ ?_; clear hX hK X K
  show IW _ _ _ _ _ _ _ _
  repeat refine IW.seq ?_
  refine IW.cond rfl (fun hb => absurd hb (by decide)) (fun _ => ?_)
  repeat refine IW.seq ?_
  refine IW.region_seq tab_ok [some 21, some 20] rfl fun X K hX hK => ?_
  simp only [go_sem, if_true, if_false, reduceIte, Nat.reduceEqDiff, Nat.reduceAdd, Nat.reduceLT, Nat.reduceLeDiff, reduceCtorEq]
  refine hK _ _ ?_; clear hX hK X K
  show IW _ _ _ _ _ _ _ _
  repeat refine IW.seq ?_
  refine IW.cond rfl (fun _ => ?_) (fun hb => absurd hb (by decide))
  repeat refine IW.seq ?_
  refine IW.region_seq tab_ok [some 2, some 3] rfl fun X K hX hK => ?_
  simp only [go_sem, if_true, if_false, reduceIte, Nat.reduceEqDiff, Nat.reduceAdd, Nat.reduceLT, Nat.reduceLeDiff, reduceCtorEq]
  refine hK _ _ ?_; clear hX hK X K
  show IW _ _ _ _ _ _ _ _
  refine IW.ret ⟨⟨trivial, trivial, trivial⟩, rfl, rfl, [], rfl, List.nodup_nil, ?_, trivial⟩
  simp [go_sem, if_true, if_false, reduceIte, Nat.reduceEqDiff, Nat.reduceAdd, Nat.reduceLT, Nat.reduceLeDiff, reduceCtorEq, resAll, resSV]
theorem refSize_N (s : Int) (h : ∀ k : Int, 1 ≤ k → k ≤ 10 → s ≠ k) : FSpec Try.prog 14 [.int .i64 s] (.tup [.int .i64 0, .int .i64 0]) [] := by
  have n1 : (s == 1) = false := by simpa using h 1 (by omega) (by omega)
  have n2 : (s == 2) = false := by simpa using h 2 (by omega) (by omega)
  have n3 : (s == 3) = false := by simpa using h 3 (by omega) (by omega)
  have n4 : (s == 4) = false := by simpa using h 4 (by omega) (by omega)
  have n5 : (s == 5) = false := by simpa using h 5 (by omega) (by omega)
  have n6 : (s == 6) = false := by simpa using h 6 (by omega) (by omega)
  have n7 : (s == 7) = false := by simpa using h 7 (by omega) (by omega)
  have n8 : (s == 8) = false := by simpa using h 8 (by omega) (by omega)
  have n9 : (s == 9) = false := by simpa using h 9 (by omega) (by omega)
  have n10 : (s == 10) = false := by simpa using h 10 (by omega) (by omega)
  refine FSpec.intro tab_ok Try.func14 rfl rfl rfl (by kernel_rfl) (by simp) fun w0 => ?_
  simp only [argTM, Nat.zero_add, Nat.reduceAdd]
  repeat refine IW.seq ?_
  refine IW.region_seq tab_ok [some 2, some 3] rfl fun X K hX hK => ?_
  simp only [go_sem, if_true, if_false, reduceIte, Nat.reduceEqDiff, Nat.reduceAdd, Nat.reduceLT, Nat.reduceLeDiff, reduceCtorEq, n1, n2, n3, n4, n5, n6, n7, n8, n9, n10]
  refine hK _ _ ?_; clear hX hK X K
  show IW _ _ _ _ _ _ _ _
  repeat refine IW.seq ?_
  refine IW.region_seq tab_ok [some 4] rfl fun X K hX hK => ?_
  simp only [go_sem, if_true, if_false, reduceIte, Nat.reduceEqDiff, Nat.reduceAdd, Nat.reduceLT, Nat.reduceLeDiff, reduceCtorEq, n1, n2, n3, n4, n5, n6, n7, n8, n9, n10]
  refine hK _ _ ?_; clear hX hK X K
  show IW _ _ _ _ _ _ _ _
  repeat refine IW.seq ?_
  refine IW.block ?_
  repeat refine IW.seq ?_
  refine IW.region_seq tab_ok [some 6, some 5] rfl fun X K hX hK => ?_
  simp only [go_sem, if_true, if_false, reduceIte, Nat.reduceEqDiff, Nat.reduceAdd, Nat.reduceLT, Nat.reduceLeDiff, reduceCtorEq, n1, n2, n3, n4, n5, n6, n7, n8, n9, n10]
  refine hK _ _ ?_; clear hX hK X K
  show IW _ _ _ _ _ _ _ _
  repeat refine IW.seq ?_
  refine IW.cond rfl (fun hb => absurd hb (by decide)) (fun _ => ?_)
  repeat refine IW.seq ?_
  refine IW.region_seq tab_ok [some 7, some 5] rfl fun X K hX hK => ?_
  simp only [go_sem, if_true, if_false, reduceIte, Nat.reduceEqDiff, Nat.reduceAdd, Nat.reduceLT, Nat.reduceLeDiff, reduceCtorEq, n1, n2, n3, n4, n5, n6, n7, n8, n9, n10]
  refine hK _ _ ?_; clear hX hK X K
  show IW _ _ _ _ _ _ _ _
  repeat refine IW.seq ?_
  refine IW.cond rfl (fun hb => absurd hb (by decide)) (fun _ => ?_)
  repeat refine IW.seq ?_
  refine IW.region_seq tab_ok [some 9, some 8] rfl fun X K hX hK => ?_
  simp only [go_sem, if_true, if_false, reduceIte, Nat.reduceEqDiff, Nat.reduceAdd, Nat.reduceLT, Nat.reduceLeDiff, reduceCtorEq, n1, n2, n3, n4, n5, n6, n7, n8, n9, n10]
  refine hK _ _ ?_; clear hX hK X K
  show IW _ _ _ _ _ _ _ _
  repeat refine IW.seq ?_
  refine IW.cond rfl (fun hb => absurd hb (by decide)) (fun _ => ?_)
  repeat refine IW.seq ?_
  refine IW.region_seq tab_ok [some 10, some 8] rfl fun X K hX hK => ?_
  simp only [go_sem, if_true, if_false, reduceIte, Nat.reduceEqDiff, Nat.reduceAdd, Nat.reduceLT, Nat.reduceLeDiff, reduceCtorEq, n1, n2, n3, n4, n5, n6, n7, n8, n9, n10]
  refine hK _ _ ?_; clear hX hK X K
  show IW _ _ _ _ _ _ _ _
  repeat refine IW.seq ?_
  refine IW.cond rfl (fun hb => absurd hb (by decide)) (fun _ => ?_)
  repeat refine IW.seq ?_
  refine IW.region_seq tab_ok [some 11, some 8] rfl fun X K hX hK => ?_
  simp only [go_sem, if_true, if_false, reduceIte, Nat.reduceEqDiff, Nat.reduceAdd, Nat.reduceLT, Nat.reduceLeDiff, reduceCtorEq, n1, n2, n3, n4, n5, n6, n7, n8, n9, n10]
  refine hK _ _ ?_; clear hX hK X K
  show IW _ _ _ _ _ _ _ _
  repeat refine IW.seq ?_
  refine IW.cond rfl (fun hb => absurd hb (by decide)) (fun _ => ?_)
  repeat refine IW.seq ?_
  refine IW.region_seq tab_ok [some 13, some 12] rfl fun X K hX hK => ?_
  simp only [go_sem, if_true, if_false, reduceIte, Nat.reduceEqDiff, Nat.reduceAdd, Nat.reduceLT, Nat.reduceLeDiff, reduceCtorEq, n1, n2, n3, n4, n5, n6, n7, n8, n9, n10]
  refine hK _ _ ?_; clear hX hK X K
  show IW _ _ _ _ _ _ _ _
  repeat refine IW.seq ?_
  refine IW.cond rfl (fun hb => absurd hb (by decide)) (fun _ => ?_)
  repeat refine IW.seq ?_
  refine IW.region_seq tab_ok [some 15, some 14] rfl fun X K hX hK => ?_
  simp only [go_sem, if_true, if_false, reduceIte, Nat.reduceEqDiff, Nat.reduceAdd, Nat.reduceLT, Nat.reduceLeDiff, reduceCtorEq, n1, n2, n3, n4, n5, n6, n7, n8, n9, n10]
  refine hK _ _ ?_; clear hX hK X K
  show IW _ _ _ _ _ _ _ _
  repeat refine IW.seq ?_
  refine IW.cond rfl (fun hb => absurd hb (by decide)) (fun _ => ?_)
  repeat refine IW.seq ?_
  refine IW.region_seq tab_ok [some 17, some 16] rfl fun X K hX hK => ?_
  simp only [go_sem, if_true, if_false, reduceIte, Nat.reduceEqDiff, Nat.reduceAdd, Nat.reduceLT, Nat.reduceLeDiff, reduceCtorEq, n1, n2, n3, n4, n5, n6, n7, n8, n9, n10]
  refine hK _ _ ?_; clear hX hK X K
  show IW _ _ _ _ _ _ _ _
  repeat refine IW.seq ?_
  refine IW.cond rfl (fun hb => absurd hb (by decide)) (fun _ => ?_)
  repeat refine IW.seq ?_
  refine IW.region_seq tab_ok [some 19, some 18] rfl fun X K hX hK => ?_
  simp only [go_sem, if_true, if_false, reduceIte, Nat.reduceEqDiff, Nat.reduceAdd, Nat.reduceLT, Nat.reduceLeDiff, reduceCtorEq, n1, n2, n3, n4, n5, n6, n7, n8, n9, n10]
  refine hK _ _ ?_; clear hX hK X K
  show IW _ _ _ _ _ _ _ _
  repeat refine IW.seq ?_
  refine IW.cond rfl (fun hb => absurd hb (by decide)) (fun _ => ?_)
  repeat refine IW.seq ?_
  refine IW.region_seq tab_ok [some 21, some 20] rfl fun X K hX hK => ?_
  simp only [go_sem, if_true, if_false, reduceIte, Nat.reduceEqDiff, Nat.reduceAdd, Nat.reduceLT, Nat.reduceLeDiff, reduceCtorEq, n1, n2, n3, n4, n5, n6, n7, n8, n9, n10]
  refine hK _ _ ?_; clear hX hK X K
  show IW _ _ _ _ _ _ _ _
  repeat refine IW.seq ?_
  refine IW.cond rfl (fun hb => absurd hb (by decide)) (fun _ => ?_)
  refine IW.skip ?_
  show IW _ _ _ _ _ _ _ _
  repeat refine IW.seq ?_
  refine IW.region_seq tab_ok [some 2, some 3] rfl fun X K hX hK => ?_
  simp only [go_sem, if_true, if_false, reduceIte, Nat.reduceEqDiff, Nat.reduceAdd, Nat.reduceLT, Nat.reduceLeDiff, reduceCtorEq, n1, n2, n3, n4, n5, n6, n7, n8, n9, n10]
  refine hK _ _ ?_; clear hX hK X K
  show IW _ _ _ _ _ _ _ _
  refine IW.ret ⟨⟨trivial, trivial, trivial⟩, rfl, rfl, [], rfl, List.nodup_nil, ?_, trivial⟩
  simp [go_sem, if_true, if_false, reduceIte, Nat.reduceEqDiff, Nat.reduceAdd, Nat.reduceLT, Nat.reduceLeDiff, reduceCtorEq, resAll, resSV]
theorem refVals_1 : FSpec Try.prog 52 [.int .i64 1] (.ref 0 0 3) [⟨1, 3, nums .i64 [1, 2, 3]⟩] := by
  refine FSpec.intro tab_ok Try.func52 rfl rfl rfl (by kernel_rfl) (by simp) fun w0 => ?_
  simp only [argTM, Nat.zero_add, Nat.reduceAdd]
  repeat refine IW.seq ?_
  refine IW.region_seq tab_ok [some 2] rfl fun X K hX hK => ?_
  simp only [go_sem, if_true, if_false, reduceIte, Nat.reduceEqDiff, Nat.reduceAdd, Nat.reduceLT, Nat.reduceLeDiff, reduceCtorEq]
  refine hK _ _ ?_; clear hX hK X K
  show IW _ _ _ _ _ _ _ _
  repeat refine IW.seq ?_
  refine IW.region_seq tab_ok [some 5] rfl fun X K hX hK => ?_
  simp only [go_sem, if_true, if_false, reduceIte, Nat.reduceEqDiff, Nat.reduceAdd, Nat.reduceLT, Nat.reduceLeDiff, reduceCtorEq]
  refine hK _ _ ?_; clear hX hK X K
  show IW _ _ _ _ _ _ _ _
  repeat refine IW.seq ?_
  refine IW.block ?_
  repeat refine IW.seq ?_
  refine IW.region_seq tab_ok [some 7, some 6] rfl fun X K hX hK => ?_
  simp only [go_sem, if_true, if_false, reduceIte, Nat.reduceEqDiff, Nat.reduceAdd, Nat.reduceLT, Nat.reduceLeDiff, reduceCtorEq]
  refine hK _ _ ?_; clear hX hK X K
  show IW _ _ _ _ _ _ _ _
  repeat refine IW.seq ?_
  refine IW.cond rfl (fun _ => ?_) (fun hb => absurd hb (by decide))
  refine IW.skip ?_
  show IW _ _ _ _ _ _ _ _
  repeat refine IW.seq ?_
  refine IW.cond rfl (fun _ => ?_) (fun hb => absurd hb (by decide))
  repeat refine IW.seq ?_
  refine IW.region_seq tab_ok [some 10, some 2] rfl fun X K hX hK => ?_
  simp only [go_sem, if_true, if_false, reduceIte, Nat.reduceEqDiff, Nat.reduceAdd, Nat.reduceLT, Nat.reduceLeDiff, reduceCtorEq]
  refine hX.quiet _ _ (OpG.of_B rfl (opB_buildSlice tab_ok rfl (by simp [go_sem, if_true, if_false, reduceIte, Nat.reduceEqDiff, Nat.reduceAdd, Nat.reduceLT, Nat.reduceLeDiff, reduceCtorEq]) (by simp [go_sem, if_true, if_false, reduceIte, Nat.reduceEqDiff, Nat.reduceAdd, Nat.reduceLT, Nat.reduceLeDiff, reduceCtorEq]) (by simp) (by simp [go_sem, if_true, if_false, reduceIte, Nat.reduceEqDiff, Nat.reduceAdd, Nat.reduceLT, Nat.reduceLeDiff, reduceCtorEq, bsO, List.map_cons, List.map_nil]))) ?_
  simp only [go_sem, if_true, if_false, reduceIte, Nat.reduceEqDiff, Nat.reduceAdd, Nat.reduceLT, Nat.reduceLeDiff, reduceCtorEq, List.map_cons, List.map_nil]
  refine hK _ _ ?_; clear hX hK X K
  show IW _ _ _ _ _ _ _ _
  refine IW.ret (Fin.tmp1 0 rfl (by simp [go_sem, if_true, if_false, reduceIte, Nat.reduceEqDiff, Nat.reduceAdd, Nat.reduceLT, Nat.reduceLeDiff, reduceCtorEq]) (by first | (simp [go_sem, if_true, if_false, reduceIte, Nat.reduceEqDiff, Nat.reduceAdd, Nat.reduceLT, Nat.reduceLeDiff, reduceCtorEq]; done) | simp [go_sem, if_true, if_false, reduceIte, Nat.reduceEqDiff, Nat.reduceAdd, Nat.reduceLT, Nat.reduceLeDiff, reduceCtorEq, nums]) (by first | (simp [go_sem, if_true, if_false, reduceIte, Nat.reduceEqDiff, Nat.reduceAdd, Nat.reduceLT, Nat.reduceLeDiff, reduceCtorEq]; done) | simp [go_sem, if_true, if_false, reduceIte, Nat.reduceEqDiff, Nat.reduceAdd, Nat.reduceLT, Nat.reduceLeDiff, reduceCtorEq, nums]))
theorem refVals_2 : FSpec Try.prog 52 [.int .i64 2] (.ref 0 0 3) [⟨1, 3, nums .i64 [1, 2, 3]⟩] := by
  refine FSpec.intro tab_ok Try.func52 rfl rfl rfl (by kernel_rfl) (by simp) fun w0 => ?_
  simp only [argTM, Nat.zero_add, Nat.reduceAdd]
  repeat refine IW.seq ?_
  refine IW.region_seq tab_ok [some 2] rfl fun X K hX hK => ?_
  simp only [go_sem, if_true, if_false, reduceIte, Nat.reduceEqDiff, Nat.reduceAdd, Nat.reduceLT, Nat.reduceLeDiff, reduceCtorEq]
  refine hK _ _ ?_; clear hX hK X K
  show IW _ _ _ _ _ _ _ _
  repeat refine IW.seq ?_
  refine IW.region_seq tab_ok [some 5] rfl fun X K hX hK => ?_
  simp only [go_sem, if_true, if_false, reduceIte, Nat.reduceEqDiff, Nat.reduceAdd, Nat.reduceLT, Nat.reduceLeDiff, reduceCtorEq]
  refine hK _ _ ?_; clear hX hK X K
  show IW _ _ _ _ _ _ _ _
  repeat refine IW.seq ?_
  refine IW.block ?_
  repeat refine IW.seq ?_
  refine IW.region_seq tab_ok [some 7, some 6] rfl fun X K hX hK => ?_
  simp only [go_sem, if_true, if_false, reduceIte, Nat.reduceEqDiff, Nat.reduceAdd, Nat.reduceLT, Nat.reduceLeDiff, reduceCtorEq]
  refine hK _ _ ?_; clear hX hK X K
  show IW _ _ _ _ _ _ _ _
  repeat refine IW.seq ?_
  refine IW.cond rfl (fun hb => absurd hb (by decide)) (fun _ => ?_)
  repeat refine IW.seq ?_
  refine IW.region_seq tab_ok [some 8, some 6] rfl fun X K hX hK => ?_
  simp only [go_sem, if_true, if_false, reduceIte, Nat.reduceEqDiff, Nat.reduceAdd, Nat.reduceLT, Nat.reduceLeDiff, reduceCtorEq]
  refine hK _ _ ?_; clear hX hK X K
  show IW _ _ _ _ _ _ _ _
  repeat refine IW.seq ?_
  refine IW.cond rfl (fun _ => ?_) (fun hb => absurd hb (by decide))
  refine IW.skip ?_
  show IW _ _ _ _ _ _ _ _
  repeat refine IW.seq ?_
  refine IW.cond rfl (fun _ => ?_) (fun hb => absurd hb (by decide))
  repeat refine IW.seq ?_
  refine IW.region_seq tab_ok [some 10, some 2] rfl fun X K hX hK => ?_
  simp only [go_sem, if_true, if_false, reduceIte, Nat.reduceEqDiff, Nat.reduceAdd, Nat.reduceLT, Nat.reduceLeDiff, reduceCtorEq]
  refine hX.quiet _ _ (OpG.of_B rfl (opB_buildSlice tab_ok rfl (by simp [go_sem, if_true, if_false, reduceIte, Nat.reduceEqDiff, Nat.reduceAdd, Nat.reduceLT, Nat.reduceLeDiff, reduceCtorEq]) (by simp [go_sem, if_true, if_false, reduceIte, Nat.reduceEqDiff, Nat.reduceAdd, Nat.reduceLT, Nat.reduceLeDiff, reduceCtorEq]) (by simp) (by simp [go_sem, if_true, if_false, reduceIte, Nat.reduceEqDiff, Nat.reduceAdd, Nat.reduceLT, Nat.reduceLeDiff, reduceCtorEq, bsO, List.map_cons, List.map_nil]))) ?_
  simp only [go_sem, if_true, if_false, reduceIte, Nat.reduceEqDiff, Nat.reduceAdd, Nat.reduceLT, Nat.reduceLeDiff, reduceCtorEq, List.map_cons, List.map_nil]
  refine hK _ _ ?_; clear hX hK X K
  show IW _ _ _ _ _ _ _ _
  refine IW.ret (Fin.tmp1 0 rfl (by simp [go_sem, if_true, if_false, reduceIte, Nat.reduceEqDiff, Nat.reduceAdd, Nat.reduceLT, Nat.reduceLeDiff, reduceCtorEq]) (by first | (simp [go_sem, if_true, if_false, reduceIte, Nat.reduceEqDiff, Nat.reduceAdd, Nat.reduceLT, Nat.reduceLeDiff, reduceCtorEq]; done) | simp [go_sem, if_true, if_false, reduceIte, Nat.reduceEqDiff, Nat.reduceAdd, Nat.reduceLT, Nat.reduceLeDiff, reduceCtorEq, nums]) (by first | (simp [go_sem, if_true, if_false, reduceIte, Nat.reduceEqDiff, Nat.reduceAdd, Nat.reduceLT, Nat.reduceLeDiff, reduceCtorEq]; done) | simp [go_sem, if_true, if_false, reduceIte, Nat.reduceEqDiff, Nat.reduceAdd, Nat.reduceLT, Nat.reduceLeDiff, reduceCtorEq, nums]))
theorem refVals_3 : FSpec Try.prog 52 [.int .i64 3] (.ref 0 0 1) [⟨1, 3, nums .i64 [1]⟩] := by
  refine FSpec.intro tab_ok Try.func52 rfl rfl rfl (by kernel_rfl) (by simp) fun w0 => ?_
  simp only [argTM, Nat.zero_add, Nat.reduceAdd]
  repeat refine IW.seq ?_
  refine IW.region_seq tab_ok [some 2] rfl fun X K hX hK => ?_
  simp only [go_sem, if_true, if_false, reduceIte, Nat.reduceEqDiff, Nat.reduceAdd, Nat.reduceLT, Nat.reduceLeDiff, reduceCtorEq]
  refine hK _ _ ?_; clear hX hK X K
  show IW _ _ _ _ _ _ _ _
  repeat refine IW.seq ?_
  refine IW.region_seq tab_ok [some 5] rfl fun X K hX hK => ?_
  simp only [go_sem, if_true, if_false, reduceIte, Nat.reduceEqDiff, Nat.reduceAdd, Nat.reduceLT, Nat.reduceLeDiff, reduceCtorEq]
  refine hK _ _ ?_; clear hX hK X K
  show IW _ _ _ _ _ _ _ _
  repeat refine IW.seq ?_
  refine IW.block ?_
  repeat refine IW.seq ?_
  refine IW.region_seq tab_ok [some 7, some 6] rfl fun X K hX hK => ?_
  simp only [go_sem, if_true, if_false, reduceIte, Nat.reduceEqDiff, Nat.reduceAdd, Nat.reduceLT, Nat.reduceLeDiff, reduceCtorEq]
  refine hK _ _ ?_; clear hX hK X K
  show IW _ _ _ _ _ _ _ _
  repeat refine IW.seq ?_
  refine IW.cond rfl (fun hb => absurd hb (by decide)) (fun _ => ?_)
  repeat refine IW.seq ?_
  refine IW.region_seq tab_ok [some 8, some 6] rfl fun X K hX hK => ?_
  simp only [go_sem, if_true, if_false, reduceIte, Nat.reduceEqDiff, Nat.reduceAdd, Nat.reduceLT, Nat.reduceLeDiff, reduceCtorEq]
  refine hK _ _ ?_; clear hX hK X K
  show IW _ _ _ _ _ _ _ _
  repeat refine IW.seq ?_
  refine IW.cond rfl (fun hb => absurd hb (by decide)) (fun _ => ?_)
  repeat refine IW.seq ?_
  refine IW.region_seq tab_ok [some 9, some 6] rfl fun X K hX hK => ?_
  simp only [go_sem, if_true, if_false, reduceIte, Nat.reduceEqDiff, Nat.reduceAdd, Nat.reduceLT, Nat.reduceLeDiff, reduceCtorEq]
  refine hK _ _ ?_; clear hX hK X K
  show IW _ _ _ _ _ _ _ _
  repeat refine IW.seq ?_
  refine IW.cond rfl (fun hb => absurd hb (by decide)) (fun _ => ?_)
  repeat refine IW.seq ?_
  refine IW.region_seq tab_ok [some 12, some 11] rfl fun X K hX hK => ?_
  simp only [go_sem, if_true, if_false, reduceIte, Nat.reduceEqDiff, Nat.reduceAdd, Nat.reduceLT, Nat.reduceLeDiff, reduceCtorEq]
  refine hK _ _ ?_; clear hX hK X K
  show IW _ _ _ _ _ _ _ _
  repeat refine IW.seq ?_
  refine IW.cond rfl (fun _ => ?_) (fun hb => absurd hb (by decide))
  refine IW.skip ?_
  show IW _ _ _ _ _ _ _ _
  repeat refine IW.seq ?_
  refine IW.cond rfl (fun _ => ?_) (fun hb => absurd hb (by decide))
  repeat refine IW.seq ?_
  refine IW.region_seq tab_ok [some 15, some 2] rfl fun X K hX hK => ?_
  simp only [go_sem, if_true, if_false, reduceIte, Nat.reduceEqDiff, Nat.reduceAdd, Nat.reduceLT, Nat.reduceLeDiff, reduceCtorEq]
  refine hX.quiet _ _ (OpG.of_B rfl (opB_buildSlice tab_ok rfl (by simp [go_sem, if_true, if_false, reduceIte, Nat.reduceEqDiff, Nat.reduceAdd, Nat.reduceLT, Nat.reduceLeDiff, reduceCtorEq]) (by simp [go_sem, if_true, if_false, reduceIte, Nat.reduceEqDiff, Nat.reduceAdd, Nat.reduceLT, Nat.reduceLeDiff, reduceCtorEq]) (by simp) (by simp [go_sem, if_true, if_false, reduceIte, Nat.reduceEqDiff, Nat.reduceAdd, Nat.reduceLT, Nat.reduceLeDiff, reduceCtorEq, bsO, List.map_cons, List.map_nil]))) ?_
  simp only [go_sem, if_true, if_false, reduceIte, Nat.reduceEqDiff, Nat.reduceAdd, Nat.reduceLT, Nat.reduceLeDiff, reduceCtorEq, List.map_cons, List.map_nil]
  refine hK _ _ ?_; clear hX hK X K
  show IW _ _ _ _ _ _ _ _
  refine IW.ret (Fin.tmp1 0 rfl (by simp [go_sem, if_true, if_false, reduceIte, Nat.reduceEqDiff, Nat.reduceAdd, Nat.reduceLT, Nat.reduceLeDiff, reduceCtorEq]) (by first | (simp [go_sem, if_true, if_false, reduceIte, Nat.reduceEqDiff, Nat.reduceAdd, Nat.reduceLT, Nat.reduceLeDiff, reduceCtorEq]; done) | simp [go_sem, if_true, if_false, reduceIte, Nat.reduceEqDiff, Nat.reduceAdd, Nat.reduceLT, Nat.reduceLeDiff, reduceCtorEq, nums]) (by first | (simp [go_sem, if_true, if_false, reduceIte, Nat.reduceEqDiff, Nat.reduceAdd, Nat.reduceLT, Nat.reduceLeDiff, reduceCtorEq]; done) | simp [go_sem, if_true, if_false, reduceIte, Nat.reduceEqDiff, Nat.reduceAdd, Nat.reduceLT, Nat.reduceLeDiff, reduceCtorEq, nums]))
theorem refVals_4 : FSpec Try.prog 52 [.int .i64 4] (.ref 0 0 1) [⟨1, 3, nums .i64 [1]⟩] := by
  refine FSpec.intro tab_ok Try.func52 rfl rfl rfl (by kernel_rfl) (by simp) fun w0 => ?_
  simp only [argTM, Nat.zero_add, Nat.reduceAdd]
  repeat refine IW.seq ?_
  refine IW.region_seq tab_ok [some 2] rfl fun X K hX hK => ?_
  simp only [go_sem, if_true, if_false, reduceIte, Nat.reduceEqDiff, Nat.reduceAdd, Nat.reduceLT, Nat.reduceLeDiff, reduceCtorEq]
  refine hK _ _ ?_; clear hX hK X K
  show IW _ _ _ _ _ _ _ _
  repeat refine IW.seq ?_
  refine IW.region_seq tab_ok [some 5] rfl fun X K hX hK => ?_
  simp only [go_sem, if_true, if_false, reduceIte, Nat.reduceEqDiff, Nat.reduceAdd, Nat.reduceLT, Nat.reduceLeDiff, reduceCtorEq]
  refine hK _ _ ?_; clear hX hK X K
  show IW _ _ _ _ _ _ _ _
  repeat refine IW.seq ?_
  refine IW.block ?_
  repeat refine IW.seq ?_
  refine IW.region_seq tab_ok [some 7, some 6] rfl fun X K hX hK => ?_
  simp only [go_sem, if_true, if_false, reduceIte, Nat.reduceEqDiff, Nat.reduceAdd, Nat.reduceLT, Nat.reduceLeDiff, reduceCtorEq]
  refine hK _ _ ?_; clear hX hK X K
  show IW _ _ _ _ _ _ _ _
  repeat refine IW.seq ?_
  refine IW.cond rfl (fun hb => absurd hb (by decide)) (fun _ => ?_)
  repeat refine IW.seq ?_
  refine IW.region_seq tab_ok [some 8, some 6] rfl fun X K hX hK => ?_
  simp only [go_sem, if_true, if_false, reduceIte, Nat.reduceEqDiff, Nat.reduceAdd, Nat.reduceLT, Nat.reduceLeDiff, reduceCtorEq]
  refine hK _ _ ?_; clear hX hK X K
  show IW _ _ _ _ _ _ _ _
  repeat refine IW.seq ?_
  refine IW.cond rfl (fun hb => absurd hb (by decide)) (fun _ => ?_)
  repeat refine IW.seq ?_
  refine IW.region_seq tab_ok [some 9, some 6] rfl fun X K hX hK => ?_
  simp only [go_sem, if_true, if_false, reduceIte, Nat.reduceEqDiff, Nat.reduceAdd, Nat.reduceLT, Nat.reduceLeDiff, reduceCtorEq]
  refine hK _ _ ?_; clear hX hK X K
  show IW _ _ _ _ _ _ _ _
  repeat refine IW.seq ?_
  refine IW.cond rfl (fun hb => absurd hb (by decide)) (fun _ => ?_)
  repeat refine IW.seq ?_
  refine IW.region_seq tab_ok [some 12, some 11] rfl fun X K hX hK => ?_
  simp only [go_sem, if_true, if_false, reduceIte, Nat.reduceEqDiff, Nat.reduceAdd, Nat.reduceLT, Nat.reduceLeDiff, reduceCtorEq]
  refine hK _ _ ?_; clear hX hK X K
  show IW _ _ _ _ _ _ _ _
  repeat refine IW.seq ?_
  refine IW.cond rfl (fun hb => absurd hb (by decide)) (fun _ => ?_)
  repeat refine IW.seq ?_
  refine IW.region_seq tab_ok [some 13, some 11] rfl fun X K hX hK => ?_
  simp only [go_sem, if_true, if_false, reduceIte, Nat.reduceEqDiff, Nat.reduceAdd, Nat.reduceLT, Nat.reduceLeDiff, reduceCtorEq]
  refine hK _ _ ?_; clear hX hK X K
  show IW _ _ _ _ _ _ _ _
  repeat refine IW.seq ?_
  refine IW.cond rfl (fun _ => ?_) (fun hb => absurd hb (by decide))
  refine IW.skip ?_
  show IW _ _ _ _ _ _ _ _
  repeat refine IW.seq ?_
  refine IW.cond rfl (fun _ => ?_) (fun hb => absurd hb (by decide))
  repeat refine IW.seq ?_
  refine IW.region_seq tab_ok [some 15, some 2] rfl fun X K hX hK => ?_
  simp only [go_sem, if_true, if_false, reduceIte, Nat.reduceEqDiff, Nat.reduceAdd, Nat.reduceLT, Nat.reduceLeDiff, reduceCtorEq]
  refine hX.quiet _ _ (OpG.of_B rfl (opB_buildSlice tab_ok rfl (by simp [go_sem, if_true, if_false, reduceIte, Nat.reduceEqDiff, Nat.reduceAdd, Nat.reduceLT, Nat.reduceLeDiff, reduceCtorEq]) (by simp [go_sem, if_true, if_false, reduceIte, Nat.reduceEqDiff, Nat.reduceAdd, Nat.reduceLT, Nat.reduceLeDiff, reduceCtorEq]) (by simp) (by simp [go_sem, if_true, if_false, reduceIte, Nat.reduceEqDiff, Nat.reduceAdd, Nat.reduceLT, Nat.reduceLeDiff, reduceCtorEq, bsO, List.map_cons, List.map_nil]))) ?_
  simp only [go_sem, if_true, if_false, reduceIte, Nat.reduceEqDiff, Nat.reduceAdd, Nat.reduceLT, Nat.reduceLeDiff, reduceCtorEq, List.map_cons, List.map_nil]
  refine hK _ _ ?_; clear hX hK X K
  show IW _ _ _ _ _ _ _ _
  refine IW.ret (Fin.tmp1 0 rfl (by simp [go_sem, if_true, if_false, reduceIte, Nat.reduceEqDiff, Nat.reduceAdd, Nat.reduceLT, Nat.reduceLeDiff, reduceCtorEq]) (by first | (simp [go_sem, if_true, if_false, reduceIte, Nat.reduceEqDiff, Nat.reduceAdd, Nat.reduceLT, Nat.reduceLeDiff, reduceCtorEq]; done) | simp [go_sem, if_true, if_false, reduceIte, Nat.reduceEqDiff, Nat.reduceAdd, Nat.reduceLT, Nat.reduceLeDiff, reduceCtorEq, nums]) (by first | (simp [go_sem, if_true, if_false, reduceIte, Nat.reduceEqDiff, Nat.reduceAdd, Nat.reduceLT, Nat.reduceLeDiff, reduceCtorEq]; done) | simp [go_sem, if_true, if_false, reduceIte, Nat.reduceEqDiff, Nat.reduceAdd, Nat.reduceLT, Nat.reduceLeDiff, reduceCtorEq, nums]))
theorem refVals_5 : FSpec Try.prog 52 [.int .i64 5] (.ref 0 0 5) [⟨1, 3, nums .i64 [1, 2, 4, 8, 16]⟩] := by
  refine FSpec.intro tab_ok Try.func52 rfl rfl rfl (by kernel_rfl) (by simp) fun w0 => ?_
  simp only [argTM, Nat.zero_add, Nat.reduceAdd]
  repeat refine IW.seq ?_
  refine IW.region_seq tab_ok [some 2] rfl fun X K hX hK => ?_
  simp only [go_sem, if_true, if_false, reduceIte, Nat.reduceEqDiff, Nat.reduceAdd, Nat.reduceLT, Nat.reduceLeDiff, reduceCtorEq]
  refine hK _ _ ?_; clear hX hK X K
  show IW _ _ _ _ _ _ _ _
  repeat refine IW.seq ?_
  refine IW.region_seq tab_ok [some 5] rfl fun X K hX hK => ?_
  simp only [go_sem, if_true, if_false, reduceIte, Nat.reduceEqDiff, Nat.reduceAdd, Nat.reduceLT, Nat.reduceLeDiff, reduceCtorEq]
  refine hK _ _ ?_; clear hX hK X K
  show IW _ _ _ _ _ _ _ _
  repeat refine IW.seq ?_
  refine IW.block ?_
  repeat refine IW.seq ?_
  refine IW.region_seq tab_ok [some 7, some 6] rfl fun X K hX hK => ?_
  simp only [go_sem, if_true, if_false, reduceIte, Nat.reduceEqDiff, Nat.reduceAdd, Nat.reduceLT, Nat.reduceLeDiff, reduceCtorEq]
  refine hK _ _ ?_; clear hX hK X K
  show IW _ _ _ _ _ _ _ _
  repeat refine IW.seq ?_
  refine IW.cond rfl (fun hb => absurd hb (by decide)) (fun _ => ?_)
  repeat refine IW.seq ?_
  refine IW.region_seq tab_ok [some 8, some 6] rfl fun X K hX hK => ?_
  simp only [go_sem, if_true, if_false, reduceIte, Nat.reduceEqDiff, Nat.reduceAdd, Nat.reduceLT, Nat.reduceLeDiff, reduceCtorEq]
  refine hK _ _ ?_; clear hX hK X K
  show IW _ _ _ _ _ _ _ _
  repeat refine IW.seq ?_
  refine IW.cond rfl (fun hb => absurd hb (by decide)) (fun _ => ?_)
  repeat refine IW.seq ?_
  refine IW.region_seq tab_ok [some 9, some 6] rfl fun X K hX hK => ?_
  simp only [go_sem, if_true, if_false, reduceIte, Nat.reduceEqDiff, Nat.reduceAdd, Nat.reduceLT, Nat.reduceLeDiff, reduceCtorEq]
  refine hK _ _ ?_; clear hX hK X K
  show IW _ _ _ _ _ _ _ _
  repeat refine IW.seq ?_
  refine IW.cond rfl (fun hb => absurd hb (by decide)) (fun _ => ?_)
  repeat refine IW.seq ?_
  refine IW.region_seq tab_ok [some 12, some 11] rfl fun X K hX hK => ?_
  simp only [go_sem, if_true, if_false, reduceIte, Nat.reduceEqDiff, Nat.reduceAdd, Nat.reduceLT, Nat.reduceLeDiff, reduceCtorEq]
  refine hK _ _ ?_; clear hX hK X K
  show IW _ _ _ _ _ _ _ _
  repeat refine IW.seq ?_
  refine IW.cond rfl (fun hb => absurd hb (by decide)) (fun _ => ?_)
  repeat refine IW.seq ?_
  refine IW.region_seq tab_ok [some 13, some 11] rfl fun X K hX hK => ?_
  simp only [go_sem, if_true, if_false, reduceIte, Nat.reduceEqDiff, Nat.reduceAdd, Nat.reduceLT, Nat.reduceLeDiff, reduceCtorEq]
  refine hK _ _ ?_; clear hX hK X K
  show IW _ _ _ _ _ _ _ _
  repeat refine IW.seq ?_
  refine IW.cond rfl (fun hb => absurd hb (by decide)) (fun _ => ?_)
  repeat refine IW.seq ?_
  refine IW.region_seq tab_ok [some 14, some 11] rfl fun X K hX hK => ?_
  simp only [go_sem, if_true, if_false, reduceIte, Nat.reduceEqDiff, Nat.reduceAdd, Nat.reduceLT, Nat.reduceLeDiff, reduceCtorEq]
  refine hK _ _ ?_; clear hX hK X K
  show IW _ _ _ _ _ _ _ _
  repeat refine IW.seq ?_
  refine IW.cond rfl (fun hb => absurd hb (by decide)) (fun _ => ?_)
  repeat refine IW.seq ?_
  refine IW.region_seq tab_ok [some 17, some 16] rfl fun X K hX hK => ?_
  simp only [go_sem, if_true, if_false, reduceIte, Nat.reduceEqDiff, Nat.reduceAdd, Nat.reduceLT, Nat.reduceLeDiff, reduceCtorEq]
  refine hK _ _ ?_; clear hX hK X K
  show IW _ _ _ _ _ _ _ _
  repeat refine IW.seq ?_
  refine IW.cond rfl (fun _ => ?_) (fun hb => absurd hb (by decide))
  repeat refine IW.seq ?_
  refine IW.region_seq tab_ok [some 18, some 2] rfl fun X K hX hK => ?_
  simp only [go_sem, if_true, if_false, reduceIte, Nat.reduceEqDiff, Nat.reduceAdd, Nat.reduceLT, Nat.reduceLeDiff, reduceCtorEq]
  refine hX.quiet _ _ (OpG.of_B rfl (opB_buildSlice tab_ok rfl (by simp [go_sem, if_true, if_false, reduceIte, Nat.reduceEqDiff, Nat.reduceAdd, Nat.reduceLT, Nat.reduceLeDiff, reduceCtorEq]) (by simp [go_sem, if_true, if_false, reduceIte, Nat.reduceEqDiff, Nat.reduceAdd, Nat.reduceLT, Nat.reduceLeDiff, reduceCtorEq]) (by simp) (by simp [go_sem, if_true, if_false, reduceIte, Nat.reduceEqDiff, Nat.reduceAdd, Nat.reduceLT, Nat.reduceLeDiff, reduceCtorEq, bsO, List.map_cons, List.map_nil]))) ?_
  simp only [go_sem, if_true, if_false, reduceIte, Nat.reduceEqDiff, Nat.reduceAdd, Nat.reduceLT, Nat.reduceLeDiff, reduceCtorEq, List.map_cons, List.map_nil]
  refine hK _ _ ?_; clear hX hK X K
  show IW _ _ _ _ _ _ _ _
  refine IW.ret (Fin.tmp1 0 rfl (by simp [go_sem, if_true, if_false, reduceIte, Nat.reduceEqDiff, Nat.reduceAdd, Nat.reduceLT, Nat.reduceLeDiff, reduceCtorEq]) (by first | (simp [go_sem, if_true, if_false, reduceIte, Nat.reduceEqDiff, Nat.reduceAdd, Nat.reduceLT, Nat.reduceLeDiff, reduceCtorEq]; done) | simp [go_sem, if_true, if_false, reduceIte, Nat.reduceEqDiff, Nat.reduceAdd, Nat.reduceLT, Nat.reduceLeDiff, reduceCtorEq, nums]) (by first | (simp [go_sem, if_true, if_false, reduceIte, Nat.reduceEqDiff, Nat.reduceAdd, Nat.reduceLT, Nat.reduceLeDiff, reduceCtorEq]; done) | simp [go_sem, if_true, if_false, reduceIte, Nat.reduceEqDiff, Nat.reduceAdd, Nat.reduceLT, Nat.reduceLeDiff, reduceCtorEq, nums]))
theorem refVals_6 : FSpec Try.prog 52 [.int .i64 6] (.ref 0 0 3) [⟨1, 3, nums .i64 [1, 2, 3]⟩] := by
  refine FSpec.intro tab_ok Try.func52 rfl rfl rfl (by kernel_rfl) (by simp) fun w0 => ?_
  simp only [argTM, Nat.zero_add, Nat.reduceAdd]
  repeat refine IW.seq ?_
  refine IW.region_seq tab_ok [some 2] rfl fun X K hX hK => ?_
  simp only [go_sem, if_true, if_false, reduceIte, Nat.reduceEqDiff, Nat.reduceAdd, Nat.reduceLT, Nat.reduceLeDiff, reduceCtorEq]
  refine hK _ _ ?_; clear hX hK X K
  show IW _ _ _ _ _ _ _ _
  repeat refine IW.seq ?_
  refine IW.region_seq tab_ok [some 5] rfl fun X K hX hK => ?_
  simp only [go_sem, if_true, if_false, reduceIte, Nat.reduceEqDiff, Nat.reduceAdd, Nat.reduceLT, Nat.reduceLeDiff, reduceCtorEq]
  refine hK _ _ ?_; clear hX hK X K
  show IW _ _ _ _ _ _ _ _
  repeat refine IW.seq ?_
  refine IW.block ?_
  repeat refine IW.seq ?_
  refine IW.region_seq tab_ok [some 7, some 6] rfl fun X K hX hK => ?_
  simp only [go_sem, if_true, if_false, reduceIte, Nat.reduceEqDiff, Nat.reduceAdd, Nat.reduceLT, Nat.reduceLeDiff, reduceCtorEq]
  refine hK _ _ ?_; clear hX hK X K
  show IW _ _ _ _ _ _ _ _
  repeat refine IW.seq ?_
  refine IW.cond rfl (fun hb => absurd hb (by decide)) (fun _ => ?_)
  repeat refine IW.seq ?_
  refine IW.region_seq tab_ok [some 8, some 6] rfl fun X K hX hK => ?_
  simp only [go_sem, if_true, if_false, reduceIte, Nat.reduceEqDiff, Nat.reduceAdd, Nat.reduceLT, Nat.reduceLeDiff, reduceCtorEq]
  refine hK _ _ ?_; clear hX hK X K
  show IW _ _ _ _ _ _ _ _
  repeat refine IW.seq ?_
  refine IW.cond rfl (fun hb => absurd hb (by decide)) (fun _ => ?_)
  repeat refine IW.seq ?_
  refine IW.region_seq tab_ok [some 9, some 6] rfl fun X K hX hK => ?_
  simp only [go_sem, if_true, if_false, reduceIte, Nat.reduceEqDiff, Nat.reduceAdd, Nat.reduceLT, Nat.reduceLeDiff, reduceCtorEq]
  refine hK _ _ ?_; clear hX hK X K
  show IW _ _ _ _ _ _ _ _
  repeat refine IW.seq ?_
  refine IW.cond rfl (fun _ => ?_) (fun hb => absurd hb (by decide))
  repeat refine IW.seq ?_
  refine IW.region_seq tab_ok [some 10, some 2] rfl fun X K hX hK => ?_
  simp only [go_sem, if_true, if_false, reduceIte, Nat.reduceEqDiff, Nat.reduceAdd, Nat.reduceLT, Nat.reduceLeDiff, reduceCtorEq]
  refine hX.quiet _ _ (OpG.of_B rfl (opB_buildSlice tab_ok rfl (by simp [go_sem, if_true, if_false, reduceIte, Nat.reduceEqDiff, Nat.reduceAdd, Nat.reduceLT, Nat.reduceLeDiff, reduceCtorEq]) (by simp [go_sem, if_true, if_false, reduceIte, Nat.reduceEqDiff, Nat.reduceAdd, Nat.reduceLT, Nat.reduceLeDiff, reduceCtorEq]) (by simp) (by simp [go_sem, if_true, if_false, reduceIte, Nat.reduceEqDiff, Nat.reduceAdd, Nat.reduceLT, Nat.reduceLeDiff, reduceCtorEq, bsO, List.map_cons, List.map_nil]))) ?_
  simp only [go_sem, if_true, if_false, reduceIte, Nat.reduceEqDiff, Nat.reduceAdd, Nat.reduceLT, Nat.reduceLeDiff, reduceCtorEq, List.map_cons, List.map_nil]
  refine hK _ _ ?_; clear hX hK X K
  show IW _ _ _ _ _ _ _ _
  refine IW.ret (Fin.tmp1 0 rfl (by simp [go_sem, if_true, if_false, reduceIte, Nat.reduceEqDiff, Nat.reduceAdd, Nat.reduceLT, Nat.reduceLeDiff, reduceCtorEq]) (by first | (simp [go_sem, if_true, if_false, reduceIte, Nat.reduceEqDiff, Nat.reduceAdd, Nat.reduceLT, Nat.reduceLeDiff, reduceCtorEq]; done) | simp [go_sem, if_true, if_false, reduceIte, Nat.reduceEqDiff, Nat.reduceAdd, Nat.reduceLT, Nat.reduceLeDiff, reduceCtorEq, nums]) (by first | (simp [go_sem, if_true, if_false, reduceIte, Nat.reduceEqDiff, Nat.reduceAdd, Nat.reduceLT, Nat.reduceLeDiff, reduceCtorEq]; done) | simp [go_sem, if_true, if_false, reduceIte, Nat.reduceEqDiff, Nat.reduceAdd, Nat.reduceLT, Nat.reduceLeDiff, reduceCtorEq, nums]))
theorem refVals_7 : FSpec Try.prog 52 [.int .i64 7] (.ref 0 0 9) [⟨1, 3, nums .i64 [1, 2, 3, 4, 5, 6, 7, 8, 9]⟩] := by
  refine FSpec.intro tab_ok Try.func52 rfl rfl rfl (by kernel_rfl) (by simp) fun w0 => ?_
  simp only [argTM, Nat.zero_add, Nat.reduceAdd]
  repeat refine IW.seq ?_
  refine IW.region_seq tab_ok [some 2] rfl fun X K hX hK => ?_
  simp only [go_sem, if_true, if_false, reduceIte, Nat.reduceEqDiff, Nat.reduceAdd, Nat.reduceLT, Nat.reduceLeDiff, reduceCtorEq]
  refine hK _ _ ?_; clear hX hK X K
  show IW _ _ _ _ _ _ _ _
  repeat refine IW.seq ?_
  refine IW.region_seq tab_ok [some 5] rfl fun X K hX hK => ?_
  simp only [go_sem, if_true, if_false, reduceIte, Nat.reduceEqDiff, Nat.reduceAdd, Nat.reduceLT, Nat.reduceLeDiff, reduceCtorEq]
  refine hK _ _ ?_; clear hX hK X K
  show IW _ _ _ _ _ _ _ _
  repeat refine IW.seq ?_
  refine IW.block ?_
  repeat refine IW.seq ?_
  refine IW.region_seq tab_ok [some 7, some 6] rfl fun X K hX hK => ?_
  simp only [go_sem, if_true, if_false, reduceIte, Nat.reduceEqDiff, Nat.reduceAdd, Nat.reduceLT, Nat.reduceLeDiff, reduceCtorEq]
  refine hK _ _ ?_; clear hX hK X K
  show IW _ _ _ _ _ _ _ _
  repeat refine IW.seq ?_
  refine IW.cond rfl (fun hb => absurd hb (by decide)) (fun _ => ?_)
  repeat refine IW.seq ?_
  refine IW.region_seq tab_ok [some 8, some 6] rfl fun X K hX hK => ?_
  simp only [go_sem, if_true, if_false, reduceIte, Nat.reduceEqDiff, Nat.reduceAdd, Nat.reduceLT, Nat.reduceLeDiff, reduceCtorEq]
  refine hK _ _ ?_; clear hX hK X K
  show IW _ _ _ _ _ _ _ _
  repeat refine IW.seq ?_
  refine IW.cond rfl (fun hb => absurd hb (by decide)) (fun _ => ?_)
  repeat refine IW.seq ?_
  refine IW.region_seq tab_ok [some 9, some 6] rfl fun X K hX hK => ?_
  simp only [go_sem, if_true, if_false, reduceIte, Nat.reduceEqDiff, Nat.reduceAdd, Nat.reduceLT, Nat.reduceLeDiff, reduceCtorEq]
  refine hK _ _ ?_; clear hX hK X K
  show IW _ _ _ _ _ _ _ _
  repeat refine IW.seq ?_
  refine IW.cond rfl (fun hb => absurd hb (by decide)) (fun _ => ?_)
  repeat refine IW.seq ?_
  refine IW.region_seq tab_ok [some 12, some 11] rfl fun X K hX hK => ?_
  simp only [go_sem, if_true, if_false, reduceIte, Nat.reduceEqDiff, Nat.reduceAdd, Nat.reduceLT, Nat.reduceLeDiff, reduceCtorEq]
  refine hK _ _ ?_; clear hX hK X K
  show IW _ _ _ _ _ _ _ _
  repeat refine IW.seq ?_
  refine IW.cond rfl (fun hb => absurd hb (by decide)) (fun _ => ?_)
  repeat refine IW.seq ?_
  refine IW.region_seq tab_ok [some 13, some 11] rfl fun X K hX hK => ?_
  simp only [go_sem, if_true, if_false, reduceIte, Nat.reduceEqDiff, Nat.reduceAdd, Nat.reduceLT, Nat.reduceLeDiff, reduceCtorEq]
  refine hK _ _ ?_; clear hX hK X K
  show IW _ _ _ _ _ _ _ _
  repeat refine IW.seq ?_
  refine IW.cond rfl (fun hb => absurd hb (by decide)) (fun _ => ?_)
  repeat refine IW.seq ?_
  refine IW.region_seq tab_ok [some 14, some 11] rfl fun X K hX hK => ?_
  simp only [go_sem, if_true, if_false, reduceIte, Nat.reduceEqDiff, Nat.reduceAdd, Nat.reduceLT, Nat.reduceLeDiff, reduceCtorEq]
  refine hK _ _ ?_; clear hX hK X K
  show IW _ _ _ _ _ _ _ _
  repeat refine IW.seq ?_
  refine IW.cond rfl (fun hb => absurd hb (by decide)) (fun _ => ?_)
  repeat refine IW.seq ?_
  refine IW.region_seq tab_ok [some 17, some 16] rfl fun X K hX hK => ?_
  simp only [go_sem, if_true, if_false, reduceIte, Nat.reduceEqDiff, Nat.reduceAdd, Nat.reduceLT, Nat.reduceLeDiff, reduceCtorEq]
  refine hK _ _ ?_; clear hX hK X K
  show IW _ _ _ _ _ _ _ _
  repeat refine IW.seq ?_
  refine IW.cond rfl (fun hb => absurd hb (by decide)) (fun _ => ?_)
  repeat refine IW.seq ?_
  refine IW.region_seq tab_ok [some 20, some 19] rfl fun X K hX hK => ?_
  simp only [go_sem, if_true, if_false, reduceIte, Nat.reduceEqDiff, Nat.reduceAdd, Nat.reduceLT, Nat.reduceLeDiff, reduceCtorEq]
  refine hK _ _ ?_; clear hX hK X K
  show IW _ _ _ _ _ _ _ _
  repeat refine IW.seq ?_
  refine IW.cond rfl (fun _ => ?_) (fun hb => absurd hb (by decide))
  repeat refine IW.seq ?_
  refine IW.region_seq tab_ok [some 21, some 2] rfl fun X K hX hK => ?_
  simp only [go_sem, if_true, if_false, reduceIte, Nat.reduceEqDiff, Nat.reduceAdd, Nat.reduceLT, Nat.reduceLeDiff, reduceCtorEq]
  refine hX.quiet _ _ (OpG.of_B rfl (opB_buildSlice tab_ok rfl (by simp [go_sem, if_true, if_false, reduceIte, Nat.reduceEqDiff, Nat.reduceAdd, Nat.reduceLT, Nat.reduceLeDiff, reduceCtorEq]) (by simp [go_sem, if_true, if_false, reduceIte, Nat.reduceEqDiff, Nat.reduceAdd, Nat.reduceLT, Nat.reduceLeDiff, reduceCtorEq]) (by simp) (by simp [go_sem, if_true, if_false, reduceIte, Nat.reduceEqDiff, Nat.reduceAdd, Nat.reduceLT, Nat.reduceLeDiff, reduceCtorEq, bsO, List.map_cons, List.map_nil]))) ?_
  simp only [go_sem, if_true, if_false, reduceIte, Nat.reduceEqDiff, Nat.reduceAdd, Nat.reduceLT, Nat.reduceLeDiff, reduceCtorEq, List.map_cons, List.map_nil]
  refine hK _ _ ?_; clear hX hK X K
  show IW _ _ _ _ _ _ _ _
  refine IW.ret (Fin.tmp1 0 rfl (by simp [go_sem, if_true, if_false, reduceIte, Nat.reduceEqDiff, Nat.reduceAdd, Nat.reduceLT, Nat.reduceLeDiff, reduceCtorEq]) (by first | (simp [go_sem, if_true, if_false, reduceIte, Nat.reduceEqDiff, Nat.reduceAdd, Nat.reduceLT, Nat.reduceLeDiff, reduceCtorEq]; done) | simp [go_sem, if_true, if_false, reduceIte, Nat.reduceEqDiff, Nat.reduceAdd, Nat.reduceLT, Nat.reduceLeDiff, reduceCtorEq, nums]) (by first | (simp [go_sem, if_true, if_false, reduceIte, Nat.reduceEqDiff, Nat.reduceAdd, Nat.reduceLT, Nat.reduceLeDiff, reduceCtorEq]; done) | simp [go_sem, if_true, if_false, reduceIte, Nat.reduceEqDiff, Nat.reduceAdd, Nat.reduceLT, Nat.reduceLeDiff, reduceCtorEq, nums]))
theorem refVals_9 : FSpec Try.prog 52 [.int .i64 9] (.ref 0 0 5) [⟨1, 3, nums .i64 [1, 2, 3, 4, 5]⟩] := by
  refine FSpec.intro tab_ok Try.func52 rfl rfl rfl (by kernel_rfl) (by simp) fun w0 => ?_
  simp only [argTM, Nat.zero_add, Nat.reduceAdd]
  repeat refine IW.seq ?_
  refine IW.region_seq tab_ok [some 2] rfl fun X K hX hK => ?_
  simp only [go_sem, if_true, if_false, reduceIte, Nat.reduceEqDiff, Nat.reduceAdd, Nat.reduceLT, Nat.reduceLeDiff, reduceCtorEq]
  refine hK _ _ ?_; clear hX hK X K
  show IW _ _ _ _ _ _ _ _
  repeat refine IW.seq ?_
  refine IW.region_seq tab_ok [some 5] rfl fun X K hX hK => ?_
  simp only [go_sem, if_true, if_false, reduceIte, Nat.reduceEqDiff, Nat.reduceAdd, Nat.reduceLT, Nat.reduceLeDiff, reduceCtorEq]
  refine hK _ _ ?_; clear hX hK X K
  show IW _ _ _ _ _ _ _ _
  repeat refine IW.seq ?_
  refine IW.block ?_
  repeat refine IW.seq ?_
  refine IW.region_seq tab_ok [some 7, some 6] rfl fun X K hX hK => ?_
  simp only [go_sem, if_true, if_false, reduceIte, Nat.reduceEqDiff, Nat.reduceAdd, Nat.reduceLT, Nat.reduceLeDiff, reduceCtorEq]
  refine hK _ _ ?_; clear hX hK X K
  show IW _ _ _ _ _ _ _ _
  repeat refine IW.seq ?_
  refine IW.cond rfl (fun hb => absurd hb (by decide)) (fun _ => ?_)
  repeat refine IW.seq ?_
  refine IW.region_seq tab_ok [some 8, some 6] rfl fun X K hX hK => ?_
  simp only [go_sem, if_true, if_false, reduceIte, Nat.reduceEqDiff, Nat.reduceAdd, Nat.reduceLT, Nat.reduceLeDiff, reduceCtorEq]
  refine hK _ _ ?_; clear hX hK X K
  show IW _ _ _ _ _ _ _ _
  repeat refine IW.seq ?_
  refine IW.cond rfl (fun hb => absurd hb (by decide)) (fun _ => ?_)
  repeat refine IW.seq ?_
  refine IW.region_seq tab_ok [some 9, some 6] rfl fun X K hX hK => ?_
  simp only [go_sem, if_true, if_false, reduceIte, Nat.reduceEqDiff, Nat.reduceAdd, Nat.reduceLT, Nat.reduceLeDiff, reduceCtorEq]
  refine hK _ _ ?_; clear hX hK X K
  show IW _ _ _ _ _ _ _ _
  repeat refine IW.seq ?_
  refine IW.cond rfl (fun hb => absurd hb (by decide)) (fun _ => ?_)
  repeat refine IW.seq ?_
  refine IW.region_seq tab_ok [some 12, some 11] rfl fun X K hX hK => ?_
  simp only [go_sem, if_true, if_false, reduceIte, Nat.reduceEqDiff, Nat.reduceAdd, Nat.reduceLT, Nat.reduceLeDiff, reduceCtorEq]
  refine hK _ _ ?_; clear hX hK X K
  show IW _ _ _ _ _ _ _ _
  repeat refine IW.seq ?_
  refine IW.cond rfl (fun hb => absurd hb (by decide)) (fun _ => ?_)
  repeat refine IW.seq ?_
  refine IW.region_seq tab_ok [some 13, some 11] rfl fun X K hX hK => ?_
  simp only [go_sem, if_true, if_false, reduceIte, Nat.reduceEqDiff, Nat.reduceAdd, Nat.reduceLT, Nat.reduceLeDiff, reduceCtorEq]
  refine hK _ _ ?_; clear hX hK X K
  show IW _ _ _ _ _ _ _ _
  repeat refine IW.seq ?_
  refine IW.cond rfl (fun hb => absurd hb (by decide)) (fun _ => ?_)
  repeat refine IW.seq ?_
  refine IW.region_seq tab_ok [some 14, some 11] rfl fun X K hX hK => ?_
  simp only [go_sem, if_true, if_false, reduceIte, Nat.reduceEqDiff, Nat.reduceAdd, Nat.reduceLT, Nat.reduceLeDiff, reduceCtorEq]
  refine hK _ _ ?_; clear hX hK X K
  show IW _ _ _ _ _ _ _ _
  repeat refine IW.seq ?_
  refine IW.cond rfl (fun hb => absurd hb (by decide)) (fun _ => ?_)
  repeat refine IW.seq ?_
  refine IW.region_seq tab_ok [some 17, some 16] rfl fun X K hX hK => ?_
  simp only [go_sem, if_true, if_false, reduceIte, Nat.reduceEqDiff, Nat.reduceAdd, Nat.reduceLT, Nat.reduceLeDiff, reduceCtorEq]
  refine hK _ _ ?_; clear hX hK X K
  show IW _ _ _ _ _ _ _ _
  repeat refine IW.seq ?_
  refine IW.cond rfl (fun hb => absurd hb (by decide)) (fun _ => ?_)
  repeat refine IW.seq ?_
  refine IW.region_seq tab_ok [some 20, some 19] rfl fun X K hX hK => ?_
  simp only [go_sem, if_true, if_false, reduceIte, Nat.reduceEqDiff, Nat.reduceAdd, Nat.reduceLT, Nat.reduceLeDiff, reduceCtorEq]
  refine hK _ _ ?_; clear hX hK X K
  show IW _ _ _ _ _ _ _ _
  repeat refine IW.seq ?_
  refine IW.cond rfl (fun hb => absurd hb (by decide)) (fun _ => ?_)
  repeat refine IW.seq ?_
  refine IW.region_seq tab_ok [some 23, some 22] rfl fun X K hX hK => ?_
  simp only [go_sem, if_true, if_false, reduceIte, Nat.reduceEqDiff, Nat.reduceAdd, Nat.reduceLT, Nat.reduceLeDiff, reduceCtorEq]
  refine hK _ _ ?_; clear hX hK X K
  show IW _ _ _ _ _ _ _ _
  repeat refine IW.seq ?_
  refine IW.cond rfl (fun hb => absurd hb (by decide)) (fun _ => ?_)
  repeat refine IW.seq ?_
  refine IW.region_seq tab_ok [some 34, some 33] rfl fun X K hX hK => ?_
  simp only [go_sem, if_true, if_false, reduceIte, Nat.reduceEqDiff, Nat.reduceAdd, Nat.reduceLT, Nat.reduceLeDiff, reduceCtorEq]
  refine hK _ _ ?_; clear hX hK X K
  show IW _ _ _ _ _ _ _ _
  repeat refine IW.seq ?_
  refine IW.cond rfl (fun _ => ?_) (fun hb => absurd hb (by decide))
  repeat refine IW.seq ?_
  refine IW.region_seq tab_ok [some 35, some 2] rfl fun X K hX hK => ?_
  simp only [go_sem, if_true, if_false, reduceIte, Nat.reduceEqDiff, Nat.reduceAdd, Nat.reduceLT, Nat.reduceLeDiff, reduceCtorEq]
  refine hX.quiet _ _ (OpG.of_B rfl (opB_buildSlice tab_ok rfl (by simp [go_sem, if_true, if_false, reduceIte, Nat.reduceEqDiff, Nat.reduceAdd, Nat.reduceLT, Nat.reduceLeDiff, reduceCtorEq]) (by simp [go_sem, if_true, if_false, reduceIte, Nat.reduceEqDiff, Nat.reduceAdd, Nat.reduceLT, Nat.reduceLeDiff, reduceCtorEq]) (by simp) (by simp [go_sem, if_true, if_false, reduceIte, Nat.reduceEqDiff, Nat.reduceAdd, Nat.reduceLT, Nat.reduceLeDiff, reduceCtorEq, bsO, List.map_cons, List.map_nil]))) ?_
  simp only [go_sem, if_true, if_false, reduceIte, Nat.reduceEqDiff, Nat.reduceAdd, Nat.reduceLT, Nat.reduceLeDiff, reduceCtorEq, List.map_cons, List.map_nil]
  refine hK _ _ ?_; clear hX hK X K
  show IW _ _ _ _ _ _ _ _
  refine IW.ret (Fin.tmp1 0 rfl (by simp [go_sem, if_true, if_false, reduceIte, Nat.reduceEqDiff, Nat.reduceAdd, Nat.reduceLT, Nat.reduceLeDiff, reduceCtorEq]) (by first | (simp [go_sem, if_true, if_false, reduceIte, Nat.reduceEqDiff, Nat.reduceAdd, Nat.reduceLT, Nat.reduceLeDiff, reduceCtorEq]; done) | simp [go_sem, if_true, if_false, reduceIte, Nat.reduceEqDiff, Nat.reduceAdd, Nat.reduceLT, Nat.reduceLeDiff, reduceCtorEq, nums]) (by first | (simp [go_sem, if_true, if_false, reduceIte, Nat.reduceEqDiff, Nat.reduceAdd, Nat.reduceLT, Nat.reduceLeDiff, reduceCtorEq]; done) | simp [go_sem, if_true, if_false, reduceIte, Nat.reduceEqDiff, Nat.reduceAdd, Nat.reduceLT, Nat.reduceLeDiff, reduceCtorEq, nums]))
theorem refVals_10 : FSpec Try.prog 52 [.int .i64 10] (.ref 0 0 1) [⟨1, 3, nums .i64 [1]⟩] := by
  refine FSpec.intro tab_ok Try.func52 rfl rfl rfl (by kernel_rfl) (by simp) fun w0 => ?_
  simp only [argTM, Nat.zero_add, Nat.reduceAdd]
  repeat refine IW.seq ?_
  refine IW.region_seq tab_ok [some 2] rfl fun X K hX hK => ?_
  simp only [go_sem, if_true, if_false, reduceIte, Nat.reduceEqDiff, Nat.reduceAdd, Nat.reduceLT, Nat.reduceLeDiff, reduceCtorEq]
  refine hK _ _ ?_; clear hX hK X K
  show IW _ _ _ _ _ _ _ _
  repeat refine IW.seq ?_
  refine IW.region_seq tab_ok [some 5] rfl fun X K hX hK => ?_
  simp only [go_sem, if_true, if_false, reduceIte, Nat.reduceEqDiff, Nat.reduceAdd, Nat.reduceLT, Nat.reduceLeDiff, reduceCtorEq]
  refine hK _ _ ?_; clear hX hK X K
  show IW _ _ _ _ _ _ _ _
  repeat refine IW.seq ?_
  refine IW.block ?_
  repeat refine IW.seq ?_
  refine IW.region_seq tab_ok [some 7, some 6] rfl fun X K hX hK => ?_
  simp only [go_sem, if_true, if_false, reduceIte, Nat.reduceEqDiff, Nat.reduceAdd, Nat.reduceLT, Nat.reduceLeDiff, reduceCtorEq]
  refine hK _ _ ?_; clear hX hK X K
  show IW _ _ _ _ _ _ _ _
  repeat refine IW.seq ?_
  refine IW.cond rfl (fun hb => absurd hb (by decide)) (fun _ => ?_)
  repeat refine IW.seq ?_
  refine IW.region_seq tab_ok [some 8, some 6] rfl fun X K hX hK => ?_
  simp only [go_sem, if_true, if_false, reduceIte, Nat.reduceEqDiff, Nat.reduceAdd, Nat.reduceLT, Nat.reduceLeDiff, reduceCtorEq]
  refine hK _ _ ?_; clear hX hK X K
  show IW _ _ _ _ _ _ _ _
  repeat refine IW.seq ?_
  refine IW.cond rfl (fun hb => absurd hb (by decide)) (fun _ => ?_)
  repeat refine IW.seq ?_
  refine IW.region_seq tab_ok [some 9, some 6] rfl fun X K hX hK => ?_
  simp only [go_sem, if_true, if_false, reduceIte, Nat.reduceEqDiff, Nat.reduceAdd, Nat.reduceLT, Nat.reduceLeDiff, reduceCtorEq]
  refine hK _ _ ?_; clear hX hK X K
  show IW _ _ _ _ _ _ _ _
  repeat refine IW.seq ?_
  refine IW.cond rfl (fun hb => absurd hb (by decide)) (fun _ => ?_)
  repeat refine IW.seq ?_
  refine IW.region_seq tab_ok [some 12, some 11] rfl fun X K hX hK => ?_
  simp only [go_sem, if_true, if_false, reduceIte, Nat.reduceEqDiff, Nat.reduceAdd, Nat.reduceLT, Nat.reduceLeDiff, reduceCtorEq]
  refine hK _ _ ?_; clear hX hK X K
  show IW _ _ _ _ _ _ _ _
  repeat refine IW.seq ?_
  refine IW.cond rfl (fun hb => absurd hb (by decide)) (fun _ => ?_)
  repeat refine IW.seq ?_
  refine IW.region_seq tab_ok [some 13, some 11] rfl fun X K hX hK => ?_
  simp only [go_sem, if_true, if_false, reduceIte, Nat.reduceEqDiff, Nat.reduceAdd, Nat.reduceLT, Nat.reduceLeDiff, reduceCtorEq]
  refine hK _ _ ?_; clear hX hK X K
  show IW _ _ _ _ _ _ _ _
  repeat refine IW.seq ?_
  refine IW.cond rfl (fun hb => absurd hb (by decide)) (fun _ => ?_)
  repeat refine IW.seq ?_
  refine IW.region_seq tab_ok [some 14, some 11] rfl fun X K hX hK => ?_
  simp only [go_sem, if_true, if_false, reduceIte, Nat.reduceEqDiff, Nat.reduceAdd, Nat.reduceLT, Nat.reduceLeDiff, reduceCtorEq]
  refine hK _ _ ?_; clear hX hK X K
  show IW _ _ _ _ _ _ _ _
  repeat refine IW.seq ?_
  refine IW.cond rfl (fun _ => ?_) (fun hb => absurd hb (by decide))
  repeat refine IW.seq ?_
  refine IW.region_seq tab_ok [some 15, some 2] rfl fun X K hX hK => ?_
  simp only [go_sem, if_true, if_false, reduceIte, Nat.reduceEqDiff, Nat.reduceAdd, Nat.reduceLT, Nat.reduceLeDiff, reduceCtorEq]
  refine hX.quiet _ _ (OpG.of_B rfl (opB_buildSlice tab_ok rfl (by simp [go_sem, if_true, if_false, reduceIte, Nat.reduceEqDiff, Nat.reduceAdd, Nat.reduceLT, Nat.reduceLeDiff, reduceCtorEq]) (by simp [go_sem, if_true, if_false, reduceIte, Nat.reduceEqDiff, Nat.reduceAdd, Nat.reduceLT, Nat.reduceLeDiff, reduceCtorEq]) (by simp) (by simp [go_sem, if_true, if_false, reduceIte, Nat.reduceEqDiff, Nat.reduceAdd, Nat.reduceLT, Nat.reduceLeDiff, reduceCtorEq, bsO, List.map_cons, List.map_nil]))) ?_
  simp only [go_sem, if_true, if_false, reduceIte, Nat.reduceEqDiff, Nat.reduceAdd, Nat.reduceLT, Nat.reduceLeDiff, reduceCtorEq, List.map_cons, List.map_nil]
  refine hK _ _ ?_; clear hX hK X K
  show IW _ _ _ _ _ _ _ _
  refine IW.ret (Fin.tmp1 0 rfl (by simp [go_sem, if_true, if_false, reduceIte, Nat.reduceEqDiff, Nat.reduceAdd, Nat.reduceLT, Nat.reduceLeDiff, reduceCtorEq]) (by first | (simp [go_sem, if_true, if_false, reduceIte, Nat.reduceEqDiff, Nat.reduceAdd, Nat.reduceLT, Nat.reduceLeDiff, reduceCtorEq]; done) | simp [go_sem, if_true, if_false, reduceIte, Nat.reduceEqDiff, Nat.reduceAdd, Nat.reduceLT, Nat.reduceLeDiff, reduceCtorEq, nums]) (by first | (simp [go_sem, if_true, if_false, reduceIte, Nat.reduceEqDiff, Nat.reduceAdd, Nat.reduceLT, Nat.reduceLeDiff, reduceCtorEq]; done) | simp [go_sem, if_true, if_false, reduceIte, Nat.reduceEqDiff, Nat.reduceAdd, Nat.reduceLT, Nat.reduceLeDiff, reduceCtorEq, nums]))
theorem refVals_N (s : Int) (h : ∀ k : Int, 1 ≤ k → k ≤ 10 → s ≠ k) : FSpec Try.prog 52 [.int .i64 s] (lsV 0 ([] : List Int).length) [⟨1, 3, nums .i64 []⟩] := by
  have n1 : (s == 1) = false := by simpa using h 1 (by omega) (by omega)
  have n2 : (s == 2) = false := by simpa using h 2 (by omega) (by omega)
  have n3 : (s == 3) = false := by simpa using h 3 (by omega) (by omega)
  have n4 : (s == 4) = false := by simpa using h 4 (by omega) (by omega)
  have n5 : (s == 5) = false := by simpa using h 5 (by omega) (by omega)
  have n6 : (s == 6) = false := by simpa using h 6 (by omega) (by omega)
  have n7 : (s == 7) = false := by simpa using h 7 (by omega) (by omega)
  have n8 : (s == 8) = false := by simpa using h 8 (by omega) (by omega)
  have n9 : (s == 9) = false := by simpa using h 9 (by omega) (by omega)
  have n10 : (s == 10) = false := by simpa using h 10 (by omega) (by omega)
  refine FSpec.ghost (r := ⟨1, 3, nums .i64 []⟩) (sv := .nils) ?_ fun F w v h => rel_ls_nil h
  refine FSpec.intro tab_ok Try.func52 rfl rfl rfl (by kernel_rfl) (by simp) fun w0 => ?_
  simp only [argTM, Nat.zero_add, Nat.reduceAdd]
  repeat refine IW.seq ?_
  refine IW.region_seq tab_ok [some 2] rfl fun X K hX hK => ?_
  simp only [go_sem, if_true, if_false, reduceIte, Nat.reduceEqDiff, Nat.reduceAdd, Nat.reduceLT, Nat.reduceLeDiff, reduceCtorEq, n1, n2, n3, n4, n5, n6, n7, n8, n9, n10]
  refine hK _ _ ?_; clear hX hK X K
  show IW _ _ _ _ _ _ _ _
  repeat refine IW.seq ?_
  refine IW.region_seq tab_ok [some 5] rfl fun X K hX hK => ?_
  simp only [go_sem, if_true, if_false, reduceIte, Nat.reduceEqDiff, Nat.reduceAdd, Nat.reduceLT, Nat.reduceLeDiff, reduceCtorEq, n1, n2, n3, n4, n5, n6, n7, n8, n9, n10]
  refine hK _ _ ?_; clear hX hK X K
  show IW _ _ _ _ _ _ _ _
  repeat refine IW.seq ?_
  refine IW.block ?_
  repeat refine IW.seq ?_
  refine IW.region_seq tab_ok [some 7, some 6] rfl fun X K hX hK => ?_
  simp only [go_sem, if_true, if_false, reduceIte, Nat.reduceEqDiff, Nat.reduceAdd, Nat.reduceLT, Nat.reduceLeDiff, reduceCtorEq, n1, n2, n3, n4, n5, n6, n7, n8, n9, n10]
  refine hK _ _ ?_; clear hX hK X K
  show IW _ _ _ _ _ _ _ _
  repeat refine IW.seq ?_
  refine IW.cond rfl (fun hb => absurd hb (by decide)) (fun _ => ?_)
  repeat refine IW.seq ?_
  refine IW.region_seq tab_ok [some 8, some 6] rfl fun X K hX hK => ?_
  simp only [go_sem, if_true, if_false, reduceIte, Nat.reduceEqDiff, Nat.reduceAdd, Nat.reduceLT, Nat.reduceLeDiff, reduceCtorEq, n1, n2, n3, n4, n5, n6, n7, n8, n9, n10]
  refine hK _ _ ?_; clear hX hK X K
  show IW _ _ _ _ _ _ _ _
  repeat refine IW.seq ?_
  refine IW.cond rfl (fun hb => absurd hb (by decide)) (fun _ => ?_)
  repeat refine IW.seq ?_
  refine IW.region_seq tab_ok [some 9, some 6] rfl fun X K hX hK => ?_
  simp only [go_sem, if_true, if_false, reduceIte, Nat.reduceEqDiff, Nat.reduceAdd, Nat.reduceLT, Nat.reduceLeDiff, reduceCtorEq, n1, n2, n3, n4, n5, n6, n7, n8, n9, n10]
  refine hK _ _ ?_; clear hX hK X K
  show IW _ _ _ _ _ _ _ _
  repeat refine IW.seq ?_
  refine IW.cond rfl (fun hb => absurd hb (by decide)) (fun _ => ?_)
  repeat refine IW.seq ?_
  refine IW.region_seq tab_ok [some 12, some 11] rfl fun X K hX hK => ?_
  simp only [go_sem, if_true, if_false, reduceIte, Nat.reduceEqDiff, Nat.reduceAdd, Nat.reduceLT, Nat.reduceLeDiff, reduceCtorEq, n1, n2, n3, n4, n5, n6, n7, n8, n9, n10]
  refine hK _ _ ?_; clear hX hK X K
  show IW _ _ _ _ _ _ _ _
  repeat refine IW.seq ?_
  refine IW.cond rfl (fun hb => absurd hb (by decide)) (fun _ => ?_)
  repeat refine IW.seq ?_
  refine IW.region_seq tab_ok [some 13, some 11] rfl fun X K hX hK => ?_
  simp only [go_sem, if_true, if_false, reduceIte, Nat.reduceEqDiff, Nat.reduceAdd, Nat.reduceLT, Nat.reduceLeDiff, reduceCtorEq, n1, n2, n3, n4, n5, n6, n7, n8, n9, n10]
  refine hK _ _ ?_; clear hX hK X K
  show IW _ _ _ _ _ _ _ _
  repeat refine IW.seq ?_
  refine IW.cond rfl (fun hb => absurd hb (by decide)) (fun _ => ?_)
  repeat refine IW.seq ?_
  refine IW.region_seq tab_ok [some 14, some 11] rfl fun X K hX hK => ?_
  simp only [go_sem, if_true, if_false, reduceIte, Nat.reduceEqDiff, Nat.reduceAdd, Nat.reduceLT, Nat.reduceLeDiff, reduceCtorEq, n1, n2, n3, n4, n5, n6, n7, n8, n9, n10]
  refine hK _ _ ?_; clear hX hK X K
  show IW _ _ _ _ _ _ _ _
  repeat refine IW.seq ?_
  refine IW.cond rfl (fun hb => absurd hb (by decide)) (fun _ => ?_)
  repeat refine IW.seq ?_
  refine IW.region_seq tab_ok [some 17, some 16] rfl fun X K hX hK => ?_
  simp only [go_sem, if_true, if_false, reduceIte, Nat.reduceEqDiff, Nat.reduceAdd, Nat.reduceLT, Nat.reduceLeDiff, reduceCtorEq, n1, n2, n3, n4, n5, n6, n7, n8, n9, n10]
  refine hK _ _ ?_; clear hX hK X K
  show IW _ _ _ _ _ _ _ _
  repeat refine IW.seq ?_
  refine IW.cond rfl (fun hb => absurd hb (by decide)) (fun _ => ?_)
  repeat refine IW.seq ?_
  refine IW.region_seq tab_ok [some 20, some 19] rfl fun X K hX hK => ?_
  simp only [go_sem, if_true, if_false, reduceIte, Nat.reduceEqDiff, Nat.reduceAdd, Nat.reduceLT, Nat.reduceLeDiff, reduceCtorEq, n1, n2, n3, n4, n5, n6, n7, n8, n9, n10]
  refine hK _ _ ?_; clear hX hK X K
  show IW _ _ _ _ _ _ _ _
  repeat refine IW.seq ?_
  refine IW.cond rfl (fun hb => absurd hb (by decide)) (fun _ => ?_)
  repeat refine IW.seq ?_
  refine IW.region_seq tab_ok [some 23, some 22] rfl fun X K hX hK => ?_
  simp only [go_sem, if_true, if_false, reduceIte, Nat.reduceEqDiff, Nat.reduceAdd, Nat.reduceLT, Nat.reduceLeDiff, reduceCtorEq, n1, n2, n3, n4, n5, n6, n7, n8, n9, n10]
  refine hK _ _ ?_; clear hX hK X K
  show IW _ _ _ _ _ _ _ _
  repeat refine IW.seq ?_
  refine IW.cond rfl (fun hb => absurd hb (by decide)) (fun _ => ?_)
  repeat refine IW.seq ?_
  refine IW.region_seq tab_ok [some 34, some 33] rfl fun X K hX hK => ?_
  simp only [go_sem, if_true, if_false, reduceIte, Nat.reduceEqDiff, Nat.reduceAdd, Nat.reduceLT, Nat.reduceLeDiff, reduceCtorEq, n1, n2, n3, n4, n5, n6, n7, n8, n9, n10]
  refine hK _ _ ?_; clear hX hK X K
  show IW _ _ _ _ _ _ _ _
  repeat refine IW.seq ?_
  refine IW.cond rfl (fun hb => absurd hb (by decide)) (fun _ => ?_)
  refine IW.skip ?_
  show IW _ _ _ _ _ _ _ _
  repeat refine IW.seq ?_
  refine IW.region_seq tab_ok [some 2] rfl fun X K hX hK => ?_
  simp only [go_sem, if_true, if_false, reduceIte, Nat.reduceEqDiff, Nat.reduceAdd, Nat.reduceLT, Nat.reduceLeDiff, reduceCtorEq, n1, n2, n3, n4, n5, n6, n7, n8, n9, n10]
  refine hK _ _ ?_; clear hX hK X K
  show IW _ _ _ _ _ _ _ _
  refine IW.ret (Fin.scal rfl rfl ?_)
  rfl
def rw1 : List ByteArray := drw1.flatMap (·.2)
set_option maxHeartbeats 4000000 in
theorem refRows_1 : FSpec Try.prog 55 [.int .i64 1] (.ref 0 0 rw1.length) [⟨1, 9, strs rw1⟩] := by
  refine FSpec.intro tab_ok Try.func55 rfl rfl rfl (by kernel_rfl) (by simp) fun w0 => ?_
  simp only [argTM, Nat.zero_add, Nat.reduceAdd]
  repeat refine IW.seq ?_
  refine IW.region_seq tab_ok [some 2] rfl fun X K hX hK => ?_
  simp only [go_sem, if_true, if_false, reduceIte, Nat.reduceEqDiff, Nat.reduceAdd, Nat.reduceLT, Nat.reduceLeDiff, reduceCtorEq]
  refine hK _ _ ?_; clear hX hK X K
  show IW _ _ _ _ _ _ _ _
  repeat refine IW.seq ?_
  refine IW.region_seq tab_ok [some 3] rfl fun X K hX hK => ?_
  simp only [go_sem, if_true, if_false, reduceIte, Nat.reduceEqDiff, Nat.reduceAdd, Nat.reduceLT, Nat.reduceLeDiff, reduceCtorEq]
  refine hK _ _ ?_; clear hX hK X K
  show IW _ _ _ _ _ _ _ _
  repeat refine IW.seq ?_
  refine IW.block ?_
  repeat refine IW.seq ?_
  refine IW.region_seq tab_ok [some 5, some 4] rfl fun X K hX hK => ?_
  simp only [go_sem, if_true, if_false, reduceIte, Nat.reduceEqDiff, Nat.reduceAdd, Nat.reduceLT, Nat.reduceLeDiff, reduceCtorEq]
  refine hK _ _ ?_; clear hX hK X K
  show IW _ _ _ _ _ _ _ _
  repeat refine IW.seq ?_
  refine IW.cond rfl (fun _ => ?_) (fun hb => absurd hb (by decide))
  repeat refine IW.seq ?_
  refine IW.region_seq tab_ok [some 6, some 2] rfl fun X K hX hK => ?_
  simp only [go_sem, if_true, if_false, reduceIte, Nat.reduceEqDiff, Nat.reduceAdd, Nat.reduceLT, Nat.reduceLeDiff, reduceCtorEq]
  refine hX.quiet _ _ (OpG.of_B rfl (opB_buildSlice tab_ok rfl (by simp [go_sem, if_true, if_false, reduceIte, Nat.reduceEqDiff, Nat.reduceAdd, Nat.reduceLT, Nat.reduceLeDiff, reduceCtorEq]) (by simp [go_sem, if_true, if_false, reduceIte, Nat.reduceEqDiff, Nat.reduceAdd, Nat.reduceLT, Nat.reduceLeDiff, reduceCtorEq]) (by simp) (by simp [go_sem, if_true, if_false, reduceIte, Nat.reduceEqDiff, Nat.reduceAdd, Nat.reduceLT, Nat.reduceLeDiff, reduceCtorEq, bsO, List.map_cons, List.map_nil]))) ?_
  simp only [go_sem, if_true, if_false, reduceIte, Nat.reduceEqDiff, Nat.reduceAdd, Nat.reduceLT, Nat.reduceLeDiff, reduceCtorEq, List.map_cons, List.map_nil]
  refine hK _ _ ?_; clear hX hK X K
  show IW _ _ _ _ _ _ _ _
  exact IW.ret (Fin.tmp1 0 rfl (strs_nold' _) rfl rfl)
def rw2 : List ByteArray := drw2.flatMap (·.2)
set_option maxHeartbeats 4000000 in
theorem refRows_2 : FSpec Try.prog 55 [.int .i64 2] (.ref 0 0 rw2.length) [⟨1, 9, strs rw2⟩] := by
  refine FSpec.intro tab_ok Try.func55 rfl rfl rfl (by kernel_rfl) (by simp) fun w0 => ?_
  simp only [argTM, Nat.zero_add, Nat.reduceAdd]
  repeat refine IW.seq ?_
  refine IW.region_seq tab_ok [some 2] rfl fun X K hX hK => ?_
  simp only [go_sem, if_true, if_false, reduceIte, Nat.reduceEqDiff, Nat.reduceAdd, Nat.reduceLT, Nat.reduceLeDiff, reduceCtorEq]
  refine hK _ _ ?_; clear hX hK X K
  show IW _ _ _ _ _ _ _ _
  repeat refine IW.seq ?_
  refine IW.region_seq tab_ok [some 3] rfl fun X K hX hK => ?_
  simp only [go_sem, if_true, if_false, reduceIte, Nat.reduceEqDiff, Nat.reduceAdd, Nat.reduceLT, Nat.reduceLeDiff, reduceCtorEq]
  refine hK _ _ ?_; clear hX hK X K
  show IW _ _ _ _ _ _ _ _
  repeat refine IW.seq ?_
  refine IW.block ?_
  repeat refine IW.seq ?_
  refine IW.region_seq tab_ok [some 5, some 4] rfl fun X K hX hK => ?_
  simp only [go_sem, if_true, if_false, reduceIte, Nat.reduceEqDiff, Nat.reduceAdd, Nat.reduceLT, Nat.reduceLeDiff, reduceCtorEq]
  refine hK _ _ ?_; clear hX hK X K
  show IW _ _ _ _ _ _ _ _
  repeat refine IW.seq ?_
  refine IW.cond rfl (fun hb => absurd hb (by decide)) (fun _ => ?_)
  repeat refine IW.seq ?_
  refine IW.region_seq tab_ok [some 8, some 7] rfl fun X K hX hK => ?_
  simp only [go_sem, if_true, if_false, reduceIte, Nat.reduceEqDiff, Nat.reduceAdd, Nat.reduceLT, Nat.reduceLeDiff, reduceCtorEq]
  refine hK _ _ ?_; clear hX hK X K
  show IW _ _ _ _ _ _ _ _
  repeat refine IW.seq ?_
  refine IW.cond rfl (fun _ => ?_) (fun hb => absurd hb (by decide))
  repeat refine IW.seq ?_
  refine IW.region_seq tab_ok [some 9, some 2] rfl fun X K hX hK => ?_
  simp only [go_sem, if_true, if_false, reduceIte, Nat.reduceEqDiff, Nat.reduceAdd, Nat.reduceLT, Nat.reduceLeDiff, reduceCtorEq]
  refine hX.quiet _ _ (OpG.of_B rfl (opB_buildSlice tab_ok rfl (by simp [go_sem, if_true, if_false, reduceIte, Nat.reduceEqDiff, Nat.reduceAdd, Nat.reduceLT, Nat.reduceLeDiff, reduceCtorEq]) (by simp [go_sem, if_true, if_false, reduceIte, Nat.reduceEqDiff, Nat.reduceAdd, Nat.reduceLT, Nat.reduceLeDiff, reduceCtorEq]) (by simp) (by simp [go_sem, if_true, if_false, reduceIte, Nat.reduceEqDiff, Nat.reduceAdd, Nat.reduceLT, Nat.reduceLeDiff, reduceCtorEq, bsO, List.map_cons, List.map_nil]))) ?_
  simp only [go_sem, if_true, if_false, reduceIte, Nat.reduceEqDiff, Nat.reduceAdd, Nat.reduceLT, Nat.reduceLeDiff, reduceCtorEq, List.map_cons, List.map_nil]
  refine hK _ _ ?_; clear hX hK X K
  show IW _ _ _ _ _ _ _ _
  exact IW.ret (Fin.tmp1 0 rfl (strs_nold' _) rfl rfl)
def rw3 : List ByteArray := drw3.flatMap (·.2)
set_option maxHeartbeats 4000000 in
theorem refRows_3 : FSpec Try.prog 55 [.int .i64 3] (.ref 0 0 rw3.length) [⟨1, 9, strs rw3⟩] := by
  refine FSpec.intro tab_ok Try.func55 rfl rfl rfl (by kernel_rfl) (by simp) fun w0 => ?_
  simp only [argTM, Nat.zero_add, Nat.reduceAdd]
  repeat refine IW.seq ?_
  refine IW.region_seq tab_ok [some 2] rfl fun X K hX hK => ?_
  simp only [go_sem, if_true, if_false, reduceIte, Nat.reduceEqDiff, Nat.reduceAdd, Nat.reduceLT, Nat.reduceLeDiff, reduceCtorEq]
  refine hK _ _ ?_; clear hX hK X K
  show IW _ _ _ _ _ _ _ _
  repeat refine IW.seq ?_
  refine IW.region_seq tab_ok [some 3] rfl fun X K hX hK => ?_
  simp only [go_sem, if_true, if_false, reduceIte, Nat.reduceEqDiff, Nat.reduceAdd, Nat.reduceLT, Nat.reduceLeDiff, reduceCtorEq]
  refine hK _ _ ?_; clear hX hK X K
  show IW _ _ _ _ _ _ _ _
  repeat refine IW.seq ?_
  refine IW.block ?_
  repeat refine IW.seq ?_
  refine IW.region_seq tab_ok [some 5, some 4] rfl fun X K hX hK => ?_
  simp only [go_sem, if_true, if_false, reduceIte, Nat.reduceEqDiff, Nat.reduceAdd, Nat.reduceLT, Nat.reduceLeDiff, reduceCtorEq]
  refine hK _ _ ?_; clear hX hK X K
  show IW _ _ _ _ _ _ _ _
  repeat refine IW.seq ?_
  refine IW.cond rfl (fun hb => absurd hb (by decide)) (fun _ => ?_)
  repeat refine IW.seq ?_
  refine IW.region_seq tab_ok [some 8, some 7] rfl fun X K hX hK => ?_
  simp only [go_sem, if_true, if_false, reduceIte, Nat.reduceEqDiff, Nat.reduceAdd, Nat.reduceLT, Nat.reduceLeDiff, reduceCtorEq]
  refine hK _ _ ?_; clear hX hK X K
  show IW _ _ _ _ _ _ _ _
  repeat refine IW.seq ?_
  refine IW.cond rfl (fun hb => absurd hb (by decide)) (fun _ => ?_)
  repeat refine IW.seq ?_
  refine IW.region_seq tab_ok [some 11, some 10] rfl fun X K hX hK => ?_
  simp only [go_sem, if_true, if_false, reduceIte, Nat.reduceEqDiff, Nat.reduceAdd, Nat.reduceLT, Nat.reduceLeDiff, reduceCtorEq]
  refine hK _ _ ?_; clear hX hK X K
  show IW _ _ _ _ _ _ _ _
  repeat refine IW.seq ?_
  refine IW.cond rfl (fun _ => ?_) (fun hb => absurd hb (by decide))
  repeat refine IW.seq ?_
  refine IW.region_seq tab_ok [some 12, some 2] rfl fun X K hX hK => ?_
  simp only [go_sem, if_true, if_false, reduceIte, Nat.reduceEqDiff, Nat.reduceAdd, Nat.reduceLT, Nat.reduceLeDiff, reduceCtorEq]
  refine hX.quiet _ _ (OpG.of_B rfl (opB_buildSlice tab_ok rfl (by simp [go_sem, if_true, if_false, reduceIte, Nat.reduceEqDiff, Nat.reduceAdd, Nat.reduceLT, Nat.reduceLeDiff, reduceCtorEq]) (by simp [go_sem, if_true, if_false, reduceIte, Nat.reduceEqDiff, Nat.reduceAdd, Nat.reduceLT, Nat.reduceLeDiff, reduceCtorEq]) (by simp) (by simp [go_sem, if_true, if_false, reduceIte, Nat.reduceEqDiff, Nat.reduceAdd, Nat.reduceLT, Nat.reduceLeDiff, reduceCtorEq, bsO, List.map_cons, List.map_nil]))) ?_
  simp only [go_sem, if_true, if_false, reduceIte, Nat.reduceEqDiff, Nat.reduceAdd, Nat.reduceLT, Nat.reduceLeDiff, reduceCtorEq, List.map_cons, List.map_nil]
  refine hK _ _ ?_; clear hX hK X K
  show IW _ _ _ _ _ _ _ _
  exact IW.ret (Fin.tmp1 0 rfl (strs_nold' _) rfl rfl)
def rw4 : List ByteArray := drw4.flatMap (·.2)
set_option maxHeartbeats 4000000 in
theorem refRows_4 : FSpec Try.prog 55 [.int .i64 4] (.ref 0 0 rw4.length) [⟨1, 9, strs rw4⟩] := by
  refine FSpec.intro tab_ok Try.func55 rfl rfl rfl (by kernel_rfl) (by simp) fun w0 => ?_
  simp only [argTM, Nat.zero_add, Nat.reduceAdd]
  repeat refine IW.seq ?_
  refine IW.region_seq tab_ok [some 2] rfl fun X K hX hK => ?_
  simp only [go_sem, if_true, if_false, reduceIte, Nat.reduceEqDiff, Nat.reduceAdd, Nat.reduceLT, Nat.reduceLeDiff, reduceCtorEq]
  refine hK _ _ ?_; clear hX hK X K
  show IW _ _ _ _ _ _ _ _
  repeat refine IW.seq ?_
  refine IW.region_seq tab_ok [some 3] rfl fun X K hX hK => ?_
  simp only [go_sem, if_true, if_false, reduceIte, Nat.reduceEqDiff, Nat.reduceAdd, Nat.reduceLT, Nat.reduceLeDiff, reduceCtorEq]
  refine hK _ _ ?_; clear hX hK X K
  show IW _ _ _ _ _ _ _ _
  repeat refine IW.seq ?_
  refine IW.block ?_
  repeat refine IW.seq ?_
  refine IW.region_seq tab_ok [some 5, some 4] rfl fun X K hX hK => ?_
  simp only [go_sem, if_true, if_false, reduceIte, Nat.reduceEqDiff, Nat.reduceAdd, Nat.reduceLT, Nat.reduceLeDiff, reduceCtorEq]
  refine hK _ _ ?_; clear hX hK X K
  show IW _ _ _ _ _ _ _ _
  repeat refine IW.seq ?_
  refine IW.cond rfl (fun hb => absurd hb (by decide)) (fun _ => ?_)
  repeat refine IW.seq ?_
  refine IW.region_seq tab_ok [some 8, some 7] rfl fun X K hX hK => ?_
  simp only [go_sem, if_true, if_false, reduceIte, Nat.reduceEqDiff, Nat.reduceAdd, Nat.reduceLT, Nat.reduceLeDiff, reduceCtorEq]
  refine hK _ _ ?_; clear hX hK X K
  show IW _ _ _ _ _ _ _ _
  repeat refine IW.seq ?_
  refine IW.cond rfl (fun hb => absurd hb (by decide)) (fun _ => ?_)
  repeat refine IW.seq ?_
  refine IW.region_seq tab_ok [some 11, some 10] rfl fun X K hX hK => ?_
  simp only [go_sem, if_true, if_false, reduceIte, Nat.reduceEqDiff, Nat.reduceAdd, Nat.reduceLT, Nat.reduceLeDiff, reduceCtorEq]
  refine hK _ _ ?_; clear hX hK X K
  show IW _ _ _ _ _ _ _ _
  repeat refine IW.seq ?_
  refine IW.cond rfl (fun hb => absurd hb (by decide)) (fun _ => ?_)
  repeat refine IW.seq ?_
  refine IW.region_seq tab_ok [some 14, some 13] rfl fun X K hX hK => ?_
  simp only [go_sem, if_true, if_false, reduceIte, Nat.reduceEqDiff, Nat.reduceAdd, Nat.reduceLT, Nat.reduceLeDiff, reduceCtorEq]
  refine hK _ _ ?_; clear hX hK X K
  show IW _ _ _ _ _ _ _ _
  repeat refine IW.seq ?_
  refine IW.cond rfl (fun _ => ?_) (fun hb => absurd hb (by decide))
  repeat refine IW.seq ?_
  refine IW.region_seq tab_ok [some 15, some 2] rfl fun X K hX hK => ?_
  simp only [go_sem, if_true, if_false, reduceIte, Nat.reduceEqDiff, Nat.reduceAdd, Nat.reduceLT, Nat.reduceLeDiff, reduceCtorEq]
  refine hX.quiet _ _ (OpG.of_B rfl (opB_buildSlice tab_ok rfl (by simp [go_sem, if_true, if_false, reduceIte, Nat.reduceEqDiff, Nat.reduceAdd, Nat.reduceLT, Nat.reduceLeDiff, reduceCtorEq]) (by simp [go_sem, if_true, if_false, reduceIte, Nat.reduceEqDiff, Nat.reduceAdd, Nat.reduceLT, Nat.reduceLeDiff, reduceCtorEq]) (by simp) (by simp [go_sem, if_true, if_false, reduceIte, Nat.reduceEqDiff, Nat.reduceAdd, Nat.reduceLT, Nat.reduceLeDiff, reduceCtorEq, bsO, List.map_cons, List.map_nil]))) ?_
  simp only [go_sem, if_true, if_false, reduceIte, Nat.reduceEqDiff, Nat.reduceAdd, Nat.reduceLT, Nat.reduceLeDiff, reduceCtorEq, List.map_cons, List.map_nil]
  refine hK _ _ ?_; clear hX hK X K
  show IW _ _ _ _ _ _ _ _
  exact IW.ret (Fin.tmp1 0 rfl (strs_nold' _) rfl rfl)
def rw5 : List ByteArray := drw5.flatMap (·.2)
set_option maxHeartbeats 4000000 in
theorem refRows_5 : FSpec Try.prog 55 [.int .i64 5] (.ref 0 0 rw5.length) [⟨1, 9, strs rw5⟩] := by
  refine FSpec.intro tab_ok Try.func55 rfl rfl rfl (by kernel_rfl) (by simp) fun w0 => ?_
  simp only [argTM, Nat.zero_add, Nat.reduceAdd]
  repeat refine IW.seq ?_
  refine IW.region_seq tab_ok [some 2] rfl fun X K hX hK => ?_
  simp only [go_sem, if_true, if_false, reduceIte, Nat.reduceEqDiff, Nat.reduceAdd, Nat.reduceLT, Nat.reduceLeDiff, reduceCtorEq]
  refine hK _ _ ?_; clear hX hK X K
  show IW _ _ _ _ _ _ _ _
  repeat refine IW.seq ?_
  refine IW.region_seq tab_ok [some 3] rfl fun X K hX hK => ?_
  simp only [go_sem, if_true, if_false, reduceIte, Nat.reduceEqDiff, Nat.reduceAdd, Nat.reduceLT, Nat.reduceLeDiff, reduceCtorEq]
  refine hK _ _ ?_; clear hX hK X K
  show IW _ _ _ _ _ _ _ _
  repeat refine IW.seq ?_
  refine IW.block ?_
  repeat refine IW.seq ?_
  refine IW.region_seq tab_ok [some 5, some 4] rfl fun X K hX hK => ?_
  simp only [go_sem, if_true, if_false, reduceIte, Nat.reduceEqDiff, Nat.reduceAdd, Nat.reduceLT, Nat.reduceLeDiff, reduceCtorEq]
  refine hK _ _ ?_; clear hX hK X K
  show IW _ _ _ _ _ _ _ _
  repeat refine IW.seq ?_
  refine IW.cond rfl (fun hb => absurd hb (by decide)) (fun _ => ?_)
  repeat refine IW.seq ?_
  refine IW.region_seq tab_ok [some 8, some 7] rfl fun X K hX hK => ?_
  simp only [go_sem, if_true, if_false, reduceIte, Nat.reduceEqDiff, Nat.reduceAdd, Nat.reduceLT, Nat.reduceLeDiff, reduceCtorEq]
  refine hK _ _ ?_; clear hX hK X K
  show IW _ _ _ _ _ _ _ _
  repeat refine IW.seq ?_
  refine IW.cond rfl (fun hb => absurd hb (by decide)) (fun _ => ?_)
  repeat refine IW.seq ?_
  refine IW.region_seq tab_ok [some 11, some 10] rfl fun X K hX hK => ?_
  simp only [go_sem, if_true, if_false, reduceIte, Nat.reduceEqDiff, Nat.reduceAdd, Nat.reduceLT, Nat.reduceLeDiff, reduceCtorEq]
  refine hK _ _ ?_; clear hX hK X K
  show IW _ _ _ _ _ _ _ _
  repeat refine IW.seq ?_
  refine IW.cond rfl (fun hb => absurd hb (by decide)) (fun _ => ?_)
  repeat refine IW.seq ?_
  refine IW.region_seq tab_ok [some 14, some 13] rfl fun X K hX hK => ?_
  simp only [go_sem, if_true, if_false, reduceIte, Nat.reduceEqDiff, Nat.reduceAdd, Nat.reduceLT, Nat.reduceLeDiff, reduceCtorEq]
  refine hK _ _ ?_; clear hX hK X K
  show IW _ _ _ _ _ _ _ _
  repeat refine IW.seq ?_
  refine IW.cond rfl (fun hb => absurd hb (by decide)) (fun _ => ?_)
  repeat refine IW.seq ?_
  refine IW.region_seq tab_ok [some 17, some 16] rfl fun X K hX hK => ?_
  simp only [go_sem, if_true, if_false, reduceIte, Nat.reduceEqDiff, Nat.reduceAdd, Nat.reduceLT, Nat.reduceLeDiff, reduceCtorEq]
  refine hK _ _ ?_; clear hX hK X K
  show IW _ _ _ _ _ _ _ _
  repeat refine IW.seq ?_
  refine IW.cond rfl (fun _ => ?_) (fun hb => absurd hb (by decide))
  repeat refine IW.seq ?_
  refine IW.region_seq tab_ok [some 18, some 2] rfl fun X K hX hK => ?_
  simp only [go_sem, if_true, if_false, reduceIte, Nat.reduceEqDiff, Nat.reduceAdd, Nat.reduceLT, Nat.reduceLeDiff, reduceCtorEq]
  refine hX.quiet _ _ (OpG.of_B rfl (opB_buildSlice tab_ok rfl (by simp [go_sem, if_true, if_false, reduceIte, Nat.reduceEqDiff, Nat.reduceAdd, Nat.reduceLT, Nat.reduceLeDiff, reduceCtorEq]) (by simp [go_sem, if_true, if_false, reduceIte, Nat.reduceEqDiff, Nat.reduceAdd, Nat.reduceLT, Nat.reduceLeDiff, reduceCtorEq]) (by simp) (by simp [go_sem, if_true, if_false, reduceIte, Nat.reduceEqDiff, Nat.reduceAdd, Nat.reduceLT, Nat.reduceLeDiff, reduceCtorEq, bsO, List.map_cons, List.map_nil]))) ?_
  simp only [go_sem, if_true, if_false, reduceIte, Nat.reduceEqDiff, Nat.reduceAdd, Nat.reduceLT, Nat.reduceLeDiff, reduceCtorEq, List.map_cons, List.map_nil]
  refine hK _ _ ?_; clear hX hK X K
  show IW _ _ _ _ _ _ _ _
  exact IW.ret (Fin.tmp1 0 rfl (strs_nold' _) rfl rfl)
def rw6 : List ByteArray := drw6.flatMap (·.2)
set_option maxHeartbeats 4000000 in
theorem refRows_6 : FSpec Try.prog 55 [.int .i64 6] (.ref 0 0 rw6.length) [⟨1, 9, strs rw6⟩] := by
  refine FSpec.intro tab_ok Try.func55 rfl rfl rfl (by kernel_rfl) (by simp) fun w0 => ?_
  simp only [argTM, Nat.zero_add, Nat.reduceAdd]
  repeat refine IW.seq ?_
  refine IW.region_seq tab_ok [some 2] rfl fun X K hX hK => ?_
  simp only [go_sem, if_true, if_false, reduceIte, Nat.reduceEqDiff, Nat.reduceAdd, Nat.reduceLT, Nat.reduceLeDiff, reduceCtorEq]
  refine hK _ _ ?_; clear hX hK X K
  show IW _ _ _ _ _ _ _ _
  repeat refine IW.seq ?_
  refine IW.region_seq tab_ok [some 3] rfl fun X K hX hK => ?_
  simp only [go_sem, if_true, if_false, reduceIte, Nat.reduceEqDiff, Nat.reduceAdd, Nat.reduceLT, Nat.reduceLeDiff, reduceCtorEq]
  refine hK _ _ ?_; clear hX hK X K
  show IW _ _ _ _ _ _ _ _
  repeat refine IW.seq ?_
  refine IW.block ?_
  repeat refine IW.seq ?_
  refine IW.region_seq tab_ok [some 5, some 4] rfl fun X K hX hK => ?_
  simp only [go_sem, if_true, if_false, reduceIte, Nat.reduceEqDiff, Nat.reduceAdd, Nat.reduceLT, Nat.reduceLeDiff, reduceCtorEq]
  refine hK _ _ ?_; clear hX hK X K
  show IW _ _ _ _ _ _ _ _
  repeat refine IW.seq ?_
  refine IW.cond rfl (fun hb => absurd hb (by decide)) (fun _ => ?_)
  repeat refine IW.seq ?_
  refine IW.region_seq tab_ok [some 8, some 7] rfl fun X K hX hK => ?_
  simp only [go_sem, if_true, if_false, reduceIte, Nat.reduceEqDiff, Nat.reduceAdd, Nat.reduceLT, Nat.reduceLeDiff, reduceCtorEq]
  refine hK _ _ ?_; clear hX hK X K
  show IW _ _ _ _ _ _ _ _
  repeat refine IW.seq ?_
  refine IW.cond rfl (fun hb => absurd hb (by decide)) (fun _ => ?_)
  repeat refine IW.seq ?_
  refine IW.region_seq tab_ok [some 11, some 10] rfl fun X K hX hK => ?_
  simp only [go_sem, if_true, if_false, reduceIte, Nat.reduceEqDiff, Nat.reduceAdd, Nat.reduceLT, Nat.reduceLeDiff, reduceCtorEq]
  refine hK _ _ ?_; clear hX hK X K
  show IW _ _ _ _ _ _ _ _
  repeat refine IW.seq ?_
  refine IW.cond rfl (fun hb => absurd hb (by decide)) (fun _ => ?_)
  repeat refine IW.seq ?_
  refine IW.region_seq tab_ok [some 14, some 13] rfl fun X K hX hK => ?_
  simp only [go_sem, if_true, if_false, reduceIte, Nat.reduceEqDiff, Nat.reduceAdd, Nat.reduceLT, Nat.reduceLeDiff, reduceCtorEq]
  refine hK _ _ ?_; clear hX hK X K
  show IW _ _ _ _ _ _ _ _
  repeat refine IW.seq ?_
  refine IW.cond rfl (fun hb => absurd hb (by decide)) (fun _ => ?_)
  repeat refine IW.seq ?_
  refine IW.region_seq tab_ok [some 17, some 16] rfl fun X K hX hK => ?_
  simp only [go_sem, if_true, if_false, reduceIte, Nat.reduceEqDiff, Nat.reduceAdd, Nat.reduceLT, Nat.reduceLeDiff, reduceCtorEq]
  refine hK _ _ ?_; clear hX hK X K
  show IW _ _ _ _ _ _ _ _
  repeat refine IW.seq ?_
  refine IW.cond rfl (fun hb => absurd hb (by decide)) (fun _ => ?_)
  repeat refine IW.seq ?_
  refine IW.region_seq tab_ok [some 20, some 19] rfl fun X K hX hK => ?_
  simp only [go_sem, if_true, if_false, reduceIte, Nat.reduceEqDiff, Nat.reduceAdd, Nat.reduceLT, Nat.reduceLeDiff, reduceCtorEq]
  refine hK _ _ ?_; clear hX hK X K
  show IW _ _ _ _ _ _ _ _
  repeat refine IW.seq ?_
  refine IW.cond rfl (fun _ => ?_) (fun hb => absurd hb (by decide))
  repeat refine IW.seq ?_
  refine IW.region_seq tab_ok [some 21, some 2] rfl fun X K hX hK => ?_
  simp only [go_sem, if_true, if_false, reduceIte, Nat.reduceEqDiff, Nat.reduceAdd, Nat.reduceLT, Nat.reduceLeDiff, reduceCtorEq]
  refine hX.quiet _ _ (OpG.of_B rfl (opB_buildSlice tab_ok rfl (by simp [go_sem, if_true, if_false, reduceIte, Nat.reduceEqDiff, Nat.reduceAdd, Nat.reduceLT, Nat.reduceLeDiff, reduceCtorEq]) (by simp [go_sem, if_true, if_false, reduceIte, Nat.reduceEqDiff, Nat.reduceAdd, Nat.reduceLT, Nat.reduceLeDiff, reduceCtorEq]) (by simp) (by simp [go_sem, if_true, if_false, reduceIte, Nat.reduceEqDiff, Nat.reduceAdd, Nat.reduceLT, Nat.reduceLeDiff, reduceCtorEq, bsO, List.map_cons, List.map_nil]))) ?_
  simp only [go_sem, if_true, if_false, reduceIte, Nat.reduceEqDiff, Nat.reduceAdd, Nat.reduceLT, Nat.reduceLeDiff, reduceCtorEq, List.map_cons, List.map_nil]
  refine hK _ _ ?_; clear hX hK X K
  show IW _ _ _ _ _ _ _ _
  exact IW.ret (Fin.tmp1 0 rfl (strs_nold' _) rfl rfl)
def rw7 : List ByteArray := drw7.flatMap (·.2)
set_option maxHeartbeats 4000000 in
theorem refRows_7 : FSpec Try.prog 55 [.int .i64 7] (.ref 0 0 rw7.length) [⟨1, 9, strs rw7⟩] := by
  refine FSpec.intro tab_ok Try.func55 rfl rfl rfl (by kernel_rfl) (by simp) fun w0 => ?_
  simp only [argTM, Nat.zero_add, Nat.reduceAdd]
  repeat refine IW.seq ?_
  refine IW.region_seq tab_ok [some 2] rfl fun X K hX hK => ?_
  simp only [go_sem, if_true, if_false, reduceIte, Nat.reduceEqDiff, Nat.reduceAdd, Nat.reduceLT, Nat.reduceLeDiff, reduceCtorEq]
  refine hK _ _ ?_; clear hX hK X K
  show IW _ _ _ _ _ _ _ _
  repeat refine IW.seq ?_
  refine IW.region_seq tab_ok [some 3] rfl fun X K hX hK => ?_
  simp only [go_sem, if_true, if_false, reduceIte, Nat.reduceEqDiff, Nat.reduceAdd, Nat.reduceLT, Nat.reduceLeDiff, reduceCtorEq]
  refine hK _ _ ?_; clear hX hK X K
  show IW _ _ _ _ _ _ _ _
  repeat refine IW.seq ?_
  refine IW.block ?_
  repeat refine IW.seq ?_
  refine IW.region_seq tab_ok [some 5, some 4] rfl fun X K hX hK => ?_
  simp only [go_sem, if_true, if_false, reduceIte, Nat.reduceEqDiff, Nat.reduceAdd, Nat.reduceLT, Nat.reduceLeDiff, reduceCtorEq]
  refine hK _ _ ?_; clear hX hK X K
  show IW _ _ _ _ _ _ _ _
  repeat refine IW.seq ?_
  refine IW.cond rfl (fun hb => absurd hb (by decide)) (fun _ => ?_)
  repeat refine IW.seq ?_
  refine IW.region_seq tab_ok [some 8, some 7] rfl fun X K hX hK => ?_
  simp only [go_sem, if_true, if_false, reduceIte, Nat.reduceEqDiff, Nat.reduceAdd, Nat.reduceLT, Nat.reduceLeDiff, reduceCtorEq]
  refine hK _ _ ?_; clear hX hK X K
  show IW _ _ _ _ _ _ _ _
  repeat refine IW.seq ?_
  refine IW.cond rfl (fun hb => absurd hb (by decide)) (fun _ => ?_)
  repeat refine IW.seq ?_
  refine IW.region_seq tab_ok [some 11, some 10] rfl fun X K hX hK => ?_
  simp only [go_sem, if_true, if_false, reduceIte, Nat.reduceEqDiff, Nat.reduceAdd, Nat.reduceLT, Nat.reduceLeDiff, reduceCtorEq]
  refine hK _ _ ?_; clear hX hK X K
  show IW _ _ _ _ _ _ _ _
  repeat refine IW.seq ?_
  refine IW.cond rfl (fun hb => absurd hb (by decide)) (fun _ => ?_)
  repeat refine IW.seq ?_
  refine IW.region_seq tab_ok [some 14, some 13] rfl fun X K hX hK => ?_
  simp only [go_sem, if_true, if_false, reduceIte, Nat.reduceEqDiff, Nat.reduceAdd, Nat.reduceLT, Nat.reduceLeDiff, reduceCtorEq]
  refine hK _ _ ?_; clear hX hK X K
  show IW _ _ _ _ _ _ _ _
  repeat refine IW.seq ?_
  refine IW.cond rfl (fun hb => absurd hb (by decide)) (fun _ => ?_)
  repeat refine IW.seq ?_
  refine IW.region_seq tab_ok [some 17, some 16] rfl fun X K hX hK => ?_
  simp only [go_sem, if_true, if_false, reduceIte, Nat.reduceEqDiff, Nat.reduceAdd, Nat.reduceLT, Nat.reduceLeDiff, reduceCtorEq]
  refine hK _ _ ?_; clear hX hK X K
  show IW _ _ _ _ _ _ _ _
  repeat refine IW.seq ?_
  refine IW.cond rfl (fun hb => absurd hb (by decide)) (fun _ => ?_)
  repeat refine IW.seq ?_
  refine IW.region_seq tab_ok [some 20, some 19] rfl fun X K hX hK => ?_
  simp only [go_sem, if_true, if_false, reduceIte, Nat.reduceEqDiff, Nat.reduceAdd, Nat.reduceLT, Nat.reduceLeDiff, reduceCtorEq]
  refine hK _ _ ?_; clear hX hK X K
  show IW _ _ _ _ _ _ _ _
  repeat refine IW.seq ?_
  refine IW.cond rfl (fun hb => absurd hb (by decide)) (fun _ => ?_)
  repeat refine IW.seq ?_
  refine IW.region_seq tab_ok [some 23, some 22] rfl fun X K hX hK => ?_
  simp only [go_sem, if_true, if_false, reduceIte, Nat.reduceEqDiff, Nat.reduceAdd, Nat.reduceLT, Nat.reduceLeDiff, reduceCtorEq]
  refine hK _ _ ?_; clear hX hK X K
  show IW _ _ _ _ _ _ _ _
  repeat refine IW.seq ?_
  refine IW.cond rfl (fun _ => ?_) (fun hb => absurd hb (by decide))
  repeat refine IW.seq ?_
  refine IW.region_seq tab_ok [some 24, some 2] rfl fun X K hX hK => ?_
  simp only [go_sem, if_true, if_false, reduceIte, Nat.reduceEqDiff, Nat.reduceAdd, Nat.reduceLT, Nat.reduceLeDiff, reduceCtorEq]
  refine hX.quiet _ _ (OpG.of_B rfl (opB_buildSlice tab_ok rfl (by simp [go_sem, if_true, if_false, reduceIte, Nat.reduceEqDiff, Nat.reduceAdd, Nat.reduceLT, Nat.reduceLeDiff, reduceCtorEq]) (by simp [go_sem, if_true, if_false, reduceIte, Nat.reduceEqDiff, Nat.reduceAdd, Nat.reduceLT, Nat.reduceLeDiff, reduceCtorEq]) (by simp) (by simp [go_sem, if_true, if_false, reduceIte, Nat.reduceEqDiff, Nat.reduceAdd, Nat.reduceLT, Nat.reduceLeDiff, reduceCtorEq, bsO, List.map_cons, List.map_nil]))) ?_
  simp only [go_sem, if_true, if_false, reduceIte, Nat.reduceEqDiff, Nat.reduceAdd, Nat.reduceLT, Nat.reduceLeDiff, reduceCtorEq, List.map_cons, List.map_nil]
  refine hK _ _ ?_; clear hX hK X K
  show IW _ _ _ _ _ _ _ _
  exact IW.ret (Fin.tmp1 0 rfl (strs_nold' _) rfl rfl)
def rw8 : List ByteArray := drw8.flatMap (·.2)
set_option maxHeartbeats 4000000 in
theorem refRows_8 : FSpec Try.prog 55 [.int .i64 8] (.ref 0 0 rw8.length) [⟨1, 9, strs rw8⟩] := by
  refine FSpec.intro tab_ok Try.func55 rfl rfl rfl (by kernel_rfl) (by simp) fun w0 => ?_
  simp only [argTM, Nat.zero_add, Nat.reduceAdd]
  repeat refine IW.seq ?_
  refine IW.region_seq tab_ok [some 2] rfl fun X K hX hK => ?_
  simp only [go_sem, if_true, if_false, reduceIte, Nat.reduceEqDiff, Nat.reduceAdd, Nat.reduceLT, Nat.reduceLeDiff, reduceCtorEq]
  refine hK _ _ ?_; clear hX hK X K
  show IW _ _ _ _ _ _ _ _
  repeat refine IW.seq ?_
  refine IW.region_seq tab_ok [some 3] rfl fun X K hX hK => ?_
  simp only [go_sem, if_true, if_false, reduceIte, Nat.reduceEqDiff, Nat.reduceAdd, Nat.reduceLT, Nat.reduceLeDiff, reduceCtorEq]
  refine hK _ _ ?_; clear hX hK X K
  show IW _ _ _ _ _ _ _ _
  repeat refine IW.seq ?_
  refine IW.block ?_
  repeat refine IW.seq ?_
  refine IW.region_seq tab_ok [some 5, some 4] rfl fun X K hX hK => ?_
  simp only [go_sem, if_true, if_false, reduceIte, Nat.reduceEqDiff, Nat.reduceAdd, Nat.reduceLT, Nat.reduceLeDiff, reduceCtorEq]
  refine hK _ _ ?_; clear hX hK X K
  show IW _ _ _ _ _ _ _ _
  repeat refine IW.seq ?_
  refine IW.cond rfl (fun hb => absurd hb (by decide)) (fun _ => ?_)
  repeat refine IW.seq ?_
  refine IW.region_seq tab_ok [some 8, some 7] rfl fun X K hX hK => ?_
  simp only [go_sem, if_true, if_false, reduceIte, Nat.reduceEqDiff, Nat.reduceAdd, Nat.reduceLT, Nat.reduceLeDiff, reduceCtorEq]
  refine hK _ _ ?_; clear hX hK X K
  show IW _ _ _ _ _ _ _ _
  repeat refine IW.seq ?_
  refine IW.cond rfl (fun hb => absurd hb (by decide)) (fun _ => ?_)
  repeat refine IW.seq ?_
  refine IW.region_seq tab_ok [some 11, some 10] rfl fun X K hX hK => ?_
  simp only [go_sem, if_true, if_false, reduceIte, Nat.reduceEqDiff, Nat.reduceAdd, Nat.reduceLT, Nat.reduceLeDiff, reduceCtorEq]
  refine hK _ _ ?_; clear hX hK X K
  show IW _ _ _ _ _ _ _ _
  repeat refine IW.seq ?_
  refine IW.cond rfl (fun hb => absurd hb (by decide)) (fun _ => ?_)
  repeat refine IW.seq ?_
  refine IW.region_seq tab_ok [some 14, some 13] rfl fun X K hX hK => ?_
  simp only [go_sem, if_true, if_false, reduceIte, Nat.reduceEqDiff, Nat.reduceAdd, Nat.reduceLT, Nat.reduceLeDiff, reduceCtorEq]
  refine hK _ _ ?_; clear hX hK X K
  show IW _ _ _ _ _ _ _ _
  repeat refine IW.seq ?_
  refine IW.cond rfl (fun hb => absurd hb (by decide)) (fun _ => ?_)
  repeat refine IW.seq ?_
  refine IW.region_seq tab_ok [some 17, some 16] rfl fun X K hX hK => ?_
  simp only [go_sem, if_true, if_false, reduceIte, Nat.reduceEqDiff, Nat.reduceAdd, Nat.reduceLT, Nat.reduceLeDiff, reduceCtorEq]
  refine hK _ _ ?_; clear hX hK X K
  show IW _ _ _ _ _ _ _ _
  repeat refine IW.seq ?_
  refine IW.cond rfl (fun hb => absurd hb (by decide)) (fun _ => ?_)
  repeat refine IW.seq ?_
  refine IW.region_seq tab_ok [some 20, some 19] rfl fun X K hX hK => ?_
  simp only [go_sem, if_true, if_false, reduceIte, Nat.reduceEqDiff, Nat.reduceAdd, Nat.reduceLT, Nat.reduceLeDiff, reduceCtorEq]
  refine hK _ _ ?_; clear hX hK X K
  show IW _ _ _ _ _ _ _ _
  repeat refine IW.seq ?_
  refine IW.cond rfl (fun hb => absurd hb (by decide)) (fun _ => ?_)
  repeat refine IW.seq ?_
  refine IW.region_seq tab_ok [some 23, some 22] rfl fun X K hX hK => ?_
  simp only [go_sem, if_true, if_false, reduceIte, Nat.reduceEqDiff, Nat.reduceAdd, Nat.reduceLT, Nat.reduceLeDiff, reduceCtorEq]
  refine hK _ _ ?_; clear hX hK X K
  show IW _ _ _ _ _ _ _ _
  repeat refine IW.seq ?_
  refine IW.cond rfl (fun hb => absurd hb (by decide)) (fun _ => ?_)
  repeat refine IW.seq ?_
  refine IW.region_seq tab_ok [some 26, some 25] rfl fun X K hX hK => ?_
  simp only [go_sem, if_true, if_false, reduceIte, Nat.reduceEqDiff, Nat.reduceAdd, Nat.reduceLT, Nat.reduceLeDiff, reduceCtorEq]
  refine hK _ _ ?_; clear hX hK X K
  show IW _ _ _ _ _ _ _ _
  repeat refine IW.seq ?_
  refine IW.cond rfl (fun _ => ?_) (fun hb => absurd hb (by decide))
  repeat refine IW.seq ?_
  refine IW.region_seq tab_ok [some 27, some 2] rfl fun X K hX hK => ?_
  simp only [go_sem, if_true, if_false, reduceIte, Nat.reduceEqDiff, Nat.reduceAdd, Nat.reduceLT, Nat.reduceLeDiff, reduceCtorEq]
  refine hX.quiet _ _ (OpG.of_B rfl (opB_buildSlice tab_ok rfl (by simp [go_sem, if_true, if_false, reduceIte, Nat.reduceEqDiff, Nat.reduceAdd, Nat.reduceLT, Nat.reduceLeDiff, reduceCtorEq]) (by simp [go_sem, if_true, if_false, reduceIte, Nat.reduceEqDiff, Nat.reduceAdd, Nat.reduceLT, Nat.reduceLeDiff, reduceCtorEq]) (by simp) (by simp [go_sem, if_true, if_false, reduceIte, Nat.reduceEqDiff, Nat.reduceAdd, Nat.reduceLT, Nat.reduceLeDiff, reduceCtorEq, bsO, List.map_cons, List.map_nil]))) ?_
  simp only [go_sem, if_true, if_false, reduceIte, Nat.reduceEqDiff, Nat.reduceAdd, Nat.reduceLT, Nat.reduceLeDiff, reduceCtorEq, List.map_cons, List.map_nil]
  refine hK _ _ ?_; clear hX hK X K
  show IW _ _ _ _ _ _ _ _
  exact IW.ret (Fin.tmp1 0 rfl (strs_nold' _) rfl rfl)
def rw10 : List ByteArray := drw10.flatMap (·.2)
set_option maxHeartbeats 4000000 in
theorem refRows_10 : FSpec Try.prog 55 [.int .i64 10] (.ref 0 0 rw10.length) [⟨1, 9, strs rw10⟩] := by
  refine FSpec.intro tab_ok Try.func55 rfl rfl rfl (by kernel_rfl) (by simp) fun w0 => ?_
  simp only [argTM, Nat.zero_add, Nat.reduceAdd]
  repeat refine IW.seq ?_
  refine IW.region_seq tab_ok [some 2] rfl fun X K hX hK => ?_
  simp only [go_sem, if_true, if_false, reduceIte, Nat.reduceEqDiff, Nat.reduceAdd, Nat.reduceLT, Nat.reduceLeDiff, reduceCtorEq]
  refine hK _ _ ?_; clear hX hK X K
  show IW _ _ _ _ _ _ _ _
  repeat refine IW.seq ?_
  refine IW.region_seq tab_ok [some 3] rfl fun X K hX hK => ?_
  simp only [go_sem, if_true, if_false, reduceIte, Nat.reduceEqDiff, Nat.reduceAdd, Nat.reduceLT, Nat.reduceLeDiff, reduceCtorEq]
  refine hK _ _ ?_; clear hX hK X K
  show IW _ _ _ _ _ _ _ _
  repeat refine IW.seq ?_
  refine IW.block ?_
  repeat refine IW.seq ?_
  refine IW.region_seq tab_ok [some 5, some 4] rfl fun X K hX hK => ?_
  simp only [go_sem, if_true, if_false, reduceIte, Nat.reduceEqDiff, Nat.reduceAdd, Nat.reduceLT, Nat.reduceLeDiff, reduceCtorEq]
  refine hK _ _ ?_; clear hX hK X K
  show IW _ _ _ _ _ _ _ _
  repeat refine IW.seq ?_
  refine IW.cond rfl (fun hb => absurd hb (by decide)) (fun _ => ?_)
  repeat refine IW.seq ?_
  refine IW.region_seq tab_ok [some 8, some 7] rfl fun X K hX hK => ?_
  simp only [go_sem, if_true, if_false, reduceIte, Nat.reduceEqDiff, Nat.reduceAdd, Nat.reduceLT, Nat.reduceLeDiff, reduceCtorEq]
  refine hK _ _ ?_; clear hX hK X K
  show IW _ _ _ _ _ _ _ _
  repeat refine IW.seq ?_
  refine IW.cond rfl (fun hb => absurd hb (by decide)) (fun _ => ?_)
  repeat refine IW.seq ?_
  refine IW.region_seq tab_ok [some 11, some 10] rfl fun X K hX hK => ?_
  simp only [go_sem, if_true, if_false, reduceIte, Nat.reduceEqDiff, Nat.reduceAdd, Nat.reduceLT, Nat.reduceLeDiff, reduceCtorEq]
  refine hK _ _ ?_; clear hX hK X K
  show IW _ _ _ _ _ _ _ _
  repeat refine IW.seq ?_
  refine IW.cond rfl (fun hb => absurd hb (by decide)) (fun _ => ?_)
  repeat refine IW.seq ?_
  refine IW.region_seq tab_ok [some 14, some 13] rfl fun X K hX hK => ?_
  simp only [go_sem, if_true, if_false, reduceIte, Nat.reduceEqDiff, Nat.reduceAdd, Nat.reduceLT, Nat.reduceLeDiff, reduceCtorEq]
  refine hK _ _ ?_; clear hX hK X K
  show IW _ _ _ _ _ _ _ _
  repeat refine IW.seq ?_
  refine IW.cond rfl (fun hb => absurd hb (by decide)) (fun _ => ?_)
  repeat refine IW.seq ?_
  refine IW.region_seq tab_ok [some 17, some 16] rfl fun X K hX hK => ?_
  simp only [go_sem, if_true, if_false, reduceIte, Nat.reduceEqDiff, Nat.reduceAdd, Nat.reduceLT, Nat.reduceLeDiff, reduceCtorEq]
  refine hK _ _ ?_; clear hX hK X K
  show IW _ _ _ _ _ _ _ _
  repeat refine IW.seq ?_
  refine IW.cond rfl (fun hb => absurd hb (by decide)) (fun _ => ?_)
  repeat refine IW.seq ?_
  refine IW.region_seq tab_ok [some 20, some 19] rfl fun X K hX hK => ?_
  simp only [go_sem, if_true, if_false, reduceIte, Nat.reduceEqDiff, Nat.reduceAdd, Nat.reduceLT, Nat.reduceLeDiff, reduceCtorEq]
  refine hK _ _ ?_; clear hX hK X K
  show IW _ _ _ _ _ _ _ _
  repeat refine IW.seq ?_
  refine IW.cond rfl (fun hb => absurd hb (by decide)) (fun _ => ?_)
  repeat refine IW.seq ?_
  refine IW.region_seq tab_ok [some 23, some 22] rfl fun X K hX hK => ?_
  simp only [go_sem, if_true, if_false, reduceIte, Nat.reduceEqDiff, Nat.reduceAdd, Nat.reduceLT, Nat.reduceLeDiff, reduceCtorEq]
  refine hK _ _ ?_; clear hX hK X K
  show IW _ _ _ _ _ _ _ _
  repeat refine IW.seq ?_
  refine IW.cond rfl (fun hb => absurd hb (by decide)) (fun _ => ?_)
  repeat refine IW.seq ?_
  refine IW.region_seq tab_ok [some 26, some 25] rfl fun X K hX hK => ?_
  simp only [go_sem, if_true, if_false, reduceIte, Nat.reduceEqDiff, Nat.reduceAdd, Nat.reduceLT, Nat.reduceLeDiff, reduceCtorEq]
  refine hK _ _ ?_; clear hX hK X K
  show IW _ _ _ _ _ _ _ _
  repeat refine IW.seq ?_
  refine IW.cond rfl (fun hb => absurd hb (by decide)) (fun _ => ?_)
  repeat refine IW.seq ?_
  refine IW.region_seq tab_ok [some 29, some 28] rfl fun X K hX hK => ?_
  simp only [go_sem, if_true, if_false, reduceIte, Nat.reduceEqDiff, Nat.reduceAdd, Nat.reduceLT, Nat.reduceLeDiff, reduceCtorEq]
  refine hK _ _ ?_; clear hX hK X K
  show IW _ _ _ _ _ _ _ _
  repeat refine IW.seq ?_
  refine IW.cond rfl (fun _ => ?_) (fun hb => absurd hb (by decide))
  repeat refine IW.seq ?_
  refine IW.region_seq tab_ok [some 30, some 2] rfl fun X K hX hK => ?_
  simp only [go_sem, if_true, if_false, reduceIte, Nat.reduceEqDiff, Nat.reduceAdd, Nat.reduceLT, Nat.reduceLeDiff, reduceCtorEq]
  refine hX.quiet _ _ (OpG.of_B rfl (opB_buildSlice tab_ok rfl (by simp [go_sem, if_true, if_false, reduceIte, Nat.reduceEqDiff, Nat.reduceAdd, Nat.reduceLT, Nat.reduceLeDiff, reduceCtorEq]) (by simp [go_sem, if_true, if_false, reduceIte, Nat.reduceEqDiff, Nat.reduceAdd, Nat.reduceLT, Nat.reduceLeDiff, reduceCtorEq]) (by simp) (by simp [go_sem, if_true, if_false, reduceIte, Nat.reduceEqDiff, Nat.reduceAdd, Nat.reduceLT, Nat.reduceLeDiff, reduceCtorEq, bsO, List.map_cons, List.map_nil]))) ?_
  simp only [go_sem, if_true, if_false, reduceIte, Nat.reduceEqDiff, Nat.reduceAdd, Nat.reduceLT, Nat.reduceLeDiff, reduceCtorEq, List.map_cons, List.map_nil]
  refine hK _ _ ?_; clear hX hK X K
  show IW _ _ _ _ _ _ _ _
  exact IW.ret (Fin.tmp1 0 rfl (strs_nold' _) rfl rfl)
theorem refRows_9 : FSpec Try.prog 55 [.int .i64 9] .nils [] := by
  refine FSpec.intro tab_ok Try.func55 rfl rfl rfl (by kernel_rfl) (by simp) fun w0 => ?_
  simp only [argTM, Nat.zero_add, Nat.reduceAdd]
  repeat refine IW.seq ?_
  refine IW.region_seq tab_ok [some 2] rfl fun X K hX hK => ?_
  simp only [go_sem, if_true, if_false, reduceIte, Nat.reduceEqDiff, Nat.reduceAdd, Nat.reduceLT, Nat.reduceLeDiff, reduceCtorEq]
  refine hK _ _ ?_; clear hX hK X K
  show IW _ _ _ _ _ _ _ _
  repeat refine IW.seq ?_
  refine IW.region_seq tab_ok [some 3] rfl fun X K hX hK => ?_
  simp only [go_sem, if_true, if_false, reduceIte, Nat.reduceEqDiff, Nat.reduceAdd, Nat.reduceLT, Nat.reduceLeDiff, reduceCtorEq]
  refine hK _ _ ?_; clear hX hK X K
  show IW _ _ _ _ _ _ _ _
  repeat refine IW.seq ?_
  refine IW.block ?_
  repeat refine IW.seq ?_
  refine IW.region_seq tab_ok [some 5, some 4] rfl fun X K hX hK => ?_
  simp only [go_sem, if_true, if_false, reduceIte, Nat.reduceEqDiff, Nat.reduceAdd, Nat.reduceLT, Nat.reduceLeDiff, reduceCtorEq]
  refine hK _ _ ?_; clear hX hK X K
  show IW _ _ _ _ _ _ _ _
  repeat refine IW.seq ?_
  refine IW.cond rfl (fun hb => absurd hb (by decide)) (fun _ => ?_)
  repeat refine IW.seq ?_
  refine IW.region_seq tab_ok [some 8, some 7] rfl fun X K hX hK => ?_
  simp only [go_sem, if_true, if_false, reduceIte, Nat.reduceEqDiff, Nat.reduceAdd, Nat.reduceLT, Nat.reduceLeDiff, reduceCtorEq]
  refine hK _ _ ?_; clear hX hK X K
  show IW _ _ _ _ _ _ _ _
  repeat refine IW.seq ?_
  refine IW.cond rfl (fun hb => absurd hb (by decide)) (fun _ => ?_)
  repeat refine IW.seq ?_
  refine IW.region_seq tab_ok [some 11, some 10] rfl fun X K hX hK => ?_
  simp only [go_sem, if_true, if_false, reduceIte, Nat.reduceEqDiff, Nat.reduceAdd, Nat.reduceLT, Nat.reduceLeDiff, reduceCtorEq]
  refine hK _ _ ?_; clear hX hK X K
  show IW _ _ _ _ _ _ _ _
  repeat refine IW.seq ?_
  refine IW.cond rfl (fun hb => absurd hb (by decide)) (fun _ => ?_)
  repeat refine IW.seq ?_
  refine IW.region_seq tab_ok [some 14, some 13] rfl fun X K hX hK => ?_
  simp only [go_sem, if_true, if_false, reduceIte, Nat.reduceEqDiff, Nat.reduceAdd, Nat.reduceLT, Nat.reduceLeDiff, reduceCtorEq]
  refine hK _ _ ?_; clear hX hK X K
  show IW _ _ _ _ _ _ _ _
  repeat refine IW.seq ?_
  refine IW.cond rfl (fun hb => absurd hb (by decide)) (fun _ => ?_)
  repeat refine IW.seq ?_
  refine IW.region_seq tab_ok [some 17, some 16] rfl fun X K hX hK => ?_
  simp only [go_sem, if_true, if_false, reduceIte, Nat.reduceEqDiff, Nat.reduceAdd, Nat.reduceLT, Nat.reduceLeDiff, reduceCtorEq]
  refine hK _ _ ?_; clear hX hK X K
  show IW _ _ _ _ _ _ _ _
  repeat refine IW.seq ?_
  refine IW.cond rfl (fun hb => absurd hb (by decide)) (fun _ => ?_)
  repeat refine IW.seq ?_
  refine IW.region_seq tab_ok [some 20, some 19] rfl fun X K hX hK => ?_
  simp only [go_sem, if_true, if_false, reduceIte, Nat.reduceEqDiff, Nat.reduceAdd, Nat.reduceLT, Nat.reduceLeDiff, reduceCtorEq]
  refine hK _ _ ?_; clear hX hK X K
  show IW _ _ _ _ _ _ _ _
  repeat refine IW.seq ?_
  refine IW.cond rfl (fun hb => absurd hb (by decide)) (fun _ => ?_)
  repeat refine IW.seq ?_
  refine IW.region_seq tab_ok [some 23, some 22] rfl fun X K hX hK => ?_
  simp only [go_sem, if_true, if_false, reduceIte, Nat.reduceEqDiff, Nat.reduceAdd, Nat.reduceLT, Nat.reduceLeDiff, reduceCtorEq]
  refine hK _ _ ?_; clear hX hK X K
  show IW _ _ _ _ _ _ _ _
  repeat refine IW.seq ?_
  refine IW.cond rfl (fun hb => absurd hb (by decide)) (fun _ => ?_)
  repeat refine IW.seq ?_
  refine IW.region_seq tab_ok [some 26, some 25] rfl fun X K hX hK => ?_
  simp only [go_sem, if_true, if_false, reduceIte, Nat.reduceEqDiff, Nat.reduceAdd, Nat.reduceLT, Nat.reduceLeDiff, reduceCtorEq]
  refine hK _ _ ?_; clear hX hK X K
  show IW _ _ _ _ _ _ _ _
  repeat refine IW.seq ?_
  refine IW.cond rfl (fun hb => absurd hb (by decide)) (fun _ => ?_)
  repeat refine IW.seq ?_
  refine IW.region_seq tab_ok [some 29, some 28] rfl fun X K hX hK => ?_
  simp only [go_sem, if_true, if_false, reduceIte, Nat.reduceEqDiff, Nat.reduceAdd, Nat.reduceLT, Nat.reduceLeDiff, reduceCtorEq]
  refine hK _ _ ?_; clear hX hK X K
  show IW _ _ _ _ _ _ _ _
  repeat refine IW.seq ?_
  refine IW.cond rfl (fun hb => absurd hb (by decide)) (fun _ => ?_)
  refine IW.skip ?_
  show IW _ _ _ _ _ _ _ _
  repeat refine IW.seq ?_
  refine IW.region_seq tab_ok [some 2] rfl fun X K hX hK => ?_
  simp only [go_sem, if_true, if_false, reduceIte, Nat.reduceEqDiff, Nat.reduceAdd, Nat.reduceLT, Nat.reduceLeDiff, reduceCtorEq]
  refine hK _ _ ?_; clear hX hK X K
  show IW _ _ _ _ _ _ _ _
  refine IW.ret (Fin.scal rfl rfl ?_)
  rfl
end Go.Proofs.Ytnbpbehlemaeoaa

set_option linter.unusedVariables false
set_option linter.unusedSimpArgs false
set_option maxRecDepth 10000
namespace Go.Proofs.Ytnbpbehlemaeoaa
open Go.IL
def dotF (y : Int) : Bool := y == 8 || y == 9 || y == 14 || y == 15
/-- The reference's barlines. -/
def barF (v x y : Int) : Bool :=
  if v == 1 then x == 5 else if v == 2 then x == 4 || x == 6 else if v == 3 then x == 4 || x == 6 || x == 7
  else if v == 4 then x == 3 || x == 4 || x == 6 || (dotF y && (x == 8 || x == 9)) else x == 4 || x == 6 || x == 7 || (dotF y && (x == 1 || x == 2))
set_option maxHeartbeats 2000000 in
theorem refBar_1 (x y : Int) : FSpec Try.prog 56 [.int .i64 1, .int .i64 x, .int .i64 y] (.bool (barF 1 x y)) [] := by
  refine FSpec.intro tab_ok Try.func56 rfl rfl rfl (by kernel_rfl) (by simp) fun w0 => ?_
  simp only [argTM, Nat.zero_add, Nat.reduceAdd]
  repeat refine IW.seq ?_
  refine IW.region_seq tab_ok [some 6] rfl fun X K hX hK => ?_
  simp only [go_sem, if_true, if_false, reduceIte, Nat.reduceEqDiff, Nat.reduceAdd, Nat.reduceLT, Nat.reduceLeDiff, reduceCtorEq]
  refine hK _ _ ?_; clear hX hK X K
  show IW _ _ _ _ _ _ _ _
  repeat refine IW.seq ?_
  refine IW.region_seq tab_ok [some 8, some 9, some 10, some 11, some 12, some 13, some 14, some 15, some 16, some 17, some 18, some 19, some 20, some 21, some 7] rfl fun X K hX hK => ?_
  simp only [go_sem, if_true, if_false, reduceIte, Nat.reduceEqDiff, Nat.reduceAdd, Nat.reduceLT, Nat.reduceLeDiff, reduceCtorEq]
  refine hK _ _ ?_; clear hX hK X K
  show IW _ _ _ _ _ _ _ _
  repeat refine IW.seq ?_
  refine IW.region_seq tab_ok [some 22] rfl fun X K hX hK => ?_
  simp only [go_sem, if_true, if_false, reduceIte, Nat.reduceEqDiff, Nat.reduceAdd, Nat.reduceLT, Nat.reduceLeDiff, reduceCtorEq]
  refine hK _ _ ?_; clear hX hK X K
  show IW _ _ _ _ _ _ _ _
  repeat refine IW.seq ?_
  refine IW.block ?_
  repeat refine IW.seq ?_
  refine IW.region_seq tab_ok [some 24, some 23] rfl fun X K hX hK => ?_
  simp only [go_sem, if_true, if_false, reduceIte, Nat.reduceEqDiff, Nat.reduceAdd, Nat.reduceLT, Nat.reduceLeDiff, reduceCtorEq]
  refine hK _ _ ?_; clear hX hK X K
  show IW _ _ _ _ _ _ _ _
  repeat refine IW.seq ?_
  refine IW.cond rfl (fun _ => ?_) (fun hb => absurd hb (by decide))
  repeat refine IW.seq ?_
  refine IW.region_seq tab_ok [some 25, some 26, some 6] rfl fun X K hX hK => ?_
  simp only [go_sem, if_true, if_false, reduceIte, Nat.reduceEqDiff, Nat.reduceAdd, Nat.reduceLT, Nat.reduceLeDiff, reduceCtorEq]
  refine hK _ _ ?_; clear hX hK X K
  show IW _ _ _ _ _ _ _ _
  refine IW.ret (Fin.scal rfl rfl ?_)
  rfl
set_option maxHeartbeats 2000000 in
theorem refBar_2 (x y : Int) : FSpec Try.prog 56 [.int .i64 2, .int .i64 x, .int .i64 y] (.bool (barF 2 x y)) [] := by
  refine FSpec.intro tab_ok Try.func56 rfl rfl rfl (by kernel_rfl) (by simp) fun w0 => ?_
  simp only [argTM, Nat.zero_add, Nat.reduceAdd]
  repeat refine IW.seq ?_
  refine IW.region_seq tab_ok [some 6] rfl fun X K hX hK => ?_
  simp only [go_sem, if_true, if_false, reduceIte, Nat.reduceEqDiff, Nat.reduceAdd, Nat.reduceLT, Nat.reduceLeDiff, reduceCtorEq]
  refine hK _ _ ?_; clear hX hK X K
  show IW _ _ _ _ _ _ _ _
  repeat refine IW.seq ?_
  refine IW.region_seq tab_ok [some 8, some 9, some 10, some 11, some 12, some 13, some 14, some 15, some 16, some 17, some 18, some 19, some 20, some 21, some 7] rfl fun X K hX hK => ?_
  simp only [go_sem, if_true, if_false, reduceIte, Nat.reduceEqDiff, Nat.reduceAdd, Nat.reduceLT, Nat.reduceLeDiff, reduceCtorEq]
  refine hK _ _ ?_; clear hX hK X K
  show IW _ _ _ _ _ _ _ _
  repeat refine IW.seq ?_
  refine IW.region_seq tab_ok [some 22] rfl fun X K hX hK => ?_
  simp only [go_sem, if_true, if_false, reduceIte, Nat.reduceEqDiff, Nat.reduceAdd, Nat.reduceLT, Nat.reduceLeDiff, reduceCtorEq]
  refine hK _ _ ?_; clear hX hK X K
  show IW _ _ _ _ _ _ _ _
  repeat refine IW.seq ?_
  refine IW.block ?_
  repeat refine IW.seq ?_
  refine IW.region_seq tab_ok [some 24, some 23] rfl fun X K hX hK => ?_
  simp only [go_sem, if_true, if_false, reduceIte, Nat.reduceEqDiff, Nat.reduceAdd, Nat.reduceLT, Nat.reduceLeDiff, reduceCtorEq]
  refine hK _ _ ?_; clear hX hK X K
  show IW _ _ _ _ _ _ _ _
  repeat refine IW.seq ?_
  refine IW.cond rfl (fun hb => absurd hb (by decide)) (fun _ => ?_)
  repeat refine IW.seq ?_
  refine IW.region_seq tab_ok [some 28, some 27] rfl fun X K hX hK => ?_
  simp only [go_sem, if_true, if_false, reduceIte, Nat.reduceEqDiff, Nat.reduceAdd, Nat.reduceLT, Nat.reduceLeDiff, reduceCtorEq]
  refine hK _ _ ?_; clear hX hK X K
  show IW _ _ _ _ _ _ _ _
  repeat refine IW.seq ?_
  refine IW.cond rfl (fun _ => ?_) (fun hb => absurd hb (by decide))
  repeat refine IW.seq ?_
  refine IW.region_seq tab_ok [some 29, some 30, some 31, some 32, some 33, some 34, some 6] rfl fun X K hX hK => ?_
  simp only [go_sem, if_true, if_false, reduceIte, Nat.reduceEqDiff, Nat.reduceAdd, Nat.reduceLT, Nat.reduceLeDiff, reduceCtorEq]
  refine hK _ _ ?_; clear hX hK X K
  show IW _ _ _ _ _ _ _ _
  refine IW.ret (Fin.scal rfl rfl ?_)
  rfl
set_option maxHeartbeats 2000000 in
theorem refBar_3 (x y : Int) : FSpec Try.prog 56 [.int .i64 3, .int .i64 x, .int .i64 y] (.bool (barF 3 x y)) [] := by
  refine FSpec.intro tab_ok Try.func56 rfl rfl rfl (by kernel_rfl) (by simp) fun w0 => ?_
  simp only [argTM, Nat.zero_add, Nat.reduceAdd]
  repeat refine IW.seq ?_
  refine IW.region_seq tab_ok [some 6] rfl fun X K hX hK => ?_
  simp only [go_sem, if_true, if_false, reduceIte, Nat.reduceEqDiff, Nat.reduceAdd, Nat.reduceLT, Nat.reduceLeDiff, reduceCtorEq]
  refine hK _ _ ?_; clear hX hK X K
  show IW _ _ _ _ _ _ _ _
  repeat refine IW.seq ?_
  refine IW.region_seq tab_ok [some 8, some 9, some 10, some 11, some 12, some 13, some 14, some 15, some 16, some 17, some 18, some 19, some 20, some 21, some 7] rfl fun X K hX hK => ?_
  simp only [go_sem, if_true, if_false, reduceIte, Nat.reduceEqDiff, Nat.reduceAdd, Nat.reduceLT, Nat.reduceLeDiff, reduceCtorEq]
  refine hK _ _ ?_; clear hX hK X K
  show IW _ _ _ _ _ _ _ _
  repeat refine IW.seq ?_
  refine IW.region_seq tab_ok [some 22] rfl fun X K hX hK => ?_
  simp only [go_sem, if_true, if_false, reduceIte, Nat.reduceEqDiff, Nat.reduceAdd, Nat.reduceLT, Nat.reduceLeDiff, reduceCtorEq]
  refine hK _ _ ?_; clear hX hK X K
  show IW _ _ _ _ _ _ _ _
  repeat refine IW.seq ?_
  refine IW.block ?_
  repeat refine IW.seq ?_
  refine IW.region_seq tab_ok [some 24, some 23] rfl fun X K hX hK => ?_
  simp only [go_sem, if_true, if_false, reduceIte, Nat.reduceEqDiff, Nat.reduceAdd, Nat.reduceLT, Nat.reduceLeDiff, reduceCtorEq]
  refine hK _ _ ?_; clear hX hK X K
  show IW _ _ _ _ _ _ _ _
  repeat refine IW.seq ?_
  refine IW.cond rfl (fun hb => absurd hb (by decide)) (fun _ => ?_)
  repeat refine IW.seq ?_
  refine IW.region_seq tab_ok [some 28, some 27] rfl fun X K hX hK => ?_
  simp only [go_sem, if_true, if_false, reduceIte, Nat.reduceEqDiff, Nat.reduceAdd, Nat.reduceLT, Nat.reduceLeDiff, reduceCtorEq]
  refine hK _ _ ?_; clear hX hK X K
  show IW _ _ _ _ _ _ _ _
  repeat refine IW.seq ?_
  refine IW.cond rfl (fun hb => absurd hb (by decide)) (fun _ => ?_)
  repeat refine IW.seq ?_
  refine IW.region_seq tab_ok [some 36, some 35] rfl fun X K hX hK => ?_
  simp only [go_sem, if_true, if_false, reduceIte, Nat.reduceEqDiff, Nat.reduceAdd, Nat.reduceLT, Nat.reduceLeDiff, reduceCtorEq]
  refine hK _ _ ?_; clear hX hK X K
  show IW _ _ _ _ _ _ _ _
  repeat refine IW.seq ?_
  refine IW.cond rfl (fun _ => ?_) (fun hb => absurd hb (by decide))
  repeat refine IW.seq ?_
  refine IW.region_seq tab_ok [some 37, some 38, some 39, some 40, some 41, some 42, some 43, some 44, some 45, some 46, some 6] rfl fun X K hX hK => ?_
  simp only [go_sem, if_true, if_false, reduceIte, Nat.reduceEqDiff, Nat.reduceAdd, Nat.reduceLT, Nat.reduceLeDiff, reduceCtorEq]
  refine hK _ _ ?_; clear hX hK X K
  show IW _ _ _ _ _ _ _ _
  refine IW.ret (Fin.scal rfl rfl ?_)
  rfl
set_option maxHeartbeats 2000000 in
theorem refBar_4 (x y : Int) : FSpec Try.prog 56 [.int .i64 4, .int .i64 x, .int .i64 y] (.bool (barF 4 x y)) [] := by
  refine FSpec.intro tab_ok Try.func56 rfl rfl rfl (by kernel_rfl) (by simp) fun w0 => ?_
  simp only [argTM, Nat.zero_add, Nat.reduceAdd]
  repeat refine IW.seq ?_
  refine IW.region_seq tab_ok [some 6] rfl fun X K hX hK => ?_
  simp only [go_sem, if_true, if_false, reduceIte, Nat.reduceEqDiff, Nat.reduceAdd, Nat.reduceLT, Nat.reduceLeDiff, reduceCtorEq]
  refine hK _ _ ?_; clear hX hK X K
  show IW _ _ _ _ _ _ _ _
  repeat refine IW.seq ?_
  refine IW.region_seq tab_ok [some 8, some 9, some 10, some 11, some 12, some 13, some 14, some 15, some 16, some 17, some 18, some 19, some 20, some 21, some 7] rfl fun X K hX hK => ?_
  simp only [go_sem, if_true, if_false, reduceIte, Nat.reduceEqDiff, Nat.reduceAdd, Nat.reduceLT, Nat.reduceLeDiff, reduceCtorEq]
  refine hK _ _ ?_; clear hX hK X K
  show IW _ _ _ _ _ _ _ _
  repeat refine IW.seq ?_
  refine IW.region_seq tab_ok [some 22] rfl fun X K hX hK => ?_
  simp only [go_sem, if_true, if_false, reduceIte, Nat.reduceEqDiff, Nat.reduceAdd, Nat.reduceLT, Nat.reduceLeDiff, reduceCtorEq]
  refine hK _ _ ?_; clear hX hK X K
  show IW _ _ _ _ _ _ _ _
  repeat refine IW.seq ?_
  refine IW.block ?_
  repeat refine IW.seq ?_
  refine IW.region_seq tab_ok [some 24, some 23] rfl fun X K hX hK => ?_
  simp only [go_sem, if_true, if_false, reduceIte, Nat.reduceEqDiff, Nat.reduceAdd, Nat.reduceLT, Nat.reduceLeDiff, reduceCtorEq]
  refine hK _ _ ?_; clear hX hK X K
  show IW _ _ _ _ _ _ _ _
  repeat refine IW.seq ?_
  refine IW.cond rfl (fun hb => absurd hb (by decide)) (fun _ => ?_)
  repeat refine IW.seq ?_
  refine IW.region_seq tab_ok [some 28, some 27] rfl fun X K hX hK => ?_
  simp only [go_sem, if_true, if_false, reduceIte, Nat.reduceEqDiff, Nat.reduceAdd, Nat.reduceLT, Nat.reduceLeDiff, reduceCtorEq]
  refine hK _ _ ?_; clear hX hK X K
  show IW _ _ _ _ _ _ _ _
  repeat refine IW.seq ?_
  refine IW.cond rfl (fun hb => absurd hb (by decide)) (fun _ => ?_)
  repeat refine IW.seq ?_
  refine IW.region_seq tab_ok [some 36, some 35] rfl fun X K hX hK => ?_
  simp only [go_sem, if_true, if_false, reduceIte, Nat.reduceEqDiff, Nat.reduceAdd, Nat.reduceLT, Nat.reduceLeDiff, reduceCtorEq]
  refine hK _ _ ?_; clear hX hK X K
  show IW _ _ _ _ _ _ _ _
  repeat refine IW.seq ?_
  refine IW.cond rfl (fun hb => absurd hb (by decide)) (fun _ => ?_)
  repeat refine IW.seq ?_
  refine IW.region_seq tab_ok [some 48, some 47] rfl fun X K hX hK => ?_
  simp only [go_sem, if_true, if_false, reduceIte, Nat.reduceEqDiff, Nat.reduceAdd, Nat.reduceLT, Nat.reduceLeDiff, reduceCtorEq]
  refine hK _ _ ?_; clear hX hK X K
  show IW _ _ _ _ _ _ _ _
  repeat refine IW.seq ?_
  refine IW.cond rfl (fun _ => ?_) (fun hb => absurd hb (by decide))
  repeat refine IW.seq ?_
  refine IW.region_seq tab_ok [some 49, some 50, some 51, some 52, some 53, some 54, some 55, some 56, some 57, some 58, some 59, some 60, some 61, some 62, some 63, some 64, some 65, some 66, some 67, some 68, some 69, some 6] rfl fun X K hX hK => ?_
  simp only [go_sem, if_true, if_false, reduceIte, Nat.reduceEqDiff, Nat.reduceAdd, Nat.reduceLT, Nat.reduceLeDiff, reduceCtorEq]
  refine hK _ _ ?_; clear hX hK X K
  show IW _ _ _ _ _ _ _ _
  refine IW.ret (Fin.scal rfl rfl ?_)
  rfl
set_option maxHeartbeats 2000000 in
theorem refBar_5 (x y : Int) : FSpec Try.prog 56 [.int .i64 5, .int .i64 x, .int .i64 y] (.bool (barF 5 x y)) [] := by
  refine FSpec.intro tab_ok Try.func56 rfl rfl rfl (by kernel_rfl) (by simp) fun w0 => ?_
  simp only [argTM, Nat.zero_add, Nat.reduceAdd]
  repeat refine IW.seq ?_
  refine IW.region_seq tab_ok [some 6] rfl fun X K hX hK => ?_
  simp only [go_sem, if_true, if_false, reduceIte, Nat.reduceEqDiff, Nat.reduceAdd, Nat.reduceLT, Nat.reduceLeDiff, reduceCtorEq]
  refine hK _ _ ?_; clear hX hK X K
  show IW _ _ _ _ _ _ _ _
  repeat refine IW.seq ?_
  refine IW.region_seq tab_ok [some 8, some 9, some 10, some 11, some 12, some 13, some 14, some 15, some 16, some 17, some 18, some 19, some 20, some 21, some 7] rfl fun X K hX hK => ?_
  simp only [go_sem, if_true, if_false, reduceIte, Nat.reduceEqDiff, Nat.reduceAdd, Nat.reduceLT, Nat.reduceLeDiff, reduceCtorEq]
  refine hK _ _ ?_; clear hX hK X K
  show IW _ _ _ _ _ _ _ _
  repeat refine IW.seq ?_
  refine IW.region_seq tab_ok [some 22] rfl fun X K hX hK => ?_
  simp only [go_sem, if_true, if_false, reduceIte, Nat.reduceEqDiff, Nat.reduceAdd, Nat.reduceLT, Nat.reduceLeDiff, reduceCtorEq]
  refine hK _ _ ?_; clear hX hK X K
  show IW _ _ _ _ _ _ _ _
  repeat refine IW.seq ?_
  refine IW.block ?_
  repeat refine IW.seq ?_
  refine IW.region_seq tab_ok [some 24, some 23] rfl fun X K hX hK => ?_
  simp only [go_sem, if_true, if_false, reduceIte, Nat.reduceEqDiff, Nat.reduceAdd, Nat.reduceLT, Nat.reduceLeDiff, reduceCtorEq]
  refine hK _ _ ?_; clear hX hK X K
  show IW _ _ _ _ _ _ _ _
  repeat refine IW.seq ?_
  refine IW.cond rfl (fun hb => absurd hb (by decide)) (fun _ => ?_)
  repeat refine IW.seq ?_
  refine IW.region_seq tab_ok [some 28, some 27] rfl fun X K hX hK => ?_
  simp only [go_sem, if_true, if_false, reduceIte, Nat.reduceEqDiff, Nat.reduceAdd, Nat.reduceLT, Nat.reduceLeDiff, reduceCtorEq]
  refine hK _ _ ?_; clear hX hK X K
  show IW _ _ _ _ _ _ _ _
  repeat refine IW.seq ?_
  refine IW.cond rfl (fun hb => absurd hb (by decide)) (fun _ => ?_)
  repeat refine IW.seq ?_
  refine IW.region_seq tab_ok [some 36, some 35] rfl fun X K hX hK => ?_
  simp only [go_sem, if_true, if_false, reduceIte, Nat.reduceEqDiff, Nat.reduceAdd, Nat.reduceLT, Nat.reduceLeDiff, reduceCtorEq]
  refine hK _ _ ?_; clear hX hK X K
  show IW _ _ _ _ _ _ _ _
  repeat refine IW.seq ?_
  refine IW.cond rfl (fun hb => absurd hb (by decide)) (fun _ => ?_)
  repeat refine IW.seq ?_
  refine IW.region_seq tab_ok [some 48, some 47] rfl fun X K hX hK => ?_
  simp only [go_sem, if_true, if_false, reduceIte, Nat.reduceEqDiff, Nat.reduceAdd, Nat.reduceLT, Nat.reduceLeDiff, reduceCtorEq]
  refine hK _ _ ?_; clear hX hK X K
  show IW _ _ _ _ _ _ _ _
  repeat refine IW.seq ?_
  refine IW.cond rfl (fun hb => absurd hb (by decide)) (fun _ => ?_)
  refine IW.skip ?_
  show IW _ _ _ _ _ _ _ _
  repeat refine IW.seq ?_
  refine IW.region_seq tab_ok [some 70, some 71, some 72, some 73, some 74, some 75, some 76, some 77, some 78, some 79, some 80, some 81, some 82, some 83, some 84, some 85, some 86, some 87, some 88, some 89, some 90, some 6] rfl fun X K hX hK => ?_
  simp only [go_sem, if_true, if_false, reduceIte, Nat.reduceEqDiff, Nat.reduceAdd, Nat.reduceLT, Nat.reduceLeDiff, reduceCtorEq]
  refine hK _ _ ?_; clear hX hK X K
  show IW _ _ _ _ _ _ _ _
  refine IW.ret (Fin.scal rfl rfl ?_)
  rfl
/-- A list of numbers that is appended to: row 0. -/
def apI (l : List Int) : SV := match l with | [] => .nils | _ :: _ => .ref 0 0 l.length
def wpI (l : List Int) : Option Row := match l with | [] => none | _ :: _ => some ⟨1, 3, nums .i64 l⟩
theorem apI_snoc (l : List Int) (c : Int) : apI (l ++ [c]) = .ref 0 0 (l.length + 1) := by cases l <;> simp [apI]
theorem wpI_snoc (l : List Int) (c : Int) : wpI (l ++ [c]) = some ⟨1, 3, nums .i64 (l ++ [c])⟩ := by cases l <;> simp [wpI]
section
variable {O : Nat → Prop} {w0 : Ctx} {N : Nat} {ops : Array Oper} {D : List (Option Nat)} {X : XT}
theorem pushI {dst : Option Nat} {x y : Operand} {ty : TypeId} {pos : String} {after : Array Edge} {r : List Oper} {tm : TM} {l : List Int} {c : Int} {K : TM → Heap → Prop} (hX : XS Try.prog O w0 N tab ops D X) (hx : opnd tm x = apI l) (hy : opnd tm y = .ref 1 0 1) (hl : l.length ≤ 1000000) (hd : ∀ d, dst = some d → d < N)
    (he : E tab D X r (tm.put dst (.ref 2 0 (l.length + 1))) [none, some ⟨1, 3, [[.int .i64 c]]⟩, some ⟨1, 3, nums .i64 (l ++ [c])⟩] K) :
    X ⟨dst, .call ⟨.builtin .append, #[x, y], #[23, 23]⟩, ty, pos, after, none⟩ r tm [wpI l, some ⟨1, 3, [[.int .i64 c]]⟩] K := by
  have hys : srcO [wpI l, some ⟨1, 3, [[.int .i64 c]]⟩] (opnd tm y) = some [[.int .i64 c]] := by rw [hy]; rfl
  cases l with
  | nil =>
    refine hX.quiet _ _ (OpG.of_B rfl (opB_append_nil tab_ok (ys := [[.int .i64 c]]) (m := 1) hx hys rfl (by omega) rfl rfl (by decide) (by intro x hx; simp at hx; subst hx; rfl) rfl (by decide) (by decide))) ?_
    exact he
  | cons b l =>
    have hlen : (nums .i64 (b :: l)).length = (b :: l).length := nums_length _ _
    refine hX.op _ _ rfl (opS_append tab_ok (id := 0) (n := (b :: l).length) (m := 1) (ys := [[.int .i64 c]]) hx hys rfl (by omega) rfl rfl (by decide) (by show _ ≤ (nums .i64 (b :: l)).length; omega) rfl rfl rfl (by intro x hx; simp at hx; subst hx; rfl) rfl (by show ((b :: l).length + 1) * 8 ≤ _; omega) (by omega) hd) ?_
    have e1 : (nums .i64 (b :: l)).take (b :: l).length ++ [[SV.int .i64 c]] = nums .i64 (b :: l ++ [c]) := by
      rw [List.take_of_length_le (by omega)]; simp [nums]
    have e2 : rowXs [wpI (b :: l), some ⟨1, 3, [[SV.int .i64 c]]⟩] 0 = nums .i64 (b :: l) := rfl
    rw [e2, e1]
    exact he
end
def upL (n : Nat) : List Int := (List.range n).map fun i : Nat => (i : Int) + 1
theorem upL_succ (n : Nat) : upL (n + 1) = upL n ++ [(n : Int) + 1] := by simp [upL, List.range_succ]
theorem upL_length (n : Nat) : (upL n).length = n := by simp [upL]
theorem refVals_8 : FSpec Try.prog 52 [.int .i64 8] (.ref 0 0 27) [⟨1, 3, nums .i64 (upL 27)⟩] := by
  refine FSpec.intro tab_ok Try.func52 rfl rfl rfl (by kernel_rfl) (by simp) fun w0 => ?_
  simp only [argTM, Nat.zero_add, Nat.reduceAdd]
  repeat refine IW.seq ?_
  refine IW.region_seq tab_ok [some 2] rfl fun X K hX hK => ?_
  simp only [go_sem, if_true, if_false, reduceIte, Nat.reduceEqDiff, Nat.reduceAdd, Nat.reduceLT, Nat.reduceLeDiff, reduceCtorEq]
  refine hK _ _ ?_; clear hX hK X K
  show IW _ _ _ _ _ _ _ _
  repeat refine IW.seq ?_
  refine IW.region_seq tab_ok [some 5] rfl fun X K hX hK => ?_
  simp only [go_sem, if_true, if_false, reduceIte, Nat.reduceEqDiff, Nat.reduceAdd, Nat.reduceLT, Nat.reduceLeDiff, reduceCtorEq]
  refine hK _ _ ?_; clear hX hK X K
  show IW _ _ _ _ _ _ _ _
  repeat refine IW.seq ?_
  refine IW.block ?_
  repeat refine IW.seq ?_
  refine IW.region_seq tab_ok [some 7, some 6] rfl fun X K hX hK => ?_
  simp only [go_sem, if_true, if_false, reduceIte, Nat.reduceEqDiff, Nat.reduceAdd, Nat.reduceLT, Nat.reduceLeDiff, reduceCtorEq]
  refine hK _ _ ?_; clear hX hK X K
  show IW _ _ _ _ _ _ _ _
  repeat refine IW.seq ?_
  refine IW.cond rfl (fun hb => absurd hb (by decide)) (fun _ => ?_)
  repeat refine IW.seq ?_
  refine IW.region_seq tab_ok [some 8, some 6] rfl fun X K hX hK => ?_
  simp only [go_sem, if_true, if_false, reduceIte, Nat.reduceEqDiff, Nat.reduceAdd, Nat.reduceLT, Nat.reduceLeDiff, reduceCtorEq]
  refine hK _ _ ?_; clear hX hK X K
  show IW _ _ _ _ _ _ _ _
  repeat refine IW.seq ?_
  refine IW.cond rfl (fun hb => absurd hb (by decide)) (fun _ => ?_)
  repeat refine IW.seq ?_
  refine IW.region_seq tab_ok [some 9, some 6] rfl fun X K hX hK => ?_
  simp only [go_sem, if_true, if_false, reduceIte, Nat.reduceEqDiff, Nat.reduceAdd, Nat.reduceLT, Nat.reduceLeDiff, reduceCtorEq]
  refine hK _ _ ?_; clear hX hK X K
  show IW _ _ _ _ _ _ _ _
  repeat refine IW.seq ?_
  refine IW.cond rfl (fun hb => absurd hb (by decide)) (fun _ => ?_)
  repeat refine IW.seq ?_
  refine IW.region_seq tab_ok [some 12, some 11] rfl fun X K hX hK => ?_
  simp only [go_sem, if_true, if_false, reduceIte, Nat.reduceEqDiff, Nat.reduceAdd, Nat.reduceLT, Nat.reduceLeDiff, reduceCtorEq]
  refine hK _ _ ?_; clear hX hK X K
  show IW _ _ _ _ _ _ _ _
  repeat refine IW.seq ?_
  refine IW.cond rfl (fun hb => absurd hb (by decide)) (fun _ => ?_)
  repeat refine IW.seq ?_
  refine IW.region_seq tab_ok [some 13, some 11] rfl fun X K hX hK => ?_
  simp only [go_sem, if_true, if_false, reduceIte, Nat.reduceEqDiff, Nat.reduceAdd, Nat.reduceLT, Nat.reduceLeDiff, reduceCtorEq]
  refine hK _ _ ?_; clear hX hK X K
  show IW _ _ _ _ _ _ _ _
  repeat refine IW.seq ?_
  refine IW.cond rfl (fun hb => absurd hb (by decide)) (fun _ => ?_)
  repeat refine IW.seq ?_
  refine IW.region_seq tab_ok [some 14, some 11] rfl fun X K hX hK => ?_
  simp only [go_sem, if_true, if_false, reduceIte, Nat.reduceEqDiff, Nat.reduceAdd, Nat.reduceLT, Nat.reduceLeDiff, reduceCtorEq]
  refine hK _ _ ?_; clear hX hK X K
  show IW _ _ _ _ _ _ _ _
  repeat refine IW.seq ?_
  refine IW.cond rfl (fun hb => absurd hb (by decide)) (fun _ => ?_)
  repeat refine IW.seq ?_
  refine IW.region_seq tab_ok [some 17, some 16] rfl fun X K hX hK => ?_
  simp only [go_sem, if_true, if_false, reduceIte, Nat.reduceEqDiff, Nat.reduceAdd, Nat.reduceLT, Nat.reduceLeDiff, reduceCtorEq]
  refine hK _ _ ?_; clear hX hK X K
  show IW _ _ _ _ _ _ _ _
  repeat refine IW.seq ?_
  refine IW.cond rfl (fun hb => absurd hb (by decide)) (fun _ => ?_)
  repeat refine IW.seq ?_
  refine IW.region_seq tab_ok [some 20, some 19] rfl fun X K hX hK => ?_
  simp only [go_sem, if_true, if_false, reduceIte, Nat.reduceEqDiff, Nat.reduceAdd, Nat.reduceLT, Nat.reduceLeDiff, reduceCtorEq]
  refine hK _ _ ?_; clear hX hK X K
  show IW _ _ _ _ _ _ _ _
  repeat refine IW.seq ?_
  refine IW.cond rfl (fun hb => absurd hb (by decide)) (fun _ => ?_)
  repeat refine IW.seq ?_
  refine IW.region_seq tab_ok [some 23, some 22] rfl fun X K hX hK => ?_
  simp only [go_sem, if_true, if_false, reduceIte, Nat.reduceEqDiff, Nat.reduceAdd, Nat.reduceLT, Nat.reduceLeDiff, reduceCtorEq]
  refine hK _ _ ?_; clear hX hK X K
  show IW _ _ _ _ _ _ _ _
  repeat refine IW.seq ?_
  refine IW.cond rfl (fun _ => ?_) (fun hb => absurd hb (by decide))
  repeat refine IW.seq ?_
  refine IW.region_seq tab_ok [some 3] rfl fun X K hX hK => ?_
  simp only [go_sem, if_true, if_false, reduceIte, Nat.reduceEqDiff, Nat.reduceAdd, Nat.reduceLT, Nat.reduceLeDiff, reduceCtorEq]
  refine hK _ _ ?_; clear hX hK X K
  show IW _ _ _ _ _ _ _ _
  repeat refine IW.seq ?_
  refine IW.region_seq tab_ok [some 4] rfl fun X K hX hK => ?_
  simp only [go_sem, if_true, if_false, reduceIte, Nat.reduceEqDiff, Nat.reduceAdd, Nat.reduceLT, Nat.reduceLeDiff, reduceCtorEq]
  refine hK _ _ ?_; clear hX hK X K
  show IW _ _ _ _ _ _ _ _
  repeat refine IW.seq ?_
  refine IW.block ?_
  refine IW.loop (α := {n : Nat // n ≤ 27}) (fun n => [(3, apI (upL n.1)), (4, .int .i64 (n.1 + 1 : Nat))]) (fun n => [wpI (upL n.1)]) (fun n => 27 - n.1) ⟨0, by omega⟩ ?_ fun ⟨n, hn⟩ => ?_
  · have : upL 0 = [] := rfl
    refine Ent.ren [0] rfl (by decide) ?_ ?_ (fun id ri e => by cases e) <;> simp [go_sem, if_true, if_false, reduceIte, Nat.reduceEqDiff, Nat.reduceAdd, Nat.reduceLT, Nat.reduceLeDiff, reduceCtorEq, subT, subH, sg, SV.ren, Row.ren, this, apI, wpI]
  · simp only []
    repeat refine IW.seq ?_
    refine IW.region_seq tab_ok [some 24, some 25] rfl fun X K hX hK => ?_
    simp only [go_sem, if_true, if_false, reduceIte, Nat.reduceEqDiff, Nat.reduceAdd, Nat.reduceLT, Nat.reduceLeDiff, reduceCtorEq]
    refine hK _ _ ?_; clear hX hK X K
    show IW _ _ _ _ _ _ _ _
    repeat refine IW.seq ?_
    refine IW.cond rfl (fun hb1 => ?_) (fun hb1 => ?_)
    · simp only [decide_eq_true_eq] at hb1
      have hn27 : n < 27 := by omega
      have hsn := upL_succ n
      have hbl := upL_length n
      generalize hL : upL n = L at *
      refine IW.skip ?_
      show IW _ _ _ _ _ _ _ _
      refine IW.seq (IW.block ?_)
      repeat refine IW.seq ?_
      refine IW.region_seq tab_ok [some 28, some 29, some 30, some 31, some 3] rfl fun X K hX hK => ?_
      simp only [go_sem, if_true, if_false, reduceIte, Nat.reduceEqDiff, Nat.reduceAdd, Nat.reduceLT, Nat.reduceLeDiff, reduceCtorEq]
      refine hX.quiet _ _ (OpG.of_B rfl (opB_buildSlice tab_ok rfl (by simp [go_sem, if_true, if_false, reduceIte, Nat.reduceEqDiff, Nat.reduceAdd, Nat.reduceLT, Nat.reduceLeDiff, reduceCtorEq]) (by simp [go_sem, if_true, if_false, reduceIte, Nat.reduceEqDiff, Nat.reduceAdd, Nat.reduceLT, Nat.reduceLeDiff, reduceCtorEq]) (by simp) (by simp [go_sem, if_true, if_false, reduceIte, Nat.reduceEqDiff, Nat.reduceAdd, Nat.reduceLT, Nat.reduceLeDiff, reduceCtorEq, bsO, List.map_cons, List.map_nil]))) ?_
      simp only [go_sem, if_true, if_false, reduceIte, Nat.reduceEqDiff, Nat.reduceAdd, Nat.reduceLT, Nat.reduceLeDiff, reduceCtorEq, List.map_cons, List.map_nil]
      refine pushI (c := (n + 1 : Nat)) (l := L) hX (by simp [go_sem, if_true, if_false, reduceIte, Nat.reduceEqDiff, Nat.reduceAdd, Nat.reduceLT, Nat.reduceLeDiff, reduceCtorEq]) (by simp [go_sem, if_true, if_false, reduceIte, Nat.reduceEqDiff, Nat.reduceAdd, Nat.reduceLT, Nat.reduceLeDiff, reduceCtorEq]) (by omega) (by intro d e; cases e; decide) ?_
      simp only [go_sem, if_true, if_false, reduceIte, Nat.reduceEqDiff, Nat.reduceAdd, Nat.reduceLT, Nat.reduceLeDiff, reduceCtorEq]
      refine hK _ _ ?_; clear hX hK X K
      show IW _ _ _ _ _ _ _ _
      repeat refine IW.seq ?_
      refine IW.region_seq tab_ok [some 26, some 27, some 4] rfl fun X K hX hK => ?_
      simp only [go_sem, if_true, if_false, reduceIte, Nat.reduceEqDiff, Nat.reduceAdd, Nat.reduceLT, Nat.reduceLeDiff, reduceCtorEq, succ_wrap (show n + 1 < 28 by omega) (by omega)]
      refine hK _ _ ⟨⟨n + 1, hn27⟩, by simp only []; omega, ?_⟩
      simp only [hsn, apI_snoc, wpI_snoc]
      have e3 : ((n + 1 : Nat) : Int) = (n : Int) + 1 := by omega
      rw [e3]
      refine Ent.ren [2] rfl (by decide) ?_ ?_ (fun id ri e => by cases e) <;> simp [go_sem, if_true, if_false, reduceIte, Nat.reduceEqDiff, Nat.reduceAdd, Nat.reduceLT, Nat.reduceLeDiff, reduceCtorEq, subT, subH, sg, SV.ren, Row.ren, nums_ren]
    · refine IW.exit ?_
      show IW _ _ _ _ _ _ _ _
      simp only [decide_eq_false_iff_not] at hb1
      obtain rfl : n = 27 := by omega
      have e25 := upL_succ 26
      have e1 : apI (upL 27) = .ref 0 0 27 := by rw [e25, apI_snoc, upL_length]
      have e2 : wpI (upL 27) = some ⟨1, 3, nums .i64 (upL 27)⟩ := by rw [e25, wpI_snoc]
      rw [e1, e2]
      repeat refine IW.seq ?_
      refine IW.region_seq tab_ok [some 32, some 2] rfl fun X K hX hK => ?_
      simp only [go_sem, if_true, if_false, reduceIte, Nat.reduceEqDiff, Nat.reduceAdd, Nat.reduceLT, Nat.reduceLeDiff, reduceCtorEq]
      refine hK _ _ ?_; clear hX hK X K
      show IW _ _ _ _ _ _ _ _
      exact IW.ret (Fin.tmp1 0 rfl (nums_nold _ _) rfl (by simp [go_sem, if_true, if_false, reduceIte, Nat.reduceEqDiff, Nat.reduceAdd, Nat.reduceLT, Nat.reduceLeDiff, reduceCtorEq, hrow, Row.ren, nums_ren]))
end Go.Proofs.Ytnbpbehlemaeoaa

set_option linter.unusedVariables false
set_option linter.unusedSimpArgs false
set_option maxRecDepth 10000
namespace Go.Proofs.Ytnbpbehlemaeoaa
open Go.IL
theorem nums_unold (k : IntKind) : ∀ l : List Int, unoldLL (nums k l) = nums k l
  | [] => rfl
  | x :: xs => by show unoldLL ([SV.int k x] :: nums k xs) = _; simp only [unoldLL, unoldL, SV.unold, nums_unold k xs]; rfl
theorem nums_rei' (k : IntKind) (n : Nat) (h : Heap) (l : List Int) : (nums k l).map (fun x => x.map (rei (n + 1) h)) = nums k l := by simp [nums, rei]
theorem frz_nums {f : FuncId} {args : List SV} {e : TypeId} {ks : List Int} {n : Nat} (hn : n = ks.length) (h : FSpec Try.prog f args (.ref 0 0 n) [⟨1, e, nums .i64 ks⟩]) : FSpec Try.prog f args (.sl false (nums .i64 ks)) [] := by
  have h1 := FSpec.freeze 3 h
  have h2 : (rei 3 ([(⟨1, e, nums .i64 ks⟩ : Row)].map some) (.ref 0 0 n)).unold = .sl false (nums .i64 ks) := by
    have hx : rei 3 ([(⟨1, e, nums .i64 ks⟩ : Row)].map some) (.ref 0 0 n) = .sl true (nums .i64 ks) := by
      have h3 : (nums .i64 ks).take n = nums .i64 ks := List.take_of_length_le (by rw [nums_length]; omega)
      have h4 : rowXs ([(⟨1, e, nums .i64 ks⟩ : Row)].map some) 0 = nums .i64 ks := rfl
      rw [rei_ref 2 _ 0 0 n ⟨by rw [h4, nums_length]; omega, rfl⟩, h4, List.drop_zero, h3, nums_rei']
    rw [hx]
    simp only [SV.unold, nums_unold]
  rw [h2] at h1; exact h1
theorem frz_strs {f : FuncId} {args : List SV} {e : TypeId} {ks : List ByteArray} {n : Nat} (hn : n = ks.length) (h : FSpec Try.prog f args (.ref 0 0 n) [⟨1, e, strs ks⟩]) : FSpec Try.prog f args (.sl false (strs ks)) [] := by
  have h1 := FSpec.freeze 3 h
  have h2 : (rei 3 ([(⟨1, e, strs ks⟩ : Row)].map some) (.ref 0 0 n)).unold = .sl false (strs ks) := by
    have hx : rei 3 ([(⟨1, e, strs ks⟩ : Row)].map some) (.ref 0 0 n) = .sl true (strs ks) := by
      have h3 : (strs ks).take n = strs ks := List.take_of_length_le (by rw [strs_length]; omega)
      have h4 : rowXs ([(⟨1, e, strs ks⟩ : Row)].map some) 0 = strs ks := rfl
      rw [rei_ref 2 _ 0 0 n ⟨by rw [h4, strs_length]; omega, rfl⟩, h4, List.drop_zero, h3, strs_rei]
    rw [hx]
    simp only [SV.unold, strs_unold]
  rw [h2] at h1; exact h1
/-- What is known of a set, on both sides. -/
structure SetD (s : Int) (w h : Nat) (d : List (Int × List ByteArray)) : Prop where
  hd : FSpecE Try.prog 49 [.int .i64 s] (fun d' : List (Int × List ByteArray) => d'.Perm d) mapC
  size : FSpec Try.prog 14 [.int .i64 s] (.tup [.int .i64 w, .int .i64 h]) []
  vals : FSpec Try.prog 52 [.int .i64 s] (.sl false (nums .i64 (keysD d))) []
  ok : okD w h d
  h0 : 0 < h
  hb : h ≤ 25
  w0 : 0 < w
  wb : w ≤ 10
  ne : 0 < d.length
  le : d.length ≤ 27
  keys : (keysD d).Pairwise (· < ·)
  kb : ∀ k ∈ keysD d, 0 < k ∧ k ≤ 27
  rows : ∃ rv : SV, FSpec Try.prog 55 [.int .i64 s] rv [] ∧ (∀ σ, rv.ren σ = rv) ∧ (∀ n, rv.bnd n = true) ∧ ((s ≠ 9 ∧ rv = .sl false (strs (d.flatMap (·.2)))) ∨
    (s = 9 ∧ ∀ (v : Int) (r : List ByteArray) (x y : Nat), d.lookup v = some r → x < w → y < h → FSpec Try.prog 56 [.int .i64 v, .int .i64 x, .int .i64 y] (.bool (decide (sbAt (r.getD y default) x = 35))) []))
theorem SetD.nodup {s : Int} {w h : Nat} {d : List (Int × List ByteArray)} (S : SetD s w h d) : (keysD d).Nodup := S.keys.imp fun h e => by omega
theorem flat_get {w h : Nat} : ∀ {d : List (Int × List ByteArray)} {j y : Nat}, okD w h d → j < d.length → y < h → (d.flatMap (·.2)).getD (j * h + y) default = (d.getD j (0, [])).2.getD y default
  | [], j, y, _, hj, _ => by simp at hj
  | e :: d, 0, y, hok, _, hy => by
    obtain ⟨k1, _⟩ := hok e (by simp)
    rw [List.flatMap_cons, Nat.zero_mul, Nat.zero_add, List.getD_eq_getElem?_getD, List.getElem?_append_left (by omega)]
    rfl
  | e :: d, j + 1, y, hok, hj, hy => by
    obtain ⟨k1, _⟩ := hok e (by simp)
    have ih := flat_get (d := d) (j := j) (y := y) (fun e he => hok e (List.mem_cons_of_mem _ he)) (by simpa using hj) hy
    rw [List.flatMap_cons, List.getD_eq_getElem?_getD, List.getElem?_append_right (by rw [k1, Nat.succ_mul]; omega), k1]
    rw [show (j + 1) * h + y - h = j * h + y by rw [Nat.succ_mul]; omega, ← List.getD_eq_getElem?_getD, ih]
    rfl
theorem flat_len {w h : Nat} : ∀ {d : List (Int × List ByteArray)}, okD w h d → (d.flatMap (·.2)).length = d.length * h
  | [], _ => by simp
  | e :: d, hok => by
    have k1 := (hok e (by simp)).1
    rw [List.flatMap_cons, List.length_append, flat_len fun e he => hok e (List.mem_cons_of_mem _ he), k1, List.length_cons, Nat.succ_mul]; omega
/-- Where a value stands among the first n. -/
def atI (ks : List Int) (v : Int) : Nat → Int
  | 0 => -1
  | n + 1 => if ks.getD n 0 == v then (n : Int) else atI ks v n
theorem atI_spec (ks : List Int) (v : Int) : ∀ n, (atI ks v n = -1 ∧ ∀ j, j < n → ks.getD j 0 ≠ v) ∨ ∃ j, j < n ∧ atI ks v n = (j : Int) ∧ ks.getD j 0 = v
  | 0 => .inl ⟨rfl, fun j h => absurd h (by omega)⟩
  | n + 1 => by
    unfold atI
    by_cases c : ks.getD n 0 = v
    · exact .inr ⟨n, by omega, by rw [if_pos (by simpa using c)], c⟩
    · rw [if_neg (by simpa using c)]
      rcases atI_spec ks v n with ⟨h1, h2⟩ | ⟨j, h1, h2, h3⟩
      · refine .inl ⟨h1, fun j hj => ?_⟩
        by_cases e : j = n
        · subst e; exact c
        · exact h2 j (by omega)
      · exact .inr ⟨j, by omega, h2, h3⟩
theorem key_at {d : List (Int × List ByteArray)} {j : Nat} (h : j < d.length) : (keysD d).getD j 0 = (d.getD j (0, [])).1 := by simp [keysD, h]
theorem atI_none {d : List (Int × List ByteArray)} {v : Int} (hk : (keysD d).Nodup) (h : d.lookup v = none) : atI (keysD d) v d.length = -1 := by
  rcases atI_spec (keysD d) v d.length with ⟨h1, _⟩ | ⟨j, h1, h2, h3⟩
  · exact h1
  · rw [key_at h1] at h3
    have hj : d.getD j (0, []) ∈ d := by simp [h1]
    have := (lookup_iff hk (v := v) (r := (d.getD j (0, [])).2)).2 (by rw [← h3]; exact hj)
    rw [h] at this; cases this
theorem atI_some {d : List (Int × List ByteArray)} {v : Int} {r : List ByteArray} (hk : (keysD d).Nodup) (h : d.lookup v = some r) : ∃ j, j < d.length ∧ atI (keysD d) v d.length = (j : Int) ∧ d.getD j (0, []) = (v, r) := by
  have hm := (lookup_iff hk).1 h
  rcases atI_spec (keysD d) v d.length with ⟨h1, h2⟩ | ⟨j, h1, h2, h3⟩
  · obtain ⟨i, hi, e⟩ := List.mem_iff_getElem.1 hm
    have := h2 i hi
    rw [key_at hi] at this
    exact absurd (by simp [hi, e]) this
  · refine ⟨j, h1, h2, ?_⟩
    rw [key_at h1] at h3
    have hj : d.getD j (0, []) ∈ d := by simp [h1]
    have h5 := (lookup_iff hk (v := v) (r := (d.getD j (0, [])).2)).2 (by rw [← h3]; exact hj)
    rw [h] at h5
    cases h5
    exact Prod.ext h3 rfl
end Go.Proofs.Ytnbpbehlemaeoaa

set_option linter.unusedVariables false
set_option linter.unusedSimpArgs false
set_option maxRecDepth 10000
namespace Go.Proofs.Ytnbpbehlemaeoaa
open Go.IL
theorem tup_ref {f : FuncId} {args : List SV} {W H e : Int} {p : List Int} (h : FSpec Try.prog f args (.tup [.agg [.int .i64 W, .int .i64 H, .ref 0 0 p.length], .int .i64 e]) (resR p)) : FSpec Try.prog f args (.tup [resI W H p, .int .i64 e]) (resR p) :=
  FSpec.weak h fun ρ F w v h => by
    cases h with
    | tup _ us hl hh =>
      refine .tup _ us hl fun i c u e1 e2 => ?_
      match i, e1 with
      | 0, e1 => cases e1; exact rel_agg3 (fun _ h => h) (fun _ h => h) (fun _ h => rel_ls h) (hh 0 _ u rfl e2)
      | 1, e1 => cases e1; exact hh 1 _ u rfl e2
      | i + 2, e1 => simp at e1
set_option maxHeartbeats 4000000 in
theorem refGlyph {s : Int} {w h : Nat} {d : List (Int × List ByteArray)} (S : SetD s w h d) (v : Int) : FSpec Try.prog 19 [.int .i64 s, .int .i64 v] (.tup [resI (gW d w v) (gW d h v) (gP d v), .int .i64 (gE d v)]) (resR (gP d v)) := by
  have hvals := S.vals
  have hks : (keysD d).length = d.length := by simp [keysD]
  have hle := S.le
  cases hv : d.lookup v with
  | none =>
    simp only [gW, gP, gE, hv]
    have hat := atI_none S.nodup hv
    rw [← hks] at hat
    generalize keysD d = ks at *
    refine FSpec.ghost (sv := .tup [.agg [.int .i64 0, .int .i64 0, .nils], .int .i64 20]) ?_ fun F w v h => ?_
    · refine FSpec.intro tab_ok Try.func19 rfl rfl rfl (by kernel_rfl) (by simp) fun w0 => ?_
      simp only [argTM, Nat.zero_add, Nat.reduceAdd]
      repeat refine IW.seq ?_
      refine IW.region_seq tab_ok [some 4, some 5] rfl fun X K hX hK => ?_
      simp only [go_sem, if_true, if_false, reduceIte, Nat.reduceEqDiff, Nat.reduceAdd, Nat.reduceLT, Nat.reduceLeDiff, reduceCtorEq]
      refine hK _ _ ?_; clear hX hK X K
      show IW _ _ _ _ _ _ _ _
      repeat refine IW.seq ?_
      refine IW.region_seq tab_ok [some 6] rfl fun X K hX hK => ?_
      simp only [go_sem, if_true, if_false, reduceIte, Nat.reduceEqDiff, Nat.reduceAdd, Nat.reduceLT, Nat.reduceLeDiff, reduceCtorEq]
      refine hK _ _ ?_; clear hX hK X K
      show IW _ _ _ _ _ _ _ _
      repeat refine IW.seq ?_
      refine IW.region_seq tab_ok [some 16, some 17, some 7] rfl fun X K hX hK => ?_
      simp only [go_sem, if_true, if_false, reduceIte, Nat.reduceEqDiff, Nat.reduceAdd, Nat.reduceLT, Nat.reduceLeDiff, reduceCtorEq]
      refine hX.quiet _ _ (OpG.of_B rfl (opB_call rfl rfl (FSpec.nz (hvals) (by simp [go_sem, if_true, if_false, reduceIte, Nat.reduceEqDiff, Nat.reduceAdd, Nat.reduceLT, Nat.reduceLeDiff, reduceCtorEq, List.map_cons, List.map_nil, List.append_nil, opnd, unc])))) ?_
      simp only [go_sem, if_true, if_false, reduceIte, Nat.reduceEqDiff, Nat.reduceAdd, Nat.reduceLT, Nat.reduceLeDiff, reduceCtorEq]
      refine hK _ _ ?_; clear hX hK X K
      show IW _ _ _ _ _ _ _ _
      repeat refine IW.seq ?_
      refine IW.region_seq tab_ok [some 8] rfl fun X K hX hK => ?_
      simp only [go_sem, if_true, if_false, reduceIte, Nat.reduceEqDiff, Nat.reduceAdd, Nat.reduceLT, Nat.reduceLeDiff, reduceCtorEq]
      refine hK _ _ ?_; clear hX hK X K
      show IW _ _ _ _ _ _ _ _
      repeat refine IW.seq ?_
      refine IW.block ?_
      refine IW.loop (α := {i : Nat // i ≤ ks.length}) (fun i => [(0, .int .i64 s), (1, .int .i64 v), (4, .ptr 0 0 0), (6, .int .i64 (atI ks v i.1)), (7, .sl false (nums .i64 ks)), (8, .int .i64 i.1)]) (fun _ => [some ⟨3, 33, [[.int .i64 0, .int .i64 0, .nils]]⟩]) (fun i => ks.length - i.1) ⟨0, Nat.zero_le _⟩ ?_ fun ⟨i, hi⟩ => ?_
      · have : atI ks v 0 = -1 := rfl
        refine Ent.cut ?_ ?_ <;> simp only [go_sem, if_true, if_false, reduceIte, Nat.reduceEqDiff, Nat.reduceAdd, Nat.reduceLT, Nat.reduceLeDiff, reduceCtorEq, this]
      · simp only []
        repeat refine IW.seq ?_
        refine IW.region_seq tab_ok [some 18, some 19, some 20, some 21] rfl fun X K hX hK => ?_
        simp only [go_sem, if_true, if_false, reduceIte, Nat.reduceEqDiff, Nat.reduceAdd, Nat.reduceLT, Nat.reduceLeDiff, reduceCtorEq]
        refine hK _ _ ?_; clear hX hK X K
        show IW _ _ _ _ _ _ _ _
        repeat refine IW.seq ?_
        refine IW.cond rfl (fun hb1 => ?_) (fun hb1 => ?_)
        · simp only [decide_eq_true_eq] at hb1
          have hil : i < ks.length := by omega
          have hsn : atI ks v (i + 1) = if ks.getD i 0 == v then (i : Int) else atI ks v i := rfl
          refine IW.skip ?_
          show IW _ _ _ _ _ _ _ _
          refine IW.seq (IW.block ?_)
          repeat refine IW.seq ?_
          refine IW.region_seq tab_ok [some 24, some 25, some 26, some 27, some 28, some 29] rfl fun X K hX hK => ?_
          simp only [go_sem, if_true, if_false, reduceIte, Nat.reduceEqDiff, Nat.reduceAdd, Nat.reduceLT, Nat.reduceLeDiff, reduceCtorEq, nums_at hil]
          refine ⟨⟨by omega, by omega⟩, ?_⟩
          refine hK _ _ ?_; clear hX hK X K
          show IW _ _ _ _ _ _ _ _
          repeat refine IW.seq ?_
          refine IW.cond rfl (fun hb2 => ?_) (fun hb2 => ?_)
          · rw [if_pos hb2] at hsn
            repeat refine IW.seq ?_
            refine IW.region_seq tab_ok [some 30, some 6] rfl fun X K hX hK => ?_
            simp only [go_sem, if_true, if_false, reduceIte, Nat.reduceEqDiff, Nat.reduceAdd, Nat.reduceLT, Nat.reduceLeDiff, reduceCtorEq]
            refine hK _ _ ?_; clear hX hK X K
            show IW _ _ _ _ _ _ _ _
            repeat refine IW.seq ?_
            refine IW.region_seq tab_ok [some 22, some 23, some 8] rfl fun X K hX hK => ?_
            simp only [go_sem, if_true, if_false, reduceIte, Nat.reduceEqDiff, Nat.reduceAdd, Nat.reduceLT, Nat.reduceLeDiff, reduceCtorEq, succ_wrap hil (by omega)]
            refine hK _ _ ⟨⟨i + 1, hil⟩, by simp only []; omega, ?_⟩
            refine Ent.cut ?_ ?_ <;> simp only [go_sem, if_true, if_false, reduceIte, Nat.reduceEqDiff, Nat.reduceAdd, Nat.reduceLT, Nat.reduceLeDiff, reduceCtorEq, hsn]
          · rw [if_neg (by rw [hb2]; simp)] at hsn
            refine IW.skip ?_
            show IW _ _ _ _ _ _ _ _
            repeat refine IW.seq ?_
            refine IW.region_seq tab_ok [some 22, some 23, some 8] rfl fun X K hX hK => ?_
            simp only [go_sem, if_true, if_false, reduceIte, Nat.reduceEqDiff, Nat.reduceAdd, Nat.reduceLT, Nat.reduceLeDiff, reduceCtorEq, succ_wrap hil (by omega)]
            refine hK _ _ ⟨⟨i + 1, hil⟩, by simp only []; omega, ?_⟩
            refine Ent.cut ?_ ?_ <;> simp only [go_sem, if_true, if_false, reduceIte, Nat.reduceEqDiff, Nat.reduceAdd, Nat.reduceLT, Nat.reduceLeDiff, reduceCtorEq, hsn]
        · refine IW.exit ?_
          show IW _ _ _ _ _ _ _ _
          simp only [decide_eq_false_iff_not] at hb1
          obtain rfl : i = ks.length := by omega
          rw [hat]
          repeat refine IW.seq ?_
          refine IW.region_seq tab_ok [some 31, some 32] rfl fun X K hX hK => ?_
          simp only [go_sem, if_true, if_false, reduceIte, Nat.reduceEqDiff, Nat.reduceAdd, Nat.reduceLT, Nat.reduceLeDiff, reduceCtorEq]
          refine hK _ _ ?_; clear hX hK X K
          show IW _ _ _ _ _ _ _ _
          repeat refine IW.seq ?_
          refine IW.cond rfl (fun _ => ?_) (fun hb => absurd hb (by decide))
          repeat refine IW.seq ?_
          refine IW.region_seq tab_ok [some 33, none, some 5] rfl fun X K hX hK => ?_
          simp only [go_sem, if_true, if_false, reduceIte, Nat.reduceEqDiff, Nat.reduceAdd, Nat.reduceLT, Nat.reduceLeDiff, reduceCtorEq]
          refine hX.op _ _ rfl (opS_store tab_ok rfl (by simp [go_sem, if_true, if_false, reduceIte, Nat.reduceEqDiff, Nat.reduceAdd, Nat.reduceLT, Nat.reduceLeDiff, reduceCtorEq]) (by simp [go_sem, if_true, if_false, reduceIte, Nat.reduceEqDiff, Nat.reduceAdd, Nat.reduceLT, Nat.reduceLeDiff, reduceCtorEq]) (by simp [go_sem, if_true, if_false, reduceIte, Nat.reduceEqDiff, Nat.reduceAdd, Nat.reduceLT, Nat.reduceLeDiff, reduceCtorEq]) (by simp [go_sem, if_true, if_false, reduceIte, Nat.reduceEqDiff, Nat.reduceAdd, Nat.reduceLT, Nat.reduceLeDiff, reduceCtorEq]) (by simp [go_sem, if_true, if_false, reduceIte, Nat.reduceEqDiff, Nat.reduceAdd, Nat.reduceLT, Nat.reduceLeDiff, reduceCtorEq]) (by simp [go_sem, if_true, if_false, reduceIte, Nat.reduceEqDiff, Nat.reduceAdd, Nat.reduceLT, Nat.reduceLeDiff, reduceCtorEq])) ?_
          simp only [go_sem, if_true, if_false, reduceIte, Nat.reduceEqDiff, Nat.reduceAdd, Nat.reduceLT, Nat.reduceLeDiff, reduceCtorEq]
          refine hK _ _ ?_; clear hX hK X K
          show IW _ _ _ _ _ _ _ _
          refine IW.ret ⟨⟨⟨trivial, by simp [go_sem, if_true, if_false, reduceIte, Nat.reduceEqDiff, Nat.reduceAdd, Nat.reduceLT, Nat.reduceLeDiff, reduceCtorEq]⟩, trivial, trivial⟩, rfl, rfl, [], rfl, by simp, ?_, trivial⟩
          rfl
    · cases h with
      | tup _ us hl hh =>
        refine .tup _ us hl fun i c u e1 e2 => ?_
        match i, e1 with
        | 0, e1 => cases e1; exact rel_agg3 (fun _ h => h) (fun _ h => h) (fun _ h => rel_ls_nil h) (hh 0 _ u rfl e2)
        | 1, e1 => cases e1; exact hh 1 _ u rfl e2
        | i + 2, e1 => simp at e1
  | some r =>
    simp only [gW, gP, gE, hv]
    obtain ⟨j, hj, hat, hjr⟩ := atI_some S.nodup hv
    obtain ⟨k1, k2⟩ := S.ok _ (lookup_mem' hv)
    simp only [] at k1 k2
    have hflat : ∀ {y : Nat}, y < h → (d.flatMap (·.2)).getD (j * h + y) default = r.getD y default := fun hy => by rw [flat_get S.ok hj hy, hjr]
    have hfl := flat_len S.ok
    obtain ⟨rv, hrv, hren, hbnd, hcase⟩ := S.rows
    have hsize := S.size
    have hw10 := S.wb
    have hh25 := S.hb
    have hmul : w * h ≤ 10 * 25 := Nat.mul_le_mul hw10 hh25
    have hdp : drawP r = rm (w * h) (drawF r w) := by simp only [drawP, k2 0 S.h0, k1]
    rw [hdp]
    refine tup_ref ?_
    rw [← hks] at hat
    have hj27 : j < 27 := by omega
    clear hvals
    have hvals := S.vals
    generalize keysD d = ks at *
    refine FSpec.intro tab_ok Try.func19 rfl rfl rfl (by kernel_rfl) (by simp) fun w0 => ?_
    simp only [argTM, Nat.zero_add, Nat.reduceAdd]
    repeat refine IW.seq ?_
    refine IW.region_seq tab_ok [some 4, some 5] rfl fun X K hX hK => ?_
    simp only [go_sem, if_true, if_false, reduceIte, Nat.reduceEqDiff, Nat.reduceAdd, Nat.reduceLT, Nat.reduceLeDiff, reduceCtorEq]
    refine hK _ _ ?_; clear hX hK X K
    show IW _ _ _ _ _ _ _ _
    repeat refine IW.seq ?_
    refine IW.region_seq tab_ok [some 6] rfl fun X K hX hK => ?_
    simp only [go_sem, if_true, if_false, reduceIte, Nat.reduceEqDiff, Nat.reduceAdd, Nat.reduceLT, Nat.reduceLeDiff, reduceCtorEq]
    refine hK _ _ ?_; clear hX hK X K
    show IW _ _ _ _ _ _ _ _
    repeat refine IW.seq ?_
    refine IW.region_seq tab_ok [some 16, some 17, some 7] rfl fun X K hX hK => ?_
    simp only [go_sem, if_true, if_false, reduceIte, Nat.reduceEqDiff, Nat.reduceAdd, Nat.reduceLT, Nat.reduceLeDiff, reduceCtorEq]
    refine hX.quiet _ _ (OpG.of_B rfl (opB_call rfl rfl (FSpec.nz (hvals) (by simp [go_sem, if_true, if_false, reduceIte, Nat.reduceEqDiff, Nat.reduceAdd, Nat.reduceLT, Nat.reduceLeDiff, reduceCtorEq, List.map_cons, List.map_nil, List.append_nil, opnd, unc])))) ?_
    simp only [go_sem, if_true, if_false, reduceIte, Nat.reduceEqDiff, Nat.reduceAdd, Nat.reduceLT, Nat.reduceLeDiff, reduceCtorEq]
    refine hK _ _ ?_; clear hX hK X K
    show IW _ _ _ _ _ _ _ _
    repeat refine IW.seq ?_
    refine IW.region_seq tab_ok [some 8] rfl fun X K hX hK => ?_
    simp only [go_sem, if_true, if_false, reduceIte, Nat.reduceEqDiff, Nat.reduceAdd, Nat.reduceLT, Nat.reduceLeDiff, reduceCtorEq]
    refine hK _ _ ?_; clear hX hK X K
    show IW _ _ _ _ _ _ _ _
    repeat refine IW.seq ?_
    refine IW.block ?_
    refine IW.loop (α := {i : Nat // i ≤ ks.length}) (fun i => [(0, .int .i64 s), (1, .int .i64 v), (4, .ptr 0 0 0), (6, .int .i64 (atI ks v i.1)), (7, .sl false (nums .i64 ks)), (8, .int .i64 i.1)]) (fun _ => [some ⟨3, 33, [[.int .i64 0, .int .i64 0, .nils]]⟩]) (fun i => ks.length - i.1) ⟨0, Nat.zero_le _⟩ ?_ fun ⟨i, hi⟩ => ?_
    · have : atI ks v 0 = -1 := rfl
      refine Ent.cut ?_ ?_ <;> simp only [go_sem, if_true, if_false, reduceIte, Nat.reduceEqDiff, Nat.reduceAdd, Nat.reduceLT, Nat.reduceLeDiff, reduceCtorEq, this]
    · simp only []
      repeat refine IW.seq ?_
      refine IW.region_seq tab_ok [some 18, some 19, some 20, some 21] rfl fun X K hX hK => ?_
      simp only [go_sem, if_true, if_false, reduceIte, Nat.reduceEqDiff, Nat.reduceAdd, Nat.reduceLT, Nat.reduceLeDiff, reduceCtorEq]
      refine hK _ _ ?_; clear hX hK X K
      show IW _ _ _ _ _ _ _ _
      repeat refine IW.seq ?_
      refine IW.cond rfl (fun hb1 => ?_) (fun hb1 => ?_)
      · simp only [decide_eq_true_eq] at hb1
        have hil : i < ks.length := by omega
        have hsn : atI ks v (i + 1) = if ks.getD i 0 == v then (i : Int) else atI ks v i := rfl
        refine IW.skip ?_
        show IW _ _ _ _ _ _ _ _
        refine IW.seq (IW.block ?_)
        repeat refine IW.seq ?_
        refine IW.region_seq tab_ok [some 24, some 25, some 26, some 27, some 28, some 29] rfl fun X K hX hK => ?_
        simp only [go_sem, if_true, if_false, reduceIte, Nat.reduceEqDiff, Nat.reduceAdd, Nat.reduceLT, Nat.reduceLeDiff, reduceCtorEq, nums_at hil]
        refine ⟨⟨by omega, by omega⟩, ?_⟩
        refine hK _ _ ?_; clear hX hK X K
        show IW _ _ _ _ _ _ _ _
        repeat refine IW.seq ?_
        refine IW.cond rfl (fun hb2 => ?_) (fun hb2 => ?_)
        · rw [if_pos hb2] at hsn
          repeat refine IW.seq ?_
          refine IW.region_seq tab_ok [some 30, some 6] rfl fun X K hX hK => ?_
          simp only [go_sem, if_true, if_false, reduceIte, Nat.reduceEqDiff, Nat.reduceAdd, Nat.reduceLT, Nat.reduceLeDiff, reduceCtorEq]
          refine hK _ _ ?_; clear hX hK X K
          show IW _ _ _ _ _ _ _ _
          repeat refine IW.seq ?_
          refine IW.region_seq tab_ok [some 22, some 23, some 8] rfl fun X K hX hK => ?_
          simp only [go_sem, if_true, if_false, reduceIte, Nat.reduceEqDiff, Nat.reduceAdd, Nat.reduceLT, Nat.reduceLeDiff, reduceCtorEq, succ_wrap hil (by omega)]
          refine hK _ _ ⟨⟨i + 1, hil⟩, by simp only []; omega, ?_⟩
          refine Ent.cut ?_ ?_ <;> simp only [go_sem, if_true, if_false, reduceIte, Nat.reduceEqDiff, Nat.reduceAdd, Nat.reduceLT, Nat.reduceLeDiff, reduceCtorEq, hsn]
        · rw [if_neg (by rw [hb2]; simp)] at hsn
          refine IW.skip ?_
          show IW _ _ _ _ _ _ _ _
          repeat refine IW.seq ?_
          refine IW.region_seq tab_ok [some 22, some 23, some 8] rfl fun X K hX hK => ?_
          simp only [go_sem, if_true, if_false, reduceIte, Nat.reduceEqDiff, Nat.reduceAdd, Nat.reduceLT, Nat.reduceLeDiff, reduceCtorEq, succ_wrap hil (by omega)]
          refine hK _ _ ⟨⟨i + 1, hil⟩, by simp only []; omega, ?_⟩
          refine Ent.cut ?_ ?_ <;> simp only [go_sem, if_true, if_false, reduceIte, Nat.reduceEqDiff, Nat.reduceAdd, Nat.reduceLT, Nat.reduceLeDiff, reduceCtorEq, hsn]
      · refine IW.exit ?_
        show IW _ _ _ _ _ _ _ _
        simp only [decide_eq_false_iff_not] at hb1
        obtain rfl : i = ks.length := by omega
        rw [hat]
        have hjn : ¬ ((j : Int) < 0) := by omega
        repeat refine IW.seq ?_
        refine IW.region_seq tab_ok [some 31, some 32] rfl fun X K hX hK => ?_
        simp only [go_sem, if_true, if_false, reduceIte, Nat.reduceEqDiff, Nat.reduceAdd, Nat.reduceLT, Nat.reduceLeDiff, reduceCtorEq, hjn, decide_false]
        refine hK _ _ ?_; clear hX hK X K
        show IW _ _ _ _ _ _ _ _
        repeat refine IW.seq ?_
        refine IW.cond rfl (fun hb => absurd hb (by decide)) (fun _ => ?_)
        refine IW.skip ?_
        show IW _ _ _ _ _ _ _ _
        repeat refine IW.seq ?_
        refine IW.region_seq tab_ok [some 35, some 36, some 34, some 37, some 38, some 9, some 10] rfl fun X K hX hK => ?_
        simp only [go_sem, if_true, if_false, reduceIte, Nat.reduceEqDiff, Nat.reduceAdd, Nat.reduceLT, Nat.reduceLeDiff, reduceCtorEq]
        refine hX.quiet _ _ (OpG.of_B rfl (opB_call rfl rfl (FSpec.nz (hsize) (by simp [go_sem, if_true, if_false, reduceIte, Nat.reduceEqDiff, Nat.reduceAdd, Nat.reduceLT, Nat.reduceLeDiff, reduceCtorEq, List.map_cons, List.map_nil, List.append_nil, opnd, unc])))) ?_
        simp only [go_sem, if_true, if_false, reduceIte, Nat.reduceEqDiff, Nat.reduceAdd, Nat.reduceLT, Nat.reduceLeDiff, reduceCtorEq]
        refine hK _ _ ?_; clear hX hK X K
        show IW _ _ _ _ _ _ _ _
        repeat refine IW.seq ?_
        refine IW.region_seq tab_ok [some 39, some 40, some 41, some 11, none] rfl fun X K hX hK => ?_
        simp only [go_sem, if_true, if_false, reduceIte, Nat.reduceEqDiff, Nat.reduceAdd, Nat.reduceLT, Nat.reduceLeDiff, reduceCtorEq]
        refine hX.quiet _ _ (OpG.of_B rfl (opB_call rfl rfl (FSpec.nz (refBlank w h (by omega) (by omega) (by omega)) (by simp [go_sem, if_true, if_false, reduceIte, Nat.reduceEqDiff, Nat.reduceAdd, Nat.reduceLT, Nat.reduceLeDiff, reduceCtorEq, List.map_cons, List.map_nil, List.append_nil, opnd, unc, imgSV, imgRows])))) ?_
        simp only [go_sem, if_true, if_false, reduceIte, Nat.reduceEqDiff, Nat.reduceAdd, Nat.reduceLT, Nat.reduceLeDiff, reduceCtorEq, imgSV, imgRows]
        refine hX.op _ _ rfl (opS_store tab_ok rfl (by simp [go_sem, if_true, if_false, reduceIte, Nat.reduceEqDiff, Nat.reduceAdd, Nat.reduceLT, Nat.reduceLeDiff, reduceCtorEq]) (by simp [go_sem, if_true, if_false, reduceIte, Nat.reduceEqDiff, Nat.reduceAdd, Nat.reduceLT, Nat.reduceLeDiff, reduceCtorEq]) (by simp [go_sem, if_true, if_false, reduceIte, Nat.reduceEqDiff, Nat.reduceAdd, Nat.reduceLT, Nat.reduceLeDiff, reduceCtorEq]) (by simp [go_sem, if_true, if_false, reduceIte, Nat.reduceEqDiff, Nat.reduceAdd, Nat.reduceLT, Nat.reduceLeDiff, reduceCtorEq]) (by simp [go_sem, if_true, if_false, reduceIte, Nat.reduceEqDiff, Nat.reduceAdd, Nat.reduceLT, Nat.reduceLeDiff, reduceCtorEq]) (by simp [go_sem, if_true, if_false, reduceIte, Nat.reduceEqDiff, Nat.reduceAdd, Nat.reduceLT, Nat.reduceLeDiff, reduceCtorEq])) ?_
        simp only [go_sem, if_true, if_false, reduceIte, Nat.reduceEqDiff, Nat.reduceAdd, Nat.reduceLT, Nat.reduceLeDiff, reduceCtorEq]
        refine hK _ _ ?_; clear hX hK X K
        show IW _ _ _ _ _ _ _ _
        repeat refine IW.seq ?_
        refine IW.region_seq tab_ok [some 42, some 43, some 12] rfl fun X K hX hK => ?_
        simp only [go_sem, if_true, if_false, reduceIte, Nat.reduceEqDiff, Nat.reduceAdd, Nat.reduceLT, Nat.reduceLeDiff, reduceCtorEq]
        refine hX.quiet _ _ (OpG.of_B rfl (opB_call rfl rfl (FSpec.nz (hrv) (by simp [go_sem, if_true, if_false, reduceIte, Nat.reduceEqDiff, Nat.reduceAdd, Nat.reduceLT, Nat.reduceLeDiff, reduceCtorEq, List.map_cons, List.map_nil, List.append_nil, opnd, unc, hren])))) ?_
        simp only [go_sem, if_true, if_false, reduceIte, Nat.reduceEqDiff, Nat.reduceAdd, Nat.reduceLT, Nat.reduceLeDiff, reduceCtorEq, hren]
        refine hK _ _ ?_; clear hX hK X K
        show IW _ _ _ _ _ _ _ _
        repeat refine IW.seq ?_
        refine IW.region_seq tab_ok [some 13] rfl fun X K hX hK => ?_
        simp only [go_sem, if_true, if_false, reduceIte, Nat.reduceEqDiff, Nat.reduceAdd, Nat.reduceLT, Nat.reduceLeDiff, reduceCtorEq]
        refine hK _ _ ?_; clear hX hK X K
        show IW _ _ _ _ _ _ _ _
        repeat refine IW.seq ?_
        refine IW.block ?_
        refine IW.loop (α := {y : Nat // y ≤ h}) (fun y => [(0, .int .i64 s), (1, .int .i64 v), (4, .ptr 0 0 0), (6, .int .i64 j), (9, .int .i64 w), (10, .int .i64 h), (11, .ptr 2 0 0), (12, rv), (13, .int .i64 y.1)]) (fun y => [some ⟨3, 33, [[.int .i64 0, .int .i64 0, .nils]]⟩, some ⟨1, 5, nums .u8 (upto (drawF r w) (w * h) (y.1 * w))⟩, some ⟨3, 33, [[.int .i64 w, .int .i64 h, .ref 1 0 (w * h)]]⟩]) (fun y => h - y.1) ⟨0, Nat.zero_le _⟩ ?_ fun ⟨y, hy⟩ => ?_
        · refine Ent.cut ?_ ?_ <;> simp only [go_sem, if_true, if_false, reduceIte, Nat.reduceEqDiff, Nat.reduceAdd, Nat.reduceLT, Nat.reduceLeDiff, reduceCtorEq, Nat.zero_mul, upto_zero, List.length_replicate, hbnd]
        · simp only []
          repeat refine IW.seq ?_
          refine IW.region_seq tab_ok [some 44, some 45, some 46] rfl fun X K hX hK => ?_
          simp only [go_sem, if_true, if_false, reduceIte, Nat.reduceEqDiff, Nat.reduceAdd, Nat.reduceLT, Nat.reduceLeDiff, reduceCtorEq]
          refine hK _ _ ?_; clear hX hK X K
          show IW _ _ _ _ _ _ _ _
          repeat refine IW.seq ?_
          refine IW.cond rfl (fun hb2 => ?_) (fun hb2 => ?_)
          · simp only [decide_eq_true_eq] at hb2
            have hyh : y < h := by omega
            refine IW.skip ?_
            show IW _ _ _ _ _ _ _ _
            refine IW.seq (IW.block ?_)
            repeat refine IW.seq ?_
            refine IW.region_seq tab_ok [some 14] rfl fun X K hX hK => ?_
            simp only [go_sem, if_true, if_false, reduceIte, Nat.reduceEqDiff, Nat.reduceAdd, Nat.reduceLT, Nat.reduceLeDiff, reduceCtorEq]
            refine hK _ _ ?_; clear hX hK X K
            show IW _ _ _ _ _ _ _ _
            repeat refine IW.seq ?_
            refine IW.block ?_
            refine IW.loop (α := {x : Nat // x ≤ w}) (fun x => [(0, .int .i64 s), (1, .int .i64 v), (4, .ptr 0 0 0), (6, .int .i64 j), (9, .int .i64 w), (10, .int .i64 h), (11, .ptr 2 0 0), (12, rv), (13, .int .i64 y), (14, .int .i64 x.1)]) (fun x => [some ⟨3, 33, [[.int .i64 0, .int .i64 0, .nils]]⟩, some ⟨1, 5, nums .u8 (upto (drawF r w) (w * h) (y * w + x.1))⟩, some ⟨3, 33, [[.int .i64 w, .int .i64 h, .ref 1 0 (w * h)]]⟩]) (fun x => w - x.1) ⟨0, Nat.zero_le _⟩ ?_ fun ⟨x, hx⟩ => ?_
            · refine Ent.cut ?_ ?_ <;> simp only [go_sem, if_true, if_false, reduceIte, Nat.reduceEqDiff, Nat.reduceAdd, Nat.reduceLT, Nat.reduceLeDiff, reduceCtorEq, Nat.add_zero, hbnd]
            · simp only []
              repeat refine IW.seq ?_
              refine IW.region_seq tab_ok [some 49, some 50, some 51] rfl fun X K hX hK => ?_
              simp only [go_sem, if_true, if_false, reduceIte, Nat.reduceEqDiff, Nat.reduceAdd, Nat.reduceLT, Nat.reduceLeDiff, reduceCtorEq]
              refine hK _ _ ?_; clear hX hK X K
              show IW _ _ _ _ _ _ _ _
              repeat refine IW.seq ?_
              refine IW.cond rfl (fun hb3 => ?_) (fun hb3 => ?_)
              · simp only [decide_eq_true_eq] at hb3
                have hxw : x < w := by omega
                obtain ⟨e1, e2, hk2⟩ := wrap_cell (n := w * h) hxw hyh rfl (by omega)
                have hce := (cell_eq (t := y * w + x) (y := y) hxw).1 rfl
                have hset := upto_set (drawF r w) (w * h) (y * w + x)
                have hdf : drawF r w (y * w + x) = if sbAt (r.getD y default) x = 35 then 1 else 0 := by simp only [drawF, hce.1, hce.2]
                refine IW.skip ?_
                show IW _ _ _ _ _ _ _ _
                refine IW.seq (IW.block ?_)
                repeat refine IW.seq ?_
                refine IW.region_seq tab_ok [some 15] rfl fun X K hX hK => ?_
                simp only [go_sem, if_true, if_false, reduceIte, Nat.reduceEqDiff, Nat.reduceAdd, Nat.reduceLT, Nat.reduceLeDiff, reduceCtorEq]
                refine hK _ _ ?_; clear hX hK X K
                show IW _ _ _ _ _ _ _ _
                repeat refine IW.seq ?_
                refine IW.region_seq tab_ok [some 54, some 55] rfl fun X K hX hK => ?_
                simp only [go_sem, if_true, if_false, reduceIte, Nat.reduceEqDiff, Nat.reduceAdd, Nat.reduceLT, Nat.reduceLeDiff, reduceCtorEq]
                refine hK _ _ ?_; clear hX hK X K
                show IW _ _ _ _ _ _ _ _
                repeat refine IW.seq ?_
                refine IW.joinI (α := Unit) (fun _ => [(15, .bool (decide (sbAt (r.getD y default) x = 35))), (0, .int .i64 s), (1, .int .i64 v), (4, .ptr 0 0 0), (6, .int .i64 j), (9, .int .i64 w), (10, .int .i64 h), (11, .ptr 2 0 0), (12, rv), (13, .int .i64 y), (14, .int .i64 x)]) (fun _ => [some ⟨3, 33, [[.int .i64 0, .int .i64 0, .nils]]⟩, some ⟨1, 5, nums .u8 (upto (drawF r w) (w * h) (y * w + x))⟩, some ⟨3, 33, [[.int .i64 w, .int .i64 h, .ref 1 0 (w * h)]]⟩]) ?_ fun _ => ?_
                · rcases hcase with ⟨hs9, rfl⟩ | ⟨hs9, hbar⟩
                  · have h9 : (s == 9) = false := by simpa using hs9
                    refine IW.cond (by simp only [h9]; rfl) (fun hb => absurd hb (by decide)) (fun _ => ?_)
                    have hjh : j * h + y < (d.flatMap (·.2)).length := by
                      rw [hfl]
                      have : (j + 1) * h ≤ d.length * h := Nat.mul_le_mul_right _ hj
                      rw [Nat.succ_mul] at this; omega
                    have hm9 : j * h ≤ 27 * 25 := Nat.mul_le_mul (by omega) hh25
                    have e5 : IntKind.i64.wrap ((j : Int) * (h : Int)) = ((j * h : Nat) : Int) := by
                      rw [← Int.natCast_mul]; exact wrap_eq (by omega) (by omega)
                    have e6 : IntKind.i64.wrap (((j * h : Nat) : Int) + (y : Int)) = ((j * h + y : Nat) : Int) := (wrap_eq (by omega) (by omega)).trans (by omega)
                    have hsa := strs_at hjh
                    rw [hflat hyh] at hsa
                    have hsz := k2 y hyh
                    repeat refine IW.seq ?_
                    refine IW.region_seq tab_ok [some 60, some 61, some 62, some 63, some 64, some 65, some 66, some 67, some 68, some 69, some 70, some 15] rfl fun X K hX hK => ?_
                    simp only [go_sem, if_true, if_false, reduceIte, Nat.reduceEqDiff, Nat.reduceAdd, Nat.reduceLT, Nat.reduceLeDiff, reduceCtorEq, e5, e6, hsa, hsz, Int.toNat_natCast]
                    have hdc : (sbAt (r.getD y default) x == 35) = decide (sbAt (r.getD y default) x = 35) := by rw [Bool.eq_iff_iff]; simp
                    refine ⟨⟨by omega, by omega⟩, ⟨by omega, by omega⟩, hK _ _ ⟨(), ?_⟩⟩
                    refine Ent.cut ?_ ?_ <;> simp only [go_sem, if_true, if_false, reduceIte, Nat.reduceEqDiff, Nat.reduceAdd, Nat.reduceLT, Nat.reduceLeDiff, reduceCtorEq, hdc, hbnd]
                  · have h9 : (s == 9) = true := by simpa using hs9
                    refine IW.cond (by simp only [h9]; rfl) (fun _ => ?_) (fun hb => absurd hb (by decide))
                    repeat refine IW.seq ?_
                    refine IW.region_seq tab_ok [some 56, some 57, some 58, some 59, some 15] rfl fun X K hX hK => ?_
                    simp only [go_sem, if_true, if_false, reduceIte, Nat.reduceEqDiff, Nat.reduceAdd, Nat.reduceLT, Nat.reduceLeDiff, reduceCtorEq]
                    refine hX.quiet _ _ (OpG.of_B rfl (opB_call rfl rfl (FSpec.nz (hbar v r x y hv hxw hyh) (by simp [go_sem, if_true, if_false, reduceIte, Nat.reduceEqDiff, Nat.reduceAdd, Nat.reduceLT, Nat.reduceLeDiff, reduceCtorEq, List.map_cons, List.map_nil, List.append_nil, opnd, unc])))) ?_
                    simp only [go_sem, if_true, if_false, reduceIte, Nat.reduceEqDiff, Nat.reduceAdd, Nat.reduceLT, Nat.reduceLeDiff, reduceCtorEq]
                    refine hK _ _ ⟨(), ?_⟩
                    refine Ent.cut ?_ ?_ <;> simp only [go_sem, if_true, if_false, reduceIte, Nat.reduceEqDiff, Nat.reduceAdd, Nat.reduceLT, Nat.reduceLeDiff, reduceCtorEq, hbnd]
                · repeat refine IW.seq ?_
                  refine IW.region_seq tab_ok [some 71] rfl fun X K hX hK => ?_
                  simp only [go_sem, if_true, if_false, reduceIte, Nat.reduceEqDiff, Nat.reduceAdd, Nat.reduceLT, Nat.reduceLeDiff, reduceCtorEq]
                  refine hK _ _ ?_; clear hX hK X K
                  show IW _ _ _ _ _ _ _ _
                  repeat refine IW.seq ?_
                  refine IW.cond rfl (fun hb4 => ?_) (fun hb4 => ?_)
                  · have hk3 := nums_at (k := .u8) (xs := upto (drawF r w) (w * h) (y * w + x)) (i := y * w + x) (by simp [upto_length, hk2])
                    repeat refine IW.seq ?_
                    refine IW.region_seq tab_ok [some 72, some 73, some 74, some 75, some 76, some 77, some 78, some 79, none] rfl fun X K hX hK => ?_
                    simp only [go_sem, if_true, if_false, reduceIte, Nat.reduceEqDiff, Nat.reduceAdd, Nat.reduceLT, Nat.reduceLeDiff, reduceCtorEq, e1, e2]
                    refine ⟨⟨by omega, by omega⟩, ?_⟩
                    refine hX.op _ _ rfl (opS_store tab_ok rfl (by simp [go_sem, if_true, if_false, reduceIte, Nat.reduceEqDiff, Nat.reduceAdd, Nat.reduceLT, Nat.reduceLeDiff, reduceCtorEq]) (by simp [go_sem, if_true, if_false, reduceIte, Nat.reduceEqDiff, Nat.reduceAdd, Nat.reduceLT, Nat.reduceLeDiff, reduceCtorEq]) (by simp [go_sem, if_true, if_false, reduceIte, Nat.reduceEqDiff, Nat.reduceAdd, Nat.reduceLT, Nat.reduceLeDiff, reduceCtorEq]) (by simp [go_sem, if_true, if_false, reduceIte, Nat.reduceEqDiff, Nat.reduceAdd, Nat.reduceLT, Nat.reduceLeDiff, reduceCtorEq, hk2, hk3]) (by simp [go_sem, if_true, if_false, reduceIte, Nat.reduceEqDiff, Nat.reduceAdd, Nat.reduceLT, Nat.reduceLeDiff, reduceCtorEq]) (by simp [go_sem, if_true, if_false, reduceIte, Nat.reduceEqDiff, Nat.reduceAdd, Nat.reduceLT, Nat.reduceLeDiff, reduceCtorEq])) ?_
                    simp only [go_sem, if_true, if_false, reduceIte, Nat.reduceEqDiff, Nat.reduceAdd, Nat.reduceLT, Nat.reduceLeDiff, reduceCtorEq, hk2, hk3]
                    refine hK _ _ ?_; clear hX hK X K
                    show IW _ _ _ _ _ _ _ _
                    repeat refine IW.seq ?_
                    refine IW.region_seq tab_ok [some 52, some 53, some 14] rfl fun X K hX hK => ?_
                    simp only [go_sem, if_true, if_false, reduceIte, Nat.reduceEqDiff, Nat.reduceAdd, Nat.reduceLT, Nat.reduceLeDiff, reduceCtorEq, succ_wrap hxw (by omega)]
                    refine hK _ _ ⟨⟨x + 1, hxw⟩, by simp only []; omega, ?_⟩
                    rw [hdf, if_pos (by simpa using hb4)] at hset
                    refine Ent.cut ?_ ?_ <;> simp only [go_sem, if_true, if_false, reduceIte, Nat.reduceEqDiff, Nat.reduceAdd, Nat.reduceLT, Nat.reduceLeDiff, reduceCtorEq, ← Nat.add_assoc, hset, hbnd]
                  · refine IW.skip ?_
                    show IW _ _ _ _ _ _ _ _
                    repeat refine IW.seq ?_
                    refine IW.region_seq tab_ok [some 52, some 53, some 14] rfl fun X K hX hK => ?_
                    simp only [go_sem, if_true, if_false, reduceIte, Nat.reduceEqDiff, Nat.reduceAdd, Nat.reduceLT, Nat.reduceLeDiff, reduceCtorEq, succ_wrap hxw (by omega)]
                    refine hK _ _ ⟨⟨x + 1, hxw⟩, by simp only []; omega, ?_⟩
                    rw [hdf, if_neg (by simpa using hb4)] at hset
                    have h1 : (upto (drawF r w) (w * h) (y * w + x)).set (y * w + x) 0 = upto (drawF r w) (w * h) (y * w + x) := by
                      apply List.ext_getElem
                      · simp
                      · intro i h1 h2
                        by_cases c : y * w + x = i
                        · subst c; simp [upto]
                        · rw [List.getElem_set_ne c]
                    rw [h1] at hset
                    refine Ent.cut ?_ ?_ <;> simp only [go_sem, if_true, if_false, reduceIte, Nat.reduceEqDiff, Nat.reduceAdd, Nat.reduceLT, Nat.reduceLeDiff, reduceCtorEq, ← Nat.add_assoc, ← hset, hbnd]
              · refine IW.exit ?_
                show IW _ _ _ _ _ _ _ _
                simp only [decide_eq_false_iff_not] at hb3
                obtain rfl : x = w := by omega
                repeat refine IW.seq ?_
                refine IW.region_seq tab_ok [some 47, some 48, some 13] rfl fun X K hX hK => ?_
                simp only [go_sem, if_true, if_false, reduceIte, Nat.reduceEqDiff, Nat.reduceAdd, Nat.reduceLT, Nat.reduceLeDiff, reduceCtorEq, succ_wrap hyh (by omega)]
                refine hK _ _ ⟨⟨y + 1, hyh⟩, by simp only []; omega, ?_⟩
                refine Ent.cut ?_ ?_ <;> simp only [go_sem, if_true, if_false, reduceIte, Nat.reduceEqDiff, Nat.reduceAdd, Nat.reduceLT, Nat.reduceLeDiff, reduceCtorEq, Nat.succ_mul, hbnd]
          · refine IW.exit ?_
            show IW _ _ _ _ _ _ _ _
            simp only [decide_eq_false_iff_not] at hb2
            obtain rfl : y = h := by omega
            have hall : upto (drawF r w) (w * y) (y * w) = rm (w * y) (drawF r w) := by rw [Nat.mul_comm y w, upto_all]; rfl
            rw [hall]
            repeat refine IW.seq ?_
            refine IW.region_seq tab_ok [some 80, none, some 5] rfl fun X K hX hK => ?_
            simp only [go_sem, if_true, if_false, reduceIte, Nat.reduceEqDiff, Nat.reduceAdd, Nat.reduceLT, Nat.reduceLeDiff, reduceCtorEq]
            refine hX.op _ _ rfl (opS_store tab_ok rfl (by simp [go_sem, if_true, if_false, reduceIte, Nat.reduceEqDiff, Nat.reduceAdd, Nat.reduceLT, Nat.reduceLeDiff, reduceCtorEq]) (by simp [go_sem, if_true, if_false, reduceIte, Nat.reduceEqDiff, Nat.reduceAdd, Nat.reduceLT, Nat.reduceLeDiff, reduceCtorEq]) (by simp [go_sem, if_true, if_false, reduceIte, Nat.reduceEqDiff, Nat.reduceAdd, Nat.reduceLT, Nat.reduceLeDiff, reduceCtorEq]) (by simp [go_sem, if_true, if_false, reduceIte, Nat.reduceEqDiff, Nat.reduceAdd, Nat.reduceLT, Nat.reduceLeDiff, reduceCtorEq]) (by simp [go_sem, if_true, if_false, reduceIte, Nat.reduceEqDiff, Nat.reduceAdd, Nat.reduceLT, Nat.reduceLeDiff, reduceCtorEq]) (by simp [go_sem, if_true, if_false, reduceIte, Nat.reduceEqDiff, Nat.reduceAdd, Nat.reduceLT, Nat.reduceLeDiff, reduceCtorEq])) ?_
            simp only [go_sem, if_true, if_false, reduceIte, Nat.reduceEqDiff, Nat.reduceAdd, Nat.reduceLT, Nat.reduceLeDiff, reduceCtorEq]
            refine hK _ _ ?_; clear hX hK X K
            show IW _ _ _ _ _ _ _ _
            refine IW.ret ⟨⟨⟨trivial, by simp [go_sem, if_true, if_false, reduceIte, Nat.reduceEqDiff, Nat.reduceAdd, Nat.reduceLT, Nat.reduceLeDiff, reduceCtorEq]⟩, trivial, trivial⟩, by simp [go_sem, if_true, if_false, reduceIte, Nat.reduceEqDiff, Nat.reduceAdd, Nat.reduceLT, Nat.reduceLeDiff, reduceCtorEq], by simp [go_sem, if_true, if_false, reduceIte, Nat.reduceEqDiff, Nat.reduceAdd, Nat.reduceLT, Nat.reduceLeDiff, reduceCtorEq, resR, rowsNold], [1], rfl, by simp, ?_, ?_⟩
            · simp [go_sem, if_true, if_false, reduceIte, Nat.reduceEqDiff, Nat.reduceAdd, Nat.reduceLT, Nat.reduceLeDiff, reduceCtorEq, resAll, resSV]
            · exact ⟨by simp [go_sem, if_true, if_false, reduceIte, Nat.reduceEqDiff, Nat.reduceAdd, Nat.reduceLT, Nat.reduceLeDiff, reduceCtorEq], trivial⟩
end Go.Proofs.Ytnbpbehlemaeoaa

set_option linter.unusedVariables false
set_option linter.unusedSimpArgs false
set_option maxRecDepth 10000
namespace Go.Proofs.Ytnbpbehlemaeoaa
open Go.IL
theorem ren_nums (k : IntKind) (σ : Nat → Nat) (l : List Int) : (SV.sl false (nums k l)).ren σ = .sl false (nums k l) := by simp only [SV.ren, nums_ren]
theorem ren_strs (σ : Nat → Nat) (l : List ByteArray) : (SV.sl false (strs l)).ren σ = .sl false (strs l) := by simp only [SV.ren, strs_ren]
theorem bnd_strs (n : Nat) (l : List ByteArray) : (SV.sl false (strs l)).bnd n = true := by simp only [SV.bnd, strs_bnd]
theorem setD_1 : SetD 1 6 5 drw1 :=
  ⟨FSpecE.of (.refl _) (fDrw rfl), refSize_1, frz_nums rfl refVals_1, okD_of (by kernel_rfl), by decide, by decide, by decide, by decide, by decide, by decide, by decide, by decide, ⟨_, frz_strs rfl refRows_1, fun σ => ren_strs σ _, fun n => bnd_strs n _, .inl ⟨by decide, rfl⟩⟩⟩
theorem setD_2 : SetD 2 4 5 drw2 :=
  ⟨FSpecE.of (.refl _) (fDrw rfl), refSize_2, frz_nums rfl refVals_2, okD_of (by kernel_rfl), by decide, by decide, by decide, by decide, by decide, by decide, by decide, by decide, ⟨_, frz_strs rfl refRows_2, fun σ => ren_strs σ _, fun n => bnd_strs n _, .inl ⟨by decide, rfl⟩⟩⟩
theorem setD_3 : SetD 3 2 5 drw3 :=
  ⟨FSpecE.of (.refl _) (fDrw rfl), refSize_3, frz_nums rfl refVals_3, okD_of (by kernel_rfl), by decide, by decide, by decide, by decide, by decide, by decide, by decide, by decide, ⟨_, frz_strs rfl refRows_3, fun σ => ren_strs σ _, fun n => bnd_strs n _, .inl ⟨by decide, rfl⟩⟩⟩
theorem setD_4 : SetD 4 3 5 drw4 :=
  ⟨FSpecE.of (.refl _) (fDrw rfl), refSize_4, frz_nums rfl refVals_4, okD_of (by kernel_rfl), by decide, by decide, by decide, by decide, by decide, by decide, by decide, by decide, ⟨_, frz_strs rfl refRows_4, fun σ => ren_strs σ _, fun n => bnd_strs n _, .inl ⟨by decide, rfl⟩⟩⟩
theorem setD_5 : SetD 5 6 7 drw5 :=
  ⟨FSpecE.of (.refl _) (fDrw rfl), refSize_5, frz_nums rfl refVals_5, okD_of (by kernel_rfl), by decide, by decide, by decide, by decide, by decide, by decide, by decide, by decide, ⟨_, frz_strs rfl refRows_5, fun σ => ren_strs σ _, fun n => bnd_strs n _, .inl ⟨by decide, rfl⟩⟩⟩
theorem setD_6 : SetD 6 6 5 drw6 :=
  ⟨FSpecE.of (.refl _) (fDrw rfl), refSize_6, frz_nums rfl refVals_6, okD_of (by kernel_rfl), by decide, by decide, by decide, by decide, by decide, by decide, by decide, by decide, ⟨_, frz_strs rfl refRows_6, fun σ => ren_strs σ _, fun n => bnd_strs n _, .inl ⟨by decide, rfl⟩⟩⟩
theorem setD_7 : SetD 7 4 5 drw7 :=
  ⟨FSpecE.of (.refl _) (fDrw rfl), refSize_7, frz_nums rfl refVals_7, okD_of (by kernel_rfl), by decide, by decide, by decide, by decide, by decide, by decide, by decide, by decide, ⟨_, frz_strs rfl refRows_7, fun σ => ren_strs σ _, fun n => bnd_strs n _, .inl ⟨by decide, rfl⟩⟩⟩
theorem setD_8 : SetD 8 4 5 drw8 :=
  ⟨FSpecE.of (.refl _) (fDrw rfl), refSize_8, frz_nums rfl refVals_8, okD_of (by kernel_rfl), by decide, by decide, by decide, by decide, by decide, by decide, by decide, by decide, ⟨_, frz_strs rfl refRows_8, fun σ => ren_strs σ _, fun n => bnd_strs n _, .inl ⟨by decide, rfl⟩⟩⟩
theorem setD_10 : SetD 10 2 4 drw10 :=
  ⟨FSpecE.of (.refl _) (fDrw rfl), refSize_10, frz_nums rfl refVals_10, okD_of (by kernel_rfl), by decide, by decide, by decide, by decide, by decide, by decide, by decide, by decide, ⟨_, frz_strs rfl refRows_10, fun σ => ren_strs σ _, fun n => bnd_strs n _, .inl ⟨by decide, rfl⟩⟩⟩
theorem barC_1 : ((List.range 25).all fun y => (List.range 10).all fun x => barF 1 x y == decide (sbAt ((barL 5 (-1) (-1) (-1) (-1) (-1) 25).getD y default) x = 35)) = true := by kernel_rfl
theorem barC_2 : ((List.range 25).all fun y => (List.range 10).all fun x => barF 2 x y == decide (sbAt ((barL 4 6 (-1) (-1) (-1) (-1) 25).getD y default) x = 35)) = true := by kernel_rfl
theorem barC_3 : ((List.range 25).all fun y => (List.range 10).all fun x => barF 3 x y == decide (sbAt ((barL 4 6 7 (-1) (-1) (-1) 25).getD y default) x = 35)) = true := by kernel_rfl
theorem barC_4 : ((List.range 25).all fun y => (List.range 10).all fun x => barF 4 x y == decide (sbAt ((barL 3 4 6 8 9 (-1) 25).getD y default) x = 35)) = true := by kernel_rfl
theorem barC_5 : ((List.range 25).all fun y => (List.range 10).all fun x => barF 5 x y == decide (sbAt ((barL 4 6 7 1 2 (-1) 25).getD y default) x = 35)) = true := by kernel_rfl
theorem bar_of {v : Int} {l : List ByteArray} (h : ((List.range 25).all fun y => (List.range 10).all fun x => barF v x y == decide (sbAt (l.getD y default) x = 35)) = true) {x y : Nat} (hx : x < 10) (hy : y < 25) : barF v x y = decide (sbAt (l.getD y default) x = 35) := by
  have h1 := List.all_eq_true.1 h y (List.mem_range.2 hy)
  have h2 := List.all_eq_true.1 h1 x (List.mem_range.2 hx)
  simpa using h2
theorem ok_bar : okD 10 25 barD := okD_of (by kernel_rfl)
theorem setD_9 : SetD 9 10 25 barD :=
  ⟨fDraw9, refSize_9, frz_nums rfl refVals_9, ok_bar, by decide, by decide, by decide, by decide, by decide, by decide, by decide, by decide, ⟨_, refRows_9, fun σ => rfl, fun n => rfl, .inr ⟨rfl, fun v r x y hl hx hy => by
    have hm := (lookup_iff (by decide)).1 hl
    simp only [barD, List.mem_cons, List.not_mem_nil, or_false, Prod.mk.injEq] at hm
    rcases hm with ⟨rfl, rfl⟩ | ⟨rfl, rfl⟩ | ⟨rfl, rfl⟩ | ⟨rfl, rfl⟩ | ⟨rfl, rfl⟩
    · rw [← bar_of barC_1 hx hy]; exact refBar_1 x y
    · rw [← bar_of barC_2 hx hy]; exact refBar_2 x y
    · rw [← bar_of barC_3 hx hy]; exact refBar_3 x y
    · rw [← bar_of barC_4 hx hy]; exact refBar_4 x y
    · rw [← bar_of barC_5 hx hy]; exact refBar_5 x y⟩⟩⟩
/-- The sets that there are. -/
theorem setD (s : Int) (h1 : 1 ≤ s) (h2 : s ≤ 10) : ∃ w h d, SetD s w h d := by
  have : s = 1 ∨ s = 2 ∨ s = 3 ∨ s = 4 ∨ s = 5 ∨ s = 6 ∨ s = 7 ∨ s = 8 ∨ s = 9 ∨ s = 10 := by omega
  rcases this with rfl | rfl | rfl | rfl | rfl | rfl | rfl | rfl | rfl | rfl
  · exact ⟨_, _, _, setD_1⟩
  · exact ⟨_, _, _, setD_2⟩
  · exact ⟨_, _, _, setD_3⟩
  · exact ⟨_, _, _, setD_4⟩
  · exact ⟨_, _, _, setD_5⟩
  · exact ⟨_, _, _, setD_6⟩
  · exact ⟨_, _, _, setD_7⟩
  · exact ⟨_, _, _, setD_8⟩
  · exact ⟨_, _, _, setD_9⟩
  · exact ⟨_, _, _, setD_10⟩
end Go.Proofs.Ytnbpbehlemaeoaa

set_option linter.unusedVariables false
set_option linter.unusedSimpArgs false
set_option maxRecDepth 10000
namespace Go.Proofs.Ytnbpbehlemaeoaa
open Go.IL
theorem refVals17 {s : Int} {ks : List Int} (h : FSpec Try.prog 52 [.int .i64 s] (.sl false (nums .i64 ks)) []) : FSpec Try.prog 17 [.int .i64 s] (.sl false (nums .i64 ks)) [] := by
  refine FSpec.intro tab_ok Try.func17 rfl rfl rfl (by kernel_rfl) (by simp) fun w0 => ?_
  simp only [argTM, Nat.zero_add, Nat.reduceAdd]
  repeat refine IW.seq ?_
  refine IW.region_seq tab_ok [some 2] rfl fun X K hX hK => ?_
  simp only [go_sem, if_true, if_false, reduceIte, Nat.reduceEqDiff, Nat.reduceAdd, Nat.reduceLT, Nat.reduceLeDiff, reduceCtorEq]
  refine hK _ _ ?_; clear hX hK X K
  show IW _ _ _ _ _ _ _ _
  repeat refine IW.seq ?_
  refine IW.region_seq tab_ok [some 3, some 4, some 2] rfl fun X K hX hK => ?_
  simp only [go_sem, if_true, if_false, reduceIte, Nat.reduceEqDiff, Nat.reduceAdd, Nat.reduceLT, Nat.reduceLeDiff, reduceCtorEq]
  refine hX.quiet _ _ (OpG.of_B rfl (opB_call rfl rfl (FSpec.nz (h) (by simp [go_sem, if_true, if_false, reduceIte, Nat.reduceEqDiff, Nat.reduceAdd, Nat.reduceLT, Nat.reduceLeDiff, reduceCtorEq, List.map_cons, List.map_nil, List.append_nil, opnd, unc])))) ?_
  simp only [go_sem, if_true, if_false, reduceIte, Nat.reduceEqDiff, Nat.reduceAdd, Nat.reduceLT, Nat.reduceLeDiff, reduceCtorEq]
  refine hK _ _ ?_; clear hX hK X K
  show IW _ _ _ _ _ _ _ _
  exact IW.ret (Fin.scal (by simp [go_sem, if_true, if_false, reduceIte, Nat.reduceEqDiff, Nat.reduceAdd, Nat.reduceLT, Nat.reduceLeDiff, reduceCtorEq, SV.nold, nums_nold]) (by simp [go_sem, if_true, if_false, reduceIte, Nat.reduceEqDiff, Nat.reduceAdd, Nat.reduceLT, Nat.reduceLeDiff, reduceCtorEq, SV.ren, nums_ren]) (by simp [go_sem, if_true, if_false, reduceIte, Nat.reduceEqDiff, Nat.reduceAdd, Nat.reduceLT, Nat.reduceLeDiff, reduceCtorEq]))
theorem refVals_N' (s : Int) (h : ∀ k : Int, 1 ≤ k → k ≤ 10 → s ≠ k) : FSpec Try.prog 52 [.int .i64 s] (.sl false (nums .i64 [])) []  :=
  FSpec.drop (refVals_N s h) fun ρ F w v hv => by
    have hv' : VRel ρ (fun _ => False) F w (.sl false []) v := hv
    cases hv' with
    | sl _ _ a cap k cs hk hcap hm ha hh => exact .sl false [] a cap k cs (fun x hx => by simp at hx) hcap hm (fun hp => absurd hp (by simp)) (fun i j x y e1 => by simp at e1)
theorem refGlyphN (s v : Int) (h : ∀ k : Int, 1 ≤ k → k ≤ 10 → s ≠ k) : FSpec Try.prog 19 [.int .i64 s, .int .i64 v] (.tup [resI 0 0 [], .int .i64 20]) (resR []) := by
  have hvals := refVals_N' s h
  refine FSpec.ghost (sv := .tup [.agg [.int .i64 0, .int .i64 0, .nils], .int .i64 20]) ?_ fun F w v h => ?_
  · refine FSpec.intro tab_ok Try.func19 rfl rfl rfl (by kernel_rfl) (by simp) fun w0 => ?_
    simp only [argTM, Nat.zero_add, Nat.reduceAdd]
    repeat refine IW.seq ?_
    refine IW.region_seq tab_ok [some 4, some 5] rfl fun X K hX hK => ?_
    simp only [go_sem, if_true, if_false, reduceIte, Nat.reduceEqDiff, Nat.reduceAdd, Nat.reduceLT, Nat.reduceLeDiff, reduceCtorEq]
    refine hK _ _ ?_; clear hX hK X K
    show IW _ _ _ _ _ _ _ _
    repeat refine IW.seq ?_
    refine IW.region_seq tab_ok [some 6] rfl fun X K hX hK => ?_
    simp only [go_sem, if_true, if_false, reduceIte, Nat.reduceEqDiff, Nat.reduceAdd, Nat.reduceLT, Nat.reduceLeDiff, reduceCtorEq]
    refine hK _ _ ?_; clear hX hK X K
    show IW _ _ _ _ _ _ _ _
    repeat refine IW.seq ?_
    refine IW.region_seq tab_ok [some 16, some 17, some 7] rfl fun X K hX hK => ?_
    simp only [go_sem, if_true, if_false, reduceIte, Nat.reduceEqDiff, Nat.reduceAdd, Nat.reduceLT, Nat.reduceLeDiff, reduceCtorEq]
    refine hX.quiet _ _ (OpG.of_B rfl (opB_call rfl rfl (FSpec.nz (hvals) (by simp [go_sem, if_true, if_false, reduceIte, Nat.reduceEqDiff, Nat.reduceAdd, Nat.reduceLT, Nat.reduceLeDiff, reduceCtorEq, List.map_cons, List.map_nil, List.append_nil, opnd, unc])))) ?_
    simp only [go_sem, if_true, if_false, reduceIte, Nat.reduceEqDiff, Nat.reduceAdd, Nat.reduceLT, Nat.reduceLeDiff, reduceCtorEq]
    refine hK _ _ ?_; clear hX hK X K
    show IW _ _ _ _ _ _ _ _
    repeat refine IW.seq ?_
    refine IW.region_seq tab_ok [some 8] rfl fun X K hX hK => ?_
    simp only [go_sem, if_true, if_false, reduceIte, Nat.reduceEqDiff, Nat.reduceAdd, Nat.reduceLT, Nat.reduceLeDiff, reduceCtorEq]
    refine hK _ _ ?_; clear hX hK X K
    show IW _ _ _ _ _ _ _ _
    repeat refine IW.seq ?_
    refine IW.block ?_
    refine IW.loop (α := Unit) (fun _ => [(4, .ptr 0 0 0), (6, .int .i64 (-1)), (7, .sl false (nums .i64 [])), (8, .int .i64 0)]) (fun _ => [some ⟨3, 33, [[.int .i64 0, .int .i64 0, .nils]]⟩]) (fun _ => 0) () ?_ fun _ => ?_
    · refine Ent.cut ?_ ?_ <;> simp only [go_sem, if_true, if_false, reduceIte, Nat.reduceEqDiff, Nat.reduceAdd, Nat.reduceLT, Nat.reduceLeDiff, reduceCtorEq]
    · repeat refine IW.seq ?_
      refine IW.region_seq tab_ok [some 18, some 19, some 20, some 21] rfl fun X K hX hK => ?_
      simp only [go_sem, if_true, if_false, reduceIte, Nat.reduceEqDiff, Nat.reduceAdd, Nat.reduceLT, Nat.reduceLeDiff, reduceCtorEq]
      refine hK _ _ ?_; clear hX hK X K
      show IW _ _ _ _ _ _ _ _
      repeat refine IW.seq ?_
      refine IW.cond rfl (fun hb1 => ?_) (fun hb1 => ?_)
      · simp [nums] at hb1
      · refine IW.exit ?_
        show IW _ _ _ _ _ _ _ _
        repeat refine IW.seq ?_
        refine IW.region_seq tab_ok [some 31, some 32] rfl fun X K hX hK => ?_
        simp only [go_sem, if_true, if_false, reduceIte, Nat.reduceEqDiff, Nat.reduceAdd, Nat.reduceLT, Nat.reduceLeDiff, reduceCtorEq]
        refine hK _ _ ?_; clear hX hK X K
        show IW _ _ _ _ _ _ _ _
        repeat refine IW.seq ?_
        refine IW.cond rfl (fun _ => ?_) (fun hb => absurd hb (by decide))
        repeat refine IW.seq ?_
        refine IW.region_seq tab_ok [some 33, none, some 5] rfl fun X K hX hK => ?_
        simp only [go_sem, if_true, if_false, reduceIte, Nat.reduceEqDiff, Nat.reduceAdd, Nat.reduceLT, Nat.reduceLeDiff, reduceCtorEq]
        refine hX.op _ _ rfl (opS_store tab_ok rfl (by simp [go_sem, if_true, if_false, reduceIte, Nat.reduceEqDiff, Nat.reduceAdd, Nat.reduceLT, Nat.reduceLeDiff, reduceCtorEq]) (by simp [go_sem, if_true, if_false, reduceIte, Nat.reduceEqDiff, Nat.reduceAdd, Nat.reduceLT, Nat.reduceLeDiff, reduceCtorEq]) (by simp [go_sem, if_true, if_false, reduceIte, Nat.reduceEqDiff, Nat.reduceAdd, Nat.reduceLT, Nat.reduceLeDiff, reduceCtorEq]) (by simp [go_sem, if_true, if_false, reduceIte, Nat.reduceEqDiff, Nat.reduceAdd, Nat.reduceLT, Nat.reduceLeDiff, reduceCtorEq]) (by simp [go_sem, if_true, if_false, reduceIte, Nat.reduceEqDiff, Nat.reduceAdd, Nat.reduceLT, Nat.reduceLeDiff, reduceCtorEq]) (by simp [go_sem, if_true, if_false, reduceIte, Nat.reduceEqDiff, Nat.reduceAdd, Nat.reduceLT, Nat.reduceLeDiff, reduceCtorEq])) ?_
        simp only [go_sem, if_true, if_false, reduceIte, Nat.reduceEqDiff, Nat.reduceAdd, Nat.reduceLT, Nat.reduceLeDiff, reduceCtorEq]
        refine hK _ _ ?_; clear hX hK X K
        show IW _ _ _ _ _ _ _ _
        refine IW.ret ⟨⟨⟨trivial, by simp [go_sem, if_true, if_false, reduceIte, Nat.reduceEqDiff, Nat.reduceAdd, Nat.reduceLT, Nat.reduceLeDiff, reduceCtorEq]⟩, trivial, trivial⟩, rfl, rfl, [], rfl, by simp, ?_, trivial⟩
        rfl
  · cases h with
    | tup _ us hl hh =>
      refine .tup _ us hl fun i c u e1 e2 => ?_
      match i, e1 with
      | 0, e1 => cases e1; exact rel_agg3 (fun _ h => h) (fun _ h => h) (fun _ h => rel_ls_nil h) (hh 0 _ u rfl e2)
      | 1, e1 => cases e1; exact hh 1 _ u rfl e2
      | i + 2, e1 => simp at e1
theorem setN {s : Int} (h : ¬ (1 ≤ s ∧ s ≤ 10)) : ∀ k : Int, 1 ≤ k → k ≤ 10 → s ≠ k := fun k h1 h2 e => h (by omega)
theorem SetD.fSize {s : Int} {w h : Nat} {d : List (Int × List ByteArray)} (S : SetD s w h d) : FSpec Try.prog 13 [.int .i64 s] (.tup [.int .i64 w, .int .i64 h]) [] := fSizeE s w h d S.hd S.ok S.h0 S.ne
theorem SetD.fVals {s : Int} {w h : Nat} {d : List (Int × List ByteArray)} (S : SetD s w h d) : FSpec Try.prog 16 [.int .i64 s] (lsV 0 (keysD d).length) [⟨1, 3, nums .i64 (keysD d)⟩] :=
  fValuesE s d S.hd S.keys (fun k hk => by have := S.kb k hk; unfold I64; omega) (by have := S.le; omega)
theorem SetD.fGly {s : Int} {w h : Nat} {d : List (Int × List ByteArray)} (S : SetD s w h d) (v : Int) : FSpec Try.prog 18 [.int .i64 s, .int .i64 v] (.tup [resI (gW d w v) (gW d h v) (gP d v), .int .i64 (gE d v)]) (resR (gP d v)) :=
  fGlyphE s v w h d S.hd S.nodup S.ok S.h0 (by have := S.hb; omega) (by have := S.wb; omega)
theorem anySize (s : Int) : ∃ w h : Nat, FSpec Try.prog 13 [.int .i64 s] (.tup [.int .i64 w, .int .i64 h]) [] ∧ FSpec Try.prog 14 [.int .i64 s] (.tup [.int .i64 w, .int .i64 h]) [] := by
  by_cases c : 1 ≤ s ∧ s ≤ 10
  · obtain ⟨w, h, d, S⟩ := setD s c.1 c.2
    exact ⟨w, h, S.fSize, S.size⟩
  · exact ⟨0, 0, fSizeN s (setN c), refSize_N s (setN c)⟩
theorem anyVals (s : Int) : ∃ ks : List Int, FSpec Try.prog 16 [.int .i64 s] (lsV 0 ks.length) [⟨1, 3, nums .i64 ks⟩] ∧ FSpec Try.prog 17 [.int .i64 s] (.sl false (nums .i64 ks)) [] ∧ ks.length ≤ 1000000 := by
  by_cases c : 1 ≤ s ∧ s ≤ 10
  · obtain ⟨w, h, d, S⟩ := setD s c.1 c.2
    exact ⟨_, S.fVals, refVals17 S.vals, by have := S.le; simp [keysD]; omega⟩
  · exact ⟨[], fValuesN s (setN c), refVals17 (refVals_N' s (setN c)), by simp⟩
theorem anyGlyph (s v : Int) : ∃ (W H : Int) (p : List Int) (e : Int), FSpec Try.prog 18 [.int .i64 s, .int .i64 v] (.tup [resI W H p, .int .i64 e]) (resR p) ∧ FSpec Try.prog 19 [.int .i64 s, .int .i64 v] (.tup [resI W H p, .int .i64 e]) (resR p) ∧ p.length ≤ 1000000 := by
  by_cases c : 1 ≤ s ∧ s ≤ 10
  · obtain ⟨w, h, d, S⟩ := setD s c.1 c.2
    refine ⟨_, _, _, _, S.fGly v, refGlyph S v, ?_⟩
    unfold gP
    cases hv : d.lookup v with
    | none => simp
    | some r =>
      obtain ⟨k1, k2⟩ := S.ok _ (lookup_mem' hv)
      simp only [] at k1 k2
      have h1 := S.hb
      have h2 := S.wb
      have h3 : (r.getD 0 default).size * r.length ≤ 10 * 25 := by rw [k2 0 S.h0, k1]; exact Nat.mul_le_mul h2 h1
      simp only [drawP, rm_length]; omega
  · exact ⟨_, _, _, _, fGlyphN s v (setN c), refGlyphN s v (setN c), by simp⟩
end Go.Proofs.Ytnbpbehlemaeoaa

set_option linter.unusedVariables false
set_option linter.unusedSimpArgs false
set_option maxRecDepth 10000
namespace Go.Proofs.Ytnbpbehlemaeoaa
open Go.IL
set_option maxHeartbeats 2000000 in
/-- The law's function. -/
theorem fGlyphs (s v : Int) (hs : I64 s) (hv : I64 v) : FSpec Try.prog 3 [.int .i64 s, .int .i64 v] (.bool true) [] := by
  unfold I64 at hs hv
  have b1 := pickF_bd s 14 (by omega)
  have b2 := pickF_bd v 32 (by omega)
  have e1 : IntKind.i64.wrap (pickF s 14 - 1) = pickF s 14 - 1 := wrap_eq (by omega) (by omega)
  have e2 : IntKind.i64.wrap (pickF v 32 - 2) = pickF v 32 - 2 := wrap_eq (by omega) (by omega)
  refine FSpec.intro tab_ok Try.func3 rfl rfl rfl (by kernel_rfl) (by simp) fun w0 => ?_
  simp only [argTM, Nat.zero_add, Nat.reduceAdd]
  repeat refine IW.seq ?_
  refine IW.region_seq tab_ok [some 4] rfl fun X K hX hK => ?_
  simp only [go_sem, if_true, if_false, reduceIte, Nat.reduceEqDiff, Nat.reduceAdd, Nat.reduceLT, Nat.reduceLeDiff, reduceCtorEq]
  refine hK _ _ ?_; clear hX hK X K
  show IW _ _ _ _ _ _ _ _
  repeat refine IW.seq ?_
  refine IW.region_seq tab_ok [some 17, some 18, some 19, some 20, some 21, some 22, some 23] rfl fun X K hX hK => ?_
  simp only [go_sem, if_true, if_false, reduceIte, Nat.reduceEqDiff, Nat.reduceAdd, Nat.reduceLT, Nat.reduceLeDiff, reduceCtorEq]
  refine hX.quiet _ _ (OpG.of_B rfl (opB_call rfl rfl (FSpec.nz (kPick s 14 ⟨by omega, by omega⟩ (by omega)) (by simp [go_sem, if_true, if_false, reduceIte, Nat.reduceEqDiff, Nat.reduceAdd, Nat.reduceLT, Nat.reduceLeDiff, reduceCtorEq, List.map_cons, List.map_nil, List.append_nil, opnd, unc, e1])))) ?_
  simp only [go_sem, if_true, if_false, reduceIte, Nat.reduceEqDiff, Nat.reduceAdd, Nat.reduceLT, Nat.reduceLeDiff, reduceCtorEq, e1]
  refine hX.quiet _ _ (OpG.of_B rfl (opB_buildSlice tab_ok rfl (by simp [go_sem, if_true, if_false, reduceIte, Nat.reduceEqDiff, Nat.reduceAdd, Nat.reduceLT, Nat.reduceLeDiff, reduceCtorEq]) (by simp [go_sem, if_true, if_false, reduceIte, Nat.reduceEqDiff, Nat.reduceAdd, Nat.reduceLT, Nat.reduceLeDiff, reduceCtorEq]) (by simp) (by simp [go_sem, if_true, if_false, reduceIte, Nat.reduceEqDiff, Nat.reduceAdd, Nat.reduceLT, Nat.reduceLeDiff, reduceCtorEq, bsO, List.map_cons, List.map_nil]))) ?_
  simp only [go_sem, if_true, if_false, reduceIte, Nat.reduceEqDiff, Nat.reduceAdd, Nat.reduceLT, Nat.reduceLeDiff, reduceCtorEq, List.map_cons, List.map_nil]
  refine hK _ _ ?_; clear hX hK X K
  show IW _ _ _ _ _ _ _ _
  obtain ⟨L, hL⟩ : ∃ L : List Int, L = [s, pickF s 14 - 1] := ⟨_, rfl⟩
  obtain ⟨M, hM⟩ : ∃ M : List Int, M = [v, pickF v 32 - 2] := ⟨_, rfl⟩
  have hL2 : L.length = 2 := by rw [hL]; rfl
  have hM2 : M.length = 2 := by rw [hM]; rfl
  have hLr : (some ⟨1, 3, [[.int .i64 s], [.int .i64 (pickF s 14 - 1)]]⟩ : Option Row) = some ⟨1, 3, nums .i64 L⟩ := by rw [hL]; rfl
  have hMr : (some ⟨1, 3, [[.int .i64 v], [.int .i64 (pickF v 32 - 2)]]⟩ : Option Row) = some ⟨1, 3, nums .i64 M⟩ := by rw [hM]; rfl
  repeat refine IW.seq ?_
  refine IW.block ?_
  refine IW.loop (α := {i : Nat // i ≤ 2}) (fun i => [(1, .int .i64 v), (21, .ref 0 0 2), (22, .int .i64 ((2 : Nat) : Int)), (23, .int .i64 i.1)]) (fun _ => [some ⟨1, 3, nums .i64 L⟩]) (fun i => 2 - i.1) ⟨0, by omega⟩ ?_ fun ⟨i, hi⟩ => ?_
  · refine Ent.cut ?_ ?_ <;> simp only [go_sem, if_true, if_false, reduceIte, Nat.reduceEqDiff, Nat.reduceAdd, Nat.reduceLT, Nat.reduceLeDiff, reduceCtorEq, hLr]
  · simp only []
    repeat refine IW.seq ?_
    refine IW.region_seq tab_ok [some 24] rfl fun X K hX hK => ?_
    simp only [go_sem, if_true, if_false, reduceIte, Nat.reduceEqDiff, Nat.reduceAdd, Nat.reduceLT, Nat.reduceLeDiff, reduceCtorEq]
    refine hK _ _ ?_; clear hX hK X K
    show IW _ _ _ _ _ _ _ _
    repeat refine IW.seq ?_
    refine IW.cond rfl (fun hb1 => ?_) (fun hb1 => ?_)
    · simp only [decide_eq_true_eq] at hb1
      have hil : i < 2 := by omega
      have hiL : i < L.length := by omega
      refine IW.skip ?_
      show IW _ _ _ _ _ _ _ _
      refine IW.seq (IW.block ?_)
      repeat refine IW.seq ?_
      refine IW.region_seq tab_ok [some 25, some 26, some 6] rfl fun X K hX hK => ?_
      simp only [go_sem, if_true, if_false, reduceIte, Nat.reduceEqDiff, Nat.reduceAdd, Nat.reduceLT, Nat.reduceLeDiff, reduceCtorEq, nums_at hiL, hL2]
      refine ⟨⟨by omega, by omega⟩, by omega, ?_⟩
      refine hK _ _ ?_; clear hX hK X K
      show IW _ _ _ _ _ _ _ _
      generalize L.getD i 0 = u
      obtain ⟨w, h, hz1, hz2⟩ := anySize u
      obtain ⟨ks, hk1, hk2, hkl⟩ := anyVals u
      repeat refine IW.seq ?_
      refine IW.region_seq tab_ok [some 28, some 29, some 27, some 30, some 31, some 7, some 8] rfl fun X K hX hK => ?_
      simp only [go_sem, if_true, if_false, reduceIte, Nat.reduceEqDiff, Nat.reduceAdd, Nat.reduceLT, Nat.reduceLeDiff, reduceCtorEq]
      refine hX.quiet _ _ (OpG.of_B rfl (opB_call rfl rfl (FSpec.nz (hz1) (by simp [go_sem, if_true, if_false, reduceIte, Nat.reduceEqDiff, Nat.reduceAdd, Nat.reduceLT, Nat.reduceLeDiff, reduceCtorEq, List.map_cons, List.map_nil, List.append_nil, opnd, unc])))) ?_
      simp only [go_sem, if_true, if_false, reduceIte, Nat.reduceEqDiff, Nat.reduceAdd, Nat.reduceLT, Nat.reduceLeDiff, reduceCtorEq]
      refine hK _ _ ?_; clear hX hK X K
      show IW _ _ _ _ _ _ _ _
      repeat refine IW.seq ?_
      refine IW.region_seq tab_ok [some 33, some 34, some 32, some 35, some 36, some 9, some 10] rfl fun X K hX hK => ?_
      simp only [go_sem, if_true, if_false, reduceIte, Nat.reduceEqDiff, Nat.reduceAdd, Nat.reduceLT, Nat.reduceLeDiff, reduceCtorEq]
      refine hX.quiet _ _ (OpG.of_B rfl (opB_call rfl rfl (FSpec.nz (hz2) (by simp [go_sem, if_true, if_false, reduceIte, Nat.reduceEqDiff, Nat.reduceAdd, Nat.reduceLT, Nat.reduceLeDiff, reduceCtorEq, List.map_cons, List.map_nil, List.append_nil, opnd, unc])))) ?_
      simp only [go_sem, if_true, if_false, reduceIte, Nat.reduceEqDiff, Nat.reduceAdd, Nat.reduceLT, Nat.reduceLeDiff, reduceCtorEq]
      refine hK _ _ ?_; clear hX hK X K
      show IW _ _ _ _ _ _ _ _
      repeat refine IW.seq ?_
      refine IW.region_seq tab_ok [some 37, some 38, some 39, some 40, some 41, some 42, some 43, some 44, some 45, some 46, some 47, some 48, some 49, some 50, some 51, some 52] rfl fun X K hX hK => ?_
      simp only [go_sem, if_true, if_false, reduceIte, Nat.reduceEqDiff, Nat.reduceAdd, Nat.reduceLT, Nat.reduceLeDiff, reduceCtorEq, bne_self_eq_false]
      refine hX.quiet _ _ (OpG.of_BG rfl rfl rfl (by first | (simp only [go_sem, if_true, if_false, reduceIte, Nat.reduceEqDiff, Nat.reduceAdd, Nat.reduceLT, Nat.reduceLeDiff, reduceCtorEq]; done) | (simp [go_sem, if_true, if_false, reduceIte, Nat.reduceEqDiff, Nat.reduceAdd, Nat.reduceLT, Nat.reduceLeDiff, reduceCtorEq] <;> (intros; simp_all))) fun hc => opB_call rfl rfl (FSpec.nz (hk1) (by simp [go_sem, if_true, if_false, reduceIte, Nat.reduceEqDiff, Nat.reduceAdd, Nat.reduceLT, Nat.reduceLeDiff, reduceCtorEq, List.map_cons, List.map_nil, List.append_nil, opnd, unc]))) ?_
      simp only [go_sem, if_true, if_false, reduceIte, Nat.reduceEqDiff, Nat.reduceAdd, Nat.reduceLT, Nat.reduceLeDiff, reduceCtorEq]
      refine hX.quiet _ _ (OpG.of_BG rfl rfl rfl (by first | (simp only [go_sem, if_true, if_false, reduceIte, Nat.reduceEqDiff, Nat.reduceAdd, Nat.reduceLT, Nat.reduceLeDiff, reduceCtorEq]; done) | (simp [go_sem, if_true, if_false, reduceIte, Nat.reduceEqDiff, Nat.reduceAdd, Nat.reduceLT, Nat.reduceLeDiff, reduceCtorEq] <;> (intros; simp_all))) fun hc => opB_call rfl rfl (FSpec.nz (hk2) (by simp [go_sem, if_true, if_false, reduceIte, Nat.reduceEqDiff, Nat.reduceAdd, Nat.reduceLT, Nat.reduceLeDiff, reduceCtorEq, List.map_cons, List.map_nil, List.append_nil, opnd, unc, ren_nums]))) ?_
      simp only [go_sem, if_true, if_false, reduceIte, Nat.reduceEqDiff, Nat.reduceAdd, Nat.reduceLT, Nat.reduceLeDiff, reduceCtorEq, ren_nums]
      refine hX.quiet _ _ (OpG.of_BG rfl rfl rfl (by first | (simp only [go_sem, if_true, if_false, reduceIte, Nat.reduceEqDiff, Nat.reduceAdd, Nat.reduceLT, Nat.reduceLeDiff, reduceCtorEq]; done) | (simp [go_sem, if_true, if_false, reduceIte, Nat.reduceEqDiff, Nat.reduceAdd, Nat.reduceLT, Nat.reduceLeDiff, reduceCtorEq] <;> (intros; simp_all))) fun hc => opB_call rfl rfl (FSpec.nz (kSameInts ks ks hkl hkl) (by simp [go_sem, if_true, if_false, reduceIte, Nat.reduceEqDiff, Nat.reduceAdd, Nat.reduceLT, Nat.reduceLeDiff, reduceCtorEq, List.map_cons, List.map_nil, List.append_nil, opnd, unc, decide_true, Bool.not_true]))) ?_
      simp only [go_sem, if_true, if_false, reduceIte, Nat.reduceEqDiff, Nat.reduceAdd, Nat.reduceLT, Nat.reduceLeDiff, reduceCtorEq, decide_true, Bool.not_true]
      refine hK _ _ ?_; clear hX hK X K
      show IW _ _ _ _ _ _ _ _
      repeat refine IW.seq ?_
      refine IW.cond rfl (fun hb5 => ?_) (fun hb5 => ?_)
      · cases hb5
      · refine IW.skip ?_
        show IW _ _ _ _ _ _ _ _
        refine IW.ent (tm' := [(1, .int .i64 v), (6, .int .i64 u), (21, .ref 0 0 2), (22, .int .i64 ((2 : Nat) : Int)), (23, .int .i64 i)]) (h' := [some ⟨1, 3, nums .i64 L⟩]) ?_ ?_
        · refine Ent.cut ?_ ?_ <;> simp only [go_sem, if_true, if_false, reduceIte, Nat.reduceEqDiff, Nat.reduceAdd, Nat.reduceLT, Nat.reduceLeDiff, reduceCtorEq]
        repeat refine IW.seq ?_
        refine IW.region_seq tab_ok [some 53, some 54, some 55, some 56, some 57, some 58, some 59] rfl fun X K hX hK => ?_
        simp only [go_sem, if_true, if_false, reduceIte, Nat.reduceEqDiff, Nat.reduceAdd, Nat.reduceLT, Nat.reduceLeDiff, reduceCtorEq]
        refine hX.quiet _ _ (OpG.of_B rfl (opB_call rfl rfl (FSpec.nz (kPick v 32 ⟨by omega, by omega⟩ (by omega)) (by simp [go_sem, if_true, if_false, reduceIte, Nat.reduceEqDiff, Nat.reduceAdd, Nat.reduceLT, Nat.reduceLeDiff, reduceCtorEq, List.map_cons, List.map_nil, List.append_nil, opnd, unc, e2])))) ?_
        simp only [go_sem, if_true, if_false, reduceIte, Nat.reduceEqDiff, Nat.reduceAdd, Nat.reduceLT, Nat.reduceLeDiff, reduceCtorEq, e2]
        refine hX.quiet _ _ (OpG.of_B rfl (opB_buildSlice tab_ok rfl (by simp [go_sem, if_true, if_false, reduceIte, Nat.reduceEqDiff, Nat.reduceAdd, Nat.reduceLT, Nat.reduceLeDiff, reduceCtorEq]) (by simp [go_sem, if_true, if_false, reduceIte, Nat.reduceEqDiff, Nat.reduceAdd, Nat.reduceLT, Nat.reduceLeDiff, reduceCtorEq]) (by simp) (by simp [go_sem, if_true, if_false, reduceIte, Nat.reduceEqDiff, Nat.reduceAdd, Nat.reduceLT, Nat.reduceLeDiff, reduceCtorEq, bsO, List.map_cons, List.map_nil]))) ?_
        simp only [go_sem, if_true, if_false, reduceIte, Nat.reduceEqDiff, Nat.reduceAdd, Nat.reduceLT, Nat.reduceLeDiff, reduceCtorEq, List.map_cons, List.map_nil]
        refine hK _ _ ?_; clear hX hK X K
        show IW _ _ _ _ _ _ _ _
        repeat refine IW.seq ?_
        refine IW.block ?_
        refine IW.loop (α := {k : Nat // k ≤ 2}) (fun k => [(1, .int .i64 v), (6, .int .i64 u), (21, .ref 0 0 2), (22, .int .i64 ((2 : Nat) : Int)), (23, .int .i64 i), (57, .ref 1 0 2), (58, .int .i64 ((2 : Nat) : Int)), (59, .int .i64 k.1)]) (fun _ => [some ⟨1, 3, nums .i64 L⟩, some ⟨1, 3, nums .i64 M⟩]) (fun k => 2 - k.1) ⟨0, by omega⟩ ?_ fun ⟨k, hk⟩ => ?_
        · refine Ent.cut ?_ ?_ <;> simp only [go_sem, if_true, if_false, reduceIte, Nat.reduceEqDiff, Nat.reduceAdd, Nat.reduceLT, Nat.reduceLeDiff, reduceCtorEq, hMr]
        · simp only []
          repeat refine IW.seq ?_
          refine IW.region_seq tab_ok [some 60] rfl fun X K hX hK => ?_
          simp only [go_sem, if_true, if_false, reduceIte, Nat.reduceEqDiff, Nat.reduceAdd, Nat.reduceLT, Nat.reduceLeDiff, reduceCtorEq]
          refine hK _ _ ?_; clear hX hK X K
          show IW _ _ _ _ _ _ _ _
          repeat refine IW.seq ?_
          refine IW.cond rfl (fun hb6 => ?_) (fun hb6 => ?_)
          · simp only [decide_eq_true_eq] at hb6
            have hkl2 : k < 2 := by omega
            have hkM : k < M.length := by omega
            refine IW.skip ?_
            show IW _ _ _ _ _ _ _ _
            refine IW.seq (IW.block ?_)
            repeat refine IW.seq ?_
            refine IW.region_seq tab_ok [some 61, some 62, some 12] rfl fun X K hX hK => ?_
            simp only [go_sem, if_true, if_false, reduceIte, Nat.reduceEqDiff, Nat.reduceAdd, Nat.reduceLT, Nat.reduceLeDiff, reduceCtorEq, nums_at hkM, hM2]
            refine ⟨⟨by omega, by omega⟩, by omega, ?_⟩
            refine hK _ _ ?_; clear hX hK X K
            show IW _ _ _ _ _ _ _ _
            generalize M.getD k 0 = y
            obtain ⟨W, H, p, e, hg1, hg2, hpl⟩ := anyGlyph u y
            repeat refine IW.seq ?_
            refine IW.region_seq tab_ok [some 64, some 65, some 66, some 63, some 67, some 68, some 13, none, some 14] rfl fun X K hX hK => ?_
            simp only [go_sem, if_true, if_false, reduceIte, Nat.reduceEqDiff, Nat.reduceAdd, Nat.reduceLT, Nat.reduceLeDiff, reduceCtorEq]
            refine hX.quiet _ _ (OpG.of_B rfl (opB_call rfl rfl (FSpec.nz (hg1) (by simp [go_sem, if_true, if_false, reduceIte, Nat.reduceEqDiff, Nat.reduceAdd, Nat.reduceLT, Nat.reduceLeDiff, reduceCtorEq, List.map_cons, List.map_nil, List.append_nil, opnd, unc, resI, resR])))) ?_
            simp only [go_sem, if_true, if_false, reduceIte, Nat.reduceEqDiff, Nat.reduceAdd, Nat.reduceLT, Nat.reduceLeDiff, reduceCtorEq, resI, resR]
            refine hX.op _ _ rfl (opS_store tab_ok rfl (by simp [go_sem, if_true, if_false, reduceIte, Nat.reduceEqDiff, Nat.reduceAdd, Nat.reduceLT, Nat.reduceLeDiff, reduceCtorEq]) (by simp [go_sem, if_true, if_false, reduceIte, Nat.reduceEqDiff, Nat.reduceAdd, Nat.reduceLT, Nat.reduceLeDiff, reduceCtorEq]) (by simp [go_sem, if_true, if_false, reduceIte, Nat.reduceEqDiff, Nat.reduceAdd, Nat.reduceLT, Nat.reduceLeDiff, reduceCtorEq]) (by simp [go_sem, if_true, if_false, reduceIte, Nat.reduceEqDiff, Nat.reduceAdd, Nat.reduceLT, Nat.reduceLeDiff, reduceCtorEq]) (by simp [go_sem, if_true, if_false, reduceIte, Nat.reduceEqDiff, Nat.reduceAdd, Nat.reduceLT, Nat.reduceLeDiff, reduceCtorEq]) (by simp [go_sem, if_true, if_false, reduceIte, Nat.reduceEqDiff, Nat.reduceAdd, Nat.reduceLT, Nat.reduceLeDiff, reduceCtorEq])) ?_
            simp only [go_sem, if_true, if_false, reduceIte, Nat.reduceEqDiff, Nat.reduceAdd, Nat.reduceLT, Nat.reduceLeDiff, reduceCtorEq]
            refine hK _ _ ?_; clear hX hK X K
            show IW _ _ _ _ _ _ _ _
            repeat refine IW.seq ?_
            refine IW.region_seq tab_ok [some 70, some 71, some 72, some 69, some 73, some 74, some 15, none, some 16] rfl fun X K hX hK => ?_
            simp only [go_sem, if_true, if_false, reduceIte, Nat.reduceEqDiff, Nat.reduceAdd, Nat.reduceLT, Nat.reduceLeDiff, reduceCtorEq]
            refine hX.quiet _ _ (OpG.of_B rfl (opB_call rfl rfl (FSpec.nz (hg2) (by simp [go_sem, if_true, if_false, reduceIte, Nat.reduceEqDiff, Nat.reduceAdd, Nat.reduceLT, Nat.reduceLeDiff, reduceCtorEq, List.map_cons, List.map_nil, List.append_nil, opnd, unc, resI, resR])))) ?_
            simp only [go_sem, if_true, if_false, reduceIte, Nat.reduceEqDiff, Nat.reduceAdd, Nat.reduceLT, Nat.reduceLeDiff, reduceCtorEq, resI, resR]
            refine hX.op _ _ rfl (opS_store tab_ok rfl (by simp [go_sem, if_true, if_false, reduceIte, Nat.reduceEqDiff, Nat.reduceAdd, Nat.reduceLT, Nat.reduceLeDiff, reduceCtorEq]) (by simp [go_sem, if_true, if_false, reduceIte, Nat.reduceEqDiff, Nat.reduceAdd, Nat.reduceLT, Nat.reduceLeDiff, reduceCtorEq]) (by simp [go_sem, if_true, if_false, reduceIte, Nat.reduceEqDiff, Nat.reduceAdd, Nat.reduceLT, Nat.reduceLeDiff, reduceCtorEq]) (by simp [go_sem, if_true, if_false, reduceIte, Nat.reduceEqDiff, Nat.reduceAdd, Nat.reduceLT, Nat.reduceLeDiff, reduceCtorEq]) (by simp [go_sem, if_true, if_false, reduceIte, Nat.reduceEqDiff, Nat.reduceAdd, Nat.reduceLT, Nat.reduceLeDiff, reduceCtorEq]) (by simp [go_sem, if_true, if_false, reduceIte, Nat.reduceEqDiff, Nat.reduceAdd, Nat.reduceLT, Nat.reduceLeDiff, reduceCtorEq])) ?_
            simp only [go_sem, if_true, if_false, reduceIte, Nat.reduceEqDiff, Nat.reduceAdd, Nat.reduceLT, Nat.reduceLeDiff, reduceCtorEq]
            refine hK _ _ ?_; clear hX hK X K
            show IW _ _ _ _ _ _ _ _
            repeat refine IW.seq ?_
            refine IW.region_seq tab_ok [some 75, some 76, some 77, some 78, some 79, some 80, some 81, some 82, some 83] rfl fun X K hX hK => ?_
            simp only [go_sem, if_true, if_false, reduceIte, Nat.reduceEqDiff, Nat.reduceAdd, Nat.reduceLT, Nat.reduceLeDiff, reduceCtorEq, bne_self_eq_false]
            refine hX.quiet _ _ (OpG.of_BG rfl rfl rfl (by first | (simp only [go_sem, if_true, if_false, reduceIte, Nat.reduceEqDiff, Nat.reduceAdd, Nat.reduceLT, Nat.reduceLeDiff, reduceCtorEq]; done) | (simp [go_sem, if_true, if_false, reduceIte, Nat.reduceEqDiff, Nat.reduceAdd, Nat.reduceLT, Nat.reduceLeDiff, reduceCtorEq] <;> (intros; simp_all))) fun hc => opB_call rfl rfl (FSpec.nz (kSameInk W H p W H p hpl hpl) (by simp [go_sem, if_true, if_false, reduceIte, Nat.reduceEqDiff, Nat.reduceAdd, Nat.reduceLT, Nat.reduceLeDiff, reduceCtorEq, List.map_cons, List.map_nil, List.append_nil, opnd, unc, and_self, decide_true, Bool.not_true]))) ?_
            simp only [go_sem, if_true, if_false, reduceIte, Nat.reduceEqDiff, Nat.reduceAdd, Nat.reduceLT, Nat.reduceLeDiff, reduceCtorEq, and_self, decide_true, Bool.not_true]
            refine hK _ _ ?_; clear hX hK X K
            show IW _ _ _ _ _ _ _ _
            repeat refine IW.seq ?_
            refine IW.cond rfl (fun hb7 => ?_) (fun hb7 => ?_)
            · cases hb7
            · refine IW.skip ?_
              show IW _ _ _ _ _ _ _ _
              repeat refine IW.seq ?_
              refine IW.region_seq tab_ok [some 84, some 59] rfl fun X K hX hK => ?_
              simp only [go_sem, if_true, if_false, reduceIte, Nat.reduceEqDiff, Nat.reduceAdd, Nat.reduceLT, Nat.reduceLeDiff, reduceCtorEq, succ_wrap hkl2 (by omega)]
              refine hK _ _ ⟨⟨k + 1, hkl2⟩, by simp only []; omega, ?_⟩
              refine Ent.cut ?_ ?_ <;> simp only [go_sem, if_true, if_false, reduceIte, Nat.reduceEqDiff, Nat.reduceAdd, Nat.reduceLT, Nat.reduceLeDiff, reduceCtorEq]
          · refine IW.exit ?_
            show IW _ _ _ _ _ _ _ _
            repeat refine IW.seq ?_
            refine IW.region_seq tab_ok [some 85, some 23] rfl fun X K hX hK => ?_
            simp only [go_sem, if_true, if_false, reduceIte, Nat.reduceEqDiff, Nat.reduceAdd, Nat.reduceLT, Nat.reduceLeDiff, reduceCtorEq, succ_wrap hil (by omega)]
            refine hK _ _ ⟨⟨i + 1, hil⟩, by simp only []; omega, ?_⟩
            refine Ent.cut ?_ ?_ <;> simp only [go_sem, if_true, if_false, reduceIte, Nat.reduceEqDiff, Nat.reduceAdd, Nat.reduceLT, Nat.reduceLeDiff, reduceCtorEq]
    · refine IW.exit ?_
      show IW _ _ _ _ _ _ _ _
      repeat refine IW.seq ?_
      refine IW.region_seq tab_ok [some 86, some 4] rfl fun X K hX hK => ?_
      simp only [go_sem, if_true, if_false, reduceIte, Nat.reduceEqDiff, Nat.reduceAdd, Nat.reduceLT, Nat.reduceLeDiff, reduceCtorEq]
      refine hX.quiet _ _ (OpG.of_B rfl (opB_call rfl rfl (FSpec.nz (fAwake) (by simp [go_sem, if_true, if_false, reduceIte, Nat.reduceEqDiff, Nat.reduceAdd, Nat.reduceLT, Nat.reduceLeDiff, reduceCtorEq, List.map_cons, List.map_nil, List.append_nil, opnd, unc])))) ?_
      simp only [go_sem, if_true, if_false, reduceIte, Nat.reduceEqDiff, Nat.reduceAdd, Nat.reduceLT, Nat.reduceLeDiff, reduceCtorEq]
      refine hK _ _ ?_; clear hX hK X K
      show IW _ _ _ _ _ _ _ _
      refine IW.ret (Fin.scal rfl rfl ?_)
      rfl
end Go.Proofs.Ytnbpbehlemaeoaa

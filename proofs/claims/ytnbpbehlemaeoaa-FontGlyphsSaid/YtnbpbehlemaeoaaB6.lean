/- Contracts of glyphs and sizes. -/
import Derived.Test.YtnbpbehlemaeoaaB5
set_option linter.unusedVariables false
set_option linter.unusedSimpArgs false
set_option maxRecDepth 10000
namespace Go.Proofs.Ytnbpbehlemaeoaa
open Go.IL
/-! ### The drawings of a set, by their content -/
def mapX (d : List (Int × List ByteArray)) : List (List SV) := d.map fun e => [.int .i64 e.1, .sl false (strs e.2)]
def mapC (d : List (Int × List ByteArray)) : SV := .mp false (mapX d)
theorem strs_unold : ∀ l : List ByteArray, unoldLL (strs l) = strs l
  | [] => rfl
  | x :: xs => by show unoldLL ([SV.str x] :: strs xs) = _; simp only [unoldLL, unoldL, SV.unold, strs_unold xs]; rfl
theorem frz_mapE (n : Nat) : ∀ (d : List (Int × List ByteArray)) (pre : Heap), unoldLL ((mapE pre.length d).map fun x => x.map (rei (n + 2) (pre ++ (mapRows d).map some))) = mapX d
  | [], pre => rfl
  | e :: d, pre => by
    have ih := frz_mapE n d (pre ++ [some ⟨1, 9, strs e.2⟩])
    have hh : pre ++ (mapRows (e :: d)).map some = (pre ++ [some ⟨1, 9, strs e.2⟩]) ++ (mapRows d).map some := by simp [mapRows]
    rw [hh]
    simp only [mapE, List.map_cons, List.map_nil, unoldLL, unoldL]
    have hr : hrow ((pre ++ [some (⟨1, 9, strs e.2⟩ : Row)]) ++ (mapRows d).map some) pre.length = some ⟨1, 9, strs e.2⟩ := by
      unfold hrow
      rw [List.getElem?_append_left (by simp), List.getElem?_append_right (Nat.le_refl _), Nat.sub_self]; rfl
    have hx : rowXs ((pre ++ [some (⟨1, 9, strs e.2⟩ : Row)]) ++ (mapRows d).map some) pre.length = strs e.2 := by unfold rowXs; rw [hr]
    have hsl : rei (n + 2) ((pre ++ [some (⟨1, 9, strs e.2⟩ : Row)]) ++ (mapRows d).map some) (.ref pre.length 0 e.2.length) = .sl true (strs e.2) := by
      show (if _ then _ else _) = _
      rw [hx, if_pos ⟨by simp [strs], by rw [hr]; rfl⟩, List.drop_zero, strs_take, strs_rei]
    rw [hsl]
    have hlen : (pre ++ [some (⟨1, 9, strs e.2⟩ : Row)]).length = pre.length + 1 := by simp
    rw [hlen] at ih
    rw [ih]
    show [SV.unold (.int .i64 e.1), SV.unold (.sl true (strs e.2))] :: mapX d = _
    simp only [SV.unold, strs_unold]
    rfl
theorem dr_freeze {f : FuncId} {args : List SV} {d : List (Int × List ByteArray)} (h : FSpec Try.prog f args (mapSV d) (mapRows d)) : FSpec Try.prog f args (mapC d) [] := by
  have h1 := FSpec.freeze 3 h
  have h2 : (rei 3 ((mapRows d).map some) (mapSV d)).unold = mapC d := by
    have := frz_mapE 0 d []
    simp only [List.length_nil, List.nil_append, Nat.zero_add] at this
    show SV.unold (.mp true ((mapE 0 d).map fun x => x.map (rei 2 ((mapRows d).map some)))) = _
    simp only [SV.unold, this]; rfl
  rw [h2] at h1; exact h1
def drw8 : List (Int × List ByteArray) := [(1, [⟨#[46, 35, 35, 46]⟩, ⟨#[35, 46, 46, 35]⟩, ⟨#[35, 35, 35, 35]⟩, ⟨#[35, 46, 46, 35]⟩, ⟨#[35, 46, 46, 35]⟩]), (2, [⟨#[35, 35, 35, 46]⟩, ⟨#[35, 46, 46, 35]⟩, ⟨#[35, 35, 35, 46]⟩, ⟨#[35, 46, 46, 35]⟩, ⟨#[35, 35, 35, 46]⟩]), (3, [⟨#[46, 35, 35, 35]⟩, ⟨#[35, 46, 46, 46]⟩, ⟨#[35, 46, 46, 46]⟩, ⟨#[35, 46, 46, 46]⟩, ⟨#[46, 35, 35, 35]⟩]), (4, [⟨#[35, 35, 35, 46]⟩, ⟨#[35, 46, 46, 35]⟩, ⟨#[35, 46, 46, 35]⟩, ⟨#[35, 46, 46, 35]⟩, ⟨#[35, 35, 35, 46]⟩]), (5, [⟨#[35, 35, 35, 35]⟩, ⟨#[35, 46, 46, 46]⟩, ⟨#[35, 35, 35, 46]⟩, ⟨#[35, 46, 46, 46]⟩, ⟨#[35, 35, 35, 35]⟩]), (6, [⟨#[35, 35, 35, 35]⟩, ⟨#[35, 46, 46, 46]⟩, ⟨#[35, 35, 35, 46]⟩, ⟨#[35, 46, 46, 46]⟩, ⟨#[35, 46, 46, 46]⟩]), (7, [⟨#[46, 35, 35, 35]⟩, ⟨#[35, 46, 46, 46]⟩, ⟨#[35, 46, 35, 35]⟩, ⟨#[35, 46, 46, 35]⟩, ⟨#[46, 35, 35, 35]⟩]), (8, [⟨#[35, 46, 46, 35]⟩, ⟨#[35, 46, 46, 35]⟩, ⟨#[35, 35, 35, 35]⟩, ⟨#[35, 46, 46, 35]⟩, ⟨#[35, 46, 46, 35]⟩]), (9, [⟨#[35, 35, 35, 46]⟩, ⟨#[46, 35, 46, 46]⟩, ⟨#[46, 35, 46, 46]⟩, ⟨#[46, 35, 46, 46]⟩, ⟨#[35, 35, 35, 46]⟩]), (10, [⟨#[46, 46, 35, 35]⟩, ⟨#[46, 46, 46, 35]⟩, ⟨#[46, 46, 46, 35]⟩, ⟨#[35, 46, 46, 35]⟩, ⟨#[46, 35, 35, 46]⟩]), (11, [⟨#[35, 46, 46, 35]⟩, ⟨#[35, 46, 35, 46]⟩, ⟨#[35, 35, 46, 46]⟩, ⟨#[35, 46, 35, 46]⟩, ⟨#[35, 46, 46, 35]⟩]), (12, [⟨#[35, 46, 46, 46]⟩, ⟨#[35, 46, 46, 46]⟩, ⟨#[35, 46, 46, 46]⟩, ⟨#[35, 46, 46, 46]⟩, ⟨#[35, 35, 35, 35]⟩]), (13, [⟨#[35, 46, 46, 35]⟩, ⟨#[35, 35, 35, 35]⟩, ⟨#[35, 35, 35, 35]⟩, ⟨#[35, 46, 46, 35]⟩, ⟨#[35, 46, 46, 35]⟩]), (14, [⟨#[35, 46, 46, 35]⟩, ⟨#[35, 35, 46, 35]⟩, ⟨#[35, 46, 35, 35]⟩, ⟨#[35, 46, 46, 35]⟩, ⟨#[35, 46, 46, 35]⟩]), (15, [⟨#[46, 35, 35, 46]⟩, ⟨#[35, 46, 46, 35]⟩, ⟨#[35, 46, 46, 35]⟩, ⟨#[35, 46, 46, 35]⟩, ⟨#[46, 35, 35, 46]⟩]), (16, [⟨#[35, 35, 35, 46]⟩, ⟨#[35, 46, 46, 35]⟩, ⟨#[35, 35, 35, 46]⟩, ⟨#[35, 46, 46, 46]⟩, ⟨#[35, 46, 46, 46]⟩]), (17, [⟨#[46, 35, 35, 46]⟩, ⟨#[35, 46, 46, 35]⟩, ⟨#[35, 46, 46, 35]⟩, ⟨#[35, 46, 35, 35]⟩, ⟨#[46, 35, 35, 35]⟩]), (18, [⟨#[35, 35, 35, 46]⟩, ⟨#[35, 46, 46, 35]⟩, ⟨#[35, 35, 35, 46]⟩, ⟨#[35, 46, 35, 46]⟩, ⟨#[35, 46, 46, 35]⟩]), (19, [⟨#[46, 35, 35, 35]⟩, ⟨#[35, 46, 46, 46]⟩, ⟨#[46, 35, 35, 46]⟩, ⟨#[46, 46, 46, 35]⟩, ⟨#[35, 35, 35, 46]⟩]), (20, [⟨#[35, 35, 35, 35]⟩, ⟨#[46, 35, 46, 46]⟩, ⟨#[46, 35, 46, 46]⟩, ⟨#[46, 35, 46, 46]⟩, ⟨#[46, 35, 46, 46]⟩]), (21, [⟨#[35, 46, 46, 35]⟩, ⟨#[35, 46, 46, 35]⟩, ⟨#[35, 46, 46, 35]⟩, ⟨#[35, 46, 46, 35]⟩, ⟨#[46, 35, 35, 46]⟩]), (22, [⟨#[35, 46, 46, 35]⟩, ⟨#[35, 46, 46, 35]⟩, ⟨#[35, 46, 46, 35]⟩, ⟨#[46, 35, 35, 46]⟩, ⟨#[46, 35, 35, 46]⟩]), (23, [⟨#[35, 46, 46, 35]⟩, ⟨#[35, 46, 46, 35]⟩, ⟨#[35, 35, 35, 35]⟩, ⟨#[35, 35, 35, 35]⟩, ⟨#[35, 46, 46, 35]⟩]), (24, [⟨#[35, 46, 46, 35]⟩, ⟨#[46, 35, 35, 46]⟩, ⟨#[46, 35, 35, 46]⟩, ⟨#[46, 35, 35, 46]⟩, ⟨#[35, 46, 46, 35]⟩]), (25, [⟨#[35, 46, 46, 35]⟩, ⟨#[35, 46, 46, 35]⟩, ⟨#[46, 35, 35, 35]⟩, ⟨#[46, 46, 46, 35]⟩, ⟨#[46, 35, 35, 46]⟩]), (26, [⟨#[35, 35, 35, 35]⟩, ⟨#[46, 46, 46, 35]⟩, ⟨#[46, 35, 35, 46]⟩, ⟨#[35, 46, 46, 46]⟩, ⟨#[35, 35, 35, 35]⟩]), (27, [⟨#[46, 46, 46, 46]⟩, ⟨#[46, 46, 46, 46]⟩, ⟨#[35, 35, 35, 35]⟩, ⟨#[46, 46, 46, 46]⟩, ⟨#[46, 46, 46, 46]⟩])]
set_option maxHeartbeats 4000000 in
theorem fLetters : FSpec Try.prog 74 [] (mapSV drw8) (mapRows drw8) := by
  refine FSpec.intro tab_ok Try.func74 rfl rfl rfl (by kernel_rfl) (by simp) fun w0 => ?_
  simp only [argTM, Nat.zero_add, Nat.reduceAdd]
  repeat refine IW.seq ?_
  refine IW.region_seq tab_ok [some 0] rfl fun X K hX hK => ?_
  simp only [go_sem, if_true, if_false, reduceIte, Nat.reduceEqDiff, Nat.reduceAdd, Nat.reduceLT, Nat.reduceLeDiff, reduceCtorEq]
  refine hK _ _ ?_; clear hX hK X K
  show IW _ _ _ _ _ _ _ _
  repeat refine IW.seq ?_
  refine IW.region_seq tab_ok [some 1, some 2, none, some 3, none, some 4, none, some 5, none, some 6, none, some 7, none, some 8, none, some 9, none, some 10, none, some 11, none, some 12, none, some 13, none, some 14, none, some 15, none, some 16, none, some 17, none, some 18, none, some 19, none, some 20, none, some 21, none, some 22, none, some 23, none, some 24, none, some 25, none, some 26, none, some 27, none, some 28, none, some 29, some 0] rfl fun X K hX hK => ?_
  simp only [go_sem, if_true, if_false, reduceIte, Nat.reduceEqDiff, Nat.reduceAdd, Nat.reduceLT, Nat.reduceLeDiff, reduceCtorEq]
  refine hX.quiet _ _ (OpG.of_B rfl opB_makeMap) ?_
  simp only [go_sem, if_true, if_false, reduceIte, Nat.reduceEqDiff, Nat.reduceAdd, Nat.reduceLT, Nat.reduceLeDiff, reduceCtorEq]
  refine hX.quiet _ _ (OpG.of_B rfl (opB_buildSlice tab_ok rfl (by simp [go_sem, if_true, if_false, reduceIte, Nat.reduceEqDiff, Nat.reduceAdd, Nat.reduceLT, Nat.reduceLeDiff, reduceCtorEq]) (by simp [go_sem, if_true, if_false, reduceIte, Nat.reduceEqDiff, Nat.reduceAdd, Nat.reduceLT, Nat.reduceLeDiff, reduceCtorEq]) (by simp) (by simp [go_sem, if_true, if_false, reduceIte, Nat.reduceEqDiff, Nat.reduceAdd, Nat.reduceLT, Nat.reduceLeDiff, reduceCtorEq, bsO, List.map_cons, List.map_nil]))) ?_
  simp only [go_sem, if_true, if_false, reduceIte, Nat.reduceEqDiff, Nat.reduceAdd, Nat.reduceLT, Nat.reduceLeDiff, reduceCtorEq, List.map_cons, List.map_nil]
  refine hX.op _ _ rfl (opS_insert rfl rfl (by simp [go_sem, if_true, if_false, reduceIte, Nat.reduceEqDiff, Nat.reduceAdd, Nat.reduceLT, Nat.reduceLeDiff, reduceCtorEq]) m72 u3 (by simp [go_sem, if_true, if_false, reduceIte, Nat.reduceEqDiff, Nat.reduceAdd, Nat.reduceLT, Nat.reduceLeDiff, reduceCtorEq]) (by simp [go_sem, if_true, if_false, reduceIte, Nat.reduceEqDiff, Nat.reduceAdd, Nat.reduceLT, Nat.reduceLeDiff, reduceCtorEq]) (by simp [go_sem, if_true, if_false, reduceIte, Nat.reduceEqDiff, Nat.reduceAdd, Nat.reduceLT, Nat.reduceLeDiff, reduceCtorEq]) (by decide)) ?_
  simp only [go_sem, if_true, if_false, reduceIte, Nat.reduceEqDiff, Nat.reduceAdd, Nat.reduceLT, Nat.reduceLeDiff, reduceCtorEq, List.nil_append, List.cons_append]
  refine hX.quiet _ _ (OpG.of_B rfl (opB_buildSlice tab_ok rfl (by simp [go_sem, if_true, if_false, reduceIte, Nat.reduceEqDiff, Nat.reduceAdd, Nat.reduceLT, Nat.reduceLeDiff, reduceCtorEq]) (by simp [go_sem, if_true, if_false, reduceIte, Nat.reduceEqDiff, Nat.reduceAdd, Nat.reduceLT, Nat.reduceLeDiff, reduceCtorEq]) (by simp) (by simp [go_sem, if_true, if_false, reduceIte, Nat.reduceEqDiff, Nat.reduceAdd, Nat.reduceLT, Nat.reduceLeDiff, reduceCtorEq, bsO, List.map_cons, List.map_nil]))) ?_
  simp only [go_sem, if_true, if_false, reduceIte, Nat.reduceEqDiff, Nat.reduceAdd, Nat.reduceLT, Nat.reduceLeDiff, reduceCtorEq, List.map_cons, List.map_nil]
  refine hX.op _ _ rfl (opS_insert rfl rfl (by simp [go_sem, if_true, if_false, reduceIte, Nat.reduceEqDiff, Nat.reduceAdd, Nat.reduceLT, Nat.reduceLeDiff, reduceCtorEq]) m72 u3 (by simp [go_sem, if_true, if_false, reduceIte, Nat.reduceEqDiff, Nat.reduceAdd, Nat.reduceLT, Nat.reduceLeDiff, reduceCtorEq]) (by simp [go_sem, if_true, if_false, reduceIte, Nat.reduceEqDiff, Nat.reduceAdd, Nat.reduceLT, Nat.reduceLeDiff, reduceCtorEq]) (by simp [go_sem, if_true, if_false, reduceIte, Nat.reduceEqDiff, Nat.reduceAdd, Nat.reduceLT, Nat.reduceLeDiff, reduceCtorEq]) (by decide)) ?_
  simp only [go_sem, if_true, if_false, reduceIte, Nat.reduceEqDiff, Nat.reduceAdd, Nat.reduceLT, Nat.reduceLeDiff, reduceCtorEq, List.nil_append, List.cons_append]
  refine hX.quiet _ _ (OpG.of_B rfl (opB_buildSlice tab_ok rfl (by simp [go_sem, if_true, if_false, reduceIte, Nat.reduceEqDiff, Nat.reduceAdd, Nat.reduceLT, Nat.reduceLeDiff, reduceCtorEq]) (by simp [go_sem, if_true, if_false, reduceIte, Nat.reduceEqDiff, Nat.reduceAdd, Nat.reduceLT, Nat.reduceLeDiff, reduceCtorEq]) (by simp) (by simp [go_sem, if_true, if_false, reduceIte, Nat.reduceEqDiff, Nat.reduceAdd, Nat.reduceLT, Nat.reduceLeDiff, reduceCtorEq, bsO, List.map_cons, List.map_nil]))) ?_
  simp only [go_sem, if_true, if_false, reduceIte, Nat.reduceEqDiff, Nat.reduceAdd, Nat.reduceLT, Nat.reduceLeDiff, reduceCtorEq, List.map_cons, List.map_nil]
  refine hX.op _ _ rfl (opS_insert rfl rfl (by simp [go_sem, if_true, if_false, reduceIte, Nat.reduceEqDiff, Nat.reduceAdd, Nat.reduceLT, Nat.reduceLeDiff, reduceCtorEq]) m72 u3 (by simp [go_sem, if_true, if_false, reduceIte, Nat.reduceEqDiff, Nat.reduceAdd, Nat.reduceLT, Nat.reduceLeDiff, reduceCtorEq]) (by simp [go_sem, if_true, if_false, reduceIte, Nat.reduceEqDiff, Nat.reduceAdd, Nat.reduceLT, Nat.reduceLeDiff, reduceCtorEq]) (by simp [go_sem, if_true, if_false, reduceIte, Nat.reduceEqDiff, Nat.reduceAdd, Nat.reduceLT, Nat.reduceLeDiff, reduceCtorEq]) (by decide)) ?_
  simp only [go_sem, if_true, if_false, reduceIte, Nat.reduceEqDiff, Nat.reduceAdd, Nat.reduceLT, Nat.reduceLeDiff, reduceCtorEq, List.nil_append, List.cons_append]
  refine hX.quiet _ _ (OpG.of_B rfl (opB_buildSlice tab_ok rfl (by simp [go_sem, if_true, if_false, reduceIte, Nat.reduceEqDiff, Nat.reduceAdd, Nat.reduceLT, Nat.reduceLeDiff, reduceCtorEq]) (by simp [go_sem, if_true, if_false, reduceIte, Nat.reduceEqDiff, Nat.reduceAdd, Nat.reduceLT, Nat.reduceLeDiff, reduceCtorEq]) (by simp) (by simp [go_sem, if_true, if_false, reduceIte, Nat.reduceEqDiff, Nat.reduceAdd, Nat.reduceLT, Nat.reduceLeDiff, reduceCtorEq, bsO, List.map_cons, List.map_nil]))) ?_
  simp only [go_sem, if_true, if_false, reduceIte, Nat.reduceEqDiff, Nat.reduceAdd, Nat.reduceLT, Nat.reduceLeDiff, reduceCtorEq, List.map_cons, List.map_nil]
  refine hX.op _ _ rfl (opS_insert rfl rfl (by simp [go_sem, if_true, if_false, reduceIte, Nat.reduceEqDiff, Nat.reduceAdd, Nat.reduceLT, Nat.reduceLeDiff, reduceCtorEq]) m72 u3 (by simp [go_sem, if_true, if_false, reduceIte, Nat.reduceEqDiff, Nat.reduceAdd, Nat.reduceLT, Nat.reduceLeDiff, reduceCtorEq]) (by simp [go_sem, if_true, if_false, reduceIte, Nat.reduceEqDiff, Nat.reduceAdd, Nat.reduceLT, Nat.reduceLeDiff, reduceCtorEq]) (by simp [go_sem, if_true, if_false, reduceIte, Nat.reduceEqDiff, Nat.reduceAdd, Nat.reduceLT, Nat.reduceLeDiff, reduceCtorEq]) (by decide)) ?_
  simp only [go_sem, if_true, if_false, reduceIte, Nat.reduceEqDiff, Nat.reduceAdd, Nat.reduceLT, Nat.reduceLeDiff, reduceCtorEq, List.nil_append, List.cons_append]
  refine hX.quiet _ _ (OpG.of_B rfl (opB_buildSlice tab_ok rfl (by simp [go_sem, if_true, if_false, reduceIte, Nat.reduceEqDiff, Nat.reduceAdd, Nat.reduceLT, Nat.reduceLeDiff, reduceCtorEq]) (by simp [go_sem, if_true, if_false, reduceIte, Nat.reduceEqDiff, Nat.reduceAdd, Nat.reduceLT, Nat.reduceLeDiff, reduceCtorEq]) (by simp) (by simp [go_sem, if_true, if_false, reduceIte, Nat.reduceEqDiff, Nat.reduceAdd, Nat.reduceLT, Nat.reduceLeDiff, reduceCtorEq, bsO, List.map_cons, List.map_nil]))) ?_
  simp only [go_sem, if_true, if_false, reduceIte, Nat.reduceEqDiff, Nat.reduceAdd, Nat.reduceLT, Nat.reduceLeDiff, reduceCtorEq, List.map_cons, List.map_nil]
  refine hX.op _ _ rfl (opS_insert rfl rfl (by simp [go_sem, if_true, if_false, reduceIte, Nat.reduceEqDiff, Nat.reduceAdd, Nat.reduceLT, Nat.reduceLeDiff, reduceCtorEq]) m72 u3 (by simp [go_sem, if_true, if_false, reduceIte, Nat.reduceEqDiff, Nat.reduceAdd, Nat.reduceLT, Nat.reduceLeDiff, reduceCtorEq]) (by simp [go_sem, if_true, if_false, reduceIte, Nat.reduceEqDiff, Nat.reduceAdd, Nat.reduceLT, Nat.reduceLeDiff, reduceCtorEq]) (by simp [go_sem, if_true, if_false, reduceIte, Nat.reduceEqDiff, Nat.reduceAdd, Nat.reduceLT, Nat.reduceLeDiff, reduceCtorEq]) (by decide)) ?_
  simp only [go_sem, if_true, if_false, reduceIte, Nat.reduceEqDiff, Nat.reduceAdd, Nat.reduceLT, Nat.reduceLeDiff, reduceCtorEq, List.nil_append, List.cons_append]
  refine hX.quiet _ _ (OpG.of_B rfl (opB_buildSlice tab_ok rfl (by simp [go_sem, if_true, if_false, reduceIte, Nat.reduceEqDiff, Nat.reduceAdd, Nat.reduceLT, Nat.reduceLeDiff, reduceCtorEq]) (by simp [go_sem, if_true, if_false, reduceIte, Nat.reduceEqDiff, Nat.reduceAdd, Nat.reduceLT, Nat.reduceLeDiff, reduceCtorEq]) (by simp) (by simp [go_sem, if_true, if_false, reduceIte, Nat.reduceEqDiff, Nat.reduceAdd, Nat.reduceLT, Nat.reduceLeDiff, reduceCtorEq, bsO, List.map_cons, List.map_nil]))) ?_
  simp only [go_sem, if_true, if_false, reduceIte, Nat.reduceEqDiff, Nat.reduceAdd, Nat.reduceLT, Nat.reduceLeDiff, reduceCtorEq, List.map_cons, List.map_nil]
  refine hX.op _ _ rfl (opS_insert rfl rfl (by simp [go_sem, if_true, if_false, reduceIte, Nat.reduceEqDiff, Nat.reduceAdd, Nat.reduceLT, Nat.reduceLeDiff, reduceCtorEq]) m72 u3 (by simp [go_sem, if_true, if_false, reduceIte, Nat.reduceEqDiff, Nat.reduceAdd, Nat.reduceLT, Nat.reduceLeDiff, reduceCtorEq]) (by simp [go_sem, if_true, if_false, reduceIte, Nat.reduceEqDiff, Nat.reduceAdd, Nat.reduceLT, Nat.reduceLeDiff, reduceCtorEq]) (by simp [go_sem, if_true, if_false, reduceIte, Nat.reduceEqDiff, Nat.reduceAdd, Nat.reduceLT, Nat.reduceLeDiff, reduceCtorEq]) (by decide)) ?_
  simp only [go_sem, if_true, if_false, reduceIte, Nat.reduceEqDiff, Nat.reduceAdd, Nat.reduceLT, Nat.reduceLeDiff, reduceCtorEq, List.nil_append, List.cons_append]
  refine hX.quiet _ _ (OpG.of_B rfl (opB_buildSlice tab_ok rfl (by simp [go_sem, if_true, if_false, reduceIte, Nat.reduceEqDiff, Nat.reduceAdd, Nat.reduceLT, Nat.reduceLeDiff, reduceCtorEq]) (by simp [go_sem, if_true, if_false, reduceIte, Nat.reduceEqDiff, Nat.reduceAdd, Nat.reduceLT, Nat.reduceLeDiff, reduceCtorEq]) (by simp) (by simp [go_sem, if_true, if_false, reduceIte, Nat.reduceEqDiff, Nat.reduceAdd, Nat.reduceLT, Nat.reduceLeDiff, reduceCtorEq, bsO, List.map_cons, List.map_nil]))) ?_
  simp only [go_sem, if_true, if_false, reduceIte, Nat.reduceEqDiff, Nat.reduceAdd, Nat.reduceLT, Nat.reduceLeDiff, reduceCtorEq, List.map_cons, List.map_nil]
  refine hX.op _ _ rfl (opS_insert rfl rfl (by simp [go_sem, if_true, if_false, reduceIte, Nat.reduceEqDiff, Nat.reduceAdd, Nat.reduceLT, Nat.reduceLeDiff, reduceCtorEq]) m72 u3 (by simp [go_sem, if_true, if_false, reduceIte, Nat.reduceEqDiff, Nat.reduceAdd, Nat.reduceLT, Nat.reduceLeDiff, reduceCtorEq]) (by simp [go_sem, if_true, if_false, reduceIte, Nat.reduceEqDiff, Nat.reduceAdd, Nat.reduceLT, Nat.reduceLeDiff, reduceCtorEq]) (by simp [go_sem, if_true, if_false, reduceIte, Nat.reduceEqDiff, Nat.reduceAdd, Nat.reduceLT, Nat.reduceLeDiff, reduceCtorEq]) (by decide)) ?_
  simp only [go_sem, if_true, if_false, reduceIte, Nat.reduceEqDiff, Nat.reduceAdd, Nat.reduceLT, Nat.reduceLeDiff, reduceCtorEq, List.nil_append, List.cons_append]
  refine hX.quiet _ _ (OpG.of_B rfl (opB_buildSlice tab_ok rfl (by simp [go_sem, if_true, if_false, reduceIte, Nat.reduceEqDiff, Nat.reduceAdd, Nat.reduceLT, Nat.reduceLeDiff, reduceCtorEq]) (by simp [go_sem, if_true, if_false, reduceIte, Nat.reduceEqDiff, Nat.reduceAdd, Nat.reduceLT, Nat.reduceLeDiff, reduceCtorEq]) (by simp) (by simp [go_sem, if_true, if_false, reduceIte, Nat.reduceEqDiff, Nat.reduceAdd, Nat.reduceLT, Nat.reduceLeDiff, reduceCtorEq, bsO, List.map_cons, List.map_nil]))) ?_
  simp only [go_sem, if_true, if_false, reduceIte, Nat.reduceEqDiff, Nat.reduceAdd, Nat.reduceLT, Nat.reduceLeDiff, reduceCtorEq, List.map_cons, List.map_nil]
  refine hX.op _ _ rfl (opS_insert rfl rfl (by simp [go_sem, if_true, if_false, reduceIte, Nat.reduceEqDiff, Nat.reduceAdd, Nat.reduceLT, Nat.reduceLeDiff, reduceCtorEq]) m72 u3 (by simp [go_sem, if_true, if_false, reduceIte, Nat.reduceEqDiff, Nat.reduceAdd, Nat.reduceLT, Nat.reduceLeDiff, reduceCtorEq]) (by simp [go_sem, if_true, if_false, reduceIte, Nat.reduceEqDiff, Nat.reduceAdd, Nat.reduceLT, Nat.reduceLeDiff, reduceCtorEq]) (by simp [go_sem, if_true, if_false, reduceIte, Nat.reduceEqDiff, Nat.reduceAdd, Nat.reduceLT, Nat.reduceLeDiff, reduceCtorEq]) (by decide)) ?_
  simp only [go_sem, if_true, if_false, reduceIte, Nat.reduceEqDiff, Nat.reduceAdd, Nat.reduceLT, Nat.reduceLeDiff, reduceCtorEq, List.nil_append, List.cons_append]
  refine hX.quiet _ _ (OpG.of_B rfl (opB_buildSlice tab_ok rfl (by simp [go_sem, if_true, if_false, reduceIte, Nat.reduceEqDiff, Nat.reduceAdd, Nat.reduceLT, Nat.reduceLeDiff, reduceCtorEq]) (by simp [go_sem, if_true, if_false, reduceIte, Nat.reduceEqDiff, Nat.reduceAdd, Nat.reduceLT, Nat.reduceLeDiff, reduceCtorEq]) (by simp) (by simp [go_sem, if_true, if_false, reduceIte, Nat.reduceEqDiff, Nat.reduceAdd, Nat.reduceLT, Nat.reduceLeDiff, reduceCtorEq, bsO, List.map_cons, List.map_nil]))) ?_
  simp only [go_sem, if_true, if_false, reduceIte, Nat.reduceEqDiff, Nat.reduceAdd, Nat.reduceLT, Nat.reduceLeDiff, reduceCtorEq, List.map_cons, List.map_nil]
  refine hX.op _ _ rfl (opS_insert rfl rfl (by simp [go_sem, if_true, if_false, reduceIte, Nat.reduceEqDiff, Nat.reduceAdd, Nat.reduceLT, Nat.reduceLeDiff, reduceCtorEq]) m72 u3 (by simp [go_sem, if_true, if_false, reduceIte, Nat.reduceEqDiff, Nat.reduceAdd, Nat.reduceLT, Nat.reduceLeDiff, reduceCtorEq]) (by simp [go_sem, if_true, if_false, reduceIte, Nat.reduceEqDiff, Nat.reduceAdd, Nat.reduceLT, Nat.reduceLeDiff, reduceCtorEq]) (by simp [go_sem, if_true, if_false, reduceIte, Nat.reduceEqDiff, Nat.reduceAdd, Nat.reduceLT, Nat.reduceLeDiff, reduceCtorEq]) (by decide)) ?_
  simp only [go_sem, if_true, if_false, reduceIte, Nat.reduceEqDiff, Nat.reduceAdd, Nat.reduceLT, Nat.reduceLeDiff, reduceCtorEq, List.nil_append, List.cons_append]
  refine hX.quiet _ _ (OpG.of_B rfl (opB_buildSlice tab_ok rfl (by simp [go_sem, if_true, if_false, reduceIte, Nat.reduceEqDiff, Nat.reduceAdd, Nat.reduceLT, Nat.reduceLeDiff, reduceCtorEq]) (by simp [go_sem, if_true, if_false, reduceIte, Nat.reduceEqDiff, Nat.reduceAdd, Nat.reduceLT, Nat.reduceLeDiff, reduceCtorEq]) (by simp) (by simp [go_sem, if_true, if_false, reduceIte, Nat.reduceEqDiff, Nat.reduceAdd, Nat.reduceLT, Nat.reduceLeDiff, reduceCtorEq, bsO, List.map_cons, List.map_nil]))) ?_
  simp only [go_sem, if_true, if_false, reduceIte, Nat.reduceEqDiff, Nat.reduceAdd, Nat.reduceLT, Nat.reduceLeDiff, reduceCtorEq, List.map_cons, List.map_nil]
  refine hX.op _ _ rfl (opS_insert rfl rfl (by simp [go_sem, if_true, if_false, reduceIte, Nat.reduceEqDiff, Nat.reduceAdd, Nat.reduceLT, Nat.reduceLeDiff, reduceCtorEq]) m72 u3 (by simp [go_sem, if_true, if_false, reduceIte, Nat.reduceEqDiff, Nat.reduceAdd, Nat.reduceLT, Nat.reduceLeDiff, reduceCtorEq]) (by simp [go_sem, if_true, if_false, reduceIte, Nat.reduceEqDiff, Nat.reduceAdd, Nat.reduceLT, Nat.reduceLeDiff, reduceCtorEq]) (by simp [go_sem, if_true, if_false, reduceIte, Nat.reduceEqDiff, Nat.reduceAdd, Nat.reduceLT, Nat.reduceLeDiff, reduceCtorEq]) (by decide)) ?_
  simp only [go_sem, if_true, if_false, reduceIte, Nat.reduceEqDiff, Nat.reduceAdd, Nat.reduceLT, Nat.reduceLeDiff, reduceCtorEq, List.nil_append, List.cons_append]
  refine hX.quiet _ _ (OpG.of_B rfl (opB_buildSlice tab_ok rfl (by simp [go_sem, if_true, if_false, reduceIte, Nat.reduceEqDiff, Nat.reduceAdd, Nat.reduceLT, Nat.reduceLeDiff, reduceCtorEq]) (by simp [go_sem, if_true, if_false, reduceIte, Nat.reduceEqDiff, Nat.reduceAdd, Nat.reduceLT, Nat.reduceLeDiff, reduceCtorEq]) (by simp) (by simp [go_sem, if_true, if_false, reduceIte, Nat.reduceEqDiff, Nat.reduceAdd, Nat.reduceLT, Nat.reduceLeDiff, reduceCtorEq, bsO, List.map_cons, List.map_nil]))) ?_
  simp only [go_sem, if_true, if_false, reduceIte, Nat.reduceEqDiff, Nat.reduceAdd, Nat.reduceLT, Nat.reduceLeDiff, reduceCtorEq, List.map_cons, List.map_nil]
  refine hX.op _ _ rfl (opS_insert rfl rfl (by simp [go_sem, if_true, if_false, reduceIte, Nat.reduceEqDiff, Nat.reduceAdd, Nat.reduceLT, Nat.reduceLeDiff, reduceCtorEq]) m72 u3 (by simp [go_sem, if_true, if_false, reduceIte, Nat.reduceEqDiff, Nat.reduceAdd, Nat.reduceLT, Nat.reduceLeDiff, reduceCtorEq]) (by simp [go_sem, if_true, if_false, reduceIte, Nat.reduceEqDiff, Nat.reduceAdd, Nat.reduceLT, Nat.reduceLeDiff, reduceCtorEq]) (by simp [go_sem, if_true, if_false, reduceIte, Nat.reduceEqDiff, Nat.reduceAdd, Nat.reduceLT, Nat.reduceLeDiff, reduceCtorEq]) (by decide)) ?_
  simp only [go_sem, if_true, if_false, reduceIte, Nat.reduceEqDiff, Nat.reduceAdd, Nat.reduceLT, Nat.reduceLeDiff, reduceCtorEq, List.nil_append, List.cons_append]
  refine hX.quiet _ _ (OpG.of_B rfl (opB_buildSlice tab_ok rfl (by simp [go_sem, if_true, if_false, reduceIte, Nat.reduceEqDiff, Nat.reduceAdd, Nat.reduceLT, Nat.reduceLeDiff, reduceCtorEq]) (by simp [go_sem, if_true, if_false, reduceIte, Nat.reduceEqDiff, Nat.reduceAdd, Nat.reduceLT, Nat.reduceLeDiff, reduceCtorEq]) (by simp) (by simp [go_sem, if_true, if_false, reduceIte, Nat.reduceEqDiff, Nat.reduceAdd, Nat.reduceLT, Nat.reduceLeDiff, reduceCtorEq, bsO, List.map_cons, List.map_nil]))) ?_
  simp only [go_sem, if_true, if_false, reduceIte, Nat.reduceEqDiff, Nat.reduceAdd, Nat.reduceLT, Nat.reduceLeDiff, reduceCtorEq, List.map_cons, List.map_nil]
  refine hX.op _ _ rfl (opS_insert rfl rfl (by simp [go_sem, if_true, if_false, reduceIte, Nat.reduceEqDiff, Nat.reduceAdd, Nat.reduceLT, Nat.reduceLeDiff, reduceCtorEq]) m72 u3 (by simp [go_sem, if_true, if_false, reduceIte, Nat.reduceEqDiff, Nat.reduceAdd, Nat.reduceLT, Nat.reduceLeDiff, reduceCtorEq]) (by simp [go_sem, if_true, if_false, reduceIte, Nat.reduceEqDiff, Nat.reduceAdd, Nat.reduceLT, Nat.reduceLeDiff, reduceCtorEq]) (by simp [go_sem, if_true, if_false, reduceIte, Nat.reduceEqDiff, Nat.reduceAdd, Nat.reduceLT, Nat.reduceLeDiff, reduceCtorEq]) (by decide)) ?_
  simp only [go_sem, if_true, if_false, reduceIte, Nat.reduceEqDiff, Nat.reduceAdd, Nat.reduceLT, Nat.reduceLeDiff, reduceCtorEq, List.nil_append, List.cons_append]
  refine hX.quiet _ _ (OpG.of_B rfl (opB_buildSlice tab_ok rfl (by simp [go_sem, if_true, if_false, reduceIte, Nat.reduceEqDiff, Nat.reduceAdd, Nat.reduceLT, Nat.reduceLeDiff, reduceCtorEq]) (by simp [go_sem, if_true, if_false, reduceIte, Nat.reduceEqDiff, Nat.reduceAdd, Nat.reduceLT, Nat.reduceLeDiff, reduceCtorEq]) (by simp) (by simp [go_sem, if_true, if_false, reduceIte, Nat.reduceEqDiff, Nat.reduceAdd, Nat.reduceLT, Nat.reduceLeDiff, reduceCtorEq, bsO, List.map_cons, List.map_nil]))) ?_
  simp only [go_sem, if_true, if_false, reduceIte, Nat.reduceEqDiff, Nat.reduceAdd, Nat.reduceLT, Nat.reduceLeDiff, reduceCtorEq, List.map_cons, List.map_nil]
  refine hX.op _ _ rfl (opS_insert rfl rfl (by simp [go_sem, if_true, if_false, reduceIte, Nat.reduceEqDiff, Nat.reduceAdd, Nat.reduceLT, Nat.reduceLeDiff, reduceCtorEq]) m72 u3 (by simp [go_sem, if_true, if_false, reduceIte, Nat.reduceEqDiff, Nat.reduceAdd, Nat.reduceLT, Nat.reduceLeDiff, reduceCtorEq]) (by simp [go_sem, if_true, if_false, reduceIte, Nat.reduceEqDiff, Nat.reduceAdd, Nat.reduceLT, Nat.reduceLeDiff, reduceCtorEq]) (by simp [go_sem, if_true, if_false, reduceIte, Nat.reduceEqDiff, Nat.reduceAdd, Nat.reduceLT, Nat.reduceLeDiff, reduceCtorEq]) (by decide)) ?_
  simp only [go_sem, if_true, if_false, reduceIte, Nat.reduceEqDiff, Nat.reduceAdd, Nat.reduceLT, Nat.reduceLeDiff, reduceCtorEq, List.nil_append, List.cons_append]
  refine hX.quiet _ _ (OpG.of_B rfl (opB_buildSlice tab_ok rfl (by simp [go_sem, if_true, if_false, reduceIte, Nat.reduceEqDiff, Nat.reduceAdd, Nat.reduceLT, Nat.reduceLeDiff, reduceCtorEq]) (by simp [go_sem, if_true, if_false, reduceIte, Nat.reduceEqDiff, Nat.reduceAdd, Nat.reduceLT, Nat.reduceLeDiff, reduceCtorEq]) (by simp) (by simp [go_sem, if_true, if_false, reduceIte, Nat.reduceEqDiff, Nat.reduceAdd, Nat.reduceLT, Nat.reduceLeDiff, reduceCtorEq, bsO, List.map_cons, List.map_nil]))) ?_
  simp only [go_sem, if_true, if_false, reduceIte, Nat.reduceEqDiff, Nat.reduceAdd, Nat.reduceLT, Nat.reduceLeDiff, reduceCtorEq, List.map_cons, List.map_nil]
  refine hX.op _ _ rfl (opS_insert rfl rfl (by simp [go_sem, if_true, if_false, reduceIte, Nat.reduceEqDiff, Nat.reduceAdd, Nat.reduceLT, Nat.reduceLeDiff, reduceCtorEq]) m72 u3 (by simp [go_sem, if_true, if_false, reduceIte, Nat.reduceEqDiff, Nat.reduceAdd, Nat.reduceLT, Nat.reduceLeDiff, reduceCtorEq]) (by simp [go_sem, if_true, if_false, reduceIte, Nat.reduceEqDiff, Nat.reduceAdd, Nat.reduceLT, Nat.reduceLeDiff, reduceCtorEq]) (by simp [go_sem, if_true, if_false, reduceIte, Nat.reduceEqDiff, Nat.reduceAdd, Nat.reduceLT, Nat.reduceLeDiff, reduceCtorEq]) (by decide)) ?_
  simp only [go_sem, if_true, if_false, reduceIte, Nat.reduceEqDiff, Nat.reduceAdd, Nat.reduceLT, Nat.reduceLeDiff, reduceCtorEq, List.nil_append, List.cons_append]
  refine hX.quiet _ _ (OpG.of_B rfl (opB_buildSlice tab_ok rfl (by simp [go_sem, if_true, if_false, reduceIte, Nat.reduceEqDiff, Nat.reduceAdd, Nat.reduceLT, Nat.reduceLeDiff, reduceCtorEq]) (by simp [go_sem, if_true, if_false, reduceIte, Nat.reduceEqDiff, Nat.reduceAdd, Nat.reduceLT, Nat.reduceLeDiff, reduceCtorEq]) (by simp) (by simp [go_sem, if_true, if_false, reduceIte, Nat.reduceEqDiff, Nat.reduceAdd, Nat.reduceLT, Nat.reduceLeDiff, reduceCtorEq, bsO, List.map_cons, List.map_nil]))) ?_
  simp only [go_sem, if_true, if_false, reduceIte, Nat.reduceEqDiff, Nat.reduceAdd, Nat.reduceLT, Nat.reduceLeDiff, reduceCtorEq, List.map_cons, List.map_nil]
  refine hX.op _ _ rfl (opS_insert rfl rfl (by simp [go_sem, if_true, if_false, reduceIte, Nat.reduceEqDiff, Nat.reduceAdd, Nat.reduceLT, Nat.reduceLeDiff, reduceCtorEq]) m72 u3 (by simp [go_sem, if_true, if_false, reduceIte, Nat.reduceEqDiff, Nat.reduceAdd, Nat.reduceLT, Nat.reduceLeDiff, reduceCtorEq]) (by simp [go_sem, if_true, if_false, reduceIte, Nat.reduceEqDiff, Nat.reduceAdd, Nat.reduceLT, Nat.reduceLeDiff, reduceCtorEq]) (by simp [go_sem, if_true, if_false, reduceIte, Nat.reduceEqDiff, Nat.reduceAdd, Nat.reduceLT, Nat.reduceLeDiff, reduceCtorEq]) (by decide)) ?_
  simp only [go_sem, if_true, if_false, reduceIte, Nat.reduceEqDiff, Nat.reduceAdd, Nat.reduceLT, Nat.reduceLeDiff, reduceCtorEq, List.nil_append, List.cons_append]
  refine hX.quiet _ _ (OpG.of_B rfl (opB_buildSlice tab_ok rfl (by simp [go_sem, if_true, if_false, reduceIte, Nat.reduceEqDiff, Nat.reduceAdd, Nat.reduceLT, Nat.reduceLeDiff, reduceCtorEq]) (by simp [go_sem, if_true, if_false, reduceIte, Nat.reduceEqDiff, Nat.reduceAdd, Nat.reduceLT, Nat.reduceLeDiff, reduceCtorEq]) (by simp) (by simp [go_sem, if_true, if_false, reduceIte, Nat.reduceEqDiff, Nat.reduceAdd, Nat.reduceLT, Nat.reduceLeDiff, reduceCtorEq, bsO, List.map_cons, List.map_nil]))) ?_
  simp only [go_sem, if_true, if_false, reduceIte, Nat.reduceEqDiff, Nat.reduceAdd, Nat.reduceLT, Nat.reduceLeDiff, reduceCtorEq, List.map_cons, List.map_nil]
  refine hX.op _ _ rfl (opS_insert rfl rfl (by simp [go_sem, if_true, if_false, reduceIte, Nat.reduceEqDiff, Nat.reduceAdd, Nat.reduceLT, Nat.reduceLeDiff, reduceCtorEq]) m72 u3 (by simp [go_sem, if_true, if_false, reduceIte, Nat.reduceEqDiff, Nat.reduceAdd, Nat.reduceLT, Nat.reduceLeDiff, reduceCtorEq]) (by simp [go_sem, if_true, if_false, reduceIte, Nat.reduceEqDiff, Nat.reduceAdd, Nat.reduceLT, Nat.reduceLeDiff, reduceCtorEq]) (by simp [go_sem, if_true, if_false, reduceIte, Nat.reduceEqDiff, Nat.reduceAdd, Nat.reduceLT, Nat.reduceLeDiff, reduceCtorEq]) (by decide)) ?_
  simp only [go_sem, if_true, if_false, reduceIte, Nat.reduceEqDiff, Nat.reduceAdd, Nat.reduceLT, Nat.reduceLeDiff, reduceCtorEq, List.nil_append, List.cons_append]
  refine hX.quiet _ _ (OpG.of_B rfl (opB_buildSlice tab_ok rfl (by simp [go_sem, if_true, if_false, reduceIte, Nat.reduceEqDiff, Nat.reduceAdd, Nat.reduceLT, Nat.reduceLeDiff, reduceCtorEq]) (by simp [go_sem, if_true, if_false, reduceIte, Nat.reduceEqDiff, Nat.reduceAdd, Nat.reduceLT, Nat.reduceLeDiff, reduceCtorEq]) (by simp) (by simp [go_sem, if_true, if_false, reduceIte, Nat.reduceEqDiff, Nat.reduceAdd, Nat.reduceLT, Nat.reduceLeDiff, reduceCtorEq, bsO, List.map_cons, List.map_nil]))) ?_
  simp only [go_sem, if_true, if_false, reduceIte, Nat.reduceEqDiff, Nat.reduceAdd, Nat.reduceLT, Nat.reduceLeDiff, reduceCtorEq, List.map_cons, List.map_nil]
  refine hX.op _ _ rfl (opS_insert rfl rfl (by simp [go_sem, if_true, if_false, reduceIte, Nat.reduceEqDiff, Nat.reduceAdd, Nat.reduceLT, Nat.reduceLeDiff, reduceCtorEq]) m72 u3 (by simp [go_sem, if_true, if_false, reduceIte, Nat.reduceEqDiff, Nat.reduceAdd, Nat.reduceLT, Nat.reduceLeDiff, reduceCtorEq]) (by simp [go_sem, if_true, if_false, reduceIte, Nat.reduceEqDiff, Nat.reduceAdd, Nat.reduceLT, Nat.reduceLeDiff, reduceCtorEq]) (by simp [go_sem, if_true, if_false, reduceIte, Nat.reduceEqDiff, Nat.reduceAdd, Nat.reduceLT, Nat.reduceLeDiff, reduceCtorEq]) (by decide)) ?_
  simp only [go_sem, if_true, if_false, reduceIte, Nat.reduceEqDiff, Nat.reduceAdd, Nat.reduceLT, Nat.reduceLeDiff, reduceCtorEq, List.nil_append, List.cons_append]
  refine hX.quiet _ _ (OpG.of_B rfl (opB_buildSlice tab_ok rfl (by simp [go_sem, if_true, if_false, reduceIte, Nat.reduceEqDiff, Nat.reduceAdd, Nat.reduceLT, Nat.reduceLeDiff, reduceCtorEq]) (by simp [go_sem, if_true, if_false, reduceIte, Nat.reduceEqDiff, Nat.reduceAdd, Nat.reduceLT, Nat.reduceLeDiff, reduceCtorEq]) (by simp) (by simp [go_sem, if_true, if_false, reduceIte, Nat.reduceEqDiff, Nat.reduceAdd, Nat.reduceLT, Nat.reduceLeDiff, reduceCtorEq, bsO, List.map_cons, List.map_nil]))) ?_
  simp only [go_sem, if_true, if_false, reduceIte, Nat.reduceEqDiff, Nat.reduceAdd, Nat.reduceLT, Nat.reduceLeDiff, reduceCtorEq, List.map_cons, List.map_nil]
  refine hX.op _ _ rfl (opS_insert rfl rfl (by simp [go_sem, if_true, if_false, reduceIte, Nat.reduceEqDiff, Nat.reduceAdd, Nat.reduceLT, Nat.reduceLeDiff, reduceCtorEq]) m72 u3 (by simp [go_sem, if_true, if_false, reduceIte, Nat.reduceEqDiff, Nat.reduceAdd, Nat.reduceLT, Nat.reduceLeDiff, reduceCtorEq]) (by simp [go_sem, if_true, if_false, reduceIte, Nat.reduceEqDiff, Nat.reduceAdd, Nat.reduceLT, Nat.reduceLeDiff, reduceCtorEq]) (by simp [go_sem, if_true, if_false, reduceIte, Nat.reduceEqDiff, Nat.reduceAdd, Nat.reduceLT, Nat.reduceLeDiff, reduceCtorEq]) (by decide)) ?_
  simp only [go_sem, if_true, if_false, reduceIte, Nat.reduceEqDiff, Nat.reduceAdd, Nat.reduceLT, Nat.reduceLeDiff, reduceCtorEq, List.nil_append, List.cons_append]
  refine hX.quiet _ _ (OpG.of_B rfl (opB_buildSlice tab_ok rfl (by simp [go_sem, if_true, if_false, reduceIte, Nat.reduceEqDiff, Nat.reduceAdd, Nat.reduceLT, Nat.reduceLeDiff, reduceCtorEq]) (by simp [go_sem, if_true, if_false, reduceIte, Nat.reduceEqDiff, Nat.reduceAdd, Nat.reduceLT, Nat.reduceLeDiff, reduceCtorEq]) (by simp) (by simp [go_sem, if_true, if_false, reduceIte, Nat.reduceEqDiff, Nat.reduceAdd, Nat.reduceLT, Nat.reduceLeDiff, reduceCtorEq, bsO, List.map_cons, List.map_nil]))) ?_
  simp only [go_sem, if_true, if_false, reduceIte, Nat.reduceEqDiff, Nat.reduceAdd, Nat.reduceLT, Nat.reduceLeDiff, reduceCtorEq, List.map_cons, List.map_nil]
  refine hX.op _ _ rfl (opS_insert rfl rfl (by simp [go_sem, if_true, if_false, reduceIte, Nat.reduceEqDiff, Nat.reduceAdd, Nat.reduceLT, Nat.reduceLeDiff, reduceCtorEq]) m72 u3 (by simp [go_sem, if_true, if_false, reduceIte, Nat.reduceEqDiff, Nat.reduceAdd, Nat.reduceLT, Nat.reduceLeDiff, reduceCtorEq]) (by simp [go_sem, if_true, if_false, reduceIte, Nat.reduceEqDiff, Nat.reduceAdd, Nat.reduceLT, Nat.reduceLeDiff, reduceCtorEq]) (by simp [go_sem, if_true, if_false, reduceIte, Nat.reduceEqDiff, Nat.reduceAdd, Nat.reduceLT, Nat.reduceLeDiff, reduceCtorEq]) (by decide)) ?_
  simp only [go_sem, if_true, if_false, reduceIte, Nat.reduceEqDiff, Nat.reduceAdd, Nat.reduceLT, Nat.reduceLeDiff, reduceCtorEq, List.nil_append, List.cons_append]
  refine hX.quiet _ _ (OpG.of_B rfl (opB_buildSlice tab_ok rfl (by simp [go_sem, if_true, if_false, reduceIte, Nat.reduceEqDiff, Nat.reduceAdd, Nat.reduceLT, Nat.reduceLeDiff, reduceCtorEq]) (by simp [go_sem, if_true, if_false, reduceIte, Nat.reduceEqDiff, Nat.reduceAdd, Nat.reduceLT, Nat.reduceLeDiff, reduceCtorEq]) (by simp) (by simp [go_sem, if_true, if_false, reduceIte, Nat.reduceEqDiff, Nat.reduceAdd, Nat.reduceLT, Nat.reduceLeDiff, reduceCtorEq, bsO, List.map_cons, List.map_nil]))) ?_
  simp only [go_sem, if_true, if_false, reduceIte, Nat.reduceEqDiff, Nat.reduceAdd, Nat.reduceLT, Nat.reduceLeDiff, reduceCtorEq, List.map_cons, List.map_nil]
  refine hX.op _ _ rfl (opS_insert rfl rfl (by simp [go_sem, if_true, if_false, reduceIte, Nat.reduceEqDiff, Nat.reduceAdd, Nat.reduceLT, Nat.reduceLeDiff, reduceCtorEq]) m72 u3 (by simp [go_sem, if_true, if_false, reduceIte, Nat.reduceEqDiff, Nat.reduceAdd, Nat.reduceLT, Nat.reduceLeDiff, reduceCtorEq]) (by simp [go_sem, if_true, if_false, reduceIte, Nat.reduceEqDiff, Nat.reduceAdd, Nat.reduceLT, Nat.reduceLeDiff, reduceCtorEq]) (by simp [go_sem, if_true, if_false, reduceIte, Nat.reduceEqDiff, Nat.reduceAdd, Nat.reduceLT, Nat.reduceLeDiff, reduceCtorEq]) (by decide)) ?_
  simp only [go_sem, if_true, if_false, reduceIte, Nat.reduceEqDiff, Nat.reduceAdd, Nat.reduceLT, Nat.reduceLeDiff, reduceCtorEq, List.nil_append, List.cons_append]
  refine hX.quiet _ _ (OpG.of_B rfl (opB_buildSlice tab_ok rfl (by simp [go_sem, if_true, if_false, reduceIte, Nat.reduceEqDiff, Nat.reduceAdd, Nat.reduceLT, Nat.reduceLeDiff, reduceCtorEq]) (by simp [go_sem, if_true, if_false, reduceIte, Nat.reduceEqDiff, Nat.reduceAdd, Nat.reduceLT, Nat.reduceLeDiff, reduceCtorEq]) (by simp) (by simp [go_sem, if_true, if_false, reduceIte, Nat.reduceEqDiff, Nat.reduceAdd, Nat.reduceLT, Nat.reduceLeDiff, reduceCtorEq, bsO, List.map_cons, List.map_nil]))) ?_
  simp only [go_sem, if_true, if_false, reduceIte, Nat.reduceEqDiff, Nat.reduceAdd, Nat.reduceLT, Nat.reduceLeDiff, reduceCtorEq, List.map_cons, List.map_nil]
  refine hX.op _ _ rfl (opS_insert rfl rfl (by simp [go_sem, if_true, if_false, reduceIte, Nat.reduceEqDiff, Nat.reduceAdd, Nat.reduceLT, Nat.reduceLeDiff, reduceCtorEq]) m72 u3 (by simp [go_sem, if_true, if_false, reduceIte, Nat.reduceEqDiff, Nat.reduceAdd, Nat.reduceLT, Nat.reduceLeDiff, reduceCtorEq]) (by simp [go_sem, if_true, if_false, reduceIte, Nat.reduceEqDiff, Nat.reduceAdd, Nat.reduceLT, Nat.reduceLeDiff, reduceCtorEq]) (by simp [go_sem, if_true, if_false, reduceIte, Nat.reduceEqDiff, Nat.reduceAdd, Nat.reduceLT, Nat.reduceLeDiff, reduceCtorEq]) (by decide)) ?_
  simp only [go_sem, if_true, if_false, reduceIte, Nat.reduceEqDiff, Nat.reduceAdd, Nat.reduceLT, Nat.reduceLeDiff, reduceCtorEq, List.nil_append, List.cons_append]
  refine hX.quiet _ _ (OpG.of_B rfl (opB_buildSlice tab_ok rfl (by simp [go_sem, if_true, if_false, reduceIte, Nat.reduceEqDiff, Nat.reduceAdd, Nat.reduceLT, Nat.reduceLeDiff, reduceCtorEq]) (by simp [go_sem, if_true, if_false, reduceIte, Nat.reduceEqDiff, Nat.reduceAdd, Nat.reduceLT, Nat.reduceLeDiff, reduceCtorEq]) (by simp) (by simp [go_sem, if_true, if_false, reduceIte, Nat.reduceEqDiff, Nat.reduceAdd, Nat.reduceLT, Nat.reduceLeDiff, reduceCtorEq, bsO, List.map_cons, List.map_nil]))) ?_
  simp only [go_sem, if_true, if_false, reduceIte, Nat.reduceEqDiff, Nat.reduceAdd, Nat.reduceLT, Nat.reduceLeDiff, reduceCtorEq, List.map_cons, List.map_nil]
  refine hX.op _ _ rfl (opS_insert rfl rfl (by simp [go_sem, if_true, if_false, reduceIte, Nat.reduceEqDiff, Nat.reduceAdd, Nat.reduceLT, Nat.reduceLeDiff, reduceCtorEq]) m72 u3 (by simp [go_sem, if_true, if_false, reduceIte, Nat.reduceEqDiff, Nat.reduceAdd, Nat.reduceLT, Nat.reduceLeDiff, reduceCtorEq]) (by simp [go_sem, if_true, if_false, reduceIte, Nat.reduceEqDiff, Nat.reduceAdd, Nat.reduceLT, Nat.reduceLeDiff, reduceCtorEq]) (by simp [go_sem, if_true, if_false, reduceIte, Nat.reduceEqDiff, Nat.reduceAdd, Nat.reduceLT, Nat.reduceLeDiff, reduceCtorEq]) (by decide)) ?_
  simp only [go_sem, if_true, if_false, reduceIte, Nat.reduceEqDiff, Nat.reduceAdd, Nat.reduceLT, Nat.reduceLeDiff, reduceCtorEq, List.nil_append, List.cons_append]
  refine hX.quiet _ _ (OpG.of_B rfl (opB_buildSlice tab_ok rfl (by simp [go_sem, if_true, if_false, reduceIte, Nat.reduceEqDiff, Nat.reduceAdd, Nat.reduceLT, Nat.reduceLeDiff, reduceCtorEq]) (by simp [go_sem, if_true, if_false, reduceIte, Nat.reduceEqDiff, Nat.reduceAdd, Nat.reduceLT, Nat.reduceLeDiff, reduceCtorEq]) (by simp) (by simp [go_sem, if_true, if_false, reduceIte, Nat.reduceEqDiff, Nat.reduceAdd, Nat.reduceLT, Nat.reduceLeDiff, reduceCtorEq, bsO, List.map_cons, List.map_nil]))) ?_
  simp only [go_sem, if_true, if_false, reduceIte, Nat.reduceEqDiff, Nat.reduceAdd, Nat.reduceLT, Nat.reduceLeDiff, reduceCtorEq, List.map_cons, List.map_nil]
  refine hX.op _ _ rfl (opS_insert rfl rfl (by simp [go_sem, if_true, if_false, reduceIte, Nat.reduceEqDiff, Nat.reduceAdd, Nat.reduceLT, Nat.reduceLeDiff, reduceCtorEq]) m72 u3 (by simp [go_sem, if_true, if_false, reduceIte, Nat.reduceEqDiff, Nat.reduceAdd, Nat.reduceLT, Nat.reduceLeDiff, reduceCtorEq]) (by simp [go_sem, if_true, if_false, reduceIte, Nat.reduceEqDiff, Nat.reduceAdd, Nat.reduceLT, Nat.reduceLeDiff, reduceCtorEq]) (by simp [go_sem, if_true, if_false, reduceIte, Nat.reduceEqDiff, Nat.reduceAdd, Nat.reduceLT, Nat.reduceLeDiff, reduceCtorEq]) (by decide)) ?_
  simp only [go_sem, if_true, if_false, reduceIte, Nat.reduceEqDiff, Nat.reduceAdd, Nat.reduceLT, Nat.reduceLeDiff, reduceCtorEq, List.nil_append, List.cons_append]
  refine hX.quiet _ _ (OpG.of_B rfl (opB_buildSlice tab_ok rfl (by simp [go_sem, if_true, if_false, reduceIte, Nat.reduceEqDiff, Nat.reduceAdd, Nat.reduceLT, Nat.reduceLeDiff, reduceCtorEq]) (by simp [go_sem, if_true, if_false, reduceIte, Nat.reduceEqDiff, Nat.reduceAdd, Nat.reduceLT, Nat.reduceLeDiff, reduceCtorEq]) (by simp) (by simp [go_sem, if_true, if_false, reduceIte, Nat.reduceEqDiff, Nat.reduceAdd, Nat.reduceLT, Nat.reduceLeDiff, reduceCtorEq, bsO, List.map_cons, List.map_nil]))) ?_
  simp only [go_sem, if_true, if_false, reduceIte, Nat.reduceEqDiff, Nat.reduceAdd, Nat.reduceLT, Nat.reduceLeDiff, reduceCtorEq, List.map_cons, List.map_nil]
  refine hX.op _ _ rfl (opS_insert rfl rfl (by simp [go_sem, if_true, if_false, reduceIte, Nat.reduceEqDiff, Nat.reduceAdd, Nat.reduceLT, Nat.reduceLeDiff, reduceCtorEq]) m72 u3 (by simp [go_sem, if_true, if_false, reduceIte, Nat.reduceEqDiff, Nat.reduceAdd, Nat.reduceLT, Nat.reduceLeDiff, reduceCtorEq]) (by simp [go_sem, if_true, if_false, reduceIte, Nat.reduceEqDiff, Nat.reduceAdd, Nat.reduceLT, Nat.reduceLeDiff, reduceCtorEq]) (by simp [go_sem, if_true, if_false, reduceIte, Nat.reduceEqDiff, Nat.reduceAdd, Nat.reduceLT, Nat.reduceLeDiff, reduceCtorEq]) (by decide)) ?_
  simp only [go_sem, if_true, if_false, reduceIte, Nat.reduceEqDiff, Nat.reduceAdd, Nat.reduceLT, Nat.reduceLeDiff, reduceCtorEq, List.nil_append, List.cons_append]
  refine hX.quiet _ _ (OpG.of_B rfl (opB_buildSlice tab_ok rfl (by simp [go_sem, if_true, if_false, reduceIte, Nat.reduceEqDiff, Nat.reduceAdd, Nat.reduceLT, Nat.reduceLeDiff, reduceCtorEq]) (by simp [go_sem, if_true, if_false, reduceIte, Nat.reduceEqDiff, Nat.reduceAdd, Nat.reduceLT, Nat.reduceLeDiff, reduceCtorEq]) (by simp) (by simp [go_sem, if_true, if_false, reduceIte, Nat.reduceEqDiff, Nat.reduceAdd, Nat.reduceLT, Nat.reduceLeDiff, reduceCtorEq, bsO, List.map_cons, List.map_nil]))) ?_
  simp only [go_sem, if_true, if_false, reduceIte, Nat.reduceEqDiff, Nat.reduceAdd, Nat.reduceLT, Nat.reduceLeDiff, reduceCtorEq, List.map_cons, List.map_nil]
  refine hX.op _ _ rfl (opS_insert rfl rfl (by simp [go_sem, if_true, if_false, reduceIte, Nat.reduceEqDiff, Nat.reduceAdd, Nat.reduceLT, Nat.reduceLeDiff, reduceCtorEq]) m72 u3 (by simp [go_sem, if_true, if_false, reduceIte, Nat.reduceEqDiff, Nat.reduceAdd, Nat.reduceLT, Nat.reduceLeDiff, reduceCtorEq]) (by simp [go_sem, if_true, if_false, reduceIte, Nat.reduceEqDiff, Nat.reduceAdd, Nat.reduceLT, Nat.reduceLeDiff, reduceCtorEq]) (by simp [go_sem, if_true, if_false, reduceIte, Nat.reduceEqDiff, Nat.reduceAdd, Nat.reduceLT, Nat.reduceLeDiff, reduceCtorEq]) (by decide)) ?_
  simp only [go_sem, if_true, if_false, reduceIte, Nat.reduceEqDiff, Nat.reduceAdd, Nat.reduceLT, Nat.reduceLeDiff, reduceCtorEq, List.nil_append, List.cons_append]
  refine hX.quiet _ _ (OpG.of_B rfl (opB_buildSlice tab_ok rfl (by simp [go_sem, if_true, if_false, reduceIte, Nat.reduceEqDiff, Nat.reduceAdd, Nat.reduceLT, Nat.reduceLeDiff, reduceCtorEq]) (by simp [go_sem, if_true, if_false, reduceIte, Nat.reduceEqDiff, Nat.reduceAdd, Nat.reduceLT, Nat.reduceLeDiff, reduceCtorEq]) (by simp) (by simp [go_sem, if_true, if_false, reduceIte, Nat.reduceEqDiff, Nat.reduceAdd, Nat.reduceLT, Nat.reduceLeDiff, reduceCtorEq, bsO, List.map_cons, List.map_nil]))) ?_
  simp only [go_sem, if_true, if_false, reduceIte, Nat.reduceEqDiff, Nat.reduceAdd, Nat.reduceLT, Nat.reduceLeDiff, reduceCtorEq, List.map_cons, List.map_nil]
  refine hX.op _ _ rfl (opS_insert rfl rfl (by simp [go_sem, if_true, if_false, reduceIte, Nat.reduceEqDiff, Nat.reduceAdd, Nat.reduceLT, Nat.reduceLeDiff, reduceCtorEq]) m72 u3 (by simp [go_sem, if_true, if_false, reduceIte, Nat.reduceEqDiff, Nat.reduceAdd, Nat.reduceLT, Nat.reduceLeDiff, reduceCtorEq]) (by simp [go_sem, if_true, if_false, reduceIte, Nat.reduceEqDiff, Nat.reduceAdd, Nat.reduceLT, Nat.reduceLeDiff, reduceCtorEq]) (by simp [go_sem, if_true, if_false, reduceIte, Nat.reduceEqDiff, Nat.reduceAdd, Nat.reduceLT, Nat.reduceLeDiff, reduceCtorEq]) (by decide)) ?_
  simp only [go_sem, if_true, if_false, reduceIte, Nat.reduceEqDiff, Nat.reduceAdd, Nat.reduceLT, Nat.reduceLeDiff, reduceCtorEq, List.nil_append, List.cons_append]
  refine hX.quiet _ _ (OpG.of_B rfl (opB_buildSlice tab_ok rfl (by simp [go_sem, if_true, if_false, reduceIte, Nat.reduceEqDiff, Nat.reduceAdd, Nat.reduceLT, Nat.reduceLeDiff, reduceCtorEq]) (by simp [go_sem, if_true, if_false, reduceIte, Nat.reduceEqDiff, Nat.reduceAdd, Nat.reduceLT, Nat.reduceLeDiff, reduceCtorEq]) (by simp) (by simp [go_sem, if_true, if_false, reduceIte, Nat.reduceEqDiff, Nat.reduceAdd, Nat.reduceLT, Nat.reduceLeDiff, reduceCtorEq, bsO, List.map_cons, List.map_nil]))) ?_
  simp only [go_sem, if_true, if_false, reduceIte, Nat.reduceEqDiff, Nat.reduceAdd, Nat.reduceLT, Nat.reduceLeDiff, reduceCtorEq, List.map_cons, List.map_nil]
  refine hX.op _ _ rfl (opS_insert rfl rfl (by simp [go_sem, if_true, if_false, reduceIte, Nat.reduceEqDiff, Nat.reduceAdd, Nat.reduceLT, Nat.reduceLeDiff, reduceCtorEq]) m72 u3 (by simp [go_sem, if_true, if_false, reduceIte, Nat.reduceEqDiff, Nat.reduceAdd, Nat.reduceLT, Nat.reduceLeDiff, reduceCtorEq]) (by simp [go_sem, if_true, if_false, reduceIte, Nat.reduceEqDiff, Nat.reduceAdd, Nat.reduceLT, Nat.reduceLeDiff, reduceCtorEq]) (by simp [go_sem, if_true, if_false, reduceIte, Nat.reduceEqDiff, Nat.reduceAdd, Nat.reduceLT, Nat.reduceLeDiff, reduceCtorEq]) (by decide)) ?_
  simp only [go_sem, if_true, if_false, reduceIte, Nat.reduceEqDiff, Nat.reduceAdd, Nat.reduceLT, Nat.reduceLeDiff, reduceCtorEq, List.nil_append, List.cons_append]
  refine hK _ _ ?_; clear hX hK X K
  show IW _ _ _ _ _ _ _ _
  refine IW.ret (fin_map rfl rfl rfl rfl ⟨rfl, rfl, rfl, rfl, rfl, rfl, rfl, rfl, rfl, rfl, rfl, rfl, rfl, rfl, rfl, rfl, rfl, rfl, rfl, rfl, rfl, rfl, rfl, rfl, rfl, rfl, rfl, trivial⟩)

theorem fDraw8 : FSpec Try.prog 49 [.int .i64 8] (mapC drw8) [] := by
  have h8 := dr_freeze fLetters
  refine FSpec.intro tab_ok Try.func49 rfl rfl rfl (by kernel_rfl) (by simp) fun w0 => ?_
  simp only [argTM, Nat.zero_add, Nat.reduceAdd]
  repeat refine IW.seq ?_
  refine IW.region_seq tab_ok [some 2] rfl fun X K hX hK => ?_
  simp only [go_sem, if_true, if_false, reduceIte, Nat.reduceEqDiff, Nat.reduceAdd, Nat.reduceLT, Nat.reduceLeDiff, reduceCtorEq]
  refine hK _ _ ?_; clear hX hK X K
  show IW _ _ _ _ _ _ _ _
  repeat refine IW.seq ?_
  refine IW.region_seq tab_ok [some 3] rfl fun X K hX hK => ?_
  simp only [go_sem, if_true, if_false, reduceIte, Nat.reduceEqDiff, Nat.reduceAdd, Nat.reduceLT, Nat.reduceLeDiff, reduceCtorEq]
  refine hK _ _ ?_; clear hX hK X K
  show IW _ _ _ _ _ _ _ _
  repeat refine IW.seq ?_
  refine IW.block ?_
  repeat refine IW.seq ?_
  refine IW.region_seq tab_ok [some 5, some 4] rfl fun X K hX hK => ?_
  simp only [go_sem, if_true, if_false, reduceIte, Nat.reduceEqDiff, Nat.reduceAdd, Nat.reduceLT, Nat.reduceLeDiff, reduceCtorEq]
  refine hK _ _ ?_; clear hX hK X K
  show IW _ _ _ _ _ _ _ _
  repeat refine IW.seq ?_
  refine IW.cond rfl (fun hb => absurd hb (by decide)) (fun hb => ?_)
  repeat refine IW.seq ?_
  refine IW.region_seq tab_ok [some 12, some 11] rfl fun X K hX hK => ?_
  simp only [go_sem, if_true, if_false, reduceIte, Nat.reduceEqDiff, Nat.reduceAdd, Nat.reduceLT, Nat.reduceLeDiff, reduceCtorEq]
  refine hK _ _ ?_; clear hX hK X K
  show IW _ _ _ _ _ _ _ _
  repeat refine IW.seq ?_
  refine IW.cond rfl (fun hb => absurd hb (by decide)) (fun hb => ?_)
  repeat refine IW.seq ?_
  refine IW.region_seq tab_ok [some 19, some 18] rfl fun X K hX hK => ?_
  simp only [go_sem, if_true, if_false, reduceIte, Nat.reduceEqDiff, Nat.reduceAdd, Nat.reduceLT, Nat.reduceLeDiff, reduceCtorEq]
  refine hK _ _ ?_; clear hX hK X K
  show IW _ _ _ _ _ _ _ _
  repeat refine IW.seq ?_
  refine IW.cond rfl (fun hb => absurd hb (by decide)) (fun hb => ?_)
  repeat refine IW.seq ?_
  refine IW.region_seq tab_ok [some 24, some 23] rfl fun X K hX hK => ?_
  simp only [go_sem, if_true, if_false, reduceIte, Nat.reduceEqDiff, Nat.reduceAdd, Nat.reduceLT, Nat.reduceLeDiff, reduceCtorEq]
  refine hK _ _ ?_; clear hX hK X K
  show IW _ _ _ _ _ _ _ _
  repeat refine IW.seq ?_
  refine IW.cond rfl (fun hb => absurd hb (by decide)) (fun hb => ?_)
  repeat refine IW.seq ?_
  refine IW.region_seq tab_ok [some 29, some 28] rfl fun X K hX hK => ?_
  simp only [go_sem, if_true, if_false, reduceIte, Nat.reduceEqDiff, Nat.reduceAdd, Nat.reduceLT, Nat.reduceLeDiff, reduceCtorEq]
  refine hK _ _ ?_; clear hX hK X K
  show IW _ _ _ _ _ _ _ _
  repeat refine IW.seq ?_
  refine IW.cond rfl (fun hb => absurd hb (by decide)) (fun hb => ?_)
  repeat refine IW.seq ?_
  refine IW.region_seq tab_ok [some 38, some 37] rfl fun X K hX hK => ?_
  simp only [go_sem, if_true, if_false, reduceIte, Nat.reduceEqDiff, Nat.reduceAdd, Nat.reduceLT, Nat.reduceLeDiff, reduceCtorEq]
  refine hK _ _ ?_; clear hX hK X K
  show IW _ _ _ _ _ _ _ _
  repeat refine IW.seq ?_
  refine IW.cond rfl (fun hb => absurd hb (by decide)) (fun hb => ?_)
  repeat refine IW.seq ?_
  refine IW.region_seq tab_ok [some 45, some 44] rfl fun X K hX hK => ?_
  simp only [go_sem, if_true, if_false, reduceIte, Nat.reduceEqDiff, Nat.reduceAdd, Nat.reduceLT, Nat.reduceLeDiff, reduceCtorEq]
  refine hK _ _ ?_; clear hX hK X K
  show IW _ _ _ _ _ _ _ _
  repeat refine IW.seq ?_
  refine IW.cond rfl (fun hb => absurd hb (by decide)) (fun hb => ?_)
  repeat refine IW.seq ?_
  refine IW.region_seq tab_ok [some 58, some 57] rfl fun X K hX hK => ?_
  simp only [go_sem, if_true, if_false, reduceIte, Nat.reduceEqDiff, Nat.reduceAdd, Nat.reduceLT, Nat.reduceLeDiff, reduceCtorEq]
  refine hK _ _ ?_; clear hX hK X K
  show IW _ _ _ _ _ _ _ _
  repeat refine IW.seq ?_
  refine IW.cond rfl (fun hb => ?_) (fun hb => absurd hb (by decide))
  repeat refine IW.seq ?_
  refine IW.region_seq tab_ok [some 59, some 2] rfl fun X K hX hK => ?_
  simp only [go_sem, if_true, if_false, reduceIte, Nat.reduceEqDiff, Nat.reduceAdd, Nat.reduceLT, Nat.reduceLeDiff, reduceCtorEq]
  refine hX.quiet _ _ (OpG.of_B rfl (opB_call rfl rfl h8)) ?_
  simp only [go_sem, if_true, if_false, reduceIte, Nat.reduceEqDiff, Nat.reduceAdd, Nat.reduceLT, Nat.reduceLeDiff, reduceCtorEq]
  refine hK _ _ ?_; clear hX hK X K
  show IW _ _ _ _ _ _ _ _
  refine IW.ret (Fin.scal rfl rfl rfl)
/-- Of another set there is none. -/
theorem fDrawNone (s : Int) (h : ∀ k : Int, 1 ≤ k → k ≤ 10 → s ≠ k) : FSpec Try.prog 49 [.int .i64 s] (.raw (.map none)) [] := by
  refine FSpec.intro tab_ok Try.func49 rfl rfl rfl (by kernel_rfl) (by simp) fun w0 => ?_
  simp only [argTM, Nat.zero_add, Nat.reduceAdd]
  repeat refine IW.seq ?_
  refine IW.region_seq tab_ok [some 2] rfl fun X K hX hK => ?_
  simp only [go_sem, if_true, if_false, reduceIte, Nat.reduceEqDiff, Nat.reduceAdd, Nat.reduceLT, Nat.reduceLeDiff, reduceCtorEq]
  refine hK _ _ ?_; clear hX hK X K
  show IW _ _ _ _ _ _ _ _
  repeat refine IW.seq ?_
  refine IW.region_seq tab_ok [some 3] rfl fun X K hX hK => ?_
  simp only [go_sem, if_true, if_false, reduceIte, Nat.reduceEqDiff, Nat.reduceAdd, Nat.reduceLT, Nat.reduceLeDiff, reduceCtorEq]
  refine hK _ _ ?_; clear hX hK X K
  show IW _ _ _ _ _ _ _ _
  repeat refine IW.seq ?_
  refine IW.block ?_
  have n1 : (s == 1) = false := by simpa using h 1 (by omega) (by omega)
  repeat refine IW.seq ?_
  refine IW.region_seq tab_ok [some 5, some 4] rfl fun X K hX hK => ?_
  simp only [go_sem, if_true, if_false, reduceIte, Nat.reduceEqDiff, Nat.reduceAdd, Nat.reduceLT, Nat.reduceLeDiff, reduceCtorEq, n1]
  refine hK _ _ ?_; clear hX hK X K
  show IW _ _ _ _ _ _ _ _
  repeat refine IW.seq ?_
  refine IW.cond rfl (fun hb => absurd hb (by decide)) (fun hb => ?_)
  have n2 : (s == 2) = false := by simpa using h 2 (by omega) (by omega)
  repeat refine IW.seq ?_
  refine IW.region_seq tab_ok [some 12, some 11] rfl fun X K hX hK => ?_
  simp only [go_sem, if_true, if_false, reduceIte, Nat.reduceEqDiff, Nat.reduceAdd, Nat.reduceLT, Nat.reduceLeDiff, reduceCtorEq, n2]
  refine hK _ _ ?_; clear hX hK X K
  show IW _ _ _ _ _ _ _ _
  repeat refine IW.seq ?_
  refine IW.cond rfl (fun hb => absurd hb (by decide)) (fun hb => ?_)
  have n3 : (s == 3) = false := by simpa using h 3 (by omega) (by omega)
  repeat refine IW.seq ?_
  refine IW.region_seq tab_ok [some 19, some 18] rfl fun X K hX hK => ?_
  simp only [go_sem, if_true, if_false, reduceIte, Nat.reduceEqDiff, Nat.reduceAdd, Nat.reduceLT, Nat.reduceLeDiff, reduceCtorEq, n3]
  refine hK _ _ ?_; clear hX hK X K
  show IW _ _ _ _ _ _ _ _
  repeat refine IW.seq ?_
  refine IW.cond rfl (fun hb => absurd hb (by decide)) (fun hb => ?_)
  have n4 : (s == 4) = false := by simpa using h 4 (by omega) (by omega)
  repeat refine IW.seq ?_
  refine IW.region_seq tab_ok [some 24, some 23] rfl fun X K hX hK => ?_
  simp only [go_sem, if_true, if_false, reduceIte, Nat.reduceEqDiff, Nat.reduceAdd, Nat.reduceLT, Nat.reduceLeDiff, reduceCtorEq, n4]
  refine hK _ _ ?_; clear hX hK X K
  show IW _ _ _ _ _ _ _ _
  repeat refine IW.seq ?_
  refine IW.cond rfl (fun hb => absurd hb (by decide)) (fun hb => ?_)
  have n5 : (s == 5) = false := by simpa using h 5 (by omega) (by omega)
  repeat refine IW.seq ?_
  refine IW.region_seq tab_ok [some 29, some 28] rfl fun X K hX hK => ?_
  simp only [go_sem, if_true, if_false, reduceIte, Nat.reduceEqDiff, Nat.reduceAdd, Nat.reduceLT, Nat.reduceLeDiff, reduceCtorEq, n5]
  refine hK _ _ ?_; clear hX hK X K
  show IW _ _ _ _ _ _ _ _
  repeat refine IW.seq ?_
  refine IW.cond rfl (fun hb => absurd hb (by decide)) (fun hb => ?_)
  have n6 : (s == 6) = false := by simpa using h 6 (by omega) (by omega)
  repeat refine IW.seq ?_
  refine IW.region_seq tab_ok [some 38, some 37] rfl fun X K hX hK => ?_
  simp only [go_sem, if_true, if_false, reduceIte, Nat.reduceEqDiff, Nat.reduceAdd, Nat.reduceLT, Nat.reduceLeDiff, reduceCtorEq, n6]
  refine hK _ _ ?_; clear hX hK X K
  show IW _ _ _ _ _ _ _ _
  repeat refine IW.seq ?_
  refine IW.cond rfl (fun hb => absurd hb (by decide)) (fun hb => ?_)
  have n7 : (s == 7) = false := by simpa using h 7 (by omega) (by omega)
  repeat refine IW.seq ?_
  refine IW.region_seq tab_ok [some 45, some 44] rfl fun X K hX hK => ?_
  simp only [go_sem, if_true, if_false, reduceIte, Nat.reduceEqDiff, Nat.reduceAdd, Nat.reduceLT, Nat.reduceLeDiff, reduceCtorEq, n7]
  refine hK _ _ ?_; clear hX hK X K
  show IW _ _ _ _ _ _ _ _
  repeat refine IW.seq ?_
  refine IW.cond rfl (fun hb => absurd hb (by decide)) (fun hb => ?_)
  have n8 : (s == 8) = false := by simpa using h 8 (by omega) (by omega)
  repeat refine IW.seq ?_
  refine IW.region_seq tab_ok [some 58, some 57] rfl fun X K hX hK => ?_
  simp only [go_sem, if_true, if_false, reduceIte, Nat.reduceEqDiff, Nat.reduceAdd, Nat.reduceLT, Nat.reduceLeDiff, reduceCtorEq, n8]
  refine hK _ _ ?_; clear hX hK X K
  show IW _ _ _ _ _ _ _ _
  repeat refine IW.seq ?_
  refine IW.cond rfl (fun hb => absurd hb (by decide)) (fun hb => ?_)
  have n10 : (s == 10) = false := by simpa using h 10 (by omega) (by omega)
  repeat refine IW.seq ?_
  refine IW.region_seq tab_ok [some 61, some 60] rfl fun X K hX hK => ?_
  simp only [go_sem, if_true, if_false, reduceIte, Nat.reduceEqDiff, Nat.reduceAdd, Nat.reduceLT, Nat.reduceLeDiff, reduceCtorEq, n10]
  refine hK _ _ ?_; clear hX hK X K
  show IW _ _ _ _ _ _ _ _
  repeat refine IW.seq ?_
  refine IW.cond rfl (fun hb => absurd hb (by decide)) (fun hb => ?_)
  have n9 : (s == 9) = false := by simpa using h 9 (by omega) (by omega)
  repeat refine IW.seq ?_
  refine IW.region_seq tab_ok [some 66, some 65] rfl fun X K hX hK => ?_
  simp only [go_sem, if_true, if_false, reduceIte, Nat.reduceEqDiff, Nat.reduceAdd, Nat.reduceLT, Nat.reduceLeDiff, reduceCtorEq, n9]
  refine hK _ _ ?_; clear hX hK X K
  show IW _ _ _ _ _ _ _ _
  repeat refine IW.seq ?_
  refine IW.cond rfl (fun hb => absurd hb (by decide)) (fun hb => ?_)
  refine IW.skip ?_
  show IW _ _ _ _ _ _ _ _
  repeat refine IW.seq ?_
  refine IW.region_seq tab_ok [some 2] rfl fun X K hX hK => ?_
  simp only [go_sem, if_true, if_false, reduceIte, Nat.reduceEqDiff, Nat.reduceAdd, Nat.reduceLT, Nat.reduceLeDiff, reduceCtorEq]
  refine hK _ _ ?_; clear hX hK X K
  show IW _ _ _ _ _ _ _ _
  refine IW.ret (Fin.scal rfl rfl rfl)
/-- The drawings of the sets but the ninth. -/
def drw : Int → Option (List (Int × List ByteArray))
  | 1 => some drw1 | 2 => some drw2 | 3 => some drw3 | 4 => some drw4 | 5 => some drw5 | 6 => some drw6 | 7 => some drw7 | 8 => some drw8 | 10 => some drw10
  | _ => none
theorem fDrw {s : Int} {d : List (Int × List ByteArray)} (h : drw s = some d) : FSpec Try.prog 49 [.int .i64 s] (mapC d) [] := by
  unfold drw at h
  split at h <;> cases h
  · exact dr_freeze fDraw1
  · exact dr_freeze fDraw2
  · exact dr_freeze fDraw3
  · exact dr_freeze fDraw4
  · exact dr_freeze fDraw5
  · exact dr_freeze fDraw6
  · exact dr_freeze fDraw7
  · exact fDraw8
  · exact dr_freeze fDraw10
end Go.Proofs.Ytnbpbehlemaeoaa

set_option linter.unusedVariables false
set_option linter.unusedSimpArgs false
set_option maxRecDepth 10000
namespace Go.Proofs.Ytnbpbehlemaeoaa
open Go.IL
theorem mapX_keysI : ∀ d : List (Int × List ByteArray), keysI (mapX d) = true
  | [] => rfl
  | e :: d => by show keysI ([.int .i64 e.1, _] :: mapX d) = true; simp only [keysI]; exact mapX_keysI d
theorem mapX_lk (v : Int) : ∀ d : List (Int × List ByteArray), lk v (mapX d) = (d.lookup v).map fun r => .sl false (strs r)
  | [] => rfl
  | (a, b) :: d => by
    show lk v ([.int .i64 a, .sl false (strs b)] :: mapX d) = _
    simp only [lk, List.lookup_cons]
    by_cases h : a = v
    · have h1 : (a == v) = true := by simpa using h
      have h2 : (v == a) = true := by simpa using h.symm
      rw [h1, h2]; rfl
    · have h1 : (a == v) = false := by simpa using h
      have h2 : (v == a) = false := by simpa using fun e => h e.symm
      rw [h1, h2]; exact mapX_lk v d
theorem mapX_ren (σ : Nat → Nat) (d : List (Int × List ByteArray)) : (mapC d).ren σ = mapC d := by
  have : renLL σ (mapX d) = mapX d := by
    rw [renLL_map]
    unfold mapX
    rw [List.map_map]
    exact List.map_congr_left fun e _ => by simp [renL, SV.ren, strs_ren]
  simp only [mapC, SV.ren, this]
theorem mapX_length (d : List (Int × List ByteArray)) : (mapX d).length = d.length := by simp [mapX]
theorem mapX_nomap : ∀ d : List (Int × List ByteArray), nomapLL (mapX d) = true
  | [] => rfl
  | e :: d => by show nomapLL ([SV.int .i64 e.1, SV.sl false (strs e.2)] :: mapX d) = true; simp [nomapLL, nomapL, SV.nomap, strs_nomap, mapX_nomap d]
/-- The drawings of a set are h rows of w characters. -/
def okD (w h : Nat) (d : List (Int × List ByteArray)) : Prop := ∀ e ∈ d, e.2.length = h ∧ ∀ i, i < h → (e.2.getD i default).size = w
def drawP (rows : List ByteArray) : List Int := rm ((rows.getD 0 default).size * rows.length) (drawF rows (rows.getD 0 default).size)
theorem fDraw' (rows : List ByteArray) (w h : Nat) (h0 : 0 < h) (hl : rows.length = h) (hw : ∀ i, i < h → (rows.getD i default).size = w) (hb1 : h ≤ 640) (hb2 : w ≤ 640) : FSpec Try.prog 53 [.sl true (strs rows)] (resI w h (drawP rows)) (resR (drawP rows)) := by
  have h1 := res_img (fDraw rows w (by omega) (fun i hi => hw i (by omega)) (by omega) hb2)
  have hw0 := hw 0 h0
  simp only [drawS, imgW, imgH, imgP, hw0, hl] at h1
  simp only [drawP, hw0, hl]
  exact h1
def gW (d : List (Int × List ByteArray)) (w : Nat) (v : Int) : Int := match d.lookup v with | some _ => w | none => 0
def gP (d : List (Int × List ByteArray)) (v : Int) : List Int := match d.lookup v with | some r => drawP r | none => []
def gE (d : List (Int × List ByteArray)) (v : Int) : Int := match d.lookup v with | some _ => 0 | none => 20
theorem lookup_mem' {d : List (Int × List ByteArray)} {v : Int} {r : List ByteArray} (h : d.lookup v = some r) : (v, r) ∈ d := by
  induction d with
  | nil => simp at h
  | cons e d ih =>
    rw [List.lookup_cons] at h
    by_cases c : v = e.1
    · subst c; simp at h; subst h; simp
    · have : (v == e.1) = false := by simpa using c
      rw [this] at h
      exact List.mem_cons_of_mem _ (ih h)
theorem fGlyph (s v : Int) (w h : Nat) (d : List (Int × List ByteArray)) (hd : FSpec Try.prog 49 [.int .i64 s] (mapC d) []) (hok : okD w h d) (h0 : 0 < h) (hb1 : h ≤ 640) (hb2 : w ≤ 640) :
    FSpec Try.prog 18 [.int .i64 s, .int .i64 v] (.tup [resI (gW d w v) (gW d h v) (gP d v), .int .i64 (gE d v)]) (resR (gP d v)) := by
  cases hv : d.lookup v with
  | none =>
    simp only [gW, gP, gE, hv]
    refine FSpec.ghost (sv := .tup [.agg [.int .i64 0, .int .i64 0, .nils], .int .i64 20]) ?_ fun F w v h => ?_
    · refine FSpec.intro tab_ok Try.func18 rfl rfl rfl (by kernel_rfl) (by simp) fun w0 => ?_
      simp only [argTM, Nat.zero_add, Nat.reduceAdd]
      repeat refine IW.seq ?_
      refine IW.region_seq tab_ok [some 4, some 5] rfl fun X K hX hK => ?_
      simp only [go_sem, if_true, if_false, reduceIte, Nat.reduceEqDiff, Nat.reduceAdd, Nat.reduceLT, Nat.reduceLeDiff, reduceCtorEq]
      refine hK _ _ ?_; clear hX hK X K
      show IW _ _ _ _ _ _ _ _
      repeat refine IW.seq ?_
      refine IW.region_seq tab_ok [some 9, some 10, some 11, some 12, some 8, some 13, some 14, some 6, some 7] rfl fun X K hX hK => ?_
      simp only [go_sem, if_true, if_false, reduceIte, Nat.reduceEqDiff, Nat.reduceAdd, Nat.reduceLT, Nat.reduceLeDiff, reduceCtorEq]
      refine hX.quiet _ _ (OpG.of_B rfl (opB_call rfl rfl hd)) ?_
      simp only [mapX_ren, go_sem, if_true, if_false, reduceIte, Nat.reduceEqDiff, Nat.reduceAdd, Nat.reduceLT, Nat.reduceLeDiff, reduceCtorEq]
      refine hX.quiet _ _ (OpG.of_B rfl (opB_lookup tab_ok rfl rfl m72 u3 (by simp [go_sem, if_true, if_false, reduceIte, Nat.reduceEqDiff, Nat.reduceAdd, Nat.reduceLT, Nat.reduceLeDiff, reduceCtorEq]) rfl rfl (mapX_keysI d))) ?_
      rw [mapX_lk, hv]
      simp only [go_sem, if_true, if_false, reduceIte, Nat.reduceEqDiff, Nat.reduceAdd, Nat.reduceLT, Nat.reduceLeDiff, reduceCtorEq, Option.map_none]
      refine hK _ _ ?_; clear hX hK X K
      show IW _ _ _ _ _ _ _ _
      repeat refine IW.seq ?_
      refine IW.region_seq tab_ok [some 15, some 16] rfl fun X K hX hK => ?_
      simp only [go_sem, if_true, if_false, reduceIte, Nat.reduceEqDiff, Nat.reduceAdd, Nat.reduceLT, Nat.reduceLeDiff, reduceCtorEq]
      refine hK _ _ ?_; clear hX hK X K
      show IW _ _ _ _ _ _ _ _
      repeat refine IW.seq ?_
      refine IW.cond rfl (fun _ => ?_) (fun hb => absurd hb (by decide))
      repeat refine IW.seq ?_
      refine IW.region_seq tab_ok [some 17, none, some 5] rfl fun X K hX hK => ?_
      simp only [go_sem, if_true, if_false, reduceIte, Nat.reduceEqDiff, Nat.reduceAdd, Nat.reduceLT, Nat.reduceLeDiff, reduceCtorEq]
      refine hX.op _ _ rfl (opS_store tab_ok rfl (by simp [go_sem, if_true, if_false, reduceIte, Nat.reduceEqDiff, Nat.reduceAdd, Nat.reduceLT, Nat.reduceLeDiff, reduceCtorEq]) (by simp [go_sem, if_true, if_false, reduceIte, Nat.reduceEqDiff, Nat.reduceAdd, Nat.reduceLT, Nat.reduceLeDiff, reduceCtorEq]) (by simp [go_sem, if_true, if_false, reduceIte, Nat.reduceEqDiff, Nat.reduceAdd, Nat.reduceLT, Nat.reduceLeDiff, reduceCtorEq]) (by simp [go_sem, if_true, if_false, reduceIte, Nat.reduceEqDiff, Nat.reduceAdd, Nat.reduceLT, Nat.reduceLeDiff, reduceCtorEq]) (by simp [go_sem, if_true, if_false, reduceIte, Nat.reduceEqDiff, Nat.reduceAdd, Nat.reduceLT, Nat.reduceLeDiff, reduceCtorEq]) (by simp [go_sem, if_true, if_false, reduceIte, Nat.reduceEqDiff, Nat.reduceAdd, Nat.reduceLT, Nat.reduceLeDiff, reduceCtorEq])) ?_
      simp only [go_sem, if_true, if_false, reduceIte, Nat.reduceEqDiff, Nat.reduceAdd, Nat.reduceLT, Nat.reduceLeDiff, reduceCtorEq]
      refine hK _ _ ?_; clear hX hK X K
      show IW _ _ _ _ _ _ _ _
      refine IW.ret ⟨⟨⟨trivial, by simp [go_sem, if_true, if_false, reduceIte, Nat.reduceEqDiff, Nat.reduceAdd, Nat.reduceLT, Nat.reduceLeDiff, reduceCtorEq]⟩, trivial, trivial⟩, rfl, rfl, [], rfl, by simp, ?_, trivial⟩
      rfl
    · cases h with
      | tup _ us hl hh =>
        refine .tup _ us hl fun i c u e1 e2 => ?_
        match i, e1 with
        | 0, e1 => cases e1; exact rel_agg3 (fun _ h => h) (fun _ h => h) (fun _ h => rel_ls_nil h) (hh 0 _ u rfl e2)
        | 1, e1 => cases e1; exact hh 1 _ u rfl e2
        | i + 2, e1 => simp at e1
  | some r =>
    simp only [gW, gP, gE, hv]
    obtain ⟨k1, k2⟩ := hok _ (lookup_mem' hv)
    have hdr := fDraw' r w h h0 k1 k2 hb1 hb2
    refine FSpec.intro tab_ok Try.func18 rfl rfl rfl (by kernel_rfl) (by simp) fun w0 => ?_
    simp only [argTM, Nat.zero_add, Nat.reduceAdd]
    repeat refine IW.seq ?_
    refine IW.region_seq tab_ok [some 4, some 5] rfl fun X K hX hK => ?_
    simp only [go_sem, if_true, if_false, reduceIte, Nat.reduceEqDiff, Nat.reduceAdd, Nat.reduceLT, Nat.reduceLeDiff, reduceCtorEq]
    refine hK _ _ ?_; clear hX hK X K
    show IW _ _ _ _ _ _ _ _
    repeat refine IW.seq ?_
    refine IW.region_seq tab_ok [some 9, some 10, some 11, some 12, some 8, some 13, some 14, some 6, some 7] rfl fun X K hX hK => ?_
    simp only [go_sem, if_true, if_false, reduceIte, Nat.reduceEqDiff, Nat.reduceAdd, Nat.reduceLT, Nat.reduceLeDiff, reduceCtorEq]
    refine hX.quiet _ _ (OpG.of_B rfl (opB_call rfl rfl hd)) ?_
    simp only [mapX_ren, go_sem, if_true, if_false, reduceIte, Nat.reduceEqDiff, Nat.reduceAdd, Nat.reduceLT, Nat.reduceLeDiff, reduceCtorEq]
    refine hX.quiet _ _ (OpG.of_B rfl (opB_lookup tab_ok rfl rfl m72 u3 (by simp [go_sem, if_true, if_false, reduceIte, Nat.reduceEqDiff, Nat.reduceAdd, Nat.reduceLT, Nat.reduceLeDiff, reduceCtorEq]) rfl rfl (mapX_keysI d))) ?_
    rw [mapX_lk, hv]
    simp only [go_sem, if_true, if_false, reduceIte, Nat.reduceEqDiff, Nat.reduceAdd, Nat.reduceLT, Nat.reduceLeDiff, reduceCtorEq, Option.map_some]
    refine hK _ _ ?_; clear hX hK X K
    show IW _ _ _ _ _ _ _ _
    repeat refine IW.seq ?_
    refine IW.region_seq tab_ok [some 15, some 16] rfl fun X K hX hK => ?_
    simp only [go_sem, if_true, if_false, reduceIte, Nat.reduceEqDiff, Nat.reduceAdd, Nat.reduceLT, Nat.reduceLeDiff, reduceCtorEq]
    refine hK _ _ ?_; clear hX hK X K
    show IW _ _ _ _ _ _ _ _
    repeat refine IW.seq ?_
    refine IW.cond rfl (fun hb => absurd hb (by decide)) (fun _ => ?_)
    refine IW.skip ?_
    show IW _ _ _ _ _ _ _ _
    repeat refine IW.seq ?_
    refine IW.region_seq tab_ok [some 18, some 19, none, some 5] rfl fun X K hX hK => ?_
    simp only [go_sem, if_true, if_false, reduceIte, Nat.reduceEqDiff, Nat.reduceAdd, Nat.reduceLT, Nat.reduceLeDiff, reduceCtorEq]
    refine hX.quiet _ _ (OpG.of_B rfl (opB_call rfl rfl (FSpec.nz (hdr) (by simp [go_sem, if_true, if_false, reduceIte, Nat.reduceEqDiff, Nat.reduceAdd, Nat.reduceLT, Nat.reduceLeDiff, reduceCtorEq, List.map_cons, List.map_nil, List.append_nil, opnd, unc, resI, resR])))) ?_
    simp only [go_sem, if_true, if_false, reduceIte, Nat.reduceEqDiff, Nat.reduceAdd, Nat.reduceLT, Nat.reduceLeDiff, reduceCtorEq, resI, resR]
    refine hX.op _ _ rfl (opS_store tab_ok rfl (by simp [go_sem, if_true, if_false, reduceIte, Nat.reduceEqDiff, Nat.reduceAdd, Nat.reduceLT, Nat.reduceLeDiff, reduceCtorEq]) (by simp [go_sem, if_true, if_false, reduceIte, Nat.reduceEqDiff, Nat.reduceAdd, Nat.reduceLT, Nat.reduceLeDiff, reduceCtorEq]) (by simp [go_sem, if_true, if_false, reduceIte, Nat.reduceEqDiff, Nat.reduceAdd, Nat.reduceLT, Nat.reduceLeDiff, reduceCtorEq]) (by simp [go_sem, if_true, if_false, reduceIte, Nat.reduceEqDiff, Nat.reduceAdd, Nat.reduceLT, Nat.reduceLeDiff, reduceCtorEq]) (by simp [go_sem, if_true, if_false, reduceIte, Nat.reduceEqDiff, Nat.reduceAdd, Nat.reduceLT, Nat.reduceLeDiff, reduceCtorEq]) (by simp [go_sem, if_true, if_false, reduceIte, Nat.reduceEqDiff, Nat.reduceAdd, Nat.reduceLT, Nat.reduceLeDiff, reduceCtorEq])) ?_
    simp only [go_sem, if_true, if_false, reduceIte, Nat.reduceEqDiff, Nat.reduceAdd, Nat.reduceLT, Nat.reduceLeDiff, reduceCtorEq]
    refine hK _ _ ?_; clear hX hK X K
    show IW _ _ _ _ _ _ _ _
    refine IW.ret ⟨⟨⟨trivial, by simp [go_sem, if_true, if_false, reduceIte, Nat.reduceEqDiff, Nat.reduceAdd, Nat.reduceLT, Nat.reduceLeDiff, reduceCtorEq]⟩, trivial, trivial⟩, by simp [go_sem, if_true, if_false, reduceIte, Nat.reduceEqDiff, Nat.reduceAdd, Nat.reduceLT, Nat.reduceLeDiff, reduceCtorEq, resI], by simp [go_sem, if_true, if_false, reduceIte, Nat.reduceEqDiff, Nat.reduceAdd, Nat.reduceLT, Nat.reduceLeDiff, reduceCtorEq, resR, rowsNold], [1], rfl, by simp, ?_, ?_⟩
    · simp [go_sem, if_true, if_false, reduceIte, Nat.reduceEqDiff, Nat.reduceAdd, Nat.reduceLT, Nat.reduceLeDiff, reduceCtorEq, resI, resAll, resSV]
    · exact ⟨by simp [go_sem, if_true, if_false, reduceIte, Nat.reduceEqDiff, Nat.reduceAdd, Nat.reduceLT, Nat.reduceLeDiff, reduceCtorEq], trivial⟩
end Go.Proofs.Ytnbpbehlemaeoaa

set_option linter.unusedVariables false
set_option linter.unusedSimpArgs false
set_option maxRecDepth 10000
namespace Go.Proofs.Ytnbpbehlemaeoaa
open Go.IL
theorem mapX_at {d : List (Int × List ByteArray)} {j : Nat} (h : j < d.length) : (mapX d).getD j [] = [.int .i64 (d.getD j (0, [])).1, .sl false (strs (d.getD j (0, [])).2)] := by simp [mapX, h]
theorem mapX_bnd (n : Nat) : ∀ d : List (Int × List ByteArray), bndLL n (mapX d) = true
  | [] => rfl
  | e :: d => by show bndLL n ([SV.int .i64 e.1, SV.sl false (strs e.2)] :: mapX d) = true; simp [bndLL, bndL, SV.bnd, strs_bnd, mapX_bnd n d]
theorem fSize (s : Int) (w h : Nat) (d : List (Int × List ByteArray)) (hd : FSpec Try.prog 49 [.int .i64 s] (mapC d) []) (hok : okD w h d) (h0 : 0 < h) (hne : 0 < d.length) : FSpec Try.prog 13 [.int .i64 s] (.tup [.int .i64 w, .int .i64 h]) [] := by
  refine FSpec.intro tab_ok Try.func13 rfl rfl rfl (by kernel_rfl) (by simp) fun w0 => ?_
  simp only [argTM, Nat.zero_add, Nat.reduceAdd]
  repeat refine IW.seq ?_
  refine IW.region_seq tab_ok [some 2, some 3] rfl fun X K hX hK => ?_
  simp only [go_sem, if_true, if_false, reduceIte, Nat.reduceEqDiff, Nat.reduceAdd, Nat.reduceLT, Nat.reduceLeDiff, reduceCtorEq]
  refine hK _ _ ?_; clear hX hK X K
  show IW _ _ _ _ _ _ _ _
  repeat refine IW.seq ?_
  refine IW.region_seq tab_ok [some 6, some 7, some 8] rfl fun X K hX hK => ?_
  simp only [go_sem, if_true, if_false, reduceIte, Nat.reduceEqDiff, Nat.reduceAdd, Nat.reduceLT, Nat.reduceLeDiff, reduceCtorEq]
  refine hX.quiet _ _ (OpG.of_B rfl (opB_call rfl rfl hd)) ?_
  simp only [mapX_ren, go_sem, if_true, if_false, reduceIte, Nat.reduceEqDiff, Nat.reduceAdd, Nat.reduceLT, Nat.reduceLeDiff, reduceCtorEq]
  refine hX.quiet _ _ (OpG.of_B rfl (opB_range (o := false) (xs := mapX d) rfl m72)) ?_
  simp only [go_sem, if_true, if_false, reduceIte, Nat.reduceEqDiff, Nat.reduceAdd, Nat.reduceLT, Nat.reduceLeDiff, reduceCtorEq]
  refine hK _ _ ?_; clear hX hK X K
  show IW _ _ _ _ _ _ _ _
  repeat refine IW.seq ?_
  refine IW.block ?_
  refine IW.loop (α := Unit) (fun _ => [(8, .it false (mapX d) [])]) (fun _ => []) (fun _ => 0) () ?_ fun _ => ?_
  · refine Ent.cut ?_ ?_ <;> simp only [go_sem, if_true, if_false, reduceIte, Nat.reduceEqDiff, Nat.reduceAdd, Nat.reduceLT, Nat.reduceLeDiff, reduceCtorEq, mapX_bnd]
  · show IW _ _ _ _ _ _ _ _
    repeat refine IW.seq ?_
    refine IW.region_seq tab_ok [some 9, some 10] rfl fun X K hX hK => ?_
    simp only [go_sem, if_true, if_false, reduceIte, Nat.reduceEqDiff, Nat.reduceAdd, Nat.reduceLT, Nat.reduceLeDiff, reduceCtorEq]
    refine hX.opn _ _ rfl (opN_next rfl (by simp [go_sem, if_true, if_false, reduceIte, Nat.reduceEqDiff, Nat.reduceAdd, Nat.reduceLT, Nat.reduceLeDiff, reduceCtorEq]) (mapX_nomap d) (by intro d e; cases e; decide)) fun c hc => ?_
    match c, hc with
    | none, hc => exact absurd (hc 0 (by rw [mapX_length]; exact hne)) (by simp)
    | some j, hc =>
      have hj : j < d.length := by have := hc.1; rwa [mapX_length] at this
      obtain ⟨k1, k2⟩ := hok _ (show d.getD j (0, []) ∈ d by simp [hj])
      generalize hr : d.getD j (0, []) = e at *
      simp only [nextTo, go_sem, if_true, if_false, reduceIte, Nat.reduceEqDiff, Nat.reduceAdd, Nat.reduceLT, Nat.reduceLeDiff, reduceCtorEq, mapX_at hj, hr]
      refine hK _ _ ?_; clear hX hK X K
      show IW _ _ _ _ _ _ _ _
      repeat refine IW.seq ?_
      refine IW.cond rfl (fun hb => ?_) (fun hb => absurd hb (by decide))
      refine IW.skip ?_
      show IW _ _ _ _ _ _ _ _
      repeat refine IW.seq ?_
      refine IW.block ?_
      repeat refine IW.seq ?_
      refine IW.region_seq tab_ok [some 11, some 12, some 5] rfl fun X K hX hK => ?_
      simp only [go_sem, if_true, if_false, reduceIte, Nat.reduceEqDiff, Nat.reduceAdd, Nat.reduceLT, Nat.reduceLeDiff, reduceCtorEq]
      refine hX.quiet _ _ (OpG.of_B rfl (opB_entry (seen := []) (j := j) rfl (by rw [mapX_length]; exact hj))) ?_
      simp only [go_sem, if_true, if_false, reduceIte, Nat.reduceEqDiff, Nat.reduceAdd, Nat.reduceLT, Nat.reduceLeDiff, reduceCtorEq, mapX_at hj, hr]
      refine hK _ _ ?_; clear hX hK X K
      show IW _ _ _ _ _ _ _ _
      have hlt0 : 0 < e.2.length := by omega
      have hs0 := k2 0 h0
      repeat refine IW.seq ?_
      refine IW.region_seq tab_ok [some 13, some 14, some 15, some 16, some 17, some 18, some 2, some 3] rfl fun X K hX hK => ?_
      simp only [go_sem, if_true, if_false, reduceIte, Nat.reduceEqDiff, Nat.reduceAdd, Nat.reduceLT, Nat.reduceLeDiff, reduceCtorEq, strs_at hlt0, hs0, k1]
      refine ⟨⟨by omega, by omega⟩, ?_⟩
      refine hK _ _ ?_; clear hX hK X K
      show IW _ _ _ _ _ _ _ _
      refine IW.ret ⟨⟨trivial, trivial, trivial⟩, rfl, rfl, [], rfl, List.nodup_nil, ?_, trivial⟩
      simp [go_sem, if_true, if_false, reduceIte, Nat.reduceEqDiff, Nat.reduceAdd, Nat.reduceLT, Nat.reduceLeDiff, reduceCtorEq, resAll, resSV]
end Go.Proofs.Ytnbpbehlemaeoaa

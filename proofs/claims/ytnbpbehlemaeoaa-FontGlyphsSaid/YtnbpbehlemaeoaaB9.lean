/- Contracts of barlines, of glyphs and values of any set. -/
import Derived.Test.YtnbpbehlemaeoaaB8
set_option linter.unusedVariables false
set_option linter.unusedSimpArgs false
set_option maxRecDepth 10000
namespace Go.Proofs.Ytnbpbehlemaeoaa
open Go.IL
/-- A column of ink. -/
def inkS (xs : List Int) (x : Int) : List Int := if 0 ≤ x then xs.set x.toNat 35 else xs
theorem inkS_length (xs : List Int) (x : Int) : (inkS xs x).length = xs.length := by unfold inkS; split <;> simp
def ink3 (xs : List Int) (a b c : Int) : Nat → List Int
  | 0 => xs
  | 1 => inkS xs a
  | 2 => inkS (inkS xs a) b
  | _ => inkS (inkS (inkS xs a) b) c
theorem ink3_length (xs : List Int) (a b c : Int) (i : Nat) : (ink3 xs a b c i).length = xs.length := by
  unfold ink3; split <;> simp [inkS_length]
def colOk (x : Int) : Prop := -1 ≤ x ∧ x < 10
theorem fInk (xs : List Int) (a b c : Int) (hl : xs.length = 10) (ha : colOk a) (hb : colOk b) (hc : colOk c) :
    WSpec Try.prog 94 [.agg [.int .i64 a, .int .i64 b, .int .i64 c], .ptr 0 0 0] [⟨1, 31, [[.ref 1 0 10]]⟩, ⟨1, 5 + softK, nums .u8 xs⟩] (.tup []) [some ⟨1, 31, [[.ref 1 0 10]]⟩, some ⟨1, 5 + softK, nums .u8 (ink3 xs a b c 3)⟩] := by
  unfold colOk at ha hb hc
  refine WSpec.intro tab_ok Try.func94 rfl rfl rfl (by kernel_rfl) (by simp) (by simp) fun O w0 hr => ?_
  simp only [argTM, Nat.zero_add, Nat.reduceAdd, List.map_cons, List.map_nil]
  repeat refine IW.seq ?_
  refine IW.region_seq tab_ok [some 2] rfl fun X K hX hK => ?_
  simp only [go_sem, if_true, if_false, reduceIte, Nat.reduceEqDiff, Nat.reduceAdd, Nat.reduceLT, Nat.reduceLeDiff, reduceCtorEq]
  refine hK _ _ ?_; clear hX hK X K
  show IW _ _ _ _ _ _ _ _
  repeat refine IW.seq ?_
  refine IW.region_seq tab_ok [some 5, some 6] rfl fun X K hX hK => ?_
  simp only [go_sem, if_true, if_false, reduceIte, Nat.reduceEqDiff, Nat.reduceAdd, Nat.reduceLT, Nat.reduceLeDiff, reduceCtorEq]
  refine hK _ _ ?_; clear hX hK X K
  show IW _ _ _ _ _ _ _ _
  repeat refine IW.seq ?_
  refine IW.block ?_
  refine IW.loop (α := {i : Nat // i ≤ 3}) (fun i => [(1, .ptr 0 0 0), (5, .agg [.int .i64 a, .int .i64 b, .int .i64 c]), (6, .int .i64 i.1)]) (fun i => [some ⟨1, 31, [[.ref 1 0 10]]⟩, some ⟨1, 5 + softK, nums .u8 (ink3 xs a b c i.1)⟩, some ⟨3, 114, [[.int .i64 a, .int .i64 b, .int .i64 c]]⟩]) (fun i => 3 - i.1) ⟨0, by omega⟩ ?_ fun ⟨i, hi⟩ => ?_
  · have : ink3 xs a b c 0 = xs := rfl
    refine Ent.cut ?_ ?_ (fun id ri e => Nat.lt_of_lt_of_le (hr id ri e) (by simp)) <;> simp only [go_sem, if_true, if_false, reduceIte, Nat.reduceEqDiff, Nat.reduceAdd, Nat.reduceLT, Nat.reduceLeDiff, reduceCtorEq, this]
  · simp only []
    have hlen := ink3_length xs a b c i
    repeat refine IW.seq ?_
    refine IW.region_seq tab_ok [some 7] rfl fun X K hX hK => ?_
    simp only [go_sem, if_true, if_false, reduceIte, Nat.reduceEqDiff, Nat.reduceAdd, Nat.reduceLT, Nat.reduceLeDiff, reduceCtorEq]
    refine hK _ _ ?_; clear hX hK X K
    show IW _ _ _ _ _ _ _ _
    repeat refine IW.seq ?_
    refine IW.cond rfl (fun hb1 => ?_) (fun hb1 => ?_)
    · simp only [decide_eq_true_eq] at hb1
      have hi3 : i < 3 := by omega
      obtain ⟨x, hx, hx1, hx2⟩ : ∃ x : Int, [SV.int .i64 a, SV.int .i64 b, SV.int .i64 c].getD i .any = .int .i64 x ∧ (-1 ≤ x ∧ x < 10) ∧ ink3 xs a b c (i + 1) = inkS (ink3 xs a b c i) x := by
        match i, hi3 with
        | 0, _ => exact ⟨a, rfl, ha, rfl⟩
        | 1, _ => exact ⟨b, rfl, hb, rfl⟩
        | 2, _ => exact ⟨c, rfl, hc, rfl⟩
      refine IW.skip ?_
      show IW _ _ _ _ _ _ _ _
      refine IW.seq (IW.block ?_)
      repeat refine IW.seq ?_
      refine IW.region_seq tab_ok [some 8, some 4] rfl fun X K hX hK => ?_
      simp only [go_sem, if_true, if_false, reduceIte, Nat.reduceEqDiff, Nat.reduceAdd, Nat.reduceLT, Nat.reduceLeDiff, reduceCtorEq, Nat.mul_one, hx]
      refine ⟨⟨by omega, by omega, by omega⟩, ?_⟩
      refine hK _ _ ?_; clear hX hK X K
      show IW _ _ _ _ _ _ _ _
      generalize ink3 xs a b c i = ys at *
      repeat refine IW.seq ?_
      refine IW.region_seq tab_ok [some 9, some 10] rfl fun X K hX hK => ?_
      simp only [go_sem, if_true, if_false, reduceIte, Nat.reduceEqDiff, Nat.reduceAdd, Nat.reduceLT, Nat.reduceLeDiff, reduceCtorEq]
      refine hK _ _ ?_; clear hX hK X K
      show IW _ _ _ _ _ _ _ _
      repeat refine IW.seq ?_
      refine IW.cond rfl (fun hb2 => ?_) (fun hb2 => ?_)
      · simp only [decide_eq_true_eq, ge_iff_le] at hb2
        have hz : ink3 xs a b c (i + 1) = ys.set x.toNat 35 := by rw [hx2, inkS, if_pos hb2]
        repeat refine IW.seq ?_
        refine IW.region_seq tab_ok [some 11, some 12, some 13, none] rfl fun X K hX hK => ?_
        simp only [go_sem, if_true, if_false, reduceIte, Nat.reduceEqDiff, Nat.reduceAdd, Nat.reduceLT, Nat.reduceLeDiff, reduceCtorEq]
        have hxl : x.toNat < 10 := by omega
        have hat := nums_at (k := .u8) (xs := ys) (i := x.toNat) (by omega)
        refine ⟨by omega, ?_⟩
        refine hX.op _ _ rfl (opS_store tab_ok rfl (by simp [go_sem, if_true, if_false, reduceIte, Nat.reduceEqDiff, Nat.reduceAdd, Nat.reduceLT, Nat.reduceLeDiff, reduceCtorEq]) (by simp [go_sem, if_true, if_false, reduceIte, Nat.reduceEqDiff, Nat.reduceAdd, Nat.reduceLT, Nat.reduceLeDiff, reduceCtorEq]) (by simp [go_sem, if_true, if_false, reduceIte, Nat.reduceEqDiff, Nat.reduceAdd, Nat.reduceLT, Nat.reduceLeDiff, reduceCtorEq]) (by simp [go_sem, if_true, if_false, reduceIte, Nat.reduceEqDiff, Nat.reduceAdd, Nat.reduceLT, Nat.reduceLeDiff, reduceCtorEq, hat, hxl, hlen, hl]) (by simp [go_sem, if_true, if_false, reduceIte, Nat.reduceEqDiff, Nat.reduceAdd, Nat.reduceLT, Nat.reduceLeDiff, reduceCtorEq]) (by simp [go_sem, if_true, if_false, reduceIte, Nat.reduceEqDiff, Nat.reduceAdd, Nat.reduceLT, Nat.reduceLeDiff, reduceCtorEq])) ?_
        simp only [go_sem, if_true, if_false, reduceIte, Nat.reduceEqDiff, Nat.reduceAdd, Nat.reduceLT, Nat.reduceLeDiff, reduceCtorEq, hat, hxl, hlen, hl]
        refine hK _ _ ?_; clear hX hK X K
        show IW _ _ _ _ _ _ _ _
        repeat refine IW.seq ?_
        refine IW.region_seq tab_ok [some 14, some 6] rfl fun X K hX hK => ?_
        simp only [go_sem, if_true, if_false, reduceIte, Nat.reduceEqDiff, Nat.reduceAdd, Nat.reduceLT, Nat.reduceLeDiff, reduceCtorEq, succ_wrap hi3 (by omega)]
        refine hK _ _ ⟨⟨i + 1, by omega⟩, by simp only []; omega, ?_⟩
        refine Ent.cut ?_ ?_ (fun id ri e => Nat.lt_of_lt_of_le (hr id ri e) (by simp)) <;> simp only [go_sem, if_true, if_false, reduceIte, Nat.reduceEqDiff, Nat.reduceAdd, Nat.reduceLT, Nat.reduceLeDiff, reduceCtorEq, hz]
      · simp only [decide_eq_false_iff_not, ge_iff_le] at hb2
        have hz : ink3 xs a b c (i + 1) = ys := by rw [hx2, inkS, if_neg hb2]
        refine IW.skip ?_
        show IW _ _ _ _ _ _ _ _
        repeat refine IW.seq ?_
        refine IW.region_seq tab_ok [some 14, some 6] rfl fun X K hX hK => ?_
        simp only [go_sem, if_true, if_false, reduceIte, Nat.reduceEqDiff, Nat.reduceAdd, Nat.reduceLT, Nat.reduceLeDiff, reduceCtorEq, succ_wrap hi3 (by omega)]
        refine hK _ _ ⟨⟨i + 1, by omega⟩, by simp only []; omega, ?_⟩
        refine Ent.cut ?_ ?_ (fun id ri e => Nat.lt_of_lt_of_le (hr id ri e) (by simp)) <;> simp only [go_sem, if_true, if_false, reduceIte, Nat.reduceEqDiff, Nat.reduceAdd, Nat.reduceLT, Nat.reduceLeDiff, reduceCtorEq, hz]
    · refine IW.exit ?_
      simp only [decide_eq_false_iff_not] at hb1
      obtain rfl : i = 3 := by omega
      exact ⟨trivial, rfl, by simp [go_sem, if_true, if_false, reduceIte, Nat.reduceEqDiff, Nat.reduceAdd, Nat.reduceLT, Nat.reduceLeDiff, reduceCtorEq, heapNold, nums_nold], by simp, [0, 1], rfl, by simp, rfl, rfl, by simp [go_sem, if_true, if_false, reduceIte, Nat.reduceEqDiff, Nat.reduceAdd, Nat.reduceLT, Nat.reduceLeDiff, reduceCtorEq, subH, nums_ren, Row.ren, renLL, renL, SV.ren, sg, hrow]⟩
end Go.Proofs.Ytnbpbehlemaeoaa

set_option linter.unusedVariables false
set_option linter.unusedSimpArgs false
set_option maxRecDepth 10000
namespace Go.Proofs.Ytnbpbehlemaeoaa
open Go.IL
/-- A list of texts that has been appended to: row 1. -/
def apS (l : List ByteArray) : SV := match l with | [] => .nils | _ :: _ => .ref 1 0 l.length
def wpS (l : List ByteArray) : Option Row := match l with | [] => none | _ :: _ => some ⟨1, 9, strs l⟩
theorem apS_snoc (l : List ByteArray) (c : ByteArray) : apS (l ++ [c]) = .ref 1 0 (l.length + 1) := by cases l <;> simp [apS]
theorem wpS_snoc (l : List ByteArray) (c : ByteArray) : wpS (l ++ [c]) = some ⟨1, 9, strs (l ++ [c])⟩ := by cases l <;> simp [wpS]
theorem apS_bnd (l : List ByteArray) : (apS l).bnd 4 = true := by cases l <;> simp [apS, SV.bnd, bndLL]
theorem strs_nold' : ∀ l : List ByteArray, noldLL (strs l) = true
  | [] => rfl
  | x :: xs => by show noldLL ([SV.str x] :: strs xs) = true; simp [noldLL, noldL, SV.nold, strs_nold' xs]
theorem strs_w (l : List ByteArray) : ∀ x ∈ strs l, x.length = 1 := by
  intro x hx
  obtain ⟨s, _, rfl⟩ := List.mem_map.1 hx
  rfl
section
variable {O : Nat → Prop} {w0 : Ctx} {N : Nat} {ops : Array Oper} {D : List (Option Nat)} {X : XT}
theorem pushS {dst : Option Nat} {x y : Operand} {ty : TypeId} {pos : String} {after : Array Edge} {r : List Oper} {tm : TM} {l : List ByteArray} {s : ByteArray} {r0 r2 r3 : Option Row} {K : TM → Heap → Prop} (hX : XS Try.prog O w0 N tab ops D X) (hx : opnd tm x = apS l) (hy : opnd tm y = .ref 4 0 1) (hl : l.length ≤ 1000000) (hd : ∀ d, dst = some d → d < N)
    (he : E tab D X r (tm.put dst (.ref 5 0 (l.length + 1))) [r0, none, r2, r3, some ⟨1, 9, [[.str s]]⟩, some ⟨1, 9, strs (l ++ [s])⟩] K) :
    X ⟨dst, .call ⟨.builtin .append, #[x, y], #[74, 74]⟩, ty, pos, after, none⟩ r tm [r0, wpS l, r2, r3, some ⟨1, 9, [[.str s]]⟩] K := by
  have hys : srcO [r0, wpS l, r2, r3, some ⟨1, 9, [[.str s]]⟩] (opnd tm y) = some [[.str s]] := by rw [hy]; rfl
  cases l with
  | nil =>
    refine hX.quiet _ _ (OpG.of_B rfl (opB_append_nil tab_ok (ys := [[.str s]]) (m := 1) hx hys rfl (by omega) rfl rfl (by decide) (by intro x hx; simp at hx; subst hx; rfl) rfl (by decide) (by decide))) ?_
    exact he
  | cons b l =>
    have hlen : (strs (b :: l)).length = (b :: l).length := strs_length _
    refine hX.op _ _ rfl (opS_append tab_ok (id := 1) (n := (b :: l).length) (m := 1) (ys := [[.str s]]) hx hys rfl (by omega) rfl rfl (by decide) (by show _ ≤ (strs (b :: l)).length; omega) rfl rfl rfl (by intro x hx; simp at hx; subst hx; rfl) rfl (by show ((b :: l).length + 1) * 16 ≤ _; omega) (by omega) hd) ?_
    have e1 : (strs (b :: l)).take (b :: l).length ++ [[SV.str s]] = strs (b :: l ++ [s]) := by
      rw [List.take_of_length_le (by omega)]; simp [strs]
    have e2 : rowXs [r0, wpS (b :: l), r2, r3, some ⟨1, 9, [[SV.str s]]⟩] 1 = strs (b :: l) := rfl
    rw [e2, e1]
    exact he
end
/-- The bytes of a row of a barline. -/
def barB (a b c d e f : Int) (y : Nat) : List Int := if hasS [8, 9, 14, 15] (y : Int) then ink3 (ink3 (List.replicate 10 46) a b c 3) d e f 3 else ink3 (List.replicate 10 46) a b c 3
theorem barB_length (a b c d e f : Int) (y : Nat) : (barB a b c d e f y).length = 10 := by unfold barB; split <;> simp [ink3_length]
def barL (a b c d e f : Int) (n : Nat) : List ByteArray := (List.range n).map fun y => Go.IL.strOf (barB a b c d e f y)
theorem barL_length (a b c d e f : Int) (n : Nat) : (barL a b c d e f n).length = n := by simp [barL]
theorem barL_succ (a b c d e f : Int) (n : Nat) : barL a b c d e f (n + 1) = barL a b c d e f n ++ [Go.IL.strOf (barB a b c d e f n)] := by simp [barL, List.range_succ]
theorem cell_reW (h : Heap) : (⟨1, 31, [[.ref 2 0 10]]⟩ : Row).reW [3, 2] 4 h = ⟨1, 31, [[.ref 1 0 10]]⟩ := by simp [Row.reW, reW, show List.idxOf 2 [3, 2] = 1 from rfl]
theorem cell_upd (r0 r1 x y : Option Row) (z : Heap) (n : Nat) (B : List Int) : updR (tauW [3, 2] n) (r0 :: r1 :: x :: y :: z) [3, 2] [some ⟨1, 31, [[.ref 1 0 10]]⟩, some ⟨1, 5 + softK, nums .u8 B⟩] = r0 :: r1 :: some ⟨1, 5 + softK, nums .u8 B⟩ :: some ⟨1, 31, [[.ref 2 0 10]]⟩ :: z := by
  simp [updR, tauW, Row.ren, renLL, renL, SV.ren, nums_ren]
theorem fBarRows (a b c d e f : Int) (ha : colOk a) (hb : colOk b) (hc : colOk c) (hd : colOk d) (he : colOk e) (hf : colOk f) :
    FSpec Try.prog 86 [.agg [.int .i64 a, .int .i64 b, .int .i64 c, .int .i64 d, .int .i64 e, .int .i64 f]] (.ref 0 0 25) [⟨1, 9, strs (barL a b c d e f 25)⟩] := by
  obtain ⟨B0, hB0⟩ : ∃ B : List Int, B = List.replicate 10 46 := ⟨_, rfl⟩
  have hbar : ∀ y : Nat, barB a b c d e f y = if hasS [8, 9, 14, 15] (y : Int) then ink3 (ink3 B0 a b c 3) d e f 3 else ink3 B0 a b c 3 := fun y => by rw [hB0]; rfl
  have hb1 := fInk B0 a b c (by rw [hB0]; simp) ha hb hc
  have hb2 := fInk (ink3 B0 a b c 3) d e f (by rw [ink3_length, hB0]; simp) hd he hf
  have hl1 : (ink3 B0 a b c 3).length = 10 := by rw [ink3_length, hB0]; simp
  have hl2 : (ink3 (ink3 B0 a b c 3) d e f 3).length = 10 := by rw [ink3_length, hl1]
  generalize ink3 B0 a b c 3 = B1 at *
  generalize ink3 B1 d e f 3 = B2 at *
  refine FSpec.intro tab_ok Try.func86 rfl rfl rfl (by kernel_rfl) (by simp) fun w0 => ?_
  simp only [argTM, Nat.zero_add, Nat.reduceAdd]
  repeat refine IW.seq ?_
  refine IW.region_seq tab_ok [some 1, some 2] rfl fun X K hX hK => ?_
  simp only [go_sem, if_true, if_false, reduceIte, Nat.reduceEqDiff, Nat.reduceAdd, Nat.reduceLT, Nat.reduceLeDiff, reduceCtorEq]
  refine hK _ _ ?_; clear hX hK X K
  show IW _ _ _ _ _ _ _ _
  repeat refine IW.seq ?_
  refine IW.region_seq tab_ok [some 3] rfl fun X K hX hK => ?_
  simp only [go_sem, if_true, if_false, reduceIte, Nat.reduceEqDiff, Nat.reduceAdd, Nat.reduceLT, Nat.reduceLeDiff, reduceCtorEq]
  refine hK _ _ ?_; clear hX hK X K
  show IW _ _ _ _ _ _ _ _
  repeat refine IW.seq ?_
  refine IW.region_seq tab_ok [some 7] rfl fun X K hX hK => ?_
  simp only [go_sem, if_true, if_false, reduceIte, Nat.reduceEqDiff, Nat.reduceAdd, Nat.reduceLT, Nat.reduceLeDiff, reduceCtorEq]
  refine hK _ _ ?_; clear hX hK X K
  show IW _ _ _ _ _ _ _ _
  repeat refine IW.seq ?_
  refine IW.block ?_
  refine IW.loop (α := {y : Nat // y ≤ 25}) (fun y => [(1, .ptr 0 0 0), (3, apS (barL a b c d e f y.1)), (7, .int .i64 y.1)]) (fun y => [some ⟨6, 116, [[.int .i64 a, .int .i64 b, .int .i64 c, .int .i64 d, .int .i64 e, .int .i64 f]]⟩, wpS (barL a b c d e f y.1)]) (fun y => 25 - y.1) ⟨0, by omega⟩ ?_ fun ⟨y, hy⟩ => ?_
  · have : barL a b c d e f 0 = [] := rfl
    refine Ent.ren [0, 1] rfl (by decide) ?_ ?_ (fun id ri e => by cases e) <;> simp [go_sem, if_true, if_false, reduceIte, Nat.reduceEqDiff, Nat.reduceAdd, Nat.reduceLT, Nat.reduceLeDiff, reduceCtorEq, subT, subH, sg, SV.ren, Row.ren, this, apS, wpS]
  · simp only []
    repeat refine IW.seq ?_
    refine IW.region_seq tab_ok [some 8] rfl fun X K hX hK => ?_
    simp only [go_sem, if_true, if_false, reduceIte, Nat.reduceEqDiff, Nat.reduceAdd, Nat.reduceLT, Nat.reduceLeDiff, reduceCtorEq]
    refine hK _ _ ?_; clear hX hK X K
    show IW _ _ _ _ _ _ _ _
    repeat refine IW.seq ?_
    refine IW.cond rfl (fun hb3 => ?_) (fun hb3 => ?_)
    · simp only [decide_eq_true_eq] at hb3
      have hy25 : y < 25 := by omega
      have hsn := barL_succ a b c d e f y
      have hbl := barL_length a b c d e f y
      generalize hL : barL a b c d e f y = L at *
      refine IW.skip ?_
      show IW _ _ _ _ _ _ _ _
      refine IW.seq (IW.block ?_)
      repeat refine IW.seq ?_
      refine IW.region_seq tab_ok [some 9, some 4] rfl fun X K hX hK => ?_
      simp only [go_sem, if_true, if_false, reduceIte, Nat.reduceEqDiff, Nat.reduceAdd, Nat.reduceLT, Nat.reduceLeDiff, reduceCtorEq]
      refine hK _ _ ?_; clear hX hK X K
      show IW _ _ _ _ _ _ _ _
      repeat refine IW.seq ?_
      refine IW.region_seq tab_ok [some 10, some 11, some 5, none] rfl fun X K hX hK => ?_
      simp only [go_sem, if_true, if_false, reduceIte, Nat.reduceEqDiff, Nat.reduceAdd, Nat.reduceLT, Nat.reduceLeDiff, reduceCtorEq]
      refine hX.quiet _ _ (OpG.of_B rfl (opB_buildSlice tab_ok rfl (by simp [go_sem, if_true, if_false, reduceIte, Nat.reduceEqDiff, Nat.reduceAdd, Nat.reduceLT, Nat.reduceLeDiff, reduceCtorEq]) (by simp [go_sem, if_true, if_false, reduceIte, Nat.reduceEqDiff, Nat.reduceAdd, Nat.reduceLT, Nat.reduceLeDiff, reduceCtorEq]) (by simp) (by simp [go_sem, if_true, if_false, reduceIte, Nat.reduceEqDiff, Nat.reduceAdd, Nat.reduceLT, Nat.reduceLeDiff, reduceCtorEq, bsO, List.map_cons, List.map_nil]))) ?_
      simp only [go_sem, if_true, if_false, reduceIte, Nat.reduceEqDiff, Nat.reduceAdd, Nat.reduceLT, Nat.reduceLeDiff, reduceCtorEq, List.map_cons, List.map_nil]
      refine hX.op _ _ rfl (opS_convBytes tab_ok (id := 2) (off := 0) (n := 10) (e := 5) (r := ⟨1, 5, nums .u8 B0⟩) (by simp [go_sem, if_true, if_false, reduceIte, Nat.reduceEqDiff, Nat.reduceAdd, Nat.reduceLT, Nat.reduceLeDiff, reduceCtorEq]) (by rw [hB0]; rfl) rfl rfl (show 5 < softK by decide) (by intro d e; cases e; decide)) ?_
      simp only [go_sem, if_true, if_false, reduceIte, Nat.reduceEqDiff, Nat.reduceAdd, Nat.reduceLT, Nat.reduceLeDiff, reduceCtorEq, List.set_cons_zero, List.set_cons_succ]
      refine hX.op _ _ rfl (opS_store tab_ok rfl (by simp [go_sem, if_true, if_false, reduceIte, Nat.reduceEqDiff, Nat.reduceAdd, Nat.reduceLT, Nat.reduceLeDiff, reduceCtorEq]) (by simp [go_sem, if_true, if_false, reduceIte, Nat.reduceEqDiff, Nat.reduceAdd, Nat.reduceLT, Nat.reduceLeDiff, reduceCtorEq]) (by simp [go_sem, if_true, if_false, reduceIte, Nat.reduceEqDiff, Nat.reduceAdd, Nat.reduceLT, Nat.reduceLeDiff, reduceCtorEq]) (by simp [go_sem, if_true, if_false, reduceIte, Nat.reduceEqDiff, Nat.reduceAdd, Nat.reduceLT, Nat.reduceLeDiff, reduceCtorEq]) (by simp [go_sem, if_true, if_false, reduceIte, Nat.reduceEqDiff, Nat.reduceAdd, Nat.reduceLT, Nat.reduceLeDiff, reduceCtorEq]) (by simp [go_sem, if_true, if_false, reduceIte, Nat.reduceEqDiff, Nat.reduceAdd, Nat.reduceLT, Nat.reduceLeDiff, reduceCtorEq])) ?_
      simp only [go_sem, if_true, if_false, reduceIte, Nat.reduceEqDiff, Nat.reduceAdd, Nat.reduceLT, Nat.reduceLeDiff, reduceCtorEq]
      refine hK _ _ ?_; clear hX hK X K
      show IW _ _ _ _ _ _ _ _
      repeat refine IW.seq ?_
      refine IW.region_seq tab_ok [some 12, some 6] rfl fun X K hX hK => ?_
      simp only [go_sem, if_true, if_false, reduceIte, Nat.reduceEqDiff, Nat.reduceAdd, Nat.reduceLT, Nat.reduceLeDiff, reduceCtorEq]
      refine hK _ _ ?_; clear hX hK X K
      show IW _ _ _ _ _ _ _ _
      repeat refine IW.seq ?_
      refine IW.region_seq tab_ok [some 13, some 14, some 15, some 16] rfl fun X K hX hK => ?_
      simp only [go_sem, if_true, if_false, reduceIte, Nat.reduceEqDiff, Nat.reduceAdd, Nat.reduceLT, Nat.reduceLeDiff, reduceCtorEq]
      refine hX.op _ _ rfl (opS_callW (caps := [.ptr 3 0 0]) [3, 2] (by intro d e; cases e; decide) (by simp [go_sem, if_true, if_false, reduceIte, Nat.reduceEqDiff, Nat.reduceAdd, Nat.reduceLT, Nat.reduceLeDiff, reduceCtorEq]) (by simp) (by simp [go_sem, if_true, if_false, reduceIte, Nat.reduceEqDiff, Nat.reduceAdd, Nat.reduceLT, Nat.reduceLeDiff, reduceCtorEq, cell_reW, nums_reWrow]) (by simp [go_sem, if_true, if_false, reduceIte, Nat.reduceEqDiff, Nat.reduceAdd, Nat.reduceLT, Nat.reduceLeDiff, reduceCtorEq, reW]) hb1) ?_
      simp only [go_sem, if_true, if_false, reduceIte, Nat.reduceEqDiff, Nat.reduceAdd, Nat.reduceLT, Nat.reduceLeDiff, reduceCtorEq, cell_upd]
      refine hK _ _ ?_; clear hX hK X K
      show IW _ _ _ _ _ _ _ _
      repeat refine IW.seq ?_
      refine IW.region_seq tab_ok [some 17, some 18, some 19] rfl fun X K hX hK => ?_
      simp only [go_sem, if_true, if_false, reduceIte, Nat.reduceEqDiff, Nat.reduceAdd, Nat.reduceLT, Nat.reduceLeDiff, reduceCtorEq]
      refine hX.quiet _ _ (OpG.of_B rfl (opB_buildSlice tab_ok rfl (by simp [go_sem, if_true, if_false, reduceIte, Nat.reduceEqDiff, Nat.reduceAdd, Nat.reduceLT, Nat.reduceLeDiff, reduceCtorEq]) (by simp [go_sem, if_true, if_false, reduceIte, Nat.reduceEqDiff, Nat.reduceAdd, Nat.reduceLT, Nat.reduceLeDiff, reduceCtorEq]) (by simp) (by simp [go_sem, if_true, if_false, reduceIte, Nat.reduceEqDiff, Nat.reduceAdd, Nat.reduceLT, Nat.reduceLeDiff, reduceCtorEq, bsO, List.map_cons, List.map_nil]))) ?_
      simp only [go_sem, if_true, if_false, reduceIte, Nat.reduceEqDiff, Nat.reduceAdd, Nat.reduceLT, Nat.reduceLeDiff, reduceCtorEq, List.map_cons, List.map_nil]
      have hcn : FSpec Try.prog 64 [.sl true [[.int .i64 8], [.int .i64 9], [.int .i64 14], [.int .i64 15]], .int .i64 y] (.bool (hasS [8, 9, 14, 15] (y : Int))) [] := fContains [8, 9, 14, 15] y (by simp)
      refine hX.quiet _ _ (OpG.of_B rfl (opB_call rfl rfl (FSpec.nz (hcn) (by simp [go_sem, if_true, if_false, reduceIte, Nat.reduceEqDiff, Nat.reduceAdd, Nat.reduceLT, Nat.reduceLeDiff, reduceCtorEq, List.map_cons, List.map_nil, List.append_nil, opnd, unc, rei, rowXs, hrow, nz_sl, List.map_cons, List.map_nil])))) ?_
      simp only [go_sem, if_true, if_false, reduceIte, Nat.reduceEqDiff, Nat.reduceAdd, Nat.reduceLT, Nat.reduceLeDiff, reduceCtorEq, rei, rowXs, hrow, nz_sl, List.map_cons, List.map_nil]
      refine hK _ _ ?_; clear hX hK X K
      show IW _ _ _ _ _ _ _ _
      have hby := hbar y
      repeat refine IW.seq ?_
      refine IW.joinI (α := Unit) (fun _ => [(1, .ptr 0 0 0), (3, apS L), (5, .ptr 3 0 0), (7, .int .i64 y)]) (fun _ => [some ⟨6, 116, [[.int .i64 a, .int .i64 b, .int .i64 c, .int .i64 d, .int .i64 e, .int .i64 f]]⟩, wpS L, some ⟨1, 5 + softK, nums .u8 (barB a b c d e f y)⟩, some ⟨1, 31, [[.ref 2 0 10]]⟩]) ?_ fun _ => ?_
      · refine IW.cond rfl (fun hb4 => ?_) (fun hb4 => ?_)
        · rw [hb4, if_pos rfl] at hby
          repeat refine IW.seq ?_
          refine IW.region_seq tab_ok [some 20, some 21, some 22, some 23] rfl fun X K hX hK => ?_
          simp only [go_sem, if_true, if_false, reduceIte, Nat.reduceEqDiff, Nat.reduceAdd, Nat.reduceLT, Nat.reduceLeDiff, reduceCtorEq]
          refine hX.op _ _ rfl (opS_callW (caps := [.ptr 3 0 0]) [3, 2] (by intro d e; cases e; decide) (by simp [go_sem, if_true, if_false, reduceIte, Nat.reduceEqDiff, Nat.reduceAdd, Nat.reduceLT, Nat.reduceLeDiff, reduceCtorEq]) (by simp) (by simp [go_sem, if_true, if_false, reduceIte, Nat.reduceEqDiff, Nat.reduceAdd, Nat.reduceLT, Nat.reduceLeDiff, reduceCtorEq, cell_reW, nums_reWrow]) (by simp [go_sem, if_true, if_false, reduceIte, Nat.reduceEqDiff, Nat.reduceAdd, Nat.reduceLT, Nat.reduceLeDiff, reduceCtorEq, reW]) hb2) ?_
          simp only [go_sem, if_true, if_false, reduceIte, Nat.reduceEqDiff, Nat.reduceAdd, Nat.reduceLT, Nat.reduceLeDiff, reduceCtorEq, cell_upd]
          refine hK _ _ ⟨(), ?_⟩
          cases L with
          | nil =>
            refine Ent.cut ?_ ?_ <;> simp only [go_sem, if_true, if_false, reduceIte, Nat.reduceEqDiff, Nat.reduceAdd, Nat.reduceLT, Nat.reduceLeDiff, reduceCtorEq, hby, apS, wpS]
          | cons s l =>
            refine Ent.cut ?_ ?_ <;> simp only [go_sem, if_true, if_false, reduceIte, Nat.reduceEqDiff, Nat.reduceAdd, Nat.reduceLT, Nat.reduceLeDiff, reduceCtorEq, hby, apS, wpS]
        · rw [hb4, if_neg (by simp)] at hby
          refine IW.skip ⟨(), ?_⟩
          cases L with
          | nil =>
            refine Ent.cut ?_ ?_ <;> simp only [go_sem, if_true, if_false, reduceIte, Nat.reduceEqDiff, Nat.reduceAdd, Nat.reduceLT, Nat.reduceLeDiff, reduceCtorEq, hby, apS, wpS]
          | cons s l =>
            refine Ent.cut ?_ ?_ <;> simp only [go_sem, if_true, if_false, reduceIte, Nat.reduceEqDiff, Nat.reduceAdd, Nat.reduceLT, Nat.reduceLeDiff, reduceCtorEq, hby, apS, wpS]
      · have hbb := barB_length a b c d e f y
        have htk : (nums .u8 (barB a b c d e f y)).take 10 = nums .u8 (barB a b c d e f y) := List.take_of_length_le (by rw [nums_length, hbb]; omega)
        repeat refine IW.seq ?_
        refine IW.region_seq tab_ok [some 24, some 25, some 26, some 27, some 28, some 3] rfl fun X K hX hK => ?_
        simp only [go_sem, if_true, if_false, reduceIte, Nat.reduceEqDiff, Nat.reduceAdd, Nat.reduceLT, Nat.reduceLeDiff, reduceCtorEq]
        refine hX.quiet _ _ (OpG.of_B rfl (opB_bytesStr tab_ok (e := 5) (xs := barB a b c d e f y) (by simp [go_sem, if_true, if_false, reduceIte, Nat.reduceEqDiff, Nat.reduceAdd, Nat.reduceLT, Nat.reduceLeDiff, reduceCtorEq, srcO, htk, hbb]) (by omega) rfl rfl rfl)) ?_
        simp only [go_sem, if_true, if_false, reduceIte, Nat.reduceEqDiff, Nat.reduceAdd, Nat.reduceLT, Nat.reduceLeDiff, reduceCtorEq]
        refine hX.quiet _ _ (OpG.of_B rfl (opB_buildSlice tab_ok rfl (by simp [go_sem, if_true, if_false, reduceIte, Nat.reduceEqDiff, Nat.reduceAdd, Nat.reduceLT, Nat.reduceLeDiff, reduceCtorEq]) (by simp [go_sem, if_true, if_false, reduceIte, Nat.reduceEqDiff, Nat.reduceAdd, Nat.reduceLT, Nat.reduceLeDiff, reduceCtorEq]) (by simp) (by simp [go_sem, if_true, if_false, reduceIte, Nat.reduceEqDiff, Nat.reduceAdd, Nat.reduceLT, Nat.reduceLeDiff, reduceCtorEq, bsO, List.map_cons, List.map_nil]))) ?_
        simp only [go_sem, if_true, if_false, reduceIte, Nat.reduceEqDiff, Nat.reduceAdd, Nat.reduceLT, Nat.reduceLeDiff, reduceCtorEq, List.map_cons, List.map_nil]
        refine pushS (s := Go.IL.strOf (barB a b c d e f y)) (l := L) hX (by simp [go_sem, if_true, if_false, reduceIte, Nat.reduceEqDiff, Nat.reduceAdd, Nat.reduceLT, Nat.reduceLeDiff, reduceCtorEq]) (by simp [go_sem, if_true, if_false, reduceIte, Nat.reduceEqDiff, Nat.reduceAdd, Nat.reduceLT, Nat.reduceLeDiff, reduceCtorEq]) (by omega) (by intro d e; cases e; decide) ?_
        simp only [go_sem, if_true, if_false, reduceIte, Nat.reduceEqDiff, Nat.reduceAdd, Nat.reduceLT, Nat.reduceLeDiff, reduceCtorEq]
        refine hK _ _ ?_; clear hX hK X K
        show IW _ _ _ _ _ _ _ _
        repeat refine IW.seq ?_
        refine IW.region_seq tab_ok [some 29, some 7] rfl fun X K hX hK => ?_
        simp only [go_sem, if_true, if_false, reduceIte, Nat.reduceEqDiff, Nat.reduceAdd, Nat.reduceLT, Nat.reduceLeDiff, reduceCtorEq, succ_wrap hy25 (by omega)]
        refine hK _ _ ⟨⟨y + 1, hy25⟩, by simp only []; omega, ?_⟩
        simp only [hsn, apS_snoc, wpS_snoc]
        refine Ent.ren [0, 5] rfl (by decide) ?_ ?_ (fun id ri e => by cases e) <;> simp [go_sem, if_true, if_false, reduceIte, Nat.reduceEqDiff, Nat.reduceAdd, Nat.reduceLT, Nat.reduceLeDiff, reduceCtorEq, subT, subH, sg, SV.ren, Row.ren, strs_ren]
    · refine IW.exit ?_
      show IW _ _ _ _ _ _ _ _
      simp only [decide_eq_false_iff_not] at hb3
      obtain rfl : y = 25 := by omega
      have e25 := barL_succ a b c d e f 24
      have e1 : apS (barL a b c d e f 25) = .ref 1 0 25 := by rw [e25, apS_snoc, barL_length]
      have e2 : wpS (barL a b c d e f 25) = some ⟨1, 9, strs (barL a b c d e f 25)⟩ := by rw [e25, wpS_snoc]
      rw [e1, e2]
      repeat refine IW.seq ?_
      refine IW.region_seq tab_ok [some 30, some 2] rfl fun X K hX hK => ?_
      simp only [go_sem, if_true, if_false, reduceIte, Nat.reduceEqDiff, Nat.reduceAdd, Nat.reduceLT, Nat.reduceLeDiff, reduceCtorEq]
      refine hK _ _ ?_; clear hX hK X K
      show IW _ _ _ _ _ _ _ _
      refine IW.ret (Fin.tmp1 1 rfl (strs_nold' _) (by simp [go_sem, if_true, if_false, reduceIte, Nat.reduceEqDiff, Nat.reduceAdd, Nat.reduceLT, Nat.reduceLeDiff, reduceCtorEq]) (by simp [go_sem, if_true, if_false, reduceIte, Nat.reduceEqDiff, Nat.reduceAdd, Nat.reduceLT, Nat.reduceLeDiff, reduceCtorEq, hrow, Row.ren, strs_ren]))
end Go.Proofs.Ytnbpbehlemaeoaa

set_option linter.unusedVariables false
set_option linter.unusedSimpArgs false
set_option maxRecDepth 10000
namespace Go.Proofs.Ytnbpbehlemaeoaa
open Go.IL
theorem fBarC (a b c d e f : Int) (ha : colOk a) (hb : colOk b) (hc : colOk c) (hd : colOk d) (he : colOk e) (hf : colOk f) :
    FSpec Try.prog 86 [.agg [.int .i64 a, .int .i64 b, .int .i64 c, .int .i64 d, .int .i64 e, .int .i64 f]] (.sl false (strs (barL a b c d e f 25))) [] := by
  have h1 := FSpec.freeze 3 (fBarRows a b c d e f ha hb hc hd he hf)
  have h2 : (rei 3 ([(⟨1, 9, strs (barL a b c d e f 25)⟩ : Row)].map some) (.ref 0 0 25)).unold = .sl false (strs (barL a b c d e f 25)) := by
    have hx : rei 3 ([(⟨1, 9, strs (barL a b c d e f 25)⟩ : Row)].map some) (.ref 0 0 25) = .sl true (strs (barL a b c d e f 25)) := by
      have h3 : (strs (barL a b c d e f 25)).take 25 = strs (barL a b c d e f 25) := List.take_of_length_le (by rw [strs_length, barL_length]; omega)
      have h4 : rowXs ([(⟨1, 9, strs (barL a b c d e f 25)⟩ : Row)].map some) 0 = strs (barL a b c d e f 25) := rfl
      rw [rei_ref 2 _ 0 0 25 ⟨by rw [h4, strs_length, barL_length]; omega, rfl⟩, h4, List.drop_zero, h3, strs_rei]
    rw [hx]
    simp only [SV.unold, strs_unold]
  rw [h2] at h1; exact h1
theorem build114 (a b c : Int) (w : World) : (Instr.build 114 #[(0, .int .i64 a), (1, .int .i64 b), (2, .int .i64 c)]).run Try.prog w = .ok (.agg #[.int .i64 a, .int .i64 b, .int .i64 c]) w := by kernel_rfl
theorem opB_arr {dst : Option Nat} {ty : TypeId} {pos : String} {after : Array Edge} {guard : Option (Nat × Bool)} {g : Operand → SV} {h : Heap} {a b c : Int} :
    OpB Try.prog ⟨dst, .build 114 #[(0, .const (.int .i64 a)), (1, .const (.int .i64 b)), (2, .const (.int .i64 c))], ty, pos, after, guard⟩ g h (.agg [.int .i64 a, .int .i64 b, .int .i64 c]) [] := by
  refine opB_ok fun ρ O F w act hs hr => ⟨.agg #[.int .i64 a, .int .i64 b, .int .i64 c], ?_, ?_⟩
  · simp only [execOp, List.map_toArray, List.map_cons, List.map_nil]
    rw [run_bind]
    have e : (Instr.build 114 #[(0, act.eval (.const (.int .i64 a))), (1, act.eval (.const (.int .i64 b))), (2, act.eval (.const (.int .i64 c)))]).run Try.prog w = .ok (.agg #[.int .i64 a, .int .i64 b, .int .i64 c]) w := build114 a b c w
    rw [e]
    rfl
  · exact .agg _ _ rfl fun i s v e1 e2 => by
      match i with
      | 0 => cases e1; cases e2; exact .int _ _
      | 1 => cases e1; cases e2; exact .int _ _
      | 2 => cases e1; cases e2; exact .int _ _
      | i + 3 => simp at e1
/-- The barlines. -/
def barD : List (Int × List ByteArray) := [(1, barL 5 (-1) (-1) (-1) (-1) (-1) 25), (2, barL 4 6 (-1) (-1) (-1) (-1) 25), (3, barL 4 6 7 (-1) (-1) (-1) 25), (4, barL 3 4 6 8 9 (-1) 25), (5, barL 4 6 7 1 2 (-1) 25)]
def barE (k : Nat) : Int × List ByteArray := barD.getD k (0, [])
def barI : List (Nat × Nat) := [(1, 4), (2, 5), (3, 6), (4, 7), (6, 8), (7, 9), (8, 10), (9, 11), (11, 12), (12, 13), (13, 14), (14, 15), (16, 16), (17, 17), (18, 18), (19, 19), (21, 20), (22, 21), (23, 22), (24, 23)]
def barV : Nat → SV
  | 1 => .agg [.int .i64 5, .int .i64 (-1), .int .i64 (-1)]
  | 2 => .agg [.int .i64 (-1), .int .i64 (-1), .int .i64 (-1)]
  | 3 => .agg [.int .i64 5, .int .i64 (-1), .int .i64 (-1), .int .i64 (-1), .int .i64 (-1), .int .i64 (-1)]
  | 4 => .sl false (strs (barL 5 (-1) (-1) (-1) (-1) (-1) 25))
  | 6 => .agg [.int .i64 4, .int .i64 6, .int .i64 (-1)]
  | 7 => .agg [.int .i64 (-1), .int .i64 (-1), .int .i64 (-1)]
  | 8 => .agg [.int .i64 4, .int .i64 6, .int .i64 (-1), .int .i64 (-1), .int .i64 (-1), .int .i64 (-1)]
  | 9 => .sl false (strs (barL 4 6 (-1) (-1) (-1) (-1) 25))
  | 11 => .agg [.int .i64 4, .int .i64 6, .int .i64 7]
  | 12 => .agg [.int .i64 (-1), .int .i64 (-1), .int .i64 (-1)]
  | 13 => .agg [.int .i64 4, .int .i64 6, .int .i64 7, .int .i64 (-1), .int .i64 (-1), .int .i64 (-1)]
  | 14 => .sl false (strs (barL 4 6 7 (-1) (-1) (-1) 25))
  | 16 => .agg [.int .i64 3, .int .i64 4, .int .i64 6]
  | 17 => .agg [.int .i64 8, .int .i64 9, .int .i64 (-1)]
  | 18 => .agg [.int .i64 3, .int .i64 4, .int .i64 6, .int .i64 8, .int .i64 9, .int .i64 (-1)]
  | 19 => .sl false (strs (barL 3 4 6 8 9 (-1) 25))
  | 21 => .agg [.int .i64 4, .int .i64 6, .int .i64 7]
  | 22 => .agg [.int .i64 1, .int .i64 2, .int .i64 (-1)]
  | 23 => .agg [.int .i64 4, .int .i64 6, .int .i64 7, .int .i64 1, .int .i64 2, .int .i64 (-1)]
  | 24 => .sl false (strs (barL 4 6 7 1 2 (-1) 25))
  | _ => .any
theorem barV_nomap : ∀ p ∈ barI, (barV p.1).nomap = true := by
  intro p hp
  simp only [barI, List.mem_cons, List.not_mem_nil, or_false] at hp
  rcases hp with rfl | rfl | rfl | rfl | rfl | rfl | rfl | rfl | rfl | rfl | rfl | rfl | rfl | rfl | rfl | rfl | rfl | rfl | rfl | rfl <;> simp [barV, SV.nomap, nomapL, strs_nomap]
structure BI (listed : Array Bool) (tm : TM) : Prop where
  box : tm.get 1 = .ptr 0 0 0
  val : ∀ p ∈ barI, listed.getD p.1 false = true → tm.get p.2 = barV p.1
  ins : ∀ k, k < 5 → listed.getD (5 * k + 5) false = true → listed.getD 0 false = true
  map : listed.getD 0 false = true → ∃ l : List Nat, l.Nodup ∧ (∀ k, k ∈ l ↔ k < 5 ∧ listed.getD (5 * k + 5) false = true) ∧ tm.get 3 = .mp false (mapX (l.map barE))
  mov : listed.getD 26 false = true → (∀ j, j < 26 → listed.getD j false = true) ∧ ∃ d : List (Int × List ByteArray), d.Perm barD ∧ tm.get 24 = mapC d
  res : listed.getD 27 false = true → listed.getD 26 false = true ∧ ∃ d : List (Int × List ByteArray), d.Perm barD ∧ tm.get 0 = mapC d
theorem set_get {listed : Array Bool} {i : Nat} (hi : i < listed.size) : (listed.setIfInBounds i true).getD i false = true := by simp [hi]
/-- None of the last two has been carried out before what they wait for. -/
theorem BI.late {listed : Array Bool} {tm : TM} (h : BI listed tm) {i : Nat} (hi : i < 26) (hun : listed.getD i false = false) : listed.getD 26 false = false ∧ listed.getD 27 false = false := by
  have h1 : listed.getD 26 false = false := by
    cases c : listed.getD 26 false with
    | false => rfl
    | true => have := (h.mov c).1 i hi; rw [hun] at this; cases this
  refine ⟨h1, ?_⟩
  cases c : listed.getD 27 false with
  | false => rfl
  | true => have := (h.res c).1; rw [h1] at this; cases this
theorem BI.put {listed : Array Bool} {tm : TM} {i d : Nat} (h : BI listed tm) (hp : (i, d) ∈ barI) (hun : listed.getD i false = false) : BI (listed.setIfInBounds i true) (tm.put (some d) (barV i)) := by
  have hi26 : i < 26 := (show ∀ p ∈ barI, p.1 < 26 by decide) _ hp
  have hne : i ≠ 0 := (show ∀ p ∈ barI, p.1 ≠ 0 by decide) _ hp
  have hni : ∀ k, k < 5 → i ≠ 5 * k + 5 := fun k hk => (show ∀ p ∈ barI, ∀ k, k < 5 → p.1 ≠ 5 * k + 5 by decide) _ hp k hk
  have hd : d ≠ 0 ∧ d ≠ 1 ∧ d ≠ 3 ∧ d ≠ 24 := (show ∀ p ∈ barI, p.2 ≠ 0 ∧ p.2 ≠ 1 ∧ p.2 ≠ 3 ∧ p.2 ≠ 24 by decide) _ hp
  have hinj : ∀ p ∈ barI, p.1 ≠ i → p.2 ≠ d := fun p hp' hn e => (show ∀ p ∈ barI, ∀ r ∈ barI, p.1 ≠ r.1 → p.2 ≠ r.2 by decide) p hp' _ hp hn e
  have hfn : ∀ p ∈ barI, p.1 = i → p.2 = d := fun p hp' hn => (show ∀ p ∈ barI, ∀ r ∈ barI, p.1 = r.1 → p.2 = r.2 by decide) p hp' _ hp hn
  obtain ⟨l26, l27⟩ := h.late hi26 hun
  have hg : ∀ j, i ≠ j → (listed.setIfInBounds i true).getD j false = listed.getD j false := fun j hj => getD_set_ne false hj
  have ht : ∀ t, d ≠ t → (tm.put (some d) (barV i)).get t = tm.get t := fun t ht => by show (if d = t then _ else _) = _; rw [if_neg ht]
  refine ⟨?_, fun p hp' hl => ?_, fun k hk hl => ?_, fun hl => ?_, fun hl => ?_, fun hl => ?_⟩
  · rw [ht 1 hd.2.1]; exact h.box
  · by_cases c : p.1 = i
    · have := hfn p hp' c
      rw [this, c]
      show (if d = d then _ else _) = _
      rw [if_pos rfl]
    · rw [hg _ (fun e => c e.symm)] at hl
      rw [ht _ (fun e => hinj p hp' c e.symm)]
      exact h.val p hp' hl
  · rw [hg _ (hni k hk)] at hl
    rw [hg _ hne]; exact h.ins k hk hl
  · rw [hg _ hne] at hl
    obtain ⟨l, h1, h2, h3⟩ := h.map hl
    refine ⟨l, h1, fun k => ?_, by rw [ht 3 hd.2.2.1]; exact h3⟩
    rw [h2 k]
    constructor
    · rintro ⟨a1, a2⟩; exact ⟨a1, by rw [hg _ (hni k a1)]; exact a2⟩
    · rintro ⟨a1, a2⟩; exact ⟨a1, by rw [hg _ (hni k a1)] at a2; exact a2⟩
  · rw [hg _ (by omega), l26] at hl; cases hl
  · rw [hg _ (by omega), l27] at hl; cases hl
theorem BI.make {listed : Array Bool} {tm : TM} (h : BI listed tm) (hun : listed.getD 0 false = false) (hs : 0 < listed.size) : BI (listed.setIfInBounds 0 true) (tm.put (some 3) (.mp false [])) := by
  obtain ⟨l26, l27⟩ := h.late (by omega) hun
  have hg : ∀ j, 0 ≠ j → (listed.setIfInBounds 0 true).getD j false = listed.getD j false := fun j hj => getD_set_ne false hj
  have ht : ∀ t, 3 ≠ t → (tm.put (some 3) (.mp false [])).get t = tm.get t := fun t ht => by show (if 3 = t then _ else _) = _; rw [if_neg ht]
  have hno : ∀ k, k < 5 → listed.getD (5 * k + 5) false = true → False := fun k hk hl => by have := h.ins k hk hl; rw [hun] at this; cases this
  refine ⟨?_, fun p hp' hl => ?_, fun k hk hl => ?_, fun hl => ⟨[], List.nodup_nil, fun k => ?_, rfl⟩, fun hl => ?_, fun hl => ?_⟩
  · rw [ht 1 (by decide)]; exact h.box
  · rw [hg _ (fun e => (show ∀ p ∈ barI, p.1 ≠ 0 by decide) _ hp' e.symm)] at hl
    rw [ht _ (fun e => (show ∀ p ∈ barI, p.2 ≠ 3 by decide) _ hp' e.symm)]
    exact h.val p hp' hl
  · exact set_get hs
  · refine ⟨fun e => by simp at e, fun ⟨a1, a2⟩ => ?_⟩
    rw [hg _ (by omega)] at a2
    exact (hno k a1 a2).elim
  · rw [hg _ (by omega), l26] at hl; cases hl
  · rw [hg _ (by omega), l27] at hl; cases hl
theorem mapX_append (a b : List (Int × List ByteArray)) : mapX (a ++ b) = mapX a ++ mapX b := by simp [mapX]
theorem mapX_ne {n : Int} : ∀ {d : List (Int × List ByteArray)}, (∀ e ∈ d, e.1 ≠ n) → keysNe n (mapX d) = true
  | [], _ => rfl
  | e :: d, h => by
    show ((e.1 != n) && keysNe n (mapX d)) = true
    rw [mapX_ne fun x hx => h x (List.mem_cons_of_mem _ hx)]
    have := h e (by simp)
    simp [this]
theorem barE_key {k : Nat} (hk : k < 5) : (barE k).1 = (k : Int) + 1 := by
  match k, hk with
  | 0, _ => rfl
  | 1, _ => rfl
  | 2, _ => rfl
  | 3, _ => rfl
  | 4, _ => rfl
theorem BI.insert {listed : Array Bool} {tm tm' : TM} {k : Nat} (h : BI listed tm) (hk : k < 5) (hun : listed.getD (5 * k + 5) false = false) (h0 : listed.getD 0 false = true) (hs : listed.size = 28) {l : List Nat} (h1 : l.Nodup) (h2 : ∀ k, k ∈ l ↔ k < 5 ∧ listed.getD (5 * k + 5) false = true)
    (he : tm' = (3, .mp false (mapX (l.map barE) ++ [[.int .i64 (barE k).1, .sl false (strs (barE k).2)]])) :: dropM tm) : BI (listed.setIfInBounds (5 * k + 5) true) tm' := by
  obtain ⟨l26, l27⟩ := h.late (show 5 * k + 5 < 26 by omega) hun
  have hg : ∀ j, 5 * k + 5 ≠ j → (listed.setIfInBounds (5 * k + 5) true).getD j false = listed.getD j false := fun j hj => getD_set_ne false hj
  have ht : ∀ t, 3 ≠ t → (tm.get t).nomap = true → tm'.get t = tm.get t := fun t ht hm => by
    rw [he]
    show (if 3 = t then _ else _) = _
    rw [if_neg ht, dropM_get, hm]; rfl
  have hni : ∀ p ∈ barI, 5 * k + 5 ≠ p.1 := fun p hp e => (show ∀ p ∈ barI, ∀ k, k < 5 → p.1 ≠ 5 * k + 5 by decide) _ hp k hk e.symm
  refine ⟨?_, fun p hp' hl => ?_, fun j hj hl => ?_, fun hl => ⟨l ++ [k], ?_, fun j => ?_, ?_⟩, fun hl => ?_, fun hl => ?_⟩
  · rw [ht 1 (by decide) (by rw [h.box]; rfl)]; exact h.box
  · rw [hg _ (hni p hp')] at hl
    have hv := h.val p hp' hl
    rw [ht _ (fun e => (show ∀ p ∈ barI, p.2 ≠ 3 by decide) _ hp' e.symm) (by rw [hv]; exact barV_nomap p hp')]
    exact hv
  · rw [hg _ (by omega)]; exact h0
  · rw [List.nodup_append]
    refine ⟨h1, by simp, fun x hx y hy e => ?_⟩
    obtain rfl : y = k := by simpa using hy
    subst e
    have := ((h2 x).1 hx).2
    rw [hun] at this; cases this
  · rw [List.mem_append, h2 j]
    by_cases c : j = k
    · subst c
      exact ⟨fun _ => ⟨hk, set_get (by omega)⟩, fun _ => .inr (by simp)⟩
    · rw [hg _ (by omega)]
      constructor
      · rintro (h | h)
        · exact h
        · exact absurd (by simpa using h) c
      · exact .inl
  · rw [he]
    show (if 3 = 3 then _ else _) = _
    rw [if_pos rfl, List.map_append, mapX_append]
    rfl
  · rw [hg _ (by omega), l26] at hl; cases hl
  · rw [hg _ (by omega), l27] at hl; cases hl
theorem perm5 {l : List Nat} (h1 : l.Nodup) (h2 : ∀ k, k ∈ l ↔ k < 5) : (l.map barE).Perm barD := by
  have h3 : l.Perm [0, 1, 2, 3, 4] := (List.perm_ext_iff_of_nodup h1 (by decide)).2 fun k => by
    rw [h2 k]; simp only [List.mem_cons, List.not_mem_nil, or_false]; omega
  exact (h3.map barE).trans (.of_eq rfl)
theorem BI.move {listed : Array Bool} {tm : TM} {d : List (Int × List ByteArray)} (h : BI listed tm) (hall : ∀ j, j < 26 → listed.getD j false = true) (hun : listed.getD 26 false = false) (hs : listed.size = 28) (hd : d.Perm barD) : BI (listed.setIfInBounds 26 true) (tm.put (some 24) (mapC d)) := by
  have hg : ∀ j, 26 ≠ j → (listed.setIfInBounds 26 true).getD j false = listed.getD j false := fun j hj => getD_set_ne false hj
  have ht : ∀ t, 24 ≠ t → (tm.put (some 24) (mapC d)).get t = tm.get t := fun t ht => by show (if 24 = t then _ else _) = _; rw [if_neg ht]
  refine ⟨?_, fun p hp' hl => ?_, fun k hk hl => ?_, fun hl => ?_, fun hl => ⟨fun j hj => ?_, d, hd, rfl⟩, fun hl => ?_⟩
  · rw [ht 1 (by decide)]; exact h.box
  · rw [hg _ (fun e => (show ∀ p ∈ barI, p.1 ≠ 26 by decide) _ hp' e.symm)] at hl
    rw [ht _ (fun e => (show ∀ p ∈ barI, p.2 ≠ 24 by decide) _ hp' e.symm)]
    exact h.val p hp' hl
  · rw [hg _ (by omega)]; exact hall 0 (by omega)
  · rw [hg _ (by omega)] at hl
    obtain ⟨l, h1, h2, h3⟩ := h.map hl
    refine ⟨l, h1, fun k => ?_, by rw [ht 3 (by decide)]; exact h3⟩
    rw [h2 k]
    constructor
    · rintro ⟨a1, a2⟩; exact ⟨a1, by rw [hg _ (by omega)]; exact a2⟩
    · rintro ⟨a1, a2⟩; exact ⟨a1, by rw [hg _ (by omega)] at a2; exact a2⟩
  · rw [hg _ (by omega)]; exact hall j hj
  · rw [hg _ (by omega)] at hl
    have := (h.res hl).1
    rw [hun] at this; cases this
theorem BI.last {listed : Array Bool} {tm : TM} {d : List (Int × List ByteArray)} (h : BI listed tm) (h26 : listed.getD 26 false = true) (hs : listed.size = 28) (hd : d.Perm barD) : BI (listed.setIfInBounds 27 true) (tm.put (some 0) (mapC d)) := by
  have hg : ∀ j, 27 ≠ j → (listed.setIfInBounds 27 true).getD j false = listed.getD j false := fun j hj => getD_set_ne false hj
  have ht : ∀ t, 0 ≠ t → (tm.put (some 0) (mapC d)).get t = tm.get t := fun t ht => by show (if 0 = t then _ else _) = _; rw [if_neg ht]
  obtain ⟨hall, d', hd', he'⟩ := h.mov h26
  refine ⟨?_, fun p hp' hl => ?_, fun k hk hl => ?_, fun hl => ?_, fun hl => ⟨fun j hj => ?_, d', hd', ?_⟩, fun hl => ⟨?_, d, hd, rfl⟩⟩
  · rw [ht 1 (by decide)]; exact h.box
  · rw [hg _ (fun e => (show ∀ p ∈ barI, p.1 ≠ 27 by decide) _ hp' e.symm)] at hl
    rw [ht _ (fun e => (show ∀ p ∈ barI, p.2 ≠ 0 by decide) _ hp' e.symm)]
    exact h.val p hp' hl
  · rw [hg _ (by omega)]; exact hall 0 (by omega)
  · rw [hg _ (by omega)] at hl
    obtain ⟨l, h1, h2, h3⟩ := h.map hl
    refine ⟨l, h1, fun k => ?_, by rw [ht 3 (by decide)]; exact h3⟩
    rw [h2 k]
    constructor
    · rintro ⟨a1, a2⟩; exact ⟨a1, by rw [hg _ (by omega)]; exact a2⟩
    · rintro ⟨a1, a2⟩; exact ⟨a1, by rw [hg _ (by omega)] at a2; exact a2⟩
  · rw [hg _ (by omega)]; exact hall j hj
  · rw [ht 24 (by decide)]; exact he'
  · rw [hg _ (by omega)]; exact h26
theorem rep_false (n i : Nat) : (Array.replicate n false).getD i false = false := by by_cases h : i < n <;> simp [h]
theorem mapX_nold : ∀ d : List (Int × List ByteArray), noldLL (mapX d) = true
  | [] => rfl
  | e :: d => by show (noldL [SV.int .i64 e.1, SV.sl false (strs e.2)] && noldLL (mapX d)) = true; rw [mapX_nold d]; simp [noldL, SV.nold, strs_nold']
theorem mapC_nold (d : List (Int × List ByteArray)) : (mapC d).nold = true := by simp [mapC, SV.nold, mapX_nold]
def barDs : List (Option Nat) := [some 3, some 4, some 5, some 6, some 7, none, some 8, some 9, some 10, some 11, none, some 12, some 13, some 14, some 15, none, some 16, some 17, some 18, some 19, none, some 20, some 21, some 22, some 23, none, some 24, some 0]
theorem SC_one {ops : Array Oper} {O : Nat → Prop} {w0 : Ctx} {N : Nat} (D : List (Option Nat)) (hN : dstB N ops D = true) {i : Nat} {o : Oper} (ho : ops[i]? = some o) {tm : TM} {h : Heap} {K : TM → Heap → Prop} (he : E tab D (XS0 Try.prog O w0 N ops) [o] tm h K) : SC Try.prog O w0 N ops i 1 tm h K :=
  E_SC tab_ok hN [o] i tm h K (fun j o' e => by
    cases j with
    | zero => simp at e; subst e; exact ho
    | succ j => simp at e) he

set_option maxHeartbeats 4000000 in
theorem fBars : FSpecE Try.prog 75 [] (fun d : List (Int × List ByteArray) => d.Perm barD) mapC := by
  refine FSpecE.intro tab_ok Try.func75 rfl rfl rfl (by kernel_rfl) (by simp) fun w0 => ?_
  simp only [argTM, Nat.zero_add, Nat.reduceAdd]
  repeat refine IW.seq ?_
  refine IW.region_seq tab_ok [some 0] rfl fun X K hX hK => ?_
  simp only [go_sem, if_true, if_false, reduceIte, Nat.reduceEqDiff, Nat.reduceAdd, Nat.reduceLT, Nat.reduceLeDiff, reduceCtorEq]
  refine hK _ _ ?_; clear hX hK X K
  show IW _ _ _ _ _ _ _ _
  repeat refine IW.seq ?_
  refine IW.region_seq tab_ok [some 2, some 1, none] rfl fun X K hX hK => ?_
  simp only [go_sem, if_true, if_false, reduceIte, Nat.reduceEqDiff, Nat.reduceAdd, Nat.reduceLT, Nat.reduceLeDiff, reduceCtorEq]
  refine hX.quiet _ _ (OpG.of_B rfl opB_arr) ?_
  simp only [go_sem, if_true, if_false, reduceIte, Nat.reduceEqDiff, Nat.reduceAdd, Nat.reduceLT, Nat.reduceLeDiff, reduceCtorEq]
  refine hX.op _ _ rfl (opS_store tab_ok rfl (by simp [go_sem, if_true, if_false, reduceIte, Nat.reduceEqDiff, Nat.reduceAdd, Nat.reduceLT, Nat.reduceLeDiff, reduceCtorEq]) (by simp [go_sem, if_true, if_false, reduceIte, Nat.reduceEqDiff, Nat.reduceAdd, Nat.reduceLT, Nat.reduceLeDiff, reduceCtorEq]) (by simp [go_sem, if_true, if_false, reduceIte, Nat.reduceEqDiff, Nat.reduceAdd, Nat.reduceLT, Nat.reduceLeDiff, reduceCtorEq]) (by simp [go_sem, if_true, if_false, reduceIte, Nat.reduceEqDiff, Nat.reduceAdd, Nat.reduceLT, Nat.reduceLeDiff, reduceCtorEq]) (by simp [go_sem, if_true, if_false, reduceIte, Nat.reduceEqDiff, Nat.reduceAdd, Nat.reduceLT, Nat.reduceLeDiff, reduceCtorEq]) (by simp [go_sem, if_true, if_false, reduceIte, Nat.reduceEqDiff, Nat.reduceAdd, Nat.reduceLT, Nat.reduceLeDiff, reduceCtorEq])) ?_
  simp only [go_sem, if_true, if_false, reduceIte, Nat.reduceEqDiff, Nat.reduceAdd, Nat.reduceLT, Nat.reduceLeDiff, reduceCtorEq]
  refine hK _ _ ?_; clear hX hK X K
  show IW _ _ _ _ _ _ _ _
  repeat refine IW.seq ?_
  refine IW.region_lattice mixed (by kernel_rfl) BI ?_ (fun listed tm i o hsz hI ho hun hall => ?_) fun listed tm hl hI => ?_
  · refine ⟨by simp [go_sem, if_true, if_false, reduceIte, Nat.reduceEqDiff, Nat.reduceAdd, Nat.reduceLT, Nat.reduceLeDiff, reduceCtorEq], fun p hp h => ?_, fun k hk h => ?_, fun h => ?_, fun h => ?_, fun h => ?_⟩ <;> (rw [rep_false] at h; cases h)
  · have hi : i < 28 := (Array.getElem?_eq_some_iff.1 ho).1
    refine SC_one barDs rfl ho ?_
    match i, hi, ho, hun, hall with
    | 0, _, ho, hun, hall =>
      simp only [List.getElem?_toArray, List.getElem?_cons_succ, List.getElem?_cons_zero, Option.some.injEq] at ho
      subst ho
      refine (XS0_ok (D := barDs) tab_ok rfl).quiet _ _ (OpG.of_B rfl opB_makeMap) ?_
      exact ⟨rfl, hI.make hun (by rw [hsz]; decide)⟩
    | 1, _, ho, hun, hall =>
      simp only [List.getElem?_toArray, List.getElem?_cons_succ, List.getElem?_cons_zero, Option.some.injEq] at ho
      subst ho
      refine (XS0_ok (D := barDs) tab_ok rfl).quiet _ _ (OpG.of_B rfl opB_arr) ?_
      exact ⟨rfl, hI.put (by decide) hun⟩
    | 2, _, ho, hun, hall =>
      simp only [List.getElem?_toArray, List.getElem?_cons_succ, List.getElem?_cons_zero, Option.some.injEq] at ho
      subst ho
      simp only [go_sem, if_true, if_false, reduceIte, Nat.reduceEqDiff, Nat.reduceAdd, Nat.reduceLT, Nat.reduceLeDiff, reduceCtorEq, hI.box]
      exact hI.put (i := 2) (d := 5) (by decide) hun
    | 3, _, ho, hun, hall =>
      simp only [List.getElem?_toArray, List.getElem?_cons_succ, List.getElem?_cons_zero, Option.some.injEq] at ho
      subst ho
      have g1 : tm.get 4 = barV 1 := hI.val (1, 4) (by decide) (hall ⟨1, .data⟩ (by simp) rfl)
      have g2 : tm.get 5 = barV 2 := hI.val (2, 5) (by decide) (hall ⟨2, .data⟩ (by simp) rfl)
      simp only [barV] at g1 g2
      simp only [go_sem, if_true, if_false, reduceIte, Nat.reduceEqDiff, Nat.reduceAdd, Nat.reduceLT, Nat.reduceLeDiff, reduceCtorEq, g1, g2]
      exact hI.put (i := 3) (d := 6) (by decide) hun
    | 4, _, ho, hun, hall =>
      simp only [List.getElem?_toArray, List.getElem?_cons_succ, List.getElem?_cons_zero, Option.some.injEq] at ho
      subst ho
      have g1 : tm.get 6 = barV 3 := hI.val (3, 6) (by decide) (hall ⟨3, .data⟩ (by simp) rfl)
      simp only [barV] at g1
      refine (XS0_ok (D := barDs) tab_ok rfl).quiet _ _ (OpG.of_B rfl (opB_call rfl rfl (FSpec.nz (fBarC 5 (-1) (-1) (-1) (-1) (-1) (by unfold colOk; omega) (by unfold colOk; omega) (by unfold colOk; omega) (by unfold colOk; omega) (by unfold colOk; omega) (by unfold colOk; omega)) (by simp [go_sem, if_true, if_false, reduceIte, Nat.reduceEqDiff, Nat.reduceAdd, Nat.reduceLT, Nat.reduceLeDiff, reduceCtorEq, g1, nz])))) ?_
      simp only [go_sem, if_true, if_false, reduceIte, Nat.reduceEqDiff, Nat.reduceAdd, Nat.reduceLT, Nat.reduceLeDiff, reduceCtorEq, strs_ren]
      exact hI.put (i := 4) (d := 7) (by decide) hun
    | 5, _, ho, hun, hall =>
      simp only [List.getElem?_toArray, List.getElem?_cons_succ, List.getElem?_cons_zero, Option.some.injEq] at ho
      subst ho
      have g1 : tm.get 7 = barV 4 := hI.val (4, 7) (by decide) (hall ⟨4, .data⟩ (by simp) rfl)
      simp only [barV] at g1
      have h0 : listed.getD 0 false = true := hall ⟨0, .data⟩ (by simp) rfl
      obtain ⟨l, l1, l2, l3⟩ := hI.map h0
      have hkn : keysNe 1 (mapX (l.map barE)) = true := mapX_ne fun e he hk => by
        obtain ⟨j, hj, rfl⟩ := List.mem_map.1 he
        have hj5 := (l2 j).1 hj
        rw [barE_key hj5.1] at hk
        obtain rfl : j = 0 := by omega
        rw [hun] at hj5; cases hj5.2
      refine (XS0_ok (D := barDs) tab_ok rfl).op _ _ rfl (opS_insert l3 rfl (by simp [go_sem, if_true, if_false, reduceIte, Nat.reduceEqDiff, Nat.reduceAdd, Nat.reduceLT, Nat.reduceLeDiff, reduceCtorEq, g1]) m72 u3 hkn (by simp [go_sem, if_true, if_false, reduceIte, Nat.reduceEqDiff, Nat.reduceAdd, Nat.reduceLT, Nat.reduceLeDiff, reduceCtorEq]) (mapX_nomap _) (by decide)) ?_
      exact ⟨rfl, hI.insert (k := 0) (by decide) hun h0 hsz l1 l2 (by simp only [opnd, g1]; rfl)⟩
    | 6, _, ho, hun, hall =>
      simp only [List.getElem?_toArray, List.getElem?_cons_succ, List.getElem?_cons_zero, Option.some.injEq] at ho
      subst ho
      refine (XS0_ok (D := barDs) tab_ok rfl).quiet _ _ (OpG.of_B rfl opB_arr) ?_
      exact ⟨rfl, hI.put (by decide) hun⟩
    | 7, _, ho, hun, hall =>
      simp only [List.getElem?_toArray, List.getElem?_cons_succ, List.getElem?_cons_zero, Option.some.injEq] at ho
      subst ho
      simp only [go_sem, if_true, if_false, reduceIte, Nat.reduceEqDiff, Nat.reduceAdd, Nat.reduceLT, Nat.reduceLeDiff, reduceCtorEq, hI.box]
      exact hI.put (i := 7) (d := 9) (by decide) hun
    | 8, _, ho, hun, hall =>
      simp only [List.getElem?_toArray, List.getElem?_cons_succ, List.getElem?_cons_zero, Option.some.injEq] at ho
      subst ho
      have g1 : tm.get 8 = barV 6 := hI.val (6, 8) (by decide) (hall ⟨6, .data⟩ (by simp) rfl)
      have g2 : tm.get 9 = barV 7 := hI.val (7, 9) (by decide) (hall ⟨7, .data⟩ (by simp) rfl)
      simp only [barV] at g1 g2
      simp only [go_sem, if_true, if_false, reduceIte, Nat.reduceEqDiff, Nat.reduceAdd, Nat.reduceLT, Nat.reduceLeDiff, reduceCtorEq, g1, g2]
      exact hI.put (i := 8) (d := 10) (by decide) hun
    | 9, _, ho, hun, hall =>
      simp only [List.getElem?_toArray, List.getElem?_cons_succ, List.getElem?_cons_zero, Option.some.injEq] at ho
      subst ho
      have g1 : tm.get 10 = barV 8 := hI.val (8, 10) (by decide) (hall ⟨8, .data⟩ (by simp) rfl)
      simp only [barV] at g1
      refine (XS0_ok (D := barDs) tab_ok rfl).quiet _ _ (OpG.of_B rfl (opB_call rfl rfl (FSpec.nz (fBarC 4 6 (-1) (-1) (-1) (-1) (by unfold colOk; omega) (by unfold colOk; omega) (by unfold colOk; omega) (by unfold colOk; omega) (by unfold colOk; omega) (by unfold colOk; omega)) (by simp [go_sem, if_true, if_false, reduceIte, Nat.reduceEqDiff, Nat.reduceAdd, Nat.reduceLT, Nat.reduceLeDiff, reduceCtorEq, g1, nz])))) ?_
      simp only [go_sem, if_true, if_false, reduceIte, Nat.reduceEqDiff, Nat.reduceAdd, Nat.reduceLT, Nat.reduceLeDiff, reduceCtorEq, strs_ren]
      exact hI.put (i := 9) (d := 11) (by decide) hun
    | 10, _, ho, hun, hall =>
      simp only [List.getElem?_toArray, List.getElem?_cons_succ, List.getElem?_cons_zero, Option.some.injEq] at ho
      subst ho
      have g1 : tm.get 11 = barV 9 := hI.val (9, 11) (by decide) (hall ⟨9, .data⟩ (by simp) rfl)
      simp only [barV] at g1
      have h0 : listed.getD 0 false = true := hall ⟨0, .data⟩ (by simp) rfl
      obtain ⟨l, l1, l2, l3⟩ := hI.map h0
      have hkn : keysNe 2 (mapX (l.map barE)) = true := mapX_ne fun e he hk => by
        obtain ⟨j, hj, rfl⟩ := List.mem_map.1 he
        have hj5 := (l2 j).1 hj
        rw [barE_key hj5.1] at hk
        obtain rfl : j = 1 := by omega
        rw [hun] at hj5; cases hj5.2
      refine (XS0_ok (D := barDs) tab_ok rfl).op _ _ rfl (opS_insert l3 rfl (by simp [go_sem, if_true, if_false, reduceIte, Nat.reduceEqDiff, Nat.reduceAdd, Nat.reduceLT, Nat.reduceLeDiff, reduceCtorEq, g1]) m72 u3 hkn (by simp [go_sem, if_true, if_false, reduceIte, Nat.reduceEqDiff, Nat.reduceAdd, Nat.reduceLT, Nat.reduceLeDiff, reduceCtorEq]) (mapX_nomap _) (by decide)) ?_
      exact ⟨rfl, hI.insert (k := 1) (by decide) hun h0 hsz l1 l2 (by simp only [opnd, g1]; rfl)⟩
    | 11, _, ho, hun, hall =>
      simp only [List.getElem?_toArray, List.getElem?_cons_succ, List.getElem?_cons_zero, Option.some.injEq] at ho
      subst ho
      refine (XS0_ok (D := barDs) tab_ok rfl).quiet _ _ (OpG.of_B rfl opB_arr) ?_
      exact ⟨rfl, hI.put (by decide) hun⟩
    | 12, _, ho, hun, hall =>
      simp only [List.getElem?_toArray, List.getElem?_cons_succ, List.getElem?_cons_zero, Option.some.injEq] at ho
      subst ho
      simp only [go_sem, if_true, if_false, reduceIte, Nat.reduceEqDiff, Nat.reduceAdd, Nat.reduceLT, Nat.reduceLeDiff, reduceCtorEq, hI.box]
      exact hI.put (i := 12) (d := 13) (by decide) hun
    | 13, _, ho, hun, hall =>
      simp only [List.getElem?_toArray, List.getElem?_cons_succ, List.getElem?_cons_zero, Option.some.injEq] at ho
      subst ho
      have g1 : tm.get 12 = barV 11 := hI.val (11, 12) (by decide) (hall ⟨11, .data⟩ (by simp) rfl)
      have g2 : tm.get 13 = barV 12 := hI.val (12, 13) (by decide) (hall ⟨12, .data⟩ (by simp) rfl)
      simp only [barV] at g1 g2
      simp only [go_sem, if_true, if_false, reduceIte, Nat.reduceEqDiff, Nat.reduceAdd, Nat.reduceLT, Nat.reduceLeDiff, reduceCtorEq, g1, g2]
      exact hI.put (i := 13) (d := 14) (by decide) hun
    | 14, _, ho, hun, hall =>
      simp only [List.getElem?_toArray, List.getElem?_cons_succ, List.getElem?_cons_zero, Option.some.injEq] at ho
      subst ho
      have g1 : tm.get 14 = barV 13 := hI.val (13, 14) (by decide) (hall ⟨13, .data⟩ (by simp) rfl)
      simp only [barV] at g1
      refine (XS0_ok (D := barDs) tab_ok rfl).quiet _ _ (OpG.of_B rfl (opB_call rfl rfl (FSpec.nz (fBarC 4 6 7 (-1) (-1) (-1) (by unfold colOk; omega) (by unfold colOk; omega) (by unfold colOk; omega) (by unfold colOk; omega) (by unfold colOk; omega) (by unfold colOk; omega)) (by simp [go_sem, if_true, if_false, reduceIte, Nat.reduceEqDiff, Nat.reduceAdd, Nat.reduceLT, Nat.reduceLeDiff, reduceCtorEq, g1, nz])))) ?_
      simp only [go_sem, if_true, if_false, reduceIte, Nat.reduceEqDiff, Nat.reduceAdd, Nat.reduceLT, Nat.reduceLeDiff, reduceCtorEq, strs_ren]
      exact hI.put (i := 14) (d := 15) (by decide) hun
    | 15, _, ho, hun, hall =>
      simp only [List.getElem?_toArray, List.getElem?_cons_succ, List.getElem?_cons_zero, Option.some.injEq] at ho
      subst ho
      have g1 : tm.get 15 = barV 14 := hI.val (14, 15) (by decide) (hall ⟨14, .data⟩ (by simp) rfl)
      simp only [barV] at g1
      have h0 : listed.getD 0 false = true := hall ⟨0, .data⟩ (by simp) rfl
      obtain ⟨l, l1, l2, l3⟩ := hI.map h0
      have hkn : keysNe 3 (mapX (l.map barE)) = true := mapX_ne fun e he hk => by
        obtain ⟨j, hj, rfl⟩ := List.mem_map.1 he
        have hj5 := (l2 j).1 hj
        rw [barE_key hj5.1] at hk
        obtain rfl : j = 2 := by omega
        rw [hun] at hj5; cases hj5.2
      refine (XS0_ok (D := barDs) tab_ok rfl).op _ _ rfl (opS_insert l3 rfl (by simp [go_sem, if_true, if_false, reduceIte, Nat.reduceEqDiff, Nat.reduceAdd, Nat.reduceLT, Nat.reduceLeDiff, reduceCtorEq, g1]) m72 u3 hkn (by simp [go_sem, if_true, if_false, reduceIte, Nat.reduceEqDiff, Nat.reduceAdd, Nat.reduceLT, Nat.reduceLeDiff, reduceCtorEq]) (mapX_nomap _) (by decide)) ?_
      exact ⟨rfl, hI.insert (k := 2) (by decide) hun h0 hsz l1 l2 (by simp only [opnd, g1]; rfl)⟩
    | 16, _, ho, hun, hall =>
      simp only [List.getElem?_toArray, List.getElem?_cons_succ, List.getElem?_cons_zero, Option.some.injEq] at ho
      subst ho
      refine (XS0_ok (D := barDs) tab_ok rfl).quiet _ _ (OpG.of_B rfl opB_arr) ?_
      exact ⟨rfl, hI.put (by decide) hun⟩
    | 17, _, ho, hun, hall =>
      simp only [List.getElem?_toArray, List.getElem?_cons_succ, List.getElem?_cons_zero, Option.some.injEq] at ho
      subst ho
      refine (XS0_ok (D := barDs) tab_ok rfl).quiet _ _ (OpG.of_B rfl opB_arr) ?_
      exact ⟨rfl, hI.put (by decide) hun⟩
    | 18, _, ho, hun, hall =>
      simp only [List.getElem?_toArray, List.getElem?_cons_succ, List.getElem?_cons_zero, Option.some.injEq] at ho
      subst ho
      have g1 : tm.get 16 = barV 16 := hI.val (16, 16) (by decide) (hall ⟨16, .data⟩ (by simp) rfl)
      have g2 : tm.get 17 = barV 17 := hI.val (17, 17) (by decide) (hall ⟨17, .data⟩ (by simp) rfl)
      simp only [barV] at g1 g2
      simp only [go_sem, if_true, if_false, reduceIte, Nat.reduceEqDiff, Nat.reduceAdd, Nat.reduceLT, Nat.reduceLeDiff, reduceCtorEq, g1, g2]
      exact hI.put (i := 18) (d := 18) (by decide) hun
    | 19, _, ho, hun, hall =>
      simp only [List.getElem?_toArray, List.getElem?_cons_succ, List.getElem?_cons_zero, Option.some.injEq] at ho
      subst ho
      have g1 : tm.get 18 = barV 18 := hI.val (18, 18) (by decide) (hall ⟨18, .data⟩ (by simp) rfl)
      simp only [barV] at g1
      refine (XS0_ok (D := barDs) tab_ok rfl).quiet _ _ (OpG.of_B rfl (opB_call rfl rfl (FSpec.nz (fBarC 3 4 6 8 9 (-1) (by unfold colOk; omega) (by unfold colOk; omega) (by unfold colOk; omega) (by unfold colOk; omega) (by unfold colOk; omega) (by unfold colOk; omega)) (by simp [go_sem, if_true, if_false, reduceIte, Nat.reduceEqDiff, Nat.reduceAdd, Nat.reduceLT, Nat.reduceLeDiff, reduceCtorEq, g1, nz])))) ?_
      simp only [go_sem, if_true, if_false, reduceIte, Nat.reduceEqDiff, Nat.reduceAdd, Nat.reduceLT, Nat.reduceLeDiff, reduceCtorEq, strs_ren]
      exact hI.put (i := 19) (d := 19) (by decide) hun
    | 20, _, ho, hun, hall =>
      simp only [List.getElem?_toArray, List.getElem?_cons_succ, List.getElem?_cons_zero, Option.some.injEq] at ho
      subst ho
      have g1 : tm.get 19 = barV 19 := hI.val (19, 19) (by decide) (hall ⟨19, .data⟩ (by simp) rfl)
      simp only [barV] at g1
      have h0 : listed.getD 0 false = true := hall ⟨0, .data⟩ (by simp) rfl
      obtain ⟨l, l1, l2, l3⟩ := hI.map h0
      have hkn : keysNe 4 (mapX (l.map barE)) = true := mapX_ne fun e he hk => by
        obtain ⟨j, hj, rfl⟩ := List.mem_map.1 he
        have hj5 := (l2 j).1 hj
        rw [barE_key hj5.1] at hk
        obtain rfl : j = 3 := by omega
        rw [hun] at hj5; cases hj5.2
      refine (XS0_ok (D := barDs) tab_ok rfl).op _ _ rfl (opS_insert l3 rfl (by simp [go_sem, if_true, if_false, reduceIte, Nat.reduceEqDiff, Nat.reduceAdd, Nat.reduceLT, Nat.reduceLeDiff, reduceCtorEq, g1]) m72 u3 hkn (by simp [go_sem, if_true, if_false, reduceIte, Nat.reduceEqDiff, Nat.reduceAdd, Nat.reduceLT, Nat.reduceLeDiff, reduceCtorEq]) (mapX_nomap _) (by decide)) ?_
      exact ⟨rfl, hI.insert (k := 3) (by decide) hun h0 hsz l1 l2 (by simp only [opnd, g1]; rfl)⟩
    | 21, _, ho, hun, hall =>
      simp only [List.getElem?_toArray, List.getElem?_cons_succ, List.getElem?_cons_zero, Option.some.injEq] at ho
      subst ho
      refine (XS0_ok (D := barDs) tab_ok rfl).quiet _ _ (OpG.of_B rfl opB_arr) ?_
      exact ⟨rfl, hI.put (by decide) hun⟩
    | 22, _, ho, hun, hall =>
      simp only [List.getElem?_toArray, List.getElem?_cons_succ, List.getElem?_cons_zero, Option.some.injEq] at ho
      subst ho
      refine (XS0_ok (D := barDs) tab_ok rfl).quiet _ _ (OpG.of_B rfl opB_arr) ?_
      exact ⟨rfl, hI.put (by decide) hun⟩
    | 23, _, ho, hun, hall =>
      simp only [List.getElem?_toArray, List.getElem?_cons_succ, List.getElem?_cons_zero, Option.some.injEq] at ho
      subst ho
      have g1 : tm.get 20 = barV 21 := hI.val (21, 20) (by decide) (hall ⟨21, .data⟩ (by simp) rfl)
      have g2 : tm.get 21 = barV 22 := hI.val (22, 21) (by decide) (hall ⟨22, .data⟩ (by simp) rfl)
      simp only [barV] at g1 g2
      simp only [go_sem, if_true, if_false, reduceIte, Nat.reduceEqDiff, Nat.reduceAdd, Nat.reduceLT, Nat.reduceLeDiff, reduceCtorEq, g1, g2]
      exact hI.put (i := 23) (d := 22) (by decide) hun
    | 24, _, ho, hun, hall =>
      simp only [List.getElem?_toArray, List.getElem?_cons_succ, List.getElem?_cons_zero, Option.some.injEq] at ho
      subst ho
      have g1 : tm.get 22 = barV 23 := hI.val (23, 22) (by decide) (hall ⟨23, .data⟩ (by simp) rfl)
      simp only [barV] at g1
      refine (XS0_ok (D := barDs) tab_ok rfl).quiet _ _ (OpG.of_B rfl (opB_call rfl rfl (FSpec.nz (fBarC 4 6 7 1 2 (-1) (by unfold colOk; omega) (by unfold colOk; omega) (by unfold colOk; omega) (by unfold colOk; omega) (by unfold colOk; omega) (by unfold colOk; omega)) (by simp [go_sem, if_true, if_false, reduceIte, Nat.reduceEqDiff, Nat.reduceAdd, Nat.reduceLT, Nat.reduceLeDiff, reduceCtorEq, g1, nz])))) ?_
      simp only [go_sem, if_true, if_false, reduceIte, Nat.reduceEqDiff, Nat.reduceAdd, Nat.reduceLT, Nat.reduceLeDiff, reduceCtorEq, strs_ren]
      exact hI.put (i := 24) (d := 23) (by decide) hun
    | 25, _, ho, hun, hall =>
      simp only [List.getElem?_toArray, List.getElem?_cons_succ, List.getElem?_cons_zero, Option.some.injEq] at ho
      subst ho
      have g1 : tm.get 23 = barV 24 := hI.val (24, 23) (by decide) (hall ⟨24, .data⟩ (by simp) rfl)
      simp only [barV] at g1
      have h0 : listed.getD 0 false = true := hall ⟨0, .data⟩ (by simp) rfl
      obtain ⟨l, l1, l2, l3⟩ := hI.map h0
      have hkn : keysNe 5 (mapX (l.map barE)) = true := mapX_ne fun e he hk => by
        obtain ⟨j, hj, rfl⟩ := List.mem_map.1 he
        have hj5 := (l2 j).1 hj
        rw [barE_key hj5.1] at hk
        obtain rfl : j = 4 := by omega
        rw [hun] at hj5; cases hj5.2
      refine (XS0_ok (D := barDs) tab_ok rfl).op _ _ rfl (opS_insert l3 rfl (by simp [go_sem, if_true, if_false, reduceIte, Nat.reduceEqDiff, Nat.reduceAdd, Nat.reduceLT, Nat.reduceLeDiff, reduceCtorEq, g1]) m72 u3 hkn (by simp [go_sem, if_true, if_false, reduceIte, Nat.reduceEqDiff, Nat.reduceAdd, Nat.reduceLT, Nat.reduceLeDiff, reduceCtorEq]) (mapX_nomap _) (by decide)) ?_
      exact ⟨rfl, hI.insert (k := 4) (by decide) hun h0 hsz l1 l2 (by simp only [opnd, g1]; rfl)⟩
    | 26, _, ho, hun, hall =>
      simp only [List.getElem?_toArray, List.getElem?_cons_succ, List.getElem?_cons_zero, Option.some.injEq] at ho
      subst ho
      have hall' : ∀ j, j < 26 → listed.getD j false = true := fun j hj => by
        have : (⟨j, .data⟩ : Edge) ∈ (#[⟨0, .data⟩, ⟨1, .data⟩, ⟨2, .data⟩, ⟨3, .data⟩, ⟨4, .data⟩, ⟨5, .data⟩, ⟨6, .data⟩, ⟨7, .data⟩, ⟨8, .data⟩, ⟨9, .data⟩, ⟨10, .data⟩, ⟨11, .data⟩, ⟨12, .data⟩, ⟨13, .data⟩, ⟨14, .data⟩, ⟨15, .data⟩, ⟨16, .data⟩, ⟨17, .data⟩, ⟨18, .data⟩, ⟨19, .data⟩, ⟨20, .data⟩, ⟨21, .data⟩, ⟨22, .data⟩, ⟨23, .data⟩, ⟨24, .data⟩, ⟨25, .data⟩] : Array Edge) := by
          match j, hj with
          | 0, _ => simp
          | 1, _ => simp
          | 2, _ => simp
          | 3, _ => simp
          | 4, _ => simp
          | 5, _ => simp
          | 6, _ => simp
          | 7, _ => simp
          | 8, _ => simp
          | 9, _ => simp
          | 10, _ => simp
          | 11, _ => simp
          | 12, _ => simp
          | 13, _ => simp
          | 14, _ => simp
          | 15, _ => simp
          | 16, _ => simp
          | 17, _ => simp
          | 18, _ => simp
          | 19, _ => simp
          | 20, _ => simp
          | 21, _ => simp
          | 22, _ => simp
          | 23, _ => simp
          | 24, _ => simp
          | 25, _ => simp
          | j + 26, h => exact absurd h (by omega)
        exact hall ⟨j, .data⟩ (by simpa using this) rfl
      obtain ⟨l, l1, l2, l3⟩ := hI.map (hall' 0 (by omega))
      have hp := perm5 l1 fun k => by
        rw [l2 k]
        exact ⟨fun h => h.1, fun h => ⟨h, hall' (5 * k + 5) (by omega)⟩⟩
      simp only [go_sem, if_true, if_false, reduceIte, Nat.reduceEqDiff, Nat.reduceAdd, Nat.reduceLT, Nat.reduceLeDiff, reduceCtorEq, l3]
      exact hI.move hall' hun hsz hp
    | 27, _, ho, hun, hall =>
      simp only [List.getElem?_toArray, List.getElem?_cons_succ, List.getElem?_cons_zero, Option.some.injEq] at ho
      subst ho
      have h26 : listed.getD 26 false = true := hall ⟨26, .data⟩ (by simp) rfl
      obtain ⟨_, d, hd, he⟩ := hI.mov h26
      simp only [go_sem, if_true, if_false, reduceIte, Nat.reduceEqDiff, Nat.reduceAdd, Nat.reduceLT, Nat.reduceLeDiff, reduceCtorEq, he]
      exact hI.last h26 hsz hd
    | j + 28, hj, _, _, _ => omega
  · obtain ⟨d, hd, he⟩ := (hI.res (hl 27 (by decide))).2
    show IW _ _ _ _ _ _ _ _
    exact IW.ret ⟨d, hd, Fin.scal (mapC_nold d) (mapX_ren _ d) he⟩
end Go.Proofs.Ytnbpbehlemaeoaa

set_option linter.unusedVariables false
set_option linter.unusedSimpArgs false
set_option maxRecDepth 10000
namespace Go.Proofs.Ytnbpbehlemaeoaa
open Go.IL
open Go.WideElems (Fit rd rg)
theorem fDraw9 : FSpecE Try.prog 49 [.int .i64 9] (fun d : List (Int × List ByteArray) => d.Perm barD) mapC := by
  refine FSpecE.intro tab_ok Try.func49 rfl rfl rfl (by kernel_rfl) (by simp) fun w0 => ?_
  simp only [argTM, Nat.zero_add, Nat.reduceAdd]
  repeat refine IW.seq ?_
  refine IW.region_seq tab_ok [some 2] rfl fun X K hX hK => ?_
  simp only [go_sem, if_true, if_false, reduceIte, Nat.reduceEqDiff, Nat.reduceAdd, Nat.reduceLT, Nat.reduceLeDiff, reduceCtorEq]
  refine hK _ _ ?_; clear hX hK X K
  show IW _ _ _ _ _ _ _ _
  repeat refine IW.seq ?_
  refine IW.region_seq tab_ok [some 3] rfl fun X K hX hK => ?_
  simp only [go_sem, if_true, if_false, reduceIte, Nat.reduceEqDiff, Nat.reduceAdd, Nat.reduceLT, Nat.reduceLeDiff, reduceCtorEq]
  refine hK _ _ ?_; clear hX hK X K
  show IW _ _ _ _ _ _ _ _
  repeat refine IW.seq ?_
  refine IW.block ?_
  repeat refine IW.seq ?_
  refine IW.region_seq tab_ok [some 5, some 4] rfl fun X K hX hK => ?_
  simp only [go_sem, if_true, if_false, reduceIte, Nat.reduceEqDiff, Nat.reduceAdd, Nat.reduceLT, Nat.reduceLeDiff, reduceCtorEq]
  refine hK _ _ ?_; clear hX hK X K
  show IW _ _ _ _ _ _ _ _
  repeat refine IW.seq ?_
  refine IW.cond rfl (fun hb => absurd hb (by decide)) (fun hb => ?_)
  repeat refine IW.seq ?_
  refine IW.region_seq tab_ok [some 12, some 11] rfl fun X K hX hK => ?_
  simp only [go_sem, if_true, if_false, reduceIte, Nat.reduceEqDiff, Nat.reduceAdd, Nat.reduceLT, Nat.reduceLeDiff, reduceCtorEq]
  refine hK _ _ ?_; clear hX hK X K
  show IW _ _ _ _ _ _ _ _
  repeat refine IW.seq ?_
  refine IW.cond rfl (fun hb => absurd hb (by decide)) (fun hb => ?_)
  repeat refine IW.seq ?_
  refine IW.region_seq tab_ok [some 19, some 18] rfl fun X K hX hK => ?_
  simp only [go_sem, if_true, if_false, reduceIte, Nat.reduceEqDiff, Nat.reduceAdd, Nat.reduceLT, Nat.reduceLeDiff, reduceCtorEq]
  refine hK _ _ ?_; clear hX hK X K
  show IW _ _ _ _ _ _ _ _
  repeat refine IW.seq ?_
  refine IW.cond rfl (fun hb => absurd hb (by decide)) (fun hb => ?_)
  repeat refine IW.seq ?_
  refine IW.region_seq tab_ok [some 24, some 23] rfl fun X K hX hK => ?_
  simp only [go_sem, if_true, if_false, reduceIte, Nat.reduceEqDiff, Nat.reduceAdd, Nat.reduceLT, Nat.reduceLeDiff, reduceCtorEq]
  refine hK _ _ ?_; clear hX hK X K
  show IW _ _ _ _ _ _ _ _
  repeat refine IW.seq ?_
  refine IW.cond rfl (fun hb => absurd hb (by decide)) (fun hb => ?_)
  repeat refine IW.seq ?_
  refine IW.region_seq tab_ok [some 29, some 28] rfl fun X K hX hK => ?_
  simp only [go_sem, if_true, if_false, reduceIte, Nat.reduceEqDiff, Nat.reduceAdd, Nat.reduceLT, Nat.reduceLeDiff, reduceCtorEq]
  refine hK _ _ ?_; clear hX hK X K
  show IW _ _ _ _ _ _ _ _
  repeat refine IW.seq ?_
  refine IW.cond rfl (fun hb => absurd hb (by decide)) (fun hb => ?_)
  repeat refine IW.seq ?_
  refine IW.region_seq tab_ok [some 38, some 37] rfl fun X K hX hK => ?_
  simp only [go_sem, if_true, if_false, reduceIte, Nat.reduceEqDiff, Nat.reduceAdd, Nat.reduceLT, Nat.reduceLeDiff, reduceCtorEq]
  refine hK _ _ ?_; clear hX hK X K
  show IW _ _ _ _ _ _ _ _
  repeat refine IW.seq ?_
  refine IW.cond rfl (fun hb => absurd hb (by decide)) (fun hb => ?_)
  repeat refine IW.seq ?_
  refine IW.region_seq tab_ok [some 45, some 44] rfl fun X K hX hK => ?_
  simp only [go_sem, if_true, if_false, reduceIte, Nat.reduceEqDiff, Nat.reduceAdd, Nat.reduceLT, Nat.reduceLeDiff, reduceCtorEq]
  refine hK _ _ ?_; clear hX hK X K
  show IW _ _ _ _ _ _ _ _
  repeat refine IW.seq ?_
  refine IW.cond rfl (fun hb => absurd hb (by decide)) (fun hb => ?_)
  repeat refine IW.seq ?_
  refine IW.region_seq tab_ok [some 58, some 57] rfl fun X K hX hK => ?_
  simp only [go_sem, if_true, if_false, reduceIte, Nat.reduceEqDiff, Nat.reduceAdd, Nat.reduceLT, Nat.reduceLeDiff, reduceCtorEq]
  refine hK _ _ ?_; clear hX hK X K
  show IW _ _ _ _ _ _ _ _
  repeat refine IW.seq ?_
  refine IW.cond rfl (fun hb => absurd hb (by decide)) (fun hb => ?_)
  repeat refine IW.seq ?_
  refine IW.region_seq tab_ok [some 61, some 60] rfl fun X K hX hK => ?_
  simp only [go_sem, if_true, if_false, reduceIte, Nat.reduceEqDiff, Nat.reduceAdd, Nat.reduceLT, Nat.reduceLeDiff, reduceCtorEq]
  refine hK _ _ ?_; clear hX hK X K
  show IW _ _ _ _ _ _ _ _
  repeat refine IW.seq ?_
  refine IW.cond rfl (fun hb => absurd hb (by decide)) (fun hb => ?_)
  repeat refine IW.seq ?_
  refine IW.region_seq tab_ok [some 66, some 65] rfl fun X K hX hK => ?_
  simp only [go_sem, if_true, if_false, reduceIte, Nat.reduceEqDiff, Nat.reduceAdd, Nat.reduceLT, Nat.reduceLeDiff, reduceCtorEq]
  refine hK _ _ ?_; clear hX hK X K
  show IW _ _ _ _ _ _ _ _
  repeat refine IW.seq ?_
  refine IW.cond rfl (fun hb => ?_) (fun hb => absurd hb (by decide))
  repeat refine IW.seq ?_
  refine IW.region_seq tab_ok [some 67, some 2] rfl fun X K hX hK => ?_
  simp only [go_sem, if_true, if_false, reduceIte, Nat.reduceEqDiff, Nat.reduceAdd, Nat.reduceLT, Nat.reduceLeDiff, reduceCtorEq]
  refine hX.opn _ _ rfl (opN_callE rfl rfl fBars (by intro d e; cases e; decide)) fun d' hd' => ?_
  simp only [mapX_ren, go_sem, if_true, if_false, reduceIte, Nat.reduceEqDiff, Nat.reduceAdd, Nat.reduceLT, Nat.reduceLeDiff, reduceCtorEq]
  refine hK _ _ ?_; clear hX hK X K
  show IW _ _ _ _ _ _ _ _
  exact IW.ret ⟨d', hd', Fin.scal (mapC_nold d') (mapX_ren _ d') (by simp [go_sem, if_true, if_false, reduceIte, Nat.reduceEqDiff, Nat.reduceAdd, Nat.reduceLT, Nat.reduceLeDiff, reduceCtorEq])⟩
theorem lookup_iff {d : List (Int × List ByteArray)} (hk : (keysD d).Nodup) {v : Int} {r : List ByteArray} : d.lookup v = some r ↔ (v, r) ∈ d := by
  induction d with
  | nil => simp
  | cons e d ih =>
    have hk' : e.1 ∉ keysD d ∧ (keysD d).Nodup := List.nodup_cons.1 hk
    rw [List.lookup_cons, List.mem_cons]
    by_cases c : v = e.1
    · subst c
      simp only [beq_self_eq_true]
      constructor
      · intro h; cases h; exact .inl rfl
      · rintro (h | h)
        · rw [← h]
        · exact absurd (List.mem_map.2 ⟨_, h, rfl⟩) hk'.1
    · have : (v == e.1) = false := by simpa using c
      rw [this, ih hk'.2]
      constructor
      · exact .inr
      · rintro (h | h)
        · rw [← h] at c; exact absurd rfl c
        · exact h
theorem lookup_perm {d' d : List (Int × List ByteArray)} (hp : d'.Perm d) (hk : (keysD d).Nodup) {v : Int} : d'.lookup v = d.lookup v := by
  have hk' : (keysD d').Nodup := (hp.map _).nodup_iff.2 hk
  cases h : d.lookup v with
  | some r => exact (lookup_iff hk').2 (hp.mem_iff.2 ((lookup_iff hk).1 h))
  | none =>
    cases h' : d'.lookup v with
    | none => rfl
    | some r =>
      have := (lookup_iff hk).2 (hp.mem_iff.1 ((lookup_iff hk').1 h'))
      rw [h] at this; cases this
theorem fGlyphE (s v : Int) (w h : Nat) (d : List (Int × List ByteArray)) (hd : FSpecE Try.prog 49 [.int .i64 s] (fun d' : List (Int × List ByteArray) => d'.Perm d) mapC) (hk : (keysD d).Nodup) (hok : okD w h d) (h0 : 0 < h) (hb1 : h ≤ 640) (hb2 : w ≤ 640) :
    FSpec Try.prog 18 [.int .i64 s, .int .i64 v] (.tup [resI (gW d w v) (gW d h v) (gP d v), .int .i64 (gE d v)]) (resR (gP d v)) := by
  cases hv : d.lookup v with
  | none =>
    simp only [gW, gP, gE, hv]
    refine FSpec.ghost (sv := .tup [.agg [.int .i64 0, .int .i64 0, .nils], .int .i64 20]) ?_ fun F w v h => ?_
    · refine FSpec.intro tab_ok Try.func18 rfl rfl rfl (by kernel_rfl) (by simp) fun w0 => ?_
      simp only [argTM, Nat.zero_add, Nat.reduceAdd]
      repeat refine IW.seq ?_
      refine IW.region_seq tab_ok [some 4, some 5] rfl fun X K hX hK => ?_
      simp only [go_sem, if_true, if_false, reduceIte, Nat.reduceEqDiff, Nat.reduceAdd, Nat.reduceLT, Nat.reduceLeDiff, reduceCtorEq]
      refine hK _ _ ?_; clear hX hK X K
      show IW _ _ _ _ _ _ _ _
      repeat refine IW.seq ?_
      refine IW.region_seq tab_ok [some 9, some 10, some 11, some 12, some 8, some 13, some 14, some 6, some 7] rfl fun X K hX hK => ?_
      simp only [go_sem, if_true, if_false, reduceIte, Nat.reduceEqDiff, Nat.reduceAdd, Nat.reduceLT, Nat.reduceLeDiff, reduceCtorEq]
      refine hX.opn _ _ rfl (opN_callE rfl rfl hd (by intro d e; cases e; decide)) fun d' hd' => ?_
      simp only [mapX_ren, go_sem, if_true, if_false, reduceIte, Nat.reduceEqDiff, Nat.reduceAdd, Nat.reduceLT, Nat.reduceLeDiff, reduceCtorEq]
      refine hX.quiet _ _ (OpG.of_B rfl (opB_lookup tab_ok rfl rfl m72 u3 (by simp [go_sem, if_true, if_false, reduceIte, Nat.reduceEqDiff, Nat.reduceAdd, Nat.reduceLT, Nat.reduceLeDiff, reduceCtorEq]) rfl rfl (mapX_keysI d'))) ?_
      rw [mapX_lk, lookup_perm hd' hk, hv]
      simp only [go_sem, if_true, if_false, reduceIte, Nat.reduceEqDiff, Nat.reduceAdd, Nat.reduceLT, Nat.reduceLeDiff, reduceCtorEq, Option.map_none]
      refine hK _ _ ?_; clear hX hK X K
      show IW _ _ _ _ _ _ _ _
      repeat refine IW.seq ?_
      refine IW.region_seq tab_ok [some 15, some 16] rfl fun X K hX hK => ?_
      simp only [go_sem, if_true, if_false, reduceIte, Nat.reduceEqDiff, Nat.reduceAdd, Nat.reduceLT, Nat.reduceLeDiff, reduceCtorEq]
      refine hK _ _ ?_; clear hX hK X K
      show IW _ _ _ _ _ _ _ _
      repeat refine IW.seq ?_
      refine IW.cond rfl (fun _ => ?_) (fun hb => absurd hb (by decide))
      repeat refine IW.seq ?_
      refine IW.region_seq tab_ok [some 17, none, some 5] rfl fun X K hX hK => ?_
      simp only [go_sem, if_true, if_false, reduceIte, Nat.reduceEqDiff, Nat.reduceAdd, Nat.reduceLT, Nat.reduceLeDiff, reduceCtorEq]
      refine hX.op _ _ rfl (opS_store tab_ok rfl (by simp [go_sem, if_true, if_false, reduceIte, Nat.reduceEqDiff, Nat.reduceAdd, Nat.reduceLT, Nat.reduceLeDiff, reduceCtorEq]) (by simp [go_sem, if_true, if_false, reduceIte, Nat.reduceEqDiff, Nat.reduceAdd, Nat.reduceLT, Nat.reduceLeDiff, reduceCtorEq]) (by simp [go_sem, if_true, if_false, reduceIte, Nat.reduceEqDiff, Nat.reduceAdd, Nat.reduceLT, Nat.reduceLeDiff, reduceCtorEq]) (by simp [go_sem, if_true, if_false, reduceIte, Nat.reduceEqDiff, Nat.reduceAdd, Nat.reduceLT, Nat.reduceLeDiff, reduceCtorEq]) (by simp [go_sem, if_true, if_false, reduceIte, Nat.reduceEqDiff, Nat.reduceAdd, Nat.reduceLT, Nat.reduceLeDiff, reduceCtorEq]) (by simp [go_sem, if_true, if_false, reduceIte, Nat.reduceEqDiff, Nat.reduceAdd, Nat.reduceLT, Nat.reduceLeDiff, reduceCtorEq])) ?_
      simp only [go_sem, if_true, if_false, reduceIte, Nat.reduceEqDiff, Nat.reduceAdd, Nat.reduceLT, Nat.reduceLeDiff, reduceCtorEq]
      refine hK _ _ ?_; clear hX hK X K
      show IW _ _ _ _ _ _ _ _
      refine IW.ret ⟨⟨⟨trivial, by simp [go_sem, if_true, if_false, reduceIte, Nat.reduceEqDiff, Nat.reduceAdd, Nat.reduceLT, Nat.reduceLeDiff, reduceCtorEq]⟩, trivial, trivial⟩, rfl, rfl, [], rfl, by simp, ?_, trivial⟩
      rfl
    · cases h with
      | tup _ us hl hh =>
        refine .tup _ us hl fun i c u e1 e2 => ?_
        match i, e1 with
        | 0, e1 => cases e1; exact rel_agg3 (fun _ h => h) (fun _ h => h) (fun _ h => rel_ls_nil h) (hh 0 _ u rfl e2)
        | 1, e1 => cases e1; exact hh 1 _ u rfl e2
        | i + 2, e1 => simp at e1
  | some r =>
    simp only [gW, gP, gE, hv]
    obtain ⟨k1, k2⟩ := hok _ (lookup_mem' hv)
    have hdr := fDraw' r w h h0 k1 k2 hb1 hb2
    refine FSpec.intro tab_ok Try.func18 rfl rfl rfl (by kernel_rfl) (by simp) fun w0 => ?_
    simp only [argTM, Nat.zero_add, Nat.reduceAdd]
    repeat refine IW.seq ?_
    refine IW.region_seq tab_ok [some 4, some 5] rfl fun X K hX hK => ?_
    simp only [go_sem, if_true, if_false, reduceIte, Nat.reduceEqDiff, Nat.reduceAdd, Nat.reduceLT, Nat.reduceLeDiff, reduceCtorEq]
    refine hK _ _ ?_; clear hX hK X K
    show IW _ _ _ _ _ _ _ _
    repeat refine IW.seq ?_
    refine IW.region_seq tab_ok [some 9, some 10, some 11, some 12, some 8, some 13, some 14, some 6, some 7] rfl fun X K hX hK => ?_
    simp only [go_sem, if_true, if_false, reduceIte, Nat.reduceEqDiff, Nat.reduceAdd, Nat.reduceLT, Nat.reduceLeDiff, reduceCtorEq]
    refine hX.opn _ _ rfl (opN_callE rfl rfl hd (by intro d e; cases e; decide)) fun d' hd' => ?_
    simp only [mapX_ren, go_sem, if_true, if_false, reduceIte, Nat.reduceEqDiff, Nat.reduceAdd, Nat.reduceLT, Nat.reduceLeDiff, reduceCtorEq]
    refine hX.quiet _ _ (OpG.of_B rfl (opB_lookup tab_ok rfl rfl m72 u3 (by simp [go_sem, if_true, if_false, reduceIte, Nat.reduceEqDiff, Nat.reduceAdd, Nat.reduceLT, Nat.reduceLeDiff, reduceCtorEq]) rfl rfl (mapX_keysI d'))) ?_
    rw [mapX_lk, lookup_perm hd' hk, hv]
    simp only [go_sem, if_true, if_false, reduceIte, Nat.reduceEqDiff, Nat.reduceAdd, Nat.reduceLT, Nat.reduceLeDiff, reduceCtorEq, Option.map_some]
    refine hK _ _ ?_; clear hX hK X K
    show IW _ _ _ _ _ _ _ _
    repeat refine IW.seq ?_
    refine IW.region_seq tab_ok [some 15, some 16] rfl fun X K hX hK => ?_
    simp only [go_sem, if_true, if_false, reduceIte, Nat.reduceEqDiff, Nat.reduceAdd, Nat.reduceLT, Nat.reduceLeDiff, reduceCtorEq]
    refine hK _ _ ?_; clear hX hK X K
    show IW _ _ _ _ _ _ _ _
    repeat refine IW.seq ?_
    refine IW.cond rfl (fun hb => absurd hb (by decide)) (fun _ => ?_)
    refine IW.skip ?_
    show IW _ _ _ _ _ _ _ _
    repeat refine IW.seq ?_
    refine IW.region_seq tab_ok [some 18, some 19, none, some 5] rfl fun X K hX hK => ?_
    simp only [go_sem, if_true, if_false, reduceIte, Nat.reduceEqDiff, Nat.reduceAdd, Nat.reduceLT, Nat.reduceLeDiff, reduceCtorEq]
    refine hX.quiet _ _ (OpG.of_B rfl (opB_call rfl rfl (FSpec.nz (hdr) (by simp [go_sem, if_true, if_false, reduceIte, Nat.reduceEqDiff, Nat.reduceAdd, Nat.reduceLT, Nat.reduceLeDiff, reduceCtorEq, List.map_cons, List.map_nil, List.append_nil, opnd, unc, resI, resR])))) ?_
    simp only [go_sem, if_true, if_false, reduceIte, Nat.reduceEqDiff, Nat.reduceAdd, Nat.reduceLT, Nat.reduceLeDiff, reduceCtorEq, resI, resR]
    refine hX.op _ _ rfl (opS_store tab_ok rfl (by simp [go_sem, if_true, if_false, reduceIte, Nat.reduceEqDiff, Nat.reduceAdd, Nat.reduceLT, Nat.reduceLeDiff, reduceCtorEq]) (by simp [go_sem, if_true, if_false, reduceIte, Nat.reduceEqDiff, Nat.reduceAdd, Nat.reduceLT, Nat.reduceLeDiff, reduceCtorEq]) (by simp [go_sem, if_true, if_false, reduceIte, Nat.reduceEqDiff, Nat.reduceAdd, Nat.reduceLT, Nat.reduceLeDiff, reduceCtorEq]) (by simp [go_sem, if_true, if_false, reduceIte, Nat.reduceEqDiff, Nat.reduceAdd, Nat.reduceLT, Nat.reduceLeDiff, reduceCtorEq]) (by simp [go_sem, if_true, if_false, reduceIte, Nat.reduceEqDiff, Nat.reduceAdd, Nat.reduceLT, Nat.reduceLeDiff, reduceCtorEq]) (by simp [go_sem, if_true, if_false, reduceIte, Nat.reduceEqDiff, Nat.reduceAdd, Nat.reduceLT, Nat.reduceLeDiff, reduceCtorEq])) ?_
    simp only [go_sem, if_true, if_false, reduceIte, Nat.reduceEqDiff, Nat.reduceAdd, Nat.reduceLT, Nat.reduceLeDiff, reduceCtorEq]
    refine hK _ _ ?_; clear hX hK X K
    show IW _ _ _ _ _ _ _ _
    refine IW.ret ⟨⟨⟨trivial, by simp [go_sem, if_true, if_false, reduceIte, Nat.reduceEqDiff, Nat.reduceAdd, Nat.reduceLT, Nat.reduceLeDiff, reduceCtorEq]⟩, trivial, trivial⟩, by simp [go_sem, if_true, if_false, reduceIte, Nat.reduceEqDiff, Nat.reduceAdd, Nat.reduceLT, Nat.reduceLeDiff, reduceCtorEq, resI], by simp [go_sem, if_true, if_false, reduceIte, Nat.reduceEqDiff, Nat.reduceAdd, Nat.reduceLT, Nat.reduceLeDiff, reduceCtorEq, resR, rowsNold], [1], rfl, by simp, ?_, ?_⟩
    · simp [go_sem, if_true, if_false, reduceIte, Nat.reduceEqDiff, Nat.reduceAdd, Nat.reduceLT, Nat.reduceLeDiff, reduceCtorEq, resI, resAll, resSV]
    · exact ⟨by simp [go_sem, if_true, if_false, reduceIte, Nat.reduceEqDiff, Nat.reduceAdd, Nat.reduceLT, Nat.reduceLeDiff, reduceCtorEq], trivial⟩
theorem fSizeE (s : Int) (w h : Nat) (d : List (Int × List ByteArray)) (hd : FSpecE Try.prog 49 [.int .i64 s] (fun d' : List (Int × List ByteArray) => d'.Perm d) mapC) (hok : okD w h d) (h0 : 0 < h) (hne : 0 < d.length) : FSpec Try.prog 13 [.int .i64 s] (.tup [.int .i64 w, .int .i64 h]) [] := by
  have hall : ∀ d' : List (Int × List ByteArray), d'.Perm d → okD w h d' ∧ 0 < d'.length := fun d' hp => ⟨fun e he => hok e (hp.mem_iff.1 he), by rw [hp.length_eq]; exact hne⟩
  clear hok hne
  refine FSpec.intro tab_ok Try.func13 rfl rfl rfl (by kernel_rfl) (by simp) fun w0 => ?_
  simp only [argTM, Nat.zero_add, Nat.reduceAdd]
  repeat refine IW.seq ?_
  refine IW.region_seq tab_ok [some 2, some 3] rfl fun X K hX hK => ?_
  simp only [go_sem, if_true, if_false, reduceIte, Nat.reduceEqDiff, Nat.reduceAdd, Nat.reduceLT, Nat.reduceLeDiff, reduceCtorEq]
  refine hK _ _ ?_; clear hX hK X K
  show IW _ _ _ _ _ _ _ _
  repeat refine IW.seq ?_
  refine IW.region_seq tab_ok [some 6, some 7, some 8] rfl fun X K hX hK => ?_
  simp only [go_sem, if_true, if_false, reduceIte, Nat.reduceEqDiff, Nat.reduceAdd, Nat.reduceLT, Nat.reduceLeDiff, reduceCtorEq]
  refine hX.opn _ _ rfl (opN_callE rfl rfl hd (by intro d e; cases e; decide)) fun d' hd' => ?_
  obtain ⟨hok, hne⟩ := hall d' hd'
  simp only [mapX_ren, go_sem, if_true, if_false, reduceIte, Nat.reduceEqDiff, Nat.reduceAdd, Nat.reduceLT, Nat.reduceLeDiff, reduceCtorEq]
  refine hX.quiet _ _ (OpG.of_B rfl (opB_range (o := false) (xs := mapX d') rfl m72)) ?_
  simp only [go_sem, if_true, if_false, reduceIte, Nat.reduceEqDiff, Nat.reduceAdd, Nat.reduceLT, Nat.reduceLeDiff, reduceCtorEq]
  refine hK _ _ ?_; clear hX hK X K
  show IW _ _ _ _ _ _ _ _
  repeat refine IW.seq ?_
  refine IW.block ?_
  refine IW.loop (α := Unit) (fun _ => [(8, .it false (mapX d') [])]) (fun _ => []) (fun _ => 0) () ?_ fun _ => ?_
  · refine Ent.cut ?_ ?_ <;> simp only [go_sem, if_true, if_false, reduceIte, Nat.reduceEqDiff, Nat.reduceAdd, Nat.reduceLT, Nat.reduceLeDiff, reduceCtorEq, mapX_bnd]
  · show IW _ _ _ _ _ _ _ _
    repeat refine IW.seq ?_
    refine IW.region_seq tab_ok [some 9, some 10] rfl fun X K hX hK => ?_
    simp only [go_sem, if_true, if_false, reduceIte, Nat.reduceEqDiff, Nat.reduceAdd, Nat.reduceLT, Nat.reduceLeDiff, reduceCtorEq]
    refine hX.opn _ _ rfl (opN_next rfl (by simp [go_sem, if_true, if_false, reduceIte, Nat.reduceEqDiff, Nat.reduceAdd, Nat.reduceLT, Nat.reduceLeDiff, reduceCtorEq]) (mapX_nomap d') (by intro d e; cases e; decide)) fun c hc => ?_
    match c, hc with
    | none, hc => exact absurd (hc 0 (by rw [mapX_length]; exact hne)) (by simp)
    | some j, hc =>
      have hj : j < d'.length := by have := hc.1; rwa [mapX_length] at this
      obtain ⟨k1, k2⟩ := hok _ (show d'.getD j (0, []) ∈ d' by simp [hj])
      generalize hr : d'.getD j (0, []) = e at *
      simp only [nextTo, go_sem, if_true, if_false, reduceIte, Nat.reduceEqDiff, Nat.reduceAdd, Nat.reduceLT, Nat.reduceLeDiff, reduceCtorEq, mapX_at hj, hr]
      refine hK _ _ ?_; clear hX hK X K
      show IW _ _ _ _ _ _ _ _
      repeat refine IW.seq ?_
      refine IW.cond rfl (fun hb => ?_) (fun hb => absurd hb (by decide))
      refine IW.skip ?_
      show IW _ _ _ _ _ _ _ _
      repeat refine IW.seq ?_
      refine IW.block ?_
      repeat refine IW.seq ?_
      refine IW.region_seq tab_ok [some 11, some 12, some 5] rfl fun X K hX hK => ?_
      simp only [go_sem, if_true, if_false, reduceIte, Nat.reduceEqDiff, Nat.reduceAdd, Nat.reduceLT, Nat.reduceLeDiff, reduceCtorEq]
      refine hX.quiet _ _ (OpG.of_B rfl (opB_entry (seen := []) (j := j) rfl (by rw [mapX_length]; exact hj))) ?_
      simp only [go_sem, if_true, if_false, reduceIte, Nat.reduceEqDiff, Nat.reduceAdd, Nat.reduceLT, Nat.reduceLeDiff, reduceCtorEq, mapX_at hj, hr]
      refine hK _ _ ?_; clear hX hK X K
      show IW _ _ _ _ _ _ _ _
      have hlt0 : 0 < e.2.length := by omega
      have hs0 := k2 0 h0
      repeat refine IW.seq ?_
      refine IW.region_seq tab_ok [some 13, some 14, some 15, some 16, some 17, some 18, some 2, some 3] rfl fun X K hX hK => ?_
      simp only [go_sem, if_true, if_false, reduceIte, Nat.reduceEqDiff, Nat.reduceAdd, Nat.reduceLT, Nat.reduceLeDiff, reduceCtorEq, strs_at hlt0, hs0, k1]
      refine ⟨⟨by omega, by omega⟩, ?_⟩
      refine hK _ _ ?_; clear hX hK X K
      show IW _ _ _ _ _ _ _ _
      refine IW.ret ⟨⟨trivial, trivial, trivial⟩, rfl, rfl, [], rfl, List.nodup_nil, ?_, trivial⟩
      simp [go_sem, if_true, if_false, reduceIte, Nat.reduceEqDiff, Nat.reduceAdd, Nat.reduceLT, Nat.reduceLeDiff, reduceCtorEq, resAll, resSV]
theorem owns_mapE {ρ : Rho} {O F : Nat → Prop} {w : World} {o : Bool} {d : List (Int × List ByteArray)} {v : Value} (h : VRel ρ O F w (.mp o (mapX d)) v) (hnd : (keysD d).Nodup) (hb : ∀ k ∈ keysD d, I64 k) (hl : d.length ≤ 1000) :
    ∃ b D0, v = .map (some b) ∧ w.ownsMap Try.prog 3 dumR b d.length D0 ∧ (_root_.Go.intKeys D0).Perm (keysD d) ∧ Maps.size D0 = d.length := by
  cases h with
  | mp _ _ b es cs hbl hw hk hn he hr =>
    have hlen : (mapX d).length = d.length := mapX_length d
    rw [hlen] at hn hw he
    have hkey : ∀ i, i < d.length → es[i]? = some ⟨.int .i64 (d.getD i (0, [])).1, cs i 1, i⟩ := fun i hi => by
      have h1 := hr i 0 [.int .i64 (d.getD i (0, [])).1, .sl false (strs (d.getD i (0, [])).2)] (.int .i64 (d.getD i (0, [])).1) (by simp [mapX, hi]) rfl
      rw [he i hi]
      generalize cs i 0 = c at h1
      cases h1; rfl
    have hesl : es.toList = (List.range d.length).map fun i => ⟨.int .i64 (d.getD i (0, [])).1, cs i 1, i⟩ := by
      apply List.ext_getElem?
      intro i
      rw [Array.getElem?_toList]
      rcases Nat.lt_or_ge i d.length with hi | hi
      · rw [hkey i hi]; simp [hi]
      · rw [Array.getElem?_eq_none (by omega)]; simp [hi]
    have hkb : ∀ i, i < d.length → I64 (d.getD i (0, [])).1 := fun i hi => hb _ (List.mem_map.2 ⟨d.getD i (0, []), by simp [hi], rfl⟩)
    have hwf : ∀ n, I64 n → (Lit.int .i64 n).wf = true := fun n hn => by
      have e1 : IntKind.i64.min = -9223372036854775808 := rfl
      have e2 : IntKind.i64.max = 9223372036854775807 := rfl
      simp [Lit.wf, e1, e2, hn.1, hn.2]
    have hrd : ∀ i, i < d.length → rd Try.prog 3 dumR ⟨.int .i64 (d.getD i (0, [])).1, cs i 1, i⟩ = some (.int .i64 (d.getD i (0, [])).1, (.nil : DataW Unit)) := fun i hi => by
      have hk := Maps.keyOf_int_mk u3 (hwf _ (hkb i hi))
      simp only [rd, dumR, hk]
      rfl
    have hD : es.toList.map (rg Try.prog 3 dumR) = d.map fun e => (.int .i64 e.1, (.nil : DataW Unit)) := by
      rw [hesl, List.map_map]
      apply List.ext_getElem
      · simp
      · intro i h1 h2
        simp at h1
        simp only [List.getElem_map, List.getElem_range, Function.comp, rg, hrd i h1, Option.getD_some]
        simp [h1]
    refine ⟨b, .map ((es.toList.map (rg Try.prog 3 dumR)).foldr DataW.insert []), rfl, ⟨es, d.length, hw, ⟨by simp [maxLen]; omega, ⟨?_, ?_, ?_⟩, ?_⟩, by omega, rfl⟩, ?_, ?_⟩
    · rw [hesl]; intro x hx
      obtain ⟨i, hi, rfl⟩ := List.mem_map.1 hx
      exact List.mem_range.1 hi
    · rw [hesl, List.map_map]
      have : (List.range d.length).map ((fun x : MapEntry => x.born) ∘ fun i => (⟨.int .i64 (d.getD i (0, [])).1, cs i 1, i⟩ : MapEntry)) = List.range d.length := by
        conv => rhs; rw [← List.map_id (List.range d.length)]
        exact List.map_congr_left fun i _ => rfl
      rw [this]; exact List.nodup_range
    · rw [hesl, List.map_map]
      have : (List.range d.length).map ((fun x : MapEntry => x.key) ∘ fun i => (⟨.int .i64 (d.getD i (0, [])).1, cs i 1, i⟩ : MapEntry)) = (keysD d).map (Value.int .i64) := by
        apply List.ext_getElem
        · simp [keysD]
        · intro i h1 h2; simp at h1; simp [keysD, h1]
      rw [this]
      exact (List.pairwise_map.2 (hnd.imp fun h e => h (by cases e; rfl)))
    · rw [hesl]; intro x hx
      obtain ⟨i, hi, rfl⟩ := List.mem_map.1 hx
      exact ⟨_, hrd i (List.mem_range.1 hi)⟩
    · show (((es.toList.map (rg Try.prog 3 dumR)).foldr DataW.insert []).map fun p => _root_.Go.intOf p.1).Perm _
      refine ((foldr_perm _).map _).trans ?_
      rw [hD, List.map_map]
      exact .of_eq (List.map_congr_left fun e _ => rfl)
    · show ((es.toList.map (rg Try.prog 3 dumR)).foldr DataW.insert []).length = _
      rw [(foldr_perm _).length_eq, List.length_map, Array.length_toList, hn]
/-- slices.Sorted of a map's keys, in any order of the map -/
theorem opSortedE {dst : Option Nat} {x : Operand} {ats : Array TypeId} {ty : TypeId} {pos : String} {after : Array Edge} {guard : Option (Nat × Bool)} {g : Operand → SV} {h : Heap} {id : Nat} {o : Bool} {d : List (Int × List ByteArray)}
    (hx : g x = .clo 78 [.ptr id 0 0]) (hr : hrow h id = some ⟨1, 72, [[.mp o (mapX d)]]⟩) {ks : List Int} (hp0 : (keysD d).Perm ks) (hs : ks.Pairwise (· < ·)) (hb : ∀ k ∈ keysD d, I64 k) (hl : d.length ≤ 1000) :
    OpB Try.prog ⟨dst, .call ⟨.value (.func 50), #[x], ats⟩, ty, pos, after, guard⟩ g h (lsV h.length ks.length) [some ⟨1, 3, nums .i64 ks⟩] := by
  intro ρ O F w a hsat hrl hfree next Q hn
  have hv := hrl x (by simp [Op.operands, Call.operands])
  rw [hx] at hv
  generalize hax : a.eval x = ax at hv
  cases hv with
  | clo _ _ vs hl2 hh =>
  obtain ⟨l⟩ := vs
  match l, hl2 with
  | [u], _ =>
  have hu := hh 0 _ u rfl rfl
  cases hu with
  | ptr _ _ _ ri hρ =>
  have hR := hsat.row id _ ri (hrow_some hr) hρ
  obtain ⟨arr, e1, e2, e3, e4⟩ := hR.cells
  obtain ⟨mv, hm1, hm2⟩ := e4 0 0 [.mp o (mapX d)] (.mp o (mapX d)) rfl rfl
  obtain ⟨b, D0, rfl, hown, hperm, hsz⟩ := owns_mapE hm2 (hp0.nodup_iff.2 (hs.imp fun h e => by omega)) hb hl
  have hbl : ri.b < w.heap.size := hR.lt
  have hcell : w.cell? ⟨ri.b, 0, none⟩ = some (.map (some b)) := by simp only [World.cell?, e1]; simpa using hm1
  have hadr : (⟨ri.b, 0 * ri.k + 0, none⟩ : Addr) = ⟨ri.b, 0, none⟩ := by simp
  rw [hadr] at hax
  have hseq := AnyZI.keys_gives (ρ := Try.keysA_ren) { Try.keysA with } Fence.wide 2 trivial rfl (by omega) ri.b b d.length D0 w hbl hcell hown
  have cS := AnyZI.sorted_in Try.sortedA Fence.wide 5 trivial trivial trivial trivial rfl (by omega) (Try.sortsA _) (enters_of Try.func77 (by kernel_rfl) rfl) 78 #[.pointer (some ⟨ri.b, 0, none⟩)] trivial (enters_of Try.func78 (by kernel_rfl) rfl) _ (Maps.size D0) (by simp [hsz, maxLen]; omega) (by omega) _ hseq
  have cC := (callsIn_wide (n := 5)).1 cS
  change Calls Try.prog 50 _ _ _ at cC
  have hexec : (execOp a.eval ⟨dst, .call ⟨.value (.func 50), #[x], ats⟩, ty, pos, after, guard⟩).run Try.prog w = .ok (.enter 50 #[.func (.func 78) #[] #[.pointer (some ⟨ri.b, 0, none⟩)]]) w := by
    simp only [execOp, resolve, show a.eval (.func 50) = .func (.func 50) #[] #[] from rfl, Deferred.ofValue]
    rw [run_bind, run_pure]
    simp only [invoke, Array.empty_append, Array.append_empty, List.map_toArray, List.map_cons, List.map_nil, hax]
    exact enters_of Try.func50 (by kernel_rfl) rfl _ _
  simp only [Oper.wp, hexec, Oper.upon]
  refine cC.mono fun e w' hp => ?_
  obtain ⟨v, ss, rfl, hS, hrow, hnil, hbw⟩ := hp
  have hpk : ss.Perm ks := (hS.trans hperm).trans hp0
  have hms := mergeSort_eq hpk hs
  rw [hms, hpk.length_eq] at hrow
  obtain ⟨ρ', hx', hid, hs', hv'⟩ := own_row hsat (hfree _ (Nat.le_refl _) (by simp)) hbw (e := 3) (k := 1) (by decide) (by omega) hrow (ys := nums .i64 ks) (by simp [nums]) (nums_w _ _) (fun i j x y f1 f2 => by
    rw [nums, List.getElem?_map] at f1
    obtain ⟨n, h1, rfl⟩ := Option.map_eq_some_iff.1 f1
    match j, f2 with
    | 0, f2 => cases f2; exact ⟨.int .i64 n, by simp [h1], fun _ _ _ _ => .int _ _⟩
    | j + 1, f2 => simp at f2)
  exact hn v ρ' F w' hx' (fun id e => by rw [hid id e]; simp) hs' hv'
theorem fValuesE (s : Int) (d : List (Int × List ByteArray)) (hd : FSpecE Try.prog 49 [.int .i64 s] (fun d' : List (Int × List ByteArray) => d'.Perm d) mapC) (hs : (keysD d).Pairwise (· < ·)) (hb : ∀ k ∈ keysD d, I64 k) (hl : d.length ≤ 1000) : FSpec Try.prog 16 [.int .i64 s] (lsV 0 (keysD d).length) [⟨1, 3, nums .i64 (keysD d)⟩] := by
  refine FSpec.intro tab_ok Try.func16 rfl rfl rfl (by kernel_rfl) (by simp) fun w0 => ?_
  simp only [argTM, Nat.zero_add, Nat.reduceAdd]
  repeat refine IW.seq ?_
  refine IW.region_seq tab_ok [some 2] rfl fun X K hX hK => ?_
  simp only [go_sem, if_true, if_false, reduceIte, Nat.reduceEqDiff, Nat.reduceAdd, Nat.reduceLT, Nat.reduceLeDiff, reduceCtorEq]
  refine hK _ _ ?_; clear hX hK X K
  show IW _ _ _ _ _ _ _ _
  repeat refine IW.seq ?_
  refine IW.region_seq tab_ok [some 3, some 4, some 5, some 6, some 2] rfl fun X K hX hK => ?_
  simp only [go_sem, if_true, if_false, reduceIte, Nat.reduceEqDiff, Nat.reduceAdd, Nat.reduceLT, Nat.reduceLeDiff, reduceCtorEq]
  refine hX.opn _ _ rfl (opN_callE rfl rfl hd (by intro d e; cases e; decide)) fun d' hd' => ?_
  simp only [mapX_ren, go_sem, if_true, if_false, reduceIte, Nat.reduceEqDiff, Nat.reduceAdd, Nat.reduceLT, Nat.reduceLeDiff, reduceCtorEq]
  refine hX.quiet _ _ (OpG.of_B rfl (opKeys (o := false) (xs := mapX d') rfl)) ?_
  simp only [go_sem, if_true, if_false, reduceIte, Nat.reduceEqDiff, Nat.reduceAdd, Nat.reduceLT, Nat.reduceLeDiff, reduceCtorEq]
  refine hX.quiet _ _ (OpG.of_B rfl (opSortedE (d := d') rfl rfl (hd'.map _) hs (fun k hk => hb k ((hd'.map _).mem_iff.1 hk)) (by rw [hd'.length_eq]; exact hl))) ?_
  simp only [go_sem, if_true, if_false, reduceIte, Nat.reduceEqDiff, Nat.reduceAdd, Nat.reduceLT, Nat.reduceLeDiff, reduceCtorEq]
  refine hK _ _ ?_; clear hX hK X K
  show IW _ _ _ _ _ _ _ _
  refine IW.ret (Fin.tmp1 1 (by simp [go_sem, if_true, if_false, reduceIte, Nat.reduceEqDiff, Nat.reduceAdd, Nat.reduceLT, Nat.reduceLeDiff, reduceCtorEq]) (by simp [go_sem, if_true, if_false, reduceIte, Nat.reduceEqDiff, Nat.reduceAdd, Nat.reduceLT, Nat.reduceLeDiff, reduceCtorEq]) (by simp [go_sem, if_true, if_false, reduceIte, Nat.reduceEqDiff, Nat.reduceAdd, Nat.reduceLT, Nat.reduceLeDiff, reduceCtorEq, keysD]) (by simp [go_sem, if_true, if_false, reduceIte, Nat.reduceEqDiff, Nat.reduceAdd, Nat.reduceLT, Nat.reduceLeDiff, reduceCtorEq, keysD]))
end Go.Proofs.Ytnbpbehlemaeoaa

set_option linter.unusedVariables false
set_option linter.unusedSimpArgs false
set_option maxRecDepth 10000
namespace Go.Proofs.Ytnbpbehlemaeoaa
open Go.IL
open Go.RowKit Go.Maps
theorem sizeN (s : Int) (h : ∀ k : Int, 1 ≤ k → k ≤ 10 → s ≠ k) (W : World) : Calls Try.prog 13 #[.int .i64 s] W fun e w' => e = .returned (.tuple #[.int .i64 0, .int .i64 0]) ∧ Below W.heap.size W w' := by
  have hc : ∀ W, Calls Try.prog 49 #[.int .i64 s] W fun e w' => e = .returned (.map none) ∧ Below W.heap.size W w' := fun W =>
    ((fDrawNone s h).2 W #[.int .i64 s] ⟨rfl, fun i s' v e1 e2 => by
      match i with
      | 0 => cases e1; cases e2; exact .int _ _
      | i + 1 => simp at e1⟩).mono fun e w' hp => by
        obtain ⟨v, ρ, F, rfl, hb, _, _, _, _, hv⟩ := hp
        cases hv
        exact ⟨rfl, hb⟩
  have hrg := fun w => run_range_nilMap (P := Try.prog) w 72 3 74 m72
  have hnx : ∀ (w : World) ty, (Instr.next (.pointer (some ⟨w.heap.size, 0, none⟩)) false ty).run Try.prog (w.alloc (.mapIter none 0 #[] 0)) = _ := fun w ty => run_next_nilMap w ty 0 0 #[]
  go_enter Try.func13, Try.ntmps13
  go_wp2_with fail
  refine (hc _).mono ?_
  rintro e w1 ⟨rfl, hb⟩
  simp only []
  go_at_K
  go_wp2
  refine wp_loop_rounds 1 ?_
  rw [rounds_succ]
  go_wp2
  first | go_ret | go_ret2 | go_end0
  exact ⟨rfl, hb.alloc hb.size _⟩
/-- The size of a set that there is not. -/
theorem fSizeN (s : Int) (h : ∀ k : Int, 1 ≤ k → k ≤ 10 → s ≠ k) : FSpec Try.prog 13 [.int .i64 s] (.tup [.int .i64 0, .int .i64 0]) [] := by
  refine ⟨enters Try.func13 (by kernel_rfl) rfl, fun w cargs hA => ?_⟩
  have hl := hA.1
  obtain ⟨l⟩ := cargs
  match l, hl with
  | [v], _ =>
    have hv := hA.2 0 _ v rfl rfl
    cases hv
    refine (sizeN s h w).mono fun e w' hp => ?_
    obtain ⟨rfl, hb⟩ := hp
    refine ⟨_, fun _ => none, fun _ => False, rfl, hb, ⟨fun id r ri e => by simp at e, fun id id' r r' ri ri' e => by simp at e, fun b hb => by rcases hb with hb | hb <;> exact hb.elim⟩, fun b hb => hb.elim, fun id ri e => (by cases e), fun _ _ => rfl, ?_⟩
    exact .tup _ _ rfl fun i c v e1 e2 => by
      match i with
      | 0 => cases e1; cases e2; exact .int _ _
      | 1 => cases e1; cases e2; exact .int _ _
      | i + 2 => simp at e1
theorem opB_lookupN {dst : Option Nat} {ty : TypeId} {pos : String} {after : Array Edge} {guard : Option (Nat × Bool)} {g : Operand → SV} {h : Heap} {x k : Operand} {n : Int} (hx : g x = .raw (.map none)) (hk : g k = .int .i64 n) :
    OpB Try.prog ⟨dst, .lookup 72 x k true, ty, pos, after, guard⟩ g h (.tup [.nils, .bool false]) [] := by
  refine opB_ok fun ρ O F w a hs hr => ?_
  have hvx := hr x (by simp [Op.operands])
  have hvk := hr k (by simp [Op.operands])
  rw [hx] at hvx
  rw [hk] at hvk
  generalize hax : a.eval x = vx at hvx
  generalize hak : a.eval k = vk at hvk
  cases hvk
  cases hvx
  have hz : (zeroValue 74).run Try.prog w = .ok (.slice none 0 0) w := by kernel_rfl
  have hrun : (Instr.lookup 72 (.map none) (.int .i64 n) true).run Try.prog w = .ok (.tuple #[.slice none 0 0, .bool false]) w := by
    simp only [Instr.lookup]
    rw [run_bind, run_underlying' m72]
    simp only []
    rw [run_bind, run_pure]
    simp only []
    rw [run_bind, run_checkKey_int u3]
    simp only []
    rw [run_bind]
    unfold Instr.findKey
    rw [run_bind, run_underlying' u3]
    simp only [Instr.findNow, run_pure]
    rw [run_bind, hz]
    simp only [run_bind, run_pure, if_true]
  refine ⟨.tuple #[.slice none 0 0, .bool false], ?_, .tup [.nils, .bool false] _ rfl fun i c v e1 e2 => ?_⟩
  · simp only [execOp, hax, hak]
    rw [run_bind, hrun]
    rfl
  · match i with
    | 0 => cases e1; cases e2; exact .nils
    | 1 => cases e1; cases e2; exact .bool _
    | i + 2 => simp at e1
/-- A glyph of a set that there is not. -/
theorem fGlyphN (s v : Int) (h : ∀ k : Int, 1 ≤ k → k ≤ 10 → s ≠ k) : FSpec Try.prog 18 [.int .i64 s, .int .i64 v] (.tup [resI 0 0 [], .int .i64 20]) (resR []) := by
  refine FSpec.ghost (sv := .tup [.agg [.int .i64 0, .int .i64 0, .nils], .int .i64 20]) ?_ fun F w v h => ?_
  · refine FSpec.intro tab_ok Try.func18 rfl rfl rfl (by kernel_rfl) (by simp) fun w0 => ?_
    simp only [argTM, Nat.zero_add, Nat.reduceAdd]
    repeat refine IW.seq ?_
    refine IW.region_seq tab_ok [some 4, some 5] rfl fun X K hX hK => ?_
    simp only [go_sem, if_true, if_false, reduceIte, Nat.reduceEqDiff, Nat.reduceAdd, Nat.reduceLT, Nat.reduceLeDiff, reduceCtorEq]
    refine hK _ _ ?_; clear hX hK X K
    show IW _ _ _ _ _ _ _ _
    repeat refine IW.seq ?_
    refine IW.region_seq tab_ok [some 9, some 10, some 11, some 12, some 8, some 13, some 14, some 6, some 7] rfl fun X K hX hK => ?_
    simp only [go_sem, if_true, if_false, reduceIte, Nat.reduceEqDiff, Nat.reduceAdd, Nat.reduceLT, Nat.reduceLeDiff, reduceCtorEq]
    refine hX.quiet _ _ (OpG.of_B rfl (opB_call rfl rfl (fDrawNone s h))) ?_
    simp only [go_sem, if_true, if_false, reduceIte, Nat.reduceEqDiff, Nat.reduceAdd, Nat.reduceLT, Nat.reduceLeDiff, reduceCtorEq]
    refine hX.quiet _ _ (OpG.of_B rfl (opB_lookupN (n := v) (by simp [go_sem, if_true, if_false, reduceIte, Nat.reduceEqDiff, Nat.reduceAdd, Nat.reduceLT, Nat.reduceLeDiff, reduceCtorEq, SV.ren]) (by simp [go_sem, if_true, if_false, reduceIte, Nat.reduceEqDiff, Nat.reduceAdd, Nat.reduceLT, Nat.reduceLeDiff, reduceCtorEq]))) ?_
    simp only [go_sem, if_true, if_false, reduceIte, Nat.reduceEqDiff, Nat.reduceAdd, Nat.reduceLT, Nat.reduceLeDiff, reduceCtorEq]
    refine hK _ _ ?_; clear hX hK X K
    show IW _ _ _ _ _ _ _ _
    repeat refine IW.seq ?_
    refine IW.region_seq tab_ok [some 15, some 16] rfl fun X K hX hK => ?_
    simp only [go_sem, if_true, if_false, reduceIte, Nat.reduceEqDiff, Nat.reduceAdd, Nat.reduceLT, Nat.reduceLeDiff, reduceCtorEq]
    refine hK _ _ ?_; clear hX hK X K
    show IW _ _ _ _ _ _ _ _
    repeat refine IW.seq ?_
    refine IW.cond rfl (fun _ => ?_) (fun hb => absurd hb (by decide))
    repeat refine IW.seq ?_
    refine IW.region_seq tab_ok [some 17, none, some 5] rfl fun X K hX hK => ?_
    simp only [go_sem, if_true, if_false, reduceIte, Nat.reduceEqDiff, Nat.reduceAdd, Nat.reduceLT, Nat.reduceLeDiff, reduceCtorEq]
    refine hX.op _ _ rfl (opS_store tab_ok rfl (by simp [go_sem, if_true, if_false, reduceIte, Nat.reduceEqDiff, Nat.reduceAdd, Nat.reduceLT, Nat.reduceLeDiff, reduceCtorEq]) (by simp [go_sem, if_true, if_false, reduceIte, Nat.reduceEqDiff, Nat.reduceAdd, Nat.reduceLT, Nat.reduceLeDiff, reduceCtorEq]) (by simp [go_sem, if_true, if_false, reduceIte, Nat.reduceEqDiff, Nat.reduceAdd, Nat.reduceLT, Nat.reduceLeDiff, reduceCtorEq]) (by simp [go_sem, if_true, if_false, reduceIte, Nat.reduceEqDiff, Nat.reduceAdd, Nat.reduceLT, Nat.reduceLeDiff, reduceCtorEq]) (by simp [go_sem, if_true, if_false, reduceIte, Nat.reduceEqDiff, Nat.reduceAdd, Nat.reduceLT, Nat.reduceLeDiff, reduceCtorEq]) (by simp [go_sem, if_true, if_false, reduceIte, Nat.reduceEqDiff, Nat.reduceAdd, Nat.reduceLT, Nat.reduceLeDiff, reduceCtorEq])) ?_
    simp only [go_sem, if_true, if_false, reduceIte, Nat.reduceEqDiff, Nat.reduceAdd, Nat.reduceLT, Nat.reduceLeDiff, reduceCtorEq]
    refine hK _ _ ?_; clear hX hK X K
    show IW _ _ _ _ _ _ _ _
    refine IW.ret ⟨⟨⟨trivial, by simp [go_sem, if_true, if_false, reduceIte, Nat.reduceEqDiff, Nat.reduceAdd, Nat.reduceLT, Nat.reduceLeDiff, reduceCtorEq]⟩, trivial, trivial⟩, rfl, rfl, [], rfl, by simp, ?_, trivial⟩
    rfl
  · cases h with
    | tup _ us hl hh =>
      refine .tup _ us hl fun i c u e1 e2 => ?_
      match i, e1 with
      | 0, e1 => cases e1; exact rel_agg3 (fun _ h => h) (fun _ h => h) (fun _ h => rel_ls_nil h) (hh 0 _ u rfl e2)
      | 1, e1 => cases e1; exact hh 1 _ u rfl e2
      | i + 2, e1 => simp at e1
end Go.Proofs.Ytnbpbehlemaeoaa

set_option linter.unusedVariables false
set_option linter.unusedSimpArgs false
set_option maxRecDepth 10000
namespace Go.Proofs.Ytnbpbehlemaeoaa
open Go.IL
open Go.RowKit Go.Maps Go.Sort Go.Shelf
/-- slices.Sorted of the keys of a map that there is not -/
theorem opSortedN {dst : Option Nat} {x : Operand} {ats : Array TypeId} {ty : TypeId} {pos : String} {after : Array Edge} {guard : Option (Nat × Bool)} {g : Operand → SV} {h : Heap} {id : Nat}
    (hx : g x = .clo 78 [.ptr id 0 0]) (hr : hrow h id = some ⟨1, 72, [[.raw (.map none)]]⟩) :
    OpB Try.prog ⟨dst, .call ⟨.value (.func 50), #[x], ats⟩, ty, pos, after, guard⟩ g h .nils [] := by
  intro ρ O F w a hsat hrl hfree next Q hn
  have hv := hrl x (by simp [Op.operands, Call.operands])
  rw [hx] at hv
  generalize hax : a.eval x = ax at hv
  cases hv with
  | clo _ _ vs hl2 hh =>
  obtain ⟨l⟩ := vs
  match l, hl2 with
  | [u], _ =>
  have hu := hh 0 _ u rfl rfl
  cases hu with
  | ptr _ _ _ ri hρ =>
  have hR := hsat.row id _ ri (hrow_some hr) hρ
  obtain ⟨arr, e1, e2, e3, e4⟩ := hR.cells
  obtain ⟨mv, hm1, hm2⟩ := e4 0 0 [.raw (.map none)] (.raw (.map none)) rfl rfl
  cases hm2
  have hbl : ri.b < w.heap.size := hR.lt
  have hcell : w.cell? ⟨ri.b, 0, none⟩ = some (.map none) := by simp only [World.cell?, e1]; simpa using hm1
  have hadr : (⟨ri.b, 0 * ri.k + 0, none⟩ : Addr) = ⟨ri.b, 0, none⟩ := by simp
  rw [hadr] at hax
  have hseq := AnyZI.keys_gives_nil (ρ := Try.keysA_ren) { Try.keysA with } Fence.wide 2 trivial rfl ri.b w hbl hcell
  have cS := AnyZI.sorted_in Try.sortedA Fence.wide 5 trivial trivial trivial trivial rfl (by omega) (Try.sortsA _) (enters_of Try.func77 (by kernel_rfl) rfl) 78 #[.pointer (some ⟨ri.b, 0, none⟩)] trivial (enters_of Try.func78 (by kernel_rfl) rfl) _ 0 (by simp [maxLen]) (by omega) _ hseq
  have cC := (callsIn_wide (n := 5)).1 cS
  change Calls Try.prog 50 _ _ _ at cC
  have hexec : (execOp a.eval ⟨dst, .call ⟨.value (.func 50), #[x], ats⟩, ty, pos, after, guard⟩).run Try.prog w = .ok (.enter 50 #[.func (.func 78) #[] #[.pointer (some ⟨ri.b, 0, none⟩)]]) w := by
    simp only [execOp, resolve, show a.eval (.func 50) = .func (.func 50) #[] #[] from rfl, Deferred.ofValue]
    rw [run_bind, run_pure]
    simp only [invoke, Array.empty_append, Array.append_empty, List.map_toArray, List.map_cons, List.map_nil, hax]
    exact enters_of Try.func50 (by kernel_rfl) rfl _ _
  simp only [Oper.wp, hexec, Oper.upon]
  refine cC.mono fun e w' hp => ?_
  obtain ⟨v, ss, rfl, hS, hrow, hnil, hbw⟩ := hp
  have hv := hnil.2 hS
  subst hv
  have hx' : Ext ρ F w ρ F w' := ⟨fun _ _ h => h, fun id ri h h' => (by rw [h'] at h; cases h), fun _ h => h, fun _ h h' => absurd h h', hbw⟩
  refine hn _ ρ F w' hx' (fun id e => absurd rfl e) ⟨fun id r ri e1 e2 => ?_, fun id id' r r' ri ri' e1 e1' e2 e2' hb => ?_, fun b hb => ?_⟩ .nils
  · rw [List.append_nil] at e1
    exact (hsat.row id r ri e1 e2).ext hsat.lt hx'
  · rw [List.append_nil] at e1 e1'
    exact hsat.inj id id' r r' ri ri' e1 e1' e2 e2' hb
  · have := hsat.lt b hb
    have := hbw.size
    omega
/-- The values of a set that there is not. -/
theorem fValuesN (s : Int) (h : ∀ k : Int, 1 ≤ k → k ≤ 10 → s ≠ k) : FSpec Try.prog 16 [.int .i64 s] (lsV 0 ([] : List Int).length) [⟨1, 3, nums .i64 []⟩] := by
  refine FSpec.ghost (r := ⟨1, 3, nums .i64 []⟩) (sv := .nils) ?_ fun F w v h => rel_ls_nil h
  refine FSpec.intro tab_ok Try.func16 rfl rfl rfl (by kernel_rfl) (by simp) fun w0 => ?_
  simp only [argTM, Nat.zero_add, Nat.reduceAdd]
  repeat refine IW.seq ?_
  refine IW.region_seq tab_ok [some 2] rfl fun X K hX hK => ?_
  simp only [go_sem, if_true, if_false, reduceIte, Nat.reduceEqDiff, Nat.reduceAdd, Nat.reduceLT, Nat.reduceLeDiff, reduceCtorEq]
  refine hK _ _ ?_; clear hX hK X K
  show IW _ _ _ _ _ _ _ _
  repeat refine IW.seq ?_
  refine IW.region_seq tab_ok [some 3, some 4, some 5, some 6, some 2] rfl fun X K hX hK => ?_
  simp only [go_sem, if_true, if_false, reduceIte, Nat.reduceEqDiff, Nat.reduceAdd, Nat.reduceLT, Nat.reduceLeDiff, reduceCtorEq]
  refine hX.quiet _ _ (OpG.of_B rfl (opB_call rfl rfl (fDrawNone s h))) ?_
  simp only [go_sem, if_true, if_false, reduceIte, Nat.reduceEqDiff, Nat.reduceAdd, Nat.reduceLT, Nat.reduceLeDiff, reduceCtorEq, SV.ren]
  refine hX.quiet _ _ (OpG.of_B rfl (opB_call rfl rfl (fKeys0 none))) ?_
  simp only [go_sem, if_true, if_false, reduceIte, Nat.reduceEqDiff, Nat.reduceAdd, Nat.reduceLT, Nat.reduceLeDiff, reduceCtorEq, SV.ren]
  refine hX.quiet _ _ (OpG.of_B rfl (opSortedN (id := 0) (by simp [go_sem, if_true, if_false, reduceIte, Nat.reduceEqDiff, Nat.reduceAdd, Nat.reduceLT, Nat.reduceLeDiff, reduceCtorEq]) (by simp [go_sem, if_true, if_false, reduceIte, Nat.reduceEqDiff, Nat.reduceAdd, Nat.reduceLT, Nat.reduceLeDiff, reduceCtorEq, hrow, Row.ren, renLL, renL, SV.ren]))) ?_
  simp only [go_sem, if_true, if_false, reduceIte, Nat.reduceEqDiff, Nat.reduceAdd, Nat.reduceLT, Nat.reduceLeDiff, reduceCtorEq]
  refine hK _ _ ?_; clear hX hK X K
  show IW _ _ _ _ _ _ _ _
  refine IW.ret (Fin.scal rfl rfl ?_)
  simp [go_sem, if_true, if_false, reduceIte, Nat.reduceEqDiff, Nat.reduceAdd, Nat.reduceLT, Nat.reduceLeDiff, reduceCtorEq]
end Go.Proofs.Ytnbpbehlemaeoaa

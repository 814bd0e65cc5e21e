/- Contracts of the program's functions, one by one. -/
import Derived.Test.YtnbpbehlemaeoaaB4
set_option linter.unusedVariables false
set_option linter.unusedSimpArgs false
set_option maxRecDepth 10000
namespace Go.Proofs.Ytnbpbehlemaeoaa
open Go.IL
def dotF (y : Int) : Bool := y == 8 || y == 9 || y == 14 || y == 15
/-- The reference's barlines. -/
def barF (v x y : Int) : Bool :=
  if v == 1 then x == 5 else if v == 2 then x == 4 || x == 6 else if v == 3 then x == 4 || x == 6 || x == 7
  else if v == 4 then x == 3 || x == 4 || x == 6 || (dotF y && (x == 8 || x == 9)) else x == 4 || x == 6 || x == 7 || (dotF y && (x == 1 || x == 2))
set_option maxHeartbeats 2000000 in
theorem refBar_1 (x y : Int) : FSpec Try.prog 56 [.int .i64 1, .int .i64 x, .int .i64 y] (.bool (barF 1 x y)) [] := by
  refine FSpec.intro tab_ok Try.func56 rfl rfl rfl (by kernel_rfl) (by simp) fun w0 => ?_
  simp only [argTM, Nat.zero_add, Nat.reduceAdd]
  repeat refine IW.seq ?_
  refine IW.region_seq tab_ok [some 6] rfl fun X K hX hK => ?_
  simp only [go_sem]
  refine hK _ _ ?_; clear hX hK X K
  show IW _ _ _ _ _ _ _ _
  repeat refine IW.seq ?_
  refine IW.region_seq tab_ok [some 8, some 9, some 10, some 11, some 12, some 13, some 14, some 15, some 16, some 17, some 18, some 19, some 20, some 21, some 7] rfl fun X K hX hK => ?_
  simp only [go_sem]
  refine hK _ _ ?_; clear hX hK X K
  show IW _ _ _ _ _ _ _ _
  repeat refine IW.seq ?_
  refine IW.region_seq tab_ok [some 22] rfl fun X K hX hK => ?_
  simp only [go_sem]
  refine hK _ _ ?_; clear hX hK X K
  show IW _ _ _ _ _ _ _ _
  repeat refine IW.seq ?_
  refine IW.block ?_
  repeat refine IW.seq ?_
  refine IW.region_seq tab_ok [some 24, some 23] rfl fun X K hX hK => ?_
  simp only [go_sem]
  refine hK _ _ ?_; clear hX hK X K
  show IW _ _ _ _ _ _ _ _
  repeat refine IW.seq ?_
  refine IW.cond rfl (fun _ => ?_) (fun hb => absurd hb (by decide))
  repeat refine IW.seq ?_
  refine IW.region_seq tab_ok [some 25, some 26, some 6] rfl fun X K hX hK => ?_
  simp only [go_sem]
  refine hK _ _ ?_; clear hX hK X K
  show IW _ _ _ _ _ _ _ _
  refine IW.ret (Fin.scal rfl rfl ?_)
  rfl
set_option maxHeartbeats 2000000 in
theorem refBar_2 (x y : Int) : FSpec Try.prog 56 [.int .i64 2, .int .i64 x, .int .i64 y] (.bool (barF 2 x y)) [] := by
  refine FSpec.intro tab_ok Try.func56 rfl rfl rfl (by kernel_rfl) (by simp) fun w0 => ?_
  simp only [argTM, Nat.zero_add, Nat.reduceAdd]
  repeat refine IW.seq ?_
  refine IW.region_seq tab_ok [some 6] rfl fun X K hX hK => ?_
  simp only [go_sem]
  refine hK _ _ ?_; clear hX hK X K
  show IW _ _ _ _ _ _ _ _
  repeat refine IW.seq ?_
  refine IW.region_seq tab_ok [some 8, some 9, some 10, some 11, some 12, some 13, some 14, some 15, some 16, some 17, some 18, some 19, some 20, some 21, some 7] rfl fun X K hX hK => ?_
  simp only [go_sem]
  refine hK _ _ ?_; clear hX hK X K
  show IW _ _ _ _ _ _ _ _
  repeat refine IW.seq ?_
  refine IW.region_seq tab_ok [some 22] rfl fun X K hX hK => ?_
  simp only [go_sem]
  refine hK _ _ ?_; clear hX hK X K
  show IW _ _ _ _ _ _ _ _
  repeat refine IW.seq ?_
  refine IW.block ?_
  repeat refine IW.seq ?_
  refine IW.region_seq tab_ok [some 24, some 23] rfl fun X K hX hK => ?_
  simp only [go_sem]
  refine hK _ _ ?_; clear hX hK X K
  show IW _ _ _ _ _ _ _ _
  repeat refine IW.seq ?_
  refine IW.cond rfl (fun hb => absurd hb (by decide)) (fun _ => ?_)
  repeat refine IW.seq ?_
  refine IW.region_seq tab_ok [some 28, some 27] rfl fun X K hX hK => ?_
  simp only [go_sem]
  refine hK _ _ ?_; clear hX hK X K
  show IW _ _ _ _ _ _ _ _
  repeat refine IW.seq ?_
  refine IW.cond rfl (fun _ => ?_) (fun hb => absurd hb (by decide))
  repeat refine IW.seq ?_
  refine IW.region_seq tab_ok [some 29, some 30, some 31, some 32, some 33, some 34, some 6] rfl fun X K hX hK => ?_
  simp only [go_sem]
  refine hK _ _ ?_; clear hX hK X K
  show IW _ _ _ _ _ _ _ _
  refine IW.ret (Fin.scal rfl rfl ?_)
  rfl
set_option maxHeartbeats 2000000 in
theorem refBar_3 (x y : Int) : FSpec Try.prog 56 [.int .i64 3, .int .i64 x, .int .i64 y] (.bool (barF 3 x y)) [] := by
  refine FSpec.intro tab_ok Try.func56 rfl rfl rfl (by kernel_rfl) (by simp) fun w0 => ?_
  simp only [argTM, Nat.zero_add, Nat.reduceAdd]
  repeat refine IW.seq ?_
  refine IW.region_seq tab_ok [some 6] rfl fun X K hX hK => ?_
  simp only [go_sem]
  refine hK _ _ ?_; clear hX hK X K
  show IW _ _ _ _ _ _ _ _
  repeat refine IW.seq ?_
  refine IW.region_seq tab_ok [some 8, some 9, some 10, some 11, some 12, some 13, some 14, some 15, some 16, some 17, some 18, some 19, some 20, some 21, some 7] rfl fun X K hX hK => ?_
  simp only [go_sem]
  refine hK _ _ ?_; clear hX hK X K
  show IW _ _ _ _ _ _ _ _
  repeat refine IW.seq ?_
  refine IW.region_seq tab_ok [some 22] rfl fun X K hX hK => ?_
  simp only [go_sem]
  refine hK _ _ ?_; clear hX hK X K
  show IW _ _ _ _ _ _ _ _
  repeat refine IW.seq ?_
  refine IW.block ?_
  repeat refine IW.seq ?_
  refine IW.region_seq tab_ok [some 24, some 23] rfl fun X K hX hK => ?_
  simp only [go_sem]
  refine hK _ _ ?_; clear hX hK X K
  show IW _ _ _ _ _ _ _ _
  repeat refine IW.seq ?_
  refine IW.cond rfl (fun hb => absurd hb (by decide)) (fun _ => ?_)
  repeat refine IW.seq ?_
  refine IW.region_seq tab_ok [some 28, some 27] rfl fun X K hX hK => ?_
  simp only [go_sem]
  refine hK _ _ ?_; clear hX hK X K
  show IW _ _ _ _ _ _ _ _
  repeat refine IW.seq ?_
  refine IW.cond rfl (fun hb => absurd hb (by decide)) (fun _ => ?_)
  repeat refine IW.seq ?_
  refine IW.region_seq tab_ok [some 36, some 35] rfl fun X K hX hK => ?_
  simp only [go_sem]
  refine hK _ _ ?_; clear hX hK X K
  show IW _ _ _ _ _ _ _ _
  repeat refine IW.seq ?_
  refine IW.cond rfl (fun _ => ?_) (fun hb => absurd hb (by decide))
  repeat refine IW.seq ?_
  refine IW.region_seq tab_ok [some 37, some 38, some 39, some 40, some 41, some 42, some 43, some 44, some 45, some 46, some 6] rfl fun X K hX hK => ?_
  simp only [go_sem]
  refine hK _ _ ?_; clear hX hK X K
  show IW _ _ _ _ _ _ _ _
  refine IW.ret (Fin.scal rfl rfl ?_)
  rfl
set_option maxHeartbeats 2000000 in
theorem refBar_4 (x y : Int) : FSpec Try.prog 56 [.int .i64 4, .int .i64 x, .int .i64 y] (.bool (barF 4 x y)) [] := by
  refine FSpec.intro tab_ok Try.func56 rfl rfl rfl (by kernel_rfl) (by simp) fun w0 => ?_
  simp only [argTM, Nat.zero_add, Nat.reduceAdd]
  repeat refine IW.seq ?_
  refine IW.region_seq tab_ok [some 6] rfl fun X K hX hK => ?_
  simp only [go_sem]
  refine hK _ _ ?_; clear hX hK X K
  show IW _ _ _ _ _ _ _ _
  repeat refine IW.seq ?_
  refine IW.region_seq tab_ok [some 8, some 9, some 10, some 11, some 12, some 13, some 14, some 15, some 16, some 17, some 18, some 19, some 20, some 21, some 7] rfl fun X K hX hK => ?_
  simp only [go_sem]
  refine hK _ _ ?_; clear hX hK X K
  show IW _ _ _ _ _ _ _ _
  repeat refine IW.seq ?_
  refine IW.region_seq tab_ok [some 22] rfl fun X K hX hK => ?_
  simp only [go_sem]
  refine hK _ _ ?_; clear hX hK X K
  show IW _ _ _ _ _ _ _ _
  repeat refine IW.seq ?_
  refine IW.block ?_
  repeat refine IW.seq ?_
  refine IW.region_seq tab_ok [some 24, some 23] rfl fun X K hX hK => ?_
  simp only [go_sem]
  refine hK _ _ ?_; clear hX hK X K
  show IW _ _ _ _ _ _ _ _
  repeat refine IW.seq ?_
  refine IW.cond rfl (fun hb => absurd hb (by decide)) (fun _ => ?_)
  repeat refine IW.seq ?_
  refine IW.region_seq tab_ok [some 28, some 27] rfl fun X K hX hK => ?_
  simp only [go_sem]
  refine hK _ _ ?_; clear hX hK X K
  show IW _ _ _ _ _ _ _ _
  repeat refine IW.seq ?_
  refine IW.cond rfl (fun hb => absurd hb (by decide)) (fun _ => ?_)
  repeat refine IW.seq ?_
  refine IW.region_seq tab_ok [some 36, some 35] rfl fun X K hX hK => ?_
  simp only [go_sem]
  refine hK _ _ ?_; clear hX hK X K
  show IW _ _ _ _ _ _ _ _
  repeat refine IW.seq ?_
  refine IW.cond rfl (fun hb => absurd hb (by decide)) (fun _ => ?_)
  repeat refine IW.seq ?_
  refine IW.region_seq tab_ok [some 48, some 47] rfl fun X K hX hK => ?_
  simp only [go_sem]
  refine hK _ _ ?_; clear hX hK X K
  show IW _ _ _ _ _ _ _ _
  repeat refine IW.seq ?_
  refine IW.cond rfl (fun _ => ?_) (fun hb => absurd hb (by decide))
  repeat refine IW.seq ?_
  refine IW.region_seq tab_ok [some 49, some 50, some 51, some 52, some 53, some 54, some 55, some 56, some 57, some 58, some 59, some 60, some 61, some 62, some 63, some 64, some 65, some 66, some 67, some 68, some 69, some 6] rfl fun X K hX hK => ?_
  simp only [go_sem]
  refine hK _ _ ?_; clear hX hK X K
  show IW _ _ _ _ _ _ _ _
  refine IW.ret (Fin.scal rfl rfl ?_)
  rfl
set_option maxHeartbeats 2000000 in
theorem refBar_5 (x y : Int) : FSpec Try.prog 56 [.int .i64 5, .int .i64 x, .int .i64 y] (.bool (barF 5 x y)) [] := by
  refine FSpec.intro tab_ok Try.func56 rfl rfl rfl (by kernel_rfl) (by simp) fun w0 => ?_
  simp only [argTM, Nat.zero_add, Nat.reduceAdd]
  repeat refine IW.seq ?_
  refine IW.region_seq tab_ok [some 6] rfl fun X K hX hK => ?_
  simp only [go_sem]
  refine hK _ _ ?_; clear hX hK X K
  show IW _ _ _ _ _ _ _ _
  repeat refine IW.seq ?_
  refine IW.region_seq tab_ok [some 8, some 9, some 10, some 11, some 12, some 13, some 14, some 15, some 16, some 17, some 18, some 19, some 20, some 21, some 7] rfl fun X K hX hK => ?_
  simp only [go_sem]
  refine hK _ _ ?_; clear hX hK X K
  show IW _ _ _ _ _ _ _ _
  repeat refine IW.seq ?_
  refine IW.region_seq tab_ok [some 22] rfl fun X K hX hK => ?_
  simp only [go_sem]
  refine hK _ _ ?_; clear hX hK X K
  show IW _ _ _ _ _ _ _ _
  repeat refine IW.seq ?_
  refine IW.block ?_
  repeat refine IW.seq ?_
  refine IW.region_seq tab_ok [some 24, some 23] rfl fun X K hX hK => ?_
  simp only [go_sem]
  refine hK _ _ ?_; clear hX hK X K
  show IW _ _ _ _ _ _ _ _
  repeat refine IW.seq ?_
  refine IW.cond rfl (fun hb => absurd hb (by decide)) (fun _ => ?_)
  repeat refine IW.seq ?_
  refine IW.region_seq tab_ok [some 28, some 27] rfl fun X K hX hK => ?_
  simp only [go_sem]
  refine hK _ _ ?_; clear hX hK X K
  show IW _ _ _ _ _ _ _ _
  repeat refine IW.seq ?_
  refine IW.cond rfl (fun hb => absurd hb (by decide)) (fun _ => ?_)
  repeat refine IW.seq ?_
  refine IW.region_seq tab_ok [some 36, some 35] rfl fun X K hX hK => ?_
  simp only [go_sem]
  refine hK _ _ ?_; clear hX hK X K
  show IW _ _ _ _ _ _ _ _
  repeat refine IW.seq ?_
  refine IW.cond rfl (fun hb => absurd hb (by decide)) (fun _ => ?_)
  repeat refine IW.seq ?_
  refine IW.region_seq tab_ok [some 48, some 47] rfl fun X K hX hK => ?_
  simp only [go_sem]
  refine hK _ _ ?_; clear hX hK X K
  show IW _ _ _ _ _ _ _ _
  repeat refine IW.seq ?_
  refine IW.cond rfl (fun hb => absurd hb (by decide)) (fun _ => ?_)
  refine IW.skip ?_
  show IW _ _ _ _ _ _ _ _
  repeat refine IW.seq ?_
  refine IW.region_seq tab_ok [some 70, some 71, some 72, some 73, some 74, some 75, some 76, some 77, some 78, some 79, some 80, some 81, some 82, some 83, some 84, some 85, some 86, some 87, some 88, some 89, some 90, some 6] rfl fun X K hX hK => ?_
  simp only [go_sem]
  refine hK _ _ ?_; clear hX hK X K
  show IW _ _ _ _ _ _ _ _
  refine IW.ret (Fin.scal rfl rfl ?_)
  rfl
/-- A list of numbers that is appended to: row 0. -/
def apI (l : List Int) : SV := match l with | [] => .nils | _ :: _ => .ref 0 0 l.length
def wpI (l : List Int) : Option Row := match l with | [] => none | _ :: _ => some ⟨1, 3, nums .i64 l⟩
theorem apI_snoc (l : List Int) (c : Int) : apI (l ++ [c]) = .ref 0 0 (l.length + 1) := by cases l <;> simp [apI]
theorem wpI_snoc (l : List Int) (c : Int) : wpI (l ++ [c]) = some ⟨1, 3, nums .i64 (l ++ [c])⟩ := by cases l <;> simp [wpI]
section
variable {O : Nat → Prop} {w0 : Ctx} {N : Nat} {ops : Array Oper} {D : List (Option Nat)} {X : XT}
theorem pushI {dst : Option Nat} {x y : Operand} {ty : TypeId} {pos : String} {after : Array Edge} {r : List Oper} {tm : TM} {l : List Int} {c : Int} {K : TM → Heap → Prop} (hX : XS Try.prog O w0 N tab ops D X) (hx : opnd tm x = apI l) (hy : opnd tm y = .ref 1 0 1) (hl : l.length ≤ 1000000) (hd : ∀ d, dst = some d → d < N)
    (he : E tab D X r (tm.put dst (.ref 2 0 (l.length + 1))) [none, some ⟨1, 3, [[.int .i64 c]]⟩, some ⟨1, 3, nums .i64 (l ++ [c])⟩] K) :
    X ⟨dst, .call ⟨.builtin .append, #[x, y], #[23, 23]⟩, ty, pos, after, none⟩ r tm [wpI l, some ⟨1, 3, [[.int .i64 c]]⟩] K := by
  have hys : srcO [wpI l, some ⟨1, 3, [[.int .i64 c]]⟩] (opnd tm y) = some [[.int .i64 c]] := by rw [hy]; rfl
  cases l with
  | nil =>
    refine hX.quiet _ _ (OpG.of_B rfl (opB_append_nil tab_ok (ys := [[.int .i64 c]]) (m := 1) hx hys rfl (by omega) rfl rfl (by decide) (by intro x hx; simp at hx; subst hx; rfl) rfl (by decide) (by decide))) ?_
    exact he
  | cons b l =>
    have hlen : (nums .i64 (b :: l)).length = (b :: l).length := nums_length _ _
    refine hX.op _ _ rfl (opS_append tab_ok (id := 0) (n := (b :: l).length) (m := 1) (ys := [[.int .i64 c]]) hx hys rfl (by omega) rfl rfl (by decide) (by show _ ≤ (nums .i64 (b :: l)).length; omega) rfl rfl rfl (by intro x hx; simp at hx; subst hx; rfl) rfl (by show ((b :: l).length + 1) * 8 ≤ _; omega) (by omega) hd) ?_
    have e1 : (nums .i64 (b :: l)).take (b :: l).length ++ [[SV.int .i64 c]] = nums .i64 (b :: l ++ [c]) := by
      rw [List.take_of_length_le (by omega)]; simp [nums]
    have e2 : rowXs [wpI (b :: l), some ⟨1, 3, [[SV.int .i64 c]]⟩] 0 = nums .i64 (b :: l) := rfl
    rw [e2, e1]
    exact he
end
def upL (n : Nat) : List Int := (List.range n).map fun i : Nat => (i : Int) + 1
theorem upL_succ (n : Nat) : upL (n + 1) = upL n ++ [(n : Int) + 1] := by simp [upL, List.range_succ]
theorem upL_length (n : Nat) : (upL n).length = n := by simp [upL]
theorem refVals_8 : FSpec Try.prog 52 [.int .i64 8] (.ref 0 0 27) [⟨1, 3, nums .i64 (upL 27)⟩] := by
  refine FSpec.intro tab_ok Try.func52 rfl rfl rfl (by kernel_rfl) (by simp) fun w0 => ?_
  simp only [argTM, Nat.zero_add, Nat.reduceAdd]
  repeat refine IW.seq ?_
  refine IW.region_seq tab_ok [some 2] rfl fun X K hX hK => ?_
  simp only [go_sem]
  refine hK _ _ ?_; clear hX hK X K
  show IW _ _ _ _ _ _ _ _
  repeat refine IW.seq ?_
  refine IW.region_seq tab_ok [some 5] rfl fun X K hX hK => ?_
  simp only [go_sem]
  refine hK _ _ ?_; clear hX hK X K
  show IW _ _ _ _ _ _ _ _
  repeat refine IW.seq ?_
  refine IW.block ?_
  repeat refine IW.seq ?_
  refine IW.region_seq tab_ok [some 7, some 6] rfl fun X K hX hK => ?_
  simp only [go_sem]
  refine hK _ _ ?_; clear hX hK X K
  show IW _ _ _ _ _ _ _ _
  repeat refine IW.seq ?_
  refine IW.cond rfl (fun hb => absurd hb (by decide)) (fun _ => ?_)
  repeat refine IW.seq ?_
  refine IW.region_seq tab_ok [some 8, some 6] rfl fun X K hX hK => ?_
  simp only [go_sem]
  refine hK _ _ ?_; clear hX hK X K
  show IW _ _ _ _ _ _ _ _
  repeat refine IW.seq ?_
  refine IW.cond rfl (fun hb => absurd hb (by decide)) (fun _ => ?_)
  repeat refine IW.seq ?_
  refine IW.region_seq tab_ok [some 9, some 6] rfl fun X K hX hK => ?_
  simp only [go_sem]
  refine hK _ _ ?_; clear hX hK X K
  show IW _ _ _ _ _ _ _ _
  repeat refine IW.seq ?_
  refine IW.cond rfl (fun hb => absurd hb (by decide)) (fun _ => ?_)
  repeat refine IW.seq ?_
  refine IW.region_seq tab_ok [some 12, some 11] rfl fun X K hX hK => ?_
  simp only [go_sem]
  refine hK _ _ ?_; clear hX hK X K
  show IW _ _ _ _ _ _ _ _
  repeat refine IW.seq ?_
  refine IW.cond rfl (fun hb => absurd hb (by decide)) (fun _ => ?_)
  repeat refine IW.seq ?_
  refine IW.region_seq tab_ok [some 13, some 11] rfl fun X K hX hK => ?_
  simp only [go_sem]
  refine hK _ _ ?_; clear hX hK X K
  show IW _ _ _ _ _ _ _ _
  repeat refine IW.seq ?_
  refine IW.cond rfl (fun hb => absurd hb (by decide)) (fun _ => ?_)
  repeat refine IW.seq ?_
  refine IW.region_seq tab_ok [some 14, some 11] rfl fun X K hX hK => ?_
  simp only [go_sem]
  refine hK _ _ ?_; clear hX hK X K
  show IW _ _ _ _ _ _ _ _
  repeat refine IW.seq ?_
  refine IW.cond rfl (fun hb => absurd hb (by decide)) (fun _ => ?_)
  repeat refine IW.seq ?_
  refine IW.region_seq tab_ok [some 17, some 16] rfl fun X K hX hK => ?_
  simp only [go_sem]
  refine hK _ _ ?_; clear hX hK X K
  show IW _ _ _ _ _ _ _ _
  repeat refine IW.seq ?_
  refine IW.cond rfl (fun hb => absurd hb (by decide)) (fun _ => ?_)
  repeat refine IW.seq ?_
  refine IW.region_seq tab_ok [some 20, some 19] rfl fun X K hX hK => ?_
  simp only [go_sem]
  refine hK _ _ ?_; clear hX hK X K
  show IW _ _ _ _ _ _ _ _
  repeat refine IW.seq ?_
  refine IW.cond rfl (fun hb => absurd hb (by decide)) (fun _ => ?_)
  repeat refine IW.seq ?_
  refine IW.region_seq tab_ok [some 23, some 22] rfl fun X K hX hK => ?_
  simp only [go_sem]
  refine hK _ _ ?_; clear hX hK X K
  show IW _ _ _ _ _ _ _ _
  repeat refine IW.seq ?_
  refine IW.cond rfl (fun _ => ?_) (fun hb => absurd hb (by decide))
  repeat refine IW.seq ?_
  refine IW.region_seq tab_ok [some 3] rfl fun X K hX hK => ?_
  simp only [go_sem]
  refine hK _ _ ?_; clear hX hK X K
  show IW _ _ _ _ _ _ _ _
  repeat refine IW.seq ?_
  refine IW.region_seq tab_ok [some 4] rfl fun X K hX hK => ?_
  simp only [go_sem]
  refine hK _ _ ?_; clear hX hK X K
  show IW _ _ _ _ _ _ _ _
  repeat refine IW.seq ?_
  refine IW.block ?_
  refine IW.loop (α := {n : Nat // n ≤ 27}) (fun n => [(3, apI (upL n.1)), (4, .int .i64 (n.1 + 1 : Nat))]) (fun n => [wpI (upL n.1)]) (fun n => 27 - n.1) ⟨0, by omega⟩ ?_ fun ⟨n, hn⟩ => ?_
  · have : upL 0 = [] := rfl
    refine Ent.ren [0] rfl (by decide) ?_ ?_ (fun id ri e => by cases e) <;> simp [go_sem, subT, subH, sg, SV.ren, Row.ren, this, apI, wpI]
  · simp only []
    repeat refine IW.seq ?_
    refine IW.region_seq tab_ok [some 24, some 25] rfl fun X K hX hK => ?_
    simp only [go_sem]
    refine hK _ _ ?_; clear hX hK X K
    show IW _ _ _ _ _ _ _ _
    repeat refine IW.seq ?_
    refine IW.cond rfl (fun hb1 => ?_) (fun hb1 => ?_)
    · simp only [decide_eq_true_eq] at hb1
      have hn27 : n < 27 := by omega
      have hsn := upL_succ n
      have hbl := upL_length n
      generalize hL : upL n = L at *
      refine IW.skip ?_
      show IW _ _ _ _ _ _ _ _
      refine IW.seq (IW.block ?_)
      repeat refine IW.seq ?_
      refine IW.region_seq tab_ok [some 28, some 29, some 30, some 31, some 3] rfl fun X K hX hK => ?_
      simp only [go_sem]
      refine hX.quiet _ _ (OpG.of_B rfl (opB_buildSlice tab_ok rfl (by simp [go_sem]) (by simp [go_sem]) (by simp) (by simp [go_sem, bsO, List.map_cons, List.map_nil]))) ?_
      simp only [go_sem, List.map_cons, List.map_nil]
      refine pushI (c := (n + 1 : Nat)) (l := L) hX (by simp [go_sem]) (by simp [go_sem]) (by omega) (by intro d e; cases e; decide) ?_
      simp only [go_sem]
      refine hK _ _ ?_; clear hX hK X K
      show IW _ _ _ _ _ _ _ _
      repeat refine IW.seq ?_
      refine IW.region_seq tab_ok [some 26, some 27, some 4] rfl fun X K hX hK => ?_
      simp only [go_sem, succ_wrap (show n + 1 < 28 by omega) (by omega)]
      refine hK _ _ ⟨⟨n + 1, hn27⟩, by simp only []; omega, ?_⟩
      simp only [hsn, apI_snoc, wpI_snoc]
      have e3 : ((n + 1 : Nat) : Int) = (n : Int) + 1 := by omega
      rw [e3]
      refine Ent.ren [2] rfl (by decide) ?_ ?_ (fun id ri e => by cases e) <;> simp [go_sem, subT, subH, sg, SV.ren, Row.ren, nums_ren]
    · refine IW.exit ?_
      show IW _ _ _ _ _ _ _ _
      simp only [decide_eq_false_iff_not] at hb1
      obtain rfl : n = 27 := by omega
      have e25 := upL_succ 26
      have e1 : apI (upL 27) = .ref 0 0 27 := by rw [e25, apI_snoc, upL_length]
      have e2 : wpI (upL 27) = some ⟨1, 3, nums .i64 (upL 27)⟩ := by rw [e25, wpI_snoc]
      rw [e1, e2]
      repeat refine IW.seq ?_
      refine IW.region_seq tab_ok [some 32, some 2] rfl fun X K hX hK => ?_
      simp only [go_sem]
      refine hK _ _ ?_; clear hX hK X K
      show IW _ _ _ _ _ _ _ _
      exact IW.ret (Fin.tmp1 0 rfl (nums_nold _ _) rfl (by simp [go_sem, hrow, Row.ren, nums_ren]))
end Go.Proofs.Ytnbpbehlemaeoaa

set_option linter.unusedVariables false
set_option linter.unusedSimpArgs false
set_option maxRecDepth 10000
namespace Go.Proofs.Ytnbpbehlemaeoaa
open Go.IL
theorem nums_unold (k : IntKind) : ∀ l : List Int, unoldLL (nums k l) = nums k l
  | [] => rfl
  | x :: xs => by show unoldLL ([SV.int k x] :: nums k xs) = _; simp only [unoldLL, unoldL, SV.unold, nums_unold k xs]; rfl
theorem nums_rei' (k : IntKind) (n : Nat) (h : Heap) (l : List Int) : (nums k l).map (fun x => x.map (rei (n + 1) h)) = nums k l := by simp [nums, rei]
theorem frz_nums {f : FuncId} {args : List SV} {e : TypeId} {ks : List Int} {n : Nat} (hn : n = ks.length) (h : FSpec Try.prog f args (.ref 0 0 n) [⟨1, e, nums .i64 ks⟩]) : FSpec Try.prog f args (.sl false (nums .i64 ks)) [] := by
  have h1 := FSpec.freeze 3 h
  have h2 : (rei 3 ([(⟨1, e, nums .i64 ks⟩ : Row)].map some) (.ref 0 0 n)).unold = .sl false (nums .i64 ks) := by
    have hx : rei 3 ([(⟨1, e, nums .i64 ks⟩ : Row)].map some) (.ref 0 0 n) = .sl true (nums .i64 ks) := by
      have h3 : (nums .i64 ks).take n = nums .i64 ks := List.take_of_length_le (by rw [nums_length]; omega)
      have h4 : rowXs ([(⟨1, e, nums .i64 ks⟩ : Row)].map some) 0 = nums .i64 ks := rfl
      rw [rei_ref 2 _ 0 0 n ⟨by rw [h4, nums_length]; omega, rfl⟩, h4, List.drop_zero, h3, nums_rei']
    rw [hx]
    simp only [SV.unold, nums_unold]
  rw [h2] at h1; exact h1
theorem frz_strs {f : FuncId} {args : List SV} {e : TypeId} {ks : List ByteArray} {n : Nat} (hn : n = ks.length) (h : FSpec Try.prog f args (.ref 0 0 n) [⟨1, e, strs ks⟩]) : FSpec Try.prog f args (.sl false (strs ks)) [] := by
  have h1 := FSpec.freeze 3 h
  have h2 : (rei 3 ([(⟨1, e, strs ks⟩ : Row)].map some) (.ref 0 0 n)).unold = .sl false (strs ks) := by
    have hx : rei 3 ([(⟨1, e, strs ks⟩ : Row)].map some) (.ref 0 0 n) = .sl true (strs ks) := by
      have h3 : (strs ks).take n = strs ks := List.take_of_length_le (by rw [strs_length]; omega)
      have h4 : rowXs ([(⟨1, e, strs ks⟩ : Row)].map some) 0 = strs ks := rfl
      rw [rei_ref 2 _ 0 0 n ⟨by rw [h4, strs_length]; omega, rfl⟩, h4, List.drop_zero, h3, strs_rei]
    rw [hx]
    simp only [SV.unold, strs_unold]
  rw [h2] at h1; exact h1
/-- What is known of a set, on both sides. -/
structure SetD (s : Int) (w h : Nat) (d : List (Int × List ByteArray)) : Prop where
  hd : FSpecE Try.prog 49 [.int .i64 s] (fun d' : List (Int × List ByteArray) => d'.Perm d) mapC
  size : FSpec Try.prog 14 [.int .i64 s] (.tup [.int .i64 w, .int .i64 h]) []
  vals : FSpec Try.prog 52 [.int .i64 s] (.sl false (nums .i64 (keysD d))) []
  ok : okD w h d
  h0 : 0 < h
  hb : h ≤ 25
  w0 : 0 < w
  wb : w ≤ 10
  ne : 0 < d.length
  le : d.length ≤ 27
  keys : (keysD d).Pairwise (· < ·)
  kb : ∀ k ∈ keysD d, 0 < k ∧ k ≤ 27
  rows : ∃ rv : SV, FSpec Try.prog 55 [.int .i64 s] rv [] ∧ (∀ σ, rv.ren σ = rv) ∧ (∀ n, rv.bnd n = true) ∧ ((s ≠ 9 ∧ rv = .sl false (strs (d.flatMap (·.2)))) ∨
    (s = 9 ∧ ∀ (v : Int) (r : List ByteArray) (x y : Nat), d.lookup v = some r → x < w → y < h → FSpec Try.prog 56 [.int .i64 v, .int .i64 x, .int .i64 y] (.bool (decide (sbAt (r.getD y default) x = 35))) []))
theorem SetD.nodup {s : Int} {w h : Nat} {d : List (Int × List ByteArray)} (S : SetD s w h d) : (keysD d).Nodup := S.keys.imp fun h e => by omega
theorem flat_get {w h : Nat} : ∀ {d : List (Int × List ByteArray)} {j y : Nat}, okD w h d → j < d.length → y < h → (d.flatMap (·.2)).getD (j * h + y) default = (d.getD j (0, [])).2.getD y default
  | [], j, y, _, hj, _ => by simp at hj
  | e :: d, 0, y, hok, _, hy => by
    obtain ⟨k1, _⟩ := hok e (by simp)
    rw [List.flatMap_cons, Nat.zero_mul, Nat.zero_add, List.getD_eq_getElem?_getD, List.getElem?_append_left (by omega)]
    rfl
  | e :: d, j + 1, y, hok, hj, hy => by
    obtain ⟨k1, _⟩ := hok e (by simp)
    have ih := flat_get (d := d) (j := j) (y := y) (fun e he => hok e (List.mem_cons_of_mem _ he)) (by simpa using hj) hy
    rw [List.flatMap_cons, List.getD_eq_getElem?_getD, List.getElem?_append_right (by rw [k1, Nat.succ_mul]; omega), k1]
    rw [show (j + 1) * h + y - h = j * h + y by rw [Nat.succ_mul]; omega, ← List.getD_eq_getElem?_getD, ih]
    rfl
theorem flat_len {w h : Nat} : ∀ {d : List (Int × List ByteArray)}, okD w h d → (d.flatMap (·.2)).length = d.length * h
  | [], _ => by simp
  | e :: d, hok => by
    have k1 := (hok e (by simp)).1
    rw [List.flatMap_cons, List.length_append, flat_len fun e he => hok e (List.mem_cons_of_mem _ he), k1, List.length_cons, Nat.succ_mul]; omega
/-- Where a value stands among the first n. -/
def atI (ks : List Int) (v : Int) : Nat → Int
  | 0 => -1
  | n + 1 => if ks.getD n 0 == v then (n : Int) else atI ks v n
theorem atI_spec (ks : List Int) (v : Int) : ∀ n, (atI ks v n = -1 ∧ ∀ j, j < n → ks.getD j 0 ≠ v) ∨ ∃ j, j < n ∧ atI ks v n = (j : Int) ∧ ks.getD j 0 = v
  | 0 => .inl ⟨rfl, fun j h => absurd h (by omega)⟩
  | n + 1 => by
    unfold atI
    by_cases c : ks.getD n 0 = v
    · exact .inr ⟨n, by omega, by rw [if_pos (by simpa using c)], c⟩
    · rw [if_neg (by simpa using c)]
      rcases atI_spec ks v n with ⟨h1, h2⟩ | ⟨j, h1, h2, h3⟩
      · refine .inl ⟨h1, fun j hj => ?_⟩
        by_cases e : j = n
        · subst e; exact c
        · exact h2 j (by omega)
      · exact .inr ⟨j, by omega, h2, h3⟩
theorem key_at {d : List (Int × List ByteArray)} {j : Nat} (h : j < d.length) : (keysD d).getD j 0 = (d.getD j (0, [])).1 := by simp [keysD, h]
theorem atI_none {d : List (Int × List ByteArray)} {v : Int} (hk : (keysD d).Nodup) (h : d.lookup v = none) : atI (keysD d) v d.length = -1 := by
  rcases atI_spec (keysD d) v d.length with ⟨h1, _⟩ | ⟨j, h1, h2, h3⟩
  · exact h1
  · rw [key_at h1] at h3
    have hj : d.getD j (0, []) ∈ d := by simp [h1]
    have := (lookup_iff hk (v := v) (r := (d.getD j (0, [])).2)).2 (by rw [← h3]; exact hj)
    rw [h] at this; cases this
theorem atI_some {d : List (Int × List ByteArray)} {v : Int} {r : List ByteArray} (hk : (keysD d).Nodup) (h : d.lookup v = some r) : ∃ j, j < d.length ∧ atI (keysD d) v d.length = (j : Int) ∧ d.getD j (0, []) = (v, r) := by
  have hm := (lookup_iff hk).1 h
  rcases atI_spec (keysD d) v d.length with ⟨h1, h2⟩ | ⟨j, h1, h2, h3⟩
  · obtain ⟨i, hi, e⟩ := List.mem_iff_getElem.1 hm
    have := h2 i hi
    rw [key_at hi] at this
    exact absurd (by simp [hi, e]) this
  · refine ⟨j, h1, h2, ?_⟩
    rw [key_at h1] at h3
    have hj : d.getD j (0, []) ∈ d := by simp [h1]
    have h5 := (lookup_iff hk (v := v) (r := (d.getD j (0, [])).2)).2 (by rw [← h3]; exact hj)
    rw [h] at h5
    cases h5
    exact Prod.ext h3 rfl
end Go.Proofs.Ytnbpbehlemaeoaa

set_option linter.unusedVariables false
set_option linter.unusedSimpArgs false
set_option maxRecDepth 10000
namespace Go.Proofs.Ytnbpbehlemaeoaa
open Go.IL
theorem tup_ref {f : FuncId} {args : List SV} {W H e : Int} {p : List Int} (h : FSpec Try.prog f args (.tup [.agg [.int .i64 W, .int .i64 H, .ref 0 0 p.length], .int .i64 e]) (resR p)) : FSpec Try.prog f args (.tup [resI W H p, .int .i64 e]) (resR p) :=
  FSpec.weak h fun ρ F w v h => by
    cases h with
    | tup _ us hl hh =>
      refine .tup _ us hl fun i c u e1 e2 => ?_
      match i, e1 with
      | 0, e1 => cases e1; exact rel_agg3 (fun _ h => h) (fun _ h => h) (fun _ h => rel_ls h) (hh 0 _ u rfl e2)
      | 1, e1 => cases e1; exact hh 1 _ u rfl e2
      | i + 2, e1 => simp at e1
set_option maxHeartbeats 4000000 in
theorem refGlyph {s : Int} {w h : Nat} {d : List (Int × List ByteArray)} (S : SetD s w h d) (v : Int) : FSpec Try.prog 19 [.int .i64 s, .int .i64 v] (.tup [resI (gW d w v) (gW d h v) (gP d v), .int .i64 (gE d v)]) (resR (gP d v)) := by
  have hvals := S.vals
  have hks : (keysD d).length = d.length := by simp [keysD]
  have hle := S.le
  cases hv : d.lookup v with
  | none =>
    simp only [gW, gP, gE, hv]
    have hat := atI_none S.nodup hv
    rw [← hks] at hat
    generalize keysD d = ks at *
    refine FSpec.ghost (sv := .tup [.agg [.int .i64 0, .int .i64 0, .nils], .int .i64 20]) ?_ fun F w v h => ?_
    · refine FSpec.intro tab_ok Try.func19 rfl rfl rfl (by kernel_rfl) (by simp) fun w0 => ?_
      simp only [argTM, Nat.zero_add, Nat.reduceAdd]
      repeat refine IW.seq ?_
      refine IW.region_seq tab_ok [some 4, some 5] rfl fun X K hX hK => ?_
      simp only [go_sem]
      refine hK _ _ ?_; clear hX hK X K
      show IW _ _ _ _ _ _ _ _
      repeat refine IW.seq ?_
      refine IW.region_seq tab_ok [some 6] rfl fun X K hX hK => ?_
      simp only [go_sem]
      refine hK _ _ ?_; clear hX hK X K
      show IW _ _ _ _ _ _ _ _
      repeat refine IW.seq ?_
      refine IW.region_seq tab_ok [some 16, some 17, some 7] rfl fun X K hX hK => ?_
      simp only [go_sem]
      refine hX.quiet _ _ (OpG.of_B rfl (opB_call rfl rfl (FSpec.nz (hvals) (by simp [go_sem, List.map_cons, List.map_nil, List.append_nil, opnd, unc])))) ?_
      simp only [go_sem]
      refine hK _ _ ?_; clear hX hK X K
      show IW _ _ _ _ _ _ _ _
      repeat refine IW.seq ?_
      refine IW.region_seq tab_ok [some 8] rfl fun X K hX hK => ?_
      simp only [go_sem]
      refine hK _ _ ?_; clear hX hK X K
      show IW _ _ _ _ _ _ _ _
      repeat refine IW.seq ?_
      refine IW.block ?_
      refine IW.loop (α := {i : Nat // i ≤ ks.length}) (fun i => [(0, .int .i64 s), (1, .int .i64 v), (4, .ptr 0 0 0), (6, .int .i64 (atI ks v i.1)), (7, .sl false (nums .i64 ks)), (8, .int .i64 i.1)]) (fun _ => [some ⟨3, 33, [[.int .i64 0, .int .i64 0, .nils]]⟩]) (fun i => ks.length - i.1) ⟨0, Nat.zero_le _⟩ ?_ fun ⟨i, hi⟩ => ?_
      · have : atI ks v 0 = -1 := rfl
        refine Ent.cut ?_ ?_ <;> simp only [go_sem, this]
      · simp only []
        repeat refine IW.seq ?_
        refine IW.region_seq tab_ok [some 18, some 19, some 20, some 21] rfl fun X K hX hK => ?_
        simp only [go_sem]
        refine hK _ _ ?_; clear hX hK X K
        show IW _ _ _ _ _ _ _ _
        repeat refine IW.seq ?_
        refine IW.cond rfl (fun hb1 => ?_) (fun hb1 => ?_)
        · simp only [decide_eq_true_eq] at hb1
          have hil : i < ks.length := by omega
          have hsn : atI ks v (i + 1) = if ks.getD i 0 == v then (i : Int) else atI ks v i := rfl
          refine IW.skip ?_
          show IW _ _ _ _ _ _ _ _
          refine IW.seq (IW.block ?_)
          repeat refine IW.seq ?_
          refine IW.region_seq tab_ok [some 24, some 25, some 26, some 27, some 28, some 29] rfl fun X K hX hK => ?_
          simp only [go_sem, nums_at hil]
          refine ⟨⟨by omega, by omega⟩, ?_⟩
          refine hK _ _ ?_; clear hX hK X K
          show IW _ _ _ _ _ _ _ _
          repeat refine IW.seq ?_
          refine IW.cond rfl (fun hb2 => ?_) (fun hb2 => ?_)
          · rw [if_pos hb2] at hsn
            repeat refine IW.seq ?_
            refine IW.region_seq tab_ok [some 30, some 6] rfl fun X K hX hK => ?_
            simp only [go_sem]
            refine hK _ _ ?_; clear hX hK X K
            show IW _ _ _ _ _ _ _ _
            repeat refine IW.seq ?_
            refine IW.region_seq tab_ok [some 22, some 23, some 8] rfl fun X K hX hK => ?_
            simp only [go_sem, succ_wrap hil (by omega)]
            refine hK _ _ ⟨⟨i + 1, hil⟩, by simp only []; omega, ?_⟩
            refine Ent.cut ?_ ?_ <;> simp only [go_sem, hsn]
          · rw [if_neg (by rw [hb2]; simp)] at hsn
            refine IW.skip ?_
            show IW _ _ _ _ _ _ _ _
            repeat refine IW.seq ?_
            refine IW.region_seq tab_ok [some 22, some 23, some 8] rfl fun X K hX hK => ?_
            simp only [go_sem, succ_wrap hil (by omega)]
            refine hK _ _ ⟨⟨i + 1, hil⟩, by simp only []; omega, ?_⟩
            refine Ent.cut ?_ ?_ <;> simp only [go_sem, hsn]
        · refine IW.exit ?_
          show IW _ _ _ _ _ _ _ _
          simp only [decide_eq_false_iff_not] at hb1
          obtain rfl : i = ks.length := by omega
          rw [hat]
          repeat refine IW.seq ?_
          refine IW.region_seq tab_ok [some 31, some 32] rfl fun X K hX hK => ?_
          simp only [go_sem]
          refine hK _ _ ?_; clear hX hK X K
          show IW _ _ _ _ _ _ _ _
          repeat refine IW.seq ?_
          refine IW.cond rfl (fun _ => ?_) (fun hb => absurd hb (by decide))
          repeat refine IW.seq ?_
          refine IW.region_seq tab_ok [some 33, none, some 5] rfl fun X K hX hK => ?_
          simp only [go_sem]
          refine hX.op _ _ rfl (opS_store tab_ok rfl (by simp [go_sem]) (by simp [go_sem]) (by simp [go_sem]) (by simp [go_sem]) (by simp [go_sem]) (by simp [go_sem])) ?_
          simp only [go_sem]
          refine hK _ _ ?_; clear hX hK X K
          show IW _ _ _ _ _ _ _ _
          refine IW.ret ⟨⟨⟨trivial, by simp [go_sem]⟩, trivial, trivial⟩, rfl, rfl, [], rfl, by simp, ?_, trivial⟩
          rfl
    · cases h with
      | tup _ us hl hh =>
        refine .tup _ us hl fun i c u e1 e2 => ?_
        match i, e1 with
        | 0, e1 => cases e1; exact rel_agg3 (fun _ h => h) (fun _ h => h) (fun _ h => rel_ls_nil h) (hh 0 _ u rfl e2)
        | 1, e1 => cases e1; exact hh 1 _ u rfl e2
        | i + 2, e1 => simp at e1
  | some r =>
    simp only [gW, gP, gE, hv]
    obtain ⟨j, hj, hat, hjr⟩ := atI_some S.nodup hv
    obtain ⟨k1, k2⟩ := S.ok _ (lookup_mem' hv)
    simp only [] at k1 k2
    have hflat : ∀ {y : Nat}, y < h → (d.flatMap (·.2)).getD (j * h + y) default = r.getD y default := fun hy => by rw [flat_get S.ok hj hy, hjr]
    have hfl := flat_len S.ok
    obtain ⟨rv, hrv, hren, hbnd, hcase⟩ := S.rows
    have hsize := S.size
    have hw10 := S.wb
    have hh25 := S.hb
    have hmul : w * h ≤ 10 * 25 := Nat.mul_le_mul hw10 hh25
    have hdp : drawP r = rm (w * h) (drawF r w) := by simp only [drawP, k2 0 S.h0, k1]
    rw [hdp]
    refine tup_ref ?_
    rw [← hks] at hat
    have hj27 : j < 27 := by omega
    clear hvals
    have hvals := S.vals
    generalize keysD d = ks at *
    refine FSpec.intro tab_ok Try.func19 rfl rfl rfl (by kernel_rfl) (by simp) fun w0 => ?_
    simp only [argTM, Nat.zero_add, Nat.reduceAdd]
    repeat refine IW.seq ?_
    refine IW.region_seq tab_ok [some 4, some 5] rfl fun X K hX hK => ?_
    simp only [go_sem]
    refine hK _ _ ?_; clear hX hK X K
    show IW _ _ _ _ _ _ _ _
    repeat refine IW.seq ?_
    refine IW.region_seq tab_ok [some 6] rfl fun X K hX hK => ?_
    simp only [go_sem]
    refine hK _ _ ?_; clear hX hK X K
    show IW _ _ _ _ _ _ _ _
    repeat refine IW.seq ?_
    refine IW.region_seq tab_ok [some 16, some 17, some 7] rfl fun X K hX hK => ?_
    simp only [go_sem]
    refine hX.quiet _ _ (OpG.of_B rfl (opB_call rfl rfl (FSpec.nz (hvals) (by simp [go_sem, List.map_cons, List.map_nil, List.append_nil, opnd, unc])))) ?_
    simp only [go_sem]
    refine hK _ _ ?_; clear hX hK X K
    show IW _ _ _ _ _ _ _ _
    repeat refine IW.seq ?_
    refine IW.region_seq tab_ok [some 8] rfl fun X K hX hK => ?_
    simp only [go_sem]
    refine hK _ _ ?_; clear hX hK X K
    show IW _ _ _ _ _ _ _ _
    repeat refine IW.seq ?_
    refine IW.block ?_
    refine IW.loop (α := {i : Nat // i ≤ ks.length}) (fun i => [(0, .int .i64 s), (1, .int .i64 v), (4, .ptr 0 0 0), (6, .int .i64 (atI ks v i.1)), (7, .sl false (nums .i64 ks)), (8, .int .i64 i.1)]) (fun _ => [some ⟨3, 33, [[.int .i64 0, .int .i64 0, .nils]]⟩]) (fun i => ks.length - i.1) ⟨0, Nat.zero_le _⟩ ?_ fun ⟨i, hi⟩ => ?_
    · have : atI ks v 0 = -1 := rfl
      refine Ent.cut ?_ ?_ <;> simp only [go_sem, this]
    · simp only []
      repeat refine IW.seq ?_
      refine IW.region_seq tab_ok [some 18, some 19, some 20, some 21] rfl fun X K hX hK => ?_
      simp only [go_sem]
      refine hK _ _ ?_; clear hX hK X K
      show IW _ _ _ _ _ _ _ _
      repeat refine IW.seq ?_
      refine IW.cond rfl (fun hb1 => ?_) (fun hb1 => ?_)
      · simp only [decide_eq_true_eq] at hb1
        have hil : i < ks.length := by omega
        have hsn : atI ks v (i + 1) = if ks.getD i 0 == v then (i : Int) else atI ks v i := rfl
        refine IW.skip ?_
        show IW _ _ _ _ _ _ _ _
        refine IW.seq (IW.block ?_)
        repeat refine IW.seq ?_
        refine IW.region_seq tab_ok [some 24, some 25, some 26, some 27, some 28, some 29] rfl fun X K hX hK => ?_
        simp only [go_sem, nums_at hil]
        refine ⟨⟨by omega, by omega⟩, ?_⟩
        refine hK _ _ ?_; clear hX hK X K
        show IW _ _ _ _ _ _ _ _
        repeat refine IW.seq ?_
        refine IW.cond rfl (fun hb2 => ?_) (fun hb2 => ?_)
        · rw [if_pos hb2] at hsn
          repeat refine IW.seq ?_
          refine IW.region_seq tab_ok [some 30, some 6] rfl fun X K hX hK => ?_
          simp only [go_sem]
          refine hK _ _ ?_; clear hX hK X K
          show IW _ _ _ _ _ _ _ _
          repeat refine IW.seq ?_
          refine IW.region_seq tab_ok [some 22, some 23, some 8] rfl fun X K hX hK => ?_
          simp only [go_sem, succ_wrap hil (by omega)]
          refine hK _ _ ⟨⟨i + 1, hil⟩, by simp only []; omega, ?_⟩
          refine Ent.cut ?_ ?_ <;> simp only [go_sem, hsn]
        · rw [if_neg (by rw [hb2]; simp)] at hsn
          refine IW.skip ?_
          show IW _ _ _ _ _ _ _ _
          repeat refine IW.seq ?_
          refine IW.region_seq tab_ok [some 22, some 23, some 8] rfl fun X K hX hK => ?_
          simp only [go_sem, succ_wrap hil (by omega)]
          refine hK _ _ ⟨⟨i + 1, hil⟩, by simp only []; omega, ?_⟩
          refine Ent.cut ?_ ?_ <;> simp only [go_sem, hsn]
      · refine IW.exit ?_
        show IW _ _ _ _ _ _ _ _
        simp only [decide_eq_false_iff_not] at hb1
        obtain rfl : i = ks.length := by omega
        rw [hat]
        have hjn : ¬ ((j : Int) < 0) := by omega
        repeat refine IW.seq ?_
        refine IW.region_seq tab_ok [some 31, some 32] rfl fun X K hX hK => ?_
        simp only [go_sem, hjn, decide_false]
        refine hK _ _ ?_; clear hX hK X K
        show IW _ _ _ _ _ _ _ _
        repeat refine IW.seq ?_
        refine IW.cond rfl (fun hb => absurd hb (by decide)) (fun _ => ?_)
        refine IW.skip ?_
        show IW _ _ _ _ _ _ _ _
        repeat refine IW.seq ?_
        refine IW.region_seq tab_ok [some 35, some 36, some 34, some 37, some 38, some 9, some 10] rfl fun X K hX hK => ?_
        simp only [go_sem]
        refine hX.quiet _ _ (OpG.of_B rfl (opB_call rfl rfl (FSpec.nz (hsize) (by simp [go_sem, List.map_cons, List.map_nil, List.append_nil, opnd, unc])))) ?_
        simp only [go_sem]
        refine hK _ _ ?_; clear hX hK X K
        show IW _ _ _ _ _ _ _ _
        repeat refine IW.seq ?_
        refine IW.region_seq tab_ok [some 39, some 40, some 41, some 11, none] rfl fun X K hX hK => ?_
        simp only [go_sem]
        refine hX.quiet _ _ (OpG.of_B rfl (opB_call rfl rfl (FSpec.nz (refBlank w h (by omega) (by omega) (by omega)) (by simp [go_sem, List.map_cons, List.map_nil, List.append_nil, opnd, unc, imgSV, imgRows])))) ?_
        simp only [go_sem, imgSV, imgRows]
        refine hX.op _ _ rfl (opS_store tab_ok rfl (by simp [go_sem]) (by simp [go_sem]) (by simp [go_sem]) (by simp [go_sem]) (by simp [go_sem]) (by simp [go_sem])) ?_
        simp only [go_sem]
        refine hK _ _ ?_; clear hX hK X K
        show IW _ _ _ _ _ _ _ _
        repeat refine IW.seq ?_
        refine IW.region_seq tab_ok [some 42, some 43, some 12] rfl fun X K hX hK => ?_
        simp only [go_sem]
        refine hX.quiet _ _ (OpG.of_B rfl (opB_call rfl rfl (FSpec.nz (hrv) (by simp [go_sem, List.map_cons, List.map_nil, List.append_nil, opnd, unc, hren])))) ?_
        simp only [go_sem, hren]
        refine hK _ _ ?_; clear hX hK X K
        show IW _ _ _ _ _ _ _ _
        repeat refine IW.seq ?_
        refine IW.region_seq tab_ok [some 13] rfl fun X K hX hK => ?_
        simp only [go_sem]
        refine hK _ _ ?_; clear hX hK X K
        show IW _ _ _ _ _ _ _ _
        repeat refine IW.seq ?_
        refine IW.block ?_
        refine IW.loop (α := {y : Nat // y ≤ h}) (fun y => [(0, .int .i64 s), (1, .int .i64 v), (4, .ptr 0 0 0), (6, .int .i64 j), (9, .int .i64 w), (10, .int .i64 h), (11, .ptr 2 0 0), (12, rv), (13, .int .i64 y.1)]) (fun y => [some ⟨3, 33, [[.int .i64 0, .int .i64 0, .nils]]⟩, some ⟨1, 5, nums .u8 (upto (drawF r w) (w * h) (y.1 * w))⟩, some ⟨3, 33, [[.int .i64 w, .int .i64 h, .ref 1 0 (w * h)]]⟩]) (fun y => h - y.1) ⟨0, Nat.zero_le _⟩ ?_ fun ⟨y, hy⟩ => ?_
        · refine Ent.cut ?_ ?_ <;> simp only [go_sem, Nat.zero_mul, upto_zero, List.length_replicate, hbnd]
        · simp only []
          repeat refine IW.seq ?_
          refine IW.region_seq tab_ok [some 44, some 45, some 46] rfl fun X K hX hK => ?_
          simp only [go_sem]
          refine hK _ _ ?_; clear hX hK X K
          show IW _ _ _ _ _ _ _ _
          repeat refine IW.seq ?_
          refine IW.cond rfl (fun hb2 => ?_) (fun hb2 => ?_)
          · simp only [decide_eq_true_eq] at hb2
            have hyh : y < h := by omega
            refine IW.skip ?_
            show IW _ _ _ _ _ _ _ _
            refine IW.seq (IW.block ?_)
            repeat refine IW.seq ?_
            refine IW.region_seq tab_ok [some 14] rfl fun X K hX hK => ?_
            simp only [go_sem]
            refine hK _ _ ?_; clear hX hK X K
            show IW _ _ _ _ _ _ _ _
            repeat refine IW.seq ?_
            refine IW.block ?_
            refine IW.loop (α := {x : Nat // x ≤ w}) (fun x => [(0, .int .i64 s), (1, .int .i64 v), (4, .ptr 0 0 0), (6, .int .i64 j), (9, .int .i64 w), (10, .int .i64 h), (11, .ptr 2 0 0), (12, rv), (13, .int .i64 y), (14, .int .i64 x.1)]) (fun x => [some ⟨3, 33, [[.int .i64 0, .int .i64 0, .nils]]⟩, some ⟨1, 5, nums .u8 (upto (drawF r w) (w * h) (y * w + x.1))⟩, some ⟨3, 33, [[.int .i64 w, .int .i64 h, .ref 1 0 (w * h)]]⟩]) (fun x => w - x.1) ⟨0, Nat.zero_le _⟩ ?_ fun ⟨x, hx⟩ => ?_
            · refine Ent.cut ?_ ?_ <;> simp only [go_sem, Nat.add_zero, hbnd]
            · simp only []
              repeat refine IW.seq ?_
              refine IW.region_seq tab_ok [some 49, some 50, some 51] rfl fun X K hX hK => ?_
              simp only [go_sem]
              refine hK _ _ ?_; clear hX hK X K
              show IW _ _ _ _ _ _ _ _
              repeat refine IW.seq ?_
              refine IW.cond rfl (fun hb3 => ?_) (fun hb3 => ?_)
              · simp only [decide_eq_true_eq] at hb3
                have hxw : x < w := by omega
                obtain ⟨e1, e2, hk2⟩ := wrap_cell (n := w * h) hxw hyh rfl (by omega)
                have hce := (cell_eq (t := y * w + x) (y := y) hxw).1 rfl
                have hset := upto_set (drawF r w) (w * h) (y * w + x)
                have hdf : drawF r w (y * w + x) = if sbAt (r.getD y default) x = 35 then 1 else 0 := by simp only [drawF, hce.1, hce.2]
                refine IW.skip ?_
                show IW _ _ _ _ _ _ _ _
                refine IW.seq (IW.block ?_)
                repeat refine IW.seq ?_
                refine IW.region_seq tab_ok [some 15] rfl fun X K hX hK => ?_
                simp only [go_sem]
                refine hK _ _ ?_; clear hX hK X K
                show IW _ _ _ _ _ _ _ _
                repeat refine IW.seq ?_
                refine IW.region_seq tab_ok [some 54, some 55] rfl fun X K hX hK => ?_
                simp only [go_sem]
                refine hK _ _ ?_; clear hX hK X K
                show IW _ _ _ _ _ _ _ _
                repeat refine IW.seq ?_
                refine IW.joinI (α := Unit) (fun _ => [(15, .bool (decide (sbAt (r.getD y default) x = 35))), (0, .int .i64 s), (1, .int .i64 v), (4, .ptr 0 0 0), (6, .int .i64 j), (9, .int .i64 w), (10, .int .i64 h), (11, .ptr 2 0 0), (12, rv), (13, .int .i64 y), (14, .int .i64 x)]) (fun _ => [some ⟨3, 33, [[.int .i64 0, .int .i64 0, .nils]]⟩, some ⟨1, 5, nums .u8 (upto (drawF r w) (w * h) (y * w + x))⟩, some ⟨3, 33, [[.int .i64 w, .int .i64 h, .ref 1 0 (w * h)]]⟩]) ?_ fun _ => ?_
                · rcases hcase with ⟨hs9, rfl⟩ | ⟨hs9, hbar⟩
                  · have h9 : (s == 9) = false := by simpa using hs9
                    refine IW.cond (by simp only [h9]; rfl) (fun hb => absurd hb (by decide)) (fun _ => ?_)
                    have hjh : j * h + y < (d.flatMap (·.2)).length := by
                      rw [hfl]
                      have : (j + 1) * h ≤ d.length * h := Nat.mul_le_mul_right _ hj
                      rw [Nat.succ_mul] at this; omega
                    have hm9 : j * h ≤ 27 * 25 := Nat.mul_le_mul (by omega) hh25
                    have e5 : IntKind.i64.wrap ((j : Int) * (h : Int)) = ((j * h : Nat) : Int) := by
                      rw [← Int.natCast_mul]; exact wrap_eq (by omega) (by omega)
                    have e6 : IntKind.i64.wrap (((j * h : Nat) : Int) + (y : Int)) = ((j * h + y : Nat) : Int) := (wrap_eq (by omega) (by omega)).trans (by omega)
                    have hsa := strs_at hjh
                    rw [hflat hyh] at hsa
                    have hsz := k2 y hyh
                    repeat refine IW.seq ?_
                    refine IW.region_seq tab_ok [some 60, some 61, some 62, some 63, some 64, some 65, some 66, some 67, some 68, some 69, some 70, some 15] rfl fun X K hX hK => ?_
                    simp only [go_sem, e5, e6, hsa, hsz, Int.toNat_natCast]
                    have hdc : (sbAt (r.getD y default) x == 35) = decide (sbAt (r.getD y default) x = 35) := by rw [Bool.eq_iff_iff]; simp
                    refine ⟨⟨by omega, by omega⟩, ⟨by omega, by omega⟩, hK _ _ ⟨(), ?_⟩⟩
                    refine Ent.cut ?_ ?_ <;> simp only [go_sem, hdc, hbnd]
                  · have h9 : (s == 9) = true := by simpa using hs9
                    refine IW.cond (by simp only [h9]; rfl) (fun _ => ?_) (fun hb => absurd hb (by decide))
                    repeat refine IW.seq ?_
                    refine IW.region_seq tab_ok [some 56, some 57, some 58, some 59, some 15] rfl fun X K hX hK => ?_
                    simp only [go_sem]
                    refine hX.quiet _ _ (OpG.of_B rfl (opB_call rfl rfl (FSpec.nz (hbar v r x y hv hxw hyh) (by simp [go_sem, List.map_cons, List.map_nil, List.append_nil, opnd, unc])))) ?_
                    simp only [go_sem]
                    refine hK _ _ ⟨(), ?_⟩
                    refine Ent.cut ?_ ?_ <;> simp only [go_sem, hbnd]
                · repeat refine IW.seq ?_
                  refine IW.region_seq tab_ok [some 71] rfl fun X K hX hK => ?_
                  simp only [go_sem]
                  refine hK _ _ ?_; clear hX hK X K
                  show IW _ _ _ _ _ _ _ _
                  repeat refine IW.seq ?_
                  refine IW.cond rfl (fun hb4 => ?_) (fun hb4 => ?_)
                  · have hk3 := nums_at (k := .u8) (xs := upto (drawF r w) (w * h) (y * w + x)) (i := y * w + x) (by simp [upto_length, hk2])
                    repeat refine IW.seq ?_
                    refine IW.region_seq tab_ok [some 72, some 73, some 74, some 75, some 76, some 77, some 78, some 79, none] rfl fun X K hX hK => ?_
                    simp only [go_sem, e1, e2]
                    refine ⟨⟨by omega, by omega⟩, ?_⟩
                    refine hX.op _ _ rfl (opS_store tab_ok rfl (by simp [go_sem]) (by simp [go_sem]) (by simp [go_sem]) (by simp [go_sem, hk2, hk3]) (by simp [go_sem]) (by simp [go_sem])) ?_
                    simp only [go_sem, hk2, hk3]
                    refine hK _ _ ?_; clear hX hK X K
                    show IW _ _ _ _ _ _ _ _
                    repeat refine IW.seq ?_
                    refine IW.region_seq tab_ok [some 52, some 53, some 14] rfl fun X K hX hK => ?_
                    simp only [go_sem, succ_wrap hxw (by omega)]
                    refine hK _ _ ⟨⟨x + 1, hxw⟩, by simp only []; omega, ?_⟩
                    rw [hdf, if_pos (by simpa using hb4)] at hset
                    refine Ent.cut ?_ ?_ <;> simp only [go_sem, ← Nat.add_assoc, hset, hbnd]
                  · refine IW.skip ?_
                    show IW _ _ _ _ _ _ _ _
                    repeat refine IW.seq ?_
                    refine IW.region_seq tab_ok [some 52, some 53, some 14] rfl fun X K hX hK => ?_
                    simp only [go_sem, succ_wrap hxw (by omega)]
                    refine hK _ _ ⟨⟨x + 1, hxw⟩, by simp only []; omega, ?_⟩
                    rw [hdf, if_neg (by simpa using hb4)] at hset
                    have h1 : (upto (drawF r w) (w * h) (y * w + x)).set (y * w + x) 0 = upto (drawF r w) (w * h) (y * w + x) := by
                      apply List.ext_getElem
                      · simp
                      · intro i h1 h2
                        by_cases c : y * w + x = i
                        · subst c; simp [upto]
                        · rw [List.getElem_set_ne c]
                    rw [h1] at hset
                    refine Ent.cut ?_ ?_ <;> simp only [go_sem, ← Nat.add_assoc, ← hset, hbnd]
              · refine IW.exit ?_
                show IW _ _ _ _ _ _ _ _
                simp only [decide_eq_false_iff_not] at hb3
                obtain rfl : x = w := by omega
                repeat refine IW.seq ?_
                refine IW.region_seq tab_ok [some 47, some 48, some 13] rfl fun X K hX hK => ?_
                simp only [go_sem, succ_wrap hyh (by omega)]
                refine hK _ _ ⟨⟨y + 1, hyh⟩, by simp only []; omega, ?_⟩
                refine Ent.cut ?_ ?_ <;> simp only [go_sem, Nat.succ_mul, hbnd]
          · refine IW.exit ?_
            show IW _ _ _ _ _ _ _ _
            simp only [decide_eq_false_iff_not] at hb2
            obtain rfl : y = h := by omega
            have hall : upto (drawF r w) (w * y) (y * w) = rm (w * y) (drawF r w) := by rw [Nat.mul_comm y w, upto_all]; rfl
            rw [hall]
            repeat refine IW.seq ?_
            refine IW.region_seq tab_ok [some 80, none, some 5] rfl fun X K hX hK => ?_
            simp only [go_sem]
            refine hX.op _ _ rfl (opS_store tab_ok rfl (by simp [go_sem]) (by simp [go_sem]) (by simp [go_sem]) (by simp [go_sem]) (by simp [go_sem]) (by simp [go_sem])) ?_
            simp only [go_sem]
            refine hK _ _ ?_; clear hX hK X K
            show IW _ _ _ _ _ _ _ _
            refine IW.ret ⟨⟨⟨trivial, by simp [go_sem]⟩, trivial, trivial⟩, by simp [go_sem], by simp [go_sem, resR, rowsNold], [1], rfl, by simp, ?_, ?_⟩
            · simp [go_sem, resAll, resSV]
            · exact ⟨by simp [go_sem], trivial⟩
end Go.Proofs.Ytnbpbehlemaeoaa

set_option linter.unusedVariables false
set_option linter.unusedSimpArgs false
set_option maxRecDepth 10000
namespace Go.Proofs.Ytnbpbehlemaeoaa
open Go.IL
theorem ren_strs (σ : Nat → Nat) (l : List ByteArray) : (SV.sl false (strs l)).ren σ = .sl false (strs l) := by simp only [SV.ren, strs_ren]
theorem bnd_strs (n : Nat) (l : List ByteArray) : (SV.sl false (strs l)).bnd n = true := by simp only [SV.bnd, strs_bnd]
theorem setD_1 : SetD 1 6 5 drw1 :=
  ⟨FSpecE.of (.refl _) (fDrw rfl), refSize_1, frz_nums rfl refVals_1, okD_of (by kernel_rfl), by decide, by decide, by decide, by decide, by decide, by decide, by decide, by decide, ⟨_, frz_strs rfl refRows_1, fun σ => ren_strs σ _, fun n => bnd_strs n _, .inl ⟨by decide, rfl⟩⟩⟩
theorem setD_2 : SetD 2 4 5 drw2 :=
  ⟨FSpecE.of (.refl _) (fDrw rfl), refSize_2, frz_nums rfl refVals_2, okD_of (by kernel_rfl), by decide, by decide, by decide, by decide, by decide, by decide, by decide, by decide, ⟨_, frz_strs rfl refRows_2, fun σ => ren_strs σ _, fun n => bnd_strs n _, .inl ⟨by decide, rfl⟩⟩⟩
theorem setD_3 : SetD 3 2 5 drw3 :=
  ⟨FSpecE.of (.refl _) (fDrw rfl), refSize_3, frz_nums rfl refVals_3, okD_of (by kernel_rfl), by decide, by decide, by decide, by decide, by decide, by decide, by decide, by decide, ⟨_, frz_strs rfl refRows_3, fun σ => ren_strs σ _, fun n => bnd_strs n _, .inl ⟨by decide, rfl⟩⟩⟩
theorem setD_4 : SetD 4 3 5 drw4 :=
  ⟨FSpecE.of (.refl _) (fDrw rfl), refSize_4, frz_nums rfl refVals_4, okD_of (by kernel_rfl), by decide, by decide, by decide, by decide, by decide, by decide, by decide, by decide, ⟨_, frz_strs rfl refRows_4, fun σ => ren_strs σ _, fun n => bnd_strs n _, .inl ⟨by decide, rfl⟩⟩⟩
theorem setD_5 : SetD 5 6 7 drw5 :=
  ⟨FSpecE.of (.refl _) (fDrw rfl), refSize_5, frz_nums rfl refVals_5, okD_of (by kernel_rfl), by decide, by decide, by decide, by decide, by decide, by decide, by decide, by decide, ⟨_, frz_strs rfl refRows_5, fun σ => ren_strs σ _, fun n => bnd_strs n _, .inl ⟨by decide, rfl⟩⟩⟩
theorem setD_6 : SetD 6 6 5 drw6 :=
  ⟨FSpecE.of (.refl _) (fDrw rfl), refSize_6, frz_nums rfl refVals_6, okD_of (by kernel_rfl), by decide, by decide, by decide, by decide, by decide, by decide, by decide, by decide, ⟨_, frz_strs rfl refRows_6, fun σ => ren_strs σ _, fun n => bnd_strs n _, .inl ⟨by decide, rfl⟩⟩⟩
theorem setD_7 : SetD 7 4 5 drw7 :=
  ⟨FSpecE.of (.refl _) (fDrw rfl), refSize_7, frz_nums rfl refVals_7, okD_of (by kernel_rfl), by decide, by decide, by decide, by decide, by decide, by decide, by decide, by decide, ⟨_, frz_strs rfl refRows_7, fun σ => ren_strs σ _, fun n => bnd_strs n _, .inl ⟨by decide, rfl⟩⟩⟩
theorem setD_8 : SetD 8 4 5 drw8 :=
  ⟨FSpecE.of (.refl _) (fDrw rfl), refSize_8, frz_nums rfl refVals_8, okD_of (by kernel_rfl), by decide, by decide, by decide, by decide, by decide, by decide, by decide, by decide, ⟨_, frz_strs rfl refRows_8, fun σ => ren_strs σ _, fun n => bnd_strs n _, .inl ⟨by decide, rfl⟩⟩⟩
theorem setD_10 : SetD 10 2 4 drw10 :=
  ⟨FSpecE.of (.refl _) (fDrw rfl), refSize_10, frz_nums rfl refVals_10, okD_of (by kernel_rfl), by decide, by decide, by decide, by decide, by decide, by decide, by decide, by decide, ⟨_, frz_strs rfl refRows_10, fun σ => ren_strs σ _, fun n => bnd_strs n _, .inl ⟨by decide, rfl⟩⟩⟩
theorem barC_1 : ((List.range 25).all fun y => (List.range 10).all fun x => barF 1 x y == decide (sbAt ((barL 5 (-1) (-1) (-1) (-1) (-1) 25).getD y default) x = 35)) = true := by kernel_rfl
theorem barC_2 : ((List.range 25).all fun y => (List.range 10).all fun x => barF 2 x y == decide (sbAt ((barL 4 6 (-1) (-1) (-1) (-1) 25).getD y default) x = 35)) = true := by kernel_rfl
theorem barC_3 : ((List.range 25).all fun y => (List.range 10).all fun x => barF 3 x y == decide (sbAt ((barL 4 6 7 (-1) (-1) (-1) 25).getD y default) x = 35)) = true := by kernel_rfl
theorem barC_4 : ((List.range 25).all fun y => (List.range 10).all fun x => barF 4 x y == decide (sbAt ((barL 3 4 6 8 9 (-1) 25).getD y default) x = 35)) = true := by kernel_rfl
theorem barC_5 : ((List.range 25).all fun y => (List.range 10).all fun x => barF 5 x y == decide (sbAt ((barL 4 6 7 1 2 (-1) 25).getD y default) x = 35)) = true := by kernel_rfl
theorem bar_of {v : Int} {l : List ByteArray} (h : ((List.range 25).all fun y => (List.range 10).all fun x => barF v x y == decide (sbAt (l.getD y default) x = 35)) = true) {x y : Nat} (hx : x < 10) (hy : y < 25) : barF v x y = decide (sbAt (l.getD y default) x = 35) := by
  have h1 := List.all_eq_true.1 h y (List.mem_range.2 hy)
  have h2 := List.all_eq_true.1 h1 x (List.mem_range.2 hx)
  simpa using h2
theorem ok_bar : okD 10 25 barD := okD_of (by kernel_rfl)
theorem setD_9 : SetD 9 10 25 barD :=
  ⟨fDraw9, refSize_9, frz_nums rfl refVals_9, ok_bar, by decide, by decide, by decide, by decide, by decide, by decide, by decide, by decide, ⟨_, refRows_9, fun σ => rfl, fun n => rfl, .inr ⟨rfl, fun v r x y hl hx hy => by
    have hm := (lookup_iff (by decide)).1 hl
    simp only [barD, List.mem_cons, List.not_mem_nil, or_false, Prod.mk.injEq] at hm
    rcases hm with ⟨rfl, rfl⟩ | ⟨rfl, rfl⟩ | ⟨rfl, rfl⟩ | ⟨rfl, rfl⟩ | ⟨rfl, rfl⟩
    · rw [← bar_of barC_1 hx hy]; exact refBar_1 x y
    · rw [← bar_of barC_2 hx hy]; exact refBar_2 x y
    · rw [← bar_of barC_3 hx hy]; exact refBar_3 x y
    · rw [← bar_of barC_4 hx hy]; exact refBar_4 x y
    · rw [← bar_of barC_5 hx hy]; exact refBar_5 x y⟩⟩⟩
end Go.Proofs.Ytnbpbehlemaeoaa

set_option linter.unusedVariables false
set_option linter.unusedSimpArgs false
set_option maxRecDepth 10000
namespace Go.Proofs.Ytnbpbehlemaeoaa
open Go.IL
theorem setN {s : Int} (h : ¬ (1 ≤ s ∧ s ≤ 10)) : ∀ k : Int, 1 ≤ k → k ≤ 10 → s ≠ k := fun k h1 h2 e => h (by omega)
theorem SetD.fSize {s : Int} {w h : Nat} {d : List (Int × List ByteArray)} (S : SetD s w h d) : FSpec Try.prog 13 [.int .i64 s] (.tup [.int .i64 w, .int .i64 h]) [] := fSizeE s w h d S.hd S.ok S.h0 S.ne
theorem SetD.fVals {s : Int} {w h : Nat} {d : List (Int × List ByteArray)} (S : SetD s w h d) : FSpec Try.prog 16 [.int .i64 s] (lsV 0 (keysD d).length) [⟨1, 3, nums .i64 (keysD d)⟩] :=
  fValuesE s d S.hd S.keys (fun k hk => by have := S.kb k hk; unfold I64; omega) (by have := S.le; omega)
theorem SetD.fGly {s : Int} {w h : Nat} {d : List (Int × List ByteArray)} (S : SetD s w h d) (v : Int) : FSpec Try.prog 18 [.int .i64 s, .int .i64 v] (.tup [resI (gW d w v) (gW d h v) (gP d v), .int .i64 (gE d v)]) (resR (gP d v)) :=
  fGlyphE s v w h d S.hd S.nodup S.ok S.h0 (by have := S.hb; omega) (by have := S.wb; omega)
end Go.Proofs.Ytnbpbehlemaeoaa

set_option linter.unusedVariables false
set_option linter.unusedSimpArgs false
set_option maxRecDepth 10000
namespace Go.Proofs.Ytnbpbehlemaeoaa
open Go.IL
/-- Two sorted stretches, the first numbers of the first one below those of the second one. -/
def MP (L U : List (Int × Int)) : Prop := L.Pairwise lex ∧ U.Pairwise lex ∧ ∀ x ∈ L, ∀ y ∈ U, x.1 < y.1
theorem lex_ne {p q : Int × Int} (h : lex p q) : p ≠ q := by rintro rfl; unfold lex at h; omega
theorem MP.ne {L U : List (Int × Int)} (h : MP L U) : (L ++ U).Pairwise (· ≠ ·) := by
  rw [List.pairwise_append]
  exact ⟨h.1.imp lex_ne, h.2.1.imp lex_ne, fun x hx y hy e => by have := h.2.2 x hx y hy; rw [e] at this; omega⟩
theorem srt_opt' {l : List (Int × Int)} (hv : l.Pairwise (· ≠ ·)) : srt l (optS l) := by
  refine ⟨List.mergeSort_perm _ _, ?_⟩
  have h1 := List.pairwise_mergeSort (le := leB) (fun a b c h1 h2 => by simp only [leB, decide_eq_true_eq] at *; omega) (fun a b => by simp only [leB, Bool.or_eq_true, decide_eq_true_eq]; omega) l
  have h2 : (optS l).Pairwise (· ≠ ·) := (List.mergeSort_perm l leB).symm.pairwise hv (fun h e => h e.symm)
  refine (h1.and h2).imp fun {a b} ⟨h3, h4⟩ => ?_
  simp only [leB, decide_eq_true_eq] at h3
  unfold lex
  by_cases c : a.1 = b.1
  · by_cases d : a.2 = b.2
    · exact absurd (Prod.ext c d) h4
    · omega
  · omega
theorem opt_sorted {l : List (Int × Int)} (h : l.Pairwise lex) : optS l = l := srt_unique (srt_opt' (h.imp lex_ne)) ⟨.refl _, h⟩
theorem opt_sort {L U : List (Int × Int)} (h : MP L U) : (optS (L ++ U)).Pairwise lex := (srt_opt' h.ne).2
theorem opt_perm (l : List (Int × Int)) : (optS l).Perm l := List.mergeSort_perm _ _
theorem opt_length (l : List (Int × Int)) : (optS l).length = l.length := (opt_perm l).length_eq
theorem opt_split {A1 A2 B1 B2 : List (Int × Int)} (h : MP (A1 ++ A2) (B1 ++ B2)) (hx : ∀ x ∈ A1 ++ B1, ∀ y ∈ A2 ++ B2, lex x y) : optS ((A1 ++ A2) ++ (B1 ++ B2)) = optS (A1 ++ B1) ++ optS (A2 ++ B2) := by
  have h1 := List.pairwise_append.1 h.1
  have h2 := List.pairwise_append.1 h.2.1
  have m1 : MP A1 B1 := ⟨h1.1, h2.1, fun x hx y hy => h.2.2 x (List.mem_append_left _ hx) y (List.mem_append_left _ hy)⟩
  have m2 : MP A2 B2 := ⟨h1.2.1, h2.2.1, fun x hx y hy => h.2.2 x (List.mem_append_right _ hx) y (List.mem_append_right _ hy)⟩
  refine srt_unique (srt_opt' h.ne) ⟨?_, ?_⟩
  · refine ((opt_perm _).append (opt_perm _)).trans ?_
    rw [List.append_assoc, List.append_assoc]
    refine List.Perm.append_left A1 ?_
    rw [← List.append_assoc, ← List.append_assoc]
    exact List.Perm.append_right B2 List.perm_append_comm
  · rw [List.pairwise_append]
    exact ⟨opt_sort m1, opt_sort m2, fun x hx' y hy' => hx x ((opt_perm _).mem_iff.1 hx') y ((opt_perm _).mem_iff.1 hy')⟩
theorem MP.left {L U : List (Int × Int)} (h : MP L U) (s t : Nat) : MP (L.take s) (U.take t) := ⟨h.1.sublist (List.take_sublist _ _), h.2.1.sublist (List.take_sublist _ _), fun x hx y hy => h.2.2 x (List.mem_of_mem_take hx) y (List.mem_of_mem_take hy)⟩
theorem MP.right {L U : List (Int × Int)} (h : MP L U) (s t : Nat) : MP (L.drop s) (U.drop t) := ⟨h.1.sublist (List.drop_sublist _ _), h.2.1.sublist (List.drop_sublist _ _), fun x hx y hy => h.2.2 x (List.mem_of_mem_drop hx) y (List.mem_of_mem_drop hy)⟩
theorem sorted_le {L : List (Int × Int)} (h : L.Pairwise lex) {i j : Nat} (hij : i ≤ j) (hj : j < L.length) : (L.getD i (0, 0)).2 ≤ (L.getD j (0, 0)).2 := by
  rcases Nat.lt_or_ge i j with c | c
  · have := List.pairwise_iff_getElem.1 h i j (by omega) hj c
    unfold lex at this
    rw [List.getD_eq_getElem?_getD, List.getD_eq_getElem?_getD, List.getElem?_eq_getElem hj, List.getElem?_eq_getElem (show i < L.length by omega)]
    simp only [Option.getD_some]; omega
  · obtain rfl : i = j := by omega
    exact Int.le_refl _
theorem mem_take_at {L : List (Int × Int)} {s : Nat} {x : Int × Int} (h : x ∈ L.take s) : ∃ i, i < s ∧ i < L.length ∧ x = L.getD i (0, 0) := by
  obtain ⟨i, hi, rfl⟩ := List.mem_iff_getElem.1 h
  simp only [List.length_take] at hi
  exact ⟨i, by omega, by omega, by simp [show i < L.length by omega]⟩
theorem mem_drop_at {L : List (Int × Int)} {s : Nat} {x : Int × Int} (h : x ∈ L.drop s) : ∃ i, s ≤ i ∧ i < L.length ∧ x = L.getD i (0, 0) := by
  obtain ⟨i, hi, rfl⟩ := List.mem_iff_getElem.1 h
  simp only [List.length_drop] at hi
  exact ⟨s + i, by omega, by omega, by simp [show s + i < L.length by omega]⟩
theorem mp_cross {L U : List (Int × Int)} {s t : Nat} (h : MP L U) (h1 : s = 0 ∨ t = U.length ∨ (L.getD (s - 1) (0, 0)).2 ≤ (U.getD t (0, 0)).2) (h2 : s = L.length ∨ t = 0 ∨ (U.getD (t - 1) (0, 0)).2 < (L.getD s (0, 0)).2) (hs : s ≤ L.length) (ht : t ≤ U.length) :
    ∀ x ∈ L.take s ++ U.take t, ∀ y ∈ L.drop s ++ U.drop t, lex x y := by
  intro x hx y hy
  rcases List.mem_append.1 hx with hx | hx <;> rcases List.mem_append.1 hy with hy | hy
  · have := h.1
    rw [← List.take_append_drop s L, List.pairwise_append] at this
    exact this.2.2 x hx y hy
  · have h3 := h.2.2 x (List.mem_of_mem_take hx) y (List.mem_of_mem_drop hy)
    obtain ⟨i, i1, i2, rfl⟩ := mem_take_at hx
    obtain ⟨j, j1, j2, rfl⟩ := mem_drop_at hy
    have a1 := sorted_le h.1 (i := i) (j := s - 1) (by omega) (by omega)
    have a2 := sorted_le h.2.1 (i := t) (j := j) (by omega) (by omega)
    unfold lex; omega
  · obtain ⟨i, i1, i2, rfl⟩ := mem_take_at hx
    obtain ⟨j, j1, j2, rfl⟩ := mem_drop_at hy
    have a1 := sorted_le h.2.1 (i := i) (j := t - 1) (by omega) (by omega)
    have a2 := sorted_le h.1 (i := s) (j := j) (by omega) (by omega)
    unfold lex; omega
  · have := h.2.1
    rw [← List.take_append_drop t U, List.pairwise_append] at this
    exact this.2.2 x hx y hy
theorem opt_cut {L U : List (Int × Int)} {s t : Nat} (h : MP L U) (h1 : s = 0 ∨ t = U.length ∨ (L.getD (s - 1) (0, 0)).2 ≤ (U.getD t (0, 0)).2) (h2 : s = L.length ∨ t = 0 ∨ (U.getD (t - 1) (0, 0)).2 < (L.getD s (0, 0)).2) (hs : s ≤ L.length) (ht : t ≤ U.length) :
    optS (L ++ U) = optS (L.take s ++ U.take t) ++ optS (L.drop s ++ U.drop t) := by
  have := opt_split (A1 := L.take s) (A2 := L.drop s) (B1 := U.take t) (B2 := U.drop t) (by rw [List.take_append_drop, List.take_append_drop]; exact h) (mp_cross h h1 h2 hs ht)
  rwa [List.take_append_drop, List.take_append_drop] at this
/-- One of the left falls into its place of the right. -/
theorem opt_one_left {x : Int × Int} {U : List (Int × Int)} {t : Nat} (h : MP [x] U) (h1 : t = U.length ∨ x.2 ≤ (U.getD t (0, 0)).2) (h2 : t = 0 ∨ (U.getD (t - 1) (0, 0)).2 < x.2) (ht : t ≤ U.length) : optS ([x] ++ U) = U.take t ++ x :: U.drop t := by
  have e1 := opt_cut (s := 0) (t := t) h (.inl rfl) (by rcases h2 with h2 | h2; exact .inr (.inl h2); exact .inr (.inr (by simpa using h2))) (by simp) ht
  have e2 := opt_sorted ((h.left 0 t).2.1)
  have e3 : optS ([x] ++ U.drop t) = x :: U.drop t := by
    have m : MP [x] (U.drop t) := by have := h.right 0 t; simpa using this
    have := opt_cut (s := 1) (t := 0) m (by
      rcases h1 with h1 | h1
      · right; left; simp [h1]
      · rcases Nat.lt_or_ge t U.length with c | c
        · right; right; simpa using h1
        · right; left; rw [List.length_drop]; omega) (.inl rfl) (Nat.le_refl _) (Nat.zero_le _)
    rw [this]
    have e4 := opt_sorted m.2.1
    simp only [List.take_succ_cons, List.take_zero, List.drop_succ_cons, List.drop_nil, List.drop_zero, List.append_nil, List.nil_append, e4]
    rw [opt_sorted (by simp)]; rfl
  rw [e1]
  simp only [List.take_zero, List.nil_append, List.drop_zero, e2, e3]
theorem opt_one_right {y : Int × Int} {L : List (Int × Int)} {s : Nat} (h : MP L [y]) (h1 : s = 0 ∨ (L.getD (s - 1) (0, 0)).2 ≤ y.2) (h2 : s = L.length ∨ y.2 < (L.getD s (0, 0)).2) (hs : s ≤ L.length) : optS (L ++ [y]) = L.take s ++ y :: L.drop s := by
  have e1 := opt_cut (s := s) (t := 1) h (.inr (.inl rfl)) (by rcases h2 with h2 | h2; exact .inl h2; exact .inr (.inr (by simpa using h2))) hs (by simp)
  have e2 : optS (L.drop s ++ []) = L.drop s := by rw [List.append_nil]; exact opt_sorted ((h.right s 0).1)
  have m : MP (L.take s) [y] := by have := h.left s 1; simpa using this
  have e3 : optS (L.take s ++ [y]) = L.take s ++ [y] := by
    refine opt_sorted ?_
    rw [List.pairwise_append]
    refine ⟨m.1, m.2.1, fun x hx z hz => ?_⟩
    obtain rfl : z = y := by simpa using hz
    have h3 := m.2.2 x hx z hz
    obtain ⟨i, i1, i2, rfl⟩ := mem_take_at hx
    have a1 := sorted_le h.1 (i := i) (j := s - 1) (by omega) (by omega)
    unfold lex; omega
  rw [e1]
  simp only [List.take_succ_cons, List.take_zero, List.drop_succ_cons, List.drop_zero, List.drop_nil] at e2 ⊢
  rw [e2, e3]; simp
end Go.Proofs.Ytnbpbehlemaeoaa

set_option linter.unusedVariables false
set_option linter.unusedSimpArgs false
set_option maxRecDepth 10000
namespace Go.Proofs.Ytnbpbehlemaeoaa
open Go.IL
theorem fSwapR (A X Z Y R : List (Int × Int)) (hxy : X.length = Y.length) (hn : (A ++ X ++ Z ++ Y ++ R).length ≤ 1000000) :
    WSpec Try.prog 113 [.ref 0 0 (A ++ X ++ Z ++ Y ++ R).length, .int .i64 A.length, .int .i64 (A.length + X.length + Z.length : Nat), .int .i64 X.length, .clo 60 []] [⟨2, 70, prs (A ++ X ++ Z ++ Y ++ R)⟩] (.tup []) [some ⟨2, 70, prs (A ++ Y ++ Z ++ X ++ R)⟩] := by
  have hlen : (A ++ X ++ Z ++ Y ++ R).length = A.length + X.length + Z.length + Y.length + R.length := by simp; omega
  have hend := swpS_end (A := A) (Z := Z) (R := R) hxy
  have hzero := swpS_zero A X Z Y R
  rw [← hzero, ← hend] at *
  have hln : ∀ i, (swpS A X Z Y R i).length = (swpS A X Z Y R 0).length := fun i => by rw [swpS_length, swpS_length]
  generalize hN : (swpS A X Z Y R 0).length = n at *
  refine WSpec.intro tab_ok Try.func113 rfl rfl rfl (by kernel_rfl) (by simp) (by simp) fun O w0 hr => ?_
  simp only [argTM, Nat.zero_add, Nat.reduceAdd, List.map_cons, List.map_nil]
  repeat refine IW.seq ?_
  refine IW.region_seq tab_ok [some 10] rfl fun X K hX hK => ?_
  simp only [go_sem]
  refine hK _ _ ?_; clear hX hK X K
  show IW _ _ _ _ _ _ _ _
  repeat refine IW.seq ?_
  refine IW.block ?_
  refine IW.loop (α := {i : Nat // i ≤ X.length}) (fun i => [(0, .ref 0 0 n), (1, .int .i64 A.length), (2, .int .i64 (A.length + X.length + Z.length : Nat)), (3, .int .i64 X.length), (10, .int .i64 i.1)]) (fun i => [some ⟨2, 70, prs (swpS A X Z Y R i.1)⟩]) (fun i => X.length - i.1) ⟨0, Nat.zero_le _⟩ ?_ fun ⟨i, hi⟩ => ?_
  · refine Ent.cut ?_ ?_ (fun id ri e => Nat.lt_of_lt_of_le (hr id ri e) (by simp)) <;> simp only [go_sem]
  · simp only []
    repeat refine IW.seq ?_
    refine IW.region_seq tab_ok [some 11, some 12, some 13] rfl fun X K hX hK => ?_
    simp only [go_sem]
    refine hK _ _ ?_; clear hX hK X K
    show IW _ _ _ _ _ _ _ _
    repeat refine IW.seq ?_
    refine IW.cond rfl (fun hb1 => ?_) (fun hb1 => ?_)
    · simp only [decide_eq_true_eq] at hb1
      have hix : i < X.length := by omega
      obtain ⟨a1, a2⟩ := swpS_at (0, 0) (A := A) (Z := Z) (R := R) hxy hix
      have hset := swpS_set (0, 0) (A := A) (Z := Z) (R := R) hxy hix
      have hli := hln i
      have hn2 : A.length + X.length + Z.length + Y.length + R.length = n := by rw [← hN, swpS_length]
      have p1 := prs_at (l := swpS A X Z Y R i) (i := A.length + i) (by omega)
      have p2 := prs_at (l := swpS A X Z Y R i) (i := A.length + X.length + Z.length + i) (by omega)
      rw [a1] at p1
      rw [a2] at p2
      have w1 : IntKind.i64.wrap ((A.length : Int) + (i : Int)) = ((A.length + i : Nat) : Int) := (wrap_eq (by omega) (by omega)).trans (by omega)
      have w2 : IntKind.i64.wrap (((A.length + X.length + Z.length : Nat) : Int) + (i : Int)) = ((A.length + X.length + Z.length + i : Nat) : Int) := (wrap_eq (by omega) (by omega)).trans (by omega)
      refine IW.skip ?_
      show IW _ _ _ _ _ _ _ _
      refine IW.seq (IW.block ?_)
      repeat refine IW.seq ?_
      refine IW.region_drawL tab_ok mixed [some 16, some 17, some 18, some 19, some 20, some 21, some 22, some 23, some 24, some 25, some 26, some 27, some 28, some 29, some 30, some 31, some 32, some 33, some 34, some 35, some 36, none, some 37, none] 21 [4, 5, 6, 7] [2, 10] (by kernel_rfl) rfl (by simp [go_sem]) fun Xq Xs K hXq hXs hK K1 hK1 => ?_
      simp only [go_sem, w1, w2, p1, p2, hli]
      have hlt1 : A.length + i < n := by omega
      have hlt2 : A.length + X.length + Z.length + i < n := by omega
      refine ⟨⟨by omega, by omega⟩, by omega, ⟨by omega, by omega⟩, by omega, ⟨by omega, by omega⟩, ?_⟩
      refine hK1 _ _ ?_; clear hXq hK1 K1 Xq
      simp only [List.drop_zero, List.drop_succ_cons, go_sem]
      have q2 : ∀ v, ((prs (swpS A X Z Y R i)).set (A.length + i) v).getD (A.length + X.length + Z.length + i) [] = [.int .i64 (Y.getD i (0, 0)).1, .int .i64 (Y.getD i (0, 0)).2] := fun v => by
        rw [List.getD_eq_getElem?_getD, List.getElem?_set_ne (by omega), ← List.getD_eq_getElem?_getD, p2]
      refine hXs.op _ _ rfl (opS_store tab_ok rfl (by simp [go_sem]) (by simp [go_sem]) (by simp [go_sem]) (by simp [go_sem, hli, hlt1, hlt2]) (by simp [go_sem]) (by simp [go_sem])) ?_
      simp only [go_sem, hli, hlt1, hlt2]
      simp only [p1, List.drop_succ_cons, List.drop_nil, List.drop_zero]
      refine ⟨⟨by omega, by omega⟩, ?_⟩
      refine hXs.op _ _ rfl (opS_store tab_ok rfl (by simp [go_sem]) (by simp [go_sem]) (by simp [go_sem]) (by simp [go_sem, hli, hlt1, hlt2]) (by simp [go_sem]) (by simp [go_sem])) ?_
      simp only [go_sem, hli, hlt1, hlt2]
      simp only [q2, List.drop_succ_cons, List.drop_nil, List.drop_zero]
      refine hK _ _ ?_; clear hXs hK K Xs
      show IW _ _ _ _ _ _ _ _
      have hsw : ((prs (swpS A X Z Y R i)).set (A.length + i) [.int .i64 (Y.getD i (0, 0)).1, .int .i64 (Y.getD i (0, 0)).2]).set (A.length + X.length + Z.length + i) [.int .i64 (X.getD i (0, 0)).1, .int .i64 (X.getD i (0, 0)).2] = prs (swpS A X Z Y R (i + 1)) := by
        have := congrArg prs hset
        simpa only [prs, List.map_set] using this
      repeat refine IW.seq ?_
      refine IW.region_seq tab_ok [some 14, some 15, some 10] rfl fun X K hX hK => ?_
      simp only [go_sem, succ_wrap hix (by omega)]
      refine hK _ _ ⟨⟨i + 1, hix⟩, by simp only []; omega, ?_⟩
      refine Ent.cut ?_ ?_ (fun id ri e => Nat.lt_of_lt_of_le (hr id ri e) (by simp)) <;> simp only [go_sem, hsw]
    · refine IW.exit ?_
      simp only [decide_eq_false_iff_not] at hb1
      obtain rfl : i = X.length := by omega
      exact ⟨trivial, rfl, by simp [go_sem, heapNold, prs_nold], by simp, [0], rfl, by simp, rfl, rfl, by simp [go_sem, subH, prs_renrow], trivial⟩
end Go.Proofs.Ytnbpbehlemaeoaa

set_option linter.unusedVariables false
set_option linter.unusedSimpArgs false
set_option maxRecDepth 10000
namespace Go.Proofs.Ytnbpbehlemaeoaa
open Go.IL
/-- Two stretches of one length are swapped; numbers told as they come. -/
theorem fSwapR' {A X Z Y R l l' : List (Int × Int)} {a b k n : Nat} (hxy : X.length = Y.length) (hl : l = A ++ X ++ Z ++ Y ++ R) (hl' : l' = A ++ Y ++ Z ++ X ++ R) (ha : a = A.length) (hb : b = A.length + X.length + Z.length) (hk : k = X.length) (hln : n = l.length) (hn : n ≤ 1000000) :
    WSpec Try.prog 113 [.ref 0 0 n, .int .i64 a, .int .i64 b, .int .i64 k, .clo 60 []] [⟨2, 70, prs l⟩] (.tup []) [some ⟨2, 70, prs l'⟩] := by
  subst hl hl' ha hb hk hln
  exact fSwapR A X Z Y R hxy hn
structure RotS (A X Y R : List (Int × Int)) (m n : Nat) (s : List (Int × Int) × List (Int × Int) × List (Int × Int) × List (Int × Int)) : Prop where
  x0 : 0 < s.2.1.length
  y0 : 0 < s.2.2.1.length
  mid : s.1.length + s.2.1.length = m
  len : (s.1 ++ s.2.1 ++ s.2.2.1 ++ s.2.2.2).length = n
  goal : s.1 ++ s.2.2.1 ++ s.2.1 ++ s.2.2.2 = A ++ Y ++ X ++ R
set_option maxHeartbeats 1000000 in
theorem fRotate (A X Y R : List (Int × Int)) (hx0 : 0 < X.length) (hy0 : 0 < Y.length) {m b n : Nat} (hm : m = A.length + X.length) (hb : b = A.length + X.length + Y.length) (hln : n = (A ++ X ++ Y ++ R).length) (hn : n ≤ 1000000) :
    WSpec Try.prog 106 [.ref 0 0 n, .int .i64 A.length, .int .i64 m, .int .i64 b, .clo 60 []] [⟨2, 70, prs (A ++ X ++ Y ++ R)⟩] (.tup []) [some ⟨2, 70, prs (A ++ Y ++ X ++ R)⟩] := by
  have hlen : n = A.length + X.length + Y.length + R.length := by rw [hln]; simp; omega
  have e1 : IntKind.i64.wrap ((m : Int) - (A.length : Int)) = ((X.length : Nat) : Int) := (wrap_eq (by omega) (by omega)).trans (by omega)
  have e2 : IntKind.i64.wrap ((b : Int) - (m : Int)) = ((Y.length : Nat) : Int) := (wrap_eq (by omega) (by omega)).trans (by omega)
  refine WSpec.intro tab_ok Try.func106 rfl rfl rfl (by kernel_rfl) (by simp) (by simp) fun O w0 hr => ?_
  simp only [argTM, Nat.zero_add, Nat.reduceAdd, List.map_cons, List.map_nil]
  repeat refine IW.seq ?_
  refine IW.region_seq tab_ok [some 12, some 13, some 14, some 10] rfl fun X K hX hK => ?_
  simp only [go_sem, e1]
  refine hK _ _ ?_; clear hX hK X K
  show IW _ _ _ _ _ _ _ _
  repeat refine IW.seq ?_
  refine IW.region_seq tab_ok [some 15, some 16, some 17, some 11] rfl fun X K hX hK => ?_
  simp only [go_sem, e2]
  refine hK _ _ ?_; clear hX hK X K
  show IW _ _ _ _ _ _ _ _
  repeat refine IW.seq ?_
  refine IW.block ?_
  refine IW.loop (α := {s : List (Int × Int) × List (Int × Int) × List (Int × Int) × List (Int × Int) // RotS A X Y R m n s}) (fun s => [(0, .ref 0 0 n), (2, .int .i64 m), (4, .clo 60 []), (10, .int .i64 s.1.2.1.length), (11, .int .i64 s.1.2.2.1.length)]) (fun s => [some ⟨2, 70, prs (s.1.1 ++ s.1.2.1 ++ s.1.2.2.1 ++ s.1.2.2.2)⟩]) (fun s => s.1.2.1.length + s.1.2.2.1.length) ⟨(A, X, Y, R), ⟨hx0, hy0, hm.symm, hln.symm, rfl⟩⟩ ?_ fun ⟨⟨A', X', Y', R'⟩, hs⟩ => ?_
  · refine Ent.cut ?_ ?_ (fun id ri e => Nat.lt_of_lt_of_le (hr id ri e) (by simp)) <;> simp only [go_sem]
  · obtain ⟨x0, y0, hmid, hlen', hgoal⟩ := hs
    simp only [] at x0 y0 hmid hlen' hgoal ⊢
    have hl4 : A'.length + X'.length + Y'.length + R'.length = n := by rw [← hlen']; simp; omega
    have w1 : IntKind.i64.wrap ((m : Int) - (X'.length : Int)) = ((A'.length : Nat) : Int) := (wrap_eq (by omega) (by omega)).trans (by omega)
    repeat refine IW.seq ?_
    refine IW.region_seq tab_ok [some 18, some 19, some 20] rfl fun X K hX hK => ?_
    simp only [go_sem]
    refine hK _ _ ?_; clear hX hK X K
    show IW _ _ _ _ _ _ _ _
    repeat refine IW.seq ?_
    refine IW.cond rfl (fun hb1 => ?_) (fun hb1 => ?_)
    · have hne : X'.length ≠ Y'.length := by
        intro e; rw [e] at hb1; simp at hb1
      refine IW.skip ?_
      show IW _ _ _ _ _ _ _ _
      repeat refine IW.seq ?_
      refine IW.block ?_
      repeat refine IW.seq ?_
      refine IW.region_seq tab_ok [some 21, some 22, some 23] rfl fun X K hX hK => ?_
      simp only [go_sem]
      refine hK _ _ ?_; clear hX hK X K
      show IW _ _ _ _ _ _ _ _
      repeat refine IW.seq ?_
      refine IW.cond rfl (fun hb2 => ?_) (fun hb2 => ?_)
      · simp only [decide_eq_true_eq, gt_iff_lt] at hb2
        have hlt : Y'.length < X'.length := by omega
        have hX : A' ++ X' ++ Y' ++ R' = A' ++ X'.take Y'.length ++ X'.drop Y'.length ++ Y' ++ R' := by rw [List.append_assoc A' (X'.take _), List.take_append_drop]
        have hc := fSwapR' (A := A') (X := X'.take Y'.length) (Z := X'.drop Y'.length) (Y := Y') (R := R') (a := A'.length) (b := m) (k := Y'.length) (n := n) (by simp; omega) hX rfl rfl (by simp; omega) (by simp; omega) hlen'.symm hn
        have w2 : IntKind.i64.wrap ((X'.length : Int) - (Y'.length : Int)) = (((X'.drop Y'.length).length : Nat) : Int) := (wrap_eq (by omega) (by omega)).trans (by rw [List.length_drop]; omega)
        repeat refine IW.seq ?_
        refine IW.region_seq tab_ok [some 24, some 25, some 26, some 27, some 28, some 29, some 30, some 31] rfl fun X K hX hK => ?_
        simp only [go_sem, w1]
        refine hX.op _ _ rfl (opS_callW (caps := []) [0] (by simp) (by simp [go_sem]) (by simp) (by simp [go_sem, prs_reWrow]) (by simp [go_sem, reW]) hc) ?_
        simp only [go_sem]
        simp only [updR, List.set_cons_zero, Option.map_some, prs_renrow]
        refine hK _ _ ?_; clear hX hK X K
        show IW _ _ _ _ _ _ _ _
        repeat refine IW.seq ?_
        refine IW.region_seq tab_ok [some 32, some 33, some 34, some 10] rfl fun X K hX hK => ?_
        simp only [go_sem, w2]
        refine hK _ _ ⟨⟨(A' ++ Y', X'.drop Y'.length, X'.take Y'.length, R'), ⟨by simp; omega, by simp; omega, by simp; omega, ?_, ?_⟩⟩, by simp; omega, ?_⟩
        · simp; omega
        · simp only []
          rw [← hgoal, List.append_assoc (A' ++ Y'), List.take_append_drop]
        · have e5 : (X'.take Y'.length).length = Y'.length := by simp; omega
          refine Ent.cut ?_ ?_ (fun id ri e => Nat.lt_of_lt_of_le (hr id ri e) (by simp)) <;> simp only [go_sem, e5, List.append_assoc]
      · simp only [decide_eq_false_iff_not, gt_iff_lt] at hb2
        have hlt : X'.length < Y'.length := by omega
        obtain ⟨k, hk⟩ : ∃ k, k = Y'.length - X'.length := ⟨_, rfl⟩
        have hY : A' ++ X' ++ Y' ++ R' = A' ++ X' ++ Y'.take k ++ Y'.drop k ++ R' := by rw [List.append_assoc (A' ++ X') (Y'.take _), List.take_append_drop]
        have hc := fSwapR' (A := A') (X := X') (Z := Y'.take k) (Y := Y'.drop k) (R := R') (a := A'.length) (b := m + k) (k := X'.length) (n := n) (by simp; omega) hY rfl rfl (by simp; omega) rfl hlen'.symm hn
        have w2 : IntKind.i64.wrap ((m : Int) + (Y'.length : Int)) = ((m + Y'.length : Nat) : Int) := (wrap_eq (by omega) (by omega)).trans (by omega)
        have w3 : IntKind.i64.wrap (((m + Y'.length : Nat) : Int) - (X'.length : Int)) = ((m + k : Nat) : Int) := (wrap_eq (by omega) (by omega)).trans (by omega)
        have w4 : IntKind.i64.wrap ((Y'.length : Int) - (X'.length : Int)) = (((Y'.take k).length : Nat) : Int) := (wrap_eq (by omega) (by omega)).trans (by rw [List.length_take]; omega)
        repeat refine IW.seq ?_
        refine IW.region_seq tab_ok [some 35, some 36, some 37, some 38, some 39, some 40, some 41, some 42, some 43, some 44, some 45, some 46] rfl fun X K hX hK => ?_
        simp only [go_sem, w1, w2, w3]
        refine hX.op _ _ rfl (opS_callW (caps := []) [0] (by simp) (by simp [go_sem]) (by simp) (by simp [go_sem, prs_reWrow]) (by simp [go_sem, reW]) hc) ?_
        simp only [go_sem]
        simp only [updR, List.set_cons_zero, Option.map_some, prs_renrow]
        refine hK _ _ ?_; clear hX hK X K
        show IW _ _ _ _ _ _ _ _
        repeat refine IW.seq ?_
        refine IW.region_seq tab_ok [some 47, some 48, some 49, some 11] rfl fun X K hX hK => ?_
        simp only [go_sem, w4]
        refine hK _ _ ⟨⟨(A', Y'.drop k, Y'.take k, X' ++ R'), ⟨by simp; omega, by simp; omega, by simp; omega, ?_, ?_⟩⟩, by simp; omega, ?_⟩
        · simp; omega
        · simp only []
          rw [← hgoal, List.append_assoc A' (Y'.take k), List.take_append_drop, List.append_assoc (A' ++ Y') X']
        · have e5 : (Y'.drop k).length = X'.length := by simp; omega
          refine Ent.cut ?_ ?_ (fun id ri e => Nat.lt_of_lt_of_le (hr id ri e) (by simp)) <;> simp only [go_sem, e5, List.append_assoc]
    · refine IW.exit ?_
      have heq : X'.length = Y'.length := by
        simp only [bne_eq_false_iff_eq] at hb1; omega
      show IW _ _ _ _ _ _ _ _
      have hY : A' ++ X' ++ Y' ++ R' = A' ++ X' ++ [] ++ Y' ++ R' := by simp
      have hc := fSwapR' (A := A') (X := X') (Z := []) (Y := Y') (R := R') (l := A' ++ X' ++ Y' ++ R') (l' := A ++ Y ++ X ++ R) (a := A'.length) (b := m) (k := X'.length) (n := n) heq hY (by rw [← hgoal]; simp) rfl (by simp; omega) rfl hlen'.symm hn
      repeat refine IW.seq ?_
      refine IW.region_seq tab_ok [some 50, some 51, some 52, some 53, some 54, some 55, some 56, some 57] rfl fun X K hX hK => ?_
      simp only [go_sem, w1]
      refine hX.op _ _ rfl (opS_callW (caps := []) [0] (by simp) (by simp [go_sem]) (by simp) (by simp [go_sem, prs_reWrow]) (by simp [go_sem, reW]) hc) ?_
      simp only [go_sem]
      simp only [updR, List.set_cons_zero, Option.map_some, prs_renrow]
      refine hK _ _ ?_
      exact ⟨trivial, rfl, by simp [go_sem, heapNold, prs_nold], by simp, [0], rfl, by simp, rfl, rfl, by simp [go_sem, subH, prs_renrow], trivial⟩
end Go.Proofs.Ytnbpbehlemaeoaa

set_option linter.unusedVariables false
set_option linter.unusedSimpArgs false
set_option maxRecDepth 10000
namespace Go.Proofs.Ytnbpbehlemaeoaa
open Go.IL
theorem half_u64 {a b c : Nat} (h : a + b ≤ 4000000) (hc : c = (a + b) / 2) : IntKind.i64.wrap ((a : Int) + (b : Int)) = ((a + b : Nat) : Int) ∧ IntKind.u64.wrap ((a + b : Nat) : Int) = ((a + b : Nat) : Int) ∧ ((a + b : Nat) : Int).fdiv (2 ^ min (Int.toNat 1) 64) = (c : Int) ∧ IntKind.i64.wrap ((c : Nat) : Int) = (c : Int) := by
  refine ⟨(wrap_eq (by omega) (by omega)).trans (by omega), ?_, ?_, wrap_eq (by omega) (by omega)⟩
  · rw [IntKind.wrap]; simp [IntKind.bits, IntKind.signed]; omega
  · have e : (2 : Int) ^ min (Int.toNat 1) 64 = 2 := by decide
    rw [e, Int.fdiv_eq_ediv_of_nonneg _ (by omega)]; omega
theorem insS_up (A s R : List (Int × Int)) (x : Int × Int) {j : Nat} (h : j < s.length) : (insS A s R x j).getD (A.length + j) (0, 0) = x ∧ (insS A s R x j).getD (A.length + j + 1) (0, 0) = s.getD j (0, 0) ∧ ((insS A s R x j).set (A.length + j) (s.getD j (0, 0))).set (A.length + j + 1) x = insS A s R x (j + 1) := by
  obtain ⟨h1, h2⟩ := insS_split A s R x h
  have hl : (A ++ s.take j).length = A.length + j := by simp; omega
  rw [h1, h2, ← hl]
  generalize A ++ s.take j = P
  generalize s.drop (j + 1) ++ R = S
  generalize s.getD j (0, 0) = y
  have e1 : P ++ x :: y :: S = (P ++ [x]) ++ y :: S := by simp
  have e2 : P.length + 1 = (P ++ [x]).length := by simp
  have e3 : P ++ y :: y :: S = (P ++ [y]) ++ y :: S := by simp
  have e4 : P.length + 1 = (P ++ [y]).length := by simp
  refine ⟨mid_get _ _ _ _, ?_, ?_⟩
  · rw [e1, e2]; exact mid_get _ _ _ _
  · rw [mid_set, e3, e4, mid_set]; simp
theorem getD_app_right {A B : List (Int × Int)} {i : Nat} : (A ++ B).getD (A.length + i) (0, 0) = B.getD i (0, 0) := by
  rw [List.getD_eq_getElem?_getD, List.getElem?_append_right (by omega), Nat.add_sub_cancel_left, ← List.getD_eq_getElem?_getD]
theorem getD_app_left {A B : List (Int × Int)} {i : Nat} (h : i < A.length) : (A ++ B).getD i (0, 0) = A.getD i (0, 0) := by
  rw [List.getD_eq_getElem?_getD, List.getElem?_append_left h, ← List.getD_eq_getElem?_getD]
set_option maxHeartbeats 1000000 in
/-- One element of the left is put into its place. -/
theorem fMergeL (A : List (Int × Int)) (x : Int × Int) (U R : List (Int × Int)) (hmp : MP [x] U) (hx9 : M9 x.2) (hu9 : ∀ p ∈ U, M9 p.2) {m b n : Nat} (hm : m = A.length + 1) (hb : b = A.length + 1 + U.length) (hln : n = (A ++ [x] ++ U ++ R).length) (hn : n ≤ 1000000) :
    WSpec Try.prog 91 [.ref 0 0 n, .int .i64 A.length, .int .i64 m, .int .i64 b, .clo 60 []] [⟨2, 70, prs (A ++ [x] ++ U ++ R)⟩] (.tup []) [some ⟨2, 70, prs (A ++ optS ([x] ++ U) ++ R)⟩] := by
  have hlen : n = A.length + 1 + U.length + R.length := by rw [hln]; simp; omega
  have e1 : IntKind.i64.wrap ((m : Int) - (A.length : Int)) = 1 := (wrap_eq (by omega) (by omega)).trans (by omega)
  have hAx : ∀ i, i < U.length → (A ++ [x] ++ U ++ R).getD (m + i) (0, 0) = U.getD i (0, 0) := fun i hi => by
    rw [getD_app_left (by simp; omega), show m + i = (A ++ [x]).length + i by simp; omega, getD_app_right]
  have hAx0 : (A ++ [x] ++ U ++ R).getD A.length (0, 0) = x := by
    rw [List.append_assoc, List.append_assoc]; exact mid_get _ _ _ _
  have hpl : (prs (A ++ [x] ++ U ++ R)).length = n := by rw [prs_length]; exact hln.symm
  have p0 := prs_at (l := A ++ [x] ++ U ++ R) (i := A.length) (by omega)
  rw [hAx0] at p0
  refine WSpec.intro tab_ok Try.func91 rfl rfl rfl (by kernel_rfl) (by simp) (by simp) fun O w0 hr => ?_
  simp only [argTM, Nat.zero_add, Nat.reduceAdd, List.map_cons, List.map_nil]
  repeat refine IW.seq ?_
  refine IW.region_seq tab_ok [some 25, some 26, some 27, some 28] rfl fun X K hX hK => ?_
  simp only [go_sem, e1]
  refine hK _ _ ?_; clear hX hK X K
  show IW _ _ _ _ _ _ _ _
  repeat refine IW.seq ?_
  refine IW.cond rfl (fun _ => ?_) (fun hb => absurd hb (by decide))
  repeat refine IW.seq ?_
  refine IW.region_seq tab_ok [some 29, some 10] rfl fun X K hX hK => ?_
  simp only [go_sem]
  refine hK _ _ ?_; clear hX hK X K
  show IW _ _ _ _ _ _ _ _
  repeat refine IW.seq ?_
  refine IW.region_seq tab_ok [some 30, some 11] rfl fun X K hX hK => ?_
  simp only [go_sem]
  refine hK _ _ ?_; clear hX hK X K
  show IW _ _ _ _ _ _ _ _
  repeat refine IW.seq ?_
  refine IW.block ?_
  refine IW.loop (α := {s : Nat × Nat // s.1 ≤ s.2 ∧ s.2 ≤ U.length ∧ (s.1 = 0 ∨ (U.getD (s.1 - 1) (0, 0)).2 < x.2) ∧ (s.2 = U.length ∨ x.2 ≤ (U.getD s.2 (0, 0)).2)}) (fun s => [(0, .ref 0 0 n), (1, .int .i64 A.length), (2, .int .i64 m), (3, .int .i64 b), (4, .clo 60 []), (10, .int .i64 (m + s.1.1 : Nat)), (11, .int .i64 (m + s.1.2 : Nat))]) (fun s => [some ⟨2, 70, prs (A ++ [x] ++ U ++ R)⟩]) (fun s => s.1.2 - s.1.1) ⟨(0, U.length), Nat.zero_le _, Nat.le_refl _, .inl rfl, .inl rfl⟩ ?_ fun ⟨⟨i, j⟩, hij, hju, hi1, hj1⟩ => ?_
  · have e3 : m + U.length = b := by omega
    refine Ent.cut ?_ ?_ (fun id ri e => Nat.lt_of_lt_of_le (hr id ri e) (by simp)) <;> simp only [go_sem, Nat.add_zero, e3]
  · simp only [] at hij hju hi1 hj1 ⊢
    repeat refine IW.seq ?_
    refine IW.region_seq tab_ok [some 31, some 32, some 33] rfl fun X K hX hK => ?_
    simp only [go_sem]
    refine hK _ _ ?_; clear hX hK X K
    show IW _ _ _ _ _ _ _ _
    repeat refine IW.seq ?_
    refine IW.cond rfl (fun hb1 => ?_) (fun hb1 => ?_)
    · simp only [decide_eq_true_eq] at hb1
      have hlt : i < j := by omega
      obtain ⟨c, hc⟩ : ∃ c, c = (i + j) / 2 := ⟨_, rfl⟩
      obtain ⟨h1, h2, h3, h4⟩ := half_u64 (a := m + i) (b := m + j) (c := m + c) (by omega) (by omega)
      have hcj : c < j := by omega
      have hcu : c < U.length := by omega
      refine IW.skip ?_
      show IW _ _ _ _ _ _ _ _
      repeat refine IW.seq ?_
      refine IW.block ?_
      repeat refine IW.seq ?_
      refine IW.region_seq tab_ok [some 34, some 35, some 36, some 37, some 38, some 39, some 12] rfl fun X K hX hK => ?_
      simp only [go_sem, h1, h2, h3, h4]
      refine ⟨by omega, ?_⟩
      refine hK _ _ ?_; clear hX hK X K
      show IW _ _ _ _ _ _ _ _
      have p1 := prs_at (l := A ++ [x] ++ U ++ R) (i := m + c) (by omega)
      rw [hAx c hcu] at p1
      have huc := hu9 (U.getD c (0, 0)) (by simp [hcu])
      have hup := hmp.2.1
      generalize hy : U.getD c (0, 0) = y at *
      repeat refine IW.seq ?_
      refine IW.region_draw tab_ok mixed [some 40, some 41, some 42, some 43, some 44, some 45, some 46, some 47, some 48, some 49, some 50] 11 (by kernel_rfl) rfl fun Xq Xs K hXq hXs hK K1 hK1 => ?_
      simp only [go_sem, p0, p1, hpl]
      refine ⟨⟨by omega, by omega⟩, by omega, ⟨by omega, by omega⟩, by omega, ?_⟩
      refine hXq.quiet _ _ (OpG.of_B rfl (opB_call rfl rfl (FSpec.nz (fCmp y.1 y.2 x.1 x.2 huc hx9) (by simp [go_sem, List.map_cons, List.map_nil, List.append_nil, opnd, unc])))) ?_
      simp only [go_sem]
      refine hK1 _ _ ?_; clear hXq hK1 K1 Xq
      simp only [List.drop_zero, List.drop_succ_cons, go_sem]
      refine hK _ _ ?_; clear hXs hK K Xs
      show IW _ _ _ _ _ _ _ _
      repeat refine IW.seq ?_
      refine IW.cond rfl (fun hb2 => ?_) (fun hb2 => ?_)
      · simp only [decide_eq_true_eq] at hb2
        have e5 : IntKind.i64.wrap (((m + c : Nat) : Int) + 1) = ((m + (c + 1) : Nat) : Int) := (wrap_eq (by omega) (by omega)).trans (by omega)
        repeat refine IW.seq ?_
        refine IW.region_seq tab_ok [some 51, some 52, some 10] rfl fun X K hX hK => ?_
        simp only [go_sem, e5]
        refine hK _ _ ⟨⟨(c + 1, j), by simp only []; omega, hju, .inr ?_, hj1⟩, by simp only []; omega, ?_⟩
        · simp only [Nat.add_sub_cancel]; rw [hy]; omega
        · refine Ent.cut ?_ ?_ (fun id ri e => Nat.lt_of_lt_of_le (hr id ri e) (by simp)) <;> simp only [go_sem]
      · simp only [decide_eq_false_iff_not] at hb2
        repeat refine IW.seq ?_
        refine IW.region_seq tab_ok [some 53, some 11] rfl fun X K hX hK => ?_
        simp only [go_sem]
        refine hK _ _ ⟨⟨(i, c), by simp only []; omega, by simp only []; omega, hi1, .inr ?_⟩, by simp only []; omega, ?_⟩
        · simp only []; rw [hy]; omega
        · refine Ent.cut ?_ ?_ (fun id ri e => Nat.lt_of_lt_of_le (hr id ri e) (by simp)) <;> simp only [go_sem]
    · refine IW.exit ?_
      show IW _ _ _ _ _ _ _ _
      simp only [decide_eq_false_iff_not] at hb1
      obtain rfl : i = j := by omega
      have hres := opt_one_left (t := i) hmp hj1 hi1 hju
      rw [hres]
      repeat refine IW.seq ?_
      refine IW.region_seq tab_ok [some 54, some 13] rfl fun X K hX hK => ?_
      simp only [go_sem]
      refine hK _ _ ?_; clear hX hK X K
      show IW _ _ _ _ _ _ _ _
      repeat refine IW.seq ?_
      refine IW.block ?_
      refine IW.loop (α := {k : Nat // k ≤ i}) (fun k => [(0, .ref 0 0 n), (1, .int .i64 A.length), (2, .int .i64 m), (3, .int .i64 b), (4, .clo 60 []), (10, .int .i64 (m + i : Nat)), (13, .int .i64 (A.length + k.1 : Nat))]) (fun k => [some ⟨2, 70, prs (insS A U R x k.1)⟩]) (fun k => i - k.1) ⟨0, Nat.zero_le _⟩ ?_ fun ⟨k, hk⟩ => ?_
      · have : insS A U R x 0 = A ++ [x] ++ U ++ R := by simp [insS]
        refine Ent.cut ?_ ?_ (fun id ri e => Nat.lt_of_lt_of_le (hr id ri e) (by simp)) <;> simp only [go_sem, this, Nat.add_zero]
      · simp only []
        have e6 : IntKind.i64.wrap (((m + i : Nat) : Int) - 1) = ((A.length + i : Nat) : Int) := (wrap_eq (by omega) (by omega)).trans (by omega)
        repeat refine IW.seq ?_
        refine IW.region_seq tab_ok [some 55, some 56, some 57, some 58] rfl fun X K hX hK => ?_
        simp only [go_sem, e6]
        refine hK _ _ ?_; clear hX hK X K
        show IW _ _ _ _ _ _ _ _
        repeat refine IW.seq ?_
        refine IW.cond rfl (fun hb3 => ?_) (fun hb3 => ?_)
        · simp only [decide_eq_true_eq] at hb3
          have hki : k < i := by omega
          have hku : k < U.length := by omega
          obtain ⟨a1, a2, hset⟩ := insS_up A U R x hku
          have hil := insS_length A U R x (j := k) (by omega)
          have hil2 : (insS A U R x k).length = n := by rw [hil]; omega
          have q1 := prs_at (l := insS A U R x k) (i := A.length + k) (by omega)
          have q2 := prs_at (l := insS A U R x k) (i := A.length + k + 1) (by omega)
          rw [a1] at q1
          rw [a2] at q2
          have w1 : IntKind.i64.wrap (((A.length + k : Nat) : Int) + 1) = ((A.length + k + 1 : Nat) : Int) := (wrap_eq (by omega) (by omega)).trans (by omega)
          have hlt1 : A.length + k < n := by omega
          have hlt2 : A.length + k + 1 < n := by omega
          refine IW.skip ?_
          show IW _ _ _ _ _ _ _ _
          refine IW.seq (IW.block ?_)
          repeat refine IW.seq ?_
          refine IW.region_drawL tab_ok mixed [some 61, some 62, some 63, some 64, some 65, some 66, some 67, some 68, some 69, some 70, some 71, some 72, some 73, some 74, some 75, none, some 76, none] 15 [2, 3, 4] [13] (by kernel_rfl) rfl (by simp [go_sem]) fun Xq Xs K hXq hXs hK K1 hK1 => ?_
          simp only [go_sem, w1, q1, q2, hil2]
          refine ⟨⟨by omega, by omega⟩, by omega, ⟨by omega, by omega⟩, by omega, ⟨by omega, by omega⟩, ?_⟩
          refine hK1 _ _ ?_; clear hXq hK1 K1 Xq
          simp only [List.drop_zero, List.drop_succ_cons, go_sem]
          have q3 : ∀ v, ((prs (insS A U R x k)).set (A.length + k) v).getD (A.length + k + 1) [] = [.int .i64 (U.getD k (0, 0)).1, .int .i64 (U.getD k (0, 0)).2] := fun v => by
            rw [List.getD_eq_getElem?_getD, List.getElem?_set_ne (by omega), ← List.getD_eq_getElem?_getD, q2]
          refine hXs.op _ _ rfl (opS_store tab_ok rfl (by simp [go_sem]) (by simp [go_sem]) (by simp [go_sem]) (by simp [go_sem, hil2, hlt1, hlt2]) (by simp [go_sem]) (by simp [go_sem])) ?_
          simp only [go_sem, hil2, hlt1, hlt2]
          simp only [q1, List.drop_succ_cons, List.drop_nil, List.drop_zero]
          refine ⟨⟨by omega, by omega⟩, ?_⟩
          refine hXs.op _ _ rfl (opS_store tab_ok rfl (by simp [go_sem]) (by simp [go_sem]) (by simp [go_sem]) (by simp [go_sem, hil2, hlt1, hlt2]) (by simp [go_sem]) (by simp [go_sem])) ?_
          simp only [go_sem, hil2, hlt1, hlt2]
          simp only [q3, List.drop_succ_cons, List.drop_nil, List.drop_zero]
          refine hK _ _ ?_; clear hXs hK K Xs
          show IW _ _ _ _ _ _ _ _
          have hsw : ((prs (insS A U R x k)).set (A.length + k) [.int .i64 (U.getD k (0, 0)).1, .int .i64 (U.getD k (0, 0)).2]).set (A.length + k + 1) [.int .i64 x.1, .int .i64 x.2] = prs (insS A U R x (k + 1)) := by
            have := congrArg prs hset
            simpa only [prs, List.map_set] using this
          repeat refine IW.seq ?_
          refine IW.region_seq tab_ok [some 59, some 60, some 13] rfl fun X K hX hK => ?_
          simp only [go_sem, w1]
          refine hK _ _ ⟨⟨k + 1, hki⟩, by simp only []; omega, ?_⟩
          refine Ent.cut ?_ ?_ (fun id ri e => Nat.lt_of_lt_of_le (hr id ri e) (by simp)) <;> simp only [go_sem, hsw, ← Nat.add_assoc]
        · refine IW.exit ?_
          simp only [decide_eq_false_iff_not] at hb3
          obtain rfl : k = i := by omega
          show IW _ _ _ _ _ _ _ _
          refine IW.ret ?_
          have e7 : A ++ (U.take k ++ x :: U.drop k) ++ R = insS A U R x k := rfl
          rw [e7]
          exact ⟨trivial, rfl, by simp [go_sem, heapNold, prs_nold], by simp, [0], rfl, by simp, rfl, rfl, by simp [go_sem, subH, prs_renrow], trivial⟩
end Go.Proofs.Ytnbpbehlemaeoaa

set_option linter.unusedVariables false
set_option linter.unusedSimpArgs false
set_option maxRecDepth 10000
namespace Go.Proofs.Ytnbpbehlemaeoaa
open Go.IL
set_option maxHeartbeats 1000000 in
/-- One element of the right is put into its place. -/
theorem fMergeR (A L : List (Int × Int)) (y : Int × Int) (R : List (Int × Int)) (hmp : MP L [y]) (hy9 : M9 y.2) (hl9 : ∀ p ∈ L, M9 p.2) (hl2 : 2 ≤ L.length) {m b n : Nat} (hm : m = A.length + L.length) (hb : b = A.length + L.length + 1) (hln : n = (A ++ L ++ [y] ++ R).length) (hn : n ≤ 1000000) :
    WSpec Try.prog 91 [.ref 0 0 n, .int .i64 A.length, .int .i64 m, .int .i64 b, .clo 60 []] [⟨2, 70, prs (A ++ L ++ [y] ++ R)⟩] (.tup []) [some ⟨2, 70, prs (A ++ optS (L ++ [y]) ++ R)⟩] := by
  have hlen : n = A.length + L.length + 1 + R.length := by rw [hln]; simp; omega
  have e0 : IntKind.i64.wrap ((m : Int) - (A.length : Int)) = (L.length : Int) := (wrap_eq (by omega) (by omega)).trans (by omega)
  have e0' : ((L.length : Int) == 1) = false := by simp; omega
  have e1 : IntKind.i64.wrap ((b : Int) - (m : Int)) = 1 := (wrap_eq (by omega) (by omega)).trans (by omega)
  have hAx : ∀ i, i < L.length → (A ++ L ++ [y] ++ R).getD (A.length + i) (0, 0) = L.getD i (0, 0) := fun i hi => by
    rw [List.append_assoc, List.append_assoc, getD_app_right, getD_app_left hi]
  have hAy : (A ++ L ++ [y] ++ R).getD m (0, 0) = y := by
    rw [List.append_assoc, show m = (A ++ L).length by simp; omega]; exact mid_get _ _ _ _
  have hpl : (prs (A ++ L ++ [y] ++ R)).length = n := by rw [prs_length]; exact hln.symm
  have p0 := prs_at (l := A ++ L ++ [y] ++ R) (i := m) (by omega)
  rw [hAy] at p0
  refine WSpec.intro tab_ok Try.func91 rfl rfl rfl (by kernel_rfl) (by simp) (by simp) fun O w0 hr => ?_
  simp only [argTM, Nat.zero_add, Nat.reduceAdd, List.map_cons, List.map_nil]
  repeat refine IW.seq ?_
  refine IW.region_seq tab_ok [some 25, some 26, some 27, some 28] rfl fun X K hX hK => ?_
  simp only [go_sem, e0, e0']
  refine hK _ _ ?_; clear hX hK X K
  show IW _ _ _ _ _ _ _ _
  repeat refine IW.seq ?_
  refine IW.cond rfl (fun hb => absurd hb (by decide)) (fun _ => ?_)
  refine IW.skip ?_
  show IW _ _ _ _ _ _ _ _
  repeat refine IW.seq ?_
  refine IW.region_seq tab_ok [some 77, some 78, some 79, some 80] rfl fun X K hX hK => ?_
  simp only [go_sem, e1]
  refine hK _ _ ?_; clear hX hK X K
  show IW _ _ _ _ _ _ _ _
  repeat refine IW.seq ?_
  refine IW.cond rfl (fun _ => ?_) (fun hb => absurd hb (by decide))
  repeat refine IW.seq ?_
  refine IW.region_seq tab_ok [some 81, some 14] rfl fun X K hX hK => ?_
  simp only [go_sem]
  refine hK _ _ ?_; clear hX hK X K
  show IW _ _ _ _ _ _ _ _
  repeat refine IW.seq ?_
  refine IW.region_seq tab_ok [some 82, some 15] rfl fun X K hX hK => ?_
  simp only [go_sem]
  refine hK _ _ ?_; clear hX hK X K
  show IW _ _ _ _ _ _ _ _
  repeat refine IW.seq ?_
  refine IW.block ?_
  refine IW.loop (α := {s : Nat × Nat // s.1 ≤ s.2 ∧ s.2 ≤ L.length ∧ (s.1 = 0 ∨ (L.getD (s.1 - 1) (0, 0)).2 ≤ y.2) ∧ (s.2 = L.length ∨ y.2 < (L.getD s.2 (0, 0)).2)}) (fun s => [(0, .ref 0 0 n), (1, .int .i64 A.length), (2, .int .i64 m), (3, .int .i64 b), (4, .clo 60 []), (14, .int .i64 (A.length + s.1.1 : Nat)), (15, .int .i64 (A.length + s.1.2 : Nat))]) (fun s => [some ⟨2, 70, prs (A ++ L ++ [y] ++ R)⟩]) (fun s => s.1.2 - s.1.1) ⟨(0, L.length), Nat.zero_le _, Nat.le_refl _, .inl rfl, .inl rfl⟩ ?_ fun ⟨⟨i, j⟩, hij, hju, hi1, hj1⟩ => ?_
  · refine Ent.cut ?_ ?_ (fun id ri e => Nat.lt_of_lt_of_le (hr id ri e) (by simp)) <;> simp only [go_sem, Nat.add_zero, ← hm]
  · simp only [] at hij hju hi1 hj1 ⊢
    repeat refine IW.seq ?_
    refine IW.region_seq tab_ok [some 83, some 84, some 85] rfl fun X K hX hK => ?_
    simp only [go_sem]
    refine hK _ _ ?_; clear hX hK X K
    show IW _ _ _ _ _ _ _ _
    repeat refine IW.seq ?_
    refine IW.cond rfl (fun hb1 => ?_) (fun hb1 => ?_)
    · simp only [decide_eq_true_eq] at hb1
      have hlt : i < j := by omega
      obtain ⟨c, hc⟩ : ∃ c, c = (i + j) / 2 := ⟨_, rfl⟩
      obtain ⟨h1, h2, h3, h4⟩ := half_u64 (a := A.length + i) (b := A.length + j) (c := A.length + c) (by omega) (by omega)
      have hcj : c < j := by omega
      have hcu : c < L.length := by omega
      refine IW.skip ?_
      show IW _ _ _ _ _ _ _ _
      repeat refine IW.seq ?_
      refine IW.block ?_
      repeat refine IW.seq ?_
      refine IW.region_seq tab_ok [some 86, some 87, some 88, some 89, some 90, some 91, some 16] rfl fun X K hX hK => ?_
      simp only [go_sem, h1, h2, h3, h4]
      refine ⟨by omega, ?_⟩
      refine hK _ _ ?_; clear hX hK X K
      show IW _ _ _ _ _ _ _ _
      have p1 := prs_at (l := A ++ L ++ [y] ++ R) (i := A.length + c) (by omega)
      rw [hAx c hcu] at p1
      have huc := hl9 (L.getD c (0, 0)) (by simp [hcu])
      have hup := hmp.1
      generalize hz : L.getD c (0, 0) = z at *
      repeat refine IW.seq ?_
      refine IW.region_draw tab_ok mixed [some 92, some 93, some 94, some 95, some 96, some 97, some 98, some 99, some 100, some 101, some 102, some 103] 12 (by kernel_rfl) rfl fun Xq Xs K hXq hXs hK K1 hK1 => ?_
      simp only [go_sem, p0, p1, hpl]
      refine ⟨⟨by omega, by omega⟩, by omega, ⟨by omega, by omega⟩, by omega, ?_⟩
      refine hXq.quiet _ _ (OpG.of_B rfl (opB_call rfl rfl (FSpec.nz (fCmp y.1 y.2 z.1 z.2 hy9 huc) (by simp [go_sem, List.map_cons, List.map_nil, List.append_nil, opnd, unc])))) ?_
      simp only [go_sem]
      refine hK1 _ _ ?_; clear hXq hK1 K1 Xq
      simp only [List.drop_zero, List.drop_succ_cons, go_sem]
      refine hK _ _ ?_; clear hXs hK K Xs
      show IW _ _ _ _ _ _ _ _
      repeat refine IW.seq ?_
      refine IW.cond rfl (fun hb2 => ?_) (fun hb2 => ?_)
      · simp only [Bool.not_eq_true', decide_eq_false_iff_not] at hb2
        have e5 : IntKind.i64.wrap (((A.length + c : Nat) : Int) + 1) = ((A.length + (c + 1) : Nat) : Int) := (wrap_eq (by omega) (by omega)).trans (by omega)
        repeat refine IW.seq ?_
        refine IW.region_seq tab_ok [some 104, some 105, some 14] rfl fun X K hX hK => ?_
        simp only [go_sem, e5]
        refine hK _ _ ⟨⟨(c + 1, j), by simp only []; omega, hju, .inr ?_, hj1⟩, by simp only []; omega, ?_⟩
        · simp only [Nat.add_sub_cancel]; rw [hz]; omega
        · refine Ent.cut ?_ ?_ (fun id ri e => Nat.lt_of_lt_of_le (hr id ri e) (by simp)) <;> simp only [go_sem]
      · simp only [Bool.not_eq_false', decide_eq_true_eq] at hb2
        repeat refine IW.seq ?_
        refine IW.region_seq tab_ok [some 106, some 15] rfl fun X K hX hK => ?_
        simp only [go_sem]
        refine hK _ _ ⟨⟨(i, c), by simp only []; omega, by simp only []; omega, hi1, .inr ?_⟩, by simp only []; omega, ?_⟩
        · simp only []; rw [hz]; omega
        · refine Ent.cut ?_ ?_ (fun id ri e => Nat.lt_of_lt_of_le (hr id ri e) (by simp)) <;> simp only [go_sem]
    · refine IW.exit ?_
      show IW _ _ _ _ _ _ _ _
      simp only [decide_eq_false_iff_not] at hb1
      obtain rfl : i = j := by omega
      have hres := opt_one_right (s := i) hmp hi1 hj1 hju
      rw [hres]
      repeat refine IW.seq ?_
      refine IW.region_seq tab_ok [some 107, some 17] rfl fun X K hX hK => ?_
      simp only [go_sem]
      refine hK _ _ ?_; clear hX hK X K
      show IW _ _ _ _ _ _ _ _
      repeat refine IW.seq ?_
      refine IW.block ?_
      refine IW.loop (α := {k : Nat // i ≤ k ∧ k ≤ L.length}) (fun k => [(0, .ref 0 0 n), (1, .int .i64 A.length), (2, .int .i64 m), (3, .int .i64 b), (4, .clo 60 []), (14, .int .i64 (A.length + i : Nat)), (17, .int .i64 (A.length + k.1 : Nat))]) (fun k => [some ⟨2, 70, prs (insS A L R y k.1)⟩]) (fun k => k.1) ⟨L.length, hju, Nat.le_refl _⟩ ?_ fun ⟨k, hik, hk⟩ => ?_
      · have : insS A L R y L.length = A ++ L ++ [y] ++ R := by simp [insS]
        refine Ent.cut ?_ ?_ (fun id ri e => Nat.lt_of_lt_of_le (hr id ri e) (by simp)) <;> simp only [go_sem, this, ← hm]
      · simp only []
        repeat refine IW.seq ?_
        refine IW.region_seq tab_ok [some 108, some 109, some 110] rfl fun X K hX hK => ?_
        simp only [go_sem]
        refine hK _ _ ?_; clear hX hK X K
        show IW _ _ _ _ _ _ _ _
        repeat refine IW.seq ?_
        refine IW.cond rfl (fun hb3 => ?_) (fun hb3 => ?_)
        · simp only [decide_eq_true_eq, gt_iff_lt] at hb3
          obtain ⟨k, rfl⟩ : ∃ j, k = j + 1 := ⟨k - 1, by omega⟩
          have hku : k < L.length := by omega
          obtain ⟨a1, a2⟩ := insS_at A L R y hku
          have hset := insS_swap A L R y hku
          have hil := insS_length A L R y (j := k + 1) (by omega)
          have hil2 : (insS A L R y (k + 1)).length = n := by rw [hil]; omega
          have q1 := prs_at (l := insS A L R y (k + 1)) (i := A.length + k + 1) (by omega)
          have q2 := prs_at (l := insS A L R y (k + 1)) (i := A.length + k) (by omega)
          rw [a1] at q1
          rw [a2] at q2
          have w1 : IntKind.i64.wrap (((A.length + k + 1 : Nat) : Int) - 1) = ((A.length + k : Nat) : Int) := (wrap_eq (by omega) (by omega)).trans (by omega)
          have hlt1 : A.length + k + 1 < n := by omega
          have hlt2 : A.length + k < n := by omega
          rw [show A.length + (k + 1) = A.length + k + 1 by omega]
          refine IW.skip ?_
          show IW _ _ _ _ _ _ _ _
          refine IW.seq (IW.block ?_)
          repeat refine IW.seq ?_
          refine IW.region_drawL tab_ok mixed [some 113, some 114, some 115, some 116, some 117, some 118, some 119, some 120, some 121, some 122, some 123, some 124, some 125, some 126, some 127, none, some 128, none] 15 [2, 3, 4] [17] (by kernel_rfl) rfl (by simp [go_sem]) fun Xq Xs K hXq hXs hK K1 hK1 => ?_
          simp only [go_sem, w1, q1, q2, hil2]
          refine ⟨⟨by omega, by omega⟩, by omega, ⟨by omega, by omega⟩, by omega, ⟨by omega, by omega⟩, ?_⟩
          refine hK1 _ _ ?_; clear hXq hK1 K1 Xq
          simp only [List.drop_zero, List.drop_succ_cons, go_sem]
          have q3 : ∀ v, ((prs (insS A L R y (k + 1))).set (A.length + k + 1) v).getD (A.length + k) [] = [.int .i64 (L.getD k (0, 0)).1, .int .i64 (L.getD k (0, 0)).2] := fun v => by
            rw [List.getD_eq_getElem?_getD, List.getElem?_set_ne (by omega), ← List.getD_eq_getElem?_getD, q2]
          refine hXs.op _ _ rfl (opS_store tab_ok rfl (by simp [go_sem]) (by simp [go_sem]) (by simp [go_sem]) (by simp [go_sem, hil2, hlt1, hlt2]) (by simp [go_sem]) (by simp [go_sem])) ?_
          simp only [go_sem, hil2, hlt1, hlt2]
          simp only [q1, List.drop_succ_cons, List.drop_nil, List.drop_zero]
          refine ⟨⟨by omega, by omega⟩, ?_⟩
          refine hXs.op _ _ rfl (opS_store tab_ok rfl (by simp [go_sem]) (by simp [go_sem]) (by simp [go_sem]) (by simp [go_sem, hil2, hlt1, hlt2]) (by simp [go_sem]) (by simp [go_sem])) ?_
          simp only [go_sem, hil2, hlt1, hlt2]
          simp only [q3, List.drop_succ_cons, List.drop_nil, List.drop_zero]
          refine hK _ _ ?_; clear hXs hK K Xs
          show IW _ _ _ _ _ _ _ _
          have hsw : ((prs (insS A L R y (k + 1))).set (A.length + k + 1) [.int .i64 (L.getD k (0, 0)).1, .int .i64 (L.getD k (0, 0)).2]).set (A.length + k) [.int .i64 y.1, .int .i64 y.2] = prs (insS A L R y k) := by
            have := congrArg prs hset
            simpa only [prs, List.map_set] using this
          repeat refine IW.seq ?_
          refine IW.region_seq tab_ok [some 111, some 112, some 17] rfl fun X K hX hK => ?_
          simp only [go_sem, w1]
          refine hK _ _ ⟨⟨k, by omega, by omega⟩, by simp only []; omega, ?_⟩
          refine Ent.cut ?_ ?_ (fun id ri e => Nat.lt_of_lt_of_le (hr id ri e) (by simp)) <;> simp only [go_sem, hsw]
        · refine IW.exit ?_
          simp only [decide_eq_false_iff_not, gt_iff_lt] at hb3
          obtain rfl : k = i := by omega
          show IW _ _ _ _ _ _ _ _
          refine IW.ret ?_
          have e7 : A ++ (L.take k ++ y :: L.drop k) ++ R = insS A L R y k := rfl
          rw [e7]
          exact ⟨trivial, rfl, by simp [go_sem, heapNold, prs_nold], by simp, [0], rfl, by simp, rfl, rfl, by simp [go_sem, subH, prs_renrow], trivial⟩
end Go.Proofs.Ytnbpbehlemaeoaa

set_option linter.unusedVariables false
set_option linter.unusedSimpArgs false
set_option maxRecDepth 10000
namespace Go.Proofs.Ytnbpbehlemaeoaa
open Go.IL
/-- The contract of the merging. -/
def MergeOk (A L U R : List (Int × Int)) (m b n : Nat) : Prop :=
  WSpec Try.prog 91 [.ref 0 0 n, .int .i64 A.length, .int .i64 m, .int .i64 b, .clo 60 []] [⟨2, 70, prs (A ++ L ++ U ++ R)⟩] (.tup []) [some ⟨2, 70, prs (A ++ optS (L ++ U) ++ R)⟩]
set_option maxHeartbeats 4000000 in
theorem fMergeG (A L U R : List (Int × Int)) (hmp : MP L U) (hl9 : ∀ p ∈ L, M9 p.2) (hu9 : ∀ p ∈ U, M9 p.2) (hl2 : 2 ≤ L.length) (hu2 : 2 ≤ U.length) {m b n : Nat} (hm : m = A.length + L.length) (hb : b = A.length + L.length + U.length) (hln : n = (A ++ L ++ U ++ R).length) (hn : n ≤ 1000000)
    (ih : ∀ (A L' U' R : List (Int × Int)) (m b : Nat), L'.length + U'.length < L.length + U.length → 0 < L'.length → 0 < U'.length → MP L' U' → (∀ p ∈ L', M9 p.2) → (∀ p ∈ U', M9 p.2) → m = A.length + L'.length → b = A.length + L'.length + U'.length → n = (A ++ L' ++ U' ++ R).length → MergeOk A L' U' R m b n) : MergeOk A L U R m b n := by
  unfold MergeOk
  have hlen : n = A.length + L.length + U.length + R.length := by rw [hln]; simp; omega
  have e0 : IntKind.i64.wrap ((m : Int) - (A.length : Int)) = (L.length : Int) := (wrap_eq (by omega) (by omega)).trans (by omega)
  have e0' : ((L.length : Int) == 1) = false := by simp; omega
  have e1 : IntKind.i64.wrap ((b : Int) - (m : Int)) = (U.length : Int) := (wrap_eq (by omega) (by omega)).trans (by omega)
  have e1' : ((U.length : Int) == 1) = false := by simp; omega
  obtain ⟨q, hq⟩ : ∃ q, q = (L.length + U.length) / 2 := ⟨_, rfl⟩
  obtain ⟨h1, h2, h3, h4⟩ := half_u64 (a := A.length) (b := b) (c := A.length + q) (by omega) (by omega)
  have hAL : ∀ i, i < L.length → (A ++ L ++ U ++ R).getD (A.length + i) (0, 0) = L.getD i (0, 0) := fun i hi => by
    rw [List.append_assoc, List.append_assoc, getD_app_right, getD_app_left hi]
  have hAU : ∀ i, i < U.length → (A ++ L ++ U ++ R).getD (m + i) (0, 0) = U.getD i (0, 0) := fun i hi => by
    rw [getD_app_left (by simp; omega), show m + i = (A ++ L).length + i by simp; omega, getD_app_right]
  have hpl : (prs (A ++ L ++ U ++ R)).length = n := by rw [prs_length]; exact hln.symm
  obtain ⟨N', hN'⟩ : ∃ N', N' = A.length + q + m := ⟨_, rfl⟩
  have e3 : IntKind.i64.wrap (((A.length + q : Nat) : Int) + (m : Int)) = (N' : Int) := (wrap_eq (by omega) (by omega)).trans (by omega)
  obtain ⟨s0, hs0⟩ : ∃ s0, s0 = q - U.length := ⟨_, rfl⟩
  obtain ⟨r0, hr0⟩ : ∃ r0, r0 = min q L.length := ⟨_, rfl⟩
  obtain ⟨P', hP'⟩ : ∃ P', P' + 1 = N' := ⟨N' - 1, by omega⟩
  refine WSpec.intro tab_ok Try.func91 rfl rfl rfl (by kernel_rfl) (by simp) (by simp) fun O w0 hr => ?_
  simp only [argTM, Nat.zero_add, Nat.reduceAdd, List.map_cons, List.map_nil]
  repeat refine IW.seq ?_
  refine IW.region_seq tab_ok [some 25, some 26, some 27, some 28] rfl fun X K hX hK => ?_
  simp only [go_sem, e0, e0']
  refine hK _ _ ?_; clear hX hK X K
  show IW _ _ _ _ _ _ _ _
  repeat refine IW.seq ?_
  refine IW.cond rfl (fun hb => absurd hb (by decide)) (fun _ => ?_)
  refine IW.skip ?_
  show IW _ _ _ _ _ _ _ _
  repeat refine IW.seq ?_
  refine IW.region_seq tab_ok [some 77, some 78, some 79, some 80] rfl fun X K hX hK => ?_
  simp only [go_sem, e1, e1']
  refine hK _ _ ?_; clear hX hK X K
  show IW _ _ _ _ _ _ _ _
  repeat refine IW.seq ?_
  refine IW.cond rfl (fun hb => absurd hb (by decide)) (fun _ => ?_)
  refine IW.skip ?_
  show IW _ _ _ _ _ _ _ _
  repeat refine IW.seq ?_
  refine IW.region_seq tab_ok [some 129, some 130, some 131, some 132, some 133, some 134, some 18] rfl fun X K hX hK => ?_
  simp only [go_sem, h1, h2, h3, h4]
  refine ⟨by omega, ?_⟩
  refine hK _ _ ?_; clear hX hK X K
  show IW _ _ _ _ _ _ _ _
  repeat refine IW.seq ?_
  refine IW.region_seq tab_ok [some 135, some 136, some 137, some 19] rfl fun X K hX hK => ?_
  simp only [go_sem, e3]
  refine hK _ _ ?_; clear hX hK X K
  show IW _ _ _ _ _ _ _ _
  repeat refine IW.seq ?_
  refine IW.region_seq tab_ok [some 20, some 21] rfl fun X K hX hK => ?_
  simp only [go_sem]
  refine hK _ _ ?_; clear hX hK X K
  show IW _ _ _ _ _ _ _ _
  repeat refine IW.seq ?_
  refine IW.region_seq tab_ok [some 138, some 139, some 140] rfl fun X K hX hK => ?_
  simp only [go_sem]
  refine hK _ _ ?_; clear hX hK X K
  show IW _ _ _ _ _ _ _ _
  repeat refine IW.seq ?_
  refine IW.joinI (α := Unit) (fun _ => [(0, .ref 0 0 n), (1, .int .i64 A.length), (2, .int .i64 m), (3, .int .i64 b), (4, .clo 60 []), (18, .int .i64 (A.length + q : Nat)), (19, .int .i64 N'), (20, .int .i64 (A.length + s0 : Nat)), (21, .int .i64 (A.length + r0 : Nat))]) (fun _ => [some ⟨2, 70, prs (A ++ L ++ U ++ R)⟩]) ?_ fun _ => ?_
  · refine IW.cond rfl (fun hb => ?_) (fun hb => ?_)
    · simp only [decide_eq_true_eq, gt_iff_lt] at hb
      have e4 : IntKind.i64.wrap ((N' : Int) - (b : Int)) = ((A.length + s0 : Nat) : Int) := (wrap_eq (by omega) (by omega)).trans (by omega)
      have e5 : r0 = q := by omega
      repeat refine IW.seq ?_
      refine IW.region_seq tab_ok [some 141, some 142, some 143, some 20] rfl fun X K hX hK => ?_
      simp only [go_sem, e4]
      refine hK _ _ ?_; clear hX hK X K
      show IW _ _ _ _ _ _ _ _
      repeat refine IW.seq ?_
      refine IW.region_seq tab_ok [some 144, some 21] rfl fun X K hX hK => ?_
      simp only [go_sem]
      refine hK _ _ ⟨(), ?_⟩
      refine Ent.cut ?_ ?_ (fun id ri e => Nat.lt_of_lt_of_le (hr id ri e) (by simp)) <;> simp only [go_sem, e5]
    · simp only [decide_eq_false_iff_not, gt_iff_lt] at hb
      have e4 : s0 = 0 := by omega
      have e5 : A.length + r0 = m := by omega
      repeat refine IW.seq ?_
      refine IW.region_seq tab_ok [some 145, some 20] rfl fun X K hX hK => ?_
      simp only [go_sem]
      refine hK _ _ ?_; clear hX hK X K
      show IW _ _ _ _ _ _ _ _
      repeat refine IW.seq ?_
      refine IW.region_seq tab_ok [some 146, some 21] rfl fun X K hX hK => ?_
      simp only [go_sem]
      refine hK _ _ ⟨(), ?_⟩
      refine Ent.cut ?_ ?_ (fun id ri e => Nat.lt_of_lt_of_le (hr id ri e) (by simp)) <;> simp only [go_sem, e4, e5, Nat.add_zero]
  have e6 : IntKind.i64.wrap ((N' : Int) - 1) = (P' : Int) := (wrap_eq (by omega) (by omega)).trans (by omega)
  have f1 : q ≤ s0 + U.length := by omega
  have f2 : s0 = 0 ∨ s0 + U.length = q := by omega
  have f3 : r0 ≤ q := by omega
  have f4 : r0 ≤ L.length := by omega
  have f5 : r0 = q ∨ r0 = L.length := by omega
  have f6 : s0 ≤ r0 := by omega
  have f7 : q < L.length + U.length := by omega
  have f8 : 0 < q := by omega
  clear hs0 hr0 hq h1 h2 h3 h4 e0 e0' e1 e1' e3
  repeat refine IW.seq ?_
  refine IW.region_seq tab_ok [some 147, some 148, some 22] rfl fun X K hX hK => ?_
  simp only [go_sem, e6]
  refine hK _ _ ?_; clear hX hK X K
  show IW _ _ _ _ _ _ _ _
  repeat refine IW.seq ?_
  refine IW.block ?_
  refine IW.loop (α := {s : Nat × Nat // s0 ≤ s.1 ∧ s.1 ≤ s.2 ∧ s.2 ≤ r0 ∧ (s.1 = s0 ∨ (L.getD (s.1 - 1) (0, 0)).2 ≤ (U.getD (q - s.1) (0, 0)).2) ∧ (s.2 = r0 ∨ (U.getD (q - s.2 - 1) (0, 0)).2 < (L.getD s.2 (0, 0)).2)}) (fun s => [(0, .ref 0 0 n), (1, .int .i64 A.length), (2, .int .i64 m), (3, .int .i64 b), (4, .clo 60 []), (18, .int .i64 (A.length + q : Nat)), (19, .int .i64 N'), (20, .int .i64 (A.length + s.1.1 : Nat)), (21, .int .i64 (A.length + s.1.2 : Nat)), (22, .int .i64 P')]) (fun s => [some ⟨2, 70, prs (A ++ L ++ U ++ R)⟩]) (fun s => s.1.2 - s.1.1) ⟨(s0, r0), Nat.le_refl _, f6, Nat.le_refl _, .inl rfl, .inl rfl⟩ ?_ fun ⟨⟨i, j⟩, hq0, hij, hju, hi1, hj1⟩ => ?_
  · refine Ent.cut ?_ ?_ (fun id ri e => Nat.lt_of_lt_of_le (hr id ri e) (by simp)) <;> simp only [go_sem]
  · simp only [] at hq0 hij hju hi1 hj1 ⊢
    repeat refine IW.seq ?_
    refine IW.region_seq tab_ok [some 149, some 150, some 151] rfl fun X K hX hK => ?_
    simp only [go_sem]
    refine hK _ _ ?_; clear hX hK X K
    show IW _ _ _ _ _ _ _ _
    repeat refine IW.seq ?_
    refine IW.cond rfl (fun hb1 => ?_) (fun hb1 => ?_)
    · simp only [decide_eq_true_eq] at hb1
      have hlt : i < j := by omega
      obtain ⟨c, hc⟩ : ∃ c, c = (i + j) / 2 := ⟨_, rfl⟩
      obtain ⟨g1, g2, g3, g4⟩ := half_u64 (a := A.length + i) (b := A.length + j) (c := A.length + c) (by omega) (by omega)
      have hcj : c < j := by omega
      have hcu : c < L.length := by omega
      obtain ⟨e, he⟩ : ∃ e, e + c + 1 = q := ⟨q - c - 1, by omega⟩
      have hcq : e < U.length := by omega
      have hqe : q - c - 1 = e := by omega
      refine IW.skip ?_
      show IW _ _ _ _ _ _ _ _
      repeat refine IW.seq ?_
      refine IW.block ?_
      repeat refine IW.seq ?_
      refine IW.region_seq tab_ok [some 152, some 153, some 154, some 155, some 156, some 157, some 23] rfl fun X K hX hK => ?_
      simp only [go_sem, g1, g2, g3, g4]
      refine ⟨by omega, ?_⟩
      refine hK _ _ ?_; clear hX hK X K
      show IW _ _ _ _ _ _ _ _
      have e7 : IntKind.i64.wrap ((P' : Int) - ((A.length + c : Nat) : Int)) = ((m + e : Nat) : Int) := (wrap_eq (by omega) (by omega)).trans (by omega)
      have p0 := prs_at (l := A ++ L ++ U ++ R) (i := m + e) (by omega)
      rw [hAU _ hcq] at p0
      have p1 := prs_at (l := A ++ L ++ U ++ R) (i := A.length + c) (by omega)
      rw [hAL c hcu] at p1
      have hy9 := hu9 (U.getD e (0, 0)) (by simp [hcq])
      have hz9 := hl9 (L.getD c (0, 0)) (by simp [hcu])
      generalize hy : U.getD e (0, 0) = y at *
      generalize hz : L.getD c (0, 0) = z at *
      repeat refine IW.seq ?_
      refine IW.region_draw tab_ok mixed [some 158, some 159, some 160, some 161, some 162, some 163, some 164, some 165, some 166, some 167, some 168, some 169, some 170, some 171] 14 (by kernel_rfl) rfl fun Xq Xs K hXq hXs hK K1 hK1 => ?_
      simp only [go_sem, e7, p0, p1, hpl]
      refine ⟨⟨by omega, by omega⟩, by omega, ⟨by omega, by omega⟩, by omega, ?_⟩
      refine hXq.quiet _ _ (OpG.of_B rfl (opB_call rfl rfl (FSpec.nz (fCmp y.1 y.2 z.1 z.2 hy9 hz9) (by simp [go_sem, List.map_cons, List.map_nil, List.append_nil, opnd, unc])))) ?_
      simp only [go_sem]
      refine hK1 _ _ ?_; clear hXq hK1 K1 Xq
      simp only [List.drop_zero, List.drop_succ_cons, go_sem]
      refine hK _ _ ?_; clear hXs hK K Xs
      show IW _ _ _ _ _ _ _ _
      repeat refine IW.seq ?_
      refine IW.cond rfl (fun hb2 => ?_) (fun hb2 => ?_)
      · simp only [Bool.not_eq_true', decide_eq_false_iff_not] at hb2
        have e5 : IntKind.i64.wrap (((A.length + c : Nat) : Int) + 1) = ((A.length + (c + 1) : Nat) : Int) := (wrap_eq (by omega) (by omega)).trans (by omega)
        repeat refine IW.seq ?_
        refine IW.region_seq tab_ok [some 172, some 173, some 20] rfl fun X K hX hK => ?_
        simp only [go_sem, e5]
        refine hK _ _ ⟨⟨(c + 1, j), by simp only []; omega, by simp only []; omega, hju, .inr ?_, hj1⟩, by simp only []; omega, ?_⟩
        · simp only [Nat.add_sub_cancel]; rw [hz, show q - (c + 1) = e by omega, hy]; omega
        · refine Ent.cut ?_ ?_ (fun id ri e => Nat.lt_of_lt_of_le (hr id ri e) (by simp)) <;> simp only [go_sem]
      · simp only [Bool.not_eq_false', decide_eq_true_eq] at hb2
        repeat refine IW.seq ?_
        refine IW.region_seq tab_ok [some 174, some 21] rfl fun X K hX hK => ?_
        simp only [go_sem]
        refine hK _ _ ⟨⟨(i, c), hq0, by simp only []; omega, by simp only []; omega, hi1, .inr ?_⟩, by simp only []; omega, ?_⟩
        · simp only []; rw [hz, hqe, hy]; omega
        · refine Ent.cut ?_ ?_ (fun id ri e => Nat.lt_of_lt_of_le (hr id ri e) (by simp)) <;> simp only [go_sem]
    · refine IW.exit ?_
      show IW _ _ _ _ _ _ _ _
      simp only [decide_eq_false_iff_not] at hb1
      obtain rfl : i = j := by omega
      obtain ⟨t, ht⟩ : ∃ t, t = q - i := ⟨_, rfl⟩
      rw [← ht] at hi1 hj1
      have htu : t ≤ U.length := by omega
      have k1 : i = 0 ∨ t = U.length ∨ (L.getD (i - 1) (0, 0)).2 ≤ (U.getD t (0, 0)).2 := by
        rcases hi1 with h | h
        · rcases f2 with g | g
          · left; omega
          · right; left; omega
        · exact .inr (.inr h)
      have k2 : i = L.length ∨ t = 0 ∨ (U.getD (t - 1) (0, 0)).2 < (L.getD i (0, 0)).2 := by
        rcases hj1 with h | h
        · rcases f5 with g | g
          · right; left; omega
          · left; omega
        · exact .inr (.inr h)
      have hcut := opt_cut (s := i) (t := t) hmp k1 k2 (by omega) htu
      have hil : i ≤ L.length := by omega
      have hitq : i + t = q := by omega
      have hmL := hmp.left i t
      have hmR := hmp.right i t
      clear k1 k2 hi1 hj1 f1 f2 f3 f4 f5 f6 hju hq0 hb1 hij
      rw [hcut]
      have e8 : IntKind.i64.wrap ((N' : Int) - ((A.length + i : Nat) : Int)) = ((m + t : Nat) : Int) := (wrap_eq (by omega) (by omega)).trans (by omega)
      repeat refine IW.seq ?_
      refine IW.region_seq tab_ok [some 175, some 176, some 177, some 24] rfl fun X K hX hK => ?_
      simp only [go_sem, e8]
      refine hK _ _ ?_; clear hX hK X K
      show IW _ _ _ _ _ _ _ _
      repeat refine IW.seq ?_
      refine IW.region_seq tab_ok [some 178, some 179, some 180, some 181, some 182, some 183, some 184, some 185] rfl fun X K hX hK => ?_
      simp only [go_sem]
      refine hK _ _ ?_; clear hX hK X K
      show IW _ _ _ _ _ _ _ _
      have hlT : (L.take i).length = i := by simp; omega
      have hlD : (L.drop i).length = L.length - i := by simp
      have huT : (U.take t).length = t := by simp; omega
      have huD : (U.drop t).length = U.length - t := by simp
      have hLtd : L.take i ++ L.drop i = L := List.take_append_drop _ _
      have hUtd : U.take t ++ U.drop t = U := List.take_append_drop _ _
      have hl9T : ∀ p ∈ L.take i, M9 p.2 := fun p hp => hl9 p (List.mem_of_mem_take hp)
      have hl9D : ∀ p ∈ L.drop i, M9 p.2 := fun p hp => hl9 p (List.mem_of_mem_drop hp)
      have hu9T : ∀ p ∈ U.take t, M9 p.2 := fun p hp => hu9 p (List.mem_of_mem_take hp)
      have hu9D : ∀ p ∈ U.drop t, M9 p.2 := fun p hp => hu9 p (List.mem_of_mem_drop hp)
      have hrow0 : A ++ L ++ U ++ R = A ++ L.take i ++ L.drop i ++ U.take t ++ (U.drop t ++ R) := by
        rw [List.append_assoc A (L.take i), hLtd, List.append_assoc (A ++ L) (U.take t), ← List.append_assoc (U.take t), hUtd, ← List.append_assoc]
      rw [hrow0]
      generalize L.take i = L1 at *
      generalize L.drop i = L2 at *
      generalize U.take t = U1 at *
      generalize U.drop t = U2 at *
      repeat refine IW.seq ?_
      refine IW.joinI (α := Unit) (fun _ => [(0, .ref 0 0 n), (1, .int .i64 A.length), (3, .int .i64 b), (4, .clo 60 []), (18, .int .i64 (A.length + q : Nat)), (20, .int .i64 (A.length + i : Nat)), (24, .int .i64 (m + t : Nat))]) (fun _ => [some ⟨2, 70, prs (A ++ L1 ++ U1 ++ (L2 ++ U2 ++ R))⟩]) ?_ fun _ => ?_
      · refine IW.cond rfl (fun hb => ?_) (fun hb => ?_)
        · simp only [Bool.and_eq_true, decide_eq_true_eq] at hb
          have hc := fRotate (A ++ L1) L2 U1 (U2 ++ R) (by omega) (by omega) (m := m) (b := m + t) (n := n) (by simp; omega) (by simp; omega) (by simp; omega) hn
          have ea : (A ++ L1).length = A.length + i := by simp; omega
          rw [ea] at hc
          repeat refine IW.seq ?_
          refine IW.region_seq tab_ok [some 186, some 187, some 188, some 189, some 190, some 191] rfl fun X K hX hK => ?_
          simp only [go_sem]
          refine hX.op _ _ rfl (opS_callW (caps := []) [0] (by simp) (by simp [go_sem]) (by simp) (by simp [go_sem, prs_reWrow]) (by simp [go_sem, reW]) hc) ?_
          simp only [go_sem]
          simp only [updR, List.set_cons_zero, Option.map_some, prs_renrow]
          refine hK _ _ ⟨(), ?_⟩
          refine Ent.cut ?_ ?_ (fun id ri e => Nat.lt_of_lt_of_le (hr id ri e) (by simp)) <;> simp only [go_sem, List.append_assoc]
        · have : L2 ++ (U1 ++ (U2 ++ R)) = U1 ++ (L2 ++ (U2 ++ R)) := by
            by_cases c : L2 = []
            · simp [c]
            · have : 0 < L2.length := List.length_pos_iff.2 c
              have : U1 = [] := by
                apply List.eq_nil_of_length_eq_zero
                simp only [Bool.and_eq_false_iff, decide_eq_false_iff_not] at hb
                omega
              simp [this]
          refine IW.skip ⟨(), ?_⟩
          refine Ent.cut ?_ ?_ (fun id ri e => Nat.lt_of_lt_of_le (hr id ri e) (by simp)) <;> simp only [go_sem, List.append_assoc, this]
      repeat refine IW.seq ?_
      refine IW.region_seq tab_ok [some 192, some 193, some 194, some 195, some 196, some 197, some 198, some 199] rfl fun X K hX hK => ?_
      simp only [go_sem]
      refine hK _ _ ?_; clear hX hK X K
      show IW _ _ _ _ _ _ _ _
      repeat refine IW.seq ?_
      refine IW.joinI (α := Unit) (fun _ => [(0, .ref 0 0 n), (3, .int .i64 b), (4, .clo 60 []), (18, .int .i64 (A.length + q : Nat)), (24, .int .i64 (m + t : Nat))]) (fun _ => [some ⟨2, 70, prs (A ++ optS (L1 ++ U1) ++ L2 ++ U2 ++ R)⟩]) ?_ fun _ => ?_
      · refine IW.cond rfl (fun hb => ?_) (fun hb => ?_)
        · simp only [Bool.and_eq_true, decide_eq_true_eq] at hb
          have hc := ih A L1 U1 (L2 ++ U2 ++ R) (A.length + i) (A.length + q) (by omega) (by omega) (by omega) hmL hl9T hu9T (by omega) (by omega) (by simp; omega)
          unfold MergeOk at hc
          repeat refine IW.seq ?_
          refine IW.region_seq tab_ok [some 200, some 201, some 202, some 203, some 204, some 205] rfl fun X K hX hK => ?_
          simp only [go_sem]
          refine hX.op _ _ rfl (opS_callW (caps := []) [0] (by simp) (by simp [go_sem]) (by simp) (by simp [go_sem, prs_reWrow]) (by simp [go_sem, reW]) hc) ?_
          simp only [go_sem]
          simp only [updR, List.set_cons_zero, Option.map_some, prs_renrow]
          refine hK _ _ ⟨(), ?_⟩
          refine Ent.cut ?_ ?_ (fun id ri e => Nat.lt_of_lt_of_le (hr id ri e) (by simp)) <;> simp only [go_sem, List.append_assoc]
        · have : optS (L1 ++ U1) = L1 ++ U1 := by
            simp only [Bool.and_eq_false_iff, decide_eq_false_iff_not] at hb
            by_cases c : i = 0
            · have : L1 = [] := List.eq_nil_of_length_eq_zero (by omega)
              subst this
              exact opt_sorted hmL.2.1
            · have : U1 = [] := List.eq_nil_of_length_eq_zero (by omega)
              subst this
              rw [List.append_nil]
              exact opt_sorted hmL.1
          refine IW.skip ⟨(), ?_⟩
          refine Ent.cut ?_ ?_ (fun id ri e => Nat.lt_of_lt_of_le (hr id ri e) (by simp)) <;> simp only [go_sem, this, List.append_assoc]
      have hso : (optS (L1 ++ U1)).length = q := by rw [opt_length, List.length_append]; omega
      generalize optS (L1 ++ U1) = S1 at *
      repeat refine IW.seq ?_
      refine IW.region_seq tab_ok [some 206, some 207, some 208, some 209, some 210, some 211, some 212, some 213] rfl fun X K hX hK => ?_
      simp only [go_sem]
      refine hK _ _ ?_; clear hX hK X K
      show IW _ _ _ _ _ _ _ _
      repeat refine IW.seq ?_
      refine IW.cond rfl (fun hb => ?_) (fun hb => ?_)
      · simp only [Bool.and_eq_true, decide_eq_true_eq] at hb
        have hc := ih (A ++ S1) L2 U2 R (m + t) b (by omega) (by omega) (by omega) hmR hl9D hu9D (by simp; omega) (by simp; omega) (by simp; omega)
        unfold MergeOk at hc
        have ea : (A ++ S1).length = A.length + q := by simp; omega
        rw [ea] at hc
        repeat refine IW.seq ?_
        refine IW.region_seq tab_ok [some 214, some 215, some 216, some 217, some 218, some 219] rfl fun X K hX hK => ?_
        simp only [go_sem]
        refine hX.op _ _ rfl (opS_callW (caps := []) [0] (by simp) (by simp [go_sem]) (by simp) (by simp [go_sem, prs_reWrow]) (by simp [go_sem, reW]) hc) ?_
        simp only [go_sem]
        simp only [updR, List.set_cons_zero, Option.map_some, prs_renrow]
        refine hK _ _ ?_
        have e9 : A ++ S1 ++ optS (L2 ++ U2) ++ R = A ++ (S1 ++ optS (L2 ++ U2)) ++ R := by simp
        rw [e9]
        exact ⟨trivial, rfl, by simp [go_sem, heapNold, prs_nold], by simp, [0], rfl, by simp, rfl, rfl, by simp [go_sem, subH, prs_renrow], trivial⟩
      · have e9 : A ++ S1 ++ L2 ++ U2 ++ R = A ++ (S1 ++ optS (L2 ++ U2)) ++ R := by
          have : optS (L2 ++ U2) = L2 ++ U2 := by
            simp only [Bool.and_eq_false_iff, decide_eq_false_iff_not] at hb
            by_cases c : L2 = []
            · subst c
              exact opt_sorted hmR.2.1
            · have : 0 < L2.length := List.length_pos_iff.2 c
              have : U2 = [] := List.eq_nil_of_length_eq_zero (by omega)
              subst this
              rw [List.append_nil]
              exact opt_sorted hmR.1
          rw [this]; simp
        rw [e9]
        refine IW.skip ?_
        exact ⟨trivial, rfl, by simp [go_sem, heapNold, prs_nold], by simp, [0], rfl, by simp, rfl, rfl, by simp [go_sem, subH, prs_renrow], trivial⟩
/-- Two sorted stretches are merged. -/
theorem fSymMerge : ∀ (k : Nat) (A L U R : List (Int × Int)) (m b n : Nat), L.length + U.length ≤ k → 0 < L.length → 0 < U.length → MP L U → (∀ p ∈ L, M9 p.2) → (∀ p ∈ U, M9 p.2) → m = A.length + L.length → b = A.length + L.length + U.length → n = (A ++ L ++ U ++ R).length → n ≤ 1000000 → MergeOk A L U R m b n
  | 0, A, L, U, R, m, b, n, hk, h1, h2, _, _, _, _, _, _, _ => by omega
  | k + 1, A, L, U, R, m, b, n, hk, h1, h2, hmp, hl9, hu9, hm, hb, hln, hn => by
    by_cases c : L.length = 1
    · obtain ⟨x, rfl⟩ := List.length_eq_one_iff.1 c
      exact fMergeL A x U R hmp (hl9 x (by simp)) hu9 hm hb hln hn
    · by_cases d : U.length = 1
      · obtain ⟨y, rfl⟩ := List.length_eq_one_iff.1 d
        exact fMergeR A L y R hmp (hu9 y (by simp)) hl9 (by omega) hm hb hln hn
      · exact fMergeG A L U R hmp hl9 hu9 (by omega) (by omega) hm hb hln hn fun A L' U' R m b g1 g2 g3 g4 g5 g6 g7 g8 g9 => fSymMerge k A L' U' R m b n (by omega) g2 g3 g4 g5 g6 g7 g8 g9 hn
end Go.Proofs.Ytnbpbehlemaeoaa

set_option linter.unusedVariables false
set_option linter.unusedSimpArgs false
set_option maxRecDepth 10000
namespace Go.Proofs.Ytnbpbehlemaeoaa
open Go.IL
theorem opt_opt {l l1 l2 : List (Int × Int)} (hl : l = l1 ++ l2) (hv : l.Pairwise (fun p q => p.1 < q.1)) : MP (optS l1) (optS l2) ∧ optS (optS l1 ++ optS l2) = optS l := by
  have h0 := List.pairwise_append.1 (hl ▸ hv)
  have hne : ∀ {p q : Int × Int}, p.1 < q.1 → p ≠ q := fun h e => by rw [e] at h; omega
  have s1 := srt_opt' (h0.1.imp fun h => hne h)
  have s2 := srt_opt' (h0.2.1.imp fun h => hne h)
  have hmp : MP (optS l1) (optS l2) := ⟨s1.2, s2.2, fun x hx y hy => h0.2.2 x (s1.1.mem_iff.1 hx) y (s2.1.mem_iff.1 hy)⟩
  refine ⟨hmp, srt_unique (l := l) ⟨?_, opt_sort hmp⟩ (srt_opt' (hv.imp fun h => hne h))⟩
  subst hl
  exact (opt_perm _).trans (s1.1.append s2.1)
set_option maxHeartbeats 1000000 in
/-- Two blocks, of twenty and of fewer, and one merging. -/
theorem fStable2 (l : List (Int × Int)) (hv : l.Pairwise (fun p q => p.1 < q.1)) (hm : ∀ p ∈ l, M9 p.2) (hn : 20 < l.length ∧ l.length < 40) :
    WSpec Try.prog 79 [.ref 0 0 l.length, .int .i64 l.length, .clo 60 []] [⟨2, 70, prs l⟩] (.tup []) [some ⟨2, 70, prs (optS l)⟩] := by
  obtain ⟨l1, l2, hl, hl1⟩ : ∃ l1 l2 : List (Int × Int), l = l1 ++ l2 ∧ l1.length = 20 := ⟨l.take 20, l.drop 20, (List.take_append_drop _ _).symm, by simp; omega⟩
  have hll : l.length = 20 + l2.length := by rw [hl, List.length_append, hl1]
  obtain ⟨hmp, hopt⟩ := opt_opt hl hv
  have hv0 := List.pairwise_append.1 (hl ▸ hv)
  have hm1 : ∀ p ∈ l1, M9 p.2 := fun p hp => hm p (by rw [hl]; simp [hp])
  have hm2 : ∀ p ∈ l2, M9 p.2 := fun p hp => hm p (by rw [hl]; simp [hp])
  obtain ⟨n, hN⟩ : ∃ n, n = l.length := ⟨_, rfl⟩
  have hc1 : WSpec Try.prog 90 [.ref 0 0 n, .int .i64 0, .int .i64 20, .clo 60 []] [⟨2, 70, prs l⟩] (.tup []) [some ⟨2, 70, prs (optS l1 ++ l2)⟩] := by
    have := fInsSort [] l1 l2 hv0.1 hm1 (by simp; omega)
    simp only [List.nil_append, List.length_nil, Nat.zero_add, ← hl, ← hN, hl1] at this
    exact this
  have hc2 : WSpec Try.prog 90 [.ref 0 0 n, .int .i64 20, .int .i64 n, .clo 60 []] [⟨2, 70, prs (optS l1 ++ l2)⟩] (.tup []) [some ⟨2, 70, prs (optS l1 ++ optS l2)⟩] := by
    have := fInsSort (optS l1) l2 [] hv0.2.1 hm2 (by simp [opt_length]; omega)
    simp only [List.append_nil, List.length_append, opt_length, hl1] at this
    rw [← hll, ← hN] at this
    exact this
  have hc3 : WSpec Try.prog 91 [.ref 0 0 n, .int .i64 0, .int .i64 20, .int .i64 n, .clo 60 []] [⟨2, 70, prs (optS l1 ++ optS l2)⟩] (.tup []) [some ⟨2, 70, prs (optS l)⟩] := by
    have := fSymMerge _ [] (optS l1) (optS l2) [] 20 n n (Nat.le_refl _) (by rw [opt_length]; omega) (by rw [opt_length]; omega) hmp (fun p hp => hm1 p ((opt_perm _).mem_iff.1 hp)) (fun p hp => hm2 p ((opt_perm _).mem_iff.1 hp)) (by simp [opt_length, hl1]) (by simp [opt_length, hl1]; omega) (by simp [opt_length, hl1]; omega) (by omega)
    unfold MergeOk at this
    simp only [List.nil_append, List.append_nil, List.length_nil, hopt] at this
    exact this
  rw [← hN]
  refine WSpec.intro tab_ok Try.func79 rfl rfl rfl (by kernel_rfl) (by simp) (by simp) fun O w0 hr => ?_
  simp only [argTM, Nat.zero_add, Nat.reduceAdd, List.map_cons, List.map_nil]
  repeat refine IW.seq ?_
  refine IW.region_seq tab_ok [some 6] rfl fun X K hX hK => ?_
  simp only [go_sem]
  refine hK _ _ ?_; clear hX hK X K
  show IW _ _ _ _ _ _ _ _
  repeat refine IW.seq ?_
  refine IW.region_seq tab_ok [some 10, some 7, some 8] rfl fun X K hX hK => ?_
  simp only [go_sem]
  refine hK _ _ ?_; clear hX hK X K
  show IW _ _ _ _ _ _ _ _
  repeat refine IW.seq ?_
  refine IW.block ?_
  refine IW.loop (α := Bool) (fun c => [(0, .ref 0 0 n), (1, .int .i64 n), (2, .clo 60 []), (6, .int .i64 20), (7, .int .i64 (bif c then 20 else 0)), (8, .int .i64 (bif c then 40 else 20))]) (fun c => [some ⟨2, 70, prs (bif c then optS l1 ++ l2 else l)⟩]) (fun c => bif c then 0 else 1) false ?_ fun c => ?_
  · refine Ent.cut ?_ ?_ (fun id ri e => Nat.lt_of_lt_of_le (hr id ri e) (by simp)) <;> simp only [go_sem, cond_false]
  · cases c with
    | false =>
      simp only [cond_false]
      repeat refine IW.seq ?_
      refine IW.region_seq tab_ok [some 11, some 12, some 13] rfl fun X K hX hK => ?_
      simp only [go_sem]
      refine hK _ _ ?_; clear hX hK X K
      show IW _ _ _ _ _ _ _ _
      repeat refine IW.seq ?_
      refine IW.cond rfl (fun hb1 => ?_) (fun hb1 => ?_)
      · refine IW.skip ?_
        show IW _ _ _ _ _ _ _ _
        repeat refine IW.seq ?_
        refine IW.block ?_
        repeat refine IW.seq ?_
        refine IW.region_seq tab_ok [some 14, some 15, some 16, some 17, some 18] rfl fun X K hX hK => ?_
        simp only [go_sem]
        refine hX.op _ _ rfl (opS_callW (caps := []) [0] (by simp) (by simp [go_sem]) (by simp) (by simp [go_sem, prs_reWrow]) (by simp [go_sem, reW]) hc1) ?_
        simp only [go_sem]
        simp only [updR, List.set_cons_zero, Option.map_some, prs_renrow]
        refine hK _ _ ?_; clear hX hK X K
        show IW _ _ _ _ _ _ _ _
        repeat refine IW.seq ?_
        refine IW.region_seq tab_ok [some 19, some 7] rfl fun X K hX hK => ?_
        simp only [go_sem]
        refine hK _ _ ?_; clear hX hK X K
        show IW _ _ _ _ _ _ _ _
        have e1 : IntKind.i64.wrap (20 + 20) = 40 := by decide
        repeat refine IW.seq ?_
        refine IW.region_seq tab_ok [some 20, some 21, some 22, some 8] rfl fun X K hX hK => ?_
        simp only [go_sem, e1]
        refine hK _ _ ⟨true, by decide, ?_⟩
        refine Ent.cut ?_ ?_ (fun id ri e => Nat.lt_of_lt_of_le (hr id ri e) (by simp)) <;> simp only [go_sem, cond_true]
      · simp only [decide_eq_false_iff_not] at hb1; omega
    | true =>
      simp only [cond_true]
      repeat refine IW.seq ?_
      refine IW.region_seq tab_ok [some 11, some 12, some 13] rfl fun X K hX hK => ?_
      simp only [go_sem]
      refine hK _ _ ?_; clear hX hK X K
      show IW _ _ _ _ _ _ _ _
      repeat refine IW.seq ?_
      refine IW.cond rfl (fun hb1 => ?_) (fun hb1 => ?_)
      · simp only [decide_eq_true_eq] at hb1; omega
      · refine IW.exit ?_
        show IW _ _ _ _ _ _ _ _
        repeat refine IW.seq ?_
        refine IW.region_seq tab_ok [some 23, some 24, some 25, some 26, some 27] rfl fun X K hX hK => ?_
        simp only [go_sem]
        refine hX.op _ _ rfl (opS_callW (caps := []) [0] (by simp) (by simp [go_sem]) (by simp) (by simp [go_sem, prs_reWrow]) (by simp [go_sem, reW]) hc2) ?_
        simp only [go_sem]
        simp only [updR, List.set_cons_zero, Option.map_some, prs_renrow]
        refine hK _ _ ?_; clear hX hK X K
        show IW _ _ _ _ _ _ _ _
        repeat refine IW.seq ?_
        refine IW.block ?_
        refine IW.loop (α := Bool) (fun c => [(0, .ref 0 0 n), (1, .int .i64 n), (2, .clo 60 []), (6, .int .i64 (bif c then 40 else 20))]) (fun c => [some ⟨2, 70, prs (bif c then optS l else optS l1 ++ optS l2)⟩]) (fun c => bif c then 0 else 1) false ?_ fun c => ?_
        · refine Ent.cut ?_ ?_ (fun id ri e => Nat.lt_of_lt_of_le (hr id ri e) (by simp)) <;> simp only [go_sem, cond_false]
        · cases c with
          | false =>
            simp only [cond_false]
            repeat refine IW.seq ?_
            refine IW.region_seq tab_ok [some 28, some 29, some 30] rfl fun X K hX hK => ?_
            simp only [go_sem]
            refine hK _ _ ?_; clear hX hK X K
            show IW _ _ _ _ _ _ _ _
            repeat refine IW.seq ?_
            refine IW.cond rfl (fun hb2 => ?_) (fun hb2 => ?_)
            · refine IW.skip ?_
              show IW _ _ _ _ _ _ _ _
              repeat refine IW.seq ?_
              refine IW.block ?_
              have e2 : IntKind.i64.wrap (2 * 20) = 40 := by decide
              repeat refine IW.seq ?_
              refine IW.region_seq tab_ok [some 31, some 32, some 7, some 8] rfl fun X K hX hK => ?_
              simp only [go_sem, e2]
              refine hK _ _ ?_; clear hX hK X K
              show IW _ _ _ _ _ _ _ _
              repeat refine IW.seq ?_
              refine IW.block ?_
              refine IW.loop (α := Unit) (fun _ => [(0, .ref 0 0 n), (1, .int .i64 n), (2, .clo 60 []), (6, .int .i64 20), (7, .int .i64 0), (8, .int .i64 40)]) (fun _ => [some ⟨2, 70, prs (optS l1 ++ optS l2)⟩]) (fun _ => 0) () ?_ fun _ => ?_
              · refine Ent.cut ?_ ?_ (fun id ri e => Nat.lt_of_lt_of_le (hr id ri e) (by simp)) <;> simp only [go_sem]
              · repeat refine IW.seq ?_
                refine IW.region_seq tab_ok [some 33, some 34, some 35] rfl fun X K hX hK => ?_
                simp only [go_sem]
                refine hK _ _ ?_; clear hX hK X K
                show IW _ _ _ _ _ _ _ _
                repeat refine IW.seq ?_
                refine IW.cond rfl (fun hb3 => ?_) (fun hb3 => ?_)
                · simp only [decide_eq_true_eq] at hb3; omega
                · refine IW.exit ?_
                  show IW _ _ _ _ _ _ _ _
                  have e3 : IntKind.i64.wrap (0 + 20) = 20 := by decide
                  repeat refine IW.seq ?_
                  refine IW.region_seq tab_ok [some 49, some 50, some 51, some 9] rfl fun X K hX hK => ?_
                  simp only [go_sem, e3]
                  refine hK _ _ ?_; clear hX hK X K
                  show IW _ _ _ _ _ _ _ _
                  repeat refine IW.seq ?_
                  refine IW.region_seq tab_ok [some 52, some 53, some 54] rfl fun X K hX hK => ?_
                  simp only [go_sem]
                  refine hK _ _ ?_; clear hX hK X K
                  show IW _ _ _ _ _ _ _ _
                  repeat refine IW.seq ?_
                  refine IW.cond rfl (fun hb4 => ?_) (fun hb4 => ?_)
                  · repeat refine IW.seq ?_
                    refine IW.region_seq tab_ok [some 55, some 56, some 57, some 58, some 59, some 60] rfl fun X K hX hK => ?_
                    simp only [go_sem]
                    refine hX.op _ _ rfl (opS_callW (caps := []) [0] (by simp) (by simp [go_sem]) (by simp) (by simp [go_sem, prs_reWrow]) (by simp [go_sem, reW]) hc3) ?_
                    simp only [go_sem]
                    simp only [updR, List.set_cons_zero, Option.map_some, prs_renrow]
                    refine hK _ _ ?_; clear hX hK X K
                    show IW _ _ _ _ _ _ _ _
                    have e4 : IntKind.i64.wrap (20 * 2) = 40 := by decide
                    repeat refine IW.seq ?_
                    refine IW.region_seq tab_ok [some 61, some 62, some 6] rfl fun X K hX hK => ?_
                    simp only [go_sem, e4]
                    refine hK _ _ ⟨true, by decide, ?_⟩
                    refine Ent.cut ?_ ?_ (fun id ri e => Nat.lt_of_lt_of_le (hr id ri e) (by simp)) <;> simp only [go_sem, cond_true]
                  · simp only [decide_eq_false_iff_not] at hb4; omega
            · simp only [decide_eq_false_iff_not] at hb2; omega
          | true =>
            simp only [cond_true]
            repeat refine IW.seq ?_
            refine IW.region_seq tab_ok [some 28, some 29, some 30] rfl fun X K hX hK => ?_
            simp only [go_sem]
            refine hK _ _ ?_; clear hX hK X K
            show IW _ _ _ _ _ _ _ _
            repeat refine IW.seq ?_
            refine IW.cond rfl (fun hb2 => ?_) (fun hb2 => ?_)
            · simp only [decide_eq_true_eq] at hb2; omega
            · refine IW.exit ?_
              exact ⟨trivial, rfl, by simp [go_sem, heapNold, prs_nold], by simp, [0], rfl, by simp, rfl, rfl, by simp [go_sem, subH, prs_renrow], trivial⟩
theorem fSortStable2 (l : List (Int × Int)) (hv : l.Pairwise (fun p q => p.1 < q.1)) (hm : ∀ p ∈ l, M9 p.2) (hn : 20 < l.length ∧ l.length < 40) :
    WSpec Try.prog 59 [.ref 0 0 l.length, .clo 60 []] [⟨2, 70, prs l⟩] (.tup []) [some ⟨2, 70, prs (optS l)⟩] := by
  refine WSpec.intro tab_ok Try.func59 rfl rfl rfl (by kernel_rfl) (by simp) (by simp) fun O w0 hr => ?_
  simp only [argTM, Nat.zero_add, Nat.reduceAdd, List.map_cons, List.map_nil]
  repeat refine IW.seq ?_
  refine IW.region_seq tab_ok [some 4, some 5, some 6, some 7, some 8] rfl fun X K hX hK => ?_
  simp only [go_sem]
  refine hX.op _ _ rfl (opS_callW (caps := []) [0] (by simp) (by simp [go_sem]) (by simp) (by simp [go_sem, prs_reWrow]) (by simp [go_sem, reW]) (fStable2 l hv hm hn)) ?_
  simp only [go_sem]
  simp only [updR, List.set_cons_zero, Option.map_some, prs_renrow]
  refine hK _ _ ?_
  exact ⟨trivial, rfl, by simp [go_sem, heapNold, prs_nold], by simp, [0], rfl, by simp, rfl, rfl, by simp [go_sem, subH, prs_renrow], trivial⟩
theorem fSortAny (l : List (Int × Int)) (hv : l.Pairwise (fun p q => p.1 < q.1)) (hm : ∀ p ∈ l, M9 p.2) (hn : l.length < 20 ∨ (20 < l.length ∧ l.length < 40)) :
    WSpec Try.prog 59 [.ref 0 0 l.length, .clo 60 []] [⟨2, 70, prs l⟩] (.tup []) [some ⟨2, 70, prs (optS l)⟩] := by
  rcases hn with hn | hn
  · exact fSortStable l hv hm hn
  · exact fSortStable2 l hv hm hn
end Go.Proofs.Ytnbpbehlemaeoaa

set_option linter.unusedVariables false
set_option linter.unusedSimpArgs false
set_option maxRecDepth 10000
namespace Go.Proofs.Ytnbpbehlemaeoaa
open Go.IL
set_option maxHeartbeats 2000000 in
theorem fOptionsA {s : Int} {w h : Nat} {d : List (Int × List ByteArray)} (S : SetD s w h d) (hn19 : d.length ≠ 19) (b : Bool) (l : List Int) (W H : Int) (p : List Int) (hl : p.length ≤ 1000000) (hll : l.length ≤ 1000000) :
    FSpec Try.prog 28 [ink W H p, .int .i64 s, .sl true (nums .i64 l), .bool b] (lsV 0 (optF w h d b l W H p).length) [⟨2, 70, prs (optF w h d b l W H p)⟩] := by
  obtain ⟨fn, hfn⟩ : ∃ fn : Nat, fn = if b then 36 else 31 := ⟨_, rfl⟩
  have hok := S.ok
  have h0 := S.h0
  have hb1 : h ≤ 640 := by have := S.hb; omega
  have hb2 : w ≤ 640 := by have := S.wb; omega
  have hne := S.ne
  have hn := S.le
  have hks := S.keys
  have hkp : ∀ k ∈ keysD d, 0 < k ∧ k ≤ 1000000 := fun k hk => by have := S.kb k hk; omega
  have hsize := S.fSize
  have hvals := S.fVals
  have hsh : (!rightS W H p || (w : Int) == 0 || W != w || H != h) = !decide (rightS W H p = true ∧ w ≠ 0 ∧ W = w ∧ H = h) := by
    cases rightS W H p <;> by_cases c1 : w = 0 <;> by_cases c2 : W = w <;> by_cases c3 : H = h <;> simp [c1, c2, c3]
  by_cases hc : rightS W H p = true ∧ w ≠ 0 ∧ W = w ∧ H = h
  case neg =>
    have e1 : optF w h d b l W H p = [] := by simp only [optF, hc, if_false]
    rw [e1]
    refine FSpec.ghost (r := ⟨2, 70, prs []⟩) (sv := .nils) ?_ fun F w v h => rel_ls_nil h
    refine FSpec.intro tab_ok Try.func28 rfl rfl rfl (by kernel_rfl) (by simp) fun w0 => ?_
    simp only [argTM, Nat.zero_add, Nat.reduceAdd]
    simp only [ink]
    repeat refine IW.seq ?_
    refine IW.region_seq tab_ok [some 4, some 8] rfl fun X K hX hK => ?_
    simp only [go_sem]
    refine hK _ _ ?_; clear hX hK X K
    show IW _ _ _ _ _ _ _ _
    repeat refine IW.seq ?_
    refine IW.region_seq tab_ok [some 18, some 19, some 17, some 20, some 21, some 9, some 10] rfl fun X K hX hK => ?_
    simp only [go_sem]
    refine hX.quiet _ _ (OpG.of_B rfl (opB_call rfl rfl (FSpec.nz (hsize) (by simp [go_sem, List.map_cons, List.map_nil, List.append_nil, opnd, unc])))) ?_
    simp only [go_sem]
    refine hK _ _ ?_; clear hX hK X K
    show IW _ _ _ _ _ _ _ _
    repeat refine IW.seq ?_
    refine IW.region_seq tab_ok [some 22, some 23, some 24, some 25, some 26, some 27, some 28, some 29, some 30, some 31, some 32, some 33, some 34, some 35, some 36, some 37, some 38, some 39, some 40] rfl fun X K hX hK => ?_
    simp only [go_sem]
    refine hX.quiet _ _ (OpG.of_B rfl (opB_call rfl rfl (FSpec.nz (fRight W H p hl) (by simp [go_sem, List.map_cons, List.map_nil, List.append_nil, opnd, unc])))) ?_
    simp only [go_sem]
    simp only [hsh, hc, decide_false, Bool.not_false]
    refine hK _ _ ?_; clear hX hK X K
    show IW _ _ _ _ _ _ _ _
    repeat refine IW.seq ?_
    refine IW.cond rfl (fun hb => ?_) (fun hb => ?_)
    · repeat refine IW.seq ?_
      refine IW.region_seq tab_ok [some 8] rfl fun X K hX hK => ?_
      simp only [go_sem]
      refine hK _ _ ?_; clear hX hK X K
      show IW _ _ _ _ _ _ _ _
      refine IW.ret (Fin.scal rfl rfl ?_)
      rfl
    · simp at hb
  case pos =>
    obtain ⟨hr, hw0, rfl, rfl⟩ := hc
    have hwh : w * h ≤ 640 * 640 := Nat.mul_le_mul hb2 hb1
    have hkl : (keysD d).length = d.length := by simp [keysD]
    have hblank := res_img (fBlank w h (by omega) (by omega) (by omega))
    simp only [imgW, imgH, imgP] at hblank
    have e1 : optF w h d b l w h p = optS (optL w h d b l w h p d.length) := by simp only [optF, hr, hw0, ne_eq, not_false_eq_true, and_self, if_true]
    rw [e1]
    refine FSpec.intro tab_ok Try.func28 rfl rfl rfl (by kernel_rfl) (by simp) fun w0 => ?_
    simp only [argTM, Nat.zero_add, Nat.reduceAdd]
    simp only [ink]
    repeat refine IW.seq ?_
    refine IW.region_seq tab_ok [some 4, some 8] rfl fun X K hX hK => ?_
    simp only [go_sem]
    refine hK _ _ ?_; clear hX hK X K
    show IW _ _ _ _ _ _ _ _
    repeat refine IW.seq ?_
    refine IW.region_seq tab_ok [some 18, some 19, some 17, some 20, some 21, some 9, some 10] rfl fun X K hX hK => ?_
    simp only [go_sem]
    refine hX.quiet _ _ (OpG.of_B rfl (opB_call rfl rfl (FSpec.nz (hsize) (by simp [go_sem, List.map_cons, List.map_nil, List.append_nil, opnd, unc])))) ?_
    simp only [go_sem]
    refine hK _ _ ?_; clear hX hK X K
    show IW _ _ _ _ _ _ _ _
    repeat refine IW.seq ?_
    refine IW.region_seq tab_ok [some 22, some 23, some 24, some 25, some 26, some 27, some 28, some 29, some 30, some 31, some 32, some 33, some 34, some 35, some 36, some 37, some 38, some 39, some 40] rfl fun X K hX hK => ?_
    simp only [go_sem]
    refine hX.quiet _ _ (OpG.of_B rfl (opB_call rfl rfl (FSpec.nz (fRight w h p hl) (by simp [go_sem, List.map_cons, List.map_nil, List.append_nil, opnd, unc])))) ?_
    simp only [go_sem]
    simp only [hsh]
    refine hK _ _ ?_; clear hX hK X K
    show IW _ _ _ _ _ _ _ _
    repeat refine IW.seq ?_
    refine IW.cond rfl (fun hb => ?_) (fun hb => ?_)
    · simp [hr, hw0] at hb
    · refine IW.skip ?_
      show IW _ _ _ _ _ _ _ _
      repeat refine IW.seq ?_
      refine IW.region_draw tab_ok mixed [some 41, some 42, some 43, some 44, some 45, some 46, some 47, some 11] 7 (by kernel_rfl) rfl fun Xq Xs K hXq hXs hK K1 hK1 => ?_
      simp only [go_sem]
      refine hXq.quiet _ _ (OpG.of_B rfl (opB_call rfl rfl (FSpec.nz (hblank) (by simp [go_sem, List.map_cons, List.map_nil, List.append_nil, opnd, unc, resI, resR])))) ?_
      simp only [go_sem, resI, resR]
      refine hXq.quiet _ _ (OpG.of_B rfl (opB_call rfl rfl (FSpec.nz (fMiss w h p w h (List.replicate (w * h) 0) hl (by rw [List.length_replicate]; omega)) (by simp [go_sem, List.map_cons, List.map_nil, List.append_nil, opnd, unc])))) ?_
      simp only [go_sem]
      refine hXq.quiet _ _ (OpG.of_B rfl (opB_buildSlice tab_ok rfl (by simp [go_sem]) (by simp [go_sem]) (by simp) (by simp [go_sem, bsO, List.map_cons, List.map_nil]))) ?_
      simp only [go_sem, List.map_cons, List.map_nil]
      refine hK1 _ _ ?_; clear hXq hK1 K1 Xq
      simp only [List.drop_zero, List.drop_succ_cons, go_sem]
      refine hK _ _ ?_; clear hXs hK K Xs
      show IW _ _ _ _ _ _ _ _
      repeat refine IW.seq ?_
      refine IW.region_seq tab_ok [some 12] rfl fun X K hX hK => ?_
      simp only [go_sem]
      refine hK _ _ ?_; clear hX hK X K
      show IW _ _ _ _ _ _ _ _
      repeat refine IW.seq ?_
      refine IW.region_seq tab_ok [some 48] rfl fun X K hX hK => ?_
      simp only [go_sem]
      refine hK _ _ ?_; clear hX hK X K
      show IW _ _ _ _ _ _ _ _
      have hls : ∀ id, lsV id (keysD d).length = .ref id 0 d.length := fun id => by rw [hkl]; exact lsV_ne hne
      repeat refine IW.seq ?_
      refine IW.cond rfl (fun hbb => ?_) (fun hbb => ?_)
      repeat refine IW.seq ?_
      refine IW.region_seq tab_ok [some 12] rfl fun X K hX hK => ?_
      simp only [go_sem]
      refine hK _ _ ?_; clear hX hK X K
      show IW _ _ _ _ _ _ _ _
      have hfn2 : fn = 36 := by rw [hfn, hbb]; rfl
      rotate_left
      refine IW.skip ?_
      show IW _ _ _ _ _ _ _ _
      have hfn2 : fn = 31 := by rw [hfn, hbb]; rfl
      all_goals
        repeat refine IW.seq ?_
        refine IW.region_seq tab_ok [some 49, some 50, some 51, some 52] rfl fun X K hX hK => ?_
        simp only [go_sem]
        refine hX.quiet _ _ (OpG.of_B rfl (opB_call rfl rfl (FSpec.nz (hvals) (by simp [go_sem, List.map_cons, List.map_nil, List.append_nil, opnd, unc, hls])))) ?_
        simp only [go_sem, hls]
        refine hK _ _ ?_; clear hX hK X K
        show IW _ _ _ _ _ _ _ _
        repeat refine IW.seq ?_
        refine IW.block ?_
        refine IW.loop (α := {k : Nat // k ≤ d.length}) (fun k => [(1, .int .i64 s), (2, .sl true (nums .i64 l)), (4, .ptr 0 0 0), (11, .ref 2 0 (k.1 + 1)), (12, .clo fn []), (50, .ref 1 0 d.length), (51, .int .i64 d.length), (52, .int .i64 k.1)]) (fun k => [some ⟨3, 33, [[.int .i64 w, .int .i64 h, .sl true (nums .u8 p)]]⟩, some ⟨1, 3, nums .i64 (keysD d)⟩, some ⟨2, 70, prs (optL w h d b l w h p k.1)⟩]) (fun k => d.length - k.1) ⟨0, Nat.zero_le _⟩ ?_ fun ⟨k, hk⟩ => ?_
        · have e2 : prs (optL w h d b l w h p 0) = [[.int .i64 0, .int .i64 (missS w h p w h (List.replicate (w * h) 0))]] := by simp [optL, prs]
          refine Ent.ren [0, 3, 2] rfl (by decide) ?_ ?_ (fun id ri e => by cases e) <;> simp [go_sem, subT, subH, sg, SV.ren, Row.ren, e2, hfn2, prs_ren, nums_ren]
        · simp only []
          repeat refine IW.seq ?_
          refine IW.region_seq tab_ok [some 53] rfl fun X K hX hK => ?_
          simp only [go_sem]
          refine hK _ _ ?_; clear hX hK X K
          show IW _ _ _ _ _ _ _ _
          repeat refine IW.seq ?_
          refine IW.cond rfl (fun hb3 => ?_) (fun hb3 => ?_)
          · simp only [decide_eq_true_eq] at hb3
            have hkd : k < d.length := by omega
            have hkk : k < (keysD d).length := by omega
            refine IW.skip ?_
            show IW _ _ _ _ _ _ _ _
            refine IW.seq (IW.block ?_)
            repeat refine IW.seq ?_
            refine IW.region_seq tab_ok [some 54, some 55, some 14] rfl fun X K hX hK => ?_
            simp only [go_sem, nums_at hkk]
            refine ⟨⟨by omega, by omega⟩, by omega, ?_⟩
            refine hK _ _ ?_; clear hX hK X K
            show IW _ _ _ _ _ _ _ _
            have hv := hkp ((keysD d).getD k 0) (by simp [hkk])
            generalize hvv : (keysD d).getD k 0 = v at *
            repeat refine IW.seq ?_
            refine IW.region_seq tab_ok [some 57, some 58, some 59, some 56, some 60, some 61, some 15, none, some 16] rfl fun X K hX hK => ?_
            simp only [go_sem]
            refine hX.quiet _ _ (OpG.of_B rfl (opB_call rfl rfl (FSpec.nz (S.fGly v) (by simp [go_sem, List.map_cons, List.map_nil, List.append_nil, opnd, unc, resI, resR])))) ?_
            simp only [go_sem, resI, resR]
            refine hX.op _ _ rfl (opS_store tab_ok rfl (by simp [go_sem]) (by simp [go_sem]) (by simp [go_sem]) (by simp [go_sem]) (by simp [go_sem]) (by simp [go_sem])) ?_
            simp only [go_sem]
            refine hK _ _ ?_; clear hX hK X K
            show IW _ _ _ _ _ _ _ _
            have hgl := gP_length hok h0 v
            have hsl := styF_length b (gW d w v) (gW d h v) (gP d v) l
            have hsl2 : (styF b (gW d w v) (gW d h v) (gP d v) l).length ≤ 1000000 := by rw [hsl]; split <;> omega
            have hs2 := fSty b (gW d w v) (gW d h v) (gP d v) l (by omega) hll
            rw [← hfn] at hs2
            have hom : optM w h d b l w h p v = missS w h p (riW (gW d w v) (gW d h v) (gP d v) (gW d w v)) (riW (gW d w v) (gW d h v) (gP d v) (gW d h v)) (styF b (gW d w v) (gW d h v) (gP d v) l) := rfl
            clear hsl
            generalize riW (gW d w v) (gW d h v) (gP d v) (gW d w v) = W1 at hs2 hom
            generalize riW (gW d w v) (gW d h v) (gP d v) (gW d h v) = H1 at hs2 hom
            generalize styF b (gW d w v) (gW d h v) (gP d v) l = q1 at hs2 hom hsl2
            have hol : (optL w h d b l w h p k).length = k + 1 := by simp [optL, hkl]; omega
            repeat refine IW.seq ?_
            refine IW.region_draw tab_ok mixed [some 62, some 63, some 64, some 65, some 66, some 67, some 68, some 69, some 70, some 71, some 72, some 11] 10 (by kernel_rfl) rfl fun Xq Xs K hXq hXs hK K1 hK1 => ?_
            simp only [go_sem]
            refine hXq.quiet _ _ (OpG.of_B rfl (opB_call rfl rfl (FSpec.nz (hs2) (by simp [go_sem, List.map_cons, List.map_nil, List.append_nil, opnd, unc, resI, resR])))) ?_
            simp only [go_sem, resI, resR]
            refine hXq.quiet _ _ (OpG.of_B rfl (opB_call rfl rfl (FSpec.nz (fMiss w h p W1 H1 q1 hl hsl2) (by simp [go_sem, List.map_cons, List.map_nil, List.append_nil, opnd, unc])))) ?_
            simp only [go_sem]
            refine hXq.quiet _ _ (OpG.of_B rfl (opB_buildSlice tab_ok rfl (by simp [go_sem]) (by simp [go_sem]) (by simp) (by simp [go_sem, bsO, List.map_cons, List.map_nil]))) ?_
            simp only [go_sem, List.map_cons, List.map_nil]
            refine hK1 _ _ ?_; clear hXq hK1 K1 Xq
            simp only [List.drop_zero, List.drop_succ_cons, go_sem]
            refine hXs.op _ _ rfl (opS_append tab_ok (ys := [[.int .i64 v, .int .i64 (missS w h p W1 H1 q1)]]) rfl (by simp [go_sem, prs_length, hol]) rfl (by simp [go_sem, prs_length, hol]; try omega) rfl (by simp [go_sem]) (by simp [go_sem]) (by simp [go_sem, prs_length, hol]) rfl rfl rfl (by first | exact nums_w _ _ | exact prs_w _ | simp [go_sem, nums]) (by simp [go_sem]) (by simp [go_sem]; omega) (by simp [go_sem]; omega) (by intro d e; cases e; decide)) ?_
            simp only [go_sem, List.length_cons, List.length_nil, prs_length, hol]
            refine hK _ _ ?_; clear hXs hK K Xs
            show IW _ _ _ _ _ _ _ _
            repeat refine IW.seq ?_
            refine IW.region_seq tab_ok [some 73, some 52] rfl fun X K hX hK => ?_
            simp only [go_sem, succ_wrap hkd (by omega)]
            have hnx : (prs (optL w h d b l w h p k)).take (k + 1) ++ [[.int .i64 v, .int .i64 (missS w h p W1 H1 q1)]] = prs (optL w h d b l w h p (k + 1)) := by
              rw [List.take_of_length_le (by rw [prs_length, hol]; exact Nat.le_refl _)]
              have htk : (keysD d).take (k + 1) = (keysD d).take k ++ [v] := by rw [List.take_add_one, ← hvv]; simp [hkk]
              simp only [optL, htk, List.map_append, prs, List.map_cons, List.map_nil, hom, List.cons_append]
            refine hK _ _ ⟨⟨k + 1, hkd⟩, by simp only []; omega, ?_⟩
            refine Ent.ren [0, 1, 7] rfl (by decide) ?_ ?_ (fun id ri e => by cases e) <;> simp [go_sem, subT, subH, sg, SV.ren, Row.ren, hnx, prs_ren, nums_ren]
          · refine IW.exit ?_
            show IW _ _ _ _ _ _ _ _
            simp only [decide_eq_false_iff_not] at hb3
            obtain rfl : k = d.length := by omega
            have hol : (optL w h d b l w h p d.length).length = d.length + 1 := by simp [optL, hkl]
            have hsrt := fSortAny (optL w h d b l w h p d.length) (optL_lt hks (fun k hk => (hkp k hk).1)) (optL_m9 hl) (by omega)
            rw [hol] at hsrt
            repeat refine IW.seq ?_
            refine IW.region_seq tab_ok [some 74, some 75] rfl fun X K hX hK => ?_
            simp only [go_sem]
            refine hX.op _ _ rfl (opS_callW (caps := []) [2] (by simp) (by simp [go_sem]) (by simp) (by simp [go_sem, prs_reWrow]) (by simp [go_sem, reW]) hsrt) ?_
            simp only [go_sem]
            simp only [updR, List.set_cons_zero, List.set_cons_succ, Option.map_some, prs_renrow]
            refine hK _ _ ?_; clear hX hK X K
            show IW _ _ _ _ _ _ _ _
            repeat refine IW.seq ?_
            refine IW.region_seq tab_ok [some 76, some 8] rfl fun X K hX hK => ?_
            simp only [go_sem]
            refine hK _ _ ?_; clear hX hK X K
            show IW _ _ _ _ _ _ _ _
            have hfl : (optS (optL w h d b l w h p d.length)).length = d.length + 1 := by rw [← hol]; exact List.length_mergeSort _
            rw [hfl]
            refine IW.ret (Fin.tmp1 2 (by simp [go_sem, prs_nold]) (by simp [go_sem, prs_nold]) (by simp [go_sem, lsV]) (by simp [go_sem, prs_ren]))
end Go.Proofs.Ytnbpbehlemaeoaa

set_option linter.unusedVariables false
set_option linter.unusedSimpArgs false
set_option maxRecDepth 10000
namespace Go.Proofs.Ytnbpbehlemaeoaa
open Go.IL
theorem Ent.nil {O : Nat → Prop} {w0 : Ctx} {N : Nat} {tm : TM} {h : Heap} {t : Nat} (ht : tm.get t = .nils) : Ent O w0 N tm h ((t, .sl false []) :: tm) h := by
  intro ρ F a w hst
  refine ⟨ρ, F, hst.sat, hst.defers, hst.size, fun u => ?_, hst.keep, hst.free, hst.rno, hst.fno, hst.ext0⟩
  simp only [TM.get]
  by_cases c : t = u
  · rw [if_pos c, ← c]
    have hv := hst.rel t
    rw [ht] at hv
    generalize a.tmps.getD t undef = v at hv
    cases hv
    exact .sl false [] none 0 0 (fun _ _ => undef) (fun x hx => by simp at hx) (Nat.le_refl _) (by omega) (fun hp => absurd hp (by simp)) fun i j x y e1 => by simp at e1
  · rw [if_neg c]; exact hst.rel u
/-- A list of options that has been appended to: row 0. -/
def apO (l : List (Int × Int)) : SV := match l with | [] => .nils | _ :: _ => .ref 0 0 l.length
def wpO (l : List (Int × Int)) : Option Row := match l with | [] => none | _ :: _ => some ⟨2, 70, prs l⟩
section
variable {O : Nat → Prop} {w0 : Ctx} {N : Nat} {ops : Array Oper} {D : List (Option Nat)} {X : XT}
theorem pushO {dst : Option Nat} {x y : Operand} {ty : TypeId} {pos : String} {after : Array Edge} {r : List Oper} {tm : TM} {l : List (Int × Int)} {c : Int × Int} {K : TM → Heap → Prop} (hX : XS Try.prog O w0 N tab ops D X) (hx : opnd tm x = apO l) (hy : opnd tm y = .ref 1 0 1) (hl : l.length ≤ 1000000) (hd : ∀ d, dst = some d → d < N)
    (he : E tab D X r (tm.put dst (.ref 2 0 (l.length + 1))) [none, some ⟨2, 70, [[.int .i64 c.1, .int .i64 c.2]]⟩, some ⟨2, 70, prs (l ++ [c])⟩] K) :
    X ⟨dst, .call ⟨.builtin .append, #[x, y], #[47, 47]⟩, ty, pos, after, none⟩ r tm [wpO l, some ⟨2, 70, [[.int .i64 c.1, .int .i64 c.2]]⟩] K := by
  have hys : srcO [wpO l, some ⟨2, 70, [[.int .i64 c.1, .int .i64 c.2]]⟩] (opnd tm y) = some [[.int .i64 c.1, .int .i64 c.2]] := by rw [hy]; rfl
  cases l with
  | nil =>
    refine hX.quiet _ _ (OpG.of_B rfl (opB_append_nil tab_ok (ys := [[.int .i64 c.1, .int .i64 c.2]]) (m := 1) hx hys rfl (by omega) rfl rfl (by decide) (by intro x hx; simp at hx; subst hx; rfl) rfl (by decide) (by decide))) ?_
    exact he
  | cons b l =>
    have hlen : (prs (b :: l)).length = (b :: l).length := prs_length _
    refine hX.op _ _ rfl (opS_append tab_ok (id := 0) (n := (b :: l).length) (m := 1) (ys := [[.int .i64 c.1, .int .i64 c.2]]) hx hys rfl (by omega) rfl rfl (by decide) (by show _ ≤ (prs (b :: l)).length; omega) rfl rfl rfl (by intro x hx; simp at hx; subst hx; rfl) rfl (by show ((b :: l).length + 1) * 16 ≤ _; omega) (by omega) hd) ?_
    have e1 : (prs (b :: l)).take (b :: l).length ++ [[SV.int .i64 c.1, SV.int .i64 c.2]] = prs (b :: l ++ [c]) := by
      rw [List.take_of_length_le (by omega)]; simp [prs]
    have e2 : rowXs [wpO (b :: l), some ⟨2, 70, [[SV.int .i64 c.1, SV.int .i64 c.2]]⟩] 0 = prs (b :: l) := rfl
    rw [e2, e1]
    exact he
end
theorem sorted_stop {s : List (Int × Int)} (hs : s.Pairwise lex) {x : Int × Int} (hx : ∀ y ∈ s, y.1 < x.1) {j : Nat} (hj : j ≤ s.length) (h1 : ∀ y ∈ s.take j, lex y x) (h2 : j = s.length ∨ ¬ lex (s.getD j (0, 0)) x) : (∀ y ∈ s.drop j, x.2 < y.2) ∧ ∀ y ∈ s.take j, y.2 ≤ x.2 := by
  refine ⟨fun y hy => ?_, fun y hy => ?_⟩
  · obtain ⟨i, i1, i2, rfl⟩ := mem_drop_at hy
    rcases h2 with h2 | h2
    · omega
    · have a1 := sorted_le hs (i := j) (j := i) i1 i2
      have a2 := hx (s.getD j (0, 0)) (by simp [show j < s.length by omega])
      unfold lex at h2; omega
  · have := h1 y hy
    unfold lex at this; omega
set_option maxHeartbeats 2000000 in
theorem refSorted (l : List (Int × Int)) (hv : l.Pairwise (fun p q => p.1 < q.1)) (hl : l.length ≤ 1000) : FSpec Try.prog 61 [.sl true (prs l)] (.sl false (prs (optS l))) [] := by
  have hvg : ∀ i j, i < j → j < l.length → (l.getD i (0, 0)).1 < (l.getD j (0, 0)).1 := fun i j hij hj => by
    have := List.pairwise_iff_getElem.1 hv i j (by omega) hj hij
    simpa [hj, show i < l.length by omega] using this
  have hlp : (prs l).length = l.length := prs_length l
  refine FSpec.intro tab_ok Try.func61 rfl rfl rfl (by kernel_rfl) (by simp) fun w0 => ?_
  simp only [argTM, Nat.zero_add, Nat.reduceAdd]
  repeat refine IW.seq ?_
  refine IW.region_seq tab_ok [some 2] rfl fun X K hX hK => ?_
  simp only [go_sem]
  refine hK _ _ ?_; clear hX hK X K
  show IW _ _ _ _ _ _ _ _
  repeat refine IW.seq ?_
  refine IW.region_seq tab_ok [some 3] rfl fun X K hX hK => ?_
  simp only [go_sem]
  refine hK _ _ ?_; clear hX hK X K
  show IW _ _ _ _ _ _ _ _
  repeat refine IW.seq ?_
  refine IW.region_seq tab_ok [some 4] rfl fun X K hX hK => ?_
  simp only [go_sem]
  refine hK _ _ ?_; clear hX hK X K
  show IW _ _ _ _ _ _ _ _
  refine IW.ent (tm' := [(0, .sl true (prs l)), (3, .sl false (prs (optS (l.take 0)))), (4, .int .i64 0)]) (h' := []) ?_ ?_
  · refine fun ρ F a w hst => ?_
    obtain ⟨ρ1, F1, h1⟩ := Ent.nil (t := 3) rfl ρ F a w hst
    have e0 : prs (optS (l.take 0)) = [] := by simp [optS, prs]
    rw [e0]
    refine (Ent.cut ?_ ?_) ρ1 F1 a w h1 <;> simp only [go_sem]
  repeat refine IW.seq ?_
  refine IW.block ?_
  refine IW.loop (α := {i : Nat // i ≤ l.length}) (fun i => [(0, .sl true (prs l)), (3, .sl false (prs (optS (l.take i.1)))), (4, .int .i64 i.1)]) (fun _ => []) (fun i => l.length - i.1) ⟨0, Nat.zero_le _⟩ ?_ fun ⟨i, hi⟩ => ?_
  · refine Ent.cut ?_ ?_ <;> simp only [go_sem]
  · simp only []
    repeat refine IW.seq ?_
    refine IW.region_seq tab_ok [some 7, some 8, some 9, some 10] rfl fun X K hX hK => ?_
    simp only [go_sem, hlp]
    refine hK _ _ ?_; clear hX hK X K
    show IW _ _ _ _ _ _ _ _
    repeat refine IW.seq ?_
    refine IW.cond rfl (fun hb1 => ?_) (fun hb1 => ?_)
    · simp only [decide_eq_true_eq] at hb1
      have hil : i < l.length := by omega
      have hne : (l.take i).Pairwise (· ≠ ·) := (hv.sublist (List.take_sublist _ _)).imp fun h e => by rw [e] at h; omega
      have hso := srt_opt' hne
      have hsl : (optS (l.take i)).length = i := by rw [opt_length, List.length_take]; omega
      have hxs : ∀ y ∈ optS (l.take i), y.1 < (l.getD i (0, 0)).1 := fun y hy => by
        obtain ⟨k, k1, k2, rfl⟩ := mem_take_at ((opt_perm _).mem_iff.1 hy)
        exact hvg k i k1 hil
      have htk : l.take (i + 1) = l.take i ++ [l.getD i (0, 0)] := by rw [List.take_add_one]; simp [hil]
      have hne1 : (l.take (i + 1)).Pairwise (· ≠ ·) := (hv.sublist (List.take_sublist _ _)).imp fun h e => by rw [e] at h; omega
      have hso1 := srt_opt' hne1
      have px := prs_at (l := l) (i := i) hil
      generalize l.getD i (0, 0) = x at *
      obtain ⟨s, hs⟩ : ∃ s, s = optS (l.take i) := ⟨_, rfl⟩
      rw [← hs] at hso hsl hxs ⊢
      have hps : (prs s).length = s.length := prs_length s
      refine IW.skip ?_
      show IW _ _ _ _ _ _ _ _
      repeat refine IW.seq ?_
      refine IW.block ?_
      repeat refine IW.seq ?_
      refine IW.region_seq tab_ok [some 5] rfl fun X K hX hK => ?_
      simp only [go_sem]
      refine hK _ _ ?_; clear hX hK X K
      show IW _ _ _ _ _ _ _ _
      repeat refine IW.seq ?_
      refine IW.joinI (α := {j : Nat // j ≤ s.length ∧ (∀ y ∈ s.take j, lex y x) ∧ (j = s.length ∨ ¬ lex (s.getD j (0, 0)) x)}) (fun j => [(0, .sl true (prs l)), (3, .sl false (prs s)), (4, .int .i64 i), (5, .int .i64 j.1)]) (fun _ => []) ?_ fun ⟨j, hj, hj1, hj2⟩ => ?_
      · refine IW.block ?_
        refine IW.loop (α := {j : Nat // j ≤ s.length ∧ ∀ y ∈ s.take j, lex y x}) (fun j => [(0, .sl true (prs l)), (3, .sl false (prs s)), (4, .int .i64 i), (5, .int .i64 j.1)]) (fun _ => []) (fun j => s.length - j.1) ⟨0, Nat.zero_le _, by simp⟩ ?_ fun ⟨j, hj, hj1⟩ => ?_
        · refine Ent.cut ?_ ?_ <;> simp only [go_sem]
        · simp only []
          by_cases c : j < s.length
          · have pj := prs_at (l := s) (i := j) c
            have hcj : decide ((j : Int) < (s.length : Int)) = true := by simp only [decide_eq_true_eq]; omega
            have htj : s.take (j + 1) = s.take j ++ [s.getD j (0, 0)] := by rw [List.take_add_one]; simp [c]
            generalize hyy : s.getD j (0, 0) = y at *
            repeat refine IW.seq ?_
            refine IW.region_draw tab_ok mixed [some 13, some 14, some 15, some 16, some 17, some 18, some 19, some 20, some 21, some 22, some 23, some 24, some 25, some 26, some 27, some 28, some 29, some 30, some 31, some 32, some 33, some 34, some 35, some 36, some 37, some 38, some 39, some 40, some 41, some 42, some 43, some 44, some 45, some 46, some 47, some 48, some 49, some 50, some 51, some 52, some 53, some 54, some 55] 43 (by kernel_rfl) rfl fun Xq Xs K hXq hXs hK K1 hK1 => ?_
            simp only [go_sem, hps, hcj, hlp, px, pj]
            refine ⟨⟨by omega, by omega⟩, ⟨by omega, by omega⟩, fun _ => ⟨by omega, by omega⟩, fun _ => ⟨by omega, by omega⟩, fun _ => ⟨by omega, by omega⟩, fun _ => ⟨by omega, by omega⟩, ?_⟩
            refine hK1 _ _ ?_; clear hXq hK1 K1 Xq
            simp only [List.drop_zero, List.drop_succ_cons, go_sem]
            refine hK _ _ ?_; clear hXs hK K Xs
            show IW _ _ _ _ _ _ _ _
            have hlex : (decide (y.2 < x.2) || y.2 == x.2 && decide (y.1 < x.1)) = true ↔ lex y x := by simp [lex]
            repeat refine IW.seq ?_
            refine IW.cond rfl (fun hb2 => ?_) (fun hb2 => ?_)
            · have hyx := hlex.1 hb2
              refine IW.skip ?_
              show IW _ _ _ _ _ _ _ _
              repeat refine IW.seq ?_
              refine IW.block ?_
              repeat refine IW.seq ?_
              refine IW.region_seq tab_ok [some 56, some 57, some 5] rfl fun X K hX hK => ?_
              simp only [go_sem, succ_wrap c (by omega)]
              refine hK _ _ ⟨⟨j + 1, c, fun z hz => ?_⟩, by simp only []; omega, ?_⟩
              · rw [htj] at hz
                rcases List.mem_append.1 hz with hz | hz
                · exact hj1 z hz
                · obtain rfl : z = y := by simpa using hz
                  exact hyx
              · refine Ent.cut ?_ ?_ <;> simp only [go_sem]
            · have hyx : ¬ lex y x := fun h => by rw [hlex.2 h] at hb2; cases hb2
              refine IW.exit ⟨⟨j, hj, hj1, .inr ?_⟩, ?_⟩
              · rw [hyy]; exact hyx
              · refine Ent.cut ?_ ?_ <;> simp only [go_sem]
          · have pj : (prs s).getD j [] = [] := by rw [List.getD_eq_getElem?_getD, List.getElem?_eq_none (by omega)]; rfl
            have hcj : decide ((j : Int) < (s.length : Int)) = false := by simp only [decide_eq_false_iff_not]; omega
            have n0 : ([] : List SV).getD 0 .any = .any := rfl
            have n1 : ([] : List SV).getD 1 .any = .any := rfl
            repeat refine IW.seq ?_
            refine IW.region_draw tab_ok mixed [some 13, some 14, some 15, some 16, some 17, some 18, some 19, some 20, some 21, some 22, some 23, some 24, some 25, some 26, some 27, some 28, some 29, some 30, some 31, some 32, some 33, some 34, some 35, some 36, some 37, some 38, some 39, some 40, some 41, some 42, some 43, some 44, some 45, some 46, some 47, some 48, some 49, some 50, some 51, some 52, some 53, some 54, some 55] 43 (by kernel_rfl) rfl fun Xq Xs K hXq hXs hK K1 hK1 => ?_
            simp only [go_sem, hps, hcj, hlp, px, pj, n0, n1]
            refine hK1 _ _ ?_; clear hXq hK1 K1 Xq
            simp only [List.drop_zero, List.drop_succ_cons, go_sem]
            refine hK _ _ ?_; clear hXs hK K Xs
            show IW _ _ _ _ _ _ _ _
            repeat refine IW.seq ?_
            refine IW.cond rfl (fun hb2 => ?_) (fun hb2 => ?_)
            · cases hb2
            · refine IW.exit ⟨⟨j, hj, hj1, .inl (by omega)⟩, ?_⟩
              refine Ent.cut ?_ ?_ <;> simp only [go_sem]
      · have hdj := sorted_stop hso.2 hxs hj hj1 hj2
        have hins := srt_insert hso hj hxs hdj.1 hdj.2
        have hres : optS (l.take (i + 1)) = s.take j ++ x :: s.drop j := srt_unique hso1 (htk ▸ hins)
        have htl : (s.take j).length = j := by simp; omega
        have hdl : (s.drop j).length = s.length - j := by simp
        have e1 : (prs s).take ((j : Int) - 0).toNat = prs (s.take j) := by simp [prs]
        have e2 : ((prs s).drop j).take ((s.length : Int) - (j : Int)).toNat = prs (s.drop j) := by
          rw [List.take_of_length_le (by simp [prs_length])]; simp [prs]
        simp only []
        clear hins hdj hj1 hj2
        generalize s.take j = T at *
        generalize s.drop j = V at *
        repeat refine IW.seq ?_
        refine IW.region_seq tab_ok [some 6] rfl fun X K hX hK => ?_
        simp only [go_sem]
        refine hK _ _ ?_; clear hX hK X K
        show IW _ _ _ _ _ _ _ _
        repeat refine IW.seq ?_
        refine IW.joinI (α := Unit) (fun _ => [(6, apO T), (0, .sl true (prs l)), (3, .sl false (prs s)), (4, .int .i64 i), (5, .int .i64 j)]) (fun _ => [wpO T]) ?_ fun _ => ?_
        · repeat refine IW.seq ?_
          refine IW.region_seq tab_ok [some 58, some 59, some 60, some 61, some 62, some 6] rfl fun X K hX hK => ?_
          simp only [go_sem, hps, e1]
          refine ⟨⟨by omega, by omega, by omega, prs_w _⟩, ?_⟩
          cases T with
          | nil =>
            refine hX.quiet _ _ (OpG.of_B rfl (opB_append_0 tab_ok (o := false) (by simp [go_sem, slLike]) (by simp [go_sem, prs]) rfl (by simp [go_sem]))) ?_
            simp only [go_sem]
            refine hK _ _ ⟨(), ?_⟩
            refine Ent.ren [0] rfl (by decide) ?_ ?_ (fun id ri e => by cases e) <;> simp [go_sem, subT, subH, sg, SV.ren, Row.ren, apO, wpO, prs_ren]
          | cons b r =>
            have hbr : (b :: r).length ≤ 1000 := by omega
            refine hX.quiet _ _ (OpG.of_B rfl (opB_append_nil tab_ok (ys := prs (b :: r)) (m := (b :: r).length) (by simp [go_sem]) (by simp [go_sem, srcO]) (prs_length _) (by simp) rfl (by simp [go_sem]) (by decide) (prs_w _) (prs_scal _) (by show (b :: r).length * 16 ≤ _; omega) (by omega))) ?_
            simp only [go_sem]
            refine hK _ _ ⟨(), ?_⟩
            refine Ent.ren [0] rfl (by decide) ?_ ?_ (fun id ri e => by cases e) <;> simp [go_sem, subT, subH, sg, SV.ren, Row.ren, apO, wpO, prs_ren]
        · repeat refine IW.seq ?_
          refine IW.region_seq tab_ok [some 63, some 64, some 65, some 66, some 67, some 68, some 69, some 6] rfl fun X K hX hK => ?_
          simp only [go_sem, px, hlp]
          refine ⟨⟨by omega, by omega⟩, ?_⟩
          refine hX.quiet _ _ (OpG.of_B rfl (opB_buildSlice tab_ok rfl (by simp [go_sem]) (by simp [go_sem]) (by simp) (by simp [go_sem, bsO, List.map_cons, List.map_nil]))) ?_
          simp only [go_sem, List.map_cons, List.map_nil]
          refine pushO (c := x) (l := T) hX (by simp [go_sem]) (by simp [go_sem]) (by omega) (by intro d e; cases e; decide) ?_
          simp only [go_sem]
          refine hK _ _ ?_; clear hX hK X K
          show IW _ _ _ _ _ _ _ _
          repeat refine IW.seq ?_
          refine IW.region_seq tab_ok [some 70, some 71, some 72, some 73, some 74, some 3] rfl fun X K hX hK => ?_
          simp only [go_sem, hps, e2]
          refine ⟨⟨by omega, by omega, by omega, prs_w _⟩, ?_⟩
          have hfz : ∀ {tm : TM} {h : Heap} {id n : Nat} {row : Row}, tm.get 3 = .ref id 0 n → tm.get 0 = .sl true (prs l) → tm.get 4 = .int .i64 (i + 1 : Nat) → hrow h id = some row → n = row.xs.length → row.xs = prs (optS (l.take (i + 1))) → Ent (fun b => b < w0.heap.size) { w := w0 } Try.f61.ntmps tm h [(0, .sl true (prs l)), (3, .sl false (prs (optS (l.take (i + 1))))), (4, .int .i64 (i + 1 : Nat))] [] := fun {tm h id n row} g1 g2 g3 g4 g5 g6 ρ F a w hst => by
            obtain ⟨ρ1, F1, h1⟩ := Ent.freeze (t := 3) g1 g4 g5 ρ F a w hst
            refine (Ent.cut ?_ ?_) ρ1 F1 a w h1
            · simp [go_sem, g2, g3, g6]
            · simp [go_sem]
          cases V with
          | nil =>
            refine hX.quiet _ _ (OpG.of_B rfl (opB_append_0 tab_ok (o := false) (by simp [go_sem, slLike]) (by simp [go_sem, prs]) rfl (by simp [go_sem]))) ?_
            simp only [go_sem]
            refine hK _ _ ?_; clear hX hK X K
            show IW _ _ _ _ _ _ _ _
            repeat refine IW.seq ?_
            refine IW.region_seq tab_ok [some 11, some 12, some 4] rfl fun X K hX hK => ?_
            simp only [go_sem, succ_wrap hil (by omega)]
            refine hK _ _ ⟨⟨i + 1, hil⟩, by simp only []; omega, ?_⟩
            exact hfz rfl rfl rfl (row := ⟨2, 70, prs (T ++ [x])⟩) rfl (by rw [prs_length]; simp) (by rw [hres])
          | cons b r =>
            have hbr : (b :: r).length ≤ 1000 := by omega
            refine hX.op _ _ rfl (opS_append tab_ok (id := 2) (n := T.length + 1) (m := (b :: r).length) (ys := prs (b :: r)) (by simp [go_sem]) (by simp [go_sem, srcO]) (prs_length _) (by simp) rfl (by simp [go_sem]) (by decide) (by show _ ≤ (prs (T ++ [x])).length; rw [prs_length]; simp) rfl rfl rfl (prs_w _) (prs_scal _) (by show (T.length + 1 + (b :: r).length) * 16 ≤ _; omega) (by omega) (by intro d e; cases e; decide)) ?_
            have e4 : (rowXs [none, some ⟨2, 70, [[SV.int .i64 x.1, SV.int .i64 x.2]]⟩, some ⟨2, 70, prs (T ++ [x])⟩] 2).take (T.length + 1) ++ prs (b :: r) = prs (T ++ x :: b :: r) := by
              show (prs (T ++ [x])).take (T.length + 1) ++ prs (b :: r) = _
              rw [List.take_of_length_le (by rw [prs_length]; simp), prs_append]; simp
            rw [e4]
            simp only [go_sem]
            refine hK _ _ ?_; clear hX hK X K
            show IW _ _ _ _ _ _ _ _
            repeat refine IW.seq ?_
            refine IW.region_seq tab_ok [some 11, some 12, some 4] rfl fun X K hX hK => ?_
            simp only [go_sem, succ_wrap hil (by omega)]
            refine hK _ _ ⟨⟨i + 1, hil⟩, by simp only []; omega, ?_⟩
            exact hfz rfl rfl rfl (row := ⟨2, 70, prs (T ++ x :: b :: r)⟩) rfl (by rw [prs_length]; simp; omega) (by rw [hres])
    · refine IW.exit ?_
      show IW _ _ _ _ _ _ _ _
      simp only [decide_eq_false_iff_not] at hb1
      obtain rfl : i = l.length := by omega
      rw [List.take_length]
      repeat refine IW.seq ?_
      refine IW.region_seq tab_ok [some 75, some 2] rfl fun X K hX hK => ?_
      simp only [go_sem]
      refine hK _ _ ?_; clear hX hK X K
      show IW _ _ _ _ _ _ _ _
      exact IW.ret (Fin.scal (by simp [go_sem, SV.nold, prs_nold]) (by simp [go_sem, SV.ren, prs_ren]) (by simp [go_sem]))
end Go.Proofs.Ytnbpbehlemaeoaa

set_option linter.unusedVariables false
set_option linter.unusedSimpArgs false
set_option maxRecDepth 10000
namespace Go.Proofs.Ytnbpbehlemaeoaa
open Go.IL
theorem gP_bits (d : List (Int × List ByteArray)) (v : Int) : ∀ x ∈ gP d v, 0 ≤ x := by
  intro x hx
  unfold gP at hx
  split at hx
  · simp only [drawP, rm, List.mem_map] at hx
    obtain ⟨t, _, rfl⟩ := hx
    unfold drawF; split <;> omega
  · simp at hx
theorem refSty (b : Bool) (W H : Int) (p l : List Int) (hl : p.length ≤ 1000000) (hll : l.length ≤ 1000000) (hp : ∀ x ∈ p, 0 ≤ x) : FSpec Try.prog (if b then 37 else 38) [ink W H p, .sl true (nums .i64 l)] (resI (riW W H p W) (riW W H p H) (styF b W H p l)) (resR (styF b W H p l)) := by
  cases b
  · exact refDress W H p l hl hll hp
  · exact refLined' W H p l hl hll
theorem rei_prs {n : Nat} {h : Heap} {id m : Nat} {l : List (Int × Int)} (hr : hrow h id = some ⟨2, 70, prs l⟩) (hm : m = l.length) : rei (n + 1 + 1) h (.ref id 0 m) = .sl true (prs l) := by
  subst hm
  simp only [rei, rowXs, hr, Option.isSome_some, prs_length, Nat.zero_add, Nat.le_refl, and_self, if_true, List.drop_zero]
  rw [List.take_of_length_le (by rw [prs_length]; exact Nat.le_refl _)]
  simp [prs, rei]
set_option maxHeartbeats 4000000 in
theorem refOptions {s : Int} {w h : Nat} {d : List (Int × List ByteArray)} (S : SetD s w h d) (b : Bool) (l : List Int) (W H : Int) (p : List Int) (hl : p.length ≤ 1000000) (hll : l.length ≤ 1000000) :
    FSpec Try.prog 29 [ink W H p, .int .i64 s, .sl true (nums .i64 l), .bool b] (.sl false (prs (optF w h d b l W H p))) [] := by
  have hok := S.ok
  have h0 := S.h0
  have hb1 : h ≤ 640 := by have := S.hb; omega
  have hb2 : w ≤ 640 := by have := S.wb; omega
  have hne := S.ne
  have hn := S.le
  have hks := S.keys
  have hkp : ∀ k ∈ keysD d, 0 < k ∧ k ≤ 1000000 := fun k hk => by have := S.kb k hk; omega
  have hsize := S.size
  have hvals := S.vals
  have hsh : (!rightS W H p || (w : Int) == 0 || W != w || H != h) = !decide (rightS W H p = true ∧ w ≠ 0 ∧ W = w ∧ H = h) := by
    cases rightS W H p <;> by_cases c1 : w = 0 <;> by_cases c2 : W = w <;> by_cases c3 : H = h <;> simp [c1, c2, c3]
  by_cases hc : rightS W H p = true ∧ w ≠ 0 ∧ W = w ∧ H = h
  case neg =>
    have e1 : optF w h d b l W H p = [] := by simp only [optF, hc, if_false]
    rw [e1]
    refine FSpec.drop (sv := .nils) (rows := []) ?_ fun ρ F w v h => by
      cases h
      exact .sl false [] none 0 0 (fun _ _ => undef) (fun x hx => by simp at hx) (Nat.le_refl _) (by omega) (fun hp => absurd hp (by simp)) fun i j x y e1 => by simp at e1
    refine FSpec.intro tab_ok Try.func29 rfl rfl rfl (by kernel_rfl) (by simp) fun w0 => ?_
    simp only [argTM, Nat.zero_add, Nat.reduceAdd]
    simp only [ink]
    repeat refine IW.seq ?_
    refine IW.region_seq tab_ok [some 4, some 8] rfl fun X K hX hK => ?_
    simp only [go_sem]
    refine hK _ _ ?_; clear hX hK X K
    show IW _ _ _ _ _ _ _ _
    repeat refine IW.seq ?_
    refine IW.region_seq tab_ok [some 17, some 18, some 16, some 19, some 20, some 9, some 10] rfl fun X K hX hK => ?_
    simp only [go_sem]
    refine hX.quiet _ _ (OpG.of_B rfl (opB_call rfl rfl (FSpec.nz (hsize) (by simp [go_sem, List.map_cons, List.map_nil, List.append_nil, opnd, unc])))) ?_
    simp only [go_sem]
    refine hK _ _ ?_; clear hX hK X K
    show IW _ _ _ _ _ _ _ _
    repeat refine IW.seq ?_
    refine IW.region_seq tab_ok [some 21, some 22, some 23, some 24, some 25, some 26, some 27, some 28, some 29, some 30, some 31, some 32, some 33, some 34, some 35, some 36, some 37, some 38, some 39] rfl fun X K hX hK => ?_
    simp only [go_sem]
    refine hX.quiet _ _ (OpG.of_B rfl (opB_call rfl rfl (FSpec.nz (refRight W H p hl) (by simp [go_sem, List.map_cons, List.map_nil, List.append_nil, opnd, unc])))) ?_
    simp only [go_sem]
    simp only [hsh, hc, decide_false, Bool.not_false]
    refine hK _ _ ?_; clear hX hK X K
    show IW _ _ _ _ _ _ _ _
    repeat refine IW.seq ?_
    refine IW.cond rfl (fun hb => ?_) (fun hb => ?_)
    · repeat refine IW.seq ?_
      refine IW.region_seq tab_ok [some 8] rfl fun X K hX hK => ?_
      simp only [go_sem]
      refine hK _ _ ?_; clear hX hK X K
      show IW _ _ _ _ _ _ _ _
      refine IW.ret (Fin.scal rfl rfl ?_)
      rfl
    · simp at hb
  case pos =>
    obtain ⟨hr, hw0, rfl, rfl⟩ := hc
    have hwh : w * h ≤ 640 * 640 := Nat.mul_le_mul hb2 hb1
    have hkl : (keysD d).length = d.length := by simp [keysD]
    have e1 : optF w h d b l w h p = optS (optL w h d b l w h p d.length) := by simp only [optF, hr, hw0, ne_eq, not_false_eq_true, and_self, if_true]
    rw [e1]
    refine FSpec.intro tab_ok Try.func29 rfl rfl rfl (by kernel_rfl) (by simp) fun w0 => ?_
    simp only [argTM, Nat.zero_add, Nat.reduceAdd]
    simp only [ink]
    repeat refine IW.seq ?_
    refine IW.region_seq tab_ok [some 4, some 8] rfl fun X K hX hK => ?_
    simp only [go_sem]
    refine hK _ _ ?_; clear hX hK X K
    show IW _ _ _ _ _ _ _ _
    repeat refine IW.seq ?_
    refine IW.region_seq tab_ok [some 17, some 18, some 16, some 19, some 20, some 9, some 10] rfl fun X K hX hK => ?_
    simp only [go_sem]
    refine hX.quiet _ _ (OpG.of_B rfl (opB_call rfl rfl (FSpec.nz (hsize) (by simp [go_sem, List.map_cons, List.map_nil, List.append_nil, opnd, unc])))) ?_
    simp only [go_sem]
    refine hK _ _ ?_; clear hX hK X K
    show IW _ _ _ _ _ _ _ _
    repeat refine IW.seq ?_
    refine IW.region_seq tab_ok [some 21, some 22, some 23, some 24, some 25, some 26, some 27, some 28, some 29, some 30, some 31, some 32, some 33, some 34, some 35, some 36, some 37, some 38, some 39] rfl fun X K hX hK => ?_
    simp only [go_sem]
    refine hX.quiet _ _ (OpG.of_B rfl (opB_call rfl rfl (FSpec.nz (refRight w h p hl) (by simp [go_sem, List.map_cons, List.map_nil, List.append_nil, opnd, unc])))) ?_
    simp only [go_sem]
    simp only [hsh]
    refine hK _ _ ?_; clear hX hK X K
    show IW _ _ _ _ _ _ _ _
    repeat refine IW.seq ?_
    refine IW.cond rfl (fun hb => ?_) (fun hb => ?_)
    · simp [hr, hw0] at hb
    · refine IW.skip ?_
      show IW _ _ _ _ _ _ _ _
      repeat refine IW.seq ?_
      refine IW.region_seq tab_ok [some 11] rfl fun X K hX hK => ?_
      simp only [go_sem]
      refine hK _ _ ?_; clear hX hK X K
      show IW _ _ _ _ _ _ _ _
      have hbl := res_img (refBlank w h (by omega) (by omega) (by omega))
      simp only [imgW, imgH, imgP] at hbl
      repeat refine IW.seq ?_
      refine IW.region_draw tab_ok mixed [some 40, some 41, some 42, some 43, some 44, some 45, some 46, some 47, some 48, some 11] 9 (by kernel_rfl) rfl fun Xq Xs K hXq hXs hK K1 hK1 => ?_
      simp only [go_sem]
      refine hXq.quiet _ _ (OpG.of_B rfl (opB_call rfl rfl (FSpec.nz (hbl) (by simp [go_sem, List.map_cons, List.map_nil, List.append_nil, opnd, unc, resI, resR])))) ?_
      simp only [go_sem, resI, resR]
      refine hXq.quiet _ _ (OpG.of_B rfl (opB_call rfl rfl (FSpec.nz (refMiss w h p w h (List.replicate (w * h) 0) hl (by rw [List.length_replicate]; omega)) (by simp [go_sem, List.map_cons, List.map_nil, List.append_nil, opnd, unc])))) ?_
      simp only [go_sem]
      refine hXq.quiet _ _ (OpG.of_B rfl (opB_buildSlice tab_ok rfl (by simp [go_sem]) (by simp [go_sem]) (by simp) (by simp [go_sem, bsO, List.map_cons, List.map_nil]))) ?_
      simp only [go_sem, List.map_cons, List.map_nil]
      refine hXq.quiet _ _ (OpG.of_B rfl (opB_append_nil tab_ok (ys := [[.int .i64 0, .int .i64 (missS w h p w h (List.replicate (w * h) 0))]]) rfl (by simp [go_sem]) rfl (by simp [go_sem]; try omega) rfl (by simp [go_sem]) (by simp [go_sem]) (by first | exact nums_w _ _ | exact prs_w _ | simp [go_sem, nums]) (by simp [go_sem]) (by simp [go_sem]; try omega) (by simp [go_sem]; try omega))) ?_
      simp only [go_sem, List.length_cons, List.length_nil]
      refine hK1 _ _ ?_; clear hXq hK1 K1 Xq
      simp only [List.drop_zero, List.drop_succ_cons, go_sem]
      refine hK _ _ ?_; clear hXs hK K Xs
      show IW _ _ _ _ _ _ _ _
      repeat refine IW.seq ?_
      refine IW.region_seq tab_ok [some 49, some 50, some 12] rfl fun X K hX hK => ?_
      simp only [go_sem]
      refine hX.quiet _ _ (OpG.of_B rfl (opB_call rfl rfl (FSpec.nz (hvals) (by simp [go_sem, List.map_cons, List.map_nil, List.append_nil, opnd, unc])))) ?_
      simp only [go_sem]
      refine hK _ _ ?_; clear hX hK X K
      show IW _ _ _ _ _ _ _ _
      repeat refine IW.seq ?_
      refine IW.region_seq tab_ok [some 13] rfl fun X K hX hK => ?_
      simp only [go_sem]
      refine hK _ _ ?_; clear hX hK X K
      show IW _ _ _ _ _ _ _ _
      repeat refine IW.seq ?_
      refine IW.block ?_
      refine IW.loop (α := {k : Nat // k ≤ d.length}) (fun k => [(1, .int .i64 s), (2, .sl true (nums .i64 l)), (3, .bool b), (4, .ptr 0 0 0), (11, .ref 1 0 (k.1 + 1)), (12, .sl false (nums .i64 (keysD d))), (13, .int .i64 k.1)]) (fun k => [some ⟨3, 33, [[.int .i64 w, .int .i64 h, .sl true (nums .u8 p)]]⟩, some ⟨2, 70, prs (optL w h d b l w h p k.1)⟩]) (fun k => d.length - k.1) ⟨0, Nat.zero_le _⟩ ?_ fun ⟨k, hk⟩ => ?_
      · have e2 : prs (optL w h d b l w h p 0) = [[.int .i64 0, .int .i64 (missS w h p w h (List.replicate (w * h) 0))]] := by simp [optL, prs]
        refine Ent.ren [0, 3] rfl (by decide) ?_ ?_ (fun id ri e => by cases e) <;> simp [go_sem, subT, subH, sg, SV.ren, Row.ren, e2, prs_ren, nums_ren]
      · simp only []
        have hol : (optL w h d b l w h p k).length = k + 1 := by simp [optL, hkl]; omega
        have hnl : (nums .i64 (keysD d)).length = d.length := by rw [nums_length, hkl]
        repeat refine IW.seq ?_
        refine IW.region_seq tab_ok [some 51, some 52, some 53, some 54] rfl fun X K hX hK => ?_
        simp only [go_sem, hnl]
        refine hK _ _ ?_; clear hX hK X K
        show IW _ _ _ _ _ _ _ _
        repeat refine IW.seq ?_
        refine IW.cond rfl (fun hb3 => ?_) (fun hb3 => ?_)
        · simp only [decide_eq_true_eq] at hb3
          have hkd : k < d.length := by omega
          have hkk : k < (keysD d).length := by omega
          refine IW.skip ?_
          show IW _ _ _ _ _ _ _ _
          repeat refine IW.seq ?_
          refine IW.block ?_
          have hv := hkp ((keysD d).getD k 0) (by simp [hkk])
          generalize hvv : (keysD d).getD k 0 = v at *
          repeat refine IW.seq ?_
          refine IW.region_seq tab_ok [some 58, some 59, some 60, some 61, some 62, some 63, some 57, some 64, some 65, some 14, none, some 15] rfl fun X K hX hK => ?_
          simp only [go_sem, hnl, nums_at hkk, hvv]
          refine ⟨⟨by omega, by omega⟩, ?_⟩
          refine hX.quiet _ _ (OpG.of_B rfl (opB_call rfl rfl (FSpec.nz (refGlyph S v) (by simp [go_sem, List.map_cons, List.map_nil, List.append_nil, opnd, unc, resI, resR])))) ?_
          simp only [go_sem, resI, resR]
          refine hX.op _ _ rfl (opS_store tab_ok rfl (by simp [go_sem]) (by simp [go_sem]) (by simp [go_sem]) (by simp [go_sem]) (by simp [go_sem]) (by simp [go_sem])) ?_
          simp only [go_sem]
          refine hK _ _ ?_; clear hX hK X K
          show IW _ _ _ _ _ _ _ _
          have hgl := gP_length hok h0 v
          have hsl := styF_length b (gW d w v) (gW d h v) (gP d v) l
          have hsl2 : (styF b (gW d w v) (gW d h v) (gP d v) l).length ≤ 1000000 := by rw [hsl]; split <;> omega
          have hs2 := refSty b (gW d w v) (gW d h v) (gP d v) l (by omega) hll (gP_bits d v)
          have hom : optM w h d b l w h p v = missS w h p (riW (gW d w v) (gW d h v) (gP d v) (gW d w v)) (riW (gW d w v) (gW d h v) (gP d v) (gW d h v)) (styF b (gW d w v) (gW d h v) (gP d v) l) := rfl
          clear hsl
          generalize riW (gW d w v) (gW d h v) (gP d v) (gW d w v) = W1 at hs2 hom
          generalize riW (gW d w v) (gW d h v) (gP d v) (gW d h v) = H1 at hs2 hom
          generalize styF b (gW d w v) (gW d h v) (gP d v) l = q1 at hs2 hom hsl2
          repeat refine IW.seq ?_
          refine IW.region_seq tab_ok [some 66] rfl fun X K hX hK => ?_
          simp only [go_sem]
          refine hK _ _ ?_; clear hX hK X K
          show IW _ _ _ _ _ _ _ _
          repeat refine IW.seq ?_
          refine IW.joinI (α := Unit) (fun _ => [(14, .ptr 2 0 0), (1, .int .i64 s), (2, .sl true (nums .i64 l)), (3, .bool b), (4, .ptr 0 0 0), (11, .ref 1 0 (k + 1)), (12, .sl false (nums .i64 (keysD d))), (13, .int .i64 k)]) (fun _ => [some ⟨3, 33, [[.int .i64 w, .int .i64 h, .sl true (nums .u8 p)]]⟩, some ⟨2, 70, prs (optL w h d b l w h p k)⟩, some ⟨3, 33, [[.int .i64 W1, .int .i64 H1, lsV 3 q1.length]]⟩, some ⟨1, 5, nums .u8 q1⟩]) ?_ fun _ => ?_
          · repeat refine IW.seq ?_
            refine IW.cond rfl (fun hbb => ?_) (fun hbb => ?_)
            · have hs3 := hs2
              rw [if_pos hbb] at hs3
              repeat refine IW.seq ?_
              refine IW.region_seq tab_ok [some 67, some 68, some 69, none] rfl fun X K hX hK => ?_
              simp only [go_sem]
              refine hX.quiet _ _ (OpG.of_B rfl (opB_call rfl rfl (FSpec.nz (hs3) (by simp [go_sem, List.map_cons, List.map_nil, List.append_nil, opnd, unc, resI, resR])))) ?_
              simp only [go_sem, resI, resR]
              refine hX.op _ _ rfl (opS_store tab_ok rfl (by simp [go_sem]) (by simp [go_sem]) (by simp [go_sem]) (by simp [go_sem]) (by simp [go_sem]) (by simp [go_sem])) ?_
              simp only [go_sem]
              refine hK _ _ ⟨(), ?_⟩
              refine Ent.ren [0, 1, 3, 4] rfl (by decide) ?_ ?_ (fun id ri e => by cases e) <;> simp [go_sem, subT, subH, sg, SV.ren, Row.ren, prs_ren, nums_ren]
            · have hs3 := hs2
              rw [if_neg (by rw [hbb]; decide)] at hs3
              repeat refine IW.seq ?_
              refine IW.region_seq tab_ok [some 70, some 71, some 72, none] rfl fun X K hX hK => ?_
              simp only [go_sem]
              refine hX.quiet _ _ (OpG.of_B rfl (opB_call rfl rfl (FSpec.nz (hs3) (by simp [go_sem, List.map_cons, List.map_nil, List.append_nil, opnd, unc, resI, resR])))) ?_
              simp only [go_sem, resI, resR]
              refine hX.op _ _ rfl (opS_store tab_ok rfl (by simp [go_sem]) (by simp [go_sem]) (by simp [go_sem]) (by simp [go_sem]) (by simp [go_sem]) (by simp [go_sem])) ?_
              simp only [go_sem]
              refine hK _ _ ⟨(), ?_⟩
              refine Ent.ren [0, 1, 3, 4] rfl (by decide) ?_ ?_ (fun id ri e => by cases e) <;> simp [go_sem, subT, subH, sg, SV.ren, Row.ren, prs_ren, nums_ren]
          · repeat refine IW.seq ?_
            refine IW.region_draw tab_ok mixed [some 73, some 74, some 75, some 76, some 77, some 78, some 79, some 80, some 81, some 82, some 83, some 11] 10 (by kernel_rfl) rfl fun Xq Xs K hXq hXs hK K1 hK1 => ?_
            simp only [go_sem, hnl, nums_at hkk, hvv]
            refine ⟨⟨by omega, by omega⟩, ?_⟩
            refine hXq.quiet _ _ (OpG.of_B rfl (opB_call rfl rfl (FSpec.nz (refMiss w h p W1 H1 q1 hl hsl2) (by simp [go_sem, List.map_cons, List.map_nil, List.append_nil, opnd, unc])))) ?_
            simp only [go_sem]
            refine hXq.quiet _ _ (OpG.of_B rfl (opB_buildSlice tab_ok rfl (by simp [go_sem]) (by simp [go_sem]) (by simp) (by simp [go_sem, bsO, List.map_cons, List.map_nil]))) ?_
            simp only [go_sem, List.map_cons, List.map_nil]
            refine hK1 _ _ ?_; clear hXq hK1 K1 Xq
            simp only [List.drop_zero, List.drop_succ_cons, go_sem]
            refine hXs.op _ _ rfl (opS_append tab_ok (ys := [[.int .i64 v, .int .i64 (missS w h p W1 H1 q1)]]) rfl (by simp [go_sem, prs_length, hol]) rfl (by simp [go_sem, prs_length, hol]; try omega) rfl (by simp [go_sem]) (by simp [go_sem]) (by simp [go_sem, prs_length, hol]) rfl rfl rfl (by first | exact nums_w _ _ | exact prs_w _ | simp [go_sem, nums]) (by simp [go_sem]) (by simp [go_sem]; omega) (by simp [go_sem]; omega) (by intro d e; cases e; decide)) ?_
            simp only [go_sem, List.length_cons, List.length_nil, prs_length, hol]
            refine hK _ _ ?_; clear hXs hK K Xs
            show IW _ _ _ _ _ _ _ _
            repeat refine IW.seq ?_
            refine IW.region_seq tab_ok [some 55, some 56, some 13] rfl fun X K hX hK => ?_
            simp only [go_sem, succ_wrap hkd (by omega)]
            have hnx : (prs (optL w h d b l w h p k)).take (k + 1) ++ [[.int .i64 v, .int .i64 (missS w h p W1 H1 q1)]] = prs (optL w h d b l w h p (k + 1)) := by
              rw [List.take_of_length_le (by rw [prs_length, hol]; exact Nat.le_refl _)]
              have htk : (keysD d).take (k + 1) = (keysD d).take k ++ [v] := by rw [List.take_add_one, ← hvv]; simp [hkk]
              simp only [optL, htk, List.map_append, prs, List.map_cons, List.map_nil, hom, List.cons_append]
            refine hK _ _ ⟨⟨k + 1, hkd⟩, by simp only []; omega, ?_⟩
            refine Ent.ren [0, 5] rfl (by decide) ?_ ?_ (fun id ri e => by cases e) <;> simp [go_sem, subT, subH, sg, SV.ren, Row.ren, hnx, prs_ren, nums_ren]
        · refine IW.exit ?_
          show IW _ _ _ _ _ _ _ _
          simp only [decide_eq_false_iff_not] at hb3
          obtain rfl : k = d.length := by omega
          have hsrt := refSorted (optL w h d b l w h p d.length) (optL_lt hks (fun k hk => (hkp k hk).1)) (by omega)
          repeat refine IW.seq ?_
          refine IW.region_seq tab_ok [some 84, some 85, some 8] rfl fun X K hX hK => ?_
          simp only [go_sem]
          refine hX.quiet _ _ (OpG.of_B rfl (opB_call rfl rfl (FSpec.nz hsrt (by simp only [List.map_cons, List.map_nil, List.append_nil, List.toList_toArray]; simp only [go_sem]; rw [rei_prs (l := optL w h d b l w h p d.length) rfl hol.symm]; rfl)))) ?_
          simp only [go_sem]
          refine hK _ _ ?_; clear hX hK X K
          show IW _ _ _ _ _ _ _ _
          exact IW.ret (Fin.scal (by simp [go_sem, SV.nold, prs_nold]) (by simp [go_sem, SV.ren, prs_ren]) (by simp [go_sem]))
end Go.Proofs.Ytnbpbehlemaeoaa

set_option linter.unusedVariables false
set_option linter.unusedSimpArgs false
set_option maxRecDepth 10000
namespace Go.Proofs.Ytnbpbehlemaeoaa
open Go.IL
/-- The sets that there are; none has nineteen letters. -/
theorem setD19 (s : Int) (h1 : 1 ≤ s) (h2 : s ≤ 10) : ∃ w h d, SetD s w h d ∧ d.length ≠ 19 := by
  have : s = 1 ∨ s = 2 ∨ s = 3 ∨ s = 4 ∨ s = 5 ∨ s = 6 ∨ s = 7 ∨ s = 8 ∨ s = 9 ∨ s = 10 := by omega
  rcases this with rfl | rfl | rfl | rfl | rfl | rfl | rfl | rfl | rfl | rfl
  · exact ⟨_, _, _, setD_1, by decide⟩
  · exact ⟨_, _, _, setD_2, by decide⟩
  · exact ⟨_, _, _, setD_3, by decide⟩
  · exact ⟨_, _, _, setD_4, by decide⟩
  · exact ⟨_, _, _, setD_5, by decide⟩
  · exact ⟨_, _, _, setD_6, by decide⟩
  · exact ⟨_, _, _, setD_7, by decide⟩
  · exact ⟨_, _, _, setD_8, by decide⟩
  · exact ⟨_, _, _, setD_9, by decide⟩
  · exact ⟨_, _, _, setD_10, by decide⟩
theorem fOptionsN (s : Int) (h : ∀ k : Int, 1 ≤ k → k ≤ 10 → s ≠ k) (b : Bool) (l : List Int) (W H : Int) (p : List Int) (hl : p.length ≤ 1000000) :
    FSpec Try.prog 28 [ink W H p, .int .i64 s, .sl true (nums .i64 l), .bool b] (lsV 0 ([] : List (Int × Int)).length) [⟨2, 70, prs []⟩] := by
  refine FSpec.ghost (r := ⟨2, 70, prs []⟩) (sv := .nils) ?_ fun F w v h => rel_ls_nil h
  have hsh : (!rightS W H p || (0 : Int) == 0 || W != 0 || H != 0) = true := by simp
  refine FSpec.intro tab_ok Try.func28 rfl rfl rfl (by kernel_rfl) (by simp) fun w0 => ?_
  simp only [argTM, Nat.zero_add, Nat.reduceAdd]
  simp only [ink]
  repeat refine IW.seq ?_
  refine IW.region_seq tab_ok [some 4, some 8] rfl fun X K hX hK => ?_
  simp only [go_sem]
  refine hK _ _ ?_; clear hX hK X K
  show IW _ _ _ _ _ _ _ _
  repeat refine IW.seq ?_
  refine IW.region_seq tab_ok [some 18, some 19, some 17, some 20, some 21, some 9, some 10] rfl fun X K hX hK => ?_
  simp only [go_sem]
  refine hX.quiet _ _ (OpG.of_B rfl (opB_call rfl rfl (FSpec.nz (fSizeN s h) (by simp [go_sem, List.map_cons, List.map_nil, List.append_nil, opnd, unc])))) ?_
  simp only [go_sem]
  refine hK _ _ ?_; clear hX hK X K
  show IW _ _ _ _ _ _ _ _
  repeat refine IW.seq ?_
  refine IW.region_seq tab_ok [some 22, some 23, some 24, some 25, some 26, some 27, some 28, some 29, some 30, some 31, some 32, some 33, some 34, some 35, some 36, some 37, some 38, some 39, some 40] rfl fun X K hX hK => ?_
  simp only [go_sem]
  refine hX.quiet _ _ (OpG.of_B rfl (opB_call rfl rfl (FSpec.nz (fRight W H p hl) (by simp [go_sem, List.map_cons, List.map_nil, List.append_nil, opnd, unc])))) ?_
  simp only [go_sem]
  simp only [hsh]
  refine hK _ _ ?_; clear hX hK X K
  show IW _ _ _ _ _ _ _ _
  repeat refine IW.seq ?_
  refine IW.cond rfl (fun hb => ?_) (fun hb => ?_)
  · repeat refine IW.seq ?_
    refine IW.region_seq tab_ok [some 8] rfl fun X K hX hK => ?_
    simp only [go_sem]
    refine hK _ _ ?_; clear hX hK X K
    show IW _ _ _ _ _ _ _ _
    refine IW.ret (Fin.scal rfl rfl ?_)
    rfl
  · cases hb
theorem refOptionsN (s : Int) (h : ∀ k : Int, 1 ≤ k → k ≤ 10 → s ≠ k) (b : Bool) (l : List Int) (W H : Int) (p : List Int) (hl : p.length ≤ 1000000) :
    FSpec Try.prog 29 [ink W H p, .int .i64 s, .sl true (nums .i64 l), .bool b] (.sl false (prs [])) [] := by
  refine FSpec.drop (sv := .nils) (rows := []) ?_ fun ρ F w v h => by
    cases h
    exact .sl false [] none 0 0 (fun _ _ => undef) (fun x hx => by simp at hx) (Nat.le_refl _) (by omega) (fun hp => absurd hp (by simp)) fun i j x y e1 => by simp at e1
  have hsh : (!rightS W H p || (0 : Int) == 0 || W != 0 || H != 0) = true := by simp
  refine FSpec.intro tab_ok Try.func29 rfl rfl rfl (by kernel_rfl) (by simp) fun w0 => ?_
  simp only [argTM, Nat.zero_add, Nat.reduceAdd]
  simp only [ink]
  repeat refine IW.seq ?_
  refine IW.region_seq tab_ok [some 4, some 8] rfl fun X K hX hK => ?_
  simp only [go_sem]
  refine hK _ _ ?_; clear hX hK X K
  show IW _ _ _ _ _ _ _ _
  repeat refine IW.seq ?_
  refine IW.region_seq tab_ok [some 17, some 18, some 16, some 19, some 20, some 9, some 10] rfl fun X K hX hK => ?_
  simp only [go_sem]
  refine hX.quiet _ _ (OpG.of_B rfl (opB_call rfl rfl (FSpec.nz (refSize_N s h) (by simp [go_sem, List.map_cons, List.map_nil, List.append_nil, opnd, unc])))) ?_
  simp only [go_sem]
  refine hK _ _ ?_; clear hX hK X K
  show IW _ _ _ _ _ _ _ _
  repeat refine IW.seq ?_
  refine IW.region_seq tab_ok [some 21, some 22, some 23, some 24, some 25, some 26, some 27, some 28, some 29, some 30, some 31, some 32, some 33, some 34, some 35, some 36, some 37, some 38, some 39] rfl fun X K hX hK => ?_
  simp only [go_sem]
  refine hX.quiet _ _ (OpG.of_B rfl (opB_call rfl rfl (FSpec.nz (refRight W H p hl) (by simp [go_sem, List.map_cons, List.map_nil, List.append_nil, opnd, unc])))) ?_
  simp only [go_sem]
  simp only [hsh]
  refine hK _ _ ?_; clear hX hK X K
  show IW _ _ _ _ _ _ _ _
  repeat refine IW.seq ?_
  refine IW.cond rfl (fun hb => ?_) (fun hb => ?_)
  · repeat refine IW.seq ?_
    refine IW.region_seq tab_ok [some 8] rfl fun X K hX hK => ?_
    simp only [go_sem]
    refine hK _ _ ?_; clear hX hK X K
    show IW _ _ _ _ _ _ _ _
    refine IW.ret (Fin.scal rfl rfl ?_)
    rfl
  · cases hb
theorem anyOptions (s : Int) (b : Bool) (l : List Int) (W H : Int) (p : List Int) (hl : p.length ≤ 1000000) (hll : l.length ≤ 1000000) : ∃ o : List (Int × Int), o.length ≤ 1000000 ∧
    FSpec Try.prog 28 [ink W H p, .int .i64 s, .sl true (nums .i64 l), .bool b] (lsV 0 o.length) [⟨2, 70, prs o⟩] ∧
    FSpec Try.prog 29 [ink W H p, .int .i64 s, .sl true (nums .i64 l), .bool b] (.sl false (prs o)) [] := by
  by_cases c : 1 ≤ s ∧ s ≤ 10
  · obtain ⟨w, h, d, S, h19⟩ := setD19 s c.1 c.2
    refine ⟨_, ?_, fOptionsA S h19 b l W H p hl hll, refOptions S b l W H p hl hll⟩
    have := S.le
    unfold optF
    split
    · rw [opt_length]; simp [optL, keysD]; omega
    · simp
  · exact ⟨[], by simp, fOptionsN s (setN c) b l W H p hl, refOptionsN s (setN c) b l W H p hl⟩
theorem rei_prsL {n : Nat} {h : Heap} {id : Nat} {l : List (Int × Int)} (hr : hrow h id = some ⟨2, 70, prs l⟩) : nz (rei (n + 1 + 1) h (lsV id l.length)) = .sl true (prs l) := by
  cases l with
  | nil => rfl
  | cons a l => rw [lsV_ne (by simp), rei_prs hr rfl]; rfl
set_option maxHeartbeats 2000000 in
/-- The law's function. -/
theorem fOptions5 (s : Int) (b : Bool) (l : List Int) (W H : Int) (p : List Int) : FSpec Try.prog 5 [ink W H p, .int .i64 s, .sl true (nums .i64 l), .bool b] (.bool true) [] := by
  refine FSpec.intro tab_ok Try.func5 rfl rfl rfl (by kernel_rfl) (by simp) fun w0 => ?_
  simp only [argTM, Nat.zero_add, Nat.reduceAdd]
  simp only [ink]
  repeat refine IW.seq ?_
  refine IW.region_seq tab_ok [some 4, some 8] rfl fun X K hX hK => ?_
  simp only [go_sem]
  refine hK _ _ ?_; clear hX hK X K
  show IW _ _ _ _ _ _ _ _
  repeat refine IW.seq ?_
  refine IW.region_seq tab_ok [some 9, some 10, some 11, some 12, some 13, some 14, some 15] rfl fun X K hX hK => ?_
  simp only [go_sem]
  refine hX.quiet _ _ (OpG.of_B rfl (opB_call rfl rfl (FSpec.nz (lBig W H p) (by simp [go_sem, List.map_cons, List.map_nil, List.append_nil, opnd, unc])))) ?_
  simp only [go_sem]
  refine hK _ _ ?_; clear hX hK X K
  show IW _ _ _ _ _ _ _ _
  repeat refine IW.seq ?_
  refine IW.cond rfl (fun hb => ?_) (fun hb => ?_)
  · repeat refine IW.seq ?_
    refine IW.region_seq tab_ok [some 16, some 8] rfl fun X K hX hK => ?_
    simp only [go_sem]
    refine hX.quiet _ _ (OpG.of_B rfl (opB_call rfl rfl (FSpec.nz (fAwake) (by simp [go_sem, List.map_cons, List.map_nil, List.append_nil, opnd, unc])))) ?_
    simp only [go_sem]
    refine hK _ _ ?_; clear hX hK X K
    show IW _ _ _ _ _ _ _ _
    refine IW.ret (Fin.scal rfl rfl ?_)
    rfl
  · simp only [Bool.or_eq_false_iff, decide_eq_false_iff_not] at hb
    have hl : p.length ≤ 1000000 := by omega
    have hll : l.length ≤ 1000000 := by omega
    obtain ⟨o, ho, hk, hr⟩ := anyOptions s b l W H p hl hll
    refine IW.skip ?_
    show IW _ _ _ _ _ _ _ _
    repeat refine IW.seq ?_
    refine IW.region_draw tab_ok mixed [some 17, some 18, some 19, some 20, some 21, some 22, some 23, some 24, some 25, some 26, some 27, some 28, some 29, some 30, some 8] 15 (by kernel_rfl) rfl fun Xq Xs K hXq hXs hK K1 hK1 => ?_
    simp only [go_sem]
    refine hXq.quiet _ _ (OpG.of_B rfl (opB_call rfl rfl (FSpec.nz (hk) (by simp [go_sem, List.map_cons, List.map_nil, List.append_nil, opnd, unc])))) ?_
    simp only [go_sem]
    refine hXq.quiet _ _ (OpG.of_B rfl (opB_call rfl rfl (FSpec.nz (hr) (by simp [go_sem, List.map_cons, List.map_nil, List.append_nil, opnd, unc])))) ?_
    simp only [go_sem]
    refine hXq.quiet _ _ (OpG.of_B rfl (opB_call rfl rfl (FSpec.nz (kSameOptions o o ho ho) (by simp only [List.map_cons, List.map_nil, List.append_nil, List.toList_toArray]; simp only [go_sem]; rw [rei_prsL (l := o) rfl])))) ?_
    simp only [go_sem]
    refine hXq.quiet _ _ (OpG.of_BG rfl rfl rfl (by first | (simp only [go_sem]; done) | (simp [go_sem] <;> (intros; simp_all))) fun hc => opB_call rfl rfl (FSpec.nz (fAwake) (by simp [go_sem, List.map_cons, List.map_nil, List.append_nil, opnd, unc]))) ?_
    simp only [go_sem]
    refine hK1 _ _ ?_; clear hXq hK1 K1 Xq
    simp only [List.drop_zero, List.drop_succ_cons, go_sem]
    refine hK _ _ ?_; clear hXs hK K Xs
    show IW _ _ _ _ _ _ _ _
    refine IW.ret (Fin.scal rfl rfl ?_)
    simp [go_sem]
end Go.Proofs.Ytnbpbehlemaeoaa

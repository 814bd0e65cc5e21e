/- Contracts of points, of finding, and of the law FontFinds. -/
import Derived.Test.YtnbpbehlemaeoaaB9
set_option linter.unusedVariables false
set_option linter.unusedSimpArgs false
set_option maxRecDepth 10000
namespace Go.Proofs.Ytnbpbehlemaeoaa
open Go.IL
theorem refIn (x first n : Int) (hx : I64 x) (hf : I64 first) (hn : I64 n) : FSpec Try.prog 73 [.int .i64 x, .int .i64 first, .int .i64 n] (.bool (insF x first n)) [] := by
  unfold I64 at hx hf hn
  refine FSpec.intro tab_ok Try.func73 rfl rfl rfl (by kernel_rfl) (by simp) fun w0 => ?_
  simp only [argTM, Nat.zero_add, Nat.reduceAdd]
  repeat refine IW.seq ?_
  refine IW.region_seq tab_ok [some 6] rfl fun X K hX hK => ?_
  simp only [go_sem, if_true, if_false, reduceIte, Nat.reduceEqDiff, Nat.reduceAdd, Nat.reduceLT, Nat.reduceLeDiff, reduceCtorEq]
  refine hK _ _ ?_; clear hX hK X K
  show IW _ _ _ _ _ _ _ _
  repeat refine IW.seq ?_
  refine IW.region_seq tab_ok [some 8, some 9, some 10, some 11, some 12, some 13, some 14] rfl fun X K hX hK => ?_
  simp only [go_sem, if_true, if_false, reduceIte, Nat.reduceEqDiff, Nat.reduceAdd, Nat.reduceLT, Nat.reduceLeDiff, reduceCtorEq]
  refine hK _ _ ?_; clear hX hK X K
  show IW _ _ _ _ _ _ _ _
  repeat refine IW.seq ?_
  refine IW.cond rfl (fun hb => ?_) (fun hb => ?_)
  · repeat refine IW.seq ?_
    refine IW.region_seq tab_ok [some 6] rfl fun X K hX hK => ?_
    simp only [go_sem, if_true, if_false, reduceIte, Nat.reduceEqDiff, Nat.reduceAdd, Nat.reduceLT, Nat.reduceLeDiff, reduceCtorEq]
    refine hK _ _ ?_; clear hX hK X K
    show IW _ _ _ _ _ _ _ _
    refine IW.ret (Fin.scal rfl rfl ?_)
    simp only [Bool.or_eq_true, decide_eq_true_eq] at hb
    show SV.bool false = SV.bool _
    have : ¬ (first ≤ x ∧ x - first < n) := by omega
    simp only [insF, this, decide_false]
  · refine IW.skip ?_
    show IW _ _ _ _ _ _ _ _
    simp only [Bool.or_eq_false_iff, decide_eq_false_iff_not] at hb
    repeat refine IW.seq ?_
    refine IW.region_seq tab_ok [some 15, some 16, some 17, some 7] rfl fun X K hX hK => ?_
    simp only [go_sem, if_true, if_false, reduceIte, Nat.reduceEqDiff, Nat.reduceAdd, Nat.reduceLT, Nat.reduceLeDiff, reduceCtorEq]
    refine hK _ _ ?_; clear hX hK X K
    show IW _ _ _ _ _ _ _ _
    repeat refine IW.seq ?_
    refine IW.region_seq tab_ok [some 18, some 19, some 20, some 21, some 22, some 23, some 24, some 25, some 26, some 27, some 28, some 6] rfl fun X K hX hK => ?_
    simp only [go_sem, if_true, if_false, reduceIte, Nat.reduceEqDiff, Nat.reduceAdd, Nat.reduceLT, Nat.reduceLeDiff, reduceCtorEq]
    refine hK _ _ ?_; clear hX hK X K
    show IW _ _ _ _ _ _ _ _
    refine IW.ret (Fin.scal rfl rfl ?_)
    have h1 : first ≤ x := by omega
    show SV.bool _ = SV.bool _
    simp only [insF, h1, true_and, IntKind.wrap_i64]
    refine congrArg _ ?_
    by_cases a : x - first < n <;> by_cases b : 0 ≤ first <;> simp [a, b] <;> omega
/-- A list of points that has been appended to: row 2. -/
def apP (l : List (Int × Int)) : SV := match l with | [] => .nils | _ :: _ => .ref 2 0 l.length
def wpR (l : List (Int × Int)) : Option Row := match l with | [] => none | _ :: _ => some ⟨2, 68, prs l⟩
theorem apP_snoc (l : List (Int × Int)) (c : Int × Int) : apP (l ++ [c]) = .ref 2 0 (l.length + 1) := by cases l <;> simp [apP]
theorem wpR_snoc (l : List (Int × Int)) (c : Int × Int) : wpR (l ++ [c]) = some ⟨2, 68, prs (l ++ [c])⟩ := by cases l <;> simp [wpR]
section
variable {O : Nat → Prop} {w0 : Ctx} {N : Nat} {ops : Array Oper} {D : List (Option Nat)} {X : XT}
theorem pushP {dst : Option Nat} {x y : Operand} {ty : TypeId} {pos : String} {after : Array Edge} {r : List Oper} {tm : TM} {l : List (Int × Int)} {c : Int × Int} {r0 r1 : Option Row} {K : TM → Heap → Prop} (hX : XS Try.prog O w0 N tab ops D X) (hx : opnd tm x = apP l) (hy : opnd tm y = .ref 3 0 1) (hl : l.length ≤ 1000000) (hd : ∀ d, dst = some d → d < N)
    (he : E tab D X r (tm.put dst (.ref 4 0 (l.length + 1))) [r0, r1, none, some ⟨2, 68, [[.int .i64 c.1, .int .i64 c.2]]⟩, some ⟨2, 68, prs (l ++ [c])⟩] K) :
    X ⟨dst, .call ⟨.builtin .append, #[x, y], #[63, 63]⟩, ty, pos, after, none⟩ r tm [r0, r1, wpR l, some ⟨2, 68, [[.int .i64 c.1, .int .i64 c.2]]⟩] K := by
  have hys : srcO [r0, r1, wpR l, some ⟨2, 68, [[.int .i64 c.1, .int .i64 c.2]]⟩] (opnd tm y) = some [[.int .i64 c.1, .int .i64 c.2]] := by rw [hy]; rfl
  cases l with
  | nil =>
    refine hX.quiet _ _ (OpG.of_B rfl (opB_append_nil tab_ok (ys := [[.int .i64 c.1, .int .i64 c.2]]) (m := 1) hx hys rfl (by omega) rfl rfl (by decide) (by intro x hx; simp at hx; subst hx; rfl) rfl (by decide) (by decide))) ?_
    exact he
  | cons b l =>
    have hlen : (prs (b :: l)).length = (b :: l).length := prs_length _
    refine hX.op _ _ rfl (opS_append tab_ok (id := 2) (n := (b :: l).length) (m := 1) (ys := [[.int .i64 c.1, .int .i64 c.2]]) hx hys rfl (by omega) rfl rfl (by decide) (by show _ ≤ (prs (b :: l)).length; omega) rfl rfl rfl (by intro x hx; simp at hx; subst hx; rfl) rfl (by show ((b :: l).length + 1) * 16 ≤ _; omega) (by omega) hd) ?_
    have e1 : (prs (b :: l)).take (b :: l).length ++ [[SV.int .i64 c.1, SV.int .i64 c.2]] = prs (b :: l ++ [c]) := by
      rw [List.take_of_length_le (by omega)]; simp [prs]
    have e2 : rowXs [r0, r1, wpR (b :: l), some ⟨2, 68, [[SV.int .i64 c.1, SV.int .i64 c.2]]⟩] 2 = prs (b :: l) := rfl
    rw [e2, e1]
    exact he
end
/-- The points of a rectangle at which there is ink. -/
def pq (w h : Nat) (p : List Int) (c : Int × Int) : Bool := atF w h p c.1 c.2 == 1
def pxL (w h : Nat) (p : List Int) (X Y RW RH : Int) (m : Nat) : List (Int × Int) := (ptRows w X Y RW RH m).filter (pq w h p)
def pxM (w h : Nat) (p : List Int) (X Y RW RH : Int) (y n : Nat) : List (Int × Int) := (ptRow X Y RW RH y n).filter (pq w h p)
theorem pxM_succ (w h : Nat) (p : List Int) (X Y RW RH : Int) (y n : Nat) : pxM w h p X Y RW RH y (n + 1) = pxM w h p X Y RW RH y n ++ (if (insF n X RW && insF y Y RH) && (atF w h p n y == 1) then [((n : Int), (y : Int))] else []) := by
  unfold pxM
  rw [ptRow_succ, List.filter_append]
  cases insF n X RW && insF y Y RH
  · simp
  · cases hq : (atF w h p n y == 1) <;> simp [pq, hq, List.filter_cons] <;> simpa using hq
theorem pxL_succ (w h : Nat) (p : List Int) (X Y RW RH : Int) (m : Nat) : pxL w h p X Y RW RH (m + 1) = pxL w h p X Y RW RH m ++ pxM w h p X Y RW RH m w := by
  unfold pxL pxM ptRows
  rw [List.range_succ, List.flatMap_append, List.filter_append]
  simp
theorem pxL_le (w h : Nat) (p : List Int) (X Y RW RH : Int) : ∀ m, (pxL w h p X Y RW RH m).length ≤ m * w
  | 0 => by simp [pxL, ptRows]
  | m + 1 => by
    have h1 := pxL_le w h p X Y RW RH m
    have h2 : (pxM w h p X Y RW RH m w).length ≤ w := by
      unfold pxM ptRow
      refine Nat.le_trans (List.length_filter_le _ _) ?_
      rw [List.length_map]
      exact Nat.le_trans (List.length_filter_le _ _) (by simp)
    rw [pxL_succ, List.length_append, Nat.succ_mul]; omega
theorem pxM_le (w h : Nat) (p : List Int) (X Y RW RH : Int) (y n : Nat) : (pxM w h p X Y RW RH y n).length ≤ n := by
  unfold pxM ptRow
  refine Nat.le_trans (List.length_filter_le _ _) ?_
  rw [List.length_map]
  exact Nat.le_trans (List.length_filter_le _ _) (by simp)
theorem refPixels0 (w h : Nat) (p : List Int) (X0 Y RW RH : Int) (hr : rightS w h p = true) (hX0 : I64 X0) (hY : I64 Y) (hRW : I64 RW) (hRH : I64 RH) (hl : p.length ≤ 1000000) {sv : SV} {rows : List Row}
    (hfin : ∀ (tm : TM) (r0 r1 : Option Row), tm.get 4 = apP (pxL w h p X0 Y RW RH h) → IL.Fin tab [.tmp 4] sv rows .ret tm [r0, r1, wpR (pxL w h p X0 Y RW RH h)]) :
    FSpec Try.prog 48 [ink w h p, rectV X0 Y RW RH] sv rows := by
  obtain ⟨hlen, h0, h1, h2, h3⟩ := right_len hr
  have hq : p.length = w * h := by exact_mod_cast hlen
  have hmul : w * h ≤ 640 * 640 := Nat.mul_le_mul (by omega) (by omega)
  refine FSpec.intro tab_ok Try.func48 rfl rfl rfl (by kernel_rfl) (by simp) fun w0 => ?_
  simp only [argTM, Nat.zero_add, Nat.reduceAdd]
  simp only [ink, rectV]
  repeat refine IW.seq ?_
  refine IW.region_seq tab_ok [some 2, some 3, some 4] rfl fun X K hX hK => ?_
  simp only [go_sem, if_true, if_false, reduceIte, Nat.reduceEqDiff, Nat.reduceAdd, Nat.reduceLT, Nat.reduceLeDiff, reduceCtorEq]
  refine hK _ _ ?_; clear hX hK X K
  show IW _ _ _ _ _ _ _ _
  repeat refine IW.seq ?_
  refine IW.region_seq tab_ok [some 8, some 9, some 10] rfl fun X K hX hK => ?_
  simp only [go_sem, if_true, if_false, reduceIte, Nat.reduceEqDiff, Nat.reduceAdd, Nat.reduceLT, Nat.reduceLeDiff, reduceCtorEq]
  refine hX.quiet _ _ (OpG.of_B rfl (opB_call rfl rfl (FSpec.nz (refRight w h p hl) (by simp [go_sem, if_true, if_false, reduceIte, Nat.reduceEqDiff, Nat.reduceAdd, Nat.reduceLT, Nat.reduceLeDiff, reduceCtorEq, List.map_cons, List.map_nil, List.append_nil, opnd, unc])))) ?_
  simp only [go_sem, if_true, if_false, reduceIte, Nat.reduceEqDiff, Nat.reduceAdd, Nat.reduceLT, Nat.reduceLeDiff, reduceCtorEq]
  refine hK _ _ ?_; clear hX hK X K
  show IW _ _ _ _ _ _ _ _
  repeat refine IW.seq ?_
  refine IW.cond rfl (fun hb => ?_) (fun hb => ?_)
  · simp [hr] at hb
  · refine IW.skip ?_
    show IW _ _ _ _ _ _ _ _
    repeat refine IW.seq ?_
    refine IW.region_seq tab_ok [some 5] rfl fun X K hX hK => ?_
    simp only [go_sem, if_true, if_false, reduceIte, Nat.reduceEqDiff, Nat.reduceAdd, Nat.reduceLT, Nat.reduceLeDiff, reduceCtorEq]
    refine hK _ _ ?_; clear hX hK X K
    show IW _ _ _ _ _ _ _ _
    repeat refine IW.seq ?_
    refine IW.region_seq tab_ok [some 6] rfl fun X K hX hK => ?_
    simp only [go_sem, if_true, if_false, reduceIte, Nat.reduceEqDiff, Nat.reduceAdd, Nat.reduceLT, Nat.reduceLeDiff, reduceCtorEq]
    refine hK _ _ ?_; clear hX hK X K
    show IW _ _ _ _ _ _ _ _
    repeat refine IW.seq ?_
    refine IW.block ?_
    refine IW.loop (α := {y : Nat // y ≤ h}) (fun y => [(2, .ptr 0 0 0), (3, .ptr 1 0 0), (5, apP (pxL w h p X0 Y RW RH y.1)), (6, .int .i64 y.1)]) (fun y => [some ⟨3, 33, [[.int .i64 w, .int .i64 h, .sl true (nums .u8 p)]]⟩, some ⟨4, 56, [[.int .i64 X0, .int .i64 Y, .int .i64 RW, .int .i64 RH]]⟩, wpR (pxL w h p X0 Y RW RH y.1)]) (fun y => h - y.1) ⟨0, Nat.zero_le _⟩ ?_ fun ⟨y, hy⟩ => ?_
    · have : pxL w h p X0 Y RW RH 0 = [] := rfl
      refine Ent.ren [0, 1, 2] rfl (by decide) ?_ ?_ (fun id ri e => by cases e) <;> simp [go_sem, if_true, if_false, reduceIte, Nat.reduceEqDiff, Nat.reduceAdd, Nat.reduceLT, Nat.reduceLeDiff, reduceCtorEq, subT, subH, sg, SV.ren, Row.ren, this, apP, wpR]
    · simp only []
      repeat refine IW.seq ?_
      refine IW.region_seq tab_ok [some 11, some 12, some 13, some 14] rfl fun X K hX hK => ?_
      simp only [go_sem, if_true, if_false, reduceIte, Nat.reduceEqDiff, Nat.reduceAdd, Nat.reduceLT, Nat.reduceLeDiff, reduceCtorEq]
      refine hK _ _ ?_; clear hX hK X K
      show IW _ _ _ _ _ _ _ _
      repeat refine IW.seq ?_
      refine IW.cond rfl (fun hb1 => ?_) (fun hb1 => ?_)
      · simp only [decide_eq_true_eq] at hb1
        have hyh : y < h := by omega
        refine IW.skip ?_
        show IW _ _ _ _ _ _ _ _
        refine IW.seq (IW.block ?_)
        repeat refine IW.seq ?_
        refine IW.region_seq tab_ok [some 7] rfl fun X K hX hK => ?_
        simp only [go_sem, if_true, if_false, reduceIte, Nat.reduceEqDiff, Nat.reduceAdd, Nat.reduceLT, Nat.reduceLeDiff, reduceCtorEq]
        refine hK _ _ ?_; clear hX hK X K
        show IW _ _ _ _ _ _ _ _
        repeat refine IW.seq ?_
        refine IW.block ?_
        refine IW.loop (α := {x : Nat // x ≤ w}) (fun x => [(2, .ptr 0 0 0), (3, .ptr 1 0 0), (5, apP (pxL w h p X0 Y RW RH y ++ pxM w h p X0 Y RW RH y x.1)), (6, .int .i64 y), (7, .int .i64 x.1)]) (fun x => [some ⟨3, 33, [[.int .i64 w, .int .i64 h, .sl true (nums .u8 p)]]⟩, some ⟨4, 56, [[.int .i64 X0, .int .i64 Y, .int .i64 RW, .int .i64 RH]]⟩, wpR (pxL w h p X0 Y RW RH y ++ pxM w h p X0 Y RW RH y x.1)]) (fun x => w - x.1) ⟨0, Nat.zero_le _⟩ ?_ fun ⟨x, hx⟩ => ?_
        · have : pxL w h p X0 Y RW RH y ++ pxM w h p X0 Y RW RH y 0 = pxL w h p X0 Y RW RH y := by simp [pxM, ptRow]
          simp only [this]
          cases pxL w h p X0 Y RW RH y with
          | nil =>
            refine Ent.ren [0, 1, 2] rfl (by decide) ?_ ?_ (fun id ri e => by cases e) <;> simp [go_sem, if_true, if_false, reduceIte, Nat.reduceEqDiff, Nat.reduceAdd, Nat.reduceLT, Nat.reduceLeDiff, reduceCtorEq, subT, subH, sg, SV.ren, Row.ren, apP, wpR]
          | cons b r =>
            refine Ent.ren [0, 1, 2] rfl (by decide) ?_ ?_ (fun id ri e => by cases e) <;> simp [go_sem, if_true, if_false, reduceIte, Nat.reduceEqDiff, Nat.reduceAdd, Nat.reduceLT, Nat.reduceLeDiff, reduceCtorEq, subT, subH, sg, SV.ren, Row.ren, apP, wpR, prs_ren]
        · simp only []
          have hbl : (pxL w h p X0 Y RW RH y ++ pxM w h p X0 Y RW RH y x).length ≤ 1000000 := by
            have a1 := pxL_le w h p X0 Y RW RH y
            have a2 := pxM_le w h p X0 Y RW RH y x
            have a3 : y * w ≤ h * w := Nat.mul_le_mul_right _ hy
            rw [Nat.mul_comm h w] at a3
            rw [List.length_append]; omega
          repeat refine IW.seq ?_
          refine IW.region_seq tab_ok [some 17, some 18, some 19, some 20] rfl fun X K hX hK => ?_
          simp only [go_sem, if_true, if_false, reduceIte, Nat.reduceEqDiff, Nat.reduceAdd, Nat.reduceLT, Nat.reduceLeDiff, reduceCtorEq]
          refine hK _ _ ?_; clear hX hK X K
          show IW _ _ _ _ _ _ _ _
          repeat refine IW.seq ?_
          refine IW.cond rfl (fun hb2 => ?_) (fun hb2 => ?_)
          · simp only [decide_eq_true_eq] at hb2
            have hxw : x < w := by omega
            have hIx : I64 x := by unfold I64; omega
            have hIy : I64 y := by unfold I64; omega
            refine IW.skip ?_
            show IW _ _ _ _ _ _ _ _
            refine IW.seq (IW.block ?_)
            repeat refine IW.seq ?_
            refine IW.region_seq tab_ok [some 23, some 24, some 25, some 26, some 27, some 28, some 29, some 30, some 31, some 32, some 33, some 34, some 35, some 36, some 37, some 38, some 39, some 40, some 41, some 42, some 43] rfl fun X K hX hK => ?_
            simp only [go_sem, if_true, if_false, reduceIte, Nat.reduceEqDiff, Nat.reduceAdd, Nat.reduceLT, Nat.reduceLeDiff, reduceCtorEq]
            refine hX.quiet _ _ (OpG.of_B rfl (opB_call rfl rfl (FSpec.nz (refIn x X0 RW hIx hX0 hRW) (by simp [go_sem, if_true, if_false, reduceIte, Nat.reduceEqDiff, Nat.reduceAdd, Nat.reduceLT, Nat.reduceLeDiff, reduceCtorEq, List.map_cons, List.map_nil, List.append_nil, opnd, unc])))) ?_
            simp only [go_sem, if_true, if_false, reduceIte, Nat.reduceEqDiff, Nat.reduceAdd, Nat.reduceLT, Nat.reduceLeDiff, reduceCtorEq]
            refine hX.quiet _ _ (OpG.of_BG rfl rfl rfl (by first | (simp only [go_sem, if_true, if_false, reduceIte, Nat.reduceEqDiff, Nat.reduceAdd, Nat.reduceLT, Nat.reduceLeDiff, reduceCtorEq]; done) | (simp [go_sem, if_true, if_false, reduceIte, Nat.reduceEqDiff, Nat.reduceAdd, Nat.reduceLT, Nat.reduceLeDiff, reduceCtorEq] <;> (intros; simp_all))) fun hc => opB_call rfl rfl (FSpec.nz (refIn y Y RH hIy hY hRH) (by simp [go_sem, if_true, if_false, reduceIte, Nat.reduceEqDiff, Nat.reduceAdd, Nat.reduceLT, Nat.reduceLeDiff, reduceCtorEq, List.map_cons, List.map_nil, List.append_nil, opnd, unc]))) ?_
            simp only [go_sem, if_true, if_false, reduceIte, Nat.reduceEqDiff, Nat.reduceAdd, Nat.reduceLT, Nat.reduceLeDiff, reduceCtorEq]
            refine hX.quiet _ _ (OpG.of_BG rfl rfl rfl (by first | (simp only [go_sem, if_true, if_false, reduceIte, Nat.reduceEqDiff, Nat.reduceAdd, Nat.reduceLT, Nat.reduceLeDiff, reduceCtorEq]; done) | (simp [go_sem, if_true, if_false, reduceIte, Nat.reduceEqDiff, Nat.reduceAdd, Nat.reduceLT, Nat.reduceLeDiff, reduceCtorEq] <;> (intros; simp_all))) fun hc => opB_call rfl rfl (FSpec.nz (refAtG w h x y p hq hl) (by simp [go_sem, if_true, if_false, reduceIte, Nat.reduceEqDiff, Nat.reduceAdd, Nat.reduceLT, Nat.reduceLeDiff, reduceCtorEq, List.map_cons, List.map_nil, List.append_nil, opnd, unc]))) ?_
            simp only [go_sem, if_true, if_false, reduceIte, Nat.reduceEqDiff, Nat.reduceAdd, Nat.reduceLT, Nat.reduceLeDiff, reduceCtorEq]
            refine hK _ _ ?_; clear hX hK X K
            show IW _ _ _ _ _ _ _ _
            have hms := pxM_succ w h p X0 Y RW RH y x
            repeat refine IW.seq ?_
            refine IW.cond rfl (fun hb3 => ?_) (fun hb3 => ?_)
            · rw [if_pos hb3] at hms
              repeat refine IW.seq ?_
              refine IW.region_seq tab_ok [some 44, some 45, some 46, some 47, some 48, some 49, some 5] rfl fun X K hX hK => ?_
              simp only [go_sem, if_true, if_false, reduceIte, Nat.reduceEqDiff, Nat.reduceAdd, Nat.reduceLT, Nat.reduceLeDiff, reduceCtorEq]
              refine hX.quiet _ _ (OpG.of_B rfl (opB_buildSlice tab_ok rfl (by simp [go_sem, if_true, if_false, reduceIte, Nat.reduceEqDiff, Nat.reduceAdd, Nat.reduceLT, Nat.reduceLeDiff, reduceCtorEq]) (by simp [go_sem, if_true, if_false, reduceIte, Nat.reduceEqDiff, Nat.reduceAdd, Nat.reduceLT, Nat.reduceLeDiff, reduceCtorEq]) (by simp) (by simp [go_sem, if_true, if_false, reduceIte, Nat.reduceEqDiff, Nat.reduceAdd, Nat.reduceLT, Nat.reduceLeDiff, reduceCtorEq, bsO, List.map_cons, List.map_nil]))) ?_
              simp only [go_sem, if_true, if_false, reduceIte, Nat.reduceEqDiff, Nat.reduceAdd, Nat.reduceLT, Nat.reduceLeDiff, reduceCtorEq, List.map_cons, List.map_nil]
              refine pushP (c := ((x : Int), (y : Int))) (l := pxL w h p X0 Y RW RH y ++ pxM w h p X0 Y RW RH y x) hX (by simp [go_sem, if_true, if_false, reduceIte, Nat.reduceEqDiff, Nat.reduceAdd, Nat.reduceLT, Nat.reduceLeDiff, reduceCtorEq]) (by simp [go_sem, if_true, if_false, reduceIte, Nat.reduceEqDiff, Nat.reduceAdd, Nat.reduceLT, Nat.reduceLeDiff, reduceCtorEq]) hbl (by intro d e; cases e; decide) ?_
              simp only [go_sem, if_true, if_false, reduceIte, Nat.reduceEqDiff, Nat.reduceAdd, Nat.reduceLT, Nat.reduceLeDiff, reduceCtorEq]
              refine hK _ _ ?_; clear hX hK X K
              show IW _ _ _ _ _ _ _ _
              repeat refine IW.seq ?_
              refine IW.region_seq tab_ok [some 21, some 22, some 7] rfl fun X K hX hK => ?_
              simp only [go_sem, if_true, if_false, reduceIte, Nat.reduceEqDiff, Nat.reduceAdd, Nat.reduceLT, Nat.reduceLeDiff, reduceCtorEq, succ_wrap hxw (Nat.le_trans (Nat.le_of_lt_succ (show w < 641 by omega)) (by decide))]
              refine hK _ _ ⟨⟨x + 1, hxw⟩, by simp only []; omega, ?_⟩
              simp only [hms, ← List.append_assoc, apP_snoc, wpR_snoc]
              refine Ent.ren [0, 1, 4] rfl (by decide) ?_ ?_ (fun id ri e => by cases e) <;> simp [go_sem, if_true, if_false, reduceIte, Nat.reduceEqDiff, Nat.reduceAdd, Nat.reduceLT, Nat.reduceLeDiff, reduceCtorEq, subT, subH, sg, SV.ren, Row.ren, prs_ren]
            · rw [if_neg (by rw [hb3]; simp), List.append_nil] at hms
              refine IW.skip ?_
              show IW _ _ _ _ _ _ _ _
              repeat refine IW.seq ?_
              refine IW.region_seq tab_ok [some 21, some 22, some 7] rfl fun X K hX hK => ?_
              simp only [go_sem, if_true, if_false, reduceIte, Nat.reduceEqDiff, Nat.reduceAdd, Nat.reduceLT, Nat.reduceLeDiff, reduceCtorEq, succ_wrap hxw (Nat.le_trans (Nat.le_of_lt_succ (show w < 641 by omega)) (by decide))]
              refine hK _ _ ⟨⟨x + 1, hxw⟩, by simp only []; omega, ?_⟩
              simp only [hms]
              cases pxL w h p X0 Y RW RH y ++ pxM w h p X0 Y RW RH y x with
              | nil =>
                refine Ent.ren [0, 1, 2] rfl (by decide) ?_ ?_ (fun id ri e => by cases e) <;> simp [go_sem, if_true, if_false, reduceIte, Nat.reduceEqDiff, Nat.reduceAdd, Nat.reduceLT, Nat.reduceLeDiff, reduceCtorEq, subT, subH, sg, SV.ren, Row.ren, apP, wpR]
              | cons b r =>
                refine Ent.ren [0, 1, 2] rfl (by decide) ?_ ?_ (fun id ri e => by cases e) <;> simp [go_sem, if_true, if_false, reduceIte, Nat.reduceEqDiff, Nat.reduceAdd, Nat.reduceLT, Nat.reduceLeDiff, reduceCtorEq, subT, subH, sg, SV.ren, Row.ren, apP, wpR, prs_ren]
          · refine IW.exit ?_
            show IW _ _ _ _ _ _ _ _
            simp only [decide_eq_false_iff_not] at hb2
            obtain rfl : x = w := by omega
            repeat refine IW.seq ?_
            refine IW.region_seq tab_ok [some 15, some 16, some 6] rfl fun X K hX hK => ?_
            simp only [go_sem, if_true, if_false, reduceIte, Nat.reduceEqDiff, Nat.reduceAdd, Nat.reduceLT, Nat.reduceLeDiff, reduceCtorEq, succ_wrap hyh (Nat.le_trans (Nat.le_of_lt_succ (show h < 641 by omega)) (by decide))]
            refine hK _ _ ⟨⟨y + 1, hyh⟩, by simp only []; omega, ?_⟩
            simp only [pxL_succ]
            cases pxL x h p X0 Y RW RH y ++ pxM x h p X0 Y RW RH y x with
            | nil =>
              refine Ent.ren [0, 1, 2] rfl (by decide) ?_ ?_ (fun id ri e => by cases e) <;> simp [go_sem, if_true, if_false, reduceIte, Nat.reduceEqDiff, Nat.reduceAdd, Nat.reduceLT, Nat.reduceLeDiff, reduceCtorEq, subT, subH, sg, SV.ren, Row.ren, apP, wpR]
            | cons b r =>
              refine Ent.ren [0, 1, 2] rfl (by decide) ?_ ?_ (fun id ri e => by cases e) <;> simp [go_sem, if_true, if_false, reduceIte, Nat.reduceEqDiff, Nat.reduceAdd, Nat.reduceLT, Nat.reduceLeDiff, reduceCtorEq, subT, subH, sg, SV.ren, Row.ren, apP, wpR, prs_ren]
      · refine IW.exit ?_
        show IW _ _ _ _ _ _ _ _
        simp only [decide_eq_false_iff_not] at hb1
        obtain rfl : y = h := by omega
        repeat refine IW.seq ?_
        refine IW.region_seq tab_ok [some 50, some 4] rfl fun X K hX hK => ?_
        simp only [go_sem, if_true, if_false, reduceIte, Nat.reduceEqDiff, Nat.reduceAdd, Nat.reduceLT, Nat.reduceLeDiff, reduceCtorEq]
        refine hK _ _ ?_; clear hX hK X K
        show IW _ _ _ _ _ _ _ _
        refine IW.ret (hfin _ _ _ ?_)
        simp [go_sem, if_true, if_false, reduceIte, Nat.reduceEqDiff, Nat.reduceAdd, Nat.reduceLT, Nat.reduceLeDiff, reduceCtorEq]
end Go.Proofs.Ytnbpbehlemaeoaa

set_option linter.unusedVariables false
set_option linter.unusedSimpArgs false
set_option maxRecDepth 10000
namespace Go.Proofs.Ytnbpbehlemaeoaa
open Go.IL
/-- A list of points that is appended to in a round: row 5. -/
def apQ (l : List (Int × Int)) : SV := match l with | [] => .nils | _ :: _ => .ref 5 0 l.length
def wpQ (l : List (Int × Int)) : Heap := match l with | [] => [] | _ :: _ => [some ⟨2, 68, prs l⟩]
theorem apQ_snoc (l : List (Int × Int)) (c : Int × Int) : apQ (l ++ [c]) = .ref 5 0 (l.length + 1) := by cases l <;> simp [apQ]
theorem wpQ_snoc (l : List (Int × Int)) (c : Int × Int) : wpQ (l ++ [c]) = [some ⟨2, 68, prs (l ++ [c])⟩] := by cases l <;> simp [wpQ]
theorem fPixels0 (w h : Nat) (p : List Int) (X0 Y RW RH : Int) (hr : rightS w h p = true) (hX0 : I64 X0) (hY : I64 Y) (hRW : I64 RW) (hRH : I64 RH) (hl : p.length ≤ 1000000) {sv : SV} {rows : List Row}
    (hfin : ∀ (tm : TM) (r0 r1 r2 r3 r4 : Option Row), tm.get 4 = apQ (pxL w h p X0 Y RW RH h) → IL.Fin tab [.tmp 4] sv rows .ret tm ([r0, r1, r2, r3, r4] ++ wpQ (pxL w h p X0 Y RW RH h))) :
    FSpec Try.prog 47 [ink w h p, rectV X0 Y RW RH] sv rows := by
  obtain ⟨hlen, h0, h1, h2, h3⟩ := right_len hr
  have hq : p.length = w * h := by exact_mod_cast hlen
  have hmul : w * h ≤ 640 * 640 := Nat.mul_le_mul (by omega) (by omega)
  refine FSpec.intro tab_ok Try.func47 rfl rfl rfl (by kernel_rfl) (by simp) fun w0 => ?_
  simp only [argTM, Nat.zero_add, Nat.reduceAdd]
  simp only [ink, rectV]
  repeat refine IW.seq ?_
  refine IW.region_seq tab_ok [some 2, some 3, some 4] rfl fun X K hX hK => ?_
  simp only [go_sem, if_true, if_false, reduceIte, Nat.reduceEqDiff, Nat.reduceAdd, Nat.reduceLT, Nat.reduceLeDiff, reduceCtorEq]
  refine hK _ _ ?_; clear hX hK X K
  show IW _ _ _ _ _ _ _ _
  repeat refine IW.seq ?_
  refine IW.region_seq tab_ok [some 7, some 8, some 9] rfl fun X K hX hK => ?_
  simp only [go_sem, if_true, if_false, reduceIte, Nat.reduceEqDiff, Nat.reduceAdd, Nat.reduceLT, Nat.reduceLeDiff, reduceCtorEq]
  refine hX.quiet _ _ (OpG.of_B rfl (opB_call rfl rfl (FSpec.nz (fRight w h p hl) (by simp [go_sem, if_true, if_false, reduceIte, Nat.reduceEqDiff, Nat.reduceAdd, Nat.reduceLT, Nat.reduceLeDiff, reduceCtorEq, List.map_cons, List.map_nil, List.append_nil, opnd, unc])))) ?_
  simp only [go_sem, if_true, if_false, reduceIte, Nat.reduceEqDiff, Nat.reduceAdd, Nat.reduceLT, Nat.reduceLeDiff, reduceCtorEq]
  refine hK _ _ ?_; clear hX hK X K
  show IW _ _ _ _ _ _ _ _
  repeat refine IW.seq ?_
  refine IW.cond rfl (fun hb => ?_) (fun hb => ?_)
  · simp [hr] at hb
  · refine IW.skip ?_
    show IW _ _ _ _ _ _ _ _
    repeat refine IW.seq ?_
    refine IW.region_seq tab_ok [some 5] rfl fun X K hX hK => ?_
    simp only [go_sem, if_true, if_false, reduceIte, Nat.reduceEqDiff, Nat.reduceAdd, Nat.reduceLT, Nat.reduceLeDiff, reduceCtorEq]
    refine hK _ _ ?_; clear hX hK X K
    show IW _ _ _ _ _ _ _ _
    repeat refine IW.seq ?_
    refine IW.region_seq tab_ok [some 10, some 11, some 12, some 13] rfl fun X K hX hK => ?_
    simp only [go_sem, if_true, if_false, reduceIte, Nat.reduceEqDiff, Nat.reduceAdd, Nat.reduceLT, Nat.reduceLeDiff, reduceCtorEq]
    refine hX.quiet _ _ (OpG.of_B rfl (opPoints rfl (isSlc_sl _ _) rfl)) ?_
    simp only [go_sem, if_true, if_false, reduceIte, Nat.reduceEqDiff, Nat.reduceAdd, Nat.reduceLT, Nat.reduceLeDiff, reduceCtorEq]
    refine hK _ _ ?_; clear hX hK X K
    show IW _ _ _ _ _ _ _ _
    repeat refine IW.seq ?_
    refine IW.block ?_
    obtain ⟨HH, hHH⟩ : ∃ HH : List (Int × Int) → Heap, HH = fun pre => [some ⟨3, 33, [[.int .i64 w, .int .i64 h, .sl true (nums .u8 p)]]⟩, some ⟨4, 56, [[.int .i64 X0, .int .i64 Y, .int .i64 RW, .int .i64 RH]]⟩, some ⟨1, 63, [[apQ (pre.filter (pq w h p))]]⟩, some ⟨3, 90, [[.int .i64 w, .int .i64 h, .any]]⟩, some ⟨4, 56, [[.int .i64 X0, .int .i64 Y, .int .i64 RW, .int .i64 RH]]⟩] ++ wpQ (pre.filter (pq w h p)) := ⟨_, rfl⟩
    refine IW.ent (tm' := [(13, .clo 80 [.ptr 3 0 0, .ptr 4 0 0]), (2, .ptr 0 0 0), (3, .ptr 1 0 0), (5, .ptr 2 0 0)]) (h' := HH []) (Ent.cut ?_ ?_) ?_
    · rw [hHH]; simp [go_sem, if_true, if_false, reduceIte, Nat.reduceEqDiff, Nat.reduceAdd, Nat.reduceLT, Nat.reduceLeDiff, reduceCtorEq, wpQ]
    · rw [hHH]; simp only [go_sem, if_true, if_false, reduceIte, Nat.reduceEqDiff, Nat.reduceAdd, Nat.reduceLT, Nat.reduceLeDiff, reduceCtorEq, apQ, wpQ, List.filter_nil, List.append_nil]
    refine IW.rangeFunc (capsC := [.ptr 0 0 0, .ptr 1 0 0]) (rowsC := [⟨3, 90, [[.int .i64 w, .int .i64 h, .any]]⟩, ⟨4, 56, [[.int .i64 X0, .int .i64 Y, .int .i64 RW, .int .i64 RH]]⟩]) [3, 4] (fun x : Int × Int => .agg [.int .i64 x.1, .int .i64 x.2]) ptV HH (fun ys => ys = ptRows w X0 Y RW RH h) rfl (by decide) rfl (fun t => nomapT_get t rfl) (fun pre => by rw [hHH]; dsimp only; generalize pre.filter (pq w h p) = l; cases l <;> simp [go_sem, if_true, if_false, reduceIte, Nat.reduceEqDiff, Nat.reduceAdd, Nat.reduceLT, Nat.reduceLeDiff, reduceCtorEq, apQ, wpQ, prs_nomap]) rfl (fun pre => by rw [hHH]; simp [wpQ]) (fun x ρ O F w => ptV_rel x ρ O F w) (by decide) rfl (by rw [hHH]; rfl) rfl (fun pre i r e => ?_) (fPoints w h X0 Y RW RH (by omega) (by omega) hX0 hY hRW hRH) (fun c k pre x hpx hc => ?_) (fun ys hys => ?_)
    · rw [hHH]
      match i, e with
      | 0, e => cases e; exact ⟨_, rfl, rfl⟩
      | 1, e => cases e; exact ⟨_, rfl, rfl⟩
      | i + 2, e => simp at e
    · obtain ⟨x, y, hx, hy, rfl, hix, hiy⟩ := mem_ptRows (mem_ext hpx)
      have hlen9 : (HH []).length = 5 := by rw [hHH]; rfl
      rw [hlen9] at hc
      have hHp : HH pre = _ := congrFun hHH pre
      have hHx : HH (pre ++ [((x : Int), (y : Int))]) = _ := congrFun hHH _
      obtain ⟨w1, w2, w3⟩ := wrap_cell hx hy hq (by omega)
      have hat0 := nums_at (k := .u8) (xs := p) (i := y * w + x) w3
      have hpq : pq w h p ((x : Int), (y : Int)) = (p.getD (y * w + x) 0 == 1) := by
        unfold pq
        rw [atF, if_neg (by omega)]
        simp only [Int.toNat_natCast]
      have hfx : (pre ++ [((x : Int), (y : Int))]).filter (pq w h p) = pre.filter (pq w h p) ++ (if (p.getD (y * w + x) 0 == 1) = true then [((x : Int), (y : Int))] else []) := by
        rw [List.filter_append, List.filter_cons, hpq, List.filter_nil]
      have hbl : (pre.filter (pq w h p)).length ≤ 1000000 := by
        obtain ⟨r, hr2⟩ := hpx
        have a1 := pxL_le w h p X0 Y RW RH h
        unfold pxL at a1
        rw [← hr2, List.filter_append, List.length_append] at a1
        rw [Nat.mul_comm w h] at hmul
        omega
      rw [hHp]
      cases hf : pre.filter (pq w h p) with
      | nil =>
        rw [hf] at hfx
        simp only [apQ, wpQ, List.append_nil, List.cons_append, List.nil_append]
        repeat refine IWR.seq ?_
        refine IWR.region_seq tab_ok [some 6, none] rfl (by kernel_rfl) fun X K hX hK => ?_
        simp only [go_sem, if_true, if_false, reduceIte, Nat.reduceEqDiff, Nat.reduceAdd, Nat.reduceLT, Nat.reduceLeDiff, reduceCtorEq]
        refine hX.op _ _ rfl (opS_store tab_ok rfl (by simp [go_sem, if_true, if_false, reduceIte, Nat.reduceEqDiff, Nat.reduceAdd, Nat.reduceLT, Nat.reduceLeDiff, reduceCtorEq]) (by simp [go_sem, if_true, if_false, reduceIte, Nat.reduceEqDiff, Nat.reduceAdd, Nat.reduceLT, Nat.reduceLeDiff, reduceCtorEq]) (by simp [go_sem, if_true, if_false, reduceIte, Nat.reduceEqDiff, Nat.reduceAdd, Nat.reduceLT, Nat.reduceLeDiff, reduceCtorEq]) (by simp [go_sem, if_true, if_false, reduceIte, Nat.reduceEqDiff, Nat.reduceAdd, Nat.reduceLT, Nat.reduceLeDiff, reduceCtorEq]) (by simp [go_sem, if_true, if_false, reduceIte, Nat.reduceEqDiff, Nat.reduceAdd, Nat.reduceLT, Nat.reduceLeDiff, reduceCtorEq]) (by simp [go_sem, if_true, if_false, reduceIte, Nat.reduceEqDiff, Nat.reduceAdd, Nat.reduceLT, Nat.reduceLeDiff, reduceCtorEq])) ?_
        simp only [go_sem, if_true, if_false, reduceIte, Nat.reduceEqDiff, Nat.reduceAdd, Nat.reduceLT, Nat.reduceLeDiff, reduceCtorEq]
        refine hK _ _ fun c2 hc2 => ?_
        clear hX hK X K
        rw [hlen9] at hc2
        show IWR _ _ _ _ _ _ _ _ _ _
        repeat refine IWR.seq ?_
        refine IWR.block ?_
        repeat refine IWR.seq ?_
        refine IWR.region_seq tab_ok [some 15, some 16, some 17, some 18, some 19, some 20, some 21, some 22, some 23, some 24, some 25, some 26, some 27] rfl (by kernel_rfl) fun X K hX hK => ?_
        simp only [go_sem, if_true, if_false, reduceIte, Nat.reduceEqDiff, Nat.reduceAdd, Nat.reduceLT, Nat.reduceLeDiff, reduceCtorEq, w1, w2, hat0]
        refine ⟨⟨by omega, by omega⟩, ?_⟩
        refine hK _ _ ?_; clear hX hK X K
        show IWR _ _ _ _ _ _ _ _ _ _
        repeat refine IWR.seq ?_
        refine IWR.cond rfl (fun hb => ?_) (fun hb => ?_)
        · rw [if_pos hb] at hfx
          repeat refine IWR.seq ?_
          refine IWR.region_seq tab_ok [some 28, some 29, some 30, some 31, none] rfl (by kernel_rfl) fun X K hX hK => ?_
          simp only [go_sem, if_true, if_false, reduceIte, Nat.reduceEqDiff, Nat.reduceAdd, Nat.reduceLT, Nat.reduceLeDiff, reduceCtorEq]
          refine hX.quiet _ _ (OpG.of_B rfl (opB_buildSlice tab_ok rfl (by simp [go_sem, if_true, if_false, reduceIte, Nat.reduceEqDiff, Nat.reduceAdd, Nat.reduceLT, Nat.reduceLeDiff, reduceCtorEq]) (by simp [go_sem, if_true, if_false, reduceIte, Nat.reduceEqDiff, Nat.reduceAdd, Nat.reduceLT, Nat.reduceLeDiff, reduceCtorEq]) (by simp) (by simp [go_sem, if_true, if_false, reduceIte, Nat.reduceEqDiff, Nat.reduceAdd, Nat.reduceLT, Nat.reduceLeDiff, reduceCtorEq, bsO, List.map_cons, List.map_nil]))) ?_
          simp only [go_sem, if_true, if_false, reduceIte, Nat.reduceEqDiff, Nat.reduceAdd, Nat.reduceLT, Nat.reduceLeDiff, reduceCtorEq, List.map_cons, List.map_nil]
          refine hX.quiet _ _ (OpG.of_B rfl (opB_append_nil tab_ok (ys := [[.int .i64 x, .int .i64 y]]) rfl (by simp [go_sem, if_true, if_false, reduceIte, Nat.reduceEqDiff, Nat.reduceAdd, Nat.reduceLT, Nat.reduceLeDiff, reduceCtorEq]) rfl (by simp [go_sem, if_true, if_false, reduceIte, Nat.reduceEqDiff, Nat.reduceAdd, Nat.reduceLT, Nat.reduceLeDiff, reduceCtorEq]; try omega) rfl (by simp [go_sem, if_true, if_false, reduceIte, Nat.reduceEqDiff, Nat.reduceAdd, Nat.reduceLT, Nat.reduceLeDiff, reduceCtorEq]) (by simp [go_sem, if_true, if_false, reduceIte, Nat.reduceEqDiff, Nat.reduceAdd, Nat.reduceLT, Nat.reduceLeDiff, reduceCtorEq]) (by first | exact nums_w _ _ | exact prs_w _ | simp [go_sem, if_true, if_false, reduceIte, Nat.reduceEqDiff, Nat.reduceAdd, Nat.reduceLT, Nat.reduceLeDiff, reduceCtorEq, nums]) (by simp [go_sem, if_true, if_false, reduceIte, Nat.reduceEqDiff, Nat.reduceAdd, Nat.reduceLT, Nat.reduceLeDiff, reduceCtorEq]) (by simp [go_sem, if_true, if_false, reduceIte, Nat.reduceEqDiff, Nat.reduceAdd, Nat.reduceLT, Nat.reduceLeDiff, reduceCtorEq]; try omega) (by simp [go_sem, if_true, if_false, reduceIte, Nat.reduceEqDiff, Nat.reduceAdd, Nat.reduceLT, Nat.reduceLeDiff, reduceCtorEq]; try omega))) ?_
          simp only [go_sem, if_true, if_false, reduceIte, Nat.reduceEqDiff, Nat.reduceAdd, Nat.reduceLT, Nat.reduceLeDiff, reduceCtorEq, List.length_cons, List.length_nil]
          refine hX.op _ _ rfl (opS_store tab_ok rfl (by simp [go_sem, if_true, if_false, reduceIte, Nat.reduceEqDiff, Nat.reduceAdd, Nat.reduceLT, Nat.reduceLeDiff, reduceCtorEq]) (by simp [go_sem, if_true, if_false, reduceIte, Nat.reduceEqDiff, Nat.reduceAdd, Nat.reduceLT, Nat.reduceLeDiff, reduceCtorEq]) (by simp [go_sem, if_true, if_false, reduceIte, Nat.reduceEqDiff, Nat.reduceAdd, Nat.reduceLT, Nat.reduceLeDiff, reduceCtorEq]) (by simp [go_sem, if_true, if_false, reduceIte, Nat.reduceEqDiff, Nat.reduceAdd, Nat.reduceLT, Nat.reduceLeDiff, reduceCtorEq]) (by simp [go_sem, if_true, if_false, reduceIte, Nat.reduceEqDiff, Nat.reduceAdd, Nat.reduceLT, Nat.reduceLeDiff, reduceCtorEq]) (by simp [go_sem, if_true, if_false, reduceIte, Nat.reduceEqDiff, Nat.reduceAdd, Nat.reduceLT, Nat.reduceLeDiff, reduceCtorEq])) ?_
          simp only [go_sem, if_true, if_false, reduceIte, Nat.reduceEqDiff, Nat.reduceAdd, Nat.reduceLT, Nat.reduceLeDiff, reduceCtorEq]
          refine hK _ _ fun c3 hc3 => ?_
          refine Ent.ren [0, 1, 2, 3, 4, 7] (by rw [hHx]; simp [hfx, wpQ]) (by decide) trivial ?_ (fun id ri e => ?_)
          · rw [hHx]
            simp [go_sem, if_true, if_false, reduceIte, Nat.reduceEqDiff, Nat.reduceAdd, Nat.reduceLT, Nat.reduceLeDiff, reduceCtorEq, subH, sg, hfx, apQ, wpQ, Row.ren, prs_ren, prs]
          · have h5 := hc3 id ri e
            rw [hlen9] at h5
            match id, h5 with
            | 0, _ => rfl
            | 1, _ => rfl
            | 2, _ => rfl
            | 3, _ => rfl
            | 4, _ => rfl
            | n + 5, h5 => omega
        · rw [if_neg (by rw [hb]; simp), List.append_nil] at hfx
          refine IWR.skip fun c3 hc3 => ?_
          refine Ent.ren [0, 1, 2, 3, 4] (by rw [hHx]; simp [hfx, wpQ]) (by decide) trivial ?_ (fun id ri e => ?_)
          · rw [hHx]
            simp [go_sem, if_true, if_false, reduceIte, Nat.reduceEqDiff, Nat.reduceAdd, Nat.reduceLT, Nat.reduceLeDiff, reduceCtorEq, subH, sg, hfx, apQ, wpQ, Row.ren, prs_ren]
          · have h5 := hc3 id ri e
            rw [hlen9] at h5
            match id, h5 with
            | 0, _ => rfl
            | 1, _ => rfl
            | 2, _ => rfl
            | 3, _ => rfl
            | 4, _ => rfl
            | n + 5, h5 => omega
      | cons b r =>
        rw [hf, List.length_cons] at hbl
        rw [hf] at hfx
        simp only [apQ, wpQ, List.append_nil, List.cons_append, List.nil_append]
        repeat refine IWR.seq ?_
        refine IWR.region_seq tab_ok [some 6, none] rfl (by kernel_rfl) fun X K hX hK => ?_
        simp only [go_sem, if_true, if_false, reduceIte, Nat.reduceEqDiff, Nat.reduceAdd, Nat.reduceLT, Nat.reduceLeDiff, reduceCtorEq]
        refine hX.op _ _ rfl (opS_store tab_ok rfl (by simp [go_sem, if_true, if_false, reduceIte, Nat.reduceEqDiff, Nat.reduceAdd, Nat.reduceLT, Nat.reduceLeDiff, reduceCtorEq]) (by simp [go_sem, if_true, if_false, reduceIte, Nat.reduceEqDiff, Nat.reduceAdd, Nat.reduceLT, Nat.reduceLeDiff, reduceCtorEq]) (by simp [go_sem, if_true, if_false, reduceIte, Nat.reduceEqDiff, Nat.reduceAdd, Nat.reduceLT, Nat.reduceLeDiff, reduceCtorEq]) (by simp [go_sem, if_true, if_false, reduceIte, Nat.reduceEqDiff, Nat.reduceAdd, Nat.reduceLT, Nat.reduceLeDiff, reduceCtorEq]) (by simp [go_sem, if_true, if_false, reduceIte, Nat.reduceEqDiff, Nat.reduceAdd, Nat.reduceLT, Nat.reduceLeDiff, reduceCtorEq]) (by simp [go_sem, if_true, if_false, reduceIte, Nat.reduceEqDiff, Nat.reduceAdd, Nat.reduceLT, Nat.reduceLeDiff, reduceCtorEq])) ?_
        simp only [go_sem, if_true, if_false, reduceIte, Nat.reduceEqDiff, Nat.reduceAdd, Nat.reduceLT, Nat.reduceLeDiff, reduceCtorEq]
        refine hK _ _ fun c2 hc2 => ?_
        clear hX hK X K
        rw [hlen9] at hc2
        show IWR _ _ _ _ _ _ _ _ _ _
        repeat refine IWR.seq ?_
        refine IWR.block ?_
        repeat refine IWR.seq ?_
        refine IWR.region_seq tab_ok [some 15, some 16, some 17, some 18, some 19, some 20, some 21, some 22, some 23, some 24, some 25, some 26, some 27] rfl (by kernel_rfl) fun X K hX hK => ?_
        simp only [go_sem, if_true, if_false, reduceIte, Nat.reduceEqDiff, Nat.reduceAdd, Nat.reduceLT, Nat.reduceLeDiff, reduceCtorEq, w1, w2, hat0]
        refine ⟨⟨by omega, by omega⟩, ?_⟩
        refine hK _ _ ?_; clear hX hK X K
        show IWR _ _ _ _ _ _ _ _ _ _
        repeat refine IWR.seq ?_
        refine IWR.cond rfl (fun hb => ?_) (fun hb => ?_)
        · rw [if_pos hb] at hfx
          repeat refine IWR.seq ?_
          refine IWR.region_seq tab_ok [some 28, some 29, some 30, some 31, none] rfl (by kernel_rfl) fun X K hX hK => ?_
          simp only [go_sem, if_true, if_false, reduceIte, Nat.reduceEqDiff, Nat.reduceAdd, Nat.reduceLT, Nat.reduceLeDiff, reduceCtorEq]
          refine hX.quiet _ _ (OpG.of_B rfl (opB_buildSlice tab_ok rfl (by simp [go_sem, if_true, if_false, reduceIte, Nat.reduceEqDiff, Nat.reduceAdd, Nat.reduceLT, Nat.reduceLeDiff, reduceCtorEq]) (by simp [go_sem, if_true, if_false, reduceIte, Nat.reduceEqDiff, Nat.reduceAdd, Nat.reduceLT, Nat.reduceLeDiff, reduceCtorEq]) (by simp) (by simp [go_sem, if_true, if_false, reduceIte, Nat.reduceEqDiff, Nat.reduceAdd, Nat.reduceLT, Nat.reduceLeDiff, reduceCtorEq, bsO, List.map_cons, List.map_nil]))) ?_
          simp only [go_sem, if_true, if_false, reduceIte, Nat.reduceEqDiff, Nat.reduceAdd, Nat.reduceLT, Nat.reduceLeDiff, reduceCtorEq, List.map_cons, List.map_nil]
          refine hX.op _ _ rfl (opS_append tab_ok (ys := [[.int .i64 x, .int .i64 y]]) rfl (by simp [go_sem, if_true, if_false, reduceIte, Nat.reduceEqDiff, Nat.reduceAdd, Nat.reduceLT, Nat.reduceLeDiff, reduceCtorEq, prs_length, List.length_cons]) rfl (by simp [go_sem, if_true, if_false, reduceIte, Nat.reduceEqDiff, Nat.reduceAdd, Nat.reduceLT, Nat.reduceLeDiff, reduceCtorEq, prs_length, List.length_cons]; try omega) rfl (by simp [go_sem, if_true, if_false, reduceIte, Nat.reduceEqDiff, Nat.reduceAdd, Nat.reduceLT, Nat.reduceLeDiff, reduceCtorEq]) (by simp [go_sem, if_true, if_false, reduceIte, Nat.reduceEqDiff, Nat.reduceAdd, Nat.reduceLT, Nat.reduceLeDiff, reduceCtorEq]) (by simp [go_sem, if_true, if_false, reduceIte, Nat.reduceEqDiff, Nat.reduceAdd, Nat.reduceLT, Nat.reduceLeDiff, reduceCtorEq, prs_length, List.length_cons]) rfl rfl rfl (by first | exact nums_w _ _ | exact prs_w _ | simp [go_sem, if_true, if_false, reduceIte, Nat.reduceEqDiff, Nat.reduceAdd, Nat.reduceLT, Nat.reduceLeDiff, reduceCtorEq, nums]) (by simp [go_sem, if_true, if_false, reduceIte, Nat.reduceEqDiff, Nat.reduceAdd, Nat.reduceLT, Nat.reduceLeDiff, reduceCtorEq]) (by simp [go_sem, if_true, if_false, reduceIte, Nat.reduceEqDiff, Nat.reduceAdd, Nat.reduceLT, Nat.reduceLeDiff, reduceCtorEq]; omega) (by simp [go_sem, if_true, if_false, reduceIte, Nat.reduceEqDiff, Nat.reduceAdd, Nat.reduceLT, Nat.reduceLeDiff, reduceCtorEq]; omega) (by intro d e; cases e; decide)) ?_
          simp only [go_sem, if_true, if_false, reduceIte, Nat.reduceEqDiff, Nat.reduceAdd, Nat.reduceLT, Nat.reduceLeDiff, reduceCtorEq, List.length_cons, List.length_nil, prs_length, List.length_cons]
          refine hX.op _ _ rfl (opS_store tab_ok rfl (by simp [go_sem, if_true, if_false, reduceIte, Nat.reduceEqDiff, Nat.reduceAdd, Nat.reduceLT, Nat.reduceLeDiff, reduceCtorEq]) (by simp [go_sem, if_true, if_false, reduceIte, Nat.reduceEqDiff, Nat.reduceAdd, Nat.reduceLT, Nat.reduceLeDiff, reduceCtorEq]) (by simp [go_sem, if_true, if_false, reduceIte, Nat.reduceEqDiff, Nat.reduceAdd, Nat.reduceLT, Nat.reduceLeDiff, reduceCtorEq]) (by simp [go_sem, if_true, if_false, reduceIte, Nat.reduceEqDiff, Nat.reduceAdd, Nat.reduceLT, Nat.reduceLeDiff, reduceCtorEq]) (by simp [go_sem, if_true, if_false, reduceIte, Nat.reduceEqDiff, Nat.reduceAdd, Nat.reduceLT, Nat.reduceLeDiff, reduceCtorEq]) (by simp [go_sem, if_true, if_false, reduceIte, Nat.reduceEqDiff, Nat.reduceAdd, Nat.reduceLT, Nat.reduceLeDiff, reduceCtorEq])) ?_
          simp only [go_sem, if_true, if_false, reduceIte, Nat.reduceEqDiff, Nat.reduceAdd, Nat.reduceLT, Nat.reduceLeDiff, reduceCtorEq]
          refine hK _ _ fun c3 hc3 => ?_
          refine Ent.ren [0, 1, 2, 3, 4, 8] (by rw [hHx]; simp [hfx, wpQ]) (by decide) trivial ?_ (fun id ri e => ?_)
          · rw [hHx]
            have ht : (prs (b :: r)).take (r.length + 1) ++ [[.int .i64 x, .int .i64 y]] = prs (b :: (r ++ [((x : Int), (y : Int))])) := by
              rw [List.take_of_length_le (by rw [prs_length]; simp)]; simp [prs]
            simp [go_sem, if_true, if_false, reduceIte, Nat.reduceEqDiff, Nat.reduceAdd, Nat.reduceLT, Nat.reduceLeDiff, reduceCtorEq, subH, sg, hfx, apQ, wpQ, Row.ren, prs_ren, ht]
          · have h5 := hc3 id ri e
            rw [hlen9] at h5
            match id, h5 with
            | 0, _ => rfl
            | 1, _ => rfl
            | 2, _ => rfl
            | 3, _ => rfl
            | 4, _ => rfl
            | n + 5, h5 => omega
        · rw [if_neg (by rw [hb]; simp), List.append_nil] at hfx
          refine IWR.skip fun c3 hc3 => ?_
          refine Ent.ren [0, 1, 2, 3, 4, 5] (by rw [hHx]; simp [hfx, wpQ]) (by decide) trivial ?_ (fun id ri e => ?_)
          · rw [hHx]
            simp [go_sem, if_true, if_false, reduceIte, Nat.reduceEqDiff, Nat.reduceAdd, Nat.reduceLT, Nat.reduceLeDiff, reduceCtorEq, subH, sg, hfx, apQ, wpQ, Row.ren, prs_ren]
          · have h5 := hc3 id ri e
            rw [hlen9] at h5
            match id, h5 with
            | 0, _ => rfl
            | 1, _ => rfl
            | 2, _ => rfl
            | 3, _ => rfl
            | 4, _ => rfl
            | n + 5, h5 => omega
    · subst hys
      have hHp : HH (ptRows w X0 Y RW RH h) = _ := congrFun hHH _
      rw [hHp]
      show IW _ _ _ _ _ _ _ _
      repeat refine IW.seq ?_
      refine IW.region_seq tab_ok [some 32, some 4] rfl fun X K hX hK => ?_
      simp only [go_sem, if_true, if_false, reduceIte, Nat.reduceEqDiff, Nat.reduceAdd, Nat.reduceLT, Nat.reduceLeDiff, reduceCtorEq]
      refine hK _ _ ?_; clear hX hK X K
      show IW _ _ _ _ _ _ _ _
      refine IW.ret (hfin _ _ _ _ _ _ ?_)
      simp [go_sem, if_true, if_false, reduceIte, Nat.reduceEqDiff, Nat.reduceAdd, Nat.reduceLT, Nat.reduceLeDiff, reduceCtorEq, pxL]
end Go.Proofs.Ytnbpbehlemaeoaa

set_option linter.unusedVariables false
set_option linter.unusedSimpArgs false
set_option maxRecDepth 10000
namespace Go.Proofs.Ytnbpbehlemaeoaa
open Go.IL
def pixF (W H : Int) (p : List Int) (X0 Y RW RH : Int) : List (Int × Int) := if rightS W H p then pxL W.toNat H.toNat p X0 Y RW RH H.toNat else []
theorem fPixels (W H : Int) (p : List Int) (X0 Y RW RH : Int) (hX0 : I64 X0) (hY : I64 Y) (hRW : I64 RW) (hRH : I64 RH) (hl : p.length ≤ 1000000) :
    FSpec Try.prog 47 [ink W H p, rectV X0 Y RW RH] (lsV 0 (pixF W H p X0 Y RW RH).length) [⟨2, 68, prs (pixF W H p X0 Y RW RH)⟩] := by
  by_cases hr : rightS W H p = true
  case neg =>
    have e1 : pixF W H p X0 Y RW RH = [] := by simp [pixF, hr]
    rw [e1]
    refine FSpec.ghost (r := ⟨2, 68, prs []⟩) (sv := .nils) ?_ fun F w v h => rel_ls_nil h
    refine FSpec.intro tab_ok Try.func47 rfl rfl rfl (by kernel_rfl) (by simp) fun w0 => ?_
    simp only [argTM, Nat.zero_add, Nat.reduceAdd]
    simp only [ink, rectV]
    repeat refine IW.seq ?_
    refine IW.region_seq tab_ok [some 2, some 3, some 4] rfl fun X K hX hK => ?_
    simp only [go_sem, if_true, if_false, reduceIte, Nat.reduceEqDiff, Nat.reduceAdd, Nat.reduceLT, Nat.reduceLeDiff, reduceCtorEq]
    refine hK _ _ ?_; clear hX hK X K
    show IW _ _ _ _ _ _ _ _
    repeat refine IW.seq ?_
    refine IW.region_seq tab_ok [some 7, some 8, some 9] rfl fun X K hX hK => ?_
    simp only [go_sem, if_true, if_false, reduceIte, Nat.reduceEqDiff, Nat.reduceAdd, Nat.reduceLT, Nat.reduceLeDiff, reduceCtorEq]
    refine hX.quiet _ _ (OpG.of_B rfl (opB_call rfl rfl (FSpec.nz (fRight W H p hl) (by simp [go_sem, if_true, if_false, reduceIte, Nat.reduceEqDiff, Nat.reduceAdd, Nat.reduceLT, Nat.reduceLeDiff, reduceCtorEq, List.map_cons, List.map_nil, List.append_nil, opnd, unc])))) ?_
    simp only [go_sem, if_true, if_false, reduceIte, Nat.reduceEqDiff, Nat.reduceAdd, Nat.reduceLT, Nat.reduceLeDiff, reduceCtorEq]
    refine hK _ _ ?_; clear hX hK X K
    show IW _ _ _ _ _ _ _ _
    repeat refine IW.seq ?_
    refine IW.cond rfl (fun hb => ?_) (fun hb => ?_)
    · repeat refine IW.seq ?_
      refine IW.region_seq tab_ok [some 4] rfl fun X K hX hK => ?_
      simp only [go_sem, if_true, if_false, reduceIte, Nat.reduceEqDiff, Nat.reduceAdd, Nat.reduceLT, Nat.reduceLeDiff, reduceCtorEq]
      refine hK _ _ ?_; clear hX hK X K
      show IW _ _ _ _ _ _ _ _
      refine IW.ret (Fin.scal rfl rfl ?_)
      rfl
    · simp [hr] at hb
  case pos =>
    obtain ⟨hlen, h0, h1, h2, h3⟩ := right_len hr
    obtain ⟨w, rfl⟩ : ∃ w : Nat, W = w := ⟨W.toNat, by omega⟩
    obtain ⟨h, rfl⟩ : ∃ h : Nat, H = h := ⟨H.toNat, by omega⟩
    have e1 : pixF w h p X0 Y RW RH = pxL w h p X0 Y RW RH h := by simp [pixF, hr]
    rw [e1]
    have key := fun sv rows => @fPixels0 w h p X0 Y RW RH hr hX0 hY hRW hRH hl sv rows
    generalize pxL w h p X0 Y RW RH h = L at *
    cases L with
    | nil => exact FSpec.ghost (r := ⟨2, 68, prs []⟩) (sv := .nils) (key _ _ fun tm r0 r1 r2 r3 r4 e => Fin.scal rfl rfl e) fun F w v h => rel_ls_nil h
    | cons b r => exact key _ _ fun tm r0 r1 r2 r3 r4 e => Fin.tmp1 5 rfl (prs_nold _) e (by simp [go_sem, if_true, if_false, reduceIte, Nat.reduceEqDiff, Nat.reduceAdd, Nat.reduceLT, Nat.reduceLeDiff, reduceCtorEq, wpQ, Row.ren, prs_ren, hrow])
theorem refPixels (W H : Int) (p : List Int) (X0 Y RW RH : Int) (hX0 : I64 X0) (hY : I64 Y) (hRW : I64 RW) (hRH : I64 RH) (hl : p.length ≤ 1000000) :
    FSpec Try.prog 48 [ink W H p, rectV X0 Y RW RH] (lsV 0 (pixF W H p X0 Y RW RH).length) [⟨2, 68, prs (pixF W H p X0 Y RW RH)⟩] := by
  by_cases hr : rightS W H p = true
  case neg =>
    have e1 : pixF W H p X0 Y RW RH = [] := by simp [pixF, hr]
    rw [e1]
    refine FSpec.ghost (r := ⟨2, 68, prs []⟩) (sv := .nils) ?_ fun F w v h => rel_ls_nil h
    refine FSpec.intro tab_ok Try.func48 rfl rfl rfl (by kernel_rfl) (by simp) fun w0 => ?_
    simp only [argTM, Nat.zero_add, Nat.reduceAdd]
    simp only [ink, rectV]
    repeat refine IW.seq ?_
    refine IW.region_seq tab_ok [some 2, some 3, some 4] rfl fun X K hX hK => ?_
    simp only [go_sem, if_true, if_false, reduceIte, Nat.reduceEqDiff, Nat.reduceAdd, Nat.reduceLT, Nat.reduceLeDiff, reduceCtorEq]
    refine hK _ _ ?_; clear hX hK X K
    show IW _ _ _ _ _ _ _ _
    repeat refine IW.seq ?_
    refine IW.region_seq tab_ok [some 8, some 9, some 10] rfl fun X K hX hK => ?_
    simp only [go_sem, if_true, if_false, reduceIte, Nat.reduceEqDiff, Nat.reduceAdd, Nat.reduceLT, Nat.reduceLeDiff, reduceCtorEq]
    refine hX.quiet _ _ (OpG.of_B rfl (opB_call rfl rfl (FSpec.nz (refRight W H p hl) (by simp [go_sem, if_true, if_false, reduceIte, Nat.reduceEqDiff, Nat.reduceAdd, Nat.reduceLT, Nat.reduceLeDiff, reduceCtorEq, List.map_cons, List.map_nil, List.append_nil, opnd, unc])))) ?_
    simp only [go_sem, if_true, if_false, reduceIte, Nat.reduceEqDiff, Nat.reduceAdd, Nat.reduceLT, Nat.reduceLeDiff, reduceCtorEq]
    refine hK _ _ ?_; clear hX hK X K
    show IW _ _ _ _ _ _ _ _
    repeat refine IW.seq ?_
    refine IW.cond rfl (fun hb => ?_) (fun hb => ?_)
    · repeat refine IW.seq ?_
      refine IW.region_seq tab_ok [some 4] rfl fun X K hX hK => ?_
      simp only [go_sem, if_true, if_false, reduceIte, Nat.reduceEqDiff, Nat.reduceAdd, Nat.reduceLT, Nat.reduceLeDiff, reduceCtorEq]
      refine hK _ _ ?_; clear hX hK X K
      show IW _ _ _ _ _ _ _ _
      refine IW.ret (Fin.scal rfl rfl ?_)
      rfl
    · simp [hr] at hb
  case pos =>
    obtain ⟨hlen, h0, h1, h2, h3⟩ := right_len hr
    obtain ⟨w, rfl⟩ : ∃ w : Nat, W = w := ⟨W.toNat, by omega⟩
    obtain ⟨h, rfl⟩ : ∃ h : Nat, H = h := ⟨H.toNat, by omega⟩
    have e1 : pixF w h p X0 Y RW RH = pxL w h p X0 Y RW RH h := by simp [pixF, hr]
    rw [e1]
    have key := fun sv rows => @refPixels0 w h p X0 Y RW RH hr hX0 hY hRW hRH hl sv rows
    generalize pxL w h p X0 Y RW RH h = L at *
    cases L with
    | nil => exact FSpec.ghost (r := ⟨2, 68, prs []⟩) (sv := .nils) (key _ _ fun tm r0 r1 e => Fin.scal rfl rfl e) fun F w v h => rel_ls_nil h
    | cons b r => exact key _ _ fun tm r0 r1 e => Fin.tmp1 2 rfl (prs_nold _) e (by simp [go_sem, if_true, if_false, reduceIte, Nat.reduceEqDiff, Nat.reduceAdd, Nat.reduceLT, Nat.reduceLeDiff, reduceCtorEq, wpR, Row.ren, prs_ren, hrow])
end Go.Proofs.Ytnbpbehlemaeoaa

set_option linter.unusedVariables false
set_option linter.unusedSimpArgs false
set_option maxRecDepth 10000
namespace Go.Proofs.Ytnbpbehlemaeoaa
open Go.IL
/-- How many of the first n pixels of q differ from those of p at (x, y). -/
def fdC (w : Nat) (p : List Int) (w2 : Nat) (q : List Int) (x y n : Nat) : Nat := (List.range n).countP fun t => p.getD ((y + t / w2) * w + (x + t % w2)) 0 != q.getD t 0
theorem fdC_succ (w : Nat) (p : List Int) (w2 : Nat) (q : List Int) (x y n : Nat) : fdC w p w2 q x y (n + 1) = fdC w p w2 q x y n + (if (p.getD ((y + n / w2) * w + (x + n % w2)) 0 != q.getD n 0) = true then 1 else 0) := by
  unfold fdC
  rw [List.range_succ, List.countP_append]
  simp [List.countP_cons]
theorem fdC_mono (w : Nat) (p : List Int) (w2 : Nat) (q : List Int) (x y : Nat) {n m : Nat} (h : n ≤ m) : fdC w p w2 q x y n ≤ fdC w p w2 q x y m := by
  induction m with
  | zero => obtain rfl : n = 0 := by omega
            exact Nat.le_refl _
  | succ m ih =>
    by_cases e : n = m + 1
    · subst e; exact Nat.le_refl _
    · have := ih (by omega)
      rw [fdC_succ]; omega
theorem fdC_le (w : Nat) (p : List Int) (w2 : Nat) (q : List Int) (x y n : Nat) : fdC w p w2 q x y n ≤ n := by
  unfold fdC
  exact Nat.le_trans List.countP_le_length (by simp)
theorem fFind1 (w h w2 h2 : Nat) (p q : List Int) (x y : Nat) (m : Int) (hp : p.length = w * h) (hq : q.length = w2 * h2) (hl : p.length ≤ 1000000) (hlq : q.length ≤ 1000000) (hx : x + w2 ≤ w) (hy : y + h2 ≤ h) (hw : w ≤ 640) (hh : h ≤ 640) :
    FSpec Try.prog 72 [.agg [.int .i64 x, .int .i64 y], .rptr true [.int .i64 w2, .int .i64 h2, .sl true (nums .u8 q)] 0, .rptr true [.int .i64 w, .int .i64 h, .sl true (nums .u8 p)] 0, .rptr true [.int .i64 m] 0] (.bool (decide (m < (fdC w p w2 q x y q.length : Nat)))) [] := by
  have hmul : w * h ≤ 640 * 640 := Nat.mul_le_mul hw hh
  obtain ⟨HH, hHH⟩ : ∃ HH : Heap, HH = [some ⟨2, 68, [[.int .i64 x, .int .i64 y]]⟩] := ⟨_, rfl⟩
  refine FSpec.intro tab_ok Try.func72 rfl rfl rfl (by kernel_rfl) (by simp) fun w0 => ?_
  simp only [argTM, Nat.zero_add, Nat.reduceAdd]
  repeat refine IW.seq ?_
  refine IW.region_seq tab_ok [some 4, some 5] rfl fun X K hX hK => ?_
  simp only [go_sem, if_true, if_false, reduceIte, Nat.reduceEqDiff, Nat.reduceAdd, Nat.reduceLT, Nat.reduceLeDiff, reduceCtorEq]
  refine hK _ _ ?_; clear hX hK X K
  show IW _ _ _ _ _ _ _ _
  repeat refine IW.seq ?_
  refine IW.region_seq tab_ok [some 6] rfl fun X K hX hK => ?_
  simp only [go_sem, if_true, if_false, reduceIte, Nat.reduceEqDiff, Nat.reduceAdd, Nat.reduceLT, Nat.reduceLeDiff, reduceCtorEq]
  refine hK _ _ ?_; clear hX hK X K
  show IW _ _ _ _ _ _ _ _
  repeat refine IW.seq ?_
  refine IW.region_seq tab_ok [some 9, some 10, some 11, some 12] rfl fun X K hX hK => ?_
  simp only [go_sem, if_true, if_false, reduceIte, Nat.reduceEqDiff, Nat.reduceAdd, Nat.reduceLT, Nat.reduceLeDiff, reduceCtorEq]
  refine hK _ _ ?_; clear hX hK X K
  show IW _ _ _ _ _ _ _ _
  repeat refine IW.seq ?_
  refine IW.block ?_
  refine IW.loop (α := {k : Nat // k ≤ q.length}) (fun k => [(1, .rptr true [.int .i64 w2, .int .i64 h2, .sl true (nums .u8 q)] 0), (2, .rptr true [.int .i64 w, .int .i64 h, .sl true (nums .u8 p)] 0), (3, .rptr true [.int .i64 m] 0), (4, .ptr 0 0 0), (6, .int .i64 (fdC w p w2 q x y k.1 : Nat)), (10, .sl true (nums .u8 q)), (11, .int .i64 q.length), (12, .int .i64 k.1)]) (fun k => HH) (fun k => q.length - k.1) ⟨0, Nat.zero_le _⟩ ?_ fun ⟨k, hk⟩ => ?_
  · subst hHH
    have : fdC w p w2 q x y 0 = 0 := rfl
    refine Ent.cut ?_ ?_ <;> simp only [go_sem, if_true, if_false, reduceIte, Nat.reduceEqDiff, Nat.reduceAdd, Nat.reduceLT, Nat.reduceLeDiff, reduceCtorEq, this]
  · simp only []
    subst hHH
    repeat refine IW.seq ?_
    refine IW.region_seq tab_ok [some 13] rfl fun X K hX hK => ?_
    simp only [go_sem, if_true, if_false, reduceIte, Nat.reduceEqDiff, Nat.reduceAdd, Nat.reduceLT, Nat.reduceLeDiff, reduceCtorEq]
    refine hK _ _ ?_; clear hX hK X K
    show IW _ _ _ _ _ _ _ _
    repeat refine IW.seq ?_
    refine IW.cond rfl (fun hb1 => ?_) (fun hb1 => ?_)
    · simp only [decide_eq_true_eq] at hb1
      have hkq : k < q.length := by omega
      have hw0 : 0 < w2 := by
        rcases Nat.eq_zero_or_pos w2 with h0 | h0
        · rw [h0, Nat.zero_mul] at hq; omega
        · exact h0
      have hr1 := Nat.mod_lt k hw0
      have hr2 : k / w2 < h2 := Nat.div_lt_of_lt_mul (by rw [← hq]; exact hkq)
      refine IW.skip ?_
      show IW _ _ _ _ _ _ _ _
      refine IW.seq (IW.block ?_)
      repeat refine IW.seq ?_
      refine IW.region_seq tab_ok [some 14, some 15, some 16, some 7, some 8] rfl fun X K hX hK => ?_
      simp only [go_sem, if_true, if_false, reduceIte, Nat.reduceEqDiff, Nat.reduceAdd, Nat.reduceLT, Nat.reduceLeDiff, reduceCtorEq, nums_at hkq]
      refine ⟨⟨by omega, by omega⟩, ?_⟩
      refine hK _ _ ?_; clear hX hK X K
      show IW _ _ _ _ _ _ _ _
      have hcell : (y + k / w2) * w + w ≤ w * h := by
        have h5 : (y + k / w2 + 1) * w ≤ h * w := Nat.mul_le_mul_right _ (by omega)
        rw [Nat.add_mul, Nat.one_mul] at h5
        rw [Nat.mul_comm w h]; exact h5
      have e1 : IntKind.i64.wrap ((k : Int).tdiv (w2 : Int)) = ((k / w2 : Nat) : Int) := divw (by omega)
      have e5 : (k : Int).tmod (w2 : Int) = ((k % w2 : Nat) : Int) := (Int.ofNat_tmod k w2).symm
      have hfs := fdC_succ w p w2 q x y k
      have hfm := fdC_mono w p w2 q x y (show k + 1 ≤ q.length by omega)
      have hfl := fdC_le w p w2 q x y k
      generalize k / w2 = a at *
      generalize k % w2 = b at *
      have e2 : IntKind.i64.wrap ((y : Int) + (a : Int)) = ((y + a : Nat) : Int) := (wrap_eq (by omega) (by omega)).trans (by omega)
      have e3 : IntKind.i64.wrap (((y + a : Nat) : Int) * (w : Int)) = (((y + a) * w : Nat) : Int) := (wrap_eq (by rw [← Int.natCast_mul]; omega) (by rw [← Int.natCast_mul]; omega)).trans (Int.natCast_mul _ _).symm
      generalize hc : (y + a) * w = c at *
      have e4 : IntKind.i64.wrap ((c : Int) + (x : Int)) = ((c + x : Nat) : Int) := (wrap_eq (by omega) (by omega)).trans (by omega)
      have e6 : IntKind.i64.wrap (((c + x : Nat) : Int) + (b : Int)) = ((c + (x + b) : Nat) : Int) := (wrap_eq (by omega) (by omega)).trans (by omega)
      have hat := nums_at (k := .u8) (xs := p) (i := c + (x + b)) (by omega)
      have e7 : IntKind.i64.wrap (((fdC w p w2 q x y k : Nat) : Int) + 1) = ((fdC w p w2 q x y k + 1 : Nat) : Int) := (wrap_eq (by omega) (by omega)).trans (by omega)
      repeat refine IW.seq ?_
      refine IW.region_draw tab_ok mixed [some 17, some 18, some 19, some 20, some 21, some 22, some 23, some 24, some 25, some 26, some 27, some 28, some 29, some 30, some 31, some 32, some 33, some 34, some 35, some 36, some 37, some 38, some 39, some 40] 24 (by kernel_rfl) rfl fun Xq Xs K hXq hXs hK K1 hK1 => ?_
      simp only [go_sem, if_true, if_false, reduceIte, Nat.reduceEqDiff, Nat.reduceAdd, Nat.reduceLT, Nat.reduceLeDiff, reduceCtorEq, e1, e2, e3, e4, e5, e6, hat]
      refine ⟨by omega, by omega, ⟨by omega, by omega⟩, ?_⟩
      refine hK1 _ _ ?_; clear hXq hK1 K1 Xq
      simp only [List.drop_zero, List.drop_succ_cons, go_sem, if_true, if_false, reduceIte, Nat.reduceEqDiff, Nat.reduceAdd, Nat.reduceLT, Nat.reduceLeDiff, reduceCtorEq]
      refine hK _ _ ?_; clear hXs hK K Xs
      show IW _ _ _ _ _ _ _ _
      repeat refine IW.seq ?_
      refine IW.cond rfl (fun hb2 => ?_) (fun hb2 => ?_)
      · rw [if_pos hb2] at hfs
        rw [← hfs] at e7
        repeat refine IW.seq ?_
        refine IW.region_seq tab_ok [some 41, some 42, some 6] rfl fun X K hX hK => ?_
        simp only [go_sem, if_true, if_false, reduceIte, Nat.reduceEqDiff, Nat.reduceAdd, Nat.reduceLT, Nat.reduceLeDiff, reduceCtorEq, e7]
        refine hK _ _ ?_; clear hX hK X K
        show IW _ _ _ _ _ _ _ _
        repeat refine IW.seq ?_
        refine IW.region_seq tab_ok [some 43, some 44, some 45] rfl fun X K hX hK => ?_
        simp only [go_sem, if_true, if_false, reduceIte, Nat.reduceEqDiff, Nat.reduceAdd, Nat.reduceLT, Nat.reduceLeDiff, reduceCtorEq]
        refine hK _ _ ?_; clear hX hK X K
        show IW _ _ _ _ _ _ _ _
        repeat refine IW.seq ?_
        refine IW.cond rfl (fun hb3 => ?_) (fun hb3 => ?_)
        · simp only [decide_eq_true_eq, gt_iff_lt] at hb3
          have hres : m < ((fdC w p w2 q x y q.length : Nat) : Int) := by omega
          repeat refine IW.seq ?_
          refine IW.region_seq tab_ok [some 5] rfl fun X K hX hK => ?_
          simp only [go_sem, if_true, if_false, reduceIte, Nat.reduceEqDiff, Nat.reduceAdd, Nat.reduceLT, Nat.reduceLeDiff, reduceCtorEq]
          refine hK _ _ ?_; clear hX hK X K
          show IW _ _ _ _ _ _ _ _
          refine IW.ret (Fin.scal rfl rfl ?_)
          simp [go_sem, if_true, if_false, reduceIte, Nat.reduceEqDiff, Nat.reduceAdd, Nat.reduceLT, Nat.reduceLeDiff, reduceCtorEq, hres]
        · refine IW.skip ?_
          show IW _ _ _ _ _ _ _ _
          repeat refine IW.seq ?_
          refine IW.region_seq tab_ok [some 46, some 12] rfl fun X K hX hK => ?_
          simp only [go_sem, if_true, if_false, reduceIte, Nat.reduceEqDiff, Nat.reduceAdd, Nat.reduceLT, Nat.reduceLeDiff, reduceCtorEq, succ_wrap hkq (Nat.le_trans hlq (by decide))]
          refine hK _ _ ⟨⟨k + 1, hkq⟩, by simp only []; omega, ?_⟩
          refine Ent.cut ?_ ?_ <;> simp only [go_sem, if_true, if_false, reduceIte, Nat.reduceEqDiff, Nat.reduceAdd, Nat.reduceLT, Nat.reduceLeDiff, reduceCtorEq]
      · rw [if_neg (by rw [hb2]; simp), Nat.add_zero] at hfs
        refine IW.skip ?_
        show IW _ _ _ _ _ _ _ _
        repeat refine IW.seq ?_
        refine IW.region_seq tab_ok [some 46, some 12] rfl fun X K hX hK => ?_
        simp only [go_sem, if_true, if_false, reduceIte, Nat.reduceEqDiff, Nat.reduceAdd, Nat.reduceLT, Nat.reduceLeDiff, reduceCtorEq, succ_wrap hkq (Nat.le_trans hlq (by decide))]
        refine hK _ _ ⟨⟨k + 1, hkq⟩, by simp only []; omega, ?_⟩
        refine Ent.cut ?_ ?_ <;> simp only [go_sem, if_true, if_false, reduceIte, Nat.reduceEqDiff, Nat.reduceAdd, Nat.reduceLT, Nat.reduceLeDiff, reduceCtorEq, hfs]
    · refine IW.exit ?_
      show IW _ _ _ _ _ _ _ _
      simp only [decide_eq_false_iff_not] at hb1
      obtain rfl : k = q.length := by omega
      repeat refine IW.seq ?_
      refine IW.region_seq tab_ok [some 47, some 48, some 49, some 5] rfl fun X K hX hK => ?_
      simp only [go_sem, if_true, if_false, reduceIte, Nat.reduceEqDiff, Nat.reduceAdd, Nat.reduceLT, Nat.reduceLeDiff, reduceCtorEq]
      refine hK _ _ ?_; clear hX hK X K
      show IW _ _ _ _ _ _ _ _
      refine IW.ret (Fin.scal rfl rfl ?_)
      simp [go_sem, if_true, if_false, reduceIte, Nat.reduceEqDiff, Nat.reduceAdd, Nat.reduceLT, Nat.reduceLeDiff, reduceCtorEq, gt_iff_lt]
end Go.Proofs.Ytnbpbehlemaeoaa

set_option linter.unusedVariables false
set_option linter.unusedSimpArgs false
set_option maxRecDepth 10000
namespace Go.Proofs.Ytnbpbehlemaeoaa
open Go.IL
/-- Does q stand in p at a point, but for m pixels? -/
def fq (w : Nat) (p : List Int) (w2 : Nat) (q : List Int) (m : Int) (c : Int × Int) : Bool := decide (((fdC w p w2 q c.1.toNat c.2.toNat q.length : Nat) : Int) ≤ m)
def fnL (w h : Nat) (p : List Int) (w2 h2 : Nat) (q : List Int) (m : Int) (n : Nat) : List (Int × Int) := (ptRows w 0 0 ((w : Int) - w2 + 1) ((h : Int) - h2 + 1) n).filter (fq w p w2 q m)
def fnM (w h : Nat) (p : List Int) (w2 h2 : Nat) (q : List Int) (m : Int) (y n : Nat) : List (Int × Int) := (ptRow 0 0 ((w : Int) - w2 + 1) ((h : Int) - h2 + 1) y n).filter (fq w p w2 q m)
theorem fnL_succ (w h : Nat) (p : List Int) (w2 h2 : Nat) (q : List Int) (m : Int) (n : Nat) : fnL w h p w2 h2 q m (n + 1) = fnL w h p w2 h2 q m n ++ fnM w h p w2 h2 q m n w := by
  unfold fnL fnM
  rw [ptRows_succ, List.filter_append]
theorem fnM_succ (w h : Nat) (p : List Int) (w2 h2 : Nat) (q : List Int) (m : Int) {y n : Nat} (hx : n + w2 ≤ w) (hy : y + h2 ≤ h) : fnM w h p w2 h2 q m y (n + 1) = fnM w h p w2 h2 q m y n ++ (if ((fdC w p w2 q n y q.length : Nat) : Int) ≤ m then [((n : Int), (y : Int))] else []) := by
  unfold fnM
  rw [ptRow_succ, List.filter_append]
  have h1 : (insF n 0 ((w : Int) - w2 + 1) && insF y 0 ((h : Int) - h2 + 1)) = true := by
    simp only [insF, Bool.and_eq_true, decide_eq_true_eq]; omega
  rw [if_pos h1]
  by_cases c : ((fdC w p w2 q n y q.length : Nat) : Int) ≤ m
  · simp [c, fq, List.filter_cons]
  · simp [c, fq, List.filter_cons]
theorem fnM_stop (w h : Nat) (p : List Int) (w2 h2 : Nat) (q : List Int) (m : Int) (y : Nat) {x : Nat} (hx : w < x + w2) : ∀ n, fnM w h p w2 h2 q m y (x + n) = fnM w h p w2 h2 q m y x
  | 0 => rfl
  | n + 1 => by
    have ih := fnM_stop w h p w2 h2 q m y hx n
    unfold fnM at ih ⊢
    have h1 : (insF (x + n : Nat) 0 ((w : Int) - w2 + 1) && insF y 0 ((h : Int) - h2 + 1)) = false := by
      rw [Bool.and_eq_false_iff]; left
      simp only [insF, decide_eq_false_iff_not]; omega
    rw [← Nat.add_assoc, ptRow_succ, h1, if_neg (by simp), List.append_nil]
    exact ih
theorem fnL_stop (w h : Nat) (p : List Int) (w2 h2 : Nat) (q : List Int) (m : Int) {y : Nat} (hy : h < y + h2) : ∀ n, fnL w h p w2 h2 q m (y + n) = fnL w h p w2 h2 q m y
  | 0 => rfl
  | n + 1 => by
    have ih := fnL_stop w h p w2 h2 q m hy n
    have h2' : fnM w h p w2 h2 q m (y + n) w = [] := by
      unfold fnM ptRow
      have : ((List.range w).filter fun (x : Nat) => insF x 0 ((w : Int) - w2 + 1) && insF (y + n : Nat) 0 ((h : Int) - h2 + 1)) = [] := by
        rw [List.filter_eq_nil_iff]
        intro x _
        simp only [insF, Bool.and_eq_true, decide_eq_true_eq]; omega
      rw [this]; rfl
    rw [← Nat.add_assoc, fnL_succ, ih, h2', List.append_nil]
end Go.Proofs.Ytnbpbehlemaeoaa

set_option linter.unusedVariables false
set_option linter.unusedSimpArgs false
set_option maxRecDepth 10000
namespace Go.Proofs.Ytnbpbehlemaeoaa
open Go.IL
theorem apP_ren (n : Nat) (l : List (Int × Int)) : (apP l).ren (sg [0, 1, 2] n) = apP l := by cases l <;> rfl
theorem wpR_ren (σ : Nat → Nat) (l : List (Int × Int)) : (wpR l).map (Row.ren σ) = wpR l := by cases l <;> simp [wpR, Row.ren, prs_ren]
theorem subH_wp (n : Nat) (a b : Option Row) (L : List (Int × Int)) : subH (sg [0, 1, 2] n) [a, b, wpR L] 2 [wpR L] = True := by cases L <;> simp [subH, sg, wpR, Row.ren, prs_ren, hrow]
theorem fnM_le (w h : Nat) (p : List Int) (w2 h2 : Nat) (q : List Int) (m : Int) (y n : Nat) : (fnM w h p w2 h2 q m y n).length ≤ n := by
  unfold fnM ptRow
  refine Nat.le_trans (List.length_filter_le _ _) ?_
  rw [List.length_map]
  exact Nat.le_trans (List.length_filter_le _ _) (by simp)
theorem fnL_le (w h : Nat) (p : List Int) (w2 h2 : Nat) (q : List Int) (m : Int) : ∀ n, (fnL w h p w2 h2 q m n).length ≤ n * w
  | 0 => by simp [fnL, ptRows]
  | n + 1 => by
    have h1 := fnL_le w h p w2 h2 q m n
    have h2 := fnM_le w h p w2 h2 q m n w
    rw [fnL_succ, List.length_append, Nat.succ_mul]; omega
theorem refFind0 (w h w2 h2 : Nat) (p q : List Int) (m : Int) (hr : rightS w h p = true) (hr2 : rightS w2 h2 q = true) (hne : q.length ≠ 0) (hm : I64 m) (hl : p.length ≤ 1000000) (hlq : q.length ≤ 1000000) {sv : SV} {rows : List Row}
    (hfin : ∀ (tm : TM) (r0 r1 : Option Row), tm.get 6 = apP (fnL w h p w2 h2 q m h) → IL.Fin tab [.tmp 6] sv rows .ret tm [r0, r1, wpR (fnL w h p w2 h2 q m h)]) :
    FSpec Try.prog 46 [ink w h p, ink w2 h2 q, .int .i64 m] sv rows := by
  obtain ⟨hlen, h0, h1, h20, h3⟩ := right_len hr
  obtain ⟨hlenq, h0q, h1q, h2q, h3q⟩ := right_len hr2
  have hp : p.length = w * h := by exact_mod_cast hlen
  have hq : q.length = w2 * h2 := by exact_mod_cast hlenq
  have hmul : w * h ≤ 640 * 640 := Nat.mul_le_mul (by omega) (by omega)
  have hmulq : w2 * h2 ≤ 640 * 640 := Nat.mul_le_mul (by omega) (by omega)
  refine FSpec.intro tab_ok Try.func46 rfl rfl rfl (by kernel_rfl) (by simp) fun w0 => ?_
  simp only [argTM, Nat.zero_add, Nat.reduceAdd]
  simp only [ink]
  repeat refine IW.seq ?_
  refine IW.region_seq tab_ok [some 3, some 4, some 6] rfl fun X K hX hK => ?_
  simp only [go_sem, if_true, if_false, reduceIte, Nat.reduceEqDiff, Nat.reduceAdd, Nat.reduceLT, Nat.reduceLeDiff, reduceCtorEq]
  refine hK _ _ ?_; clear hX hK X K
  show IW _ _ _ _ _ _ _ _
  repeat refine IW.seq ?_
  refine IW.region_seq tab_ok [some 13, some 14, some 15, some 16, some 17, some 18, some 19, some 20, some 21, some 22, some 23, some 24, some 25, some 26] rfl fun X K hX hK => ?_
  simp only [go_sem, if_true, if_false, reduceIte, Nat.reduceEqDiff, Nat.reduceAdd, Nat.reduceLT, Nat.reduceLeDiff, reduceCtorEq]
  refine hX.quiet _ _ (OpG.of_B rfl (opB_call rfl rfl (FSpec.nz (refRight w h p hl) (by simp [go_sem, if_true, if_false, reduceIte, Nat.reduceEqDiff, Nat.reduceAdd, Nat.reduceLT, Nat.reduceLeDiff, reduceCtorEq, List.map_cons, List.map_nil, List.append_nil, opnd, unc, hr])))) ?_
  simp only [go_sem, if_true, if_false, reduceIte, Nat.reduceEqDiff, Nat.reduceAdd, Nat.reduceLT, Nat.reduceLeDiff, reduceCtorEq, hr]
  refine hX.quiet _ _ (OpG.of_BG rfl rfl rfl (by first | (simp only [go_sem, if_true, if_false, reduceIte, Nat.reduceEqDiff, Nat.reduceAdd, Nat.reduceLT, Nat.reduceLeDiff, reduceCtorEq]; done) | (simp [go_sem, if_true, if_false, reduceIte, Nat.reduceEqDiff, Nat.reduceAdd, Nat.reduceLT, Nat.reduceLeDiff, reduceCtorEq] <;> (intros; simp_all))) fun hc => opB_call rfl rfl (FSpec.nz (refRight w2 h2 q hlq) (by simp [go_sem, if_true, if_false, reduceIte, Nat.reduceEqDiff, Nat.reduceAdd, Nat.reduceLT, Nat.reduceLeDiff, reduceCtorEq, List.map_cons, List.map_nil, List.append_nil, opnd, unc, hr2]))) ?_
  simp only [go_sem, if_true, if_false, reduceIte, Nat.reduceEqDiff, Nat.reduceAdd, Nat.reduceLT, Nat.reduceLeDiff, reduceCtorEq, hr2]
  refine hK _ _ ?_; clear hX hK X K
  show IW _ _ _ _ _ _ _ _
  repeat refine IW.seq ?_
  refine IW.cond rfl (fun hb => ?_) (fun hb => ?_)
  · simp only [beq_iff_eq] at hb; omega
  · refine IW.skip ?_
    show IW _ _ _ _ _ _ _ _
    have hw2 : 0 < w2 := by
      rcases Nat.eq_zero_or_pos w2 with c | c
      · rw [c, Nat.zero_mul] at hq; omega
      · exact c
    have hh2 : 0 < h2 := by
      rcases Nat.eq_zero_or_pos h2 with c | c
      · rw [c, Nat.mul_zero] at hq; omega
      · exact c
    obtain ⟨r0, hr0⟩ : ∃ r0 : Option Row, r0 = some ⟨3, 33, [[.int .i64 w, .int .i64 h, .sl true (nums .u8 p)]]⟩ := ⟨_, rfl⟩
    repeat refine IW.seq ?_
    refine IW.region_seq tab_ok [some 7] rfl fun X K hX hK => ?_
    simp only [go_sem, if_true, if_false, reduceIte, Nat.reduceEqDiff, Nat.reduceAdd, Nat.reduceLT, Nat.reduceLeDiff, reduceCtorEq]
    refine hK _ _ ?_; clear hX hK X K
    show IW _ _ _ _ _ _ _ _
    repeat refine IW.seq ?_
    refine IW.region_seq tab_ok [some 8] rfl fun X K hX hK => ?_
    simp only [go_sem, if_true, if_false, reduceIte, Nat.reduceEqDiff, Nat.reduceAdd, Nat.reduceLT, Nat.reduceLeDiff, reduceCtorEq]
    refine hK _ _ ?_; clear hX hK X K
    show IW _ _ _ _ _ _ _ _
    repeat refine IW.seq ?_
    refine IW.block ?_
    refine IW.loop (α := {y : Nat // y ≤ h}) (fun y => [(2, .int .i64 m), (3, .ptr 0 0 0), (4, .ptr 1 0 0), (7, apP (fnL w h p w2 h2 q m y.1)), (8, .int .i64 y.1)]) (fun y => [some ⟨3, 33, [[.int .i64 w, .int .i64 h, .sl true (nums .u8 p)]]⟩, some ⟨3, 33, [[.int .i64 w2, .int .i64 h2, .sl true (nums .u8 q)]]⟩, wpR (fnL w h p w2 h2 q m y.1)]) (fun y => h - y.1) ⟨0, Nat.zero_le _⟩ ?_ fun ⟨y, hy⟩ => ?_
    · have : fnL w h p w2 h2 q m 0 = [] := rfl
      refine Ent.ren [0, 1, 2] rfl (by decide) ?_ ?_ (fun id ri e => by cases e) <;> simp [go_sem, if_true, if_false, reduceIte, Nat.reduceEqDiff, Nat.reduceAdd, Nat.reduceLT, Nat.reduceLeDiff, reduceCtorEq, subT, subH, sg, SV.ren, Row.ren, this, apP, wpR]
    · simp only []
      have wy : IntKind.i64.wrap ((y : Int) + (h2 : Int)) = ((y + h2 : Nat) : Int) := (wrap_eq (by omega) (by omega)).trans (by omega)
      repeat refine IW.seq ?_
      refine IW.region_seq tab_ok [some 27, some 28, some 29, some 30, some 31, some 32, some 33] rfl fun X K hX hK => ?_
      simp only [go_sem, if_true, if_false, reduceIte, Nat.reduceEqDiff, Nat.reduceAdd, Nat.reduceLT, Nat.reduceLeDiff, reduceCtorEq, wy]
      refine hK _ _ ?_; clear hX hK X K
      show IW _ _ _ _ _ _ _ _
      repeat refine IW.seq ?_
      refine IW.cond rfl (fun hb1 => ?_) (fun hb1 => ?_)
      · simp only [decide_eq_true_eq] at hb1
        have hyh : y + h2 ≤ h := by omega
        refine IW.skip ?_
        show IW _ _ _ _ _ _ _ _
        refine IW.seq (IW.block ?_)
        repeat refine IW.seq ?_
        refine IW.region_seq tab_ok [some 9] rfl fun X K hX hK => ?_
        simp only [go_sem, if_true, if_false, reduceIte, Nat.reduceEqDiff, Nat.reduceAdd, Nat.reduceLT, Nat.reduceLeDiff, reduceCtorEq]
        refine hK _ _ ?_; clear hX hK X K
        show IW _ _ _ _ _ _ _ _
        repeat refine IW.seq ?_
        refine IW.block ?_
        refine IW.loop (α := {x : Nat // x ≤ w}) (fun x => [(2, .int .i64 m), (3, .ptr 0 0 0), (4, .ptr 1 0 0), (7, apP (fnL w h p w2 h2 q m y ++ fnM w h p w2 h2 q m y x.1)), (8, .int .i64 y), (9, .int .i64 x.1)]) (fun x => [some ⟨3, 33, [[.int .i64 w, .int .i64 h, .sl true (nums .u8 p)]]⟩, some ⟨3, 33, [[.int .i64 w2, .int .i64 h2, .sl true (nums .u8 q)]]⟩, wpR (fnL w h p w2 h2 q m y ++ fnM w h p w2 h2 q m y x.1)]) (fun x => w - x.1) ⟨0, Nat.zero_le _⟩ ?_ fun ⟨x, hx⟩ => ?_
        · have : fnL w h p w2 h2 q m y ++ fnM w h p w2 h2 q m y 0 = fnL w h p w2 h2 q m y := by simp [fnM, ptRow]
          refine Ent.ren [0, 1, 2] rfl (by decide) ?_ ?_ (fun id ri e => by cases e) <;> simp [go_sem, if_true, if_false, reduceIte, Nat.reduceEqDiff, Nat.reduceAdd, Nat.reduceLT, Nat.reduceLeDiff, reduceCtorEq, subT, subH, sg, SV.ren, Row.ren, this, apP_ren, subH_wp]
        · simp only []
          have hbl : (fnL w h p w2 h2 q m y ++ fnM w h p w2 h2 q m y x).length ≤ 1000000 := by
            have a1 := fnL_le w h p w2 h2 q m y
            have a2 := fnM_le w h p w2 h2 q m y x
            have a3 : y * w ≤ h * w := Nat.mul_le_mul_right _ hy
            rw [Nat.mul_comm h w] at a3
            rw [List.length_append]; omega
          have wx : IntKind.i64.wrap ((x : Int) + (w2 : Int)) = ((x + w2 : Nat) : Int) := (wrap_eq (by omega) (by omega)).trans (by omega)
          repeat refine IW.seq ?_
          refine IW.region_seq tab_ok [some 36, some 37, some 38, some 39, some 40, some 41, some 42] rfl fun X K hX hK => ?_
          simp only [go_sem, if_true, if_false, reduceIte, Nat.reduceEqDiff, Nat.reduceAdd, Nat.reduceLT, Nat.reduceLeDiff, reduceCtorEq, wx]
          refine hK _ _ ?_; clear hX hK X K
          show IW _ _ _ _ _ _ _ _
          repeat refine IW.seq ?_
          refine IW.cond rfl (fun hb2 => ?_) (fun hb2 => ?_)
          · simp only [decide_eq_true_eq] at hb2
            have hxw : x + w2 ≤ w := by omega
            have hms := fnM_succ w h p w2 h2 q m hxw hyh
            obtain ⟨L, hL⟩ : ∃ L : List (Int × Int), L = fnL w h p w2 h2 q m y ++ fnM w h p w2 h2 q m y x := ⟨_, rfl⟩
            rw [← hL] at hbl ⊢
            refine IW.skip ?_
            show IW _ _ _ _ _ _ _ _
            refine IW.seq (IW.block ?_)
            repeat refine IW.seq ?_
            refine IW.region_seq tab_ok [some 10] rfl fun X K hX hK => ?_
            simp only [go_sem, if_true, if_false, reduceIte, Nat.reduceEqDiff, Nat.reduceAdd, Nat.reduceLT, Nat.reduceLeDiff, reduceCtorEq]
            refine hK _ _ ?_; clear hX hK X K
            show IW _ _ _ _ _ _ _ _
            repeat refine IW.seq ?_
            refine IW.region_seq tab_ok [some 11] rfl fun X K hX hK => ?_
            simp only [go_sem, if_true, if_false, reduceIte, Nat.reduceEqDiff, Nat.reduceAdd, Nat.reduceLT, Nat.reduceLeDiff, reduceCtorEq]
            refine hK _ _ ?_; clear hX hK X K
            show IW _ _ _ _ _ _ _ _
            repeat refine IW.seq ?_
            refine IW.block ?_
            refine IW.loop (α := {v : Nat // v ≤ h2}) (fun v => [(2, .int .i64 m), (3, .ptr 0 0 0), (4, .ptr 1 0 0), (7, apP L), (8, .int .i64 y), (9, .int .i64 x), (10, .int .i64 (fdC w p w2 q x y (v.1 * w2) : Nat)), (11, .int .i64 v.1)]) (fun v => [some ⟨3, 33, [[.int .i64 w, .int .i64 h, .sl true (nums .u8 p)]]⟩, some ⟨3, 33, [[.int .i64 w2, .int .i64 h2, .sl true (nums .u8 q)]]⟩, wpR L]) (fun v => h2 - v.1) ⟨0, Nat.zero_le _⟩ ?_ fun ⟨v, hv⟩ => ?_
            · have : fdC w p w2 q x y 0 = 0 := rfl
              refine Ent.ren [0, 1, 2] rfl (by decide) ?_ ?_ (fun id ri e => by cases e) <;> simp [go_sem, if_true, if_false, reduceIte, Nat.reduceEqDiff, Nat.reduceAdd, Nat.reduceLT, Nat.reduceLeDiff, reduceCtorEq, subT, subH, sg, SV.ren, Row.ren, this, apP_ren, subH_wp]
            · simp only []
              repeat refine IW.seq ?_
              refine IW.region_seq tab_ok [some 45, some 46, some 47, some 48] rfl fun X K hX hK => ?_
              simp only [go_sem, if_true, if_false, reduceIte, Nat.reduceEqDiff, Nat.reduceAdd, Nat.reduceLT, Nat.reduceLeDiff, reduceCtorEq]
              refine hK _ _ ?_; clear hX hK X K
              show IW _ _ _ _ _ _ _ _
              repeat refine IW.seq ?_
              refine IW.cond rfl (fun hb3 => ?_) (fun hb3 => ?_)
              · simp only [decide_eq_true_eq] at hb3
                have hvh : v < h2 := by omega
                refine IW.skip ?_
                show IW _ _ _ _ _ _ _ _
                refine IW.seq (IW.block ?_)
                repeat refine IW.seq ?_
                refine IW.region_seq tab_ok [some 12] rfl fun X K hX hK => ?_
                simp only [go_sem, if_true, if_false, reduceIte, Nat.reduceEqDiff, Nat.reduceAdd, Nat.reduceLT, Nat.reduceLeDiff, reduceCtorEq]
                refine hK _ _ ?_; clear hX hK X K
                show IW _ _ _ _ _ _ _ _
                repeat refine IW.seq ?_
                refine IW.block ?_
                refine IW.loop (α := {u : Nat // u ≤ w2}) (fun u => [(2, .int .i64 m), (3, .ptr 0 0 0), (4, .ptr 1 0 0), (7, apP L), (8, .int .i64 y), (9, .int .i64 x), (10, .int .i64 (fdC w p w2 q x y (v * w2 + u.1) : Nat)), (11, .int .i64 v), (12, .int .i64 u.1)]) (fun u => [some ⟨3, 33, [[.int .i64 w, .int .i64 h, .sl true (nums .u8 p)]]⟩, some ⟨3, 33, [[.int .i64 w2, .int .i64 h2, .sl true (nums .u8 q)]]⟩, wpR L]) (fun u => w2 - u.1) ⟨0, Nat.zero_le _⟩ ?_ fun ⟨u, hu⟩ => ?_
                · refine Ent.ren [0, 1, 2] rfl (by decide) ?_ ?_ (fun id ri e => by cases e) <;> simp [go_sem, if_true, if_false, reduceIte, Nat.reduceEqDiff, Nat.reduceAdd, Nat.reduceLT, Nat.reduceLeDiff, reduceCtorEq, subT, subH, sg, SV.ren, Row.ren, apP_ren, subH_wp]
                · simp only []
                  repeat refine IW.seq ?_
                  refine IW.region_seq tab_ok [some 51, some 52, some 53, some 54] rfl fun X K hX hK => ?_
                  simp only [go_sem, if_true, if_false, reduceIte, Nat.reduceEqDiff, Nat.reduceAdd, Nat.reduceLT, Nat.reduceLeDiff, reduceCtorEq]
                  refine hK _ _ ?_; clear hX hK X K
                  show IW _ _ _ _ _ _ _ _
                  repeat refine IW.seq ?_
                  refine IW.cond rfl (fun hb4 => ?_) (fun hb4 => ?_)
                  · simp only [decide_eq_true_eq] at hb4
                    have huw : u < w2 := by omega
                    have hfs := fdC_succ w p w2 q x y (v * w2 + u)
                    have hfl := fdC_le w p w2 q x y (v * w2 + u)
                    have hce := (cell_eq (t := v * w2 + u) (y := v) huw).1 rfl
                    have hcl := cell_lt huw hvh
                    rw [hce.1, hce.2] at hfs
                    have e1 : IntKind.i64.wrap ((x : Int) + (u : Int)) = ((x + u : Nat) : Int) := (wrap_eq (by omega) (by omega)).trans (by omega)
                    have e2 : IntKind.i64.wrap ((y : Int) + (v : Int)) = ((y + v : Nat) : Int) := (wrap_eq (by omega) (by omega)).trans (by omega)
                    have a1 : atF w h p ((x + u : Nat) : Int) ((y + v : Nat) : Int) = p.getD ((y + v) * w + (x + u)) 0 := by
                      rw [atF, if_neg (by omega)]; simp only [Int.toNat_natCast]
                    have a2 : atF w2 h2 q (u : Int) (v : Int) = q.getD (v * w2 + u) 0 := by
                      rw [atF, if_neg (by omega)]; simp only [Int.toNat_natCast]
                    refine IW.skip ?_
                    show IW _ _ _ _ _ _ _ _
                    refine IW.seq (IW.block ?_)
                    repeat refine IW.seq ?_
                    refine IW.region_draw tab_ok mixed [some 57, some 58, some 59, some 60, some 61, some 62, some 63, some 64, some 65, some 66, some 67, some 68, some 69] 13 (by kernel_rfl) rfl fun Xq Xs K hXq hXs hK K1 hK1 => ?_
                    simp only [go_sem, if_true, if_false, reduceIte, Nat.reduceEqDiff, Nat.reduceAdd, Nat.reduceLT, Nat.reduceLeDiff, reduceCtorEq, e1, e2]
                    refine hXq.quiet _ _ (OpG.of_B rfl (opB_call rfl rfl (FSpec.nz (refAtG w h ((x + u : Nat) : Int) ((y + v : Nat) : Int) p hp hl) (by simp [go_sem, if_true, if_false, reduceIte, Nat.reduceEqDiff, Nat.reduceAdd, Nat.reduceLT, Nat.reduceLeDiff, reduceCtorEq, List.map_cons, List.map_nil, List.append_nil, opnd, unc])))) ?_
                    simp only [go_sem, if_true, if_false, reduceIte, Nat.reduceEqDiff, Nat.reduceAdd, Nat.reduceLT, Nat.reduceLeDiff, reduceCtorEq]
                    refine hXq.quiet _ _ (OpG.of_B rfl (opB_call rfl rfl (FSpec.nz (refAtG w2 h2 (u : Int) (v : Int) q hq hlq) (by simp [go_sem, if_true, if_false, reduceIte, Nat.reduceEqDiff, Nat.reduceAdd, Nat.reduceLT, Nat.reduceLeDiff, reduceCtorEq, List.map_cons, List.map_nil, List.append_nil, opnd, unc, a1, a2])))) ?_
                    simp only [go_sem, if_true, if_false, reduceIte, Nat.reduceEqDiff, Nat.reduceAdd, Nat.reduceLT, Nat.reduceLeDiff, reduceCtorEq, a1, a2]
                    refine hK1 _ _ ?_; clear hXq hK1 K1 Xq
                    simp only [List.drop_zero, List.drop_succ_cons, go_sem, if_true, if_false, reduceIte, Nat.reduceEqDiff, Nat.reduceAdd, Nat.reduceLT, Nat.reduceLeDiff, reduceCtorEq]
                    refine hK _ _ ?_; clear hXs hK K Xs
                    show IW _ _ _ _ _ _ _ _
                    repeat refine IW.seq ?_
                    refine IW.cond rfl (fun hb5 => ?_) (fun hb5 => ?_)
                    · rw [if_pos hb5] at hfs
                      have e3 : IntKind.i64.wrap (((fdC w p w2 q x y (v * w2 + u) : Nat) : Int) + 1) = ((fdC w p w2 q x y (v * w2 + (u + 1)) : Nat) : Int) := (wrap_eq (by omega) (by omega)).trans (by rw [← Nat.add_assoc, hfs]; omega)
                      repeat refine IW.seq ?_
                      refine IW.region_seq tab_ok [some 70, some 71, some 10] rfl fun X K hX hK => ?_
                      simp only [go_sem, if_true, if_false, reduceIte, Nat.reduceEqDiff, Nat.reduceAdd, Nat.reduceLT, Nat.reduceLeDiff, reduceCtorEq, e3]
                      refine hK _ _ ?_; clear hX hK X K
                      show IW _ _ _ _ _ _ _ _
                      repeat refine IW.seq ?_
                      refine IW.region_seq tab_ok [some 55, some 56, some 12] rfl fun X K hX hK => ?_
                      simp only [go_sem, if_true, if_false, reduceIte, Nat.reduceEqDiff, Nat.reduceAdd, Nat.reduceLT, Nat.reduceLeDiff, reduceCtorEq, succ_wrap huw (Nat.le_trans (Nat.le_of_lt_succ (show w2 < 641 by omega)) (by decide))]
                      refine hK _ _ ⟨⟨u + 1, huw⟩, by simp only []; omega, ?_⟩
                      refine Ent.ren [0, 1, 2] rfl (by decide) ?_ ?_ (fun id ri e => by cases e) <;> simp [go_sem, if_true, if_false, reduceIte, Nat.reduceEqDiff, Nat.reduceAdd, Nat.reduceLT, Nat.reduceLeDiff, reduceCtorEq, subT, subH, sg, SV.ren, Row.ren, apP_ren, subH_wp]
                    · rw [if_neg (by rw [hb5]; simp)] at hfs
                      have hfs' : fdC w p w2 q x y (v * w2 + (u + 1)) = fdC w p w2 q x y (v * w2 + u) := hfs
                      refine IW.skip ?_
                      show IW _ _ _ _ _ _ _ _
                      repeat refine IW.seq ?_
                      refine IW.region_seq tab_ok [some 55, some 56, some 12] rfl fun X K hX hK => ?_
                      simp only [go_sem, if_true, if_false, reduceIte, Nat.reduceEqDiff, Nat.reduceAdd, Nat.reduceLT, Nat.reduceLeDiff, reduceCtorEq, succ_wrap huw (Nat.le_trans (Nat.le_of_lt_succ (show w2 < 641 by omega)) (by decide))]
                      refine hK _ _ ⟨⟨u + 1, huw⟩, by simp only []; omega, ?_⟩
                      refine Ent.ren [0, 1, 2] rfl (by decide) ?_ ?_ (fun id ri e => by cases e) <;> simp [go_sem, if_true, if_false, reduceIte, Nat.reduceEqDiff, Nat.reduceAdd, Nat.reduceLT, Nat.reduceLeDiff, reduceCtorEq, subT, subH, sg, SV.ren, Row.ren, hfs', apP_ren, subH_wp]
                  · refine IW.exit ?_
                    show IW _ _ _ _ _ _ _ _
                    simp only [decide_eq_false_iff_not] at hb4
                    obtain rfl : u = w2 := by omega
                    repeat refine IW.seq ?_
                    refine IW.region_seq tab_ok [some 49, some 50, some 11] rfl fun X K hX hK => ?_
                    simp only [go_sem, if_true, if_false, reduceIte, Nat.reduceEqDiff, Nat.reduceAdd, Nat.reduceLT, Nat.reduceLeDiff, reduceCtorEq, succ_wrap hvh (Nat.le_trans (Nat.le_of_lt_succ (show h2 < 641 by omega)) (by decide))]
                    refine hK _ _ ⟨⟨v + 1, hvh⟩, by simp only []; omega, ?_⟩
                    have e9 : (v + 1) * u = v * u + u := Nat.succ_mul v u
                    refine Ent.ren [0, 1, 2] rfl (by decide) ?_ ?_ (fun id ri e => by cases e) <;> simp [go_sem, if_true, if_false, reduceIte, Nat.reduceEqDiff, Nat.reduceAdd, Nat.reduceLT, Nat.reduceLeDiff, reduceCtorEq, subT, subH, sg, SV.ren, Row.ren, e9, apP_ren, subH_wp]
              · refine IW.exit ?_
                show IW _ _ _ _ _ _ _ _
                simp only [decide_eq_false_iff_not] at hb3
                obtain rfl : v = h2 := by omega
                have hq' : v * w2 = q.length := by rw [hq, Nat.mul_comm]
                rw [hq']
                repeat refine IW.seq ?_
                refine IW.region_seq tab_ok [some 72, some 73, some 74] rfl fun X K hX hK => ?_
                simp only [go_sem, if_true, if_false, reduceIte, Nat.reduceEqDiff, Nat.reduceAdd, Nat.reduceLT, Nat.reduceLeDiff, reduceCtorEq]
                refine hK _ _ ?_; clear hX hK X K
                show IW _ _ _ _ _ _ _ _
                repeat refine IW.seq ?_
                refine IW.cond rfl (fun hb6 => ?_) (fun hb6 => ?_)
                · simp only [decide_eq_true_eq] at hb6
                  rw [if_pos hb6] at hms
                  repeat refine IW.seq ?_
                  refine IW.region_seq tab_ok [some 75, some 76, some 77, some 78, some 79, some 80, some 7] rfl fun X K hX hK => ?_
                  simp only [go_sem, if_true, if_false, reduceIte, Nat.reduceEqDiff, Nat.reduceAdd, Nat.reduceLT, Nat.reduceLeDiff, reduceCtorEq]
                  refine hX.quiet _ _ (OpG.of_B rfl (opB_buildSlice tab_ok rfl (by simp [go_sem, if_true, if_false, reduceIte, Nat.reduceEqDiff, Nat.reduceAdd, Nat.reduceLT, Nat.reduceLeDiff, reduceCtorEq]) (by simp [go_sem, if_true, if_false, reduceIte, Nat.reduceEqDiff, Nat.reduceAdd, Nat.reduceLT, Nat.reduceLeDiff, reduceCtorEq]) (by simp) (by simp [go_sem, if_true, if_false, reduceIte, Nat.reduceEqDiff, Nat.reduceAdd, Nat.reduceLT, Nat.reduceLeDiff, reduceCtorEq, bsO, List.map_cons, List.map_nil]))) ?_
                  simp only [go_sem, if_true, if_false, reduceIte, Nat.reduceEqDiff, Nat.reduceAdd, Nat.reduceLT, Nat.reduceLeDiff, reduceCtorEq, List.map_cons, List.map_nil]
                  refine pushP (c := ((x : Int), (y : Int))) (l := L) hX (by simp [go_sem, if_true, if_false, reduceIte, Nat.reduceEqDiff, Nat.reduceAdd, Nat.reduceLT, Nat.reduceLeDiff, reduceCtorEq]) (by simp [go_sem, if_true, if_false, reduceIte, Nat.reduceEqDiff, Nat.reduceAdd, Nat.reduceLT, Nat.reduceLeDiff, reduceCtorEq]) hbl (by intro d e; cases e; decide) ?_
                  simp only [go_sem, if_true, if_false, reduceIte, Nat.reduceEqDiff, Nat.reduceAdd, Nat.reduceLT, Nat.reduceLeDiff, reduceCtorEq]
                  refine hK _ _ ?_; clear hX hK X K
                  show IW _ _ _ _ _ _ _ _
                  repeat refine IW.seq ?_
                  refine IW.region_seq tab_ok [some 43, some 44, some 9] rfl fun X K hX hK => ?_
                  simp only [go_sem, if_true, if_false, reduceIte, Nat.reduceEqDiff, Nat.reduceAdd, Nat.reduceLT, Nat.reduceLeDiff, reduceCtorEq, succ_wrap (show x < w by omega) (Nat.le_trans (Nat.le_of_lt_succ (show w < 641 by omega)) (by decide))]
                  refine hK _ _ ⟨⟨x + 1, by omega⟩, by simp only []; omega, ?_⟩
                  simp only [hms, ← List.append_assoc, ← hL, apP_snoc, wpR_snoc]
                  refine Ent.ren [0, 1, 4] rfl (by decide) ?_ ?_ (fun id ri e => by cases e) <;> simp [go_sem, if_true, if_false, reduceIte, Nat.reduceEqDiff, Nat.reduceAdd, Nat.reduceLT, Nat.reduceLeDiff, reduceCtorEq, subT, subH, sg, SV.ren, Row.ren, prs_ren]
                · simp only [decide_eq_false_iff_not] at hb6
                  rw [if_neg hb6, List.append_nil] at hms
                  refine IW.skip ?_
                  show IW _ _ _ _ _ _ _ _
                  repeat refine IW.seq ?_
                  refine IW.region_seq tab_ok [some 43, some 44, some 9] rfl fun X K hX hK => ?_
                  simp only [go_sem, if_true, if_false, reduceIte, Nat.reduceEqDiff, Nat.reduceAdd, Nat.reduceLT, Nat.reduceLeDiff, reduceCtorEq, succ_wrap (show x < w by omega) (Nat.le_trans (Nat.le_of_lt_succ (show w < 641 by omega)) (by decide))]
                  refine hK _ _ ⟨⟨x + 1, by omega⟩, by simp only []; omega, ?_⟩
                  simp only [hms, ← hL]
                  refine Ent.ren [0, 1, 2] rfl (by decide) ?_ ?_ (fun id ri e => by cases e) <;> simp [go_sem, if_true, if_false, reduceIte, Nat.reduceEqDiff, Nat.reduceAdd, Nat.reduceLT, Nat.reduceLeDiff, reduceCtorEq, subT, subH, sg, SV.ren, Row.ren, apP_ren, subH_wp]
          · refine IW.exit ?_
            show IW _ _ _ _ _ _ _ _
            simp only [decide_eq_false_iff_not] at hb2
            have hst := fnM_stop w h p w2 h2 q m y (x := x) (by omega) (w - x)
            rw [show x + (w - x) = w by omega] at hst
            repeat refine IW.seq ?_
            refine IW.region_seq tab_ok [some 34, some 35, some 8] rfl fun X K hX hK => ?_
            simp only [go_sem, if_true, if_false, reduceIte, Nat.reduceEqDiff, Nat.reduceAdd, Nat.reduceLT, Nat.reduceLeDiff, reduceCtorEq, succ_wrap (show y < h by omega) (Nat.le_trans (Nat.le_of_lt_succ (show h < 641 by omega)) (by decide))]
            refine hK _ _ ⟨⟨y + 1, by omega⟩, by simp only []; omega, ?_⟩
            simp only [fnL_succ, hst]
            refine Ent.ren [0, 1, 2] rfl (by decide) ?_ ?_ (fun id ri e => by cases e) <;> simp [go_sem, if_true, if_false, reduceIte, Nat.reduceEqDiff, Nat.reduceAdd, Nat.reduceLT, Nat.reduceLeDiff, reduceCtorEq, subT, subH, sg, SV.ren, Row.ren, apP_ren, subH_wp]
      · refine IW.exit ?_
        show IW _ _ _ _ _ _ _ _
        simp only [decide_eq_false_iff_not] at hb1
        have hst := fnL_stop w h p w2 h2 q m (y := y) (by omega) (h - y)
        rw [show y + (h - y) = h by omega] at hst
        rw [← hst]
        repeat refine IW.seq ?_
        refine IW.region_seq tab_ok [some 81, some 6] rfl fun X K hX hK => ?_
        simp only [go_sem, if_true, if_false, reduceIte, Nat.reduceEqDiff, Nat.reduceAdd, Nat.reduceLT, Nat.reduceLeDiff, reduceCtorEq]
        refine hK _ _ ?_; clear hX hK X K
        show IW _ _ _ _ _ _ _ _
        refine IW.ret (hfin _ _ _ ?_)
        simp [go_sem, if_true, if_false, reduceIte, Nat.reduceEqDiff, Nat.reduceAdd, Nat.reduceLT, Nat.reduceLeDiff, reduceCtorEq]
end Go.Proofs.Ytnbpbehlemaeoaa

set_option linter.unusedVariables false
set_option linter.unusedSimpArgs false
set_option maxRecDepth 10000
namespace Go.Proofs.Ytnbpbehlemaeoaa
open Go.IL
/-- A list of points that is appended to in a round: row 7. -/
def apF (l : List (Int × Int)) : SV := match l with | [] => .nils | _ :: _ => .ref 7 0 l.length
theorem nz_rptr (o : Bool) (x : List SV) (j : Nat) : nz (.rptr o x j) = .rptr o x j := rfl
theorem rei_ptr (n : Nat) (h : Heap) (id i j : Nat) : rei (n + 1) h (.ptr id i j) = if i < (rowXs h id).length ∧ (hrow h id).isSome = true then .rptr true ((elAt (rowXs h id) i).map (rei n h)) j else .any := rfl
set_option maxHeartbeats 2000000 in
theorem fFind0 (w h w2 h2 : Nat) (p q : List Int) (m : Int) (hr : rightS w h p = true) (hr2 : rightS w2 h2 q = true) (hne : q.length ≠ 0) (hm : I64 m) (hl : p.length ≤ 1000000) (hlq : q.length ≤ 1000000) {sv : SV} {rows : List Row}
    (hfin : ∀ (tm : TM) (r0 r1 r2 r3 r4 r5 r6 : Option Row), tm.get 6 = apF (fnL w h p w2 h2 q m h) → IL.Fin tab [.tmp 6] sv rows .ret tm ([r0, r1, r2, r3, r4, r5, r6] ++ wpQ (fnL w h p w2 h2 q m h))) :
    FSpec Try.prog 45 [ink w h p, ink w2 h2 q, .int .i64 m] sv rows := by
  obtain ⟨hlen, h0, h1, h20, h3⟩ := right_len hr
  obtain ⟨hlenq, h0q, h1q, h2q, h3q⟩ := right_len hr2
  have hp : p.length = w * h := by exact_mod_cast hlen
  have hq : q.length = w2 * h2 := by exact_mod_cast hlenq
  have hmul : w * h ≤ 640 * 640 := Nat.mul_le_mul (by omega) (by omega)
  refine FSpec.intro tab_ok Try.func45 rfl rfl rfl (by kernel_rfl) (by simp) fun w0 => ?_
  simp only [argTM, Nat.zero_add, Nat.reduceAdd]
  simp only [ink]
  repeat refine IW.seq ?_
  refine IW.region_seq tab_ok [some 3, some 4, some 5, some 6] rfl fun X K hX hK => ?_
  simp only [go_sem, if_true, if_false, reduceIte, Nat.reduceEqDiff, Nat.reduceAdd, Nat.reduceLT, Nat.reduceLeDiff, reduceCtorEq]
  refine hK _ _ ?_; clear hX hK X K
  show IW _ _ _ _ _ _ _ _
  repeat refine IW.seq ?_
  refine IW.region_seq tab_ok [some 10, some 11, some 12, some 13, some 14, some 15, some 16, some 17, some 18, some 19, some 20, some 21, some 22, some 23] rfl fun X K hX hK => ?_
  simp only [go_sem, if_true, if_false, reduceIte, Nat.reduceEqDiff, Nat.reduceAdd, Nat.reduceLT, Nat.reduceLeDiff, reduceCtorEq]
  refine hX.quiet _ _ (OpG.of_B rfl (opB_call rfl rfl (FSpec.nz (fRight w h p hl) (by simp [go_sem, if_true, if_false, reduceIte, Nat.reduceEqDiff, Nat.reduceAdd, Nat.reduceLT, Nat.reduceLeDiff, reduceCtorEq, List.map_cons, List.map_nil, List.append_nil, opnd, unc, hr])))) ?_
  simp only [go_sem, if_true, if_false, reduceIte, Nat.reduceEqDiff, Nat.reduceAdd, Nat.reduceLT, Nat.reduceLeDiff, reduceCtorEq, hr]
  refine hX.quiet _ _ (OpG.of_BG rfl rfl rfl (by first | (simp only [go_sem, if_true, if_false, reduceIte, Nat.reduceEqDiff, Nat.reduceAdd, Nat.reduceLT, Nat.reduceLeDiff, reduceCtorEq]; done) | (simp [go_sem, if_true, if_false, reduceIte, Nat.reduceEqDiff, Nat.reduceAdd, Nat.reduceLT, Nat.reduceLeDiff, reduceCtorEq] <;> (intros; simp_all))) fun hc => opB_call rfl rfl (FSpec.nz (fRight w2 h2 q hlq) (by simp [go_sem, if_true, if_false, reduceIte, Nat.reduceEqDiff, Nat.reduceAdd, Nat.reduceLT, Nat.reduceLeDiff, reduceCtorEq, List.map_cons, List.map_nil, List.append_nil, opnd, unc, hr2]))) ?_
  simp only [go_sem, if_true, if_false, reduceIte, Nat.reduceEqDiff, Nat.reduceAdd, Nat.reduceLT, Nat.reduceLeDiff, reduceCtorEq, hr2]
  refine hK _ _ ?_; clear hX hK X K
  show IW _ _ _ _ _ _ _ _
  repeat refine IW.seq ?_
  refine IW.cond rfl (fun hb => ?_) (fun hb => ?_)
  · simp only [beq_iff_eq] at hb; omega
  · refine IW.skip ?_
    show IW _ _ _ _ _ _ _ _
    have w1 : IntKind.i64.wrap ((w : Int) - (w2 : Int)) = (w : Int) - w2 := wrap_eq (by omega) (by omega)
    have w2' : IntKind.i64.wrap ((w : Int) - (w2 : Int) + 1) = (w : Int) - w2 + 1 := wrap_eq (by omega) (by omega)
    have w3 : IntKind.i64.wrap ((h : Int) - (h2 : Int)) = (h : Int) - h2 := wrap_eq (by omega) (by omega)
    have w4 : IntKind.i64.wrap ((h : Int) - (h2 : Int) + 1) = (h : Int) - h2 + 1 := wrap_eq (by omega) (by omega)
    repeat refine IW.seq ?_
    refine IW.region_seq tab_ok [some 24, some 7, none] rfl fun X K hX hK => ?_
    simp only [go_sem, if_true, if_false, reduceIte, Nat.reduceEqDiff, Nat.reduceAdd, Nat.reduceLT, Nat.reduceLeDiff, reduceCtorEq]
    refine hX.op _ _ rfl (opS_store tab_ok rfl (by simp [go_sem, if_true, if_false, reduceIte, Nat.reduceEqDiff, Nat.reduceAdd, Nat.reduceLT, Nat.reduceLeDiff, reduceCtorEq]) (by simp [go_sem, if_true, if_false, reduceIte, Nat.reduceEqDiff, Nat.reduceAdd, Nat.reduceLT, Nat.reduceLeDiff, reduceCtorEq]) (by simp [go_sem, if_true, if_false, reduceIte, Nat.reduceEqDiff, Nat.reduceAdd, Nat.reduceLT, Nat.reduceLeDiff, reduceCtorEq]) (by simp [go_sem, if_true, if_false, reduceIte, Nat.reduceEqDiff, Nat.reduceAdd, Nat.reduceLT, Nat.reduceLeDiff, reduceCtorEq]) (by simp [go_sem, if_true, if_false, reduceIte, Nat.reduceEqDiff, Nat.reduceAdd, Nat.reduceLT, Nat.reduceLeDiff, reduceCtorEq]) (by simp [go_sem, if_true, if_false, reduceIte, Nat.reduceEqDiff, Nat.reduceAdd, Nat.reduceLT, Nat.reduceLeDiff, reduceCtorEq])) ?_
    simp only [go_sem, if_true, if_false, reduceIte, Nat.reduceEqDiff, Nat.reduceAdd, Nat.reduceLT, Nat.reduceLeDiff, reduceCtorEq]
    refine hK _ _ ?_; clear hX hK X K
    show IW _ _ _ _ _ _ _ _
    repeat refine IW.seq ?_
    refine IW.region_seq tab_ok [some 8] rfl fun X K hX hK => ?_
    simp only [go_sem, if_true, if_false, reduceIte, Nat.reduceEqDiff, Nat.reduceAdd, Nat.reduceLT, Nat.reduceLeDiff, reduceCtorEq]
    refine hK _ _ ?_; clear hX hK X K
    show IW _ _ _ _ _ _ _ _
    repeat refine IW.seq ?_
    refine IW.region_seq tab_ok [some 25, some 26, some 27, some 28, some 29, some 30, some 31, some 32, some 33, some 34, some 35, some 36, some 37, some 38, some 39, some 40] rfl fun X K hX hK => ?_
    simp only [go_sem, if_true, if_false, reduceIte, Nat.reduceEqDiff, Nat.reduceAdd, Nat.reduceLT, Nat.reduceLeDiff, reduceCtorEq, w1, w2', w3, w4]
    refine hX.quiet _ _ (OpG.of_B rfl (opPoints rfl (isSlc_sl _ _) rfl)) ?_
    simp only [go_sem, if_true, if_false, reduceIte, Nat.reduceEqDiff, Nat.reduceAdd, Nat.reduceLT, Nat.reduceLeDiff, reduceCtorEq]
    refine hK _ _ ?_; clear hX hK X K
    show IW _ _ _ _ _ _ _ _
    repeat refine IW.seq ?_
    refine IW.block ?_
    obtain ⟨HH, hHH⟩ : ∃ HH : List (Int × Int) → Heap, HH = fun pre => [some ⟨3, 33, [[.int .i64 w, .int .i64 h, .sl true (nums .u8 p)]]⟩, some ⟨3, 33, [[.int .i64 w2, .int .i64 h2, .sl true (nums .u8 q)]]⟩, some ⟨1, 3, [[.int .i64 m]]⟩, some ⟨1, 105, [[.clo 72 [.ptr 1 0 0, .ptr 0 0 0, .ptr 2 0 0]]]⟩, some ⟨1, 63, [[apF (pre.filter (fq w p w2 q m))]]⟩, some ⟨3, 90, [[.int .i64 w, .int .i64 h, .any]]⟩, some ⟨4, 56, [[.int .i64 0, .int .i64 0, .int .i64 ((w : Int) - w2 + 1), .int .i64 ((h : Int) - h2 + 1)]]⟩] ++ wpQ (pre.filter (fq w p w2 q m)) := ⟨_, rfl⟩
    refine IW.ent (tm' := [(40, .clo 80 [.ptr 5 0 0, .ptr 6 0 0]), (7, .ptr 3 0 0), (8, .ptr 4 0 0)]) (h' := HH []) (Ent.cut ?_ ?_) ?_
    · rw [hHH]; simp [go_sem, if_true, if_false, reduceIte, Nat.reduceEqDiff, Nat.reduceAdd, Nat.reduceLT, Nat.reduceLeDiff, reduceCtorEq, wpQ]
    · rw [hHH]; simp only [go_sem, if_true, if_false, reduceIte, Nat.reduceEqDiff, Nat.reduceAdd, Nat.reduceLT, Nat.reduceLeDiff, reduceCtorEq, apF, wpQ, List.filter_nil, List.append_nil]
    refine IW.rangeFunc (capsC := [.ptr 0 0 0, .ptr 1 0 0]) (rowsC := [⟨3, 90, [[.int .i64 w, .int .i64 h, .any]]⟩, ⟨4, 56, [[.int .i64 0, .int .i64 0, .int .i64 ((w : Int) - w2 + 1), .int .i64 ((h : Int) - h2 + 1)]]⟩]) [5, 6] (fun x : Int × Int => .agg [.int .i64 x.1, .int .i64 x.2]) ptV HH (fun ys => ys = ptRows w 0 0 ((w : Int) - w2 + 1) ((h : Int) - h2 + 1) h) rfl (by decide) rfl (fun t => nomapT_get t rfl) (fun pre => by rw [hHH]; dsimp only; generalize pre.filter (fq w p w2 q m) = l; cases l <;> simp [go_sem, if_true, if_false, reduceIte, Nat.reduceEqDiff, Nat.reduceAdd, Nat.reduceLT, Nat.reduceLeDiff, reduceCtorEq, apF, wpQ, prs_nomap]) rfl (fun pre => by rw [hHH]; simp [wpQ]) (fun x ρ O F w => ptV_rel x ρ O F w) (by decide) rfl (by rw [hHH]; rfl) rfl (fun pre i r e => ?_) (fPoints w h 0 0 ((w : Int) - w2 + 1) ((h : Int) - h2 + 1) (by omega) (by omega) (by unfold I64; omega) (by unfold I64; omega) (by unfold I64; omega) (by unfold I64; omega)) (fun c k pre x hpx hc => ?_) (fun ys hys => ?_)
    · rw [hHH]
      match i, e with
      | 0, e => cases e; exact ⟨_, rfl, rfl⟩
      | 1, e => cases e; exact ⟨_, rfl, rfl⟩
      | i + 2, e => simp at e
    · obtain ⟨x, y, hx, hy, rfl, hix, hiy⟩ := mem_ptRows (mem_ext hpx)
      have hlen9 : (HH []).length = 7 := by rw [hHH]; rfl
      rw [hlen9] at hc
      have hHp : HH pre = _ := congrFun hHH pre
      have hHx : HH (pre ++ [((x : Int), (y : Int))]) = _ := congrFun hHH _
      have hxw : x + w2 ≤ w := by simp only [insF, decide_eq_true_eq] at hix; omega
      have hyh : y + h2 ≤ h := by simp only [insF, decide_eq_true_eq] at hiy; omega
      have hpq : fq w p w2 q m ((x : Int), (y : Int)) = !decide (m < ((fdC w p w2 q x y q.length : Nat) : Int)) := by
        unfold fq
        simp only [Int.toNat_natCast]
        by_cases c : ((fdC w p w2 q x y q.length : Nat) : Int) ≤ m
        · simp [c]
        · simp [c]; omega
      have hfx : (pre ++ [((x : Int), (y : Int))]).filter (fq w p w2 q m) = pre.filter (fq w p w2 q m) ++ (if (!decide (m < ((fdC w p w2 q x y q.length : Nat) : Int))) = true then [((x : Int), (y : Int))] else []) := by
        rw [List.filter_append, List.filter_cons, hpq, List.filter_nil]
      have hbl : (pre.filter (fq w p w2 q m)).length ≤ 1000000 := by
        obtain ⟨r, hr2⟩ := hpx
        have a1 := fnL_le w h p w2 h2 q m h
        unfold fnL at a1
        rw [← hr2, List.filter_append, List.length_append] at a1
        rw [Nat.mul_comm w h] at hmul
        omega
      have hcall := fFind1 w h w2 h2 p q x y m hp hq hl hlq hxw hyh (by omega) (by omega)
      generalize decide (m < ((fdC w p w2 q x y q.length : Nat) : Int)) = far at *
      rw [hHp]
      cases hf : pre.filter (fq w p w2 q m) with
      | nil =>
        rw [hf] at hfx
        simp only [apF, wpQ, List.append_nil, List.cons_append, List.nil_append]
        repeat refine IWR.seq ?_
        refine IWR.region_seq tab_ok [some 9, none] rfl (by kernel_rfl) fun X K hX hK => ?_
        simp only [go_sem, if_true, if_false, reduceIte, Nat.reduceEqDiff, Nat.reduceAdd, Nat.reduceLT, Nat.reduceLeDiff, reduceCtorEq]
        refine hX.op _ _ rfl (opS_store tab_ok rfl (by simp [go_sem, if_true, if_false, reduceIte, Nat.reduceEqDiff, Nat.reduceAdd, Nat.reduceLT, Nat.reduceLeDiff, reduceCtorEq]) (by simp [go_sem, if_true, if_false, reduceIte, Nat.reduceEqDiff, Nat.reduceAdd, Nat.reduceLT, Nat.reduceLeDiff, reduceCtorEq]) (by simp [go_sem, if_true, if_false, reduceIte, Nat.reduceEqDiff, Nat.reduceAdd, Nat.reduceLT, Nat.reduceLeDiff, reduceCtorEq]) (by simp [go_sem, if_true, if_false, reduceIte, Nat.reduceEqDiff, Nat.reduceAdd, Nat.reduceLT, Nat.reduceLeDiff, reduceCtorEq]) (by simp [go_sem, if_true, if_false, reduceIte, Nat.reduceEqDiff, Nat.reduceAdd, Nat.reduceLT, Nat.reduceLeDiff, reduceCtorEq]) (by simp [go_sem, if_true, if_false, reduceIte, Nat.reduceEqDiff, Nat.reduceAdd, Nat.reduceLT, Nat.reduceLeDiff, reduceCtorEq])) ?_
        simp only [go_sem, if_true, if_false, reduceIte, Nat.reduceEqDiff, Nat.reduceAdd, Nat.reduceLT, Nat.reduceLeDiff, reduceCtorEq]
        refine hK _ _ fun c2 hc2 => ?_
        clear hX hK X K
        rw [hlen9] at hc2
        show IWR _ _ _ _ _ _ _ _ _ _
        repeat refine IWR.seq ?_
        refine IWR.block ?_
        repeat refine IWR.seq ?_
        refine IWR.region_seq tab_ok [some 42, some 43, some 44, some 45] rfl (by kernel_rfl) fun X K hX hK => ?_
        simp only [go_sem, if_true, if_false, reduceIte, Nat.reduceEqDiff, Nat.reduceAdd, Nat.reduceLT, Nat.reduceLeDiff, reduceCtorEq]
        refine hX.quiet _ _ (OpG.of_B rfl (opB_call rfl rfl (FSpec.nz (hcall) (by simp [go_sem, if_true, if_false, reduceIte, Nat.reduceEqDiff, Nat.reduceAdd, Nat.reduceLT, Nat.reduceLeDiff, reduceCtorEq, List.map_cons, List.map_nil, List.append_nil, opnd, unc, rei_ptr, rowXs, hrow, elAt, nz_rptr])))) ?_
        simp only [go_sem, if_true, if_false, reduceIte, Nat.reduceEqDiff, Nat.reduceAdd, Nat.reduceLT, Nat.reduceLeDiff, reduceCtorEq, rei_ptr, rowXs, hrow, elAt, nz_rptr]
        refine hK _ _ ?_; clear hX hK X K
        show IWR _ _ _ _ _ _ _ _ _ _
        repeat refine IWR.seq ?_
        refine IWR.cond rfl (fun hb9 => ?_) (fun hb9 => ?_)
        · rw [if_pos hb9] at hfx
          repeat refine IWR.seq ?_
          refine IWR.region_seq tab_ok [some 46, some 47, some 48, some 49, none] rfl (by kernel_rfl) fun X K hX hK => ?_
          simp only [go_sem, if_true, if_false, reduceIte, Nat.reduceEqDiff, Nat.reduceAdd, Nat.reduceLT, Nat.reduceLeDiff, reduceCtorEq]
          refine hX.quiet _ _ (OpG.of_B rfl (opB_buildSlice tab_ok rfl (by simp [go_sem, if_true, if_false, reduceIte, Nat.reduceEqDiff, Nat.reduceAdd, Nat.reduceLT, Nat.reduceLeDiff, reduceCtorEq]) (by simp [go_sem, if_true, if_false, reduceIte, Nat.reduceEqDiff, Nat.reduceAdd, Nat.reduceLT, Nat.reduceLeDiff, reduceCtorEq]) (by simp) (by simp [go_sem, if_true, if_false, reduceIte, Nat.reduceEqDiff, Nat.reduceAdd, Nat.reduceLT, Nat.reduceLeDiff, reduceCtorEq, bsO, List.map_cons, List.map_nil]))) ?_
          simp only [go_sem, if_true, if_false, reduceIte, Nat.reduceEqDiff, Nat.reduceAdd, Nat.reduceLT, Nat.reduceLeDiff, reduceCtorEq, List.map_cons, List.map_nil]
          refine hX.quiet _ _ (OpG.of_B rfl (opB_append_nil tab_ok (ys := [[.int .i64 x, .int .i64 y]]) rfl (by simp [go_sem, if_true, if_false, reduceIte, Nat.reduceEqDiff, Nat.reduceAdd, Nat.reduceLT, Nat.reduceLeDiff, reduceCtorEq]) rfl (by simp [go_sem, if_true, if_false, reduceIte, Nat.reduceEqDiff, Nat.reduceAdd, Nat.reduceLT, Nat.reduceLeDiff, reduceCtorEq]; try omega) rfl (by simp [go_sem, if_true, if_false, reduceIte, Nat.reduceEqDiff, Nat.reduceAdd, Nat.reduceLT, Nat.reduceLeDiff, reduceCtorEq]) (by simp [go_sem, if_true, if_false, reduceIte, Nat.reduceEqDiff, Nat.reduceAdd, Nat.reduceLT, Nat.reduceLeDiff, reduceCtorEq]) (by first | exact nums_w _ _ | exact prs_w _ | simp [go_sem, if_true, if_false, reduceIte, Nat.reduceEqDiff, Nat.reduceAdd, Nat.reduceLT, Nat.reduceLeDiff, reduceCtorEq, nums]) (by simp [go_sem, if_true, if_false, reduceIte, Nat.reduceEqDiff, Nat.reduceAdd, Nat.reduceLT, Nat.reduceLeDiff, reduceCtorEq]) (by simp [go_sem, if_true, if_false, reduceIte, Nat.reduceEqDiff, Nat.reduceAdd, Nat.reduceLT, Nat.reduceLeDiff, reduceCtorEq]; try omega) (by simp [go_sem, if_true, if_false, reduceIte, Nat.reduceEqDiff, Nat.reduceAdd, Nat.reduceLT, Nat.reduceLeDiff, reduceCtorEq]; try omega))) ?_
          simp only [go_sem, if_true, if_false, reduceIte, Nat.reduceEqDiff, Nat.reduceAdd, Nat.reduceLT, Nat.reduceLeDiff, reduceCtorEq, List.length_cons, List.length_nil]
          refine hX.op _ _ rfl (opS_store tab_ok rfl (by simp [go_sem, if_true, if_false, reduceIte, Nat.reduceEqDiff, Nat.reduceAdd, Nat.reduceLT, Nat.reduceLeDiff, reduceCtorEq]) (by simp [go_sem, if_true, if_false, reduceIte, Nat.reduceEqDiff, Nat.reduceAdd, Nat.reduceLT, Nat.reduceLeDiff, reduceCtorEq]) (by simp [go_sem, if_true, if_false, reduceIte, Nat.reduceEqDiff, Nat.reduceAdd, Nat.reduceLT, Nat.reduceLeDiff, reduceCtorEq]) (by simp [go_sem, if_true, if_false, reduceIte, Nat.reduceEqDiff, Nat.reduceAdd, Nat.reduceLT, Nat.reduceLeDiff, reduceCtorEq]) (by simp [go_sem, if_true, if_false, reduceIte, Nat.reduceEqDiff, Nat.reduceAdd, Nat.reduceLT, Nat.reduceLeDiff, reduceCtorEq]) (by simp [go_sem, if_true, if_false, reduceIte, Nat.reduceEqDiff, Nat.reduceAdd, Nat.reduceLT, Nat.reduceLeDiff, reduceCtorEq])) ?_
          simp only [go_sem, if_true, if_false, reduceIte, Nat.reduceEqDiff, Nat.reduceAdd, Nat.reduceLT, Nat.reduceLeDiff, reduceCtorEq]
          refine hK _ _ fun c3 hc3 => ?_
          refine Ent.ren [0, 1, 2, 3, 4, 5, 6, 9] (by rw [hHx]; simp [hfx, wpQ]) (by decide) trivial ?_ (fun id ri e => ?_)
          · rw [hHx]
            simp [go_sem, if_true, if_false, reduceIte, Nat.reduceEqDiff, Nat.reduceAdd, Nat.reduceLT, Nat.reduceLeDiff, reduceCtorEq, subH, sg, hfx, apF, wpQ, Row.ren, prs_ren, prs]
          · have h5 := hc3 id ri e
            rw [hlen9] at h5
            match id, h5 with
            | 0, _ => rfl
            | 1, _ => rfl
            | 2, _ => rfl
            | 3, _ => rfl
            | 4, _ => rfl
            | 5, _ => rfl
            | 6, _ => rfl
            | n + 7, h5 => omega
        · rw [if_neg (by rw [hb9]; simp), List.append_nil] at hfx
          refine IWR.skip fun c3 hc3 => ?_
          refine Ent.ren [0, 1, 2, 3, 4, 5, 6] (by rw [hHx]; simp [hfx, wpQ]) (by decide) trivial ?_ (fun id ri e => ?_)
          · rw [hHx]
            simp [go_sem, if_true, if_false, reduceIte, Nat.reduceEqDiff, Nat.reduceAdd, Nat.reduceLT, Nat.reduceLeDiff, reduceCtorEq, subH, sg, hfx, apF, wpQ, Row.ren, prs_ren]
          · have h5 := hc3 id ri e
            rw [hlen9] at h5
            match id, h5 with
            | 0, _ => rfl
            | 1, _ => rfl
            | 2, _ => rfl
            | 3, _ => rfl
            | 4, _ => rfl
            | 5, _ => rfl
            | 6, _ => rfl
            | n + 7, h5 => omega
      | cons b r =>
        rw [hf, List.length_cons] at hbl
        rw [hf] at hfx
        simp only [apF, wpQ, List.append_nil, List.cons_append, List.nil_append]
        repeat refine IWR.seq ?_
        refine IWR.region_seq tab_ok [some 9, none] rfl (by kernel_rfl) fun X K hX hK => ?_
        simp only [go_sem, if_true, if_false, reduceIte, Nat.reduceEqDiff, Nat.reduceAdd, Nat.reduceLT, Nat.reduceLeDiff, reduceCtorEq]
        refine hX.op _ _ rfl (opS_store tab_ok rfl (by simp [go_sem, if_true, if_false, reduceIte, Nat.reduceEqDiff, Nat.reduceAdd, Nat.reduceLT, Nat.reduceLeDiff, reduceCtorEq]) (by simp [go_sem, if_true, if_false, reduceIte, Nat.reduceEqDiff, Nat.reduceAdd, Nat.reduceLT, Nat.reduceLeDiff, reduceCtorEq]) (by simp [go_sem, if_true, if_false, reduceIte, Nat.reduceEqDiff, Nat.reduceAdd, Nat.reduceLT, Nat.reduceLeDiff, reduceCtorEq]) (by simp [go_sem, if_true, if_false, reduceIte, Nat.reduceEqDiff, Nat.reduceAdd, Nat.reduceLT, Nat.reduceLeDiff, reduceCtorEq]) (by simp [go_sem, if_true, if_false, reduceIte, Nat.reduceEqDiff, Nat.reduceAdd, Nat.reduceLT, Nat.reduceLeDiff, reduceCtorEq]) (by simp [go_sem, if_true, if_false, reduceIte, Nat.reduceEqDiff, Nat.reduceAdd, Nat.reduceLT, Nat.reduceLeDiff, reduceCtorEq])) ?_
        simp only [go_sem, if_true, if_false, reduceIte, Nat.reduceEqDiff, Nat.reduceAdd, Nat.reduceLT, Nat.reduceLeDiff, reduceCtorEq]
        refine hK _ _ fun c2 hc2 => ?_
        clear hX hK X K
        rw [hlen9] at hc2
        show IWR _ _ _ _ _ _ _ _ _ _
        repeat refine IWR.seq ?_
        refine IWR.block ?_
        repeat refine IWR.seq ?_
        refine IWR.region_seq tab_ok [some 42, some 43, some 44, some 45] rfl (by kernel_rfl) fun X K hX hK => ?_
        simp only [go_sem, if_true, if_false, reduceIte, Nat.reduceEqDiff, Nat.reduceAdd, Nat.reduceLT, Nat.reduceLeDiff, reduceCtorEq]
        refine hX.quiet _ _ (OpG.of_B rfl (opB_call rfl rfl (FSpec.nz (hcall) (by simp [go_sem, if_true, if_false, reduceIte, Nat.reduceEqDiff, Nat.reduceAdd, Nat.reduceLT, Nat.reduceLeDiff, reduceCtorEq, List.map_cons, List.map_nil, List.append_nil, opnd, unc, rei_ptr, rowXs, hrow, elAt, nz_rptr])))) ?_
        simp only [go_sem, if_true, if_false, reduceIte, Nat.reduceEqDiff, Nat.reduceAdd, Nat.reduceLT, Nat.reduceLeDiff, reduceCtorEq, rei_ptr, rowXs, hrow, elAt, nz_rptr]
        refine hK _ _ ?_; clear hX hK X K
        show IWR _ _ _ _ _ _ _ _ _ _
        repeat refine IWR.seq ?_
        refine IWR.cond rfl (fun hb9 => ?_) (fun hb9 => ?_)
        · rw [if_pos hb9] at hfx
          repeat refine IWR.seq ?_
          refine IWR.region_seq tab_ok [some 46, some 47, some 48, some 49, none] rfl (by kernel_rfl) fun X K hX hK => ?_
          simp only [go_sem, if_true, if_false, reduceIte, Nat.reduceEqDiff, Nat.reduceAdd, Nat.reduceLT, Nat.reduceLeDiff, reduceCtorEq]
          refine hX.quiet _ _ (OpG.of_B rfl (opB_buildSlice tab_ok rfl (by simp [go_sem, if_true, if_false, reduceIte, Nat.reduceEqDiff, Nat.reduceAdd, Nat.reduceLT, Nat.reduceLeDiff, reduceCtorEq]) (by simp [go_sem, if_true, if_false, reduceIte, Nat.reduceEqDiff, Nat.reduceAdd, Nat.reduceLT, Nat.reduceLeDiff, reduceCtorEq]) (by simp) (by simp [go_sem, if_true, if_false, reduceIte, Nat.reduceEqDiff, Nat.reduceAdd, Nat.reduceLT, Nat.reduceLeDiff, reduceCtorEq, bsO, List.map_cons, List.map_nil]))) ?_
          simp only [go_sem, if_true, if_false, reduceIte, Nat.reduceEqDiff, Nat.reduceAdd, Nat.reduceLT, Nat.reduceLeDiff, reduceCtorEq, List.map_cons, List.map_nil]
          refine hX.op _ _ rfl (opS_append tab_ok (ys := [[.int .i64 x, .int .i64 y]]) rfl (by simp [go_sem, if_true, if_false, reduceIte, Nat.reduceEqDiff, Nat.reduceAdd, Nat.reduceLT, Nat.reduceLeDiff, reduceCtorEq, prs_length, List.length_cons]) rfl (by simp [go_sem, if_true, if_false, reduceIte, Nat.reduceEqDiff, Nat.reduceAdd, Nat.reduceLT, Nat.reduceLeDiff, reduceCtorEq, prs_length, List.length_cons]; try omega) rfl (by simp [go_sem, if_true, if_false, reduceIte, Nat.reduceEqDiff, Nat.reduceAdd, Nat.reduceLT, Nat.reduceLeDiff, reduceCtorEq]) (by simp [go_sem, if_true, if_false, reduceIte, Nat.reduceEqDiff, Nat.reduceAdd, Nat.reduceLT, Nat.reduceLeDiff, reduceCtorEq]) (by simp [go_sem, if_true, if_false, reduceIte, Nat.reduceEqDiff, Nat.reduceAdd, Nat.reduceLT, Nat.reduceLeDiff, reduceCtorEq, prs_length, List.length_cons]) rfl rfl rfl (by first | exact nums_w _ _ | exact prs_w _ | simp [go_sem, if_true, if_false, reduceIte, Nat.reduceEqDiff, Nat.reduceAdd, Nat.reduceLT, Nat.reduceLeDiff, reduceCtorEq, nums]) (by simp [go_sem, if_true, if_false, reduceIte, Nat.reduceEqDiff, Nat.reduceAdd, Nat.reduceLT, Nat.reduceLeDiff, reduceCtorEq]) (by simp [go_sem, if_true, if_false, reduceIte, Nat.reduceEqDiff, Nat.reduceAdd, Nat.reduceLT, Nat.reduceLeDiff, reduceCtorEq]; omega) (by simp [go_sem, if_true, if_false, reduceIte, Nat.reduceEqDiff, Nat.reduceAdd, Nat.reduceLT, Nat.reduceLeDiff, reduceCtorEq]; omega) (by intro d e; cases e; decide)) ?_
          simp only [go_sem, if_true, if_false, reduceIte, Nat.reduceEqDiff, Nat.reduceAdd, Nat.reduceLT, Nat.reduceLeDiff, reduceCtorEq, List.length_cons, List.length_nil, prs_length, List.length_cons]
          refine hX.op _ _ rfl (opS_store tab_ok rfl (by simp [go_sem, if_true, if_false, reduceIte, Nat.reduceEqDiff, Nat.reduceAdd, Nat.reduceLT, Nat.reduceLeDiff, reduceCtorEq]) (by simp [go_sem, if_true, if_false, reduceIte, Nat.reduceEqDiff, Nat.reduceAdd, Nat.reduceLT, Nat.reduceLeDiff, reduceCtorEq]) (by simp [go_sem, if_true, if_false, reduceIte, Nat.reduceEqDiff, Nat.reduceAdd, Nat.reduceLT, Nat.reduceLeDiff, reduceCtorEq]) (by simp [go_sem, if_true, if_false, reduceIte, Nat.reduceEqDiff, Nat.reduceAdd, Nat.reduceLT, Nat.reduceLeDiff, reduceCtorEq]) (by simp [go_sem, if_true, if_false, reduceIte, Nat.reduceEqDiff, Nat.reduceAdd, Nat.reduceLT, Nat.reduceLeDiff, reduceCtorEq]) (by simp [go_sem, if_true, if_false, reduceIte, Nat.reduceEqDiff, Nat.reduceAdd, Nat.reduceLT, Nat.reduceLeDiff, reduceCtorEq])) ?_
          simp only [go_sem, if_true, if_false, reduceIte, Nat.reduceEqDiff, Nat.reduceAdd, Nat.reduceLT, Nat.reduceLeDiff, reduceCtorEq]
          refine hK _ _ fun c3 hc3 => ?_
          refine Ent.ren [0, 1, 2, 3, 4, 5, 6, 10] (by rw [hHx]; simp [hfx, wpQ]) (by decide) trivial ?_ (fun id ri e => ?_)
          · rw [hHx]
            have ht : (prs (b :: r)).take (r.length + 1) ++ [[.int .i64 x, .int .i64 y]] = prs (b :: (r ++ [((x : Int), (y : Int))])) := by
              rw [List.take_of_length_le (by rw [prs_length]; simp)]; simp [prs]
            simp [go_sem, if_true, if_false, reduceIte, Nat.reduceEqDiff, Nat.reduceAdd, Nat.reduceLT, Nat.reduceLeDiff, reduceCtorEq, subH, sg, hfx, apF, wpQ, Row.ren, prs_ren, ht]
          · have h5 := hc3 id ri e
            rw [hlen9] at h5
            match id, h5 with
            | 0, _ => rfl
            | 1, _ => rfl
            | 2, _ => rfl
            | 3, _ => rfl
            | 4, _ => rfl
            | 5, _ => rfl
            | 6, _ => rfl
            | n + 7, h5 => omega
        · rw [if_neg (by rw [hb9]; simp), List.append_nil] at hfx
          refine IWR.skip fun c3 hc3 => ?_
          refine Ent.ren [0, 1, 2, 3, 4, 5, 6, 7] (by rw [hHx]; simp [hfx, wpQ]) (by decide) trivial ?_ (fun id ri e => ?_)
          · rw [hHx]
            simp [go_sem, if_true, if_false, reduceIte, Nat.reduceEqDiff, Nat.reduceAdd, Nat.reduceLT, Nat.reduceLeDiff, reduceCtorEq, subH, sg, hfx, apF, wpQ, Row.ren, prs_ren]
          · have h5 := hc3 id ri e
            rw [hlen9] at h5
            match id, h5 with
            | 0, _ => rfl
            | 1, _ => rfl
            | 2, _ => rfl
            | 3, _ => rfl
            | 4, _ => rfl
            | 5, _ => rfl
            | 6, _ => rfl
            | n + 7, h5 => omega
    · subst hys
      have hHp : HH (ptRows w 0 0 ((w : Int) - w2 + 1) ((h : Int) - h2 + 1) h) = _ := congrFun hHH _
      rw [hHp]
      show IW _ _ _ _ _ _ _ _
      repeat refine IW.seq ?_
      refine IW.region_seq tab_ok [some 50, some 6] rfl fun X K hX hK => ?_
      simp only [go_sem, if_true, if_false, reduceIte, Nat.reduceEqDiff, Nat.reduceAdd, Nat.reduceLT, Nat.reduceLeDiff, reduceCtorEq]
      refine hK _ _ ?_; clear hX hK X K
      show IW _ _ _ _ _ _ _ _
      refine IW.ret (hfin _ _ _ _ _ _ _ _ ?_)
      simp [go_sem, if_true, if_false, reduceIte, Nat.reduceEqDiff, Nat.reduceAdd, Nat.reduceLT, Nat.reduceLeDiff, reduceCtorEq, fnL]
end Go.Proofs.Ytnbpbehlemaeoaa

set_option linter.unusedVariables false
set_option linter.unusedSimpArgs false
set_option maxRecDepth 10000
namespace Go.Proofs.Ytnbpbehlemaeoaa
open Go.IL
/-- The places at which an image stands in another one. -/
def fndF (W H : Int) (p : List Int) (W2 H2 : Int) (q : List Int) (m : Int) : List (Int × Int) := if rightS W H p = true ∧ rightS W2 H2 q = true ∧ q.length ≠ 0 then fnL W.toNat H.toNat p W2.toNat H2.toNat q m H.toNat else []
theorem fndF_len (W H : Int) (p : List Int) (W2 H2 : Int) (q : List Int) (m : Int) : (fndF W H p W2 H2 q m).length ≤ 1000000 := by
  unfold fndF
  split
  · rename_i hr
    obtain ⟨hlen, h0, h1, h2, h3⟩ := right_len hr.1
    have a1 := fnL_le W.toNat H.toNat p W2.toNat H2.toNat q m H.toNat
    have a2 : H.toNat * W.toNat ≤ 640 * 640 := Nat.mul_le_mul (by omega) (by omega)
    omega
  · simp
theorem pixF_len (W H : Int) (p : List Int) (X0 Y RW RH : Int) : (pixF W H p X0 Y RW RH).length ≤ 1000000 := by
  unfold pixF
  split
  · rename_i hr
    obtain ⟨hlen, h0, h1, h2, h3⟩ := right_len hr
    have a1 := pxL_le W.toNat H.toNat p X0 Y RW RH H.toNat
    have a2 : H.toNat * W.toNat ≤ 640 * 640 := Nat.mul_le_mul (by omega) (by omega)
    omega
  · simp
theorem fFind (W H : Int) (p : List Int) (W2 H2 : Int) (q : List Int) (m : Int) (hm : I64 m) (hl : p.length ≤ 1000000) (hlq : q.length ≤ 1000000) :
    FSpec Try.prog 45 [ink W H p, ink W2 H2 q, .int .i64 m] (lsV 0 (fndF W H p W2 H2 q m).length) [⟨2, 68, prs (fndF W H p W2 H2 q m)⟩] := by
  by_cases hr : rightS W H p = true ∧ rightS W2 H2 q = true ∧ q.length ≠ 0
  case neg =>
    have e1 : fndF W H p W2 H2 q m = [] := by simp only [fndF, hr, if_false]
    rw [e1]
    refine FSpec.ghost (r := ⟨2, 68, prs []⟩) (sv := .nils) ?_ fun F w v h => rel_ls_nil h
    refine FSpec.intro tab_ok Try.func45 rfl rfl rfl (by kernel_rfl) (by simp) fun w0 => ?_
    simp only [argTM, Nat.zero_add, Nat.reduceAdd]
    simp only [ink]
    repeat refine IW.seq ?_
    refine IW.region_seq tab_ok [some 3, some 4, some 5, some 6] rfl fun X K hX hK => ?_
    simp only [go_sem, if_true, if_false, reduceIte, Nat.reduceEqDiff, Nat.reduceAdd, Nat.reduceLT, Nat.reduceLeDiff, reduceCtorEq]
    refine hK _ _ ?_; clear hX hK X K
    show IW _ _ _ _ _ _ _ _
    repeat refine IW.seq ?_
    refine IW.region_seq tab_ok [some 10, some 11, some 12, some 13, some 14, some 15, some 16, some 17, some 18, some 19, some 20, some 21, some 22, some 23] rfl fun X K hX hK => ?_
    simp only [go_sem, if_true, if_false, reduceIte, Nat.reduceEqDiff, Nat.reduceAdd, Nat.reduceLT, Nat.reduceLeDiff, reduceCtorEq]
    refine hX.quiet _ _ (OpG.of_B rfl (opB_call rfl rfl (FSpec.nz (fRight W H p hl) (by simp [go_sem, if_true, if_false, reduceIte, Nat.reduceEqDiff, Nat.reduceAdd, Nat.reduceLT, Nat.reduceLeDiff, reduceCtorEq, List.map_cons, List.map_nil, List.append_nil, opnd, unc])))) ?_
    simp only [go_sem, if_true, if_false, reduceIte, Nat.reduceEqDiff, Nat.reduceAdd, Nat.reduceLT, Nat.reduceLeDiff, reduceCtorEq]
    refine hX.quiet _ _ (OpG.of_BG rfl rfl rfl (by first | (simp only [go_sem, if_true, if_false, reduceIte, Nat.reduceEqDiff, Nat.reduceAdd, Nat.reduceLT, Nat.reduceLeDiff, reduceCtorEq]; done) | (simp [go_sem, if_true, if_false, reduceIte, Nat.reduceEqDiff, Nat.reduceAdd, Nat.reduceLT, Nat.reduceLeDiff, reduceCtorEq] <;> (intros; simp_all))) fun hc => opB_call rfl rfl (FSpec.nz (fRight W2 H2 q hlq) (by simp [go_sem, if_true, if_false, reduceIte, Nat.reduceEqDiff, Nat.reduceAdd, Nat.reduceLT, Nat.reduceLeDiff, reduceCtorEq, List.map_cons, List.map_nil, List.append_nil, opnd, unc]))) ?_
    simp only [go_sem, if_true, if_false, reduceIte, Nat.reduceEqDiff, Nat.reduceAdd, Nat.reduceLT, Nat.reduceLeDiff, reduceCtorEq]
    refine hK _ _ ?_; clear hX hK X K
    show IW _ _ _ _ _ _ _ _
    cases c1 : rightS W H p with
    | false =>
      repeat refine IW.seq ?_
      refine IW.cond rfl (fun hb => ?_) (fun hb => ?_)
      · repeat refine IW.seq ?_
        refine IW.region_seq tab_ok [some 6] rfl fun X K hX hK => ?_
        simp only [go_sem, if_true, if_false, reduceIte, Nat.reduceEqDiff, Nat.reduceAdd, Nat.reduceLT, Nat.reduceLeDiff, reduceCtorEq]
        refine hK _ _ ?_; clear hX hK X K
        show IW _ _ _ _ _ _ _ _
        refine IW.ret (Fin.scal rfl rfl ?_)
        rfl
      · simp [c1] at hb
    | true =>
      cases c2 : rightS W2 H2 q with
      | false =>
        repeat refine IW.seq ?_
        refine IW.cond rfl (fun hb => ?_) (fun hb => ?_)
        · repeat refine IW.seq ?_
          refine IW.region_seq tab_ok [some 6] rfl fun X K hX hK => ?_
          simp only [go_sem, if_true, if_false, reduceIte, Nat.reduceEqDiff, Nat.reduceAdd, Nat.reduceLT, Nat.reduceLeDiff, reduceCtorEq]
          refine hK _ _ ?_; clear hX hK X K
          show IW _ _ _ _ _ _ _ _
          refine IW.ret (Fin.scal rfl rfl ?_)
          rfl
        · simp [c1, c2] at hb
      | true =>
        have c3 : q.length = 0 := by
          rcases Nat.eq_zero_or_pos q.length with c | c
          · exact c
          · exact absurd ⟨c1, c2, by omega⟩ hr
        repeat refine IW.seq ?_
        refine IW.cond rfl (fun hb => ?_) (fun hb => ?_)
        · repeat refine IW.seq ?_
          refine IW.region_seq tab_ok [some 6] rfl fun X K hX hK => ?_
          simp only [go_sem, if_true, if_false, reduceIte, Nat.reduceEqDiff, Nat.reduceAdd, Nat.reduceLT, Nat.reduceLeDiff, reduceCtorEq]
          refine hK _ _ ?_; clear hX hK X K
          show IW _ _ _ _ _ _ _ _
          refine IW.ret (Fin.scal rfl rfl ?_)
          rfl
        · simp [c1, c2, c3] at hb
  case pos =>
    obtain ⟨hr1, hr2, hne⟩ := hr
    obtain ⟨hlen, h0, h1, h2, h3⟩ := right_len hr1
    obtain ⟨hlen', h0', h1', h2', h3'⟩ := right_len hr2
    obtain ⟨w, rfl⟩ : ∃ w : Nat, W = w := ⟨W.toNat, by omega⟩
    obtain ⟨h, rfl⟩ : ∃ h : Nat, H = h := ⟨H.toNat, by omega⟩
    obtain ⟨w2, rfl⟩ : ∃ w : Nat, W2 = w := ⟨W2.toNat, by omega⟩
    obtain ⟨hh, rfl⟩ : ∃ h : Nat, H2 = h := ⟨H2.toNat, by omega⟩
    have e1 : fndF w h p w2 hh q m = fnL w h p w2 hh q m h := by simp only [fndF, Int.toNat_natCast]; rw [if_pos ⟨hr1, hr2, hne⟩]
    rw [e1]
    have key := fun sv rows => @fFind0 w h w2 hh p q m hr1 hr2 hne hm hl hlq sv rows
    generalize fnL w h p w2 hh q m h = L at *
    cases L with
    | nil => exact FSpec.ghost (r := ⟨2, 68, prs []⟩) (sv := .nils) (key _ _ fun tm r0 r1 r2 r3 r4 r5 r6 e => Fin.scal rfl rfl e) fun F w v h => rel_ls_nil h
    | cons b r => exact key _ _ fun tm r0 r1 r2 r3 r4 r5 r6 e => Fin.tmp1 7 rfl (prs_nold _) e (by simp [go_sem, if_true, if_false, reduceIte, Nat.reduceEqDiff, Nat.reduceAdd, Nat.reduceLT, Nat.reduceLeDiff, reduceCtorEq, wpQ, Row.ren, prs_ren, hrow])
theorem refFind (W H : Int) (p : List Int) (W2 H2 : Int) (q : List Int) (m : Int) (hm : I64 m) (hl : p.length ≤ 1000000) (hlq : q.length ≤ 1000000) :
    FSpec Try.prog 46 [ink W H p, ink W2 H2 q, .int .i64 m] (lsV 0 (fndF W H p W2 H2 q m).length) [⟨2, 68, prs (fndF W H p W2 H2 q m)⟩] := by
  by_cases hr : rightS W H p = true ∧ rightS W2 H2 q = true ∧ q.length ≠ 0
  case neg =>
    have e1 : fndF W H p W2 H2 q m = [] := by simp only [fndF, hr, if_false]
    rw [e1]
    refine FSpec.ghost (r := ⟨2, 68, prs []⟩) (sv := .nils) ?_ fun F w v h => rel_ls_nil h
    refine FSpec.intro tab_ok Try.func46 rfl rfl rfl (by kernel_rfl) (by simp) fun w0 => ?_
    simp only [argTM, Nat.zero_add, Nat.reduceAdd]
    simp only [ink]
    repeat refine IW.seq ?_
    refine IW.region_seq tab_ok [some 3, some 4, some 6] rfl fun X K hX hK => ?_
    simp only [go_sem, if_true, if_false, reduceIte, Nat.reduceEqDiff, Nat.reduceAdd, Nat.reduceLT, Nat.reduceLeDiff, reduceCtorEq]
    refine hK _ _ ?_; clear hX hK X K
    show IW _ _ _ _ _ _ _ _
    repeat refine IW.seq ?_
    refine IW.region_seq tab_ok [some 13, some 14, some 15, some 16, some 17, some 18, some 19, some 20, some 21, some 22, some 23, some 24, some 25, some 26] rfl fun X K hX hK => ?_
    simp only [go_sem, if_true, if_false, reduceIte, Nat.reduceEqDiff, Nat.reduceAdd, Nat.reduceLT, Nat.reduceLeDiff, reduceCtorEq]
    refine hX.quiet _ _ (OpG.of_B rfl (opB_call rfl rfl (FSpec.nz (refRight W H p hl) (by simp [go_sem, if_true, if_false, reduceIte, Nat.reduceEqDiff, Nat.reduceAdd, Nat.reduceLT, Nat.reduceLeDiff, reduceCtorEq, List.map_cons, List.map_nil, List.append_nil, opnd, unc])))) ?_
    simp only [go_sem, if_true, if_false, reduceIte, Nat.reduceEqDiff, Nat.reduceAdd, Nat.reduceLT, Nat.reduceLeDiff, reduceCtorEq]
    refine hX.quiet _ _ (OpG.of_BG rfl rfl rfl (by first | (simp only [go_sem, if_true, if_false, reduceIte, Nat.reduceEqDiff, Nat.reduceAdd, Nat.reduceLT, Nat.reduceLeDiff, reduceCtorEq]; done) | (simp [go_sem, if_true, if_false, reduceIte, Nat.reduceEqDiff, Nat.reduceAdd, Nat.reduceLT, Nat.reduceLeDiff, reduceCtorEq] <;> (intros; simp_all))) fun hc => opB_call rfl rfl (FSpec.nz (refRight W2 H2 q hlq) (by simp [go_sem, if_true, if_false, reduceIte, Nat.reduceEqDiff, Nat.reduceAdd, Nat.reduceLT, Nat.reduceLeDiff, reduceCtorEq, List.map_cons, List.map_nil, List.append_nil, opnd, unc]))) ?_
    simp only [go_sem, if_true, if_false, reduceIte, Nat.reduceEqDiff, Nat.reduceAdd, Nat.reduceLT, Nat.reduceLeDiff, reduceCtorEq]
    refine hK _ _ ?_; clear hX hK X K
    show IW _ _ _ _ _ _ _ _
    cases c1 : rightS W H p with
    | false =>
      repeat refine IW.seq ?_
      refine IW.cond rfl (fun hb => ?_) (fun hb => ?_)
      · repeat refine IW.seq ?_
        refine IW.region_seq tab_ok [some 6] rfl fun X K hX hK => ?_
        simp only [go_sem, if_true, if_false, reduceIte, Nat.reduceEqDiff, Nat.reduceAdd, Nat.reduceLT, Nat.reduceLeDiff, reduceCtorEq]
        refine hK _ _ ?_; clear hX hK X K
        show IW _ _ _ _ _ _ _ _
        refine IW.ret (Fin.scal rfl rfl ?_)
        rfl
      · simp [c1] at hb
    | true =>
      cases c2 : rightS W2 H2 q with
      | false =>
        repeat refine IW.seq ?_
        refine IW.cond rfl (fun hb => ?_) (fun hb => ?_)
        · repeat refine IW.seq ?_
          refine IW.region_seq tab_ok [some 6] rfl fun X K hX hK => ?_
          simp only [go_sem, if_true, if_false, reduceIte, Nat.reduceEqDiff, Nat.reduceAdd, Nat.reduceLT, Nat.reduceLeDiff, reduceCtorEq]
          refine hK _ _ ?_; clear hX hK X K
          show IW _ _ _ _ _ _ _ _
          refine IW.ret (Fin.scal rfl rfl ?_)
          rfl
        · simp [c1, c2] at hb
      | true =>
        have c3 : q.length = 0 := by
          rcases Nat.eq_zero_or_pos q.length with c | c
          · exact c
          · exact absurd ⟨c1, c2, by omega⟩ hr
        repeat refine IW.seq ?_
        refine IW.cond rfl (fun hb => ?_) (fun hb => ?_)
        · repeat refine IW.seq ?_
          refine IW.region_seq tab_ok [some 6] rfl fun X K hX hK => ?_
          simp only [go_sem, if_true, if_false, reduceIte, Nat.reduceEqDiff, Nat.reduceAdd, Nat.reduceLT, Nat.reduceLeDiff, reduceCtorEq]
          refine hK _ _ ?_; clear hX hK X K
          show IW _ _ _ _ _ _ _ _
          refine IW.ret (Fin.scal rfl rfl ?_)
          rfl
        · simp [c1, c2, c3] at hb
  case pos =>
    obtain ⟨hr1, hr2, hne⟩ := hr
    obtain ⟨hlen, h0, h1, h2, h3⟩ := right_len hr1
    obtain ⟨hlen', h0', h1', h2', h3'⟩ := right_len hr2
    obtain ⟨w, rfl⟩ : ∃ w : Nat, W = w := ⟨W.toNat, by omega⟩
    obtain ⟨h, rfl⟩ : ∃ h : Nat, H = h := ⟨H.toNat, by omega⟩
    obtain ⟨w2, rfl⟩ : ∃ w : Nat, W2 = w := ⟨W2.toNat, by omega⟩
    obtain ⟨hh, rfl⟩ : ∃ h : Nat, H2 = h := ⟨H2.toNat, by omega⟩
    have e1 : fndF w h p w2 hh q m = fnL w h p w2 hh q m h := by simp only [fndF, Int.toNat_natCast]; rw [if_pos ⟨hr1, hr2, hne⟩]
    rw [e1]
    have key := fun sv rows => @refFind0 w h w2 hh p q m hr1 hr2 hne hm hl hlq sv rows
    generalize fnL w h p w2 hh q m h = L at *
    cases L with
    | nil => exact FSpec.ghost (r := ⟨2, 68, prs []⟩) (sv := .nils) (key _ _ fun tm r0 r1 e => Fin.scal rfl rfl e) fun F w v h => rel_ls_nil h
    | cons b r => exact key _ _ fun tm r0 r1 e => Fin.tmp1 2 rfl (prs_nold _) e (by simp [go_sem, if_true, if_false, reduceIte, Nat.reduceEqDiff, Nat.reduceAdd, Nat.reduceLT, Nat.reduceLeDiff, reduceCtorEq, wpR, Row.ren, prs_ren, hrow])
end Go.Proofs.Ytnbpbehlemaeoaa

set_option linter.unusedVariables false
set_option linter.unusedSimpArgs false
set_option maxRecDepth 10000
namespace Go.Proofs.Ytnbpbehlemaeoaa
open Go.IL
set_option maxHeartbeats 2000000 in
/-- The law's function. -/
theorem fFinds (W H : Int) (p : List Int) (W2 H2 : Int) (q : List Int) (m X0 Y RW RH : Int) (hm : I64 m) (hX0 : I64 X0) (hY : I64 Y) (hRW : I64 RW) (hRH : I64 RH) : FSpec Try.prog 9 [ink W H p, ink W2 H2 q, .int .i64 m, rectV X0 Y RW RH] (.bool true) [] := by
  refine FSpec.intro tab_ok Try.func9 rfl rfl rfl (by kernel_rfl) (by simp) fun w0 => ?_
  simp only [argTM, Nat.zero_add, Nat.reduceAdd]
  simp only [ink, rectV]
  repeat refine IW.seq ?_
  refine IW.region_seq tab_ok [some 4, some 5, some 7, some 8] rfl fun X K hX hK => ?_
  simp only [go_sem, if_true, if_false, reduceIte, Nat.reduceEqDiff, Nat.reduceAdd, Nat.reduceLT, Nat.reduceLeDiff, reduceCtorEq]
  refine hK _ _ ?_; clear hX hK X K
  show IW _ _ _ _ _ _ _ _
  repeat refine IW.seq ?_
  refine IW.region_seq tab_ok [some 9, some 10, some 11, some 12, some 13, some 14, some 15, some 16] rfl fun X K hX hK => ?_
  simp only [go_sem, if_true, if_false, reduceIte, Nat.reduceEqDiff, Nat.reduceAdd, Nat.reduceLT, Nat.reduceLeDiff, reduceCtorEq]
  refine hX.quiet _ _ (OpG.of_B rfl (opB_call rfl rfl (FSpec.nz (lBig W H p) (by simp [go_sem, if_true, if_false, reduceIte, Nat.reduceEqDiff, Nat.reduceAdd, Nat.reduceLT, Nat.reduceLeDiff, reduceCtorEq, List.map_cons, List.map_nil, List.append_nil, opnd, unc])))) ?_
  simp only [go_sem, if_true, if_false, reduceIte, Nat.reduceEqDiff, Nat.reduceAdd, Nat.reduceLT, Nat.reduceLeDiff, reduceCtorEq]
  refine hK _ _ ?_; clear hX hK X K
  show IW _ _ _ _ _ _ _ _
  repeat refine IW.seq ?_
  refine IW.cond rfl (fun hb => ?_) (fun hb => ?_)
  · repeat refine IW.seq ?_
    refine IW.region_seq tab_ok [some 17, some 8] rfl fun X K hX hK => ?_
    simp only [go_sem, if_true, if_false, reduceIte, Nat.reduceEqDiff, Nat.reduceAdd, Nat.reduceLT, Nat.reduceLeDiff, reduceCtorEq]
    refine hX.quiet _ _ (OpG.of_B rfl (opB_call rfl rfl (FSpec.nz (fAwake) (by simp [go_sem, if_true, if_false, reduceIte, Nat.reduceEqDiff, Nat.reduceAdd, Nat.reduceLT, Nat.reduceLeDiff, reduceCtorEq, List.map_cons, List.map_nil, List.append_nil, opnd, unc])))) ?_
    simp only [go_sem, if_true, if_false, reduceIte, Nat.reduceEqDiff, Nat.reduceAdd, Nat.reduceLT, Nat.reduceLeDiff, reduceCtorEq]
    refine hK _ _ ?_; clear hX hK X K
    show IW _ _ _ _ _ _ _ _
    refine IW.ret (Fin.scal rfl rfl ?_)
    rfl
  · have hl : p.length ≤ 1000000 ∧ q.length ≤ 1000000 := by
      by_cases c : 4000 < p.length
      · simp [c] at hb
      · simp [c] at hb; omega
    obtain ⟨hl, hlq⟩ := hl
    have b1 := fndF_len W H p W2 H2 q m
    have b2 := pixF_len W H p X0 Y RW RH
    refine IW.skip ?_
    show IW _ _ _ _ _ _ _ _
    repeat refine IW.seq ?_
    refine IW.region_draw tab_ok mixed [some 18, some 19, some 20, some 21, some 22, some 23, some 24, some 25, some 26, some 27, some 28, some 29, some 30, some 31, some 32, some 33, some 34, some 35, some 36, some 37, some 38, some 8] 22 (by kernel_rfl) rfl fun Xq Xs K hXq hXs hK K1 hK1 => ?_
    simp only [go_sem, if_true, if_false, reduceIte, Nat.reduceEqDiff, Nat.reduceAdd, Nat.reduceLT, Nat.reduceLeDiff, reduceCtorEq]
    refine hXq.quiet _ _ (OpG.of_B rfl (opB_call rfl rfl (FSpec.nz (fFind W H p W2 H2 q m hm hl hlq) (by simp [go_sem, if_true, if_false, reduceIte, Nat.reduceEqDiff, Nat.reduceAdd, Nat.reduceLT, Nat.reduceLeDiff, reduceCtorEq, List.map_cons, List.map_nil, List.append_nil, opnd, unc])))) ?_
    simp only [go_sem, if_true, if_false, reduceIte, Nat.reduceEqDiff, Nat.reduceAdd, Nat.reduceLT, Nat.reduceLeDiff, reduceCtorEq]
    refine hXq.quiet _ _ (OpG.of_B rfl (opB_call rfl rfl (FSpec.nz (refFind W H p W2 H2 q m hm hl hlq) (by simp [go_sem, if_true, if_false, reduceIte, Nat.reduceEqDiff, Nat.reduceAdd, Nat.reduceLT, Nat.reduceLeDiff, reduceCtorEq, List.map_cons, List.map_nil, List.append_nil, opnd, unc])))) ?_
    simp only [go_sem, if_true, if_false, reduceIte, Nat.reduceEqDiff, Nat.reduceAdd, Nat.reduceLT, Nat.reduceLeDiff, reduceCtorEq]
    refine hXq.quiet _ _ (OpG.of_B rfl (opB_call rfl rfl (FSpec.nz (kSamePoints (fndF W H p W2 H2 q m) (fndF W H p W2 H2 q m) b1 b1) (by simp [go_sem, if_true, if_false, reduceIte, Nat.reduceEqDiff, Nat.reduceAdd, Nat.reduceLT, Nat.reduceLeDiff, reduceCtorEq, List.map_cons, List.map_nil, List.append_nil, opnd, unc, decide_true])))) ?_
    simp only [go_sem, if_true, if_false, reduceIte, Nat.reduceEqDiff, Nat.reduceAdd, Nat.reduceLT, Nat.reduceLeDiff, reduceCtorEq, decide_true]
    refine hXq.quiet _ _ (OpG.of_BG rfl rfl rfl (by first | (simp only [go_sem, if_true, if_false, reduceIte, Nat.reduceEqDiff, Nat.reduceAdd, Nat.reduceLT, Nat.reduceLeDiff, reduceCtorEq]; done) | (simp [go_sem, if_true, if_false, reduceIte, Nat.reduceEqDiff, Nat.reduceAdd, Nat.reduceLT, Nat.reduceLeDiff, reduceCtorEq] <;> (intros; simp_all))) fun hc => opB_call rfl rfl (FSpec.nz (fPixels W H p X0 Y RW RH hX0 hY hRW hRH hl) (by simp [go_sem, if_true, if_false, reduceIte, Nat.reduceEqDiff, Nat.reduceAdd, Nat.reduceLT, Nat.reduceLeDiff, reduceCtorEq, List.map_cons, List.map_nil, List.append_nil, opnd, unc, rectV, nz_agg4]))) ?_
    simp only [go_sem, if_true, if_false, reduceIte, Nat.reduceEqDiff, Nat.reduceAdd, Nat.reduceLT, Nat.reduceLeDiff, reduceCtorEq, rectV, nz_agg4]
    refine hXq.quiet _ _ (OpG.of_BG rfl rfl rfl (by first | (simp only [go_sem, if_true, if_false, reduceIte, Nat.reduceEqDiff, Nat.reduceAdd, Nat.reduceLT, Nat.reduceLeDiff, reduceCtorEq]; done) | (simp [go_sem, if_true, if_false, reduceIte, Nat.reduceEqDiff, Nat.reduceAdd, Nat.reduceLT, Nat.reduceLeDiff, reduceCtorEq] <;> (intros; simp_all))) fun hc => opB_call rfl rfl (FSpec.nz (refPixels W H p X0 Y RW RH hX0 hY hRW hRH hl) (by simp [go_sem, if_true, if_false, reduceIte, Nat.reduceEqDiff, Nat.reduceAdd, Nat.reduceLT, Nat.reduceLeDiff, reduceCtorEq, List.map_cons, List.map_nil, List.append_nil, opnd, unc, rectV, nz_agg4]))) ?_
    simp only [go_sem, if_true, if_false, reduceIte, Nat.reduceEqDiff, Nat.reduceAdd, Nat.reduceLT, Nat.reduceLeDiff, reduceCtorEq, rectV, nz_agg4]
    refine hXq.quiet _ _ (OpG.of_BG rfl rfl rfl (by first | (simp only [go_sem, if_true, if_false, reduceIte, Nat.reduceEqDiff, Nat.reduceAdd, Nat.reduceLT, Nat.reduceLeDiff, reduceCtorEq]; done) | (simp [go_sem, if_true, if_false, reduceIte, Nat.reduceEqDiff, Nat.reduceAdd, Nat.reduceLT, Nat.reduceLeDiff, reduceCtorEq] <;> (intros; simp_all))) fun hc => opB_call rfl rfl (FSpec.nz (kSamePoints (pixF W H p X0 Y RW RH) (pixF W H p X0 Y RW RH) b2 b2) (by simp [go_sem, if_true, if_false, reduceIte, Nat.reduceEqDiff, Nat.reduceAdd, Nat.reduceLT, Nat.reduceLeDiff, reduceCtorEq, List.map_cons, List.map_nil, List.append_nil, opnd, unc, decide_true]))) ?_
    simp only [go_sem, if_true, if_false, reduceIte, Nat.reduceEqDiff, Nat.reduceAdd, Nat.reduceLT, Nat.reduceLeDiff, reduceCtorEq, decide_true]
    refine hXq.quiet _ _ (OpG.of_BG rfl rfl rfl (by first | (simp only [go_sem, if_true, if_false, reduceIte, Nat.reduceEqDiff, Nat.reduceAdd, Nat.reduceLT, Nat.reduceLeDiff, reduceCtorEq]; done) | (simp [go_sem, if_true, if_false, reduceIte, Nat.reduceEqDiff, Nat.reduceAdd, Nat.reduceLT, Nat.reduceLeDiff, reduceCtorEq] <;> (intros; simp_all))) fun hc => opB_call rfl rfl (FSpec.nz (fAwake) (by simp [go_sem, if_true, if_false, reduceIte, Nat.reduceEqDiff, Nat.reduceAdd, Nat.reduceLT, Nat.reduceLeDiff, reduceCtorEq, List.map_cons, List.map_nil, List.append_nil, opnd, unc]))) ?_
    simp only [go_sem, if_true, if_false, reduceIte, Nat.reduceEqDiff, Nat.reduceAdd, Nat.reduceLT, Nat.reduceLeDiff, reduceCtorEq]
    refine hK1 _ _ ?_; clear hXq hK1 K1 Xq
    simp only [List.drop_zero, List.drop_succ_cons, go_sem, if_true, if_false, reduceIte, Nat.reduceEqDiff, Nat.reduceAdd, Nat.reduceLT, Nat.reduceLeDiff, reduceCtorEq]
    refine hK _ _ ?_; clear hXs hK K Xs
    show IW _ _ _ _ _ _ _ _
    refine IW.ret (Fin.scal rfl rfl ?_)
    rfl
end Go.Proofs.Ytnbpbehlemaeoaa

/- Contracts of the program's functions, one by one. -/
import Derived.Test.YtnbpbehlemaeoaaB3
import Derived.Lib.SmallJoins
import Derived.Below
import Derived.ChangeSlices
import Derived.ProofKit
import Derived.WalkKit
import Derived.OpenShut
import Derived.ShutString
import Derived.ChangeOld
set_option linter.unusedVariables false
set_option linter.unusedSimpArgs false
set_option maxRecDepth 10000
namespace Go.Proofs.Ytnbpbehlemaeoaa
open Go.IL
def M9 (n : Int) : Prop := -1000000000 ≤ n ∧ n ≤ 1000000000
/-- By increasing second number; those with the same by increasing first one. -/
def lex (p q : Int × Int) : Prop := p.2 < q.2 ∨ (p.2 = q.2 ∧ p.1 < q.1)
theorem fCmp (a b c d : Int) (hb : M9 b) (hd : M9 d) : FSpec Try.prog 60 [.agg [.int .i64 a, .int .i64 b], .agg [.int .i64 c, .int .i64 d]] (.int .i64 (b - d)) [] := by
  have e1 : IntKind.i64.wrap (b - d) = b - d := wrap_eq (by unfold M9 at *; omega) (by unfold M9 at *; omega)
  refine FSpec.intro tab_ok Try.func60 rfl rfl rfl (by kernel_rfl) (by simp) fun w0 => ?_
  simp only [argTM, Nat.zero_add, Nat.reduceAdd]
  repeat refine IW.seq ?_
  refine IW.region_seq tab_ok [some 2, some 3, some 4] rfl fun X K hX hK => ?_
  simp only [go_sem]
  refine hK _ _ ?_; clear hX hK X K
  show IW _ _ _ _ _ _ _ _
  repeat refine IW.seq ?_
  refine IW.region_seq tab_ok [some 5, some 6, some 7, some 8, some 9, some 4] rfl fun X K hX hK => ?_
  simp only [go_sem, e1]
  refine hK _ _ ?_; clear hX hK X K
  show IW _ _ _ _ _ _ _ _
  refine IW.ret (Fin.scal rfl rfl ?_)
  rfl
theorem swap_lem {α : Type} (S : List α) (x y : α) : ∀ P : List α, ((P ++ y :: x :: S).set (P.length + 1) y).set P.length x = P ++ x :: y :: S
  | [] => rfl
  | p :: P => by
    have := swap_lem S x y P
    simp only [List.cons_append, List.length_cons, List.set_cons_succ, this]
/-- x has come down to place j of s. -/
def insS (A s R : List (Int × Int)) (x : Int × Int) (j : Nat) : List (Int × Int) := A ++ (s.take j ++ x :: s.drop j) ++ R
theorem insS_length (A s R : List (Int × Int)) (x : Int × Int) {j : Nat} (h : j ≤ s.length) : (insS A s R x j).length = A.length + s.length + 1 + R.length := by
  simp only [insS, List.length_append, List.length_cons, List.length_take, List.length_drop]; omega
theorem insS_split (A s R : List (Int × Int)) (x : Int × Int) {j : Nat} (h : j < s.length) : insS A s R x (j + 1) = (A ++ s.take j) ++ s.getD j (0, 0) :: x :: (s.drop (j + 1) ++ R) ∧ insS A s R x j = (A ++ s.take j) ++ x :: s.getD j (0, 0) :: (s.drop (j + 1) ++ R) := by
  have h1 : s.take (j + 1) = s.take j ++ [s.getD j (0, 0)] := by rw [List.take_add_one]; simp [h]
  have h2 : s.drop j = s.getD j (0, 0) :: s.drop (j + 1) := by rw [List.drop_eq_getElem_cons h]; simp [h]
  constructor
  · simp only [insS, h1, List.append_assoc, List.cons_append, List.nil_append]
  · simp only [insS, h2, List.append_assoc, List.cons_append, List.nil_append]
theorem insS_swap (A s R : List (Int × Int)) (x : Int × Int) {j : Nat} (h : j < s.length) : ((insS A s R x (j + 1)).set (A.length + j + 1) (s.getD j (0, 0))).set (A.length + j) x = insS A s R x j := by
  obtain ⟨h1, h2⟩ := insS_split A s R x h
  have hl : (A ++ s.take j).length = A.length + j := by simp; omega
  rw [h1, h2, ← hl]
  exact swap_lem _ _ _ _
theorem insS_at (A s R : List (Int × Int)) (x : Int × Int) {j : Nat} (h : j < s.length) : (insS A s R x (j + 1)).getD (A.length + j + 1) (0, 0) = x ∧ (insS A s R x (j + 1)).getD (A.length + j) (0, 0) = s.getD j (0, 0) := by
  obtain ⟨h1, _⟩ := insS_split A s R x h
  have hl : (A ++ s.take j).length = A.length + j := by simp; omega
  rw [h1, ← hl]
  constructor
  · rw [List.getD_eq_getElem?_getD, List.getElem?_append_right (by omega), Nat.add_sub_cancel_left]; rfl
  · rw [List.getD_eq_getElem?_getD, List.getElem?_append_right (Nat.le_refl _), Nat.sub_self]; rfl
/-- The sorting that is stable, of a list whose first numbers rise. -/
def srt (l s : List (Int × Int)) : Prop := s.Perm l ∧ s.Pairwise lex
theorem srt_insert {l s : List (Int × Int)} {x : Int × Int} {j : Nat} (h : srt l s) (hj : j ≤ s.length) (hx : ∀ y ∈ s, y.1 < x.1) (h1 : ∀ y ∈ s.drop j, x.2 < y.2) (h2 : ∀ y ∈ s.take j, y.2 ≤ x.2) : srt (l ++ [x]) (s.take j ++ x :: s.drop j) := by
  constructor
  · refine List.perm_middle.trans ?_
    rw [List.take_append_drop]
    exact (h.1.cons x).trans (List.perm_append_singleton x l).symm
  · have hp := h.2
    rw [← List.take_append_drop j s, List.pairwise_append] at hp
    rw [List.pairwise_append]
    refine ⟨hp.1, List.pairwise_cons.2 ⟨fun y hy => .inl (h1 y hy), hp.2.1⟩, fun a ha b hb => ?_⟩
    rcases List.mem_cons.1 hb with rfl | hb
    · have h3 := h2 a ha
      have h4 := hx a (List.mem_of_mem_take ha)
      unfold lex; omega
    · exact hp.2.2 a ha b hb
def leB (p q : Int × Int) : Bool := decide (p.2 < q.2 ∨ (p.2 = q.2 ∧ p.1 ≤ q.1))
def optS (l : List (Int × Int)) : List (Int × Int) := l.mergeSort leB
theorem srt_unique {l s t : List (Int × Int)} (h : srt l s) (k : srt l t) : s = t := (h.1.trans k.1.symm).eq_of_pairwise (fun a b _ _ h1 h2 => by unfold lex at h1 h2; exact Prod.ext (by omega) (by omega)) h.2 k.2
theorem srt_opt {l : List (Int × Int)} (hv : l.Pairwise (fun p q => p.1 ≠ q.1)) : srt l (optS l) := by
  refine ⟨List.mergeSort_perm _ _, ?_⟩
  have h1 := List.pairwise_mergeSort (le := leB) (fun a b c h1 h2 => by simp only [leB, decide_eq_true_eq] at *; omega) (fun a b => by simp only [leB, Bool.or_eq_true, decide_eq_true_eq]; omega) l
  have h2 : (optS l).Pairwise (fun p q => p.1 ≠ q.1) := (List.mergeSort_perm l leB).symm.pairwise hv (fun h e => h e.symm)
  exact (h1.and h2).imp fun ⟨h3, h4⟩ => by simp only [leB, decide_eq_true_eq] at h3; unfold lex; omega
theorem fInsSort (A l R : List (Int × Int)) (hv : l.Pairwise (fun p q => p.1 < q.1)) (hm : ∀ p ∈ l, M9 p.2) (hn : (A ++ l ++ R).length ≤ 1000000) :
    WSpec Try.prog 90 [.ref 0 0 (A ++ l ++ R).length, .int .i64 A.length, .int .i64 (A.length + l.length : Nat), .clo 60 []] [⟨2, 70, prs (A ++ l ++ R)⟩] (.tup []) [some ⟨2, 70, prs (A ++ optS l ++ R)⟩] := by
  have hlen : (A ++ l ++ R).length = A.length + l.length + R.length := by simp; omega
  have hopt := srt_opt (hv.imp fun h e => by omega)
  have hvg : ∀ i j, i < j → j < l.length → (l.getD i (0, 0)).1 < (l.getD j (0, 0)).1 := fun i j hij hj => by
    have := List.pairwise_iff_getElem.1 hv i j (by omega) hj hij
    simpa [hj, show i < l.length by omega] using this
  generalize hN : (A ++ l ++ R).length = n at *
  refine WSpec.intro tab_ok Try.func90 rfl rfl rfl (by kernel_rfl) (by simp) (by simp) fun O w0 hr => ?_
  simp only [argTM, Nat.zero_add, Nat.reduceAdd, List.map_cons, List.map_nil]
  have e0 : IntKind.i64.wrap ((A.length : Int) + 1) = ((A.length + 1 : Nat) : Int) := (wrap_eq (by omega) (by omega)).trans (by omega)
  repeat refine IW.seq ?_
  refine IW.region_seq tab_ok [some 10, some 11, some 8] rfl fun X K hX hK => ?_
  simp only [go_sem, e0]
  refine hK _ _ ?_; clear hX hK X K
  show IW _ _ _ _ _ _ _ _
  repeat refine IW.seq ?_
  refine IW.block ?_
  refine IW.loop (α := {x : Nat × List (Int × Int) // x.1 ≤ l.length ∧ (0 < l.length → 1 ≤ x.1) ∧ srt (l.take x.1) x.2}) (fun x => [(0, .ref 0 0 n), (1, .int .i64 A.length), (2, .int .i64 (A.length + l.length : Nat)), (3, .clo 60 []), (8, .int .i64 (A.length + max 1 x.1.1 : Nat))]) (fun x => [some ⟨2, 70, prs (A ++ x.1.2 ++ (l.drop x.1.1 ++ R))⟩]) (fun x => l.length - x.1.1) ⟨(min 1 l.length, l.take 1), ?_, ?_, ?_⟩ ?_ fun ⟨⟨k, s⟩, hk, hk1, hs⟩ => ?_
  · simp only []; omega
  · simp only []; omega
  · simp only []
    cases l with
    | nil => exact ⟨.refl _, .nil⟩
    | cons y l => exact ⟨by simp, by simp⟩
  · simp only []
    have e1 : max 1 (min 1 l.length) = 1 := by omega
    have e2 : A ++ l.take 1 ++ (l.drop (min 1 l.length) ++ R) = A ++ l ++ R := by
      cases l with
      | nil => simp
      | cons y l => simp
    refine Ent.cut ?_ ?_ (fun id ri e => Nat.lt_of_lt_of_le (hr id ri e) (by simp)) <;> simp only [go_sem, e1, e2]
  · simp only [] at hk hk1 hs ⊢
    repeat refine IW.seq ?_
    refine IW.region_seq tab_ok [some 12, some 13, some 14] rfl fun X K hX hK => ?_
    simp only [go_sem]
    refine hK _ _ ?_; clear hX hK X K
    show IW _ _ _ _ _ _ _ _
    repeat refine IW.seq ?_
    refine IW.cond rfl (fun hb1 => ?_) (fun hb1 => ?_)
    · simp only [decide_eq_true_eq] at hb1
      have hkl : k < l.length := by omega
      have hk0 : 1 ≤ k := by omega
      have hmax : max 1 k = k := by omega
      have slen : s.length = k := by rw [hs.1.length_eq, List.length_take]; omega
      have hxs : ∀ y ∈ s, y.1 < (l.getD k (0, 0)).1 := fun y hy => by
        obtain ⟨i, hi, rfl⟩ := List.mem_iff_getElem.1 (hs.1.mem_iff.1 hy)
        simp only [List.length_take] at hi
        have := hvg i k (by omega) hkl
        simpa [show i < l.length by omega] using this
      have htk : l.take (k + 1) = l.take k ++ [l.getD k (0, 0)] := by rw [List.take_add_one]; simp [hkl]
      have hdk : l.drop k = l.getD k (0, 0) :: l.drop (k + 1) := by rw [List.drop_eq_getElem_cons hkl]; simp [hkl]
      have hsm : ∀ y ∈ s, M9 y.2 := fun y hy => hm y (List.mem_of_mem_take (hs.1.mem_iff.1 hy))
      have hxm : M9 (l.getD k (0, 0)).2 := hm _ (by simp [hkl])
      generalize l.getD k (0, 0) = x at *
      rw [hmax]
      refine IW.skip ?_
      show IW _ _ _ _ _ _ _ _
      refine IW.seq (IW.block ?_)
      repeat refine IW.seq ?_
      refine IW.region_seq tab_ok [some 17, some 9] rfl fun X K hX hK => ?_
      simp only [go_sem]
      refine hK _ _ ?_; clear hX hK X K
      show IW _ _ _ _ _ _ _ _
      repeat refine IW.seq ?_
      refine IW.block ?_
      refine IW.loop (α := {j : Nat // j ≤ k ∧ ∀ y ∈ s.drop j, x.2 < y.2}) (fun j => [(0, .ref 0 0 n), (1, .int .i64 A.length), (2, .int .i64 (A.length + l.length : Nat)), (3, .clo 60 []), (8, .int .i64 (A.length + k : Nat)), (9, .int .i64 (A.length + j.1 : Nat))]) (fun j => [some ⟨2, 70, prs (insS A s (l.drop (k + 1) ++ R) x j.1)⟩]) (fun j => j.1) ⟨k, Nat.le_refl _, by simp [← slen]⟩ ?_ fun ⟨j, hj, hjy⟩ => ?_
      · have : A ++ s ++ (l.drop k ++ R) = insS A s (l.drop (k + 1) ++ R) x k := by
          rw [insS, hdk, ← slen]; simp
        refine Ent.cut ?_ ?_ (fun id ri e => Nat.lt_of_lt_of_le (hr id ri e) (by simp)) <;> simp only [go_sem, this]
      · have hil := insS_length A s (l.drop (k + 1) ++ R) x (j := j) (by omega)
        have hil2 : (insS A s (l.drop (k + 1) ++ R) x j).length = n := by rw [hil, slen]; simp only [List.length_append, List.length_drop]; omega
        have hend : (∀ y ∈ s.take j, y.2 ≤ x.2) → srt (l.take (k + 1)) (s.take j ++ x :: s.drop j) ∧ insS A s (l.drop (k + 1) ++ R) x j = A ++ (s.take j ++ x :: s.drop j) ++ (l.drop (k + 1) ++ R) := fun h2 => ⟨by rw [htk]; exact srt_insert hs (by omega) hxs hjy h2, rfl⟩
        simp only []
        cases j with
        | zero =>
          have hgt : ¬ (((A.length + 0 : Nat) : Int) > (A.length : Int)) := by omega
          repeat refine IW.seq ?_
          refine IW.region_draw tab_ok mixed [some 18, some 19, some 20, some 21, some 22, some 23, some 24, some 25, some 26, some 27, some 28, some 29, some 30, some 31, some 32, some 33, some 34] 17 (by kernel_rfl) rfl fun Xq Xs K hXq hXs hK K1 hK1 => ?_
          simp only [go_sem, gt_iff_lt, Nat.add_zero, Int.lt_irrefl, decide_false]
          refine hXq.quiet (.cnd false (.int .i64 0)) [] (OpG.of_BG (sv := .int .i64 0) (ext := []) rfl rfl rfl (by simp [go_sem]) fun hc => by cases hc) ?_
          simp only [go_sem]
          refine hK1 _ _ ?_; clear hXq hK1 K1 Xq
          simp only [List.drop_zero, List.drop_succ_cons, go_sem]
          refine hK _ _ ?_; clear hXs hK K Xs
          show IW _ _ _ _ _ _ _ _
          repeat refine IW.seq ?_
          refine IW.cond rfl (fun hb => absurd hb (by decide)) (fun _ => ?_)
          refine IW.exit ?_
          show IW _ _ _ _ _ _ _ _
          repeat refine IW.seq ?_
          refine IW.region_seq tab_ok [some 15, some 16, some 8] rfl fun X K hX hK => ?_
          simp only [go_sem, succ_wrap (show A.length + k < 9223372036854775807 by omega) (Nat.le_refl _)]
          obtain ⟨h1, h2⟩ := hend (by simp)
          refine hK _ _ ⟨⟨(k + 1, s.take 0 ++ x :: s.drop 0), hkl, fun _ => by simp only []; omega, h1⟩, by simp only []; omega, ?_⟩
          rw [h2]
          have e1 : max 1 (k + 1) = k + 1 := by omega
          refine Ent.cut ?_ ?_ (fun id ri e => Nat.lt_of_lt_of_le (hr id ri e) (by simp)) <;> simp only [go_sem, e1, ← Nat.add_assoc]
        | succ j =>
          have hjs : j < s.length := by omega
          obtain ⟨ha1, ha2⟩ := insS_at A s (l.drop (k + 1) ++ R) x hjs
          have hgt : decide (((A.length + (j + 1) : Nat) : Int) > (A.length : Int)) = true := by simp only [decide_eq_true_eq]; omega
          have w1 : IntKind.i64.wrap (((A.length + (j + 1) : Nat) : Int) - 1) = ((A.length + j : Nat) : Int) := (wrap_eq (by omega) (by omega)).trans (by omega)
          have p1 := prs_at (l := insS A s (l.drop (k + 1) ++ R) x (j + 1)) (i := A.length + (j + 1)) (by omega)
          have p2 := prs_at (l := insS A s (l.drop (k + 1) ++ R) x (j + 1)) (i := A.length + j) (by omega)
          rw [← Nat.add_assoc, ha1] at p1
          rw [ha2] at p2
          have hym := hsm (s.getD j (0, 0)) (by simp [hjs])
          rw [show A.length + (j + 1) = A.length + j + 1 by omega] at *
          repeat refine IW.seq ?_
          refine IW.region_draw tab_ok mixed [some 18, some 19, some 20, some 21, some 22, some 23, some 24, some 25, some 26, some 27, some 28, some 29, some 30, some 31, some 32, some 33, some 34] 17 (by kernel_rfl) rfl fun Xq Xs K hXq hXs hK K1 hK1 => ?_
          simp only [go_sem, gt_iff_lt, hgt, w1, p1, p2, hil2]
          refine ⟨⟨by omega, by omega⟩, by omega, ⟨by omega, by omega⟩, by omega, ?_⟩
          refine hXq.quiet _ _ (OpG.of_BG rfl rfl rfl (by first | (simp only [go_sem]; done) | (simp [go_sem] <;> (intros; simp_all))) fun hc => opB_call rfl rfl (FSpec.nz (fCmp x.1 x.2 (s.getD j (0, 0)).1 (s.getD j (0, 0)).2 hxm hym) (by simp [go_sem, List.map_cons, List.map_nil, List.append_nil, opnd, unc]))) ?_
          simp only [go_sem]
          refine hK1 _ _ ?_; clear hXq hK1 K1 Xq
          simp only [List.drop_zero, List.drop_succ_cons, go_sem]
          refine hK _ _ ?_; clear hXs hK K Xs
          show IW _ _ _ _ _ _ _ _
          repeat refine IW.seq ?_
          refine IW.cond rfl (fun hb2 => ?_) (fun hb2 => ?_)
          · refine IW.skip ?_
            show IW _ _ _ _ _ _ _ _
            simp only [decide_eq_true_eq] at hb2
            refine IW.seq (IW.block ?_)
            repeat refine IW.seq ?_
            refine IW.region_drawL tab_ok mixed [some 37, some 38, some 39, some 40, some 41, some 42, some 43, some 44, some 45, some 46, some 47, some 48, some 49, some 50, some 51, none, some 52, none] 15 [2, 3, 4] [9] (by kernel_rfl) rfl (by simp [go_sem]) fun Xq Xs K hXq hXs hK K1 hK1 => ?_
            simp only [go_sem, w1, p1, p2, hil2]
            refine ⟨⟨by omega, by omega⟩, by omega, ⟨by omega, by omega⟩, by omega, ⟨by omega, by omega⟩, ?_⟩
            have hlt1 : A.length + j + 1 < n := by omega
            have hlt2 : A.length + j < n := by omega
            refine hK1 _ _ ?_; clear hXq hK1 K1 Xq
            simp only [List.drop_zero, List.drop_succ_cons, go_sem]
            have q2 : ∀ v, ((prs (insS A s (l.drop (k + 1) ++ R) x (j + 1))).set (A.length + j + 1) v).getD (A.length + j) [] = [.int .i64 (s.getD j (0, 0)).1, .int .i64 (s.getD j (0, 0)).2] := fun v => by
              rw [List.getD_eq_getElem?_getD, List.getElem?_set_ne (by omega), ← List.getD_eq_getElem?_getD, p2]
            refine hXs.op _ _ rfl (opS_store tab_ok rfl (by simp [go_sem]) (by simp [go_sem]) (by simp [go_sem]) (by simp [go_sem, hil2, hlt1, hlt2]) (by simp [go_sem]) (by simp [go_sem])) ?_
            simp only [go_sem, hil2, hlt1, hlt2]
            simp only [p1, List.drop_succ_cons, List.drop_nil, List.drop_zero]
            refine ⟨⟨by omega, by omega⟩, ?_⟩
            refine hXs.op _ _ rfl (opS_store tab_ok rfl (by simp [go_sem]) (by simp [go_sem]) (by simp [go_sem]) (by simp [go_sem, hil2, hlt1, hlt2]) (by simp [go_sem]) (by simp [go_sem])) ?_
            simp only [go_sem, hil2, hlt1, hlt2]
            simp only [q2, List.drop_succ_cons, List.drop_nil, List.drop_zero]
            refine hK _ _ ?_; clear hXs hK K Xs
            show IW _ _ _ _ _ _ _ _
            have hsw : ((prs (insS A s (l.drop (k + 1) ++ R) x (j + 1))).set (A.length + j + 1) [.int .i64 (s.getD j (0, 0)).1, .int .i64 (s.getD j (0, 0)).2]).set (A.length + j) [.int .i64 x.1, .int .i64 x.2] = prs (insS A s (l.drop (k + 1) ++ R) x j) := by
              have := congrArg prs (insS_swap A s (l.drop (k + 1) ++ R) x hjs)
              simpa only [prs, List.map_set] using this
            repeat refine IW.seq ?_
            refine IW.region_seq tab_ok [some 35, some 36, some 9] rfl fun X K hX hK => ?_
            simp only [go_sem, w1]
            refine hK _ _ ⟨⟨j, by omega, fun y hy => ?_⟩, by simp only []; omega, ?_⟩
            · rw [List.drop_eq_getElem_cons hjs] at hy
              rcases List.mem_cons.1 hy with rfl | hy
              · simp only [List.getD_eq_getElem?_getD, List.getElem?_eq_getElem hjs, Option.getD_some] at hb2; omega
              · exact hjy y hy
            · refine Ent.cut ?_ ?_ (fun id ri e => Nat.lt_of_lt_of_le (hr id ri e) (by simp)) <;> simp only [go_sem, hsw]
          · refine IW.exit ?_
            show IW _ _ _ _ _ _ _ _
            simp only [decide_eq_false_iff_not] at hb2
            repeat refine IW.seq ?_
            refine IW.region_seq tab_ok [some 15, some 16, some 8] rfl fun X K hX hK => ?_
            simp only [go_sem, succ_wrap (show A.length + k < 9223372036854775807 by omega) (Nat.le_refl _)]
            obtain ⟨h1, h2⟩ := hend (fun y hy => by
              obtain ⟨i, hi, rfl⟩ := List.mem_iff_getElem.1 hy
              simp only [List.length_take] at hi
              rw [List.getElem_take]
              have hp := List.pairwise_iff_getElem.1 hs.2
              rcases Nat.lt_or_ge i j with hij | hij
              · have := hp i j (by omega) hjs hij
                simp only [List.getD_eq_getElem?_getD, List.getElem?_eq_getElem hjs, Option.getD_some] at hb2
                unfold lex at this; omega
              · obtain rfl : i = j := by omega
                simp only [List.getD_eq_getElem?_getD, List.getElem?_eq_getElem hjs, Option.getD_some] at hb2
                omega)
            refine hK _ _ ⟨⟨(k + 1, s.take (j + 1) ++ x :: s.drop (j + 1)), hkl, fun _ => by simp only []; omega, h1⟩, by simp only []; omega, ?_⟩
            rw [h2]
            have e1 : max 1 (k + 1) = k + 1 := by omega
            refine Ent.cut ?_ ?_ (fun id ri e => Nat.lt_of_lt_of_le (hr id ri e) (by simp)) <;> simp only [go_sem, e1, ← Nat.add_assoc]
    · refine IW.exit ?_
      simp only [decide_eq_false_iff_not] at hb1
      have hkl : k = l.length := by omega
      subst hkl
      rw [List.take_length] at hs
      have : s = optS l := srt_unique hs hopt
      subst this
      have e2 : A ++ optS l ++ (l.drop l.length ++ R) = A ++ optS l ++ R := by simp
      rw [e2]
      exact ⟨trivial, rfl, by simp [go_sem, heapNold], by simp, [0], rfl, by simp, rfl, rfl, by simp [go_sem, subH], trivial⟩
end Go.Proofs.Ytnbpbehlemaeoaa

set_option linter.unusedVariables false
set_option linter.unusedSimpArgs false
set_option maxRecDepth 10000
namespace Go.Proofs.Ytnbpbehlemaeoaa
open Go.IL
theorem prs_reWrow (σ : List Nat) (n : Nat) (h : Heap) (l : List (Int × Int)) : (⟨2, 70, prs l⟩ : Row).reW σ (n + 1) h = ⟨2, 70, prs l⟩ := by
  simp only [Row.reW, prs_reW]
theorem prs_renrow (σ : Nat → Nat) (l : List (Int × Int)) : (⟨2, 70, prs l⟩ : Row).ren σ = ⟨2, 70, prs l⟩ := by
  simp only [Row.ren, prs_ren]
/-- At most nineteen: one stretch of insertion. -/
theorem fStable (l : List (Int × Int)) (hv : l.Pairwise (fun p q => p.1 < q.1)) (hm : ∀ p ∈ l, M9 p.2) (hn : l.length < 20) :
    WSpec Try.prog 79 [.ref 0 0 l.length, .int .i64 l.length, .clo 60 []] [⟨2, 70, prs l⟩] (.tup []) [some ⟨2, 70, prs (optS l)⟩] := by
  have h90 : WSpec Try.prog 90 [.ref 0 0 l.length, .int .i64 0, .int .i64 l.length, .clo 60 []] [⟨2, 70, prs l⟩] (.tup []) [some ⟨2, 70, prs (optS l)⟩] := by
    have := fInsSort [] l [] hv hm (by simp; omega)
    simp only [List.nil_append, List.append_nil, List.length_nil, Nat.zero_add] at this
    exact this
  have hn1 : ¬ ((20 : Int) ≤ (l.length : Int)) := by omega
  have hn2 : ¬ ((20 : Int) < (l.length : Int)) := by omega
  refine WSpec.intro tab_ok Try.func79 rfl rfl rfl (by kernel_rfl) (by simp) (by simp) fun O w0 hr => ?_
  simp only [argTM, Nat.zero_add, Nat.reduceAdd, List.map_cons, List.map_nil]
  repeat refine IW.seq ?_
  refine IW.region_seq tab_ok [some 6] rfl fun X K hX hK => ?_
  simp only [go_sem]
  refine hK _ _ ?_; clear hX hK X K
  show IW _ _ _ _ _ _ _ _
  repeat refine IW.seq ?_
  refine IW.region_seq tab_ok [some 10, some 7, some 8] rfl fun X K hX hK => ?_
  simp only [go_sem]
  refine hK _ _ ?_; clear hX hK X K
  show IW _ _ _ _ _ _ _ _
  repeat refine IW.seq ?_
  refine IW.block ?_
  refine IW.loop (α := Unit) (fun _ => [(0, .ref 0 0 l.length), (1, .int .i64 l.length), (2, .clo 60 []), (6, .int .i64 20), (7, .int .i64 0), (8, .int .i64 20)]) (fun _ => [some ⟨2, 70, prs l⟩]) (fun _ => 0) () ?_ fun _ => ?_
  · refine Ent.cut ?_ ?_ (fun id ri e => Nat.lt_of_lt_of_le (hr id ri e) (by simp)) <;> simp only [go_sem]
  · repeat refine IW.seq ?_
    refine IW.region_seq tab_ok [some 11, some 12, some 13] rfl fun X K hX hK => ?_
    simp only [go_sem]
    refine hK _ _ ?_; clear hX hK X K
    show IW _ _ _ _ _ _ _ _
    repeat refine IW.seq ?_
    refine IW.cond rfl (fun hb1 => ?_) (fun hb1 => ?_)
    · simp only [decide_eq_true_eq] at hb1; omega
    · refine IW.exit ?_
      show IW _ _ _ _ _ _ _ _
      repeat refine IW.seq ?_
      refine IW.region_seq tab_ok [some 23, some 24, some 25, some 26, some 27] rfl fun X K hX hK => ?_
      simp only [go_sem]
      refine hX.op _ _ rfl (opS_callW (caps := []) [0] (by simp) (by simp [go_sem]) (by simp) (by simp [go_sem, prs_reWrow]) (by simp [go_sem, reW]) h90) ?_
      simp only [go_sem]
      simp only [updR, List.set_cons_zero, Option.map_some, prs_renrow]
      refine hK _ _ ?_; clear hX hK X K
      show IW _ _ _ _ _ _ _ _
      repeat refine IW.seq ?_
      refine IW.block ?_
      refine IW.loop (α := Unit) (fun _ => [(0, .ref 0 0 l.length), (1, .int .i64 l.length), (2, .clo 60 []), (6, .int .i64 20)]) (fun _ => [some ⟨2, 70, prs (optS l)⟩]) (fun _ => 0) () ?_ fun _ => ?_
      · refine Ent.cut ?_ ?_ (fun id ri e => Nat.lt_of_lt_of_le (hr id ri e) (by simp)) <;> simp only [go_sem]
      · repeat refine IW.seq ?_
        refine IW.region_seq tab_ok [some 28, some 29, some 30] rfl fun X K hX hK => ?_
        simp only [go_sem]
        refine hK _ _ ?_; clear hX hK X K
        show IW _ _ _ _ _ _ _ _
        repeat refine IW.seq ?_
        refine IW.cond rfl (fun hb2 => ?_) (fun hb2 => ?_)
        · simp only [decide_eq_true_eq] at hb2; omega
        · refine IW.exit ?_
          exact ⟨trivial, rfl, by simp [go_sem, heapNold, prs_nold], by simp, [0], rfl, by simp, rfl, rfl, by simp [go_sem, subH, prs_renrow], trivial⟩
theorem fSortStable (l : List (Int × Int)) (hv : l.Pairwise (fun p q => p.1 < q.1)) (hm : ∀ p ∈ l, M9 p.2) (hn : l.length < 20) :
    WSpec Try.prog 59 [.ref 0 0 l.length, .clo 60 []] [⟨2, 70, prs l⟩] (.tup []) [some ⟨2, 70, prs (optS l)⟩] := by
  refine WSpec.intro tab_ok Try.func59 rfl rfl rfl (by kernel_rfl) (by simp) (by simp) fun O w0 hr => ?_
  simp only [argTM, Nat.zero_add, Nat.reduceAdd, List.map_cons, List.map_nil]
  repeat refine IW.seq ?_
  refine IW.region_seq tab_ok [some 4, some 5, some 6, some 7, some 8] rfl fun X K hX hK => ?_
  simp only [go_sem]
  refine hX.op _ _ rfl (opS_callW (caps := []) [0] (by simp) (by simp [go_sem]) (by simp) (by simp [go_sem, prs_reWrow]) (by simp [go_sem, reW]) (fStable l hv hm hn)) ?_
  simp only [go_sem]
  simp only [updR, List.set_cons_zero, Option.map_some, prs_renrow]
  refine hK _ _ ?_
  exact ⟨trivial, rfl, by simp [go_sem, heapNold, prs_nold], by simp, [0], rfl, by simp, rfl, rfl, by simp [go_sem, subH, prs_renrow], trivial⟩
end Go.Proofs.Ytnbpbehlemaeoaa

set_option linter.unusedVariables false
set_option linter.unusedSimpArgs false
set_option maxRecDepth 10000
namespace Go.Proofs.Ytnbpbehlemaeoaa
open Go.IL
/-- Dressing off: an image's lines, with those taken away that `drF` says. -/
def drsF (W H : Int) (p l : List Int) : List Int := if rightS W H p then drF W.toNat H.toNat (liF W H p l) l else []
theorem liF_length (W H : Int) (p l : List Int) : (liF W H p l).length = if rightS W H p then p.length else 0 := by
  unfold liF; split <;> simp [rm]
theorem drsF_length (W H : Int) (p l : List Int) : (drsF W H p l).length = if rightS W H p then p.length else 0 := by
  unfold drsF
  split
  · rename_i h
    simp only [drF, rm, List.length_map, List.length_range, liF_length, h, if_true]
  · rfl
theorem fDress (W H : Int) (p l : List Int) (hl : p.length ≤ 1000000) (hll : l.length ≤ 1000000) : FSpec Try.prog 31 [ink W H p, .sl true (nums .i64 l)] (resI (riW W H p W) (riW W H p H) (drsF W H p l)) (resR (drsF W H p l)) := by
  have hs := fLined W H p l hl hll
  by_cases hr : rightS W H p = true
  · have h1 := right_len hr
    have hq := liF_length W H p l
    have e2 : riW W H p W = ((W.toNat : Nat) : Int) := by simp only [riW, hr, if_true]; omega
    have e3 : riW W H p H = ((H.toNat : Nat) : Int) := by simp only [riW, hr, if_true]; omega
    have e4 : drsF W H p l = drF W.toNat H.toNat (liF W H p l) l := by simp only [drsF, hr, if_true]
    rw [e2, e3] at hs
    rw [e2, e3, e4]
    refine fDress0 W H p l hl hll W.toNat H.toNat _ hs ?_ (by omega) (by omega)
    rw [hq, if_pos hr]
    have e5 : ((W.toNat * H.toNat : Nat) : Int) = W * H := by rw [Int.natCast_mul, Int.toNat_of_nonneg (by omega), Int.toNat_of_nonneg (by omega)]
    omega
  · have e2 : riW W H p W = ((0 : Nat) : Int) := by simp [riW, hr]
    have e3 : riW W H p H = ((0 : Nat) : Int) := by simp [riW, hr]
    have e4 : drsF W H p l = drF 0 0 (liF W H p l) l := by simp [drsF, hr, drF, liF, rm]
    rw [e2, e3] at hs
    rw [e2, e3, e4]
    exact fDress0 W H p l hl hll 0 0 _ hs (by rw [liF_length, if_neg hr]) (by omega) (by omega)
/-- The image's lines in one dress or the other. -/
def styF (b : Bool) (W H : Int) (p l : List Int) : List Int := if b then liF W H p l else drsF W H p l
theorem styF_length (b : Bool) (W H : Int) (p l : List Int) : (styF b W H p l).length = if rightS W H p then p.length else 0 := by
  cases b <;> simp [styF, liF_length, drsF_length]
theorem fSty (b : Bool) (W H : Int) (p l : List Int) (hl : p.length ≤ 1000000) (hll : l.length ≤ 1000000) : FSpec Try.prog (if b then 36 else 31) [ink W H p, .sl true (nums .i64 l)] (resI (riW W H p W) (riW W H p H) (styF b W H p l)) (resR (styF b W H p l)) := by
  cases b
  · exact fDress W H p l hl hll
  · exact fLined W H p l hl hll
/-- How far the image is from letter v of a set. -/
def optM (w h : Nat) (d : List (Int × List ByteArray)) (b : Bool) (l : List Int) (W H : Int) (p : List Int) (v : Int) : Int :=
  missS W H p (riW (gW d w v) (gW d h v) (gP d v) (gW d w v)) (riW (gW d w v) (gW d h v) (gP d v) (gW d h v)) (styF b (gW d w v) (gW d h v) (gP d v) l)
/-- What the image may be, before they are put in order. -/
def optL (w h : Nat) (d : List (Int × List ByteArray)) (b : Bool) (l : List Int) (W H : Int) (p : List Int) (n : Nat) : List (Int × Int) :=
  (0, missS W H p w h (List.replicate (w * h) 0)) :: ((keysD d).take n).map fun v => (v, optM w h d b l W H p v)
def optF (w h : Nat) (d : List (Int × List ByteArray)) (b : Bool) (l : List Int) (W H : Int) (p : List Int) : List (Int × Int) :=
  if rightS W H p = true ∧ w ≠ 0 ∧ W = w ∧ H = h then optS (optL w h d b l W H p d.length) else []
theorem gP_length {w h : Nat} {d : List (Int × List ByteArray)} (hok : okD w h d) (h0 : 0 < h) (v : Int) : (gP d v).length ≤ w * h := by
  unfold gP
  cases hv : d.lookup v with
  | none => simp
  | some r =>
    obtain ⟨h1, h2⟩ := hok _ (lookup_mem' hv)
    simp only [drawP, rm, List.length_map, List.length_range]
    rw [h2 0 h0, h1]
    exact Nat.le_refl _
theorem optL_lt {w h : Nat} {d : List (Int × List ByteArray)} {b : Bool} {l : List Int} {W H : Int} {p : List Int} {n : Nat} (hks : (keysD d).Pairwise (· < ·)) (hkp : ∀ k ∈ keysD d, 0 < k) : (optL w h d b l W H p n).Pairwise (fun p q => p.1 < q.1) := by
  refine List.Pairwise.cons (fun y hy => ?_) ?_
  · obtain ⟨v, hv, rfl⟩ := List.mem_map.1 hy
    exact hkp v (List.mem_of_mem_take hv)
  · rw [List.pairwise_map]
    exact hks.sublist (List.take_sublist _ _)
theorem optL_m9 {w h : Nat} {d : List (Int × List ByteArray)} {b : Bool} {l : List Int} {W H : Int} {p : List Int} {n : Nat} (hl : p.length ≤ 1000000) : ∀ q ∈ optL w h d b l W H p n, M9 q.2 := by
  have key : ∀ W' H' q', M9 (missS W H p W' H' q') := fun W' H' q' => by have := missS_bd W H p W' H' q'; unfold M9; omega
  intro q hq
  rcases List.mem_cons.1 hq with rfl | hq
  · exact key _ _ _
  · obtain ⟨v, hv, rfl⟩ := List.mem_map.1 hq
    exact key _ _ _
theorem fOptions (s : Int) (w h : Nat) (d : List (Int × List ByteArray)) (hd : FSpec Try.prog 49 [.int .i64 s] (mapC d) []) (hok : okD w h d) (h0 : 0 < h) (hb1 : h ≤ 640) (hb2 : w ≤ 640) (hne : 0 < d.length) (hn : d.length < 19)
    (hks : (keysD d).Pairwise (· < ·)) (hkp : ∀ k ∈ keysD d, 0 < k ∧ k ≤ 1000000) (b : Bool) (l : List Int) (W H : Int) (p : List Int) (hl : p.length ≤ 1000000) (hll : l.length ≤ 1000000) :
    FSpec Try.prog 28 [ink W H p, .int .i64 s, .sl true (nums .i64 l), .bool b] (lsV 0 (optF w h d b l W H p).length) [⟨2, 70, prs (optF w h d b l W H p)⟩] := by
  obtain ⟨fn, hfn⟩ : ∃ fn : Nat, fn = if b then 36 else 31 := ⟨_, rfl⟩
  have hsize := fSize s w h d hd hok h0 hne
  have hvals := fValues s d hd hks (fun k hk => by have := hkp k hk; unfold I64; omega) (by omega)
  have hsh : (!rightS W H p || (w : Int) == 0 || W != w || H != h) = !decide (rightS W H p = true ∧ w ≠ 0 ∧ W = w ∧ H = h) := by
    cases rightS W H p <;> by_cases c1 : w = 0 <;> by_cases c2 : W = w <;> by_cases c3 : H = h <;> simp [c1, c2, c3]
  by_cases hc : rightS W H p = true ∧ w ≠ 0 ∧ W = w ∧ H = h
  case neg =>
    have e1 : optF w h d b l W H p = [] := by simp only [optF, hc, if_false]
    rw [e1]
    refine FSpec.ghost (r := ⟨2, 70, prs []⟩) (sv := .nils) ?_ fun F w v h => rel_ls_nil h
    refine FSpec.intro tab_ok Try.func28 rfl rfl rfl (by kernel_rfl) (by simp) fun w0 => ?_
    simp only [argTM, Nat.zero_add, Nat.reduceAdd]
    simp only [ink]
    repeat refine IW.seq ?_
    refine IW.region_seq tab_ok [some 4, some 8] rfl fun X K hX hK => ?_
    simp only [go_sem]
    refine hK _ _ ?_; clear hX hK X K
    show IW _ _ _ _ _ _ _ _
    repeat refine IW.seq ?_
    refine IW.region_seq tab_ok [some 18, some 19, some 17, some 20, some 21, some 9, some 10] rfl fun X K hX hK => ?_
    simp only [go_sem]
    refine hX.quiet _ _ (OpG.of_B rfl (opB_call rfl rfl (FSpec.nz (hsize) (by simp [go_sem, List.map_cons, List.map_nil, List.append_nil, opnd, unc])))) ?_
    simp only [go_sem]
    refine hK _ _ ?_; clear hX hK X K
    show IW _ _ _ _ _ _ _ _
    repeat refine IW.seq ?_
    refine IW.region_seq tab_ok [some 22, some 23, some 24, some 25, some 26, some 27, some 28, some 29, some 30, some 31, some 32, some 33, some 34, some 35, some 36, some 37, some 38, some 39, some 40] rfl fun X K hX hK => ?_
    simp only [go_sem]
    refine hX.quiet _ _ (OpG.of_B rfl (opB_call rfl rfl (FSpec.nz (fRight W H p hl) (by simp [go_sem, List.map_cons, List.map_nil, List.append_nil, opnd, unc])))) ?_
    simp only [go_sem]
    simp only [hsh, hc, decide_false, Bool.not_false]
    refine hK _ _ ?_; clear hX hK X K
    show IW _ _ _ _ _ _ _ _
    repeat refine IW.seq ?_
    refine IW.cond rfl (fun hb => ?_) (fun hb => ?_)
    · repeat refine IW.seq ?_
      refine IW.region_seq tab_ok [some 8] rfl fun X K hX hK => ?_
      simp only [go_sem]
      refine hK _ _ ?_; clear hX hK X K
      show IW _ _ _ _ _ _ _ _
      refine IW.ret (Fin.scal rfl rfl ?_)
      rfl
    · simp at hb
  case pos =>
    obtain ⟨hr, hw0, rfl, rfl⟩ := hc
    have hwh : w * h ≤ 640 * 640 := Nat.mul_le_mul hb2 hb1
    have hkl : (keysD d).length = d.length := by simp [keysD]
    have hblank := res_img (fBlank w h (by omega) (by omega) (by omega))
    simp only [imgW, imgH, imgP] at hblank
    have e1 : optF w h d b l w h p = optS (optL w h d b l w h p d.length) := by simp only [optF, hr, hw0, ne_eq, not_false_eq_true, and_self, if_true]
    rw [e1]
    refine FSpec.intro tab_ok Try.func28 rfl rfl rfl (by kernel_rfl) (by simp) fun w0 => ?_
    simp only [argTM, Nat.zero_add, Nat.reduceAdd]
    simp only [ink]
    repeat refine IW.seq ?_
    refine IW.region_seq tab_ok [some 4, some 8] rfl fun X K hX hK => ?_
    simp only [go_sem]
    refine hK _ _ ?_; clear hX hK X K
    show IW _ _ _ _ _ _ _ _
    repeat refine IW.seq ?_
    refine IW.region_seq tab_ok [some 18, some 19, some 17, some 20, some 21, some 9, some 10] rfl fun X K hX hK => ?_
    simp only [go_sem]
    refine hX.quiet _ _ (OpG.of_B rfl (opB_call rfl rfl (FSpec.nz (hsize) (by simp [go_sem, List.map_cons, List.map_nil, List.append_nil, opnd, unc])))) ?_
    simp only [go_sem]
    refine hK _ _ ?_; clear hX hK X K
    show IW _ _ _ _ _ _ _ _
    repeat refine IW.seq ?_
    refine IW.region_seq tab_ok [some 22, some 23, some 24, some 25, some 26, some 27, some 28, some 29, some 30, some 31, some 32, some 33, some 34, some 35, some 36, some 37, some 38, some 39, some 40] rfl fun X K hX hK => ?_
    simp only [go_sem]
    refine hX.quiet _ _ (OpG.of_B rfl (opB_call rfl rfl (FSpec.nz (fRight w h p hl) (by simp [go_sem, List.map_cons, List.map_nil, List.append_nil, opnd, unc])))) ?_
    simp only [go_sem]
    simp only [hsh]
    refine hK _ _ ?_; clear hX hK X K
    show IW _ _ _ _ _ _ _ _
    repeat refine IW.seq ?_
    refine IW.cond rfl (fun hb => ?_) (fun hb => ?_)
    · simp [hr, hw0] at hb
    · refine IW.skip ?_
      show IW _ _ _ _ _ _ _ _
      repeat refine IW.seq ?_
      refine IW.region_draw tab_ok mixed [some 41, some 42, some 43, some 44, some 45, some 46, some 47, some 11] 7 (by kernel_rfl) rfl fun Xq Xs K hXq hXs hK K1 hK1 => ?_
      simp only [go_sem]
      refine hXq.quiet _ _ (OpG.of_B rfl (opB_call rfl rfl (FSpec.nz (hblank) (by simp [go_sem, List.map_cons, List.map_nil, List.append_nil, opnd, unc, resI, resR])))) ?_
      simp only [go_sem, resI, resR]
      refine hXq.quiet _ _ (OpG.of_B rfl (opB_call rfl rfl (FSpec.nz (fMiss w h p w h (List.replicate (w * h) 0) hl (by rw [List.length_replicate]; omega)) (by simp [go_sem, List.map_cons, List.map_nil, List.append_nil, opnd, unc])))) ?_
      simp only [go_sem]
      refine hXq.quiet _ _ (OpG.of_B rfl (opB_buildSlice tab_ok rfl (by simp [go_sem]) (by simp [go_sem]) (by simp) (by simp [go_sem, bsO, List.map_cons, List.map_nil]))) ?_
      simp only [go_sem, List.map_cons, List.map_nil]
      refine hK1 _ _ ?_; clear hXq hK1 K1 Xq
      simp only [List.drop_zero, List.drop_succ_cons, go_sem]
      refine hK _ _ ?_; clear hXs hK K Xs
      show IW _ _ _ _ _ _ _ _
      repeat refine IW.seq ?_
      refine IW.region_seq tab_ok [some 12] rfl fun X K hX hK => ?_
      simp only [go_sem]
      refine hK _ _ ?_; clear hX hK X K
      show IW _ _ _ _ _ _ _ _
      repeat refine IW.seq ?_
      refine IW.region_seq tab_ok [some 48] rfl fun X K hX hK => ?_
      simp only [go_sem]
      refine hK _ _ ?_; clear hX hK X K
      show IW _ _ _ _ _ _ _ _
      have hls : ∀ id, lsV id (keysD d).length = .ref id 0 d.length := fun id => by rw [hkl]; exact lsV_ne hne
      repeat refine IW.seq ?_
      refine IW.cond rfl (fun hbb => ?_) (fun hbb => ?_)
      repeat refine IW.seq ?_
      refine IW.region_seq tab_ok [some 12] rfl fun X K hX hK => ?_
      simp only [go_sem]
      refine hK _ _ ?_; clear hX hK X K
      show IW _ _ _ _ _ _ _ _
      have hfn2 : fn = 36 := by rw [hfn, hbb]; rfl
      rotate_left
      refine IW.skip ?_
      show IW _ _ _ _ _ _ _ _
      have hfn2 : fn = 31 := by rw [hfn, hbb]; rfl
      all_goals
        repeat refine IW.seq ?_
        refine IW.region_seq tab_ok [some 49, some 50, some 51, some 52] rfl fun X K hX hK => ?_
        simp only [go_sem]
        refine hX.quiet _ _ (OpG.of_B rfl (opB_call rfl rfl (FSpec.nz (hvals) (by simp [go_sem, List.map_cons, List.map_nil, List.append_nil, opnd, unc, hls])))) ?_
        simp only [go_sem, hls]
        refine hK _ _ ?_; clear hX hK X K
        show IW _ _ _ _ _ _ _ _
        repeat refine IW.seq ?_
        refine IW.block ?_
        refine IW.loop (α := {k : Nat // k ≤ d.length}) (fun k => [(1, .int .i64 s), (2, .sl true (nums .i64 l)), (4, .ptr 0 0 0), (11, .ref 2 0 (k.1 + 1)), (12, .clo fn []), (50, .ref 1 0 d.length), (51, .int .i64 d.length), (52, .int .i64 k.1)]) (fun k => [some ⟨3, 33, [[.int .i64 w, .int .i64 h, .sl true (nums .u8 p)]]⟩, some ⟨1, 3, nums .i64 (keysD d)⟩, some ⟨2, 70, prs (optL w h d b l w h p k.1)⟩]) (fun k => d.length - k.1) ⟨0, Nat.zero_le _⟩ ?_ fun ⟨k, hk⟩ => ?_
        · have e2 : prs (optL w h d b l w h p 0) = [[.int .i64 0, .int .i64 (missS w h p w h (List.replicate (w * h) 0))]] := by simp [optL, prs]
          refine Ent.ren [0, 3, 2] rfl (by decide) ?_ ?_ (fun id ri e => by cases e) <;> simp [go_sem, subT, subH, sg, SV.ren, Row.ren, e2, hfn2, prs_ren, nums_ren]
        · simp only []
          repeat refine IW.seq ?_
          refine IW.region_seq tab_ok [some 53] rfl fun X K hX hK => ?_
          simp only [go_sem]
          refine hK _ _ ?_; clear hX hK X K
          show IW _ _ _ _ _ _ _ _
          repeat refine IW.seq ?_
          refine IW.cond rfl (fun hb3 => ?_) (fun hb3 => ?_)
          · simp only [decide_eq_true_eq] at hb3
            have hkd : k < d.length := by omega
            have hkk : k < (keysD d).length := by omega
            refine IW.skip ?_
            show IW _ _ _ _ _ _ _ _
            refine IW.seq (IW.block ?_)
            repeat refine IW.seq ?_
            refine IW.region_seq tab_ok [some 54, some 55, some 14] rfl fun X K hX hK => ?_
            simp only [go_sem, nums_at hkk]
            refine ⟨⟨by omega, by omega⟩, by omega, ?_⟩
            refine hK _ _ ?_; clear hX hK X K
            show IW _ _ _ _ _ _ _ _
            have hv := hkp ((keysD d).getD k 0) (by simp [hkk])
            generalize hvv : (keysD d).getD k 0 = v at *
            repeat refine IW.seq ?_
            refine IW.region_seq tab_ok [some 57, some 58, some 59, some 56, some 60, some 61, some 15, none, some 16] rfl fun X K hX hK => ?_
            simp only [go_sem]
            refine hX.quiet _ _ (OpG.of_B rfl (opB_call rfl rfl (FSpec.nz (fGlyph s v w h d hd hok h0 hb1 hb2) (by simp [go_sem, List.map_cons, List.map_nil, List.append_nil, opnd, unc, resI, resR])))) ?_
            simp only [go_sem, resI, resR]
            refine hX.op _ _ rfl (opS_store tab_ok rfl (by simp [go_sem]) (by simp [go_sem]) (by simp [go_sem]) (by simp [go_sem]) (by simp [go_sem]) (by simp [go_sem])) ?_
            simp only [go_sem]
            refine hK _ _ ?_; clear hX hK X K
            show IW _ _ _ _ _ _ _ _
            have hgl := gP_length hok h0 v
            have hsl := styF_length b (gW d w v) (gW d h v) (gP d v) l
            have hsl2 : (styF b (gW d w v) (gW d h v) (gP d v) l).length ≤ 1000000 := by rw [hsl]; split <;> omega
            have hs2 := fSty b (gW d w v) (gW d h v) (gP d v) l (by omega) hll
            rw [← hfn] at hs2
            have hom : optM w h d b l w h p v = missS w h p (riW (gW d w v) (gW d h v) (gP d v) (gW d w v)) (riW (gW d w v) (gW d h v) (gP d v) (gW d h v)) (styF b (gW d w v) (gW d h v) (gP d v) l) := rfl
            clear hsl
            generalize riW (gW d w v) (gW d h v) (gP d v) (gW d w v) = W1 at hs2 hom
            generalize riW (gW d w v) (gW d h v) (gP d v) (gW d h v) = H1 at hs2 hom
            generalize styF b (gW d w v) (gW d h v) (gP d v) l = q1 at hs2 hom hsl2
            have hol : (optL w h d b l w h p k).length = k + 1 := by simp [optL, hkl]; omega
            repeat refine IW.seq ?_
            refine IW.region_draw tab_ok mixed [some 62, some 63, some 64, some 65, some 66, some 67, some 68, some 69, some 70, some 71, some 72, some 11] 10 (by kernel_rfl) rfl fun Xq Xs K hXq hXs hK K1 hK1 => ?_
            simp only [go_sem]
            refine hXq.quiet _ _ (OpG.of_B rfl (opB_call rfl rfl (FSpec.nz (hs2) (by simp [go_sem, List.map_cons, List.map_nil, List.append_nil, opnd, unc, resI, resR])))) ?_
            simp only [go_sem, resI, resR]
            refine hXq.quiet _ _ (OpG.of_B rfl (opB_call rfl rfl (FSpec.nz (fMiss w h p W1 H1 q1 hl hsl2) (by simp [go_sem, List.map_cons, List.map_nil, List.append_nil, opnd, unc])))) ?_
            simp only [go_sem]
            refine hXq.quiet _ _ (OpG.of_B rfl (opB_buildSlice tab_ok rfl (by simp [go_sem]) (by simp [go_sem]) (by simp) (by simp [go_sem, bsO, List.map_cons, List.map_nil]))) ?_
            simp only [go_sem, List.map_cons, List.map_nil]
            refine hK1 _ _ ?_; clear hXq hK1 K1 Xq
            simp only [List.drop_zero, List.drop_succ_cons, go_sem]
            refine hXs.op _ _ rfl (opS_append tab_ok (ys := [[.int .i64 v, .int .i64 (missS w h p W1 H1 q1)]]) rfl (by simp [go_sem, prs_length, hol]) rfl (by simp [go_sem, prs_length, hol]; try omega) rfl (by simp [go_sem]) (by simp [go_sem]) (by simp [go_sem, prs_length, hol]) rfl rfl rfl (by first | exact nums_w _ _ | exact prs_w _ | simp [go_sem, nums]) (by simp [go_sem]) (by simp [go_sem]; omega) (by simp [go_sem]; omega) (by intro d e; cases e; decide)) ?_
            simp only [go_sem, List.length_cons, List.length_nil, prs_length, hol]
            refine hK _ _ ?_; clear hXs hK K Xs
            show IW _ _ _ _ _ _ _ _
            repeat refine IW.seq ?_
            refine IW.region_seq tab_ok [some 73, some 52] rfl fun X K hX hK => ?_
            simp only [go_sem, succ_wrap hkd (Nat.le_trans (Nat.le_of_lt hn) (by decide))]
            have hnx : (prs (optL w h d b l w h p k)).take (k + 1) ++ [[.int .i64 v, .int .i64 (missS w h p W1 H1 q1)]] = prs (optL w h d b l w h p (k + 1)) := by
              rw [List.take_of_length_le (by rw [prs_length, hol]; exact Nat.le_refl _)]
              have htk : (keysD d).take (k + 1) = (keysD d).take k ++ [v] := by rw [List.take_add_one, ← hvv]; simp [hkk]
              simp only [optL, htk, List.map_append, prs, List.map_cons, List.map_nil, hom, List.cons_append]
            refine hK _ _ ⟨⟨k + 1, hkd⟩, by simp only []; omega, ?_⟩
            refine Ent.ren [0, 1, 7] rfl (by decide) ?_ ?_ (fun id ri e => by cases e) <;> simp [go_sem, subT, subH, sg, SV.ren, Row.ren, hnx, prs_ren, nums_ren]
          · refine IW.exit ?_
            show IW _ _ _ _ _ _ _ _
            simp only [decide_eq_false_iff_not] at hb3
            obtain rfl : k = d.length := by omega
            have hol : (optL w h d b l w h p d.length).length = d.length + 1 := by simp [optL, hkl]
            have hsrt := fSortStable (optL w h d b l w h p d.length) (optL_lt hks (fun k hk => (hkp k hk).1)) (optL_m9 hl) (by omega)
            rw [hol] at hsrt
            repeat refine IW.seq ?_
            refine IW.region_seq tab_ok [some 74, some 75] rfl fun X K hX hK => ?_
            simp only [go_sem]
            refine hX.op _ _ rfl (opS_callW (caps := []) [2] (by simp) (by simp [go_sem]) (by simp) (by simp [go_sem, prs_reWrow]) (by simp [go_sem, reW]) hsrt) ?_
            simp only [go_sem]
            simp only [updR, List.set_cons_zero, List.set_cons_succ, Option.map_some, prs_renrow]
            refine hK _ _ ?_; clear hX hK X K
            show IW _ _ _ _ _ _ _ _
            repeat refine IW.seq ?_
            refine IW.region_seq tab_ok [some 76, some 8] rfl fun X K hX hK => ?_
            simp only [go_sem]
            refine hK _ _ ?_; clear hX hK X K
            show IW _ _ _ _ _ _ _ _
            have hfl : (optS (optL w h d b l w h p d.length)).length = d.length + 1 := by rw [← hol]; exact List.length_mergeSort _
            rw [hfl]
            refine IW.ret (Fin.tmp1 2 (by simp [go_sem, prs_nold]) (by simp [go_sem, prs_nold]) (by simp [go_sem, lsV]) (by simp [go_sem, prs_ren]))
end Go.Proofs.Ytnbpbehlemaeoaa

set_option linter.unusedVariables false
set_option linter.unusedSimpArgs false
set_option maxRecDepth 10000
namespace Go.Proofs.Ytnbpbehlemaeoaa
open Go.IL
theorem same93 (v : Value) (w : World) : (callFunc 93 #[v]).run Try.prog w = .ok (.value v) w := by kernel_rfl
theorem u97 : Try.prog.underlying 97 = some (.pointer 99) := by kernel_rfl
theorem u126 : Try.prog.underlying 126 = some .unsafePointer := by kernel_rfl
noncomputable def j99 : TypeInfo := (Try.prog.info? 99).getD default
theorem i99 : Try.prog.info? 99 = some j99 := by kernel_rfl
theorem s99 : j99.size ≠ 0 := of_decide_eq_true (by kernel_rfl)
theorem c99 : Try.prog.cellsOf 99 = 2 := by kernel_rfl
theorem fCheck0 : WSpec Try.prog 85 [.ptr 0 0 0] [⟨2, 99, [[.nilp, .nils]]⟩] (.tup []) [some ⟨2, 99, [[.ptr 0 0 0, .nils]]⟩] := by
  refine WSpec.intro tab_ok Try.func85 rfl rfl rfl (by kernel_rfl) (by simp) (by simp) fun O w0 hr => ?_
  simp only [argTM, Nat.zero_add, Nat.reduceAdd, List.map_cons, List.map_nil]
  repeat refine IW.seq ?_
  refine IW.region_seq tab_ok [some 2, some 3, some 4, some 5, some 6] rfl fun X K hX hK => ?_
  simp only [go_sem]
  refine hX.quiet _ _ (OpG.of_B rfl (opB_ptrNil (b := true) u97 i99 rfl (by simp [go_sem, nilPV]))) ?_
  simp only [go_sem, eqRes]
  refine hK _ _ ?_; clear hX hK X K
  show IW _ _ _ _ _ _ _ _
  repeat refine IW.seq ?_
  refine IW.cond rfl (fun hb => ?_) (fun hb => ?_)
  · repeat refine IW.seq ?_
    refine IW.region_seq tab_ok [some 7, some 8, some 9, some 10, some 11, some 12, some 13, none] rfl fun X K hX hK => ?_
    simp only [go_sem]
    refine hX.quiet _ _ (OpG.of_B rfl (opB_toUnsafe (id := 0) (r := ⟨2, 99, [[.nilp, .nils]]⟩) u97 u126 i99 s99 (by simp [go_sem]) rfl (by decide) (by decide))) ?_
    simp only [go_sem]
    refine hX.quiet _ _ (OpG.of_B rfl (opB_same same93)) ?_
    simp only [go_sem]
    refine hX.quiet _ _ (OpG.of_B rfl (opB_fromUnsafe (id := 0) (r := ⟨2, 99, [[.nilp, .nils]]⟩) u126 u97 i99 (by simp [go_sem]) rfl (by decide) rfl c99 (by decide) (by decide))) ?_
    simp only [go_sem]
    refine hX.op _ _ rfl (opS_store tab_ok rfl (by simp [go_sem]) (by simp [go_sem]) (by simp [go_sem]) (by simp [go_sem]) (by simp [go_sem]) (by simp [go_sem])) ?_
    simp only [go_sem]
    refine hK _ _ ?_
    exact ⟨trivial, rfl, by simp [go_sem, heapNold], by simp, [0], rfl, by simp, rfl, rfl, by simp [go_sem, subH], trivial⟩
  · simp at hb
theorem fCheck (n : Nat) (bs : List Int) (hn : n ≤ bs.length) : WSpec Try.prog 85 [.ptr 0 0 0] [⟨2, 99, [[.ptr 0 0 0, .ref 1 0 n]]⟩, ⟨1, 5, nums .u8 bs⟩] (.tup []) [some ⟨2, 99, [[.ptr 0 0 0, .ref 1 0 n]]⟩, some ⟨1, 5, nums .u8 bs⟩] := by
  refine WSpec.intro tab_ok Try.func85 rfl rfl rfl (by kernel_rfl) (by simp) (by simp) fun O w0 hr => ?_
  simp only [argTM, Nat.zero_add, Nat.reduceAdd, List.map_cons, List.map_nil]
  repeat refine IW.seq ?_
  refine IW.region_seq tab_ok [some 2, some 3, some 4, some 5, some 6] rfl fun X K hX hK => ?_
  simp only [go_sem]
  refine hX.quiet _ _ (OpG.of_B rfl (opB_ptrNil (b := false) u97 i99 rfl (by simp [go_sem, nilPV]))) ?_
  simp only [go_sem, eqRes]
  refine hK _ _ ?_; clear hX hK X K
  show IW _ _ _ _ _ _ _ _
  repeat refine IW.seq ?_
  refine IW.cond rfl (fun hb => ?_) (fun hb => ?_)
  · simp at hb
  · repeat refine IW.seq ?_
    refine IW.region_seq tab_ok [some 14, some 15, some 16, some 17, some 18, some 19] rfl fun X K hX hK => ?_
    simp only [go_sem]
    refine hX.quiet _ _ (OpG.of_B rfl (opB_ptrSame (id := 0) (i := 0) (o := 0) u97 i99 s99 rfl (by simp [go_sem]) (by simp [go_sem]))) ?_
    simp only [go_sem, eqRes]
    refine hK _ _ ?_; clear hX hK X K
    show IW _ _ _ _ _ _ _ _
    repeat refine IW.seq ?_
    refine IW.cond rfl (fun hb2 => ?_) (fun hb2 => ?_)
    · simp at hb2
    · refine IW.skip ?_
      exact ⟨trivial, rfl, by simp [go_sem, heapNold, nums_nold], by simp, [0, 1], rfl, by simp, rfl, rfl, by simp [go_sem, subH, nums_ren, Row.ren, renLL, renL, SV.ren, sg]⟩
theorem nums_reWrow (k : IntKind) (e : TypeId) (σ : List Nat) (n : Nat) (h : Heap) (l : List Int) : (⟨1, e, nums k l⟩ : Row).reW σ (n + 1) h = ⟨1, e, nums k l⟩ := by
  simp only [Row.reW, nums_reW]
theorem bld_reW (m n : Nat) (h : Heap) : (⟨2, 99, [[.ptr 0 0 0, .ref 1 0 n]]⟩ : Row).reW [0, 1] (m + 1) h = ⟨2, 99, [[.ptr 0 0 0, .ref 1 0 n]]⟩ := by
  simp [Row.reW, reW, show List.idxOf 1 [0, 1] = 1 from rfl]
theorem fByte0 (c : Int) : WSpec Try.prog 70 [.ptr 0 0 0, .int .u8 c] [⟨2, 99, [[.nilp, .nils]]⟩] (.raw .nilIface) [some ⟨2, 99, [[.ptr 0 0 0, .ref 1 0 1]]⟩, some ⟨1, 5, nums .u8 [c]⟩] := by
  refine WSpec.intro tab_ok Try.func70 rfl rfl rfl (by kernel_rfl) (by simp) (by simp) fun O w0 hr => ?_
  simp only [argTM, Nat.zero_add, Nat.reduceAdd, List.map_cons, List.map_nil]
  repeat refine IW.seq ?_
  refine IW.region_seq tab_ok [some 4] rfl fun X K hX hK => ?_
  simp only [go_sem]
  refine hK _ _ ?_; clear hX hK X K
  show IW _ _ _ _ _ _ _ _
  repeat refine IW.seq ?_
  refine IW.region_seq tab_ok [some 5, some 6] rfl fun X K hX hK => ?_
  simp only [go_sem]
  refine hX.op _ _ rfl (opS_callW (caps := []) [0] (by simp) (by simp [go_sem]) (by simp) (by simp [go_sem, Row.reW, reW]) (by simp [go_sem, reW]) fCheck0) ?_
  simp only [go_sem]
  simp only [updR, List.set_cons_zero, List.set_cons_succ, Option.map_some, Row.ren, renLL, renL, SV.ren, tauW, List.length_cons, List.length_nil, Nat.reduceAdd, Nat.reduceLT, if_true, List.getD_cons_zero, Nat.zero_lt_one]
  refine hK _ _ ?_; clear hX hK X K
  show IW _ _ _ _ _ _ _ _
  repeat refine IW.seq ?_
  refine IW.region_seq tab_ok [some 7, some 8, some 9, some 10, some 11, some 12, some 13, some 14, some 15, some 16, none] rfl fun X K hX hK => ?_
  simp only [go_sem]
  refine hX.quiet _ _ (OpG.of_B rfl (opB_buildSlice tab_ok rfl (by simp [go_sem]) (by simp [go_sem]) (by simp) (by simp [go_sem, bsO, List.map_cons, List.map_nil]))) ?_
  simp only [go_sem, List.map_cons, List.map_nil]
  refine hX.quiet _ _ (OpG.of_B rfl (opB_append_nil tab_ok (ys := [[.int .u8 c]]) rfl (by simp [go_sem]) rfl (by simp [go_sem]; try omega) rfl (by simp [go_sem]) (by simp [go_sem]) (by first | exact nums_w _ _ | exact prs_w _ | simp [go_sem, nums]) (by simp [go_sem]) (by simp [go_sem]; try omega) (by simp [go_sem]; try omega))) ?_
  simp only [go_sem, List.length_cons, List.length_nil]
  refine hX.op _ _ rfl (opS_store tab_ok rfl (by simp [go_sem]) (by simp [go_sem]) (by simp [go_sem]) (by simp [go_sem]) (by simp [go_sem]) (by simp [go_sem])) ?_
  simp only [go_sem]
  refine hK _ _ ?_; clear hX hK X K
  show IW _ _ _ _ _ _ _ _
  repeat refine IW.seq ?_
  refine IW.region_seq tab_ok [some 4] rfl fun X K hX hK => ?_
  simp only [go_sem]
  refine hK _ _ ?_; clear hX hK X K
  show IW _ _ _ _ _ _ _ _
  refine IW.ret ⟨⟨trivial, trivial⟩, rfl, by simp [go_sem, heapNold], by simp, [0, 2], rfl, by simp, rfl, ?_, ?_⟩
  · simp [go_sem, resAll, resSV]
  · simp [go_sem, subH, sg, Row.ren]
    rfl
theorem fByte (n : Nat) (bs : List Int) (hn : bs.length = n) (hn0 : n ≤ 1000000) (c : Int) : WSpec Try.prog 70 [.ptr 0 0 0, .int .u8 c] [⟨2, 99, [[.ptr 0 0 0, .ref 1 0 n]]⟩, ⟨1, 5, nums .u8 bs⟩] (.raw .nilIface) [some ⟨2, 99, [[.ptr 0 0 0, .ref 2 0 (n + 1)]]⟩, none, some ⟨1, 5, nums .u8 (bs ++ [c])⟩] := by
  refine WSpec.intro tab_ok Try.func70 rfl rfl rfl (by kernel_rfl) (by simp) (by simp) fun O w0 hr => ?_
  simp only [argTM, Nat.zero_add, Nat.reduceAdd, List.map_cons, List.map_nil]
  repeat refine IW.seq ?_
  refine IW.region_seq tab_ok [some 4] rfl fun X K hX hK => ?_
  simp only [go_sem]
  refine hK _ _ ?_; clear hX hK X K
  show IW _ _ _ _ _ _ _ _
  repeat refine IW.seq ?_
  refine IW.region_seq tab_ok [some 5, some 6] rfl fun X K hX hK => ?_
  simp only [go_sem]
  refine hX.op _ _ rfl (opS_callW (caps := []) [0, 1] (by simp) (by simp [go_sem]) (by simp) (by simp [go_sem, bld_reW, nums_reWrow]) (by simp [go_sem, reW]) (fCheck n bs (by omega))) ?_
  simp only [go_sem]
  simp only [updR, List.set_cons_zero, List.set_cons_succ, Option.map_some, Row.ren, renLL, renL, SV.ren, nums_ren, tauW, List.length_cons, List.length_nil, Nat.reduceAdd, Nat.reduceLT, if_true, List.getD_cons_zero, List.getD_cons_succ, Nat.zero_lt_one]
  refine hK _ _ ?_; clear hX hK X K
  show IW _ _ _ _ _ _ _ _
  repeat refine IW.seq ?_
  refine IW.region_seq tab_ok [some 7, some 8, some 9, some 10, some 11, some 12, some 13, some 14, some 15, some 16, none] rfl fun X K hX hK => ?_
  simp only [go_sem]
  refine hX.quiet _ _ (OpG.of_B rfl (opB_buildSlice tab_ok rfl (by simp [go_sem]) (by simp [go_sem]) (by simp) (by simp [go_sem, bsO, List.map_cons, List.map_nil]))) ?_
  simp only [go_sem, List.map_cons, List.map_nil]
  refine hX.op _ _ rfl (opS_append tab_ok (ys := [[.int .u8 c]]) rfl (by simp [go_sem, nums_length, hn]) rfl (by simp [go_sem, nums_length, hn]; try omega) rfl (by simp [go_sem]) (by simp [go_sem]) (by simp [go_sem, nums_length, hn]) rfl rfl rfl (by first | exact nums_w _ _ | exact prs_w _ | simp [go_sem, nums]) (by simp [go_sem]) (by simp [go_sem]; omega) (by simp [go_sem]; omega) (by intro d e; cases e; decide)) ?_
  simp only [go_sem, List.length_cons, List.length_nil, nums_length, hn]
  refine hX.op _ _ rfl (opS_store tab_ok rfl (by simp [go_sem]) (by simp [go_sem]) (by simp [go_sem]) (by simp [go_sem]) (by simp [go_sem]) (by simp [go_sem])) ?_
  simp only [go_sem]
  refine hK _ _ ?_; clear hX hK X K
  show IW _ _ _ _ _ _ _ _
  repeat refine IW.seq ?_
  refine IW.region_seq tab_ok [some 4] rfl fun X K hX hK => ?_
  simp only [go_sem]
  refine hK _ _ ?_; clear hX hK X K
  show IW _ _ _ _ _ _ _ _
  have ht : (nums .u8 bs).take n ++ [[.int .u8 c]] = nums .u8 (bs ++ [c]) := by
    rw [List.take_of_length_le (by rw [nums_length]; omega)]
    simp [nums]
  refine IW.ret ⟨⟨trivial, trivial⟩, rfl, by simp [go_sem, heapNold], by simp, [0, 1, 3], rfl, by simp, rfl, ?_, ?_⟩
  · simp [go_sem, resAll, resSV]
  · simp [go_sem, subH, sg, Row.ren, ht]
theorem u113 : Try.prog.underlying 113 = some (.pointer 5) := by kernel_rfl
theorem c5 : Try.prog.cellsOf 5 = 1 := by kernel_rfl
theorem fString0 : WSpec Try.prog 71 [.ptr 0 0 0] [⟨2, 99, [[.nilp, .nils]]⟩] (.str (IL.strOf [])) [some ⟨2, 99, [[.nilp, .nils]]⟩] := by
  refine WSpec.intro tab_ok Try.func71 rfl rfl rfl (by kernel_rfl) (by simp) (by simp) fun O w0 hr => ?_
  simp only [argTM, Nat.zero_add, Nat.reduceAdd, List.map_cons, List.map_nil]
  repeat refine IW.seq ?_
  refine IW.region_seq tab_ok [some 2] rfl fun X K hX hK => ?_
  simp only [go_sem]
  refine hK _ _ ?_; clear hX hK X K
  show IW _ _ _ _ _ _ _ _
  repeat refine IW.seq ?_
  refine IW.region_draw tab_ok mixed [some 3, some 4, some 5, some 6, some 7, some 8, some 9, some 10, some 11, some 12, some 13, some 2] 10 (by kernel_rfl) rfl fun Xq Xs K hXq hXs hK K1 hK1 => ?_
  simp only [go_sem]
  refine hXq.quiet _ _ (OpG.of_B rfl (opB_sliceData_nil (by simp [go_sem]))) ?_
  simp only [go_sem]
  refine hK1 _ _ ?_; clear hXq hK1 K1 Xq
  simp only [List.drop_zero, List.drop_succ_cons, go_sem]
  refine hXs.quiet _ _ (OpG.of_B rfl (opB_unsafeString_nil (by simp [go_sem]) (by simp [go_sem]))) ?_
  simp only [go_sem]
  refine hK _ _ ?_; clear hXs hK K Xs
  show IW _ _ _ _ _ _ _ _
  refine IW.ret ⟨⟨trivial, trivial⟩, rfl, by simp [go_sem, heapNold], by simp, [0], rfl, by simp, rfl, ?_, ?_⟩
  · simp [go_sem, resAll, resSV]
  · simp [go_sem, subH, sg, Row.ren]
theorem fString (bs : List Int) (hn0 : bs.length ≤ 1000000) (hp : 0 < bs.length) (hb : ∀ x ∈ bs, 0 ≤ x ∧ x < 256) : WSpec Try.prog 71 [.ptr 0 0 0] [⟨2, 99, [[.ptr 0 0 0, .ref 1 0 bs.length]]⟩, ⟨1, 5, nums .u8 bs⟩] (.str (IL.strOf bs)) [some ⟨2, 99, [[.ptr 0 0 0, .ref 1 0 bs.length]]⟩, none] := by
  refine WSpec.intro tab_ok Try.func71 rfl rfl rfl (by kernel_rfl) (by simp) (by simp) fun O w0 hr => ?_
  simp only [argTM, Nat.zero_add, Nat.reduceAdd, List.map_cons, List.map_nil]
  repeat refine IW.seq ?_
  refine IW.region_seq tab_ok [some 2] rfl fun X K hX hK => ?_
  simp only [go_sem]
  refine hK _ _ ?_; clear hX hK X K
  show IW _ _ _ _ _ _ _ _
  repeat refine IW.seq ?_
  refine IW.region_draw tab_ok mixed [some 3, some 4, some 5, some 6, some 7, some 8, some 9, some 10, some 11, some 12, some 13, some 2] 10 (by kernel_rfl) rfl fun Xq Xs K hXq hXs hK K1 hK1 => ?_
  simp only [go_sem]
  refine hXq.quiet _ _ (OpG.of_B rfl (opB_sliceData (id := 1) (off := 0) (n := bs.length) (by simp [go_sem]) hp)) ?_
  simp only [go_sem]
  refine hK1 _ _ ?_; clear hXq hK1 K1 Xq
  simp only [List.drop_zero, List.drop_succ_cons, go_sem]
  refine hXs.op _ _ rfl (opS_unsafeString (id := 1) (xs := bs) (by simp [go_sem]) (by simp [go_sem]) rfl (by decide) u113 c5 hp hb (by omega) (by intro d e; cases e; decide)) ?_
  simp only [go_sem]
  refine hK _ _ ?_; clear hXs hK K Xs
  show IW _ _ _ _ _ _ _ _
  refine IW.ret ⟨⟨trivial, trivial⟩, rfl, by simp [go_sem, heapNold], by simp, [0, 1], rfl, by simp, rfl, ?_, ?_⟩
  · simp [go_sem, resAll, resSV]
  · simp [go_sem, subH, sg, Row.ren]
end Go.Proofs.Ytnbpbehlemaeoaa

set_option linter.unusedVariables false
set_option linter.unusedSimpArgs false
set_option maxRecDepth 10000
namespace Go.Proofs.Ytnbpbehlemaeoaa
open Go.IL
/-- A builder (row 1) that has written bs (row 2). -/
def wbV (bs : List Int) : List SV := match bs with | [] => [.nilp, .nils] | _ :: _ => [.ptr 1 0 0, .ref 2 0 bs.length]
def wbR (bs : List Int) : Option Row := match bs with | [] => none | _ :: _ => some ⟨1, 5, nums .u8 bs⟩
theorem opS_byte {O : Nat → Prop} {w0 : Ctx} {N : Nat} {dst : Option Nat} {x y : Operand} {ats : Array TypeId} {ty : TypeId} {pos : String} {after : Array Edge} {tm : TM} {bs : List Int} {c : Int} {r0 : Option Row} (hx : opnd tm x = .ptr 1 0 0) (hy : opnd tm y = .int .u8 c) (hl : bs.length ≤ 1000000) (hd : ∀ d, dst = some d → d < N) :
    OpS Try.prog O w0 N ⟨dst, .call ⟨.value (.func 70), #[x, y], ats⟩, ty, pos, after, none⟩ tm [r0, some ⟨2, 99, [wbV bs]⟩, wbR bs] (tm.put dst (.raw .nilIface)) [r0, some ⟨2, 99, [[.ptr 1 0 0, .ref 3 0 (bs.length + 1)]]⟩, none, some ⟨1, 5, nums .u8 (bs ++ [c])⟩] := by
  cases bs with
  | nil =>
    have := opS_callW (P := Try.prog) (O := O) (w0 := w0) (N := N) (dst := dst) (fo := .func 70) (caps := []) (args := #[x, y]) (ats := ats) (ty := ty) (pos := pos) (after := after) (tm := tm) (h := [r0, some ⟨2, 99, [[.nilp, .nils]]⟩, none]) (svs := [.ptr 0 0 0, .int .u8 c]) (rowsIn := [⟨2, 99, [[.nilp, .nils]]⟩]) [1] hd (by simp [go_sem]) (by simp) (by simp [go_sem, Row.reW, reW]) (by simp only [List.map_cons, List.map_nil, hx, hy, List.append_nil]; rfl) (fByte0 c)
    simp only [updR, List.set_cons_zero, List.set_cons_succ, Option.map_some, Row.ren, renLL, renL, SV.ren, nums_ren, tauW, List.length_cons, List.length_nil, Nat.reduceAdd, Nat.reduceLT, if_true, if_false, List.getD_cons_zero, List.getD_cons_succ, Nat.zero_lt_one, List.drop_succ_cons, List.drop_zero, List.map_cons, List.map_nil, Nat.lt_irrefl, Nat.sub_self, Nat.add_zero, List.cons_append, List.nil_append] at this
    exact this
  | cons b bs =>
    have := opS_callW (P := Try.prog) (O := O) (w0 := w0) (N := N) (dst := dst) (fo := .func 70) (caps := []) (args := #[x, y]) (ats := ats) (ty := ty) (pos := pos) (after := after) (tm := tm) (h := [r0, some ⟨2, 99, [[.ptr 1 0 0, .ref 2 0 (b :: bs).length]]⟩, some ⟨1, 5, nums .u8 (b :: bs)⟩]) (svs := [.ptr 0 0 0, .int .u8 c]) (rowsIn := [⟨2, 99, [[.ptr 0 0 0, .ref 1 0 (b :: bs).length]]⟩, ⟨1, 5, nums .u8 (b :: bs)⟩]) [1, 2] hd (by simp [go_sem]) (by simp) (by simp [go_sem, Row.reW, reW, nums, show List.idxOf 2 [1, 2] = 1 from rfl, show List.idxOf 1 [1, 2] = 0 from rfl]) (by simp only [List.map_cons, List.map_nil, hx, hy, List.append_nil]; rfl) (fByte _ (b :: bs) rfl hl c)
    simp only [updR, List.set_cons_zero, List.set_cons_succ, Option.map_some, Option.map_none, Row.ren, renLL, renL, SV.ren, nums_ren, tauW, List.length_cons, List.length_nil, Nat.reduceAdd, Nat.reduceLT, if_true, if_false, List.getD_cons_zero, List.getD_cons_succ, Nat.zero_lt_one, List.drop_succ_cons, List.drop_zero, List.map_cons, List.map_nil, Nat.lt_irrefl, Nat.sub_self, Nat.add_zero, List.cons_append, List.nil_append] at this
    exact this
theorem opS_text {O : Nat → Prop} {w0 : Ctx} {N : Nat} {dst : Option Nat} {x : Operand} {ats : Array TypeId} {ty : TypeId} {pos : String} {after : Array Edge} {tm : TM} {bs : List Int} {r0 : Option Row} (hx : opnd tm x = .ptr 1 0 0) (hl : bs.length ≤ 1000000) (hb : ∀ x ∈ bs, 0 ≤ x ∧ x < 256) (hd : ∀ d, dst = some d → d < N) :
    OpS Try.prog O w0 N ⟨dst, .call ⟨.value (.func 71), #[x], ats⟩, ty, pos, after, none⟩ tm [r0, some ⟨2, 99, [wbV bs]⟩, wbR bs] (tm.put dst (.str (IL.strOf bs))) [r0, some ⟨2, 99, [wbV bs]⟩, none] := by
  cases bs with
  | nil =>
    have := opS_callW (P := Try.prog) (O := O) (w0 := w0) (N := N) (dst := dst) (fo := .func 71) (caps := []) (args := #[x]) (ats := ats) (ty := ty) (pos := pos) (after := after) (tm := tm) (h := [r0, some ⟨2, 99, [[.nilp, .nils]]⟩, none]) (svs := [.ptr 0 0 0]) (rowsIn := [⟨2, 99, [[.nilp, .nils]]⟩]) [1] hd (by simp [go_sem]) (by simp) (by simp [go_sem, Row.reW, reW]) (by simp only [List.map_cons, List.map_nil, hx, List.append_nil]; rfl) fString0
    simp only [updR, List.set_cons_zero, List.set_cons_succ, Option.map_some, Row.ren, renLL, renL, SV.ren, nums_ren, tauW, List.length_cons, List.length_nil, Nat.reduceAdd, Nat.reduceLT, if_true, if_false, List.getD_cons_zero, List.getD_cons_succ, Nat.zero_lt_one, List.drop_succ_cons, List.drop_zero, List.map_cons, List.map_nil, Nat.lt_irrefl, Nat.sub_self, Nat.add_zero, List.cons_append, List.nil_append, List.append_nil] at this
    exact this
  | cons b bs =>
    have := opS_callW (P := Try.prog) (O := O) (w0 := w0) (N := N) (dst := dst) (fo := .func 71) (caps := []) (args := #[x]) (ats := ats) (ty := ty) (pos := pos) (after := after) (tm := tm) (h := [r0, some ⟨2, 99, [[.ptr 1 0 0, .ref 2 0 (b :: bs).length]]⟩, some ⟨1, 5, nums .u8 (b :: bs)⟩]) (svs := [.ptr 0 0 0]) (rowsIn := [⟨2, 99, [[.ptr 0 0 0, .ref 1 0 (b :: bs).length]]⟩, ⟨1, 5, nums .u8 (b :: bs)⟩]) [1, 2] hd (by simp [go_sem]) (by simp) (by simp [go_sem, Row.reW, reW, nums, show List.idxOf 2 [1, 2] = 1 from rfl, show List.idxOf 1 [1, 2] = 0 from rfl]) (by simp only [List.map_cons, List.map_nil, hx, List.append_nil]; rfl) (fString (b :: bs) hl (by simp) hb)
    simp only [updR, List.set_cons_zero, List.set_cons_succ, Option.map_some, Option.map_none, Row.ren, renLL, renL, SV.ren, nums_ren, tauW, List.length_cons, List.length_nil, Nat.reduceAdd, Nat.reduceLT, if_true, if_false, List.getD_cons_zero, List.getD_cons_succ, Nat.zero_lt_one, List.drop_succ_cons, List.drop_zero, List.map_cons, List.map_nil, Nat.lt_irrefl, Nat.sub_self, Nat.add_zero, List.cons_append, List.nil_append, List.append_nil] at this
    exact this
/-- A line of a drawing in characters, and all lines. -/
def shRow (w : Nat) (p : List Int) (y n : Nat) : List Int := (List.range n).map fun x => if p.getD (y * w + x) 0 = 0 then 46 else 35
def shL (w : Nat) (p : List Int) (n : Nat) : List Int := (List.range n).flatMap fun y => shRow w p y w ++ [10]
def showF (W H : Int) (p : List Int) : ByteArray := if rightS W H p then IL.strOf (shL W.toNat p H.toNat) else ⟨#[]⟩
theorem shL_succ (w : Nat) (p : List Int) (n : Nat) : shL w p (n + 1) = shL w p n ++ shRow w p n w ++ [10] := by
  simp [shL, List.range_succ]
theorem shRow_succ (w : Nat) (p : List Int) (y n : Nat) : shRow w p y (n + 1) = shRow w p y n ++ [if p.getD (y * w + n) 0 = 0 then 46 else 35] := by
  simp [shRow, List.range_succ]
theorem shRow_length (w : Nat) (p : List Int) (y n : Nat) : (shRow w p y n).length = n := by simp [shRow]
theorem shL_length (w : Nat) (p : List Int) : ∀ n, (shL w p n).length = n * (w + 1)
  | 0 => by simp [shL]
  | n + 1 => by rw [shL_succ, List.length_append, List.length_append, shL_length w p n, shRow_length, Nat.succ_mul]; simp; omega
theorem shRow_bytes (w : Nat) (p : List Int) (y n : Nat) : ∀ x ∈ shRow w p y n, 0 ≤ x ∧ x < 256 := by
  intro x hx
  obtain ⟨t, _, rfl⟩ := List.mem_map.1 hx
  split <;> omega
theorem shL_bytes (w : Nat) (p : List Int) (n : Nat) : ∀ x ∈ shL w p n, 0 ≤ x ∧ x < 256 := by
  intro x hx
  obtain ⟨y, _, hx⟩ := List.mem_flatMap.1 hx
  rcases List.mem_append.1 hx with h | h
  · exact shRow_bytes _ _ _ _ x h
  · simp at h; omega
theorem shL_zero (w : Nat) (p : List Int) : shL w p 0 = [] := rfl
theorem wbV_snoc (bs : List Int) (c : Int) : wbV (bs ++ [c]) = [.ptr 1 0 0, .ref 2 0 (bs.length + 1)] := by cases bs <;> simp [wbV]
theorem wbR_snoc (bs : List Int) (c : Int) : wbR (bs ++ [c]) = some ⟨1, 5, nums .u8 (bs ++ [c])⟩ := by cases bs <;> simp [wbR]
theorem fShow (W H : Int) (p : List Int) (hl : p.length ≤ 1000000) (hp : ∀ x ∈ p, 0 ≤ x) : FSpec Try.prog 41 [ink W H p] (.str (showF W H p)) [] := by
  by_cases hr : rightS W H p = true
  case neg =>
    have e1 : showF W H p = ⟨#[]⟩ := by simp [showF, hr]
    rw [e1]
    refine FSpec.intro tab_ok Try.func41 rfl rfl rfl (by kernel_rfl) (by simp) fun w0 => ?_
    simp only [argTM, Nat.zero_add, Nat.reduceAdd]
    simp only [ink]
    repeat refine IW.seq ?_
    refine IW.region_seq tab_ok [some 1, some 2] rfl fun X K hX hK => ?_
    simp only [go_sem]
    refine hK _ _ ?_; clear hX hK X K
    show IW _ _ _ _ _ _ _ _
    repeat refine IW.seq ?_
    refine IW.region_seq tab_ok [some 7, some 8, some 9] rfl fun X K hX hK => ?_
    simp only [go_sem]
    refine hX.quiet _ _ (OpG.of_B rfl (opB_call rfl rfl (FSpec.nz (fRight W H p hl) (by simp [go_sem, List.map_cons, List.map_nil, List.append_nil, opnd, unc])))) ?_
    simp only [go_sem]
    refine hK _ _ ?_; clear hX hK X K
    show IW _ _ _ _ _ _ _ _
    repeat refine IW.seq ?_
    refine IW.cond rfl (fun hb => ?_) (fun hb => ?_)
    · repeat refine IW.seq ?_
      refine IW.region_seq tab_ok [some 2] rfl fun X K hX hK => ?_
      simp only [go_sem]
      refine hK _ _ ?_; clear hX hK X K
      show IW _ _ _ _ _ _ _ _
      refine IW.ret (Fin.scal rfl rfl ?_)
      rfl
    · simp [hr] at hb
  case pos =>
    obtain ⟨h1, h2, h3, h4, h5⟩ := right_len hr
    obtain ⟨w, rfl⟩ : ∃ w : Nat, W = w := ⟨W.toNat, by omega⟩
    obtain ⟨h, rfl⟩ : ∃ h : Nat, H = h := ⟨H.toNat, by omega⟩
    have e1 : showF w h p = IL.strOf (shL w p h) := by simp [showF, hr]
    have hwh : p.length = w * h := by have := h1; rw [← Int.natCast_mul] at this; omega
    have hall : ∀ x ∈ p, x = 0 ∨ x = 1 := fun x hx => by
      have := hp x hx
      simp only [rightS, Bool.and_eq_true, List.all_eq_true, decide_eq_true_eq] at hr
      have := hr.2 x hx
      omega
    rw [e1]
    refine FSpec.intro tab_ok Try.func41 rfl rfl rfl (by kernel_rfl) (by simp) fun w0 => ?_
    simp only [argTM, Nat.zero_add, Nat.reduceAdd]
    simp only [ink]
    repeat refine IW.seq ?_
    refine IW.region_seq tab_ok [some 1, some 2] rfl fun X K hX hK => ?_
    simp only [go_sem]
    refine hK _ _ ?_; clear hX hK X K
    show IW _ _ _ _ _ _ _ _
    repeat refine IW.seq ?_
    refine IW.region_seq tab_ok [some 7, some 8, some 9] rfl fun X K hX hK => ?_
    simp only [go_sem]
    refine hX.quiet _ _ (OpG.of_B rfl (opB_call rfl rfl (FSpec.nz (fRight w h p hl) (by simp [go_sem, List.map_cons, List.map_nil, List.append_nil, opnd, unc])))) ?_
    simp only [go_sem]
    refine hK _ _ ?_; clear hX hK X K
    show IW _ _ _ _ _ _ _ _
    repeat refine IW.seq ?_
    refine IW.cond rfl (fun hb => ?_) (fun hb => ?_)
    · simp [hr] at hb
    · refine IW.skip ?_
      show IW _ _ _ _ _ _ _ _
      repeat refine IW.seq ?_
      refine IW.region_seq tab_ok [some 3] rfl fun X K hX hK => ?_
      simp only [go_sem]
      refine hK _ _ ?_; clear hX hK X K
      show IW _ _ _ _ _ _ _ _
      repeat refine IW.seq ?_
      refine IW.region_seq tab_ok [some 10, some 11, some 12] rfl fun X K hX hK => ?_
      simp only [go_sem]
      refine hK _ _ ?_; clear hX hK X K
      show IW _ _ _ _ _ _ _ _
      repeat refine IW.seq ?_
      refine IW.block ?_
      have hwh6 : w * h ≤ 640 * 640 := Nat.mul_le_mul (by omega) (by omega)
      refine IW.loop (α := {y : Nat // y ≤ h}) (fun y => [(1, .ptr 0 0 0), (3, .ptr 1 0 0), (11, .int .i64 h), (12, .int .i64 y.1)]) (fun y => [some ⟨3, 33, [[.int .i64 w, .int .i64 h, .sl true (nums .u8 p)]]⟩, some ⟨2, 99, [wbV (shL w p y.1)]⟩, wbR (shL w p y.1)]) (fun y => h - y.1) ⟨0, Nat.zero_le _⟩ ?_ fun ⟨y, hy⟩ => ?_
      · refine Ent.ren [0, 1, 2] rfl (by decide) ?_ ?_ (fun id ri e => by cases e) <;> simp [go_sem, subT, subH, sg, SV.ren, Row.ren, shL_zero, wbV, wbR]
      · simp only []
        repeat refine IW.seq ?_
        refine IW.region_seq tab_ok [some 13] rfl fun X K hX hK => ?_
        simp only [go_sem]
        refine hK _ _ ?_; clear hX hK X K
        show IW _ _ _ _ _ _ _ _
        repeat refine IW.seq ?_
        refine IW.cond rfl (fun hb1 => ?_) (fun hb1 => ?_)
        · simp only [decide_eq_true_eq] at hb1
          have hyh : y < h := by omega
          have hm1 : y * w ≤ h * w := Nat.mul_le_mul_right w hy
          have hm2 : (y + 1) * w ≤ h * w := Nat.mul_le_mul_right w hyh
          have hm0 : (y + 1) * w = y * w + w := Nat.succ_mul y w
          rw [Nat.mul_comm h w] at hm1 hm2
          have e1 : IntKind.i64.wrap ((y : Int) * (w : Int)) = ((y * w : Nat) : Int) := (wrap_eq (by rw [← Int.natCast_mul]; omega) (by rw [← Int.natCast_mul]; omega)).trans (Int.natCast_mul y w).symm
          have e2 : IntKind.i64.wrap ((y : Int) + 1) = ((y + 1 : Nat) : Int) := (wrap_eq (by omega) (by omega)).trans (by omega)
          have e3 : IntKind.i64.wrap (((y + 1 : Nat) : Int) * (w : Int)) = (((y + 1) * w : Nat) : Int) := (wrap_eq (by rw [← Int.natCast_mul]; omega) (by rw [← Int.natCast_mul]; omega)).trans (Int.natCast_mul _ w).symm
          refine IW.skip ?_
          show IW _ _ _ _ _ _ _ _
          refine IW.seq (IW.block ?_)
          repeat refine IW.seq ?_
          refine IW.region_seq tab_ok [some 14, some 4] rfl fun X K hX hK => ?_
          simp only [go_sem]
          refine hK _ _ ?_; clear hX hK X K
          show IW _ _ _ _ _ _ _ _
          repeat refine IW.seq ?_
          refine IW.region_seq tab_ok [some 15, some 16, some 17, some 18, some 19, some 20, some 21, some 22, some 23, some 24, some 25, some 26, some 27, some 28] rfl fun X K hX hK => ?_
          simp only [go_sem, e1, e2, e3]
          refine ⟨⟨by omega, by omega, by omega, fun x hx => nums_w _ _ x hx⟩, ?_⟩
          have e4 : (((((y + 1) * w : Nat) : Int) - ((y * w : Nat) : Int)).toNat) = w := by omega
          have e5 : (List.drop (y * w) (nums .u8 p)).take w = nums .u8 ((p.drop (y * w)).take w) := by simp [nums]
          have e6 : ((p.drop (y * w)).take w).length = w := by rw [List.length_take, List.length_drop]; omega
          have e7 : ∀ x, x < w → ((p.drop (y * w)).take w).getD x 0 = p.getD (y * w + x) 0 := fun x hx => by
            rw [List.getD_eq_getElem?_getD, List.getElem?_take_of_lt hx, List.getElem?_drop, List.getD_eq_getElem?_getD]
          have e8 : ∀ x, x < w → p.getD (y * w + x) 0 = 0 ∨ p.getD (y * w + x) 0 = 1 := fun x hx => hall _ (by
            have : y * w + x < p.length := by omega
            simp [this])
          simp only [e4, e5, nums_length, e6]
          generalize (p.drop (y * w)).take w = q at *
          refine hK _ _ ?_; clear hX hK X K
          show IW _ _ _ _ _ _ _ _
          repeat refine IW.seq ?_
          refine IW.block ?_
          refine IW.loop (α := {x : Nat // x ≤ w}) (fun x => [(1, .ptr 0 0 0), (3, .ptr 1 0 0), (11, .int .i64 h), (12, .int .i64 y), (26, .sl true (nums .u8 q)), (27, .int .i64 w), (28, .int .i64 x.1)]) (fun x => [some ⟨3, 33, [[.int .i64 w, .int .i64 h, .sl true (nums .u8 p)]]⟩, some ⟨2, 99, [wbV (shL w p y ++ shRow w p y x.1)]⟩, wbR (shL w p y ++ shRow w p y x.1)]) (fun x => w - x.1) ⟨0, Nat.zero_le _⟩ ?_ fun ⟨x, hx⟩ => ?_
          · have : shL w p y ++ shRow w p y 0 = shL w p y := by simp [shRow]
            simp only [this]
            cases shL w p y with
            | nil =>
              refine Ent.ren [0, 1, 2] rfl (by decide) ?_ ?_ (fun id ri e => by cases e) <;> simp [go_sem, subT, subH, sg, SV.ren, Row.ren, wbV, wbR]
            | cons b r =>
              refine Ent.ren [0, 1, 2] rfl (by decide) ?_ ?_ (fun id ri e => by cases e) <;> simp [go_sem, subT, subH, sg, SV.ren, Row.ren, wbV, wbR, nums_ren]
          · simp only []
            repeat refine IW.seq ?_
            refine IW.region_seq tab_ok [some 29] rfl fun X K hX hK => ?_
            simp only [go_sem]
            refine hK _ _ ?_; clear hX hK X K
            show IW _ _ _ _ _ _ _ _
            repeat refine IW.seq ?_
            refine IW.cond rfl (fun hb2 => ?_) (fun hb2 => ?_)
            · simp only [decide_eq_true_eq] at hb2
              have hxw : x < w := by omega
              refine IW.skip ?_
              show IW _ _ _ _ _ _ _ _
              refine IW.seq (IW.block ?_)
              have hbl : (shL w p y ++ shRow w p y x).length ≤ 1000000 := by
                rw [List.length_append, shL_length, shRow_length]
                have : y * (w + 1) = y * w + y := Nat.mul_succ y w
                omega
              obtain ⟨c, hc⟩ : ∃ c : Int, c = if p.getD (y * w + x) 0 = 0 then 46 else 35 := ⟨_, rfl⟩
              rcases e8 x hxw with hv | hv
              have hcc : c = 46 := by rw [hc, hv]; rfl
              rotate_left
              have hcc : c = 35 := by rw [hc, hv]; rfl
              all_goals
                repeat refine IW.seq ?_
                refine IW.region_seq tab_ok [some 30, some 31, some 6] rfl fun X K hX hK => ?_
                simp only [go_sem, nums_at (show x < q.length by omega), e7 x hxw, hv]
                refine ⟨⟨by omega, by omega⟩, ?_⟩
                refine hK _ _ ?_; clear hX hK X K
                show IW _ _ _ _ _ _ _ _
                repeat refine IW.seq ?_
                refine IW.region_seq tab_ok [some 32, some 33, some 34, some 35] rfl fun X K hX hK => ?_
                simp only [go_sem]
                refine hX.quiet _ _ (OpG.of_B rfl (opB_buildArr tab_ok (n := 2) (e := 5) rfl rfl [(0, 1, false), (1, 1, false)] (by intro i hi; match i, hi with | 0, _ => exact ⟨rfl, rfl⟩ | 1, _ => exact ⟨rfl, rfl⟩) (by simp [go_sem]))) ?_
                simp only [go_sem]
                refine ⟨by decide, ?_⟩
                try simp only [Nat.zero_mul, Nat.one_mul, List.getD_cons_zero, List.getD_cons_succ]
                refine hX.op _ _ rfl (opS_byte (c := c) (by simp [go_sem]) (by simp [go_sem, hcc]) hbl (by intro d e; cases e; decide)) ?_
                simp only [go_sem]
                refine hK _ _ ?_; clear hX hK X K
                show IW _ _ _ _ _ _ _ _
                repeat refine IW.seq ?_
                refine IW.region_seq tab_ok [some 36, some 28] rfl fun X K hX hK => ?_
                simp only [go_sem, succ_wrap hxw (Nat.le_trans (Nat.le_of_lt_succ (show w < 641 by omega)) (by decide))]
                refine hK _ _ ⟨⟨x + 1, hxw⟩, by simp only []; omega, ?_⟩
                simp only [shRow_succ, ← hc, ← List.append_assoc, wbV_snoc, wbR_snoc]
                refine Ent.ren [0, 1, 3] rfl (by decide) ?_ ?_ (fun id ri e => by cases e) <;> simp [go_sem, subT, subH, sg, SV.ren, Row.ren, nums_ren, shL_length, shRow_length]
            · refine IW.exit ?_
              show IW _ _ _ _ _ _ _ _
              simp only [decide_eq_false_iff_not] at hb2
              obtain rfl : x = w := by omega
              have hbl : (shL x p y ++ shRow x p y x).length ≤ 1000000 := by
                rw [List.length_append, shL_length, shRow_length]
                have : y * (x + 1) = y * x + y := Nat.mul_succ y x
                omega
              repeat refine IW.seq ?_
              refine IW.region_seq tab_ok [some 37] rfl fun X K hX hK => ?_
              simp only [go_sem]
              refine hX.op _ _ rfl (opS_byte (c := 10) (by simp [go_sem]) (by simp [go_sem]) hbl (by intro d e; cases e; decide)) ?_
              simp only [go_sem]
              refine hK _ _ ?_; clear hX hK X K
              show IW _ _ _ _ _ _ _ _
              repeat refine IW.seq ?_
              refine IW.region_seq tab_ok [some 38, some 12] rfl fun X K hX hK => ?_
              simp only [go_sem, succ_wrap hyh (Nat.le_trans (Nat.le_of_lt_succ (show h < 641 by omega)) (by decide))]
              refine hK _ _ ⟨⟨y + 1, hyh⟩, by simp only []; omega, ?_⟩
              simp only [shL_succ, wbV_snoc, wbR_snoc]
              refine Ent.ren [0, 1, 3] rfl (by decide) ?_ ?_ (fun id ri e => by cases e) <;> simp [go_sem, subT, subH, sg, SV.ren, Row.ren, nums_ren, shL_length, shRow_length]
        · refine IW.exit ?_
          show IW _ _ _ _ _ _ _ _
          simp only [decide_eq_false_iff_not] at hb1
          obtain rfl : y = h := by omega
          have hbl : (shL w p y).length ≤ 1000000 := by
            rw [shL_length]
            have : y * (w + 1) = y * w + y := Nat.mul_succ y w
            rw [Nat.mul_comm w y] at hwh6
            omega
          repeat refine IW.seq ?_
          refine IW.region_seq tab_ok [some 39, some 2] rfl fun X K hX hK => ?_
          simp only [go_sem]
          refine hX.op _ _ rfl (opS_text (by simp [go_sem]) hbl (shL_bytes w p y) (by intro d e; cases e; decide)) ?_
          simp only [go_sem]
          refine hK _ _ ?_; clear hX hK X K
          show IW _ _ _ _ _ _ _ _
          refine IW.ret (Fin.scal rfl rfl ?_)
          rfl
end Go.Proofs.Ytnbpbehlemaeoaa

set_option linter.unusedVariables false
set_option linter.unusedSimpArgs false
set_option maxRecDepth 10000
namespace Go.Proofs.Ytnbpbehlemaeoaa
open Go.IL
def okB (w h : Nat) (d : List (Int × List ByteArray)) : Bool := d.all fun e => e.2.length == h && (List.range h).all fun i => (e.2.getD i default).size == w
theorem okD_of {w h : Nat} {d : List (Int × List ByteArray)} (hk : okB w h d = true) : okD w h d := fun e he => by
  have h1 := List.all_eq_true.1 hk e he
  simp only [Bool.and_eq_true, beq_iff_eq, List.all_eq_true, List.mem_range] at h1
  exact h1
theorem ok1 : okD 6 5 drw1 := okD_of (by kernel_rfl)
theorem ok2 : okD 4 5 drw2 := okD_of (by kernel_rfl)
theorem ok7 : okD 4 5 drw7 := okD_of (by kernel_rfl)
theorem fGl {s v : Int} {w h : Nat} {d : List (Int × List ByteArray)} (hd : drw s = some d) (hok : okD w h d) (h0 : 0 < h) (hb1 : h ≤ 640) (hb2 : w ≤ 640) (hv : (d.lookup v).isSome = true) :
    FSpec Try.prog 18 [.int .i64 s, .int .i64 v] (.tup [resI w h (gP d v), .int .i64 0]) (resR (gP d v)) := by
  have := fGlyph s v w h d (fDrw hd) hok h0 hb1 hb2
  obtain ⟨r, hr⟩ := Option.isSome_iff_exists.1 hv
  simp only [gW, gE, hr] at this
  exact this
def img21 : List Int := gP drw2 1
def img22 : List Int := gP drw2 2
def img11 : List Int := gP drw1 1
def img76 : List Int := gP drw7 6
def img78 : List Int := gP drw7 8
theorem g21 : FSpec Try.prog 18 [.int .i64 2, .int .i64 1] (.tup [resI 4 5 img21, .int .i64 0]) (resR img21) := fGl (w := 4) (h := 5) rfl ok2 (by decide) (by decide) (by decide) (by kernel_rfl)
theorem g22 : FSpec Try.prog 18 [.int .i64 2, .int .i64 2] (.tup [resI 4 5 img22, .int .i64 0]) (resR img22) := fGl (w := 4) (h := 5) rfl ok2 (by decide) (by decide) (by decide) (by kernel_rfl)
theorem g11 : FSpec Try.prog 18 [.int .i64 1, .int .i64 1] (.tup [resI 6 5 img11, .int .i64 0]) (resR img11) := fGl (w := 6) (h := 5) rfl ok1 (by decide) (by decide) (by decide) (by kernel_rfl)
theorem g76 : FSpec Try.prog 18 [.int .i64 7, .int .i64 6] (.tup [resI 4 5 img76, .int .i64 0]) (resR img76) := fGl (w := 4) (h := 5) rfl ok7 (by decide) (by decide) (by decide) (by kernel_rfl)
theorem g78 : FSpec Try.prog 18 [.int .i64 7, .int .i64 8] (.tup [resI 4 5 img78, .int .i64 0]) (resR img78) := fGl (w := 4) (h := 5) rfl ok7 (by decide) (by decide) (by decide) (by kernel_rfl)
theorem l21 : img21.length = 20 := by kernel_rfl
theorem l22 : img22.length = 20 := by kernel_rfl
theorem l11 : img11.length = 30 := by kernel_rfl
theorem l76 : img76.length = 20 := by kernel_rfl
theorem l78 : img78.length = 20 := by kernel_rfl
def drs21 : List Int := drsF 4 5 img21 [2]
def drs22 : List Int := drsF 4 5 img22 [2]
theorem d21 : FSpec Try.prog 31 [ink 4 5 img21, .sl true (nums .i64 [2])] (resI 4 5 drs21) (resR drs21) := fDress 4 5 img21 [2] (by rw [l21]; decide) (by decide)
theorem d22 : FSpec Try.prog 31 [ink 4 5 img22, .sl true (nums .i64 [2])] (resI 4 5 drs22) (resR drs22) := fDress 4 5 img22 [2] (by rw [l22]; decide) (by decide)
theorem all0 {l : List Int} (h : (l.all fun x => decide (0 ≤ x)) = true) : ∀ x ∈ l, 0 ≤ x := fun x hx => by simpa using List.all_eq_true.1 h x hx
theorem sh21 : showF 4 5 drs21 = ⟨#[46, 35, 46, 35, 10, 35, 35, 35, 35, 10, 35, 35, 35, 35, 10, 35, 35, 35, 35, 10, 46, 35, 46, 35, 10]⟩ := by kernel_rfl
theorem sh22 : showF 4 5 drs22 = ⟨#[35, 46, 46, 46, 10, 35, 46, 46, 46, 10, 35, 46, 35, 46, 10, 35, 46, 35, 46, 10, 35, 35, 46, 46, 10]⟩ := by kernel_rfl
theorem w21 : FSpec Try.prog 41 [ink 4 5 drs21] (.str ⟨#[46, 35, 46, 35, 10, 35, 35, 35, 35, 10, 35, 35, 35, 35, 10, 35, 35, 35, 35, 10, 46, 35, 46, 35, 10]⟩) [] := by
  have := fShow 4 5 drs21 (by rw [show drs21.length = 20 by kernel_rfl]; decide) (all0 (by kernel_rfl))
  rw [sh21] at this; exact this
theorem w22 : FSpec Try.prog 41 [ink 4 5 drs22] (.str ⟨#[35, 46, 46, 46, 10, 35, 46, 46, 46, 10, 35, 46, 35, 46, 10, 35, 46, 35, 46, 10, 35, 35, 46, 46, 10]⟩) [] := by
  have := fShow 4 5 drs22 (by rw [show drs22.length = 20 by kernel_rfl]; decide) (all0 (by kernel_rfl))
  rw [sh22] at this; exact this
instance (p q : Int × Int) : Decidable (lex p q) := by unfold lex; infer_instance
theorem ol11 : optL 6 5 drw1 false [] 6 5 img11 3 = [(0, 26), (1, 0), (2, 12), (3, 6)] := by kernel_rfl
theorem of11 : optF 6 5 drw1 false [] 6 5 img11 = [(1, 0), (3, 6), (2, 12), (0, 26)] := by
  have hr : rightS 6 5 img11 = true := by kernel_rfl
  have h1 : optF 6 5 drw1 false [] 6 5 img11 = optS (optL 6 5 drw1 false [] 6 5 img11 3) := by
    have : rightS ((6 : Nat) : Int) ((5 : Nat) : Int) img11 = true ∧ (6 : Nat) ≠ 0 ∧ (6 : Int) = ((6 : Nat) : Int) ∧ (5 : Int) = ((5 : Nat) : Int) := ⟨hr, by decide, rfl, rfl⟩
    exact if_pos this
  rw [h1, ol11]
  exact (srt_unique (l := [(0, 26), (1, 0), (2, 12), (3, 6)]) ⟨by decide, by decide⟩ (srt_opt (by decide))).symm
theorem o11 : FSpec Try.prog 28 [ink 6 5 img11, .int .i64 1, .sl true (nums .i64 []), .bool false] (.ref 0 0 4) [⟨2, 70, prs [(1, 0), (3, 6), (2, 12), (0, 26)]⟩] := by
  have := fOptions 1 6 5 drw1 (fDrw rfl) ok1 (by decide) (by decide) (by decide) (by decide) (by decide) (by decide) (by decide) false [] 6 5 img11 (by rw [l11]; decide) (by decide)
  rw [of11] at this
  exact this
theorem r7 : ratS (missS 4 5 img76 4 5 img78) img76.length = (9, 10) := by kernel_rfl
theorem s7 : FSpec Try.prog 25 [ink 4 5 img76, ink 4 5 img78] (ratV (9, 10)) [] := by
  have := fShare 4 5 img76 4 5 img78 (by rw [l76]; decide) (by rw [l78]; decide)
  rw [r7] at this
  exact this
theorem rei_two {n : Nat} {h : Heap} {id : Nat} (hr : hrow h id = some ⟨1, 3, [[.int .i64 2]]⟩) : rei (n + 1 + 1) h (.ref id 0 1) = .sl true (nums .i64 [2]) := by
  simp [rei, rowXs, hr, nums]
theorem rei_opt {n : Nat} {h : Heap} {id : Nat} (hr : hrow h id = some ⟨2, 70, prs [(1, 0), (3, 6), (2, 12), (0, 26)]⟩) : rei (n + 1 + 1) h (.ref id 0 4) = .sl true (prs [(1, 0), (3, 6), (2, 12), (0, 26)]) := by
  simp [rei, rowXs, hr, prs]
theorem rei_opt2 {n : Nat} {h : Heap} {id : Nat} (hr : hrow h id = some ⟨2, 70, [[.int .i64 1, .int .i64 0], [.int .i64 3, .int .i64 6], [.int .i64 2, .int .i64 12], [.int .i64 0, .int .i64 26]]⟩) : rei (n + 1 + 1) h (.ref id 0 4) = .sl true (prs [(1, 0), (3, 6), (2, 12), (0, 26)]) := by
  simp [rei, rowXs, hr, prs]
theorem nz_sl (o : Bool) (xs : List (List SV)) : nz (.sl o xs) = .sl o xs := rfl
set_option maxHeartbeats 2000000 in
theorem fAwake : FSpec Try.prog 21 [] (.bool true) [] := by
  refine FSpec.intro tab_ok Try.func21 rfl rfl rfl (by kernel_rfl) (by simp) fun w0 => ?_
  simp only [argTM, Nat.zero_add, Nat.reduceAdd]
  repeat refine IW.seq ?_
  refine IW.region_seq tab_ok [some 0] rfl fun X K hX hK => ?_
  simp only [go_sem]
  refine hK _ _ ?_; clear hX hK X K
  show IW _ _ _ _ _ _ _ _
  repeat refine IW.seq ?_
  refine IW.region_seq tab_ok [some 13, some 12, some 14, some 15, some 1, none, some 2] rfl fun X K hX hK => ?_
  simp only [go_sem]
  refine hX.quiet _ _ (OpG.of_B rfl (opB_call rfl rfl (FSpec.nz (g21) (by simp [go_sem, List.map_cons, List.map_nil, List.append_nil, opnd, unc, resI, resR])))) ?_
  simp only [go_sem, resI, resR]
  refine hX.op _ _ rfl (opS_store tab_ok rfl (by simp [go_sem]) (by simp [go_sem]) (by simp [go_sem]) (by simp [go_sem]) (by simp [go_sem]) (by simp [go_sem])) ?_
  simp only [go_sem]
  refine hK _ _ ?_; clear hX hK X K
  show IW _ _ _ _ _ _ _ _
  repeat refine IW.seq ?_
  refine IW.region_seq tab_ok [some 17, some 16, some 18, some 19, some 3, none, some 4] rfl fun X K hX hK => ?_
  simp only [go_sem]
  refine hX.quiet _ _ (OpG.of_B rfl (opB_call rfl rfl (FSpec.nz (g22) (by simp [go_sem, List.map_cons, List.map_nil, List.append_nil, opnd, unc, resI, resR])))) ?_
  simp only [go_sem, resI, resR]
  refine hX.op _ _ rfl (opS_store tab_ok rfl (by simp [go_sem]) (by simp [go_sem]) (by simp [go_sem]) (by simp [go_sem]) (by simp [go_sem]) (by simp [go_sem])) ?_
  simp only [go_sem]
  refine hK _ _ ?_; clear hX hK X K
  show IW _ _ _ _ _ _ _ _
  repeat refine IW.seq ?_
  refine IW.region_seq tab_ok [some 21, some 20, some 22, some 23, some 5, none, some 6] rfl fun X K hX hK => ?_
  simp only [go_sem]
  refine hX.quiet _ _ (OpG.of_B rfl (opB_call rfl rfl (FSpec.nz (g11) (by simp [go_sem, List.map_cons, List.map_nil, List.append_nil, opnd, unc, resI, resR])))) ?_
  simp only [go_sem, resI, resR]
  refine hX.op _ _ rfl (opS_store tab_ok rfl (by simp [go_sem]) (by simp [go_sem]) (by simp [go_sem]) (by simp [go_sem]) (by simp [go_sem]) (by simp [go_sem])) ?_
  simp only [go_sem]
  refine hK _ _ ?_; clear hX hK X K
  show IW _ _ _ _ _ _ _ _
  repeat refine IW.seq ?_
  refine IW.region_seq tab_ok [some 25, some 24, some 26, some 27, some 7, none, some 8] rfl fun X K hX hK => ?_
  simp only [go_sem]
  refine hX.quiet _ _ (OpG.of_B rfl (opB_call rfl rfl (FSpec.nz (g76) (by simp [go_sem, List.map_cons, List.map_nil, List.append_nil, opnd, unc, resI, resR])))) ?_
  simp only [go_sem, resI, resR]
  refine hX.op _ _ rfl (opS_store tab_ok rfl (by simp [go_sem]) (by simp [go_sem]) (by simp [go_sem]) (by simp [go_sem]) (by simp [go_sem]) (by simp [go_sem])) ?_
  simp only [go_sem]
  refine hK _ _ ?_; clear hX hK X K
  show IW _ _ _ _ _ _ _ _
  repeat refine IW.seq ?_
  refine IW.region_seq tab_ok [some 29, some 28, some 30, some 31, some 9, none, some 10] rfl fun X K hX hK => ?_
  simp only [go_sem]
  refine hX.quiet _ _ (OpG.of_B rfl (opB_call rfl rfl (FSpec.nz (g78) (by simp [go_sem, List.map_cons, List.map_nil, List.append_nil, opnd, unc, resI, resR])))) ?_
  simp only [go_sem, resI, resR]
  refine hX.op _ _ rfl (opS_store tab_ok rfl (by simp [go_sem]) (by simp [go_sem]) (by simp [go_sem]) (by simp [go_sem]) (by simp [go_sem]) (by simp [go_sem])) ?_
  simp only [go_sem]
  refine hK _ _ ?_; clear hX hK X K
  show IW _ _ _ _ _ _ _ _
  repeat refine IW.seq ?_
  refine IW.region_seq tab_ok [some 32, some 33, some 11] rfl fun X K hX hK => ?_
  simp only [go_sem]
  refine hX.quiet _ _ (OpG.of_B rfl (opB_call rfl rfl (FSpec.nz (o11) (by simp [go_sem, List.map_cons, List.map_nil, List.append_nil, opnd, unc])))) ?_
  simp only [go_sem]
  refine hK _ _ ?_; clear hX hK X K
  show IW _ _ _ _ _ _ _ _
  repeat refine IW.seq ?_
  refine IW.region_seq tab_ok [some 34, some 35, some 36, some 37, some 38, some 39, some 40, some 41, some 42, some 43, some 44, some 45, some 46, some 47, some 48, some 49, some 50, some 51, some 52, some 53, some 54, some 55, some 56, some 57, some 58, some 59, some 60, some 61, some 62, some 63, some 64, some 65, some 66, some 67, some 68, some 69, some 70, some 71, some 72, some 73, some 74, some 75, some 76, some 77, some 78, some 79, some 80, some 81, some 0] rfl fun X K hX hK => ?_
  simp only [go_sem, beq_self_eq_true]
  refine hX.quiet _ _ (OpG.of_BG rfl rfl rfl (by first | (simp only [go_sem]; done) | (simp [go_sem] <;> (intros; simp_all))) fun hc => opB_buildSlice tab_ok rfl (by simp [go_sem]) (by simp [go_sem]) (by simp) (by simp [go_sem, bsO, List.map_cons, List.map_nil, unc])) ?_
  simp only [go_sem, List.map_cons, List.map_nil]
  refine hX.quiet _ _ (OpG.of_BG rfl rfl rfl (by first | (simp only [go_sem]; done) | (simp [go_sem] <;> (intros; simp_all))) fun hc => opB_call rfl rfl (FSpec.nz (d21) (by simp [go_sem, List.map_cons, List.map_nil, List.append_nil, opnd, unc, resI, resR, rei_two, nz_sl]))) ?_
  simp only [go_sem, resI, resR, rei_two, nz_sl]
  refine hX.quiet _ _ (OpG.of_BG rfl rfl rfl (by first | (simp only [go_sem]; done) | (simp [go_sem] <;> (intros; simp_all))) fun hc => opB_call rfl rfl (FSpec.nz (w21) (by simp [go_sem, List.map_cons, List.map_nil, List.append_nil, opnd, unc, beq_self_eq_true]))) ?_
  simp only [go_sem, beq_self_eq_true]
  refine hX.quiet _ _ (OpG.of_BG rfl rfl rfl (by first | (simp only [go_sem]; done) | (simp [go_sem] <;> (intros; simp_all))) fun hc => opB_buildSlice tab_ok rfl (by simp [go_sem]) (by simp [go_sem]) (by simp) (by simp [go_sem, bsO, List.map_cons, List.map_nil, unc])) ?_
  simp only [go_sem, List.map_cons, List.map_nil]
  refine hX.quiet _ _ (OpG.of_BG rfl rfl rfl (by first | (simp only [go_sem]; done) | (simp [go_sem] <;> (intros; simp_all))) fun hc => opB_call rfl rfl (FSpec.nz (d22) (by simp [go_sem, List.map_cons, List.map_nil, List.append_nil, opnd, unc, resI, resR, rei_two, nz_sl]))) ?_
  simp only [go_sem, resI, resR, rei_two, nz_sl]
  refine hX.quiet _ _ (OpG.of_BG rfl rfl rfl (by first | (simp only [go_sem]; done) | (simp [go_sem] <;> (intros; simp_all))) fun hc => opB_call rfl rfl (FSpec.nz (w22) (by simp [go_sem, List.map_cons, List.map_nil, List.append_nil, opnd, unc, beq_self_eq_true]))) ?_
  simp only [go_sem, beq_self_eq_true]
  refine hX.quiet _ _ (OpG.of_BG rfl rfl rfl (by first | (simp only [go_sem]; done) | (simp [go_sem] <;> (intros; simp_all))) fun hc => opB_buildSlice tab_ok rfl (by simp [go_sem]) (by simp [go_sem]) (by simp) (by simp [go_sem, bsO, List.map_cons, List.map_nil, unc])) ?_
  simp only [go_sem, List.map_cons, List.map_nil]
  refine hX.quiet _ _ (OpG.of_BG rfl rfl rfl (by first | (simp only [go_sem]; done) | (simp [go_sem] <;> (intros; simp_all))) fun hc => opB_call rfl rfl (FSpec.nz (kSameOptions [(1, 0), (3, 6), (2, 12), (0, 26)] [(1, 0), (3, 6), (2, 12), (0, 26)] (by decide) (by decide)) (by simp [go_sem, List.map_cons, List.map_nil, List.append_nil, opnd, unc, rei_opt, rei_opt2, nz_sl, decide_true]))) ?_
  simp only [go_sem, rei_opt, rei_opt2, nz_sl, decide_true]
  refine hX.quiet _ _ (OpG.of_BG rfl rfl rfl (by first | (simp only [go_sem]; done) | (simp [go_sem] <;> (intros; simp_all))) fun hc => opB_call rfl rfl (FSpec.nz (s7) (by simp [go_sem, List.map_cons, List.map_nil, List.append_nil, opnd, unc]))) ?_
  simp only [go_sem]
  refine hX.quiet _ _ (OpG.of_BG rfl rfl rfl (by first | (simp only [go_sem]; done) | (simp [go_sem] <;> (intros; simp_all))) fun hc => opB_eqAgg eqTy44 rfl rfl rfl rfl rfl) ?_
  simp only [go_sem]
  simp only [beq_self_eq_true, Bool.and_self]
  refine hK _ _ ?_; clear hX hK X K
  show IW _ _ _ _ _ _ _ _
  refine IW.ret (Fin.scal rfl rfl ?_)
  rfl
end Go.Proofs.Ytnbpbehlemaeoaa

set_option linter.unusedVariables false
set_option linter.unusedSimpArgs false
set_option maxRecDepth 10000
namespace Go.Proofs.Ytnbpbehlemaeoaa
open Go.IL
open Go.ChangeShapes Go.WideShapes Go.ChangeAt Go.RowKit Go.Joins
theorem u33 : ∃ f0 f1 f2 : Field, Try.prog.underlying 33 = some (.struct #[f0, f1, f2]) ∧ Go.Deep.oneCellFields Try.prog #[f0, f1, f2] = true ∧ f0.type = 3 ∧ f1.type = 3 ∧ f2.type = 31 := by
  refine ⟨_, _, _, by rfl, ?_, ?_, ?_, ?_⟩
  · rfl
  · rfl
  · rfl
  · rfl
theorem uint3 : Try.prog.underlying 3 = some (.int .i64) := by kernel_rfl
theorem u5 : Try.prog.underlying 5 = some (.int .u8) := by kernel_rfl
theorem u31 : Try.prog.underlying 31 = some (.slice 5) := by kernel_rfl
theorem u4 : Try.prog.underlying 4 = some .bool := by kernel_rfl
theorem c33 : Try.prog.cellsOf 33 = 3 := by kernel_rfl
theorem cellq_lt {w : World} {a : Addr} {v : Value} (h : w.cell? a = some v) : a.block < w.heap.size := by
  unfold World.cell? at h
  rcases Nat.lt_or_ge a.block w.heap.size with h1 | h1
  · exact h1
  · simp [h1] at h
/-- A slice of numbers that came in. -/
theorem ints_arg {w : World} {k : IntKind} {a : Addr} {len cap : Nat} {zs : List Int} (hl : len ≤ cap) (hm : cap ≤ maxLen) (hz : zs.length = cap) (hcell : ∀ i, i < zs.length → w.cell? (a.add i) = some (.int k (zs.getD i 0))) :
    VRel (fun _ => none) (fun b => b < w.heap.size) (fun _ => False) w (.sl true (nums k (zs.take len))) (.slice (some a) len cap) := by
  have hlen : (nums k (zs.take len)).length = len := by rw [nums_length, List.length_take]; omega
  have hmm : cap ≤ 9223372036854775807 := by unfold maxLen at hm; omega
  have key := VRel.sl (ρ := fun _ => none) (O := fun b => b < w.heap.size) (F := fun _ => False) (w := w) true (nums k (zs.take len)) (some a) cap 1 (fun i j => .int k (zs.getD i 0)) (nums_w k _) (by omega) hmm
  rw [hlen] at key
  refine key (fun hp => ?_) fun i j x y h1 h2 => ?_
  · have h0 := hcell 0 (by omega)
    obtain ⟨b, off, spot⟩ := a
    have hs : spot = none := by simpa [Addr.add] using World.cell?_spot h0
    subst hs
    refine ⟨b, off, rfl, .inr ⟨rfl, by simpa [Addr.add] using cellq_lt h0⟩, fun i j hi hj => ?_⟩
    have h1 := hcell i (by omega)
    obtain rfl : j = 0 := by omega
    rw [addr_add] at h1
    simpa using h1
  · simp only [nums, List.getElem?_map] at h1
    cases hx : (zs.take len)[i]? with
    | none => rw [hx] at h1; cases h1
    | some z =>
      rw [hx] at h1
      cases h1
      have hj : j = 0 := by
        cases j with
        | zero => rfl
        | succ j => simp at h2
      subst hj
      cases h2
      have : zs.getD i 0 = z := by
        rw [List.getElem?_take] at hx
        split at hx
        · rw [List.getD_eq_getElem?_getD, hx]; rfl
        · cases hx
      rw [this]
      exact .int _ _
theorem trodAt {H : Type} {enc : TypeId × Value → H} {P : Program} {w : World} {base : Nat} {spare : Nat → Bool} {held : Bool} {n t t' : Nat} {cs : List Value} {x : DataW H × List MemPlace} (h : DataW.trod enc P w base spare held n t cs = some x) (e : t = t') : DataW.trod enc P w base spare held n t' cs = some x := e ▸ h
theorem bytes_of {n : Int} (h : (Lit.int .u8 n).wf = true) : 0 ≤ n ∧ n < 256 := by
  simp [Lit.wf, IntKind.min, IntKind.max, IntKind.signed, IntKind.bits] at h
  omega
/-- An image that came in. -/
theorem ink_arg {H : Type} {enc : TypeId × Value → H} {w : World} {base : Nat} {v : Value} {d : DataW H} {p : List MemPlace} (hv : Value.okWide Try.prog w .any base 33 v) (h : DataW.Trod enc Try.prog w 0 (fun _ => true) true 33 v d p) :
    ∃ (W H : Int) (q : List Int), VRel (fun _ => none) (fun b => b < w.heap.size) (fun _ => False) w (ink W H q) v ∧ ∀ x ∈ q, 0 ≤ x ∧ x < 256 := by
  obtain ⟨f0, f1, f2, hu, hone, t0, t1, t2⟩ := u33
  obtain ⟨c0, c1, c2, y0, y1, y2, m, rfl, rfl, rfl, hy0, hy1, hy2⟩ := open_agg3 hu hone c33 hv h
  obtain ⟨x, e0, -, wx⟩ := DataW.trod_int uint3 (trodAt hy0 t0)
  obtain ⟨y, e1, -, wy⟩ := DataW.trod_int uint3 (trodAt hy1 t1)
  simp only [List.cons.injEq, and_true] at e0 e1
  subst e0 e1
  have mk : ∀ (q : List Int), VRel (fun _ => none) (fun b => b < w.heap.size) (fun _ => False) w (.sl true (nums .u8 q)) c2 → VRel (fun _ => none) (fun b => b < w.heap.size) (fun _ => False) w (ink x y q) (.agg #[.int .i64 x, .int .i64 y, c2]) := fun q hq =>
    .agg _ _ rfl fun i c v h1 h2 => by
      match i with
      | 0 => cases h1; cases h2; exact .int _ _
      | 1 => cases h1; cases h2; exact .int _ _
      | 2 => cases h1; cases h2; exact hq
      | i + 3 => simp at h1
  rcases open_ints u31 u5 c5 (trodAt hy2 t2) with ⟨hcs, _⟩ | ⟨a, len, cap, zs, hcs, _, hl, hm, hz, _, hcell, hwz⟩
  · simp only [List.cons.injEq, and_true] at hcs
    subst hcs
    exact ⟨x, y, [], mk [] (nz_rel (s := .nils) .nils), by simp⟩
  · simp only [List.cons.injEq, and_true] at hcs
    subst hcs
    exact ⟨x, y, zs.take len, mk _ (ints_arg hl hm (by simpa using hz) hcell), fun z hz => bytes_of (hwz z (List.mem_of_mem_take hz))⟩
end Go.Proofs.Ytnbpbehlemaeoaa

set_option linter.unusedVariables false
set_option linter.unusedSimpArgs false
set_option maxRecDepth 10000
namespace Go.Proofs.Ytnbpbehlemaeoaa
open Go.IL
theorem refAtG (W H : Nat) (x y : Int) (p : List Int) (hp : p.length = W * H) (hl : p.length ≤ 1000000) : FSpec Try.prog 68 [ink W H p, .int .i64 x, .int .i64 y] (.int .u8 (atF W H p x y)) [] := by
  refine FSpec.intro tab_ok Try.func68 rfl rfl rfl (by kernel_rfl) (by simp) fun w0 => ?_
  simp only [argTM, Nat.zero_add, Nat.reduceAdd]
  simp only [ink]
  repeat refine IW.seq ?_
  refine IW.region_seq tab_ok [some 3, some 6] rfl fun X K hX hK => ?_
  simp only [go_sem]
  refine hK _ _ ?_; clear hX hK X K
  show IW _ _ _ _ _ _ _ _
  repeat refine IW.seq ?_
  refine IW.region_seq tab_ok [some 7, some 8, some 9, some 10, some 11, some 12, some 13, some 14, some 15, some 16, some 17, some 18, some 19, some 20, some 21, some 22, some 23, some 24] rfl fun X K hX hK => ?_
  simp only [go_sem]
  refine hK _ _ ?_; clear hX hK X K
  show IW _ _ _ _ _ _ _ _
  repeat refine IW.seq ?_
  refine IW.cond rfl (fun hb => ?_) (fun hb => ?_)
  · repeat refine IW.seq ?_
    refine IW.region_seq tab_ok [some 6] rfl fun X K hX hK => ?_
    simp only [go_sem]
    refine hK _ _ ?_; clear hX hK X K
    show IW _ _ _ _ _ _ _ _
    refine IW.ret (Fin.scal rfl rfl ?_)
    simp only [Bool.or_eq_true, decide_eq_true_eq] at hb
    show SV.int .u8 0 = SV.int .u8 _
    rw [atF, if_pos (by omega)]
  · refine IW.skip ?_
    show IW _ _ _ _ _ _ _ _
    simp only [Bool.or_eq_false_iff, decide_eq_false_iff_not] at hb
    obtain ⟨x, rfl⟩ : ∃ n : Nat, x = n := ⟨x.toNat, by omega⟩
    obtain ⟨y, rfl⟩ : ∃ n : Nat, y = n := ⟨y.toNat, by omega⟩
    have hlt : y * W + x < p.length := by
      have : (y + 1) * W ≤ H * W := Nat.mul_le_mul_right _ (by omega)
      rw [Nat.add_mul] at this; rw [hp, Nat.mul_comm W H]; omega
    have e1 : IntKind.i64.wrap ((y : Int) * (W : Int)) = ((y * W : Nat) : Int) := by
      rw [← Int.natCast_mul]; exact wrap_eq (by omega) (by omega)
    have e2 : IntKind.i64.wrap (((y * W : Nat) : Int) + (x : Int)) = ((y * W + x : Nat) : Int) := (wrap_eq (by omega) (by omega)).trans (by omega)
    repeat refine IW.seq ?_
    refine IW.region_seq tab_ok [some 25, some 26, some 27, some 28, some 29, some 30, some 31, some 32, some 33, some 34, some 6] rfl fun X K hX hK => ?_
    simp only [go_sem, e1, e2, nums_at hlt]
    refine ⟨⟨by omega, by omega⟩, ?_⟩
    refine hK _ _ ?_; clear hX hK X K
    show IW _ _ _ _ _ _ _ _
    refine IW.ret (Fin.scal rfl rfl ?_)
    show SV.int .u8 _ = SV.int .u8 _
    rw [atF, if_neg (by omega)]
    simp only [Int.toNat_natCast]
/-- The reference's dressing, pixel by pixel. -/
def rdF (w h : Nat) (q l : List Int) (t : Nat) : Int := if hasS l ((t / w : Nat) : Int) && (atF w h q ((t % w : Nat) : Int) (((t / w : Nat) : Int) - 1) == 0) && (atF w h q ((t % w : Nat) : Int) (((t / w : Nat) : Int) + 1) == 0) then 0 else q.getD t 0
theorem refDress0 (w h : Nat) (p l q : List Int) (hr : rightS w h p = true) (hq : q.length = p.length) (hl : p.length ≤ 1000000) (hll : l.length ≤ 1000000)
    (hs : FSpec Try.prog 37 [ink w h p, .sl true (nums .i64 l)] (resI w h q) (resR q)) : FSpec Try.prog 38 [ink w h p, .sl true (nums .i64 l)] (.agg [.int .i64 w, .int .i64 h, .ref 0 0 p.length]) (resR (rm p.length (rdF w h q l))) := by
  obtain ⟨hlen, h0, h1, h2, h3⟩ := right_len hr
  have hlen' : p.length = w * h := by exact_mod_cast hlen
  have hql : q.length ≤ 1000000 := by omega
  have hqw : q.length = w * h := by omega
  refine FSpec.intro tab_ok Try.func38 rfl rfl rfl (by kernel_rfl) (by simp) fun w0 => ?_
  simp only [argTM, Nat.zero_add, Nat.reduceAdd]
  simp only [ink]
  repeat refine IW.seq ?_
  refine IW.region_seq tab_ok [some 2, some 4] rfl fun X K hX hK => ?_
  simp only [go_sem]
  refine hK _ _ ?_; clear hX hK X K
  show IW _ _ _ _ _ _ _ _
  repeat refine IW.seq ?_
  refine IW.region_seq tab_ok [some 9, some 10, some 11] rfl fun X K hX hK => ?_
  simp only [go_sem]
  refine hX.quiet _ _ (OpG.of_B rfl (opB_call rfl rfl (FSpec.nz (refRight w h p hl) (by simp [go_sem, List.map_cons, List.map_nil, List.append_nil, opnd, unc])))) ?_
  simp only [go_sem]
  refine hK _ _ ?_; clear hX hK X K
  show IW _ _ _ _ _ _ _ _
  repeat refine IW.seq ?_
  refine IW.cond rfl (fun hb => ?_) (fun hb => ?_)
  · simp [hr] at hb
  · refine IW.skip ?_
    show IW _ _ _ _ _ _ _ _
    repeat refine IW.seq ?_
    refine IW.region_seq tab_ok [some 13, some 14, some 15, some 5, none] rfl fun X K hX hK => ?_
    simp only [go_sem]
    refine hX.quiet _ _ (OpG.of_B rfl (opB_call rfl rfl (FSpec.nz (hs) (by simp [go_sem, List.map_cons, List.map_nil, List.append_nil, opnd, unc, resI, resR])))) ?_
    simp only [go_sem, resI, resR]
    refine hX.op _ _ rfl (opS_store tab_ok rfl (by simp [go_sem]) (by simp [go_sem]) (by simp [go_sem]) (by simp [go_sem]) (by simp [go_sem]) (by simp [go_sem])) ?_
    simp only [go_sem]
    refine hK _ _ ?_; clear hX hK X K
    show IW _ _ _ _ _ _ _ _
    repeat refine IW.seq ?_
    refine IW.region_seq tab_ok [some 16, some 17, some 18, some 19, some 20, some 6, none] rfl fun X K hX hK => ?_
    simp only [go_sem]
    refine hX.quiet _ _ (OpG.of_B rfl (opB_call rfl rfl (FSpec.nz (refBlank w h (by omega) (by omega) (by omega)) (by simp [go_sem, List.map_cons, List.map_nil, List.append_nil, opnd, unc, imgSV, imgRows])))) ?_
    simp only [go_sem, imgSV, imgRows]
    refine hX.op _ _ rfl (opS_store tab_ok rfl (by simp [go_sem]) (by simp [go_sem]) (by simp [go_sem]) (by simp [go_sem]) (by simp [go_sem]) (by simp [go_sem])) ?_
    simp only [go_sem]
    refine hK _ _ ?_; clear hX hK X K
    show IW _ _ _ _ _ _ _ _
    repeat refine IW.seq ?_
    refine IW.region_seq tab_ok [some 7] rfl fun X K hX hK => ?_
    simp only [go_sem]
    refine hK _ _ ?_; clear hX hK X K
    show IW _ _ _ _ _ _ _ _
    repeat refine IW.seq ?_
    refine IW.block ?_
    have hrow : ∀ {y : Nat}, y < h → y * w + w ≤ p.length := fun {y} hy => by
      have : (y + 1) * w ≤ h * w := Nat.mul_le_mul_right _ hy
      rw [Nat.add_mul] at this; rw [hlen', Nat.mul_comm w h]; omega
    obtain ⟨HH, hHH⟩ : ∃ HH : List Int → Heap, HH = fun z => [some ⟨3, 33, [[.int .i64 w, .int .i64 h, .sl true (nums .u8 p)]]⟩, some ⟨3, 33, [[.int .i64 0, .int .i64 0, .nils]]⟩, some ⟨1, 5, nums .u8 q⟩, some ⟨3, 33, [[.int .i64 w, .int .i64 h, lsV 2 q.length]]⟩, some ⟨1, 5, nums .u8 z⟩, some ⟨3, 33, [[.int .i64 w, .int .i64 h, .ref 4 0 p.length]]⟩] := ⟨_, rfl⟩
    refine IW.loop (α := {y : Nat // y ≤ h}) (fun y => [(1, .sl true (nums .i64 l)), (2, .ptr 0 0 0), (4, .ptr 1 0 0), (5, .ptr 3 0 0), (6, .ptr 5 0 0), (7, .int .i64 y.1)]) (fun y => HH (upto (rdF w h q l) p.length (y.1 * w))) (fun y => h - y.1) ⟨0, by omega⟩ ?_ fun ⟨y, hy⟩ => ?_
    · subst hHH
      refine Ent.cut ?_ ?_ <;> simp only [go_sem, hlen', Nat.zero_mul, upto_zero, List.length_replicate]
    · simp only []
      subst hHH
      repeat refine IW.seq ?_
      refine IW.region_seq tab_ok [some 21, some 22, some 23, some 24] rfl fun X K hX hK => ?_
      simp only [go_sem]
      refine hK _ _ ?_; clear hX hK X K
      show IW _ _ _ _ _ _ _ _
      repeat refine IW.seq ?_
      refine IW.cond rfl (fun hb1 => ?_) (fun hb1 => ?_)
      · refine IW.skip ?_
        show IW _ _ _ _ _ _ _ _
        simp only [decide_eq_true_eq] at hb1
        have hyh : y < h := by omega
        have hr' := hrow hyh
        refine IW.seq (IW.block ?_)
        repeat refine IW.seq ?_
        refine IW.region_seq tab_ok [some 8] rfl fun X K hX hK => ?_
        simp only [go_sem]
        refine hK _ _ ?_; clear hX hK X K
        show IW _ _ _ _ _ _ _ _
        repeat refine IW.seq ?_
        refine IW.block ?_
        refine IW.loop (α := {x : Nat // x ≤ w}) (fun x => [(1, .sl true (nums .i64 l)), (2, .ptr 0 0 0), (4, .ptr 1 0 0), (5, .ptr 3 0 0), (6, .ptr 5 0 0), (7, .int .i64 y), (8, .int .i64 x.1)]) (fun x => [some ⟨3, 33, [[.int .i64 w, .int .i64 h, .sl true (nums .u8 p)]]⟩, some ⟨3, 33, [[.int .i64 0, .int .i64 0, .nils]]⟩, some ⟨1, 5, nums .u8 q⟩, some ⟨3, 33, [[.int .i64 w, .int .i64 h, lsV 2 q.length]]⟩, some ⟨1, 5, nums .u8 (upto (rdF w h q l) p.length (y * w + x.1))⟩, some ⟨3, 33, [[.int .i64 w, .int .i64 h, .ref 4 0 p.length]]⟩]) (fun x => w - x.1) ⟨0, by omega⟩ ?_ fun ⟨x, hx⟩ => ?_
        · refine Ent.cut ?_ ?_ <;> simp only [go_sem, Nat.add_zero]
        · simp only []
          repeat refine IW.seq ?_
          refine IW.region_seq tab_ok [some 27, some 28, some 29, some 30] rfl fun X K hX hK => ?_
          simp only [go_sem]
          refine hK _ _ ?_; clear hX hK X K
          show IW _ _ _ _ _ _ _ _
          repeat refine IW.seq ?_
          refine IW.cond rfl (fun hb2 => ?_) (fun hb2 => ?_)
          · refine IW.skip ?_
            show IW _ _ _ _ _ _ _ _
            simp only [decide_eq_true_eq] at hb2
            have hxw : x < w := by omega
            have e1 : IntKind.i64.wrap ((y : Int) * (w : Int)) = ((y * w : Nat) : Int) := by
              rw [← Int.natCast_mul]; exact wrap_eq (by omega) (by omega)
            have e2 : IntKind.i64.wrap (((y * w : Nat) : Int) + (x : Int)) = ((y * w + x : Nat) : Int) := (wrap_eq (by omega) (by omega)).trans (by omega)
            have e3 : IntKind.i64.wrap ((y : Int) - 1) = (y : Int) - 1 := wrap_eq (by omega) (by omega)
            have e4 : IntKind.i64.wrap ((y : Int) + 1) = (y : Int) + 1 := wrap_eq (by omega) (by omega)
            have hdiv : (y * w + x) / w = y := by rw [Nat.mul_comm, Nat.mul_add_div (by omega), Nat.div_eq_of_lt hxw]; rfl
            have hmod : (y * w + x) % w = x := by rw [Nat.mul_comm, Nat.mul_add_mod, Nat.mod_eq_of_lt hxw]
            have hat : atF w h q (x : Int) (y : Int) = q.getD (y * w + x) 0 := by rw [atF, if_neg (by omega)]; simp only [Int.toNat_natCast]
            refine IW.seq (IW.block ?_)
            repeat refine IW.seq ?_
            refine IW.region_draw tab_ok mixed [some 33, some 34, some 35, some 36, some 37, some 38, some 39, some 40, some 41, some 42, some 43, some 44, some 45, none] 13 (by kernel_rfl) rfl fun Xq Xs K hXq hXs hK K1 hK1 => ?_
            simp only [go_sem, e1, e2, Int.toNat_natCast]
            refine hXq.quiet _ _ (OpG.of_B rfl (opB_call rfl rfl (FSpec.nz (refAtG w h x y q hqw hql) (by simp [go_sem, List.map_cons, List.map_nil, List.append_nil, opnd, unc, e1, e2, Int.toNat_natCast, hat])))) ?_
            simp only [go_sem, e1, e2, Int.toNat_natCast, hat]
            have hk2 : y * w + x < p.length := by omega
            refine ⟨⟨by omega, by omega⟩, ?_⟩
            refine hK1 _ _ ?_; clear hXq hK1 K1 Xq
            simp only [List.drop_zero, List.drop_succ_cons, go_sem]
            have hk3 := nums_at (k := .u8) (xs := upto (rdF w h q l) p.length (y * w + x)) (i := y * w + x) (by simp [upto_length, hk2])
            refine hXs.op _ _ rfl (opS_store tab_ok rfl (by simp [go_sem]) (by simp [go_sem]) (by simp [go_sem]) (by simp [go_sem, hk2, hk3]) (by simp [go_sem]) (by simp [go_sem])) ?_
            simp only [go_sem, hk2, hk3]
            refine hK _ _ ?_; clear hXs hK K Xs
            show IW _ _ _ _ _ _ _ _
            repeat refine IW.seq ?_
            refine IW.region_seq tab_ok [some 46, some 47, some 48, some 49, some 50, some 51, some 52, some 53, some 54, some 55, some 56, some 57, some 58, some 59, some 60, some 61, some 62, some 63, some 64] rfl fun X K hX hK => ?_
            simp only [go_sem, e3, e4]
            refine hX.quiet _ _ (OpG.of_B rfl (opB_call rfl rfl (FSpec.nz (refHas l y hll) (by simp [go_sem, List.map_cons, List.map_nil, List.append_nil, opnd, unc])))) ?_
            simp only [go_sem]
            refine hX.quiet _ _ (OpG.of_BG rfl rfl rfl (by first | (simp only [go_sem]; done) | (simp [go_sem] <;> (intros; simp_all))) fun hc => opB_call rfl rfl (FSpec.nz (refAtG w h x ((y : Int) - 1) q hqw hql) (by simp [go_sem, List.map_cons, List.map_nil, List.append_nil, opnd, unc, e3, e4]))) ?_
            simp only [go_sem, e3, e4]
            refine hX.quiet _ _ (OpG.of_BG rfl rfl rfl (by first | (simp only [go_sem]; done) | (simp [go_sem] <;> (intros; simp_all))) fun hc => opB_call rfl rfl (FSpec.nz (refAtG w h x ((y : Int) + 1) q hqw hql) (by simp [go_sem, List.map_cons, List.map_nil, List.append_nil, opnd, unc, e3, e4]))) ?_
            simp only [go_sem, e3, e4]
            refine hK _ _ ?_; clear hX hK X K
            show IW _ _ _ _ _ _ _ _
            have hset := upto_set (rdF w h q l) p.length (y * w + x)
            have hf : rdF w h q l (y * w + x) = if hasS l (y : Int) && (atF w h q (x : Int) ((y : Int) - 1) == 0) && (atF w h q (x : Int) ((y : Int) + 1) == 0) then 0 else q.getD (y * w + x) 0 := by
              simp only [rdF, hdiv, hmod]
            repeat refine IW.seq ?_
            refine IW.cond rfl (fun hb3 => ?_) (fun hb3 => ?_)
            · have hk4 := nums_at (k := .u8) (xs := (upto (rdF w h q l) p.length (y * w + x)).set (y * w + x) (q.getD (y * w + x) 0)) (i := y * w + x) (by simp [upto_length, hk2])
              repeat refine IW.seq ?_
              refine IW.region_seq tab_ok [some 65, some 66, some 67, some 68, some 69, some 70, some 71, some 72, some 73, none] rfl fun X K hX hK => ?_
              simp only [go_sem, e1, e2, Int.toNat_natCast]
              refine ⟨⟨by omega, by omega⟩, ?_⟩
              refine hX.op _ _ rfl (opS_store tab_ok rfl (by simp [go_sem]) (by simp [go_sem]) (by simp [go_sem]) (by simp [go_sem, hk2, hk4]) (by simp [go_sem]) (by simp [go_sem])) ?_
              simp only [go_sem, hk2, hk4]
              refine hK _ _ ?_; clear hX hK X K
              show IW _ _ _ _ _ _ _ _
              repeat refine IW.seq ?_
              refine IW.region_seq tab_ok [some 31, some 32, some 8] rfl fun X K hX hK => ?_
              simp only [go_sem, succ_wrap hxw (by omega)]
              refine hK _ _ ⟨⟨x + 1, hxw⟩, by simp only []; omega, ?_⟩
              rw [hf, if_pos hb3] at hset
              refine Ent.cut ?_ ?_ <;> simp only [go_sem, List.set_set, ← Nat.add_assoc, hset]
            · refine IW.skip ?_
              show IW _ _ _ _ _ _ _ _
              repeat refine IW.seq ?_
              refine IW.region_seq tab_ok [some 31, some 32, some 8] rfl fun X K hX hK => ?_
              simp only [go_sem, succ_wrap hxw (by omega)]
              refine hK _ _ ⟨⟨x + 1, hxw⟩, by simp only []; omega, ?_⟩
              rw [hf, if_neg (by rw [hb3]; simp)] at hset
              refine Ent.cut ?_ ?_ <;> simp only [go_sem, ← Nat.add_assoc, hset]
          · refine IW.exit ?_
            show IW _ _ _ _ _ _ _ _
            simp only [decide_eq_false_iff_not] at hb2
            have hxw : x = w := by omega
            subst hxw
            repeat refine IW.seq ?_
            refine IW.region_seq tab_ok [some 25, some 26, some 7] rfl fun X K hX hK => ?_
            simp only [go_sem, succ_wrap hyh (by omega)]
            refine hK _ _ ⟨⟨y + 1, hyh⟩, by simp only []; omega, ?_⟩
            refine Ent.cut ?_ ?_ <;> simp only [go_sem, Nat.add_mul, Nat.one_mul]
      · refine IW.exit ?_
        show IW _ _ _ _ _ _ _ _
        simp only [decide_eq_false_iff_not] at hb1
        have hyh : y = h := by omega
        subst hyh
        repeat refine IW.seq ?_
        refine IW.region_seq tab_ok [some 74, none] rfl fun X K hX hK => ?_
        simp only [go_sem]
        refine hX.op _ _ rfl (opS_store tab_ok rfl (by simp [go_sem]) (by simp [go_sem]) (by simp [go_sem]) (by simp [go_sem]) (by simp [go_sem]) (by simp [go_sem])) ?_
        simp only [go_sem]
        refine hK _ _ ?_; clear hX hK X K
        show IW _ _ _ _ _ _ _ _
        refine IW.ret (Fin.cell1 4 ⟨trivial, by simp [go_sem]⟩ rfl (by simp [go_sem]) ?_ ?_)
        · simp [go_sem]
        · simp [go_sem, Nat.mul_comm y w, ← hlen', upto_all, rm]
theorem right_bits {W H : Int} {p : List Int} (hr : rightS W H p = true) (hp : ∀ x ∈ p, 0 ≤ x) : ∀ x ∈ p, x = 0 ∨ x = 1 := fun x hx => by
  have := hp x hx
  simp only [rightS, Bool.and_eq_true, List.all_eq_true, decide_eq_true_eq] at hr
  have := hr.2 x hx
  omega
theorem getD_bits {p : List Int} (hp : ∀ x ∈ p, x = 0 ∨ x = 1) (t : Nat) : p.getD t 0 = 0 ∨ p.getD t 0 = 1 := by
  rcases Nat.lt_or_ge t p.length with h | h
  · exact hp _ (by simp [h])
  · left; simp [h]
theorem liF_bits {W H : Int} {p l : List Int} (hp : ∀ x ∈ p, 0 ≤ x) : ∀ x ∈ liF W H p l, x = 0 ∨ x = 1 := by
  intro x hx
  unfold liF at hx
  split at hx
  · rename_i hr
    simp only [rm, List.mem_map] at hx
    obtain ⟨t, _, rfl⟩ := hx
    unfold linedF
    split
    · exact .inr rfl
    · exact getD_bits (right_bits hr hp) t
  · cases hx
theorem atF_bits {w h : Nat} {q : List Int} (hq : ∀ x ∈ q, x = 0 ∨ x = 1) (x y : Int) : atF w h q x y = 0 ∨ atF w h q x y = 1 := by
  unfold atF
  split
  · exact .inl rfl
  · exact getD_bits hq _
theorem rd_dr {w h : Nat} {q l : List Int} (hq : ∀ x ∈ q, x = 0 ∨ x = 1) : rm q.length (rdF w h q l) = drF w h q l := by
  refine List.map_congr_left fun t _ => ?_
  unfold rdF drC
  rcases atF_bits (w := w) (h := h) hq ((t % w : Nat) : Int) (((t / w : Nat) : Int) - 1) with h1 | h1 <;> rcases atF_bits (w := w) (h := h) hq ((t % w : Nat) : Int) (((t / w : Nat) : Int) + 1) with h2 | h2 <;> rw [h1, h2] <;> cases hasS l ((t / w : Nat) : Int) <;> rfl
theorem refDress (W H : Int) (p l : List Int) (hl : p.length ≤ 1000000) (hll : l.length ≤ 1000000) (hp : ∀ x ∈ p, 0 ≤ x) : FSpec Try.prog 38 [ink W H p, .sl true (nums .i64 l)] (resI (riW W H p W) (riW W H p H) (drsF W H p l)) (resR (drsF W H p l)) := by
  by_cases hr : rightS W H p = true
  case neg =>
    have e1 : drsF W H p l = [] := by simp [drsF, hr]
    have e2 : riW W H p W = 0 := by simp [riW, hr]
    have e3 : riW W H p H = 0 := by simp [riW, hr]
    rw [e1, e2, e3]
    refine res_nil ?_
    refine FSpec.intro tab_ok Try.func38 rfl rfl rfl (by kernel_rfl) (by simp) fun w0 => ?_
    simp only [argTM, Nat.zero_add, Nat.reduceAdd]
    simp only [ink]
    repeat refine IW.seq ?_
    refine IW.region_seq tab_ok [some 2, some 4] rfl fun X K hX hK => ?_
    simp only [go_sem]
    refine hK _ _ ?_; clear hX hK X K
    show IW _ _ _ _ _ _ _ _
    repeat refine IW.seq ?_
    refine IW.region_seq tab_ok [some 9, some 10, some 11] rfl fun X K hX hK => ?_
    simp only [go_sem]
    refine hX.quiet _ _ (OpG.of_B rfl (opB_call rfl rfl (FSpec.nz (refRight W H p hl) (by simp [go_sem, List.map_cons, List.map_nil, List.append_nil, opnd, unc])))) ?_
    simp only [go_sem]
    refine hK _ _ ?_; clear hX hK X K
    show IW _ _ _ _ _ _ _ _
    repeat refine IW.seq ?_
    refine IW.cond rfl (fun hb => ?_) (fun hb => ?_)
    · repeat refine IW.seq ?_
      refine IW.region_seq tab_ok [some 12, none] rfl fun X K hX hK => ?_
      simp only [go_sem]
      refine hX.op _ _ rfl (opS_store tab_ok rfl (by simp [go_sem]) (by simp [go_sem]) (by simp [go_sem]) (by simp [go_sem]) (by simp [go_sem]) (by simp [go_sem])) ?_
      simp only [go_sem]
      refine hK _ _ ?_; clear hX hK X K
      show IW _ _ _ _ _ _ _ _
      refine IW.ret (Fin.cell ⟨trivial, by simp [go_sem]⟩ rfl rfl ?_)
      simp [go_sem]
    · simp [hr] at hb
  case pos =>
    obtain ⟨hlen, h0, h1, h2, h3⟩ := right_len hr
    obtain ⟨w, rfl⟩ : ∃ w : Nat, W = w := ⟨W.toNat, by omega⟩
    obtain ⟨h, rfl⟩ : ∃ h : Nat, H = h := ⟨H.toNat, by omega⟩
    have e2 : riW w h p w = w := by simp [riW, hr]
    have e3 : riW w h p h = h := by simp [riW, hr]
    have hq := liF_length w h p l
    rw [if_pos hr] at hq
    have hs := refLined' w h p l hl hll
    have e4 : drsF w h p l = rm p.length (rdF w h (liF w h p l) l) := by
      rw [← hq, rd_dr (liF_bits hp)]
      simp [drsF, hr]
    rw [e2, e3] at hs
    rw [e2, e3, e4]
    have := refDress0 w h p l (liF w h p l) hr hq hl hll hs
    have hl2 : (rm p.length (rdF w h (liF w h p l) l)).length = p.length := rm_length _ _
    exact res_ref (by rw [hl2]; exact this)
end Go.Proofs.Ytnbpbehlemaeoaa

set_option linter.unusedVariables false
set_option linter.unusedSimpArgs false
set_option maxRecDepth 10000
namespace Go.Proofs.Ytnbpbehlemaeoaa
open Go.IL
/-- A list of bytes that has been appended to: row 1. -/
def apV (bs : List Int) : SV := match bs with | [] => .nils | _ :: _ => .ref 1 0 bs.length
section
variable {O : Nat → Prop} {w0 : Ctx} {N : Nat} {ops : Array Oper} {D : List (Option Nat)} {X : XT}
theorem push {dst : Option Nat} {x y : Operand} {ty : TypeId} {pos : String} {after : Array Edge} {r : List Oper} {tm : TM} {bs : List Int} {c : Int} {r0 : Option Row} {K : TM → Heap → Prop} (hX : XS Try.prog O w0 N tab ops D X) (hx : opnd tm x = apV bs) (hy : opnd tm y = .ref 2 0 1) (hl : bs.length ≤ 1000000) (hd : ∀ d, dst = some d → d < N)
    (he : E tab D X r (tm.put dst (.ref 3 0 (bs.length + 1))) [r0, none, some ⟨1, 5, [[.int .u8 c]]⟩, some ⟨1, 5, nums .u8 (bs ++ [c])⟩] K) :
    X ⟨dst, .call ⟨.builtin .append, #[x, y], #[31, 31]⟩, ty, pos, after, none⟩ r tm [r0, wbR bs, some ⟨1, 5, [[.int .u8 c]]⟩] K := by
  have hys : srcO [r0, wbR bs, some ⟨1, 5, [[.int .u8 c]]⟩] (opnd tm y) = some [[.int .u8 c]] := by rw [hy]; rfl
  cases bs with
  | nil =>
    refine hX.quiet _ _ (OpG.of_B rfl (opB_append_nil tab_ok (ys := [[.int .u8 c]]) (m := 1) hx hys rfl (by omega) rfl rfl (by decide) (by intro x hx; simp at hx; subst hx; rfl) rfl (by decide) (by decide))) ?_
    exact he
  | cons b bs =>
    have hlen : (nums .u8 (b :: bs)).length = (b :: bs).length := nums_length _ _
    refine hX.op _ _ rfl (opS_append tab_ok (id := 1) (n := (b :: bs).length) (m := 1) (ys := [[.int .u8 c]]) hx hys rfl (by omega) rfl rfl (by decide) (by show _ ≤ (nums .u8 (b :: bs)).length; omega) rfl rfl rfl (by intro x hx; simp at hx; subst hx; rfl) rfl (by show ((b :: bs).length + 1) * 1 ≤ _; omega) (by omega) hd) ?_
    have e1 : (nums .u8 (b :: bs)).take (b :: bs).length ++ [[SV.int .u8 c]] = nums .u8 (b :: bs ++ [c]) := by
      rw [List.take_of_length_le (by omega)]; simp [nums]
    have e2 : rowXs [r0, wbR (b :: bs), some ⟨1, 5, [[SV.int .u8 c]]⟩] 1 = nums .u8 (b :: bs) := rfl
    rw [e2, e1]
    exact he
end
end Go.Proofs.Ytnbpbehlemaeoaa

set_option linter.unusedVariables false
set_option linter.unusedSimpArgs false
set_option maxRecDepth 10000
namespace Go.Proofs.Ytnbpbehlemaeoaa
open Go.IL
theorem cndO_ls (c : Bool) (id n : Nat) : cndO c (lsV id n) = True := by cases n <;> simp [lsV, cndO]
theorem unc_ls (id n : Nat) : unc (lsV id n) = lsV id n := by cases n <;> rfl
attribute [go_sem high] cndO_ls unc_ls
end Go.Proofs.Ytnbpbehlemaeoaa

set_option linter.unusedVariables false
set_option linter.unusedSimpArgs false
set_option maxRecDepth 10000
namespace Go.Proofs.Ytnbpbehlemaeoaa
open Go.IL
open Go.ChangeShapes Go.WideShapes Go.ChangeAt Go.RowKit Go.Joins
theorem u23 : Try.prog.underlying 23 = some (.slice 3) := by kernel_rfl
theorem c3 : Try.prog.cellsOf 3 = 1 := by kernel_rfl
/-- Numbers that came in. -/
theorem nums_arg {H : Type} {enc : TypeId × Value → H} {w : World} {base : Nat} {v : Value} {d : DataW H} {p : List MemPlace} (hv : Value.okWide Try.prog w .any base 23 v) (h : DataW.Trod enc Try.prog w 0 (fun _ => true) true 23 v d p) :
    ∃ l : List Int, VRel (fun _ => none) (fun b => b < w.heap.size) (fun _ => False) w (.sl true (nums .i64 l)) v ∧ ∀ x ∈ l, I64 x := by
  obtain ⟨a0, len0, cap0, rfl⟩ := okWide_slice u23 hv
  obtain ⟨fuel, hf⟩ := h
  rcases open_ints u23 uint3 c3 hf with ⟨hcs, _⟩ | ⟨a, len, cap, zs, hcs, _, hl, hm, hz, _, hcell, hwz⟩
  · simp [Value.cells] at hcs
    obtain ⟨rfl, rfl, rfl⟩ := hcs
    exact ⟨[], nz_rel (s := .nils) .nils, by simp⟩
  · simp [Value.cells] at hcs
    obtain ⟨rfl, rfl, rfl⟩ := hcs
    refine ⟨zs.take len0, ints_arg hl hm (by simpa using hz) hcell, fun x hx => ?_⟩
    have := hwz x (List.mem_of_mem_take hx)
    simp [Lit.wf, IntKind.min, IntKind.max, IntKind.signed, IntKind.bits] at this
    unfold I64; omega
theorem i64_of {n : Int} (h : (Lit.int .i64 n).wf = true) : I64 n := by
  simp [Lit.wf, IntKind.min, IntKind.max, IntKind.signed, IntKind.bits] at h
  unfold I64; omega
/-- A number that came in. -/
theorem int_arg {H : Type} {enc : TypeId × Value → H} {w : World} {base : Nat} {v : Value} {d : DataW H} {p : List MemPlace} (hv : Value.okWide Try.prog w .any base 3 v) (h : DataW.Trod enc Try.prog w 0 (fun _ => true) true 3 v d p) :
    ∃ n : Int, VRel (fun _ => none) (fun b => b < w.heap.size) (fun _ => False) w (.int .i64 n) v ∧ I64 n := by
  obtain ⟨x, rfl, rfl, rfl, wx⟩ := open_int uint3 hv h
  exact ⟨x, .int _ _, i64_of wx⟩
/-- A truth that came in. -/
theorem bool_arg {H : Type} {enc : TypeId × Value → H} {w : World} {base : Nat} {v : Value} {d : DataW H} {p : List MemPlace} (hv : Value.okWide Try.prog w .any base 4 v) (h : DataW.Trod enc Try.prog w 0 (fun _ => true) true 4 v d p) :
    ∃ t : Bool, VRel (fun _ => none) (fun b => b < w.heap.size) (fun _ => False) w (.bool t) v := by
  obtain ⟨x, rfl, rfl, rfl⟩ := open_bool u4 hv h
  exact ⟨x, .bool _⟩
end Go.Proofs.Ytnbpbehlemaeoaa

set_option linter.unusedVariables false
set_option linter.unusedSimpArgs false
set_option maxRecDepth 10000
namespace Go.Proofs.Ytnbpbehlemaeoaa
open Go.IL
/-- A column of ink. -/
def inkS (xs : List Int) (x : Int) : List Int := if 0 ≤ x then xs.set x.toNat 35 else xs
theorem inkS_length (xs : List Int) (x : Int) : (inkS xs x).length = xs.length := by unfold inkS; split <;> simp
def ink3 (xs : List Int) (a b c : Int) : Nat → List Int
  | 0 => xs
  | 1 => inkS xs a
  | 2 => inkS (inkS xs a) b
  | _ => inkS (inkS (inkS xs a) b) c
theorem ink3_length (xs : List Int) (a b c : Int) (i : Nat) : (ink3 xs a b c i).length = xs.length := by
  unfold ink3; split <;> simp [inkS_length]
def colOk (x : Int) : Prop := -1 ≤ x ∧ x < 10
theorem fInk (xs : List Int) (a b c : Int) (hl : xs.length = 10) (ha : colOk a) (hb : colOk b) (hc : colOk c) :
    WSpec Try.prog 94 [.agg [.int .i64 a, .int .i64 b, .int .i64 c], .ptr 0 0 0] [⟨1, 31, [[.ref 1 0 10]]⟩, ⟨1, 5 + softK, nums .u8 xs⟩] (.tup []) [some ⟨1, 31, [[.ref 1 0 10]]⟩, some ⟨1, 5 + softK, nums .u8 (ink3 xs a b c 3)⟩] := by
  unfold colOk at ha hb hc
  refine WSpec.intro tab_ok Try.func94 rfl rfl rfl (by kernel_rfl) (by simp) (by simp) fun O w0 hr => ?_
  simp only [argTM, Nat.zero_add, Nat.reduceAdd, List.map_cons, List.map_nil]
  repeat refine IW.seq ?_
  refine IW.region_seq tab_ok [some 2] rfl fun X K hX hK => ?_
  simp only [go_sem]
  refine hK _ _ ?_; clear hX hK X K
  show IW _ _ _ _ _ _ _ _
  repeat refine IW.seq ?_
  refine IW.region_seq tab_ok [some 5, some 6] rfl fun X K hX hK => ?_
  simp only [go_sem]
  refine hK _ _ ?_; clear hX hK X K
  show IW _ _ _ _ _ _ _ _
  repeat refine IW.seq ?_
  refine IW.block ?_
  refine IW.loop (α := {i : Nat // i ≤ 3}) (fun i => [(1, .ptr 0 0 0), (5, .agg [.int .i64 a, .int .i64 b, .int .i64 c]), (6, .int .i64 i.1)]) (fun i => [some ⟨1, 31, [[.ref 1 0 10]]⟩, some ⟨1, 5 + softK, nums .u8 (ink3 xs a b c i.1)⟩, some ⟨3, 114, [[.int .i64 a, .int .i64 b, .int .i64 c]]⟩]) (fun i => 3 - i.1) ⟨0, by omega⟩ ?_ fun ⟨i, hi⟩ => ?_
  · have : ink3 xs a b c 0 = xs := rfl
    refine Ent.cut ?_ ?_ (fun id ri e => Nat.lt_of_lt_of_le (hr id ri e) (by simp)) <;> simp only [go_sem, this]
  · simp only []
    have hlen := ink3_length xs a b c i
    repeat refine IW.seq ?_
    refine IW.region_seq tab_ok [some 7] rfl fun X K hX hK => ?_
    simp only [go_sem]
    refine hK _ _ ?_; clear hX hK X K
    show IW _ _ _ _ _ _ _ _
    repeat refine IW.seq ?_
    refine IW.cond rfl (fun hb1 => ?_) (fun hb1 => ?_)
    · simp only [decide_eq_true_eq] at hb1
      have hi3 : i < 3 := by omega
      obtain ⟨x, hx, hx1, hx2⟩ : ∃ x : Int, [SV.int .i64 a, SV.int .i64 b, SV.int .i64 c].getD i .any = .int .i64 x ∧ (-1 ≤ x ∧ x < 10) ∧ ink3 xs a b c (i + 1) = inkS (ink3 xs a b c i) x := by
        match i, hi3 with
        | 0, _ => exact ⟨a, rfl, ha, rfl⟩
        | 1, _ => exact ⟨b, rfl, hb, rfl⟩
        | 2, _ => exact ⟨c, rfl, hc, rfl⟩
      refine IW.skip ?_
      show IW _ _ _ _ _ _ _ _
      refine IW.seq (IW.block ?_)
      repeat refine IW.seq ?_
      refine IW.region_seq tab_ok [some 8, some 4] rfl fun X K hX hK => ?_
      simp only [go_sem, Nat.mul_one, hx]
      refine ⟨⟨by omega, by omega, by omega⟩, ?_⟩
      refine hK _ _ ?_; clear hX hK X K
      show IW _ _ _ _ _ _ _ _
      generalize ink3 xs a b c i = ys at *
      repeat refine IW.seq ?_
      refine IW.region_seq tab_ok [some 9, some 10] rfl fun X K hX hK => ?_
      simp only [go_sem]
      refine hK _ _ ?_; clear hX hK X K
      show IW _ _ _ _ _ _ _ _
      repeat refine IW.seq ?_
      refine IW.cond rfl (fun hb2 => ?_) (fun hb2 => ?_)
      · simp only [decide_eq_true_eq, ge_iff_le] at hb2
        have hz : ink3 xs a b c (i + 1) = ys.set x.toNat 35 := by rw [hx2, inkS, if_pos hb2]
        repeat refine IW.seq ?_
        refine IW.region_seq tab_ok [some 11, some 12, some 13, none] rfl fun X K hX hK => ?_
        simp only [go_sem]
        have hxl : x.toNat < 10 := by omega
        have hat := nums_at (k := .u8) (xs := ys) (i := x.toNat) (by omega)
        refine ⟨by omega, ?_⟩
        refine hX.op _ _ rfl (opS_store tab_ok rfl (by simp [go_sem]) (by simp [go_sem]) (by simp [go_sem]) (by simp [go_sem, hat, hxl, hlen, hl]) (by simp [go_sem]) (by simp [go_sem])) ?_
        simp only [go_sem, hat, hxl, hlen, hl]
        refine hK _ _ ?_; clear hX hK X K
        show IW _ _ _ _ _ _ _ _
        repeat refine IW.seq ?_
        refine IW.region_seq tab_ok [some 14, some 6] rfl fun X K hX hK => ?_
        simp only [go_sem, succ_wrap hi3 (by omega)]
        refine hK _ _ ⟨⟨i + 1, by omega⟩, by simp only []; omega, ?_⟩
        refine Ent.cut ?_ ?_ (fun id ri e => Nat.lt_of_lt_of_le (hr id ri e) (by simp)) <;> simp only [go_sem, hz]
      · simp only [decide_eq_false_iff_not, ge_iff_le] at hb2
        have hz : ink3 xs a b c (i + 1) = ys := by rw [hx2, inkS, if_neg hb2]
        refine IW.skip ?_
        show IW _ _ _ _ _ _ _ _
        repeat refine IW.seq ?_
        refine IW.region_seq tab_ok [some 14, some 6] rfl fun X K hX hK => ?_
        simp only [go_sem, succ_wrap hi3 (by omega)]
        refine hK _ _ ⟨⟨i + 1, by omega⟩, by simp only []; omega, ?_⟩
        refine Ent.cut ?_ ?_ (fun id ri e => Nat.lt_of_lt_of_le (hr id ri e) (by simp)) <;> simp only [go_sem, hz]
    · refine IW.exit ?_
      simp only [decide_eq_false_iff_not] at hb1
      obtain rfl : i = 3 := by omega
      exact ⟨trivial, rfl, by simp [go_sem, heapNold, nums_nold], by simp, [0, 1], rfl, by simp, rfl, rfl, by simp [go_sem, subH, nums_ren, Row.ren, renLL, renL, SV.ren, sg, hrow]⟩
end Go.Proofs.Ytnbpbehlemaeoaa

set_option linter.unusedVariables false
set_option linter.unusedSimpArgs false
set_option maxRecDepth 10000
namespace Go.Proofs.Ytnbpbehlemaeoaa
open Go.IL
/-- A list of texts that has been appended to: row 1. -/
def apS (l : List ByteArray) : SV := match l with | [] => .nils | _ :: _ => .ref 1 0 l.length
def wpS (l : List ByteArray) : Option Row := match l with | [] => none | _ :: _ => some ⟨1, 9, strs l⟩
theorem apS_snoc (l : List ByteArray) (c : ByteArray) : apS (l ++ [c]) = .ref 1 0 (l.length + 1) := by cases l <;> simp [apS]
theorem wpS_snoc (l : List ByteArray) (c : ByteArray) : wpS (l ++ [c]) = some ⟨1, 9, strs (l ++ [c])⟩ := by cases l <;> simp [wpS]
theorem strs_nold' : ∀ l : List ByteArray, noldLL (strs l) = true
  | [] => rfl
  | x :: xs => by show noldLL ([SV.str x] :: strs xs) = true; simp [noldLL, noldL, SV.nold, strs_nold' xs]
section
variable {O : Nat → Prop} {w0 : Ctx} {N : Nat} {ops : Array Oper} {D : List (Option Nat)} {X : XT}
theorem pushS {dst : Option Nat} {x y : Operand} {ty : TypeId} {pos : String} {after : Array Edge} {r : List Oper} {tm : TM} {l : List ByteArray} {s : ByteArray} {r0 r2 r3 : Option Row} {K : TM → Heap → Prop} (hX : XS Try.prog O w0 N tab ops D X) (hx : opnd tm x = apS l) (hy : opnd tm y = .ref 4 0 1) (hl : l.length ≤ 1000000) (hd : ∀ d, dst = some d → d < N)
    (he : E tab D X r (tm.put dst (.ref 5 0 (l.length + 1))) [r0, none, r2, r3, some ⟨1, 9, [[.str s]]⟩, some ⟨1, 9, strs (l ++ [s])⟩] K) :
    X ⟨dst, .call ⟨.builtin .append, #[x, y], #[74, 74]⟩, ty, pos, after, none⟩ r tm [r0, wpS l, r2, r3, some ⟨1, 9, [[.str s]]⟩] K := by
  have hys : srcO [r0, wpS l, r2, r3, some ⟨1, 9, [[.str s]]⟩] (opnd tm y) = some [[.str s]] := by rw [hy]; rfl
  cases l with
  | nil =>
    refine hX.quiet _ _ (OpG.of_B rfl (opB_append_nil tab_ok (ys := [[.str s]]) (m := 1) hx hys rfl (by omega) rfl rfl (by decide) (by intro x hx; simp at hx; subst hx; rfl) rfl (by decide) (by decide))) ?_
    exact he
  | cons b l =>
    have hlen : (strs (b :: l)).length = (b :: l).length := strs_length _
    refine hX.op _ _ rfl (opS_append tab_ok (id := 1) (n := (b :: l).length) (m := 1) (ys := [[.str s]]) hx hys rfl (by omega) rfl rfl (by decide) (by show _ ≤ (strs (b :: l)).length; omega) rfl rfl rfl (by intro x hx; simp at hx; subst hx; rfl) rfl (by show ((b :: l).length + 1) * 16 ≤ _; omega) (by omega) hd) ?_
    have e1 : (strs (b :: l)).take (b :: l).length ++ [[SV.str s]] = strs (b :: l ++ [s]) := by
      rw [List.take_of_length_le (by omega)]; simp [strs]
    have e2 : rowXs [r0, wpS (b :: l), r2, r3, some ⟨1, 9, [[SV.str s]]⟩] 1 = strs (b :: l) := rfl
    rw [e2, e1]
    exact he
end
/-- The bytes of a row of a barline. -/
def barB (a b c d e f : Int) (y : Nat) : List Int := if hasS [8, 9, 14, 15] (y : Int) then ink3 (ink3 (List.replicate 10 46) a b c 3) d e f 3 else ink3 (List.replicate 10 46) a b c 3
theorem barB_length (a b c d e f : Int) (y : Nat) : (barB a b c d e f y).length = 10 := by unfold barB; split <;> simp [ink3_length]
def barL (a b c d e f : Int) (n : Nat) : List ByteArray := (List.range n).map fun y => Go.IL.strOf (barB a b c d e f y)
theorem barL_length (a b c d e f : Int) (n : Nat) : (barL a b c d e f n).length = n := by simp [barL]
theorem barL_succ (a b c d e f : Int) (n : Nat) : barL a b c d e f (n + 1) = barL a b c d e f n ++ [Go.IL.strOf (barB a b c d e f n)] := by simp [barL, List.range_succ]
theorem cell_reW (h : Heap) : (⟨1, 31, [[.ref 2 0 10]]⟩ : Row).reW [3, 2] 4 h = ⟨1, 31, [[.ref 1 0 10]]⟩ := by simp [Row.reW, reW, show List.idxOf 2 [3, 2] = 1 from rfl]
theorem cell_upd (r0 r1 x y : Option Row) (z : Heap) (n : Nat) (B : List Int) : updR (tauW [3, 2] n) (r0 :: r1 :: x :: y :: z) [3, 2] [some ⟨1, 31, [[.ref 1 0 10]]⟩, some ⟨1, 5 + softK, nums .u8 B⟩] = r0 :: r1 :: some ⟨1, 5 + softK, nums .u8 B⟩ :: some ⟨1, 31, [[.ref 2 0 10]]⟩ :: z := by
  simp [updR, tauW, Row.ren, renLL, renL, SV.ren, nums_ren]
theorem fBarRows (a b c d e f : Int) (ha : colOk a) (hb : colOk b) (hc : colOk c) (hd : colOk d) (he : colOk e) (hf : colOk f) :
    FSpec Try.prog 86 [.agg [.int .i64 a, .int .i64 b, .int .i64 c, .int .i64 d, .int .i64 e, .int .i64 f]] (.ref 0 0 25) [⟨1, 9, strs (barL a b c d e f 25)⟩] := by
  obtain ⟨B0, hB0⟩ : ∃ B : List Int, B = List.replicate 10 46 := ⟨_, rfl⟩
  have hbar : ∀ y : Nat, barB a b c d e f y = if hasS [8, 9, 14, 15] (y : Int) then ink3 (ink3 B0 a b c 3) d e f 3 else ink3 B0 a b c 3 := fun y => by rw [hB0]; rfl
  have hb1 := fInk B0 a b c (by rw [hB0]; simp) ha hb hc
  have hb2 := fInk (ink3 B0 a b c 3) d e f (by rw [ink3_length, hB0]; simp) hd he hf
  have hl1 : (ink3 B0 a b c 3).length = 10 := by rw [ink3_length, hB0]; simp
  have hl2 : (ink3 (ink3 B0 a b c 3) d e f 3).length = 10 := by rw [ink3_length, hl1]
  generalize ink3 B0 a b c 3 = B1 at *
  generalize ink3 B1 d e f 3 = B2 at *
  refine FSpec.intro tab_ok Try.func86 rfl rfl rfl (by kernel_rfl) (by simp) fun w0 => ?_
  simp only [argTM, Nat.zero_add, Nat.reduceAdd]
  repeat refine IW.seq ?_
  refine IW.region_seq tab_ok [some 1, some 2] rfl fun X K hX hK => ?_
  simp only [go_sem]
  refine hK _ _ ?_; clear hX hK X K
  show IW _ _ _ _ _ _ _ _
  repeat refine IW.seq ?_
  refine IW.region_seq tab_ok [some 3] rfl fun X K hX hK => ?_
  simp only [go_sem]
  refine hK _ _ ?_; clear hX hK X K
  show IW _ _ _ _ _ _ _ _
  repeat refine IW.seq ?_
  refine IW.region_seq tab_ok [some 7] rfl fun X K hX hK => ?_
  simp only [go_sem]
  refine hK _ _ ?_; clear hX hK X K
  show IW _ _ _ _ _ _ _ _
  repeat refine IW.seq ?_
  refine IW.block ?_
  refine IW.loop (α := {y : Nat // y ≤ 25}) (fun y => [(1, .ptr 0 0 0), (3, apS (barL a b c d e f y.1)), (7, .int .i64 y.1)]) (fun y => [some ⟨6, 116, [[.int .i64 a, .int .i64 b, .int .i64 c, .int .i64 d, .int .i64 e, .int .i64 f]]⟩, wpS (barL a b c d e f y.1)]) (fun y => 25 - y.1) ⟨0, by omega⟩ ?_ fun ⟨y, hy⟩ => ?_
  · have : barL a b c d e f 0 = [] := rfl
    refine Ent.ren [0, 1] rfl (by decide) ?_ ?_ (fun id ri e => by cases e) <;> simp [go_sem, subT, subH, sg, SV.ren, Row.ren, this, apS, wpS]
  · simp only []
    repeat refine IW.seq ?_
    refine IW.region_seq tab_ok [some 8] rfl fun X K hX hK => ?_
    simp only [go_sem]
    refine hK _ _ ?_; clear hX hK X K
    show IW _ _ _ _ _ _ _ _
    repeat refine IW.seq ?_
    refine IW.cond rfl (fun hb3 => ?_) (fun hb3 => ?_)
    · simp only [decide_eq_true_eq] at hb3
      have hy25 : y < 25 := by omega
      have hsn := barL_succ a b c d e f y
      have hbl := barL_length a b c d e f y
      generalize hL : barL a b c d e f y = L at *
      refine IW.skip ?_
      show IW _ _ _ _ _ _ _ _
      refine IW.seq (IW.block ?_)
      repeat refine IW.seq ?_
      refine IW.region_seq tab_ok [some 9, some 4] rfl fun X K hX hK => ?_
      simp only [go_sem]
      refine hK _ _ ?_; clear hX hK X K
      show IW _ _ _ _ _ _ _ _
      repeat refine IW.seq ?_
      refine IW.region_seq tab_ok [some 10, some 11, some 5, none] rfl fun X K hX hK => ?_
      simp only [go_sem]
      refine hX.quiet _ _ (OpG.of_B rfl (opB_buildSlice tab_ok rfl (by simp [go_sem]) (by simp [go_sem]) (by simp) (by simp [go_sem, bsO, List.map_cons, List.map_nil]))) ?_
      simp only [go_sem, List.map_cons, List.map_nil]
      refine hX.op _ _ rfl (opS_convBytes tab_ok (id := 2) (off := 0) (n := 10) (e := 5) (r := ⟨1, 5, nums .u8 B0⟩) (by simp [go_sem]) (by rw [hB0]; rfl) rfl rfl (show 5 < softK by decide) (by intro d e; cases e; decide)) ?_
      simp only [go_sem, List.set_cons_zero, List.set_cons_succ]
      refine hX.op _ _ rfl (opS_store tab_ok rfl (by simp [go_sem]) (by simp [go_sem]) (by simp [go_sem]) (by simp [go_sem]) (by simp [go_sem]) (by simp [go_sem])) ?_
      simp only [go_sem]
      refine hK _ _ ?_; clear hX hK X K
      show IW _ _ _ _ _ _ _ _
      repeat refine IW.seq ?_
      refine IW.region_seq tab_ok [some 12, some 6] rfl fun X K hX hK => ?_
      simp only [go_sem]
      refine hK _ _ ?_; clear hX hK X K
      show IW _ _ _ _ _ _ _ _
      repeat refine IW.seq ?_
      refine IW.region_seq tab_ok [some 13, some 14, some 15, some 16] rfl fun X K hX hK => ?_
      simp only [go_sem]
      refine hX.op _ _ rfl (opS_callW (caps := [.ptr 3 0 0]) [3, 2] (by intro d e; cases e; decide) (by simp [go_sem]) (by simp) (by simp [go_sem, cell_reW, nums_reWrow]) (by simp [go_sem, reW]) hb1) ?_
      simp only [go_sem, cell_upd]
      refine hK _ _ ?_; clear hX hK X K
      show IW _ _ _ _ _ _ _ _
      repeat refine IW.seq ?_
      refine IW.region_seq tab_ok [some 17, some 18, some 19] rfl fun X K hX hK => ?_
      simp only [go_sem]
      refine hX.quiet _ _ (OpG.of_B rfl (opB_buildSlice tab_ok rfl (by simp [go_sem]) (by simp [go_sem]) (by simp) (by simp [go_sem, bsO, List.map_cons, List.map_nil]))) ?_
      simp only [go_sem, List.map_cons, List.map_nil]
      have hcn : FSpec Try.prog 64 [.sl true [[.int .i64 8], [.int .i64 9], [.int .i64 14], [.int .i64 15]], .int .i64 y] (.bool (hasS [8, 9, 14, 15] (y : Int))) [] := fContains [8, 9, 14, 15] y (by simp)
      refine hX.quiet _ _ (OpG.of_B rfl (opB_call rfl rfl (FSpec.nz (hcn) (by simp [go_sem, List.map_cons, List.map_nil, List.append_nil, opnd, unc, rei, rowXs, hrow, nz_sl, List.map_cons, List.map_nil])))) ?_
      simp only [go_sem, rei, rowXs, hrow, nz_sl, List.map_cons, List.map_nil]
      refine hK _ _ ?_; clear hX hK X K
      show IW _ _ _ _ _ _ _ _
      have hby := hbar y
      repeat refine IW.seq ?_
      refine IW.joinI (α := Unit) (fun _ => [(1, .ptr 0 0 0), (3, apS L), (5, .ptr 3 0 0), (7, .int .i64 y)]) (fun _ => [some ⟨6, 116, [[.int .i64 a, .int .i64 b, .int .i64 c, .int .i64 d, .int .i64 e, .int .i64 f]]⟩, wpS L, some ⟨1, 5 + softK, nums .u8 (barB a b c d e f y)⟩, some ⟨1, 31, [[.ref 2 0 10]]⟩]) ?_ fun _ => ?_
      · refine IW.cond rfl (fun hb4 => ?_) (fun hb4 => ?_)
        · rw [hb4, if_pos rfl] at hby
          repeat refine IW.seq ?_
          refine IW.region_seq tab_ok [some 20, some 21, some 22, some 23] rfl fun X K hX hK => ?_
          simp only [go_sem]
          refine hX.op _ _ rfl (opS_callW (caps := [.ptr 3 0 0]) [3, 2] (by intro d e; cases e; decide) (by simp [go_sem]) (by simp) (by simp [go_sem, cell_reW, nums_reWrow]) (by simp [go_sem, reW]) hb2) ?_
          simp only [go_sem, cell_upd]
          refine hK _ _ ⟨(), ?_⟩
          cases L with
          | nil =>
            refine Ent.cut ?_ ?_ <;> simp only [go_sem, hby, apS, wpS]
          | cons s l =>
            refine Ent.cut ?_ ?_ <;> simp only [go_sem, hby, apS, wpS]
        · rw [hb4, if_neg (by simp)] at hby
          refine IW.skip ⟨(), ?_⟩
          cases L with
          | nil =>
            refine Ent.cut ?_ ?_ <;> simp only [go_sem, hby, apS, wpS]
          | cons s l =>
            refine Ent.cut ?_ ?_ <;> simp only [go_sem, hby, apS, wpS]
      · have hbb := barB_length a b c d e f y
        have htk : (nums .u8 (barB a b c d e f y)).take 10 = nums .u8 (barB a b c d e f y) := List.take_of_length_le (by rw [nums_length, hbb]; omega)
        repeat refine IW.seq ?_
        refine IW.region_seq tab_ok [some 24, some 25, some 26, some 27, some 28, some 3] rfl fun X K hX hK => ?_
        simp only [go_sem]
        refine hX.quiet _ _ (OpG.of_B rfl (opB_bytesStr tab_ok (e := 5) (xs := barB a b c d e f y) (by simp [go_sem, srcO, htk, hbb]) (by omega) rfl rfl rfl)) ?_
        simp only [go_sem]
        refine hX.quiet _ _ (OpG.of_B rfl (opB_buildSlice tab_ok rfl (by simp [go_sem]) (by simp [go_sem]) (by simp) (by simp [go_sem, bsO, List.map_cons, List.map_nil]))) ?_
        simp only [go_sem, List.map_cons, List.map_nil]
        refine pushS (s := Go.IL.strOf (barB a b c d e f y)) (l := L) hX (by simp [go_sem]) (by simp [go_sem]) (by omega) (by intro d e; cases e; decide) ?_
        simp only [go_sem]
        refine hK _ _ ?_; clear hX hK X K
        show IW _ _ _ _ _ _ _ _
        repeat refine IW.seq ?_
        refine IW.region_seq tab_ok [some 29, some 7] rfl fun X K hX hK => ?_
        simp only [go_sem, succ_wrap hy25 (by omega)]
        refine hK _ _ ⟨⟨y + 1, hy25⟩, by simp only []; omega, ?_⟩
        simp only [hsn, apS_snoc, wpS_snoc]
        refine Ent.ren [0, 5] rfl (by decide) ?_ ?_ (fun id ri e => by cases e) <;> simp [go_sem, subT, subH, sg, SV.ren, Row.ren, strs_ren]
    · refine IW.exit ?_
      show IW _ _ _ _ _ _ _ _
      simp only [decide_eq_false_iff_not] at hb3
      obtain rfl : y = 25 := by omega
      have e25 := barL_succ a b c d e f 24
      have e1 : apS (barL a b c d e f 25) = .ref 1 0 25 := by rw [e25, apS_snoc, barL_length]
      have e2 : wpS (barL a b c d e f 25) = some ⟨1, 9, strs (barL a b c d e f 25)⟩ := by rw [e25, wpS_snoc]
      rw [e1, e2]
      repeat refine IW.seq ?_
      refine IW.region_seq tab_ok [some 30, some 2] rfl fun X K hX hK => ?_
      simp only [go_sem]
      refine hK _ _ ?_; clear hX hK X K
      show IW _ _ _ _ _ _ _ _
      refine IW.ret (Fin.tmp1 1 rfl (strs_nold' _) (by simp [go_sem]) (by simp [go_sem, hrow, Row.ren, strs_ren]))
end Go.Proofs.Ytnbpbehlemaeoaa

set_option linter.unusedVariables false
set_option linter.unusedSimpArgs false
set_option maxRecDepth 10000
namespace Go.Proofs.Ytnbpbehlemaeoaa
open Go.IL
theorem fBarC (a b c d e f : Int) (ha : colOk a) (hb : colOk b) (hc : colOk c) (hd : colOk d) (he : colOk e) (hf : colOk f) :
    FSpec Try.prog 86 [.agg [.int .i64 a, .int .i64 b, .int .i64 c, .int .i64 d, .int .i64 e, .int .i64 f]] (.sl false (strs (barL a b c d e f 25))) [] := by
  have h1 := FSpec.freeze 3 (fBarRows a b c d e f ha hb hc hd he hf)
  have h2 : (rei 3 ([(⟨1, 9, strs (barL a b c d e f 25)⟩ : Row)].map some) (.ref 0 0 25)).unold = .sl false (strs (barL a b c d e f 25)) := by
    have hx : rei 3 ([(⟨1, 9, strs (barL a b c d e f 25)⟩ : Row)].map some) (.ref 0 0 25) = .sl true (strs (barL a b c d e f 25)) := by
      have h3 : (strs (barL a b c d e f 25)).take 25 = strs (barL a b c d e f 25) := List.take_of_length_le (by rw [strs_length, barL_length]; omega)
      have h4 : rowXs ([(⟨1, 9, strs (barL a b c d e f 25)⟩ : Row)].map some) 0 = strs (barL a b c d e f 25) := rfl
      rw [rei_ref 2 _ 0 0 25 ⟨by rw [h4, strs_length, barL_length]; omega, rfl⟩, h4, List.drop_zero, h3, strs_rei]
    rw [hx]
    simp only [SV.unold, strs_unold]
  rw [h2] at h1; exact h1
theorem build114 (a b c : Int) (w : World) : (Instr.build 114 #[(0, .int .i64 a), (1, .int .i64 b), (2, .int .i64 c)]).run Try.prog w = .ok (.agg #[.int .i64 a, .int .i64 b, .int .i64 c]) w := by kernel_rfl
theorem opB_arr {dst : Option Nat} {ty : TypeId} {pos : String} {after : Array Edge} {guard : Option (Nat × Bool)} {g : Operand → SV} {h : Heap} {a b c : Int} :
    OpB Try.prog ⟨dst, .build 114 #[(0, .const (.int .i64 a)), (1, .const (.int .i64 b)), (2, .const (.int .i64 c))], ty, pos, after, guard⟩ g h (.agg [.int .i64 a, .int .i64 b, .int .i64 c]) [] := by
  refine opB_ok fun ρ O F w act hs hr => ⟨.agg #[.int .i64 a, .int .i64 b, .int .i64 c], ?_, ?_⟩
  · simp only [execOp, List.map_toArray, List.map_cons, List.map_nil]
    rw [run_bind]
    have e : (Instr.build 114 #[(0, act.eval (.const (.int .i64 a))), (1, act.eval (.const (.int .i64 b))), (2, act.eval (.const (.int .i64 c)))]).run Try.prog w = .ok (.agg #[.int .i64 a, .int .i64 b, .int .i64 c]) w := build114 a b c w
    rw [e]
    rfl
  · exact .agg _ _ rfl fun i s v e1 e2 => by
      match i with
      | 0 => cases e1; cases e2; exact .int _ _
      | 1 => cases e1; cases e2; exact .int _ _
      | 2 => cases e1; cases e2; exact .int _ _
      | i + 3 => simp at e1
/-- The barlines. -/
def barD : List (Int × List ByteArray) := [(1, barL 5 (-1) (-1) (-1) (-1) (-1) 25), (2, barL 4 6 (-1) (-1) (-1) (-1) 25), (3, barL 4 6 7 (-1) (-1) (-1) 25), (4, barL 3 4 6 8 9 (-1) 25), (5, barL 4 6 7 1 2 (-1) 25)]
def barE (k : Nat) : Int × List ByteArray := barD.getD k (0, [])
def barI : List (Nat × Nat) := [(1, 4), (2, 5), (3, 6), (4, 7), (6, 8), (7, 9), (8, 10), (9, 11), (11, 12), (12, 13), (13, 14), (14, 15), (16, 16), (17, 17), (18, 18), (19, 19), (21, 20), (22, 21), (23, 22), (24, 23)]
def barV : Nat → SV
  | 1 => .agg [.int .i64 5, .int .i64 (-1), .int .i64 (-1)]
  | 2 => .agg [.int .i64 (-1), .int .i64 (-1), .int .i64 (-1)]
  | 3 => .agg [.int .i64 5, .int .i64 (-1), .int .i64 (-1), .int .i64 (-1), .int .i64 (-1), .int .i64 (-1)]
  | 4 => .sl false (strs (barL 5 (-1) (-1) (-1) (-1) (-1) 25))
  | 6 => .agg [.int .i64 4, .int .i64 6, .int .i64 (-1)]
  | 7 => .agg [.int .i64 (-1), .int .i64 (-1), .int .i64 (-1)]
  | 8 => .agg [.int .i64 4, .int .i64 6, .int .i64 (-1), .int .i64 (-1), .int .i64 (-1), .int .i64 (-1)]
  | 9 => .sl false (strs (barL 4 6 (-1) (-1) (-1) (-1) 25))
  | 11 => .agg [.int .i64 4, .int .i64 6, .int .i64 7]
  | 12 => .agg [.int .i64 (-1), .int .i64 (-1), .int .i64 (-1)]
  | 13 => .agg [.int .i64 4, .int .i64 6, .int .i64 7, .int .i64 (-1), .int .i64 (-1), .int .i64 (-1)]
  | 14 => .sl false (strs (barL 4 6 7 (-1) (-1) (-1) 25))
  | 16 => .agg [.int .i64 3, .int .i64 4, .int .i64 6]
  | 17 => .agg [.int .i64 8, .int .i64 9, .int .i64 (-1)]
  | 18 => .agg [.int .i64 3, .int .i64 4, .int .i64 6, .int .i64 8, .int .i64 9, .int .i64 (-1)]
  | 19 => .sl false (strs (barL 3 4 6 8 9 (-1) 25))
  | 21 => .agg [.int .i64 4, .int .i64 6, .int .i64 7]
  | 22 => .agg [.int .i64 1, .int .i64 2, .int .i64 (-1)]
  | 23 => .agg [.int .i64 4, .int .i64 6, .int .i64 7, .int .i64 1, .int .i64 2, .int .i64 (-1)]
  | 24 => .sl false (strs (barL 4 6 7 1 2 (-1) 25))
  | _ => .any
theorem barV_nomap : ∀ p ∈ barI, (barV p.1).nomap = true := by
  intro p hp
  simp only [barI, List.mem_cons, List.not_mem_nil, or_false] at hp
  rcases hp with rfl | rfl | rfl | rfl | rfl | rfl | rfl | rfl | rfl | rfl | rfl | rfl | rfl | rfl | rfl | rfl | rfl | rfl | rfl | rfl <;> simp [barV, SV.nomap, nomapL, strs_nomap]
structure BI (listed : Array Bool) (tm : TM) : Prop where
  box : tm.get 1 = .ptr 0 0 0
  val : ∀ p ∈ barI, listed.getD p.1 false = true → tm.get p.2 = barV p.1
  ins : ∀ k, k < 5 → listed.getD (5 * k + 5) false = true → listed.getD 0 false = true
  map : listed.getD 0 false = true → ∃ l : List Nat, l.Nodup ∧ (∀ k, k ∈ l ↔ k < 5 ∧ listed.getD (5 * k + 5) false = true) ∧ tm.get 3 = .mp false (mapX (l.map barE))
  mov : listed.getD 26 false = true → (∀ j, j < 26 → listed.getD j false = true) ∧ ∃ d : List (Int × List ByteArray), d.Perm barD ∧ tm.get 24 = mapC d
  res : listed.getD 27 false = true → listed.getD 26 false = true ∧ ∃ d : List (Int × List ByteArray), d.Perm barD ∧ tm.get 0 = mapC d
theorem set_get {listed : Array Bool} {i : Nat} (hi : i < listed.size) : (listed.setIfInBounds i true).getD i false = true := by simp [hi]
/-- None of the last two has been carried out before what they wait for. -/
theorem BI.late {listed : Array Bool} {tm : TM} (h : BI listed tm) {i : Nat} (hi : i < 26) (hun : listed.getD i false = false) : listed.getD 26 false = false ∧ listed.getD 27 false = false := by
  have h1 : listed.getD 26 false = false := by
    cases c : listed.getD 26 false with
    | false => rfl
    | true => have := (h.mov c).1 i hi; rw [hun] at this; cases this
  refine ⟨h1, ?_⟩
  cases c : listed.getD 27 false with
  | false => rfl
  | true => have := (h.res c).1; rw [h1] at this; cases this
theorem BI.put {listed : Array Bool} {tm : TM} {i d : Nat} (h : BI listed tm) (hp : (i, d) ∈ barI) (hun : listed.getD i false = false) : BI (listed.setIfInBounds i true) (tm.put (some d) (barV i)) := by
  have hi26 : i < 26 := (show ∀ p ∈ barI, p.1 < 26 by decide) _ hp
  have hne : i ≠ 0 := (show ∀ p ∈ barI, p.1 ≠ 0 by decide) _ hp
  have hni : ∀ k, k < 5 → i ≠ 5 * k + 5 := fun k hk => (show ∀ p ∈ barI, ∀ k, k < 5 → p.1 ≠ 5 * k + 5 by decide) _ hp k hk
  have hd : d ≠ 0 ∧ d ≠ 1 ∧ d ≠ 3 ∧ d ≠ 24 := (show ∀ p ∈ barI, p.2 ≠ 0 ∧ p.2 ≠ 1 ∧ p.2 ≠ 3 ∧ p.2 ≠ 24 by decide) _ hp
  have hinj : ∀ p ∈ barI, p.1 ≠ i → p.2 ≠ d := fun p hp' hn e => (show ∀ p ∈ barI, ∀ r ∈ barI, p.1 ≠ r.1 → p.2 ≠ r.2 by decide) p hp' _ hp hn e
  have hfn : ∀ p ∈ barI, p.1 = i → p.2 = d := fun p hp' hn => (show ∀ p ∈ barI, ∀ r ∈ barI, p.1 = r.1 → p.2 = r.2 by decide) p hp' _ hp hn
  obtain ⟨l26, l27⟩ := h.late hi26 hun
  have hg : ∀ j, i ≠ j → (listed.setIfInBounds i true).getD j false = listed.getD j false := fun j hj => getD_set_ne false hj
  have ht : ∀ t, d ≠ t → (tm.put (some d) (barV i)).get t = tm.get t := fun t ht => by show (if d = t then _ else _) = _; rw [if_neg ht]
  refine ⟨?_, fun p hp' hl => ?_, fun k hk hl => ?_, fun hl => ?_, fun hl => ?_, fun hl => ?_⟩
  · rw [ht 1 hd.2.1]; exact h.box
  · by_cases c : p.1 = i
    · have := hfn p hp' c
      rw [this, c]
      show (if d = d then _ else _) = _
      rw [if_pos rfl]
    · rw [hg _ (fun e => c e.symm)] at hl
      rw [ht _ (fun e => hinj p hp' c e.symm)]
      exact h.val p hp' hl
  · rw [hg _ (hni k hk)] at hl
    rw [hg _ hne]; exact h.ins k hk hl
  · rw [hg _ hne] at hl
    obtain ⟨l, h1, h2, h3⟩ := h.map hl
    refine ⟨l, h1, fun k => ?_, by rw [ht 3 hd.2.2.1]; exact h3⟩
    rw [h2 k]
    constructor
    · rintro ⟨a1, a2⟩; exact ⟨a1, by rw [hg _ (hni k a1)]; exact a2⟩
    · rintro ⟨a1, a2⟩; exact ⟨a1, by rw [hg _ (hni k a1)] at a2; exact a2⟩
  · rw [hg _ (by omega), l26] at hl; cases hl
  · rw [hg _ (by omega), l27] at hl; cases hl
theorem BI.make {listed : Array Bool} {tm : TM} (h : BI listed tm) (hun : listed.getD 0 false = false) (hs : 0 < listed.size) : BI (listed.setIfInBounds 0 true) (tm.put (some 3) (.mp false [])) := by
  obtain ⟨l26, l27⟩ := h.late (by omega) hun
  have hg : ∀ j, 0 ≠ j → (listed.setIfInBounds 0 true).getD j false = listed.getD j false := fun j hj => getD_set_ne false hj
  have ht : ∀ t, 3 ≠ t → (tm.put (some 3) (.mp false [])).get t = tm.get t := fun t ht => by show (if 3 = t then _ else _) = _; rw [if_neg ht]
  have hno : ∀ k, k < 5 → listed.getD (5 * k + 5) false = true → False := fun k hk hl => by have := h.ins k hk hl; rw [hun] at this; cases this
  refine ⟨?_, fun p hp' hl => ?_, fun k hk hl => ?_, fun hl => ⟨[], List.nodup_nil, fun k => ?_, rfl⟩, fun hl => ?_, fun hl => ?_⟩
  · rw [ht 1 (by decide)]; exact h.box
  · rw [hg _ (fun e => (show ∀ p ∈ barI, p.1 ≠ 0 by decide) _ hp' e.symm)] at hl
    rw [ht _ (fun e => (show ∀ p ∈ barI, p.2 ≠ 3 by decide) _ hp' e.symm)]
    exact h.val p hp' hl
  · exact set_get hs
  · refine ⟨fun e => by simp at e, fun ⟨a1, a2⟩ => ?_⟩
    rw [hg _ (by omega)] at a2
    exact (hno k a1 a2).elim
  · rw [hg _ (by omega), l26] at hl; cases hl
  · rw [hg _ (by omega), l27] at hl; cases hl
theorem mapX_append (a b : List (Int × List ByteArray)) : mapX (a ++ b) = mapX a ++ mapX b := by simp [mapX]
theorem mapX_ne {n : Int} : ∀ {d : List (Int × List ByteArray)}, (∀ e ∈ d, e.1 ≠ n) → keysNe n (mapX d) = true
  | [], _ => rfl
  | e :: d, h => by
    show ((e.1 != n) && keysNe n (mapX d)) = true
    rw [mapX_ne fun x hx => h x (List.mem_cons_of_mem _ hx)]
    have := h e (by simp)
    simp [this]
theorem barE_key {k : Nat} (hk : k < 5) : (barE k).1 = (k : Int) + 1 := by
  match k, hk with
  | 0, _ => rfl
  | 1, _ => rfl
  | 2, _ => rfl
  | 3, _ => rfl
  | 4, _ => rfl
theorem BI.insert {listed : Array Bool} {tm tm' : TM} {k : Nat} (h : BI listed tm) (hk : k < 5) (hun : listed.getD (5 * k + 5) false = false) (h0 : listed.getD 0 false = true) (hs : listed.size = 28) {l : List Nat} (h1 : l.Nodup) (h2 : ∀ k, k ∈ l ↔ k < 5 ∧ listed.getD (5 * k + 5) false = true)
    (he : tm' = (3, .mp false (mapX (l.map barE) ++ [[.int .i64 (barE k).1, .sl false (strs (barE k).2)]])) :: dropM tm) : BI (listed.setIfInBounds (5 * k + 5) true) tm' := by
  obtain ⟨l26, l27⟩ := h.late (show 5 * k + 5 < 26 by omega) hun
  have hg : ∀ j, 5 * k + 5 ≠ j → (listed.setIfInBounds (5 * k + 5) true).getD j false = listed.getD j false := fun j hj => getD_set_ne false hj
  have ht : ∀ t, 3 ≠ t → (tm.get t).nomap = true → tm'.get t = tm.get t := fun t ht hm => by
    rw [he]
    show (if 3 = t then _ else _) = _
    rw [if_neg ht, dropM_get, hm]; rfl
  have hni : ∀ p ∈ barI, 5 * k + 5 ≠ p.1 := fun p hp e => (show ∀ p ∈ barI, ∀ k, k < 5 → p.1 ≠ 5 * k + 5 by decide) _ hp k hk e.symm
  refine ⟨?_, fun p hp' hl => ?_, fun j hj hl => ?_, fun hl => ⟨l ++ [k], ?_, fun j => ?_, ?_⟩, fun hl => ?_, fun hl => ?_⟩
  · rw [ht 1 (by decide) (by rw [h.box]; rfl)]; exact h.box
  · rw [hg _ (hni p hp')] at hl
    have hv := h.val p hp' hl
    rw [ht _ (fun e => (show ∀ p ∈ barI, p.2 ≠ 3 by decide) _ hp' e.symm) (by rw [hv]; exact barV_nomap p hp')]
    exact hv
  · rw [hg _ (by omega)]; exact h0
  · rw [List.nodup_append]
    refine ⟨h1, by simp, fun x hx y hy e => ?_⟩
    obtain rfl : y = k := by simpa using hy
    subst e
    have := ((h2 x).1 hx).2
    rw [hun] at this; cases this
  · rw [List.mem_append, h2 j]
    by_cases c : j = k
    · subst c
      exact ⟨fun _ => ⟨hk, set_get (by omega)⟩, fun _ => .inr (by simp)⟩
    · rw [hg _ (by omega)]
      constructor
      · rintro (h | h)
        · exact h
        · exact absurd (by simpa using h) c
      · exact .inl
  · rw [he]
    show (if 3 = 3 then _ else _) = _
    rw [if_pos rfl, List.map_append, mapX_append]
    rfl
  · rw [hg _ (by omega), l26] at hl; cases hl
  · rw [hg _ (by omega), l27] at hl; cases hl
theorem perm5 {l : List Nat} (h1 : l.Nodup) (h2 : ∀ k, k ∈ l ↔ k < 5) : (l.map barE).Perm barD := by
  have h3 : l.Perm [0, 1, 2, 3, 4] := (List.perm_ext_iff_of_nodup h1 (by decide)).2 fun k => by
    rw [h2 k]; simp only [List.mem_cons, List.not_mem_nil, or_false]; omega
  exact (h3.map barE).trans (.of_eq rfl)
theorem BI.move {listed : Array Bool} {tm : TM} {d : List (Int × List ByteArray)} (h : BI listed tm) (hall : ∀ j, j < 26 → listed.getD j false = true) (hun : listed.getD 26 false = false) (hs : listed.size = 28) (hd : d.Perm barD) : BI (listed.setIfInBounds 26 true) (tm.put (some 24) (mapC d)) := by
  have hg : ∀ j, 26 ≠ j → (listed.setIfInBounds 26 true).getD j false = listed.getD j false := fun j hj => getD_set_ne false hj
  have ht : ∀ t, 24 ≠ t → (tm.put (some 24) (mapC d)).get t = tm.get t := fun t ht => by show (if 24 = t then _ else _) = _; rw [if_neg ht]
  refine ⟨?_, fun p hp' hl => ?_, fun k hk hl => ?_, fun hl => ?_, fun hl => ⟨fun j hj => ?_, d, hd, rfl⟩, fun hl => ?_⟩
  · rw [ht 1 (by decide)]; exact h.box
  · rw [hg _ (fun e => (show ∀ p ∈ barI, p.1 ≠ 26 by decide) _ hp' e.symm)] at hl
    rw [ht _ (fun e => (show ∀ p ∈ barI, p.2 ≠ 24 by decide) _ hp' e.symm)]
    exact h.val p hp' hl
  · rw [hg _ (by omega)]; exact hall 0 (by omega)
  · rw [hg _ (by omega)] at hl
    obtain ⟨l, h1, h2, h3⟩ := h.map hl
    refine ⟨l, h1, fun k => ?_, by rw [ht 3 (by decide)]; exact h3⟩
    rw [h2 k]
    constructor
    · rintro ⟨a1, a2⟩; exact ⟨a1, by rw [hg _ (by omega)]; exact a2⟩
    · rintro ⟨a1, a2⟩; exact ⟨a1, by rw [hg _ (by omega)] at a2; exact a2⟩
  · rw [hg _ (by omega)]; exact hall j hj
  · rw [hg _ (by omega)] at hl
    have := (h.res hl).1
    rw [hun] at this; cases this
theorem BI.last {listed : Array Bool} {tm : TM} {d : List (Int × List ByteArray)} (h : BI listed tm) (h26 : listed.getD 26 false = true) (hs : listed.size = 28) (hd : d.Perm barD) : BI (listed.setIfInBounds 27 true) (tm.put (some 0) (mapC d)) := by
  have hg : ∀ j, 27 ≠ j → (listed.setIfInBounds 27 true).getD j false = listed.getD j false := fun j hj => getD_set_ne false hj
  have ht : ∀ t, 0 ≠ t → (tm.put (some 0) (mapC d)).get t = tm.get t := fun t ht => by show (if 0 = t then _ else _) = _; rw [if_neg ht]
  obtain ⟨hall, d', hd', he'⟩ := h.mov h26
  refine ⟨?_, fun p hp' hl => ?_, fun k hk hl => ?_, fun hl => ?_, fun hl => ⟨fun j hj => ?_, d', hd', ?_⟩, fun hl => ⟨?_, d, hd, rfl⟩⟩
  · rw [ht 1 (by decide)]; exact h.box
  · rw [hg _ (fun e => (show ∀ p ∈ barI, p.1 ≠ 27 by decide) _ hp' e.symm)] at hl
    rw [ht _ (fun e => (show ∀ p ∈ barI, p.2 ≠ 0 by decide) _ hp' e.symm)]
    exact h.val p hp' hl
  · rw [hg _ (by omega)]; exact hall 0 (by omega)
  · rw [hg _ (by omega)] at hl
    obtain ⟨l, h1, h2, h3⟩ := h.map hl
    refine ⟨l, h1, fun k => ?_, by rw [ht 3 (by decide)]; exact h3⟩
    rw [h2 k]
    constructor
    · rintro ⟨a1, a2⟩; exact ⟨a1, by rw [hg _ (by omega)]; exact a2⟩
    · rintro ⟨a1, a2⟩; exact ⟨a1, by rw [hg _ (by omega)] at a2; exact a2⟩
  · rw [hg _ (by omega)]; exact hall j hj
  · rw [ht 24 (by decide)]; exact he'
  · rw [hg _ (by omega)]; exact h26
theorem rep_false (n i : Nat) : (Array.replicate n false).getD i false = false := by by_cases h : i < n <;> simp [h]
theorem mapX_nold : ∀ d : List (Int × List ByteArray), noldLL (mapX d) = true
  | [] => rfl
  | e :: d => by show (noldL [SV.int .i64 e.1, SV.sl false (strs e.2)] && noldLL (mapX d)) = true; rw [mapX_nold d]; simp [noldL, SV.nold, strs_nold']
theorem mapC_nold (d : List (Int × List ByteArray)) : (mapC d).nold = true := by simp [mapC, SV.nold, mapX_nold]
def barDs : List (Option Nat) := [some 3, some 4, some 5, some 6, some 7, none, some 8, some 9, some 10, some 11, none, some 12, some 13, some 14, some 15, none, some 16, some 17, some 18, some 19, none, some 20, some 21, some 22, some 23, none, some 24, some 0]
theorem SC_one {ops : Array Oper} {O : Nat → Prop} {w0 : Ctx} {N : Nat} (D : List (Option Nat)) (hN : dstB N ops D = true) {i : Nat} {o : Oper} (ho : ops[i]? = some o) {tm : TM} {h : Heap} {K : TM → Heap → Prop} (he : E tab D (XS0 Try.prog O w0 N ops) [o] tm h K) : SC Try.prog O w0 N ops i 1 tm h K :=
  E_SC tab_ok hN [o] i tm h K (fun j o' e => by
    cases j with
    | zero => simp at e; subst e; exact ho
    | succ j => simp at e) he
set_option maxHeartbeats 4000000 in
theorem fBars : FSpecE Try.prog 75 [] (fun d : List (Int × List ByteArray) => d.Perm barD) mapC := by
  refine FSpecE.intro tab_ok Try.func75 rfl rfl rfl (by kernel_rfl) (by simp) fun w0 => ?_
  simp only [argTM, Nat.zero_add, Nat.reduceAdd]
  repeat refine IW.seq ?_
  refine IW.region_seq tab_ok [some 0] rfl fun X K hX hK => ?_
  simp only [go_sem]
  refine hK _ _ ?_; clear hX hK X K
  show IW _ _ _ _ _ _ _ _
  repeat refine IW.seq ?_
  refine IW.region_seq tab_ok [some 2, some 1, none] rfl fun X K hX hK => ?_
  simp only [go_sem]
  refine hX.quiet _ _ (OpG.of_B rfl opB_arr) ?_
  simp only [go_sem]
  refine hX.op _ _ rfl (opS_store tab_ok rfl (by simp [go_sem]) (by simp [go_sem]) (by simp [go_sem]) (by simp [go_sem]) (by simp [go_sem]) (by simp [go_sem])) ?_
  simp only [go_sem]
  refine hK _ _ ?_; clear hX hK X K
  show IW _ _ _ _ _ _ _ _
  repeat refine IW.seq ?_
  refine IW.region_lattice mixed (by kernel_rfl) BI ?_ (fun listed tm i o hsz hI ho hun hall => ?_) fun listed tm hl hI => ?_
  · refine ⟨by simp [go_sem], fun p hp h => ?_, fun k hk h => ?_, fun h => ?_, fun h => ?_, fun h => ?_⟩ <;> (rw [rep_false] at h; cases h)
  · have hi : i < 28 := (Array.getElem?_eq_some_iff.1 ho).1
    refine SC_one barDs rfl ho ?_
    match i, hi, ho, hun, hall with
    | 0, _, ho, hun, hall =>
      simp only [List.getElem?_toArray, List.getElem?_cons_succ, List.getElem?_cons_zero, Option.some.injEq] at ho
      subst ho
      refine (XS0_ok (D := barDs) tab_ok rfl).quiet _ _ (OpG.of_B rfl opB_makeMap) ?_
      exact ⟨rfl, hI.make hun (by rw [hsz]; decide)⟩
    | 1, _, ho, hun, hall =>
      simp only [List.getElem?_toArray, List.getElem?_cons_succ, List.getElem?_cons_zero, Option.some.injEq] at ho
      subst ho
      refine (XS0_ok (D := barDs) tab_ok rfl).quiet _ _ (OpG.of_B rfl opB_arr) ?_
      exact ⟨rfl, hI.put (by decide) hun⟩
    | 2, _, ho, hun, hall =>
      simp only [List.getElem?_toArray, List.getElem?_cons_succ, List.getElem?_cons_zero, Option.some.injEq] at ho
      subst ho
      simp only [go_sem, hI.box]
      exact hI.put (i := 2) (d := 5) (by decide) hun
    | 3, _, ho, hun, hall =>
      simp only [List.getElem?_toArray, List.getElem?_cons_succ, List.getElem?_cons_zero, Option.some.injEq] at ho
      subst ho
      have g1 : tm.get 4 = barV 1 := hI.val (1, 4) (by decide) (hall ⟨1, .data⟩ (by simp) rfl)
      have g2 : tm.get 5 = barV 2 := hI.val (2, 5) (by decide) (hall ⟨2, .data⟩ (by simp) rfl)
      simp only [barV] at g1 g2
      simp only [go_sem, g1, g2]
      exact hI.put (i := 3) (d := 6) (by decide) hun
    | 4, _, ho, hun, hall =>
      simp only [List.getElem?_toArray, List.getElem?_cons_succ, List.getElem?_cons_zero, Option.some.injEq] at ho
      subst ho
      have g1 : tm.get 6 = barV 3 := hI.val (3, 6) (by decide) (hall ⟨3, .data⟩ (by simp) rfl)
      simp only [barV] at g1
      refine (XS0_ok (D := barDs) tab_ok rfl).quiet _ _ (OpG.of_B rfl (opB_call rfl rfl (FSpec.nz (fBarC 5 (-1) (-1) (-1) (-1) (-1) (by unfold colOk; omega) (by unfold colOk; omega) (by unfold colOk; omega) (by unfold colOk; omega) (by unfold colOk; omega) (by unfold colOk; omega)) (by simp [go_sem, g1, nz])))) ?_
      simp only [go_sem, strs_ren]
      exact hI.put (i := 4) (d := 7) (by decide) hun
    | 5, _, ho, hun, hall =>
      simp only [List.getElem?_toArray, List.getElem?_cons_succ, List.getElem?_cons_zero, Option.some.injEq] at ho
      subst ho
      have g1 : tm.get 7 = barV 4 := hI.val (4, 7) (by decide) (hall ⟨4, .data⟩ (by simp) rfl)
      simp only [barV] at g1
      have h0 : listed.getD 0 false = true := hall ⟨0, .data⟩ (by simp) rfl
      obtain ⟨l, l1, l2, l3⟩ := hI.map h0
      have hkn : keysNe 1 (mapX (l.map barE)) = true := mapX_ne fun e he hk => by
        obtain ⟨j, hj, rfl⟩ := List.mem_map.1 he
        have hj5 := (l2 j).1 hj
        rw [barE_key hj5.1] at hk
        obtain rfl : j = 0 := by omega
        rw [hun] at hj5; cases hj5.2
      refine (XS0_ok (D := barDs) tab_ok rfl).op _ _ rfl (opS_insert l3 rfl (by simp [go_sem, g1]) m72 u3 hkn (by simp [go_sem]) (mapX_nomap _) (by decide)) ?_
      exact ⟨rfl, hI.insert (k := 0) (by decide) hun h0 hsz l1 l2 (by simp only [opnd, g1]; rfl)⟩
    | 6, _, ho, hun, hall =>
      simp only [List.getElem?_toArray, List.getElem?_cons_succ, List.getElem?_cons_zero, Option.some.injEq] at ho
      subst ho
      refine (XS0_ok (D := barDs) tab_ok rfl).quiet _ _ (OpG.of_B rfl opB_arr) ?_
      exact ⟨rfl, hI.put (by decide) hun⟩
    | 7, _, ho, hun, hall =>
      simp only [List.getElem?_toArray, List.getElem?_cons_succ, List.getElem?_cons_zero, Option.some.injEq] at ho
      subst ho
      simp only [go_sem, hI.box]
      exact hI.put (i := 7) (d := 9) (by decide) hun
    | 8, _, ho, hun, hall =>
      simp only [List.getElem?_toArray, List.getElem?_cons_succ, List.getElem?_cons_zero, Option.some.injEq] at ho
      subst ho
      have g1 : tm.get 8 = barV 6 := hI.val (6, 8) (by decide) (hall ⟨6, .data⟩ (by simp) rfl)
      have g2 : tm.get 9 = barV 7 := hI.val (7, 9) (by decide) (hall ⟨7, .data⟩ (by simp) rfl)
      simp only [barV] at g1 g2
      simp only [go_sem, g1, g2]
      exact hI.put (i := 8) (d := 10) (by decide) hun
    | 9, _, ho, hun, hall =>
      simp only [List.getElem?_toArray, List.getElem?_cons_succ, List.getElem?_cons_zero, Option.some.injEq] at ho
      subst ho
      have g1 : tm.get 10 = barV 8 := hI.val (8, 10) (by decide) (hall ⟨8, .data⟩ (by simp) rfl)
      simp only [barV] at g1
      refine (XS0_ok (D := barDs) tab_ok rfl).quiet _ _ (OpG.of_B rfl (opB_call rfl rfl (FSpec.nz (fBarC 4 6 (-1) (-1) (-1) (-1) (by unfold colOk; omega) (by unfold colOk; omega) (by unfold colOk; omega) (by unfold colOk; omega) (by unfold colOk; omega) (by unfold colOk; omega)) (by simp [go_sem, g1, nz])))) ?_
      simp only [go_sem, strs_ren]
      exact hI.put (i := 9) (d := 11) (by decide) hun
    | 10, _, ho, hun, hall =>
      simp only [List.getElem?_toArray, List.getElem?_cons_succ, List.getElem?_cons_zero, Option.some.injEq] at ho
      subst ho
      have g1 : tm.get 11 = barV 9 := hI.val (9, 11) (by decide) (hall ⟨9, .data⟩ (by simp) rfl)
      simp only [barV] at g1
      have h0 : listed.getD 0 false = true := hall ⟨0, .data⟩ (by simp) rfl
      obtain ⟨l, l1, l2, l3⟩ := hI.map h0
      have hkn : keysNe 2 (mapX (l.map barE)) = true := mapX_ne fun e he hk => by
        obtain ⟨j, hj, rfl⟩ := List.mem_map.1 he
        have hj5 := (l2 j).1 hj
        rw [barE_key hj5.1] at hk
        obtain rfl : j = 1 := by omega
        rw [hun] at hj5; cases hj5.2
      refine (XS0_ok (D := barDs) tab_ok rfl).op _ _ rfl (opS_insert l3 rfl (by simp [go_sem, g1]) m72 u3 hkn (by simp [go_sem]) (mapX_nomap _) (by decide)) ?_
      exact ⟨rfl, hI.insert (k := 1) (by decide) hun h0 hsz l1 l2 (by simp only [opnd, g1]; rfl)⟩
    | 11, _, ho, hun, hall =>
      simp only [List.getElem?_toArray, List.getElem?_cons_succ, List.getElem?_cons_zero, Option.some.injEq] at ho
      subst ho
      refine (XS0_ok (D := barDs) tab_ok rfl).quiet _ _ (OpG.of_B rfl opB_arr) ?_
      exact ⟨rfl, hI.put (by decide) hun⟩
    | 12, _, ho, hun, hall =>
      simp only [List.getElem?_toArray, List.getElem?_cons_succ, List.getElem?_cons_zero, Option.some.injEq] at ho
      subst ho
      simp only [go_sem, hI.box]
      exact hI.put (i := 12) (d := 13) (by decide) hun
    | 13, _, ho, hun, hall =>
      simp only [List.getElem?_toArray, List.getElem?_cons_succ, List.getElem?_cons_zero, Option.some.injEq] at ho
      subst ho
      have g1 : tm.get 12 = barV 11 := hI.val (11, 12) (by decide) (hall ⟨11, .data⟩ (by simp) rfl)
      have g2 : tm.get 13 = barV 12 := hI.val (12, 13) (by decide) (hall ⟨12, .data⟩ (by simp) rfl)
      simp only [barV] at g1 g2
      simp only [go_sem, g1, g2]
      exact hI.put (i := 13) (d := 14) (by decide) hun
    | 14, _, ho, hun, hall =>
      simp only [List.getElem?_toArray, List.getElem?_cons_succ, List.getElem?_cons_zero, Option.some.injEq] at ho
      subst ho
      have g1 : tm.get 14 = barV 13 := hI.val (13, 14) (by decide) (hall ⟨13, .data⟩ (by simp) rfl)
      simp only [barV] at g1
      refine (XS0_ok (D := barDs) tab_ok rfl).quiet _ _ (OpG.of_B rfl (opB_call rfl rfl (FSpec.nz (fBarC 4 6 7 (-1) (-1) (-1) (by unfold colOk; omega) (by unfold colOk; omega) (by unfold colOk; omega) (by unfold colOk; omega) (by unfold colOk; omega) (by unfold colOk; omega)) (by simp [go_sem, g1, nz])))) ?_
      simp only [go_sem, strs_ren]
      exact hI.put (i := 14) (d := 15) (by decide) hun
    | 15, _, ho, hun, hall =>
      simp only [List.getElem?_toArray, List.getElem?_cons_succ, List.getElem?_cons_zero, Option.some.injEq] at ho
      subst ho
      have g1 : tm.get 15 = barV 14 := hI.val (14, 15) (by decide) (hall ⟨14, .data⟩ (by simp) rfl)
      simp only [barV] at g1
      have h0 : listed.getD 0 false = true := hall ⟨0, .data⟩ (by simp) rfl
      obtain ⟨l, l1, l2, l3⟩ := hI.map h0
      have hkn : keysNe 3 (mapX (l.map barE)) = true := mapX_ne fun e he hk => by
        obtain ⟨j, hj, rfl⟩ := List.mem_map.1 he
        have hj5 := (l2 j).1 hj
        rw [barE_key hj5.1] at hk
        obtain rfl : j = 2 := by omega
        rw [hun] at hj5; cases hj5.2
      refine (XS0_ok (D := barDs) tab_ok rfl).op _ _ rfl (opS_insert l3 rfl (by simp [go_sem, g1]) m72 u3 hkn (by simp [go_sem]) (mapX_nomap _) (by decide)) ?_
      exact ⟨rfl, hI.insert (k := 2) (by decide) hun h0 hsz l1 l2 (by simp only [opnd, g1]; rfl)⟩
    | 16, _, ho, hun, hall =>
      simp only [List.getElem?_toArray, List.getElem?_cons_succ, List.getElem?_cons_zero, Option.some.injEq] at ho
      subst ho
      refine (XS0_ok (D := barDs) tab_ok rfl).quiet _ _ (OpG.of_B rfl opB_arr) ?_
      exact ⟨rfl, hI.put (by decide) hun⟩
    | 17, _, ho, hun, hall =>
      simp only [List.getElem?_toArray, List.getElem?_cons_succ, List.getElem?_cons_zero, Option.some.injEq] at ho
      subst ho
      refine (XS0_ok (D := barDs) tab_ok rfl).quiet _ _ (OpG.of_B rfl opB_arr) ?_
      exact ⟨rfl, hI.put (by decide) hun⟩
    | 18, _, ho, hun, hall =>
      simp only [List.getElem?_toArray, List.getElem?_cons_succ, List.getElem?_cons_zero, Option.some.injEq] at ho
      subst ho
      have g1 : tm.get 16 = barV 16 := hI.val (16, 16) (by decide) (hall ⟨16, .data⟩ (by simp) rfl)
      have g2 : tm.get 17 = barV 17 := hI.val (17, 17) (by decide) (hall ⟨17, .data⟩ (by simp) rfl)
      simp only [barV] at g1 g2
      simp only [go_sem, g1, g2]
      exact hI.put (i := 18) (d := 18) (by decide) hun
    | 19, _, ho, hun, hall =>
      simp only [List.getElem?_toArray, List.getElem?_cons_succ, List.getElem?_cons_zero, Option.some.injEq] at ho
      subst ho
      have g1 : tm.get 18 = barV 18 := hI.val (18, 18) (by decide) (hall ⟨18, .data⟩ (by simp) rfl)
      simp only [barV] at g1
      refine (XS0_ok (D := barDs) tab_ok rfl).quiet _ _ (OpG.of_B rfl (opB_call rfl rfl (FSpec.nz (fBarC 3 4 6 8 9 (-1) (by unfold colOk; omega) (by unfold colOk; omega) (by unfold colOk; omega) (by unfold colOk; omega) (by unfold colOk; omega) (by unfold colOk; omega)) (by simp [go_sem, g1, nz])))) ?_
      simp only [go_sem, strs_ren]
      exact hI.put (i := 19) (d := 19) (by decide) hun
    | 20, _, ho, hun, hall =>
      simp only [List.getElem?_toArray, List.getElem?_cons_succ, List.getElem?_cons_zero, Option.some.injEq] at ho
      subst ho
      have g1 : tm.get 19 = barV 19 := hI.val (19, 19) (by decide) (hall ⟨19, .data⟩ (by simp) rfl)
      simp only [barV] at g1
      have h0 : listed.getD 0 false = true := hall ⟨0, .data⟩ (by simp) rfl
      obtain ⟨l, l1, l2, l3⟩ := hI.map h0
      have hkn : keysNe 4 (mapX (l.map barE)) = true := mapX_ne fun e he hk => by
        obtain ⟨j, hj, rfl⟩ := List.mem_map.1 he
        have hj5 := (l2 j).1 hj
        rw [barE_key hj5.1] at hk
        obtain rfl : j = 3 := by omega
        rw [hun] at hj5; cases hj5.2
      refine (XS0_ok (D := barDs) tab_ok rfl).op _ _ rfl (opS_insert l3 rfl (by simp [go_sem, g1]) m72 u3 hkn (by simp [go_sem]) (mapX_nomap _) (by decide)) ?_
      exact ⟨rfl, hI.insert (k := 3) (by decide) hun h0 hsz l1 l2 (by simp only [opnd, g1]; rfl)⟩
    | 21, _, ho, hun, hall =>
      simp only [List.getElem?_toArray, List.getElem?_cons_succ, List.getElem?_cons_zero, Option.some.injEq] at ho
      subst ho
      refine (XS0_ok (D := barDs) tab_ok rfl).quiet _ _ (OpG.of_B rfl opB_arr) ?_
      exact ⟨rfl, hI.put (by decide) hun⟩
    | 22, _, ho, hun, hall =>
      simp only [List.getElem?_toArray, List.getElem?_cons_succ, List.getElem?_cons_zero, Option.some.injEq] at ho
      subst ho
      refine (XS0_ok (D := barDs) tab_ok rfl).quiet _ _ (OpG.of_B rfl opB_arr) ?_
      exact ⟨rfl, hI.put (by decide) hun⟩
    | 23, _, ho, hun, hall =>
      simp only [List.getElem?_toArray, List.getElem?_cons_succ, List.getElem?_cons_zero, Option.some.injEq] at ho
      subst ho
      have g1 : tm.get 20 = barV 21 := hI.val (21, 20) (by decide) (hall ⟨21, .data⟩ (by simp) rfl)
      have g2 : tm.get 21 = barV 22 := hI.val (22, 21) (by decide) (hall ⟨22, .data⟩ (by simp) rfl)
      simp only [barV] at g1 g2
      simp only [go_sem, g1, g2]
      exact hI.put (i := 23) (d := 22) (by decide) hun
    | 24, _, ho, hun, hall =>
      simp only [List.getElem?_toArray, List.getElem?_cons_succ, List.getElem?_cons_zero, Option.some.injEq] at ho
      subst ho
      have g1 : tm.get 22 = barV 23 := hI.val (23, 22) (by decide) (hall ⟨23, .data⟩ (by simp) rfl)
      simp only [barV] at g1
      refine (XS0_ok (D := barDs) tab_ok rfl).quiet _ _ (OpG.of_B rfl (opB_call rfl rfl (FSpec.nz (fBarC 4 6 7 1 2 (-1) (by unfold colOk; omega) (by unfold colOk; omega) (by unfold colOk; omega) (by unfold colOk; omega) (by unfold colOk; omega) (by unfold colOk; omega)) (by simp [go_sem, g1, nz])))) ?_
      simp only [go_sem, strs_ren]
      exact hI.put (i := 24) (d := 23) (by decide) hun
    | 25, _, ho, hun, hall =>
      simp only [List.getElem?_toArray, List.getElem?_cons_succ, List.getElem?_cons_zero, Option.some.injEq] at ho
      subst ho
      have g1 : tm.get 23 = barV 24 := hI.val (24, 23) (by decide) (hall ⟨24, .data⟩ (by simp) rfl)
      simp only [barV] at g1
      have h0 : listed.getD 0 false = true := hall ⟨0, .data⟩ (by simp) rfl
      obtain ⟨l, l1, l2, l3⟩ := hI.map h0
      have hkn : keysNe 5 (mapX (l.map barE)) = true := mapX_ne fun e he hk => by
        obtain ⟨j, hj, rfl⟩ := List.mem_map.1 he
        have hj5 := (l2 j).1 hj
        rw [barE_key hj5.1] at hk
        obtain rfl : j = 4 := by omega
        rw [hun] at hj5; cases hj5.2
      refine (XS0_ok (D := barDs) tab_ok rfl).op _ _ rfl (opS_insert l3 rfl (by simp [go_sem, g1]) m72 u3 hkn (by simp [go_sem]) (mapX_nomap _) (by decide)) ?_
      exact ⟨rfl, hI.insert (k := 4) (by decide) hun h0 hsz l1 l2 (by simp only [opnd, g1]; rfl)⟩
    | 26, _, ho, hun, hall =>
      simp only [List.getElem?_toArray, List.getElem?_cons_succ, List.getElem?_cons_zero, Option.some.injEq] at ho
      subst ho
      have hall' : ∀ j, j < 26 → listed.getD j false = true := fun j hj => by
        have : (⟨j, .data⟩ : Edge) ∈ (#[⟨0, .data⟩, ⟨1, .data⟩, ⟨2, .data⟩, ⟨3, .data⟩, ⟨4, .data⟩, ⟨5, .data⟩, ⟨6, .data⟩, ⟨7, .data⟩, ⟨8, .data⟩, ⟨9, .data⟩, ⟨10, .data⟩, ⟨11, .data⟩, ⟨12, .data⟩, ⟨13, .data⟩, ⟨14, .data⟩, ⟨15, .data⟩, ⟨16, .data⟩, ⟨17, .data⟩, ⟨18, .data⟩, ⟨19, .data⟩, ⟨20, .data⟩, ⟨21, .data⟩, ⟨22, .data⟩, ⟨23, .data⟩, ⟨24, .data⟩, ⟨25, .data⟩] : Array Edge) := by
          match j, hj with
          | 0, _ => simp
          | 1, _ => simp
          | 2, _ => simp
          | 3, _ => simp
          | 4, _ => simp
          | 5, _ => simp
          | 6, _ => simp
          | 7, _ => simp
          | 8, _ => simp
          | 9, _ => simp
          | 10, _ => simp
          | 11, _ => simp
          | 12, _ => simp
          | 13, _ => simp
          | 14, _ => simp
          | 15, _ => simp
          | 16, _ => simp
          | 17, _ => simp
          | 18, _ => simp
          | 19, _ => simp
          | 20, _ => simp
          | 21, _ => simp
          | 22, _ => simp
          | 23, _ => simp
          | 24, _ => simp
          | 25, _ => simp
          | j + 26, h => exact absurd h (by omega)
        exact hall ⟨j, .data⟩ (by simpa using this) rfl
      obtain ⟨l, l1, l2, l3⟩ := hI.map (hall' 0 (by omega))
      have hp := perm5 l1 fun k => by
        rw [l2 k]
        exact ⟨fun h => h.1, fun h => ⟨h, hall' (5 * k + 5) (by omega)⟩⟩
      simp only [go_sem, l3]
      exact hI.move hall' hun hsz hp
    | 27, _, ho, hun, hall =>
      simp only [List.getElem?_toArray, List.getElem?_cons_succ, List.getElem?_cons_zero, Option.some.injEq] at ho
      subst ho
      have h26 : listed.getD 26 false = true := hall ⟨26, .data⟩ (by simp) rfl
      obtain ⟨_, d, hd, he⟩ := hI.mov h26
      simp only [go_sem, he]
      exact hI.last h26 hsz hd
    | j + 28, hj, _, _, _ => omega
  · obtain ⟨d, hd, he⟩ := (hI.res (hl 27 (by decide))).2
    show IW _ _ _ _ _ _ _ _
    exact IW.ret ⟨d, hd, Fin.scal (mapC_nold d) (mapX_ren _ d) he⟩
end Go.Proofs.Ytnbpbehlemaeoaa

set_option linter.unusedVariables false
set_option linter.unusedSimpArgs false
set_option maxRecDepth 10000
namespace Go.Proofs.Ytnbpbehlemaeoaa
open Go.IL
open Go.WideElems (Fit rd rg)
theorem fDraw9 : FSpecE Try.prog 49 [.int .i64 9] (fun d : List (Int × List ByteArray) => d.Perm barD) mapC := by
  refine FSpecE.intro tab_ok Try.func49 rfl rfl rfl (by kernel_rfl) (by simp) fun w0 => ?_
  simp only [argTM, Nat.zero_add, Nat.reduceAdd]
  repeat refine IW.seq ?_
  refine IW.region_seq tab_ok [some 2] rfl fun X K hX hK => ?_
  simp only [go_sem]
  refine hK _ _ ?_; clear hX hK X K
  show IW _ _ _ _ _ _ _ _
  repeat refine IW.seq ?_
  refine IW.region_seq tab_ok [some 3] rfl fun X K hX hK => ?_
  simp only [go_sem]
  refine hK _ _ ?_; clear hX hK X K
  show IW _ _ _ _ _ _ _ _
  repeat refine IW.seq ?_
  refine IW.block ?_
  repeat refine IW.seq ?_
  refine IW.region_seq tab_ok [some 5, some 4] rfl fun X K hX hK => ?_
  simp only [go_sem]
  refine hK _ _ ?_; clear hX hK X K
  show IW _ _ _ _ _ _ _ _
  repeat refine IW.seq ?_
  refine IW.cond rfl (fun hb => absurd hb (by decide)) (fun hb => ?_)
  repeat refine IW.seq ?_
  refine IW.region_seq tab_ok [some 12, some 11] rfl fun X K hX hK => ?_
  simp only [go_sem]
  refine hK _ _ ?_; clear hX hK X K
  show IW _ _ _ _ _ _ _ _
  repeat refine IW.seq ?_
  refine IW.cond rfl (fun hb => absurd hb (by decide)) (fun hb => ?_)
  repeat refine IW.seq ?_
  refine IW.region_seq tab_ok [some 19, some 18] rfl fun X K hX hK => ?_
  simp only [go_sem]
  refine hK _ _ ?_; clear hX hK X K
  show IW _ _ _ _ _ _ _ _
  repeat refine IW.seq ?_
  refine IW.cond rfl (fun hb => absurd hb (by decide)) (fun hb => ?_)
  repeat refine IW.seq ?_
  refine IW.region_seq tab_ok [some 24, some 23] rfl fun X K hX hK => ?_
  simp only [go_sem]
  refine hK _ _ ?_; clear hX hK X K
  show IW _ _ _ _ _ _ _ _
  repeat refine IW.seq ?_
  refine IW.cond rfl (fun hb => absurd hb (by decide)) (fun hb => ?_)
  repeat refine IW.seq ?_
  refine IW.region_seq tab_ok [some 29, some 28] rfl fun X K hX hK => ?_
  simp only [go_sem]
  refine hK _ _ ?_; clear hX hK X K
  show IW _ _ _ _ _ _ _ _
  repeat refine IW.seq ?_
  refine IW.cond rfl (fun hb => absurd hb (by decide)) (fun hb => ?_)
  repeat refine IW.seq ?_
  refine IW.region_seq tab_ok [some 38, some 37] rfl fun X K hX hK => ?_
  simp only [go_sem]
  refine hK _ _ ?_; clear hX hK X K
  show IW _ _ _ _ _ _ _ _
  repeat refine IW.seq ?_
  refine IW.cond rfl (fun hb => absurd hb (by decide)) (fun hb => ?_)
  repeat refine IW.seq ?_
  refine IW.region_seq tab_ok [some 45, some 44] rfl fun X K hX hK => ?_
  simp only [go_sem]
  refine hK _ _ ?_; clear hX hK X K
  show IW _ _ _ _ _ _ _ _
  repeat refine IW.seq ?_
  refine IW.cond rfl (fun hb => absurd hb (by decide)) (fun hb => ?_)
  repeat refine IW.seq ?_
  refine IW.region_seq tab_ok [some 58, some 57] rfl fun X K hX hK => ?_
  simp only [go_sem]
  refine hK _ _ ?_; clear hX hK X K
  show IW _ _ _ _ _ _ _ _
  repeat refine IW.seq ?_
  refine IW.cond rfl (fun hb => absurd hb (by decide)) (fun hb => ?_)
  repeat refine IW.seq ?_
  refine IW.region_seq tab_ok [some 61, some 60] rfl fun X K hX hK => ?_
  simp only [go_sem]
  refine hK _ _ ?_; clear hX hK X K
  show IW _ _ _ _ _ _ _ _
  repeat refine IW.seq ?_
  refine IW.cond rfl (fun hb => absurd hb (by decide)) (fun hb => ?_)
  repeat refine IW.seq ?_
  refine IW.region_seq tab_ok [some 66, some 65] rfl fun X K hX hK => ?_
  simp only [go_sem]
  refine hK _ _ ?_; clear hX hK X K
  show IW _ _ _ _ _ _ _ _
  repeat refine IW.seq ?_
  refine IW.cond rfl (fun hb => ?_) (fun hb => absurd hb (by decide))
  repeat refine IW.seq ?_
  refine IW.region_seq tab_ok [some 67, some 2] rfl fun X K hX hK => ?_
  simp only [go_sem]
  refine hX.opn _ _ rfl (opN_callE rfl rfl fBars (by intro d e; cases e; decide)) fun d' hd' => ?_
  simp only [mapX_ren, go_sem]
  refine hK _ _ ?_; clear hX hK X K
  show IW _ _ _ _ _ _ _ _
  exact IW.ret ⟨d', hd', Fin.scal (mapC_nold d') (mapX_ren _ d') (by simp [go_sem])⟩
theorem lookup_iff {d : List (Int × List ByteArray)} (hk : (keysD d).Nodup) {v : Int} {r : List ByteArray} : d.lookup v = some r ↔ (v, r) ∈ d := by
  induction d with
  | nil => simp
  | cons e d ih =>
    have hk' : e.1 ∉ keysD d ∧ (keysD d).Nodup := List.nodup_cons.1 hk
    rw [List.lookup_cons, List.mem_cons]
    by_cases c : v = e.1
    · subst c
      simp only [beq_self_eq_true]
      constructor
      · intro h; cases h; exact .inl rfl
      · rintro (h | h)
        · rw [← h]
        · exact absurd (List.mem_map.2 ⟨_, h, rfl⟩) hk'.1
    · have : (v == e.1) = false := by simpa using c
      rw [this, ih hk'.2]
      constructor
      · exact .inr
      · rintro (h | h)
        · rw [← h] at c; exact absurd rfl c
        · exact h
theorem lookup_perm {d' d : List (Int × List ByteArray)} (hp : d'.Perm d) (hk : (keysD d).Nodup) {v : Int} : d'.lookup v = d.lookup v := by
  have hk' : (keysD d').Nodup := (hp.map _).nodup_iff.2 hk
  cases h : d.lookup v with
  | some r => exact (lookup_iff hk').2 (hp.mem_iff.2 ((lookup_iff hk).1 h))
  | none =>
    cases h' : d'.lookup v with
    | none => rfl
    | some r =>
      have := (lookup_iff hk).2 (hp.mem_iff.1 ((lookup_iff hk').1 h'))
      rw [h] at this; cases this
theorem fGlyphE (s v : Int) (w h : Nat) (d : List (Int × List ByteArray)) (hd : FSpecE Try.prog 49 [.int .i64 s] (fun d' : List (Int × List ByteArray) => d'.Perm d) mapC) (hk : (keysD d).Nodup) (hok : okD w h d) (h0 : 0 < h) (hb1 : h ≤ 640) (hb2 : w ≤ 640) :
    FSpec Try.prog 18 [.int .i64 s, .int .i64 v] (.tup [resI (gW d w v) (gW d h v) (gP d v), .int .i64 (gE d v)]) (resR (gP d v)) := by
  cases hv : d.lookup v with
  | none =>
    simp only [gW, gP, gE, hv]
    refine FSpec.ghost (sv := .tup [.agg [.int .i64 0, .int .i64 0, .nils], .int .i64 20]) ?_ fun F w v h => ?_
    · refine FSpec.intro tab_ok Try.func18 rfl rfl rfl (by kernel_rfl) (by simp) fun w0 => ?_
      simp only [argTM, Nat.zero_add, Nat.reduceAdd]
      repeat refine IW.seq ?_
      refine IW.region_seq tab_ok [some 4, some 5] rfl fun X K hX hK => ?_
      simp only [go_sem]
      refine hK _ _ ?_; clear hX hK X K
      show IW _ _ _ _ _ _ _ _
      repeat refine IW.seq ?_
      refine IW.region_seq tab_ok [some 9, some 10, some 11, some 12, some 8, some 13, some 14, some 6, some 7] rfl fun X K hX hK => ?_
      simp only [go_sem]
      refine hX.opn _ _ rfl (opN_callE rfl rfl hd (by intro d e; cases e; decide)) fun d' hd' => ?_
      simp only [mapX_ren, go_sem]
      refine hX.quiet _ _ (OpG.of_B rfl (opB_lookup tab_ok rfl rfl m72 u3 (by simp [go_sem]) rfl rfl (mapX_keysI d'))) ?_
      rw [mapX_lk, lookup_perm hd' hk, hv]
      simp only [go_sem, Option.map_none]
      refine hK _ _ ?_; clear hX hK X K
      show IW _ _ _ _ _ _ _ _
      repeat refine IW.seq ?_
      refine IW.region_seq tab_ok [some 15, some 16] rfl fun X K hX hK => ?_
      simp only [go_sem]
      refine hK _ _ ?_; clear hX hK X K
      show IW _ _ _ _ _ _ _ _
      repeat refine IW.seq ?_
      refine IW.cond rfl (fun _ => ?_) (fun hb => absurd hb (by decide))
      repeat refine IW.seq ?_
      refine IW.region_seq tab_ok [some 17, none, some 5] rfl fun X K hX hK => ?_
      simp only [go_sem]
      refine hX.op _ _ rfl (opS_store tab_ok rfl (by simp [go_sem]) (by simp [go_sem]) (by simp [go_sem]) (by simp [go_sem]) (by simp [go_sem]) (by simp [go_sem])) ?_
      simp only [go_sem]
      refine hK _ _ ?_; clear hX hK X K
      show IW _ _ _ _ _ _ _ _
      refine IW.ret ⟨⟨⟨trivial, by simp [go_sem]⟩, trivial, trivial⟩, rfl, rfl, [], rfl, by simp, ?_, trivial⟩
      rfl
    · cases h with
      | tup _ us hl hh =>
        refine .tup _ us hl fun i c u e1 e2 => ?_
        match i, e1 with
        | 0, e1 => cases e1; exact rel_agg3 (fun _ h => h) (fun _ h => h) (fun _ h => rel_ls_nil h) (hh 0 _ u rfl e2)
        | 1, e1 => cases e1; exact hh 1 _ u rfl e2
        | i + 2, e1 => simp at e1
  | some r =>
    simp only [gW, gP, gE, hv]
    obtain ⟨k1, k2⟩ := hok _ (lookup_mem' hv)
    have hdr := fDraw' r w h h0 k1 k2 hb1 hb2
    refine FSpec.intro tab_ok Try.func18 rfl rfl rfl (by kernel_rfl) (by simp) fun w0 => ?_
    simp only [argTM, Nat.zero_add, Nat.reduceAdd]
    repeat refine IW.seq ?_
    refine IW.region_seq tab_ok [some 4, some 5] rfl fun X K hX hK => ?_
    simp only [go_sem]
    refine hK _ _ ?_; clear hX hK X K
    show IW _ _ _ _ _ _ _ _
    repeat refine IW.seq ?_
    refine IW.region_seq tab_ok [some 9, some 10, some 11, some 12, some 8, some 13, some 14, some 6, some 7] rfl fun X K hX hK => ?_
    simp only [go_sem]
    refine hX.opn _ _ rfl (opN_callE rfl rfl hd (by intro d e; cases e; decide)) fun d' hd' => ?_
    simp only [mapX_ren, go_sem]
    refine hX.quiet _ _ (OpG.of_B rfl (opB_lookup tab_ok rfl rfl m72 u3 (by simp [go_sem]) rfl rfl (mapX_keysI d'))) ?_
    rw [mapX_lk, lookup_perm hd' hk, hv]
    simp only [go_sem, Option.map_some]
    refine hK _ _ ?_; clear hX hK X K
    show IW _ _ _ _ _ _ _ _
    repeat refine IW.seq ?_
    refine IW.region_seq tab_ok [some 15, some 16] rfl fun X K hX hK => ?_
    simp only [go_sem]
    refine hK _ _ ?_; clear hX hK X K
    show IW _ _ _ _ _ _ _ _
    repeat refine IW.seq ?_
    refine IW.cond rfl (fun hb => absurd hb (by decide)) (fun _ => ?_)
    refine IW.skip ?_
    show IW _ _ _ _ _ _ _ _
    repeat refine IW.seq ?_
    refine IW.region_seq tab_ok [some 18, some 19, none, some 5] rfl fun X K hX hK => ?_
    simp only [go_sem]
    refine hX.quiet _ _ (OpG.of_B rfl (opB_call rfl rfl (FSpec.nz (hdr) (by simp [go_sem, List.map_cons, List.map_nil, List.append_nil, opnd, unc, resI, resR])))) ?_
    simp only [go_sem, resI, resR]
    refine hX.op _ _ rfl (opS_store tab_ok rfl (by simp [go_sem]) (by simp [go_sem]) (by simp [go_sem]) (by simp [go_sem]) (by simp [go_sem]) (by simp [go_sem])) ?_
    simp only [go_sem]
    refine hK _ _ ?_; clear hX hK X K
    show IW _ _ _ _ _ _ _ _
    refine IW.ret ⟨⟨⟨trivial, by simp [go_sem]⟩, trivial, trivial⟩, by simp [go_sem, resI], by simp [go_sem, resR, rowsNold], [1], rfl, by simp, ?_, ?_⟩
    · simp [go_sem, resI, resAll, resSV]
    · exact ⟨by simp [go_sem], trivial⟩
theorem fSizeE (s : Int) (w h : Nat) (d : List (Int × List ByteArray)) (hd : FSpecE Try.prog 49 [.int .i64 s] (fun d' : List (Int × List ByteArray) => d'.Perm d) mapC) (hok : okD w h d) (h0 : 0 < h) (hne : 0 < d.length) : FSpec Try.prog 13 [.int .i64 s] (.tup [.int .i64 w, .int .i64 h]) [] := by
  have hall : ∀ d' : List (Int × List ByteArray), d'.Perm d → okD w h d' ∧ 0 < d'.length := fun d' hp => ⟨fun e he => hok e (hp.mem_iff.1 he), by rw [hp.length_eq]; exact hne⟩
  clear hok hne
  refine FSpec.intro tab_ok Try.func13 rfl rfl rfl (by kernel_rfl) (by simp) fun w0 => ?_
  simp only [argTM, Nat.zero_add, Nat.reduceAdd]
  repeat refine IW.seq ?_
  refine IW.region_seq tab_ok [some 2, some 3] rfl fun X K hX hK => ?_
  simp only [go_sem]
  refine hK _ _ ?_; clear hX hK X K
  show IW _ _ _ _ _ _ _ _
  repeat refine IW.seq ?_
  refine IW.region_seq tab_ok [some 6, some 7, some 8] rfl fun X K hX hK => ?_
  simp only [go_sem]
  refine hX.opn _ _ rfl (opN_callE rfl rfl hd (by intro d e; cases e; decide)) fun d' hd' => ?_
  obtain ⟨hok, hne⟩ := hall d' hd'
  simp only [mapX_ren, go_sem]
  refine hX.quiet _ _ (OpG.of_B rfl (opB_range (o := false) (xs := mapX d') rfl m72)) ?_
  simp only [go_sem]
  refine hK _ _ ?_; clear hX hK X K
  show IW _ _ _ _ _ _ _ _
  repeat refine IW.seq ?_
  refine IW.block ?_
  refine IW.loop (α := Unit) (fun _ => [(8, .it false (mapX d') [])]) (fun _ => []) (fun _ => 0) () ?_ fun _ => ?_
  · refine Ent.cut ?_ ?_ <;> simp only [go_sem, mapX_bnd]
  · show IW _ _ _ _ _ _ _ _
    repeat refine IW.seq ?_
    refine IW.region_seq tab_ok [some 9, some 10] rfl fun X K hX hK => ?_
    simp only [go_sem]
    refine hX.opn _ _ rfl (opN_next rfl (by simp [go_sem]) (mapX_nomap d') (by intro d e; cases e; decide)) fun c hc => ?_
    match c, hc with
    | none, hc => exact absurd (hc 0 (by rw [mapX_length]; exact hne)) (by simp)
    | some j, hc =>
      have hj : j < d'.length := by have := hc.1; rwa [mapX_length] at this
      obtain ⟨k1, k2⟩ := hok _ (show d'.getD j (0, []) ∈ d' by simp [hj])
      generalize hr : d'.getD j (0, []) = e at *
      simp only [nextTo, go_sem, mapX_at hj, hr]
      refine hK _ _ ?_; clear hX hK X K
      show IW _ _ _ _ _ _ _ _
      repeat refine IW.seq ?_
      refine IW.cond rfl (fun hb => ?_) (fun hb => absurd hb (by decide))
      refine IW.skip ?_
      show IW _ _ _ _ _ _ _ _
      repeat refine IW.seq ?_
      refine IW.block ?_
      repeat refine IW.seq ?_
      refine IW.region_seq tab_ok [some 11, some 12, some 5] rfl fun X K hX hK => ?_
      simp only [go_sem]
      refine hX.quiet _ _ (OpG.of_B rfl (opB_entry (seen := []) (j := j) rfl (by rw [mapX_length]; exact hj))) ?_
      simp only [go_sem, mapX_at hj, hr]
      refine hK _ _ ?_; clear hX hK X K
      show IW _ _ _ _ _ _ _ _
      have hlt0 : 0 < e.2.length := by omega
      have hs0 := k2 0 h0
      repeat refine IW.seq ?_
      refine IW.region_seq tab_ok [some 13, some 14, some 15, some 16, some 17, some 18, some 2, some 3] rfl fun X K hX hK => ?_
      simp only [go_sem, strs_at hlt0, hs0, k1]
      refine ⟨⟨by omega, by omega⟩, ?_⟩
      refine hK _ _ ?_; clear hX hK X K
      show IW _ _ _ _ _ _ _ _
      refine IW.ret ⟨⟨trivial, trivial, trivial⟩, rfl, rfl, [], rfl, List.nodup_nil, ?_, trivial⟩
      simp [go_sem, resAll, resSV]
theorem owns_mapE {ρ : Rho} {O F : Nat → Prop} {w : World} {o : Bool} {d : List (Int × List ByteArray)} {v : Value} (h : VRel ρ O F w (.mp o (mapX d)) v) (hnd : (keysD d).Nodup) (hb : ∀ k ∈ keysD d, I64 k) (hl : d.length ≤ 1000) :
    ∃ b D0, v = .map (some b) ∧ w.ownsMap Try.prog 3 dumR b d.length D0 ∧ (_root_.Go.intKeys D0).Perm (keysD d) ∧ Maps.size D0 = d.length := by
  cases h with
  | mp _ _ b es cs hbl hw hk hn he hr =>
    have hlen : (mapX d).length = d.length := mapX_length d
    rw [hlen] at hn hw he
    have hkey : ∀ i, i < d.length → es[i]? = some ⟨.int .i64 (d.getD i (0, [])).1, cs i 1, i⟩ := fun i hi => by
      have h1 := hr i 0 [.int .i64 (d.getD i (0, [])).1, .sl false (strs (d.getD i (0, [])).2)] (.int .i64 (d.getD i (0, [])).1) (by simp [mapX, hi]) rfl
      rw [he i hi]
      generalize cs i 0 = c at h1
      cases h1; rfl
    have hesl : es.toList = (List.range d.length).map fun i => ⟨.int .i64 (d.getD i (0, [])).1, cs i 1, i⟩ := by
      apply List.ext_getElem?
      intro i
      rw [Array.getElem?_toList]
      rcases Nat.lt_or_ge i d.length with hi | hi
      · rw [hkey i hi]; simp [hi]
      · rw [Array.getElem?_eq_none (by omega)]; simp [hi]
    have hkb : ∀ i, i < d.length → I64 (d.getD i (0, [])).1 := fun i hi => hb _ (List.mem_map.2 ⟨d.getD i (0, []), by simp [hi], rfl⟩)
    have hwf : ∀ n, I64 n → (Lit.int .i64 n).wf = true := fun n hn => by
      have e1 : IntKind.i64.min = -9223372036854775808 := rfl
      have e2 : IntKind.i64.max = 9223372036854775807 := rfl
      simp [Lit.wf, e1, e2, hn.1, hn.2]
    have hrd : ∀ i, i < d.length → rd Try.prog 3 dumR ⟨.int .i64 (d.getD i (0, [])).1, cs i 1, i⟩ = some (.int .i64 (d.getD i (0, [])).1, (.nil : DataW Unit)) := fun i hi => by
      have hk := Maps.keyOf_int_mk u3 (hwf _ (hkb i hi))
      simp only [rd, dumR, hk]
      rfl
    have hD : es.toList.map (rg Try.prog 3 dumR) = d.map fun e => (.int .i64 e.1, (.nil : DataW Unit)) := by
      rw [hesl, List.map_map]
      apply List.ext_getElem
      · simp
      · intro i h1 h2
        simp at h1
        simp only [List.getElem_map, List.getElem_range, Function.comp, rg, hrd i h1, Option.getD_some]
        simp [h1]
    refine ⟨b, .map ((es.toList.map (rg Try.prog 3 dumR)).foldr DataW.insert []), rfl, ⟨es, d.length, hw, ⟨by simp [maxLen]; omega, ⟨?_, ?_, ?_⟩, ?_⟩, by omega, rfl⟩, ?_, ?_⟩
    · rw [hesl]; intro x hx
      obtain ⟨i, hi, rfl⟩ := List.mem_map.1 hx
      exact List.mem_range.1 hi
    · rw [hesl, List.map_map]
      have : (List.range d.length).map ((fun x : MapEntry => x.born) ∘ fun i => (⟨.int .i64 (d.getD i (0, [])).1, cs i 1, i⟩ : MapEntry)) = List.range d.length := by
        conv => rhs; rw [← List.map_id (List.range d.length)]
        exact List.map_congr_left fun i _ => rfl
      rw [this]; exact List.nodup_range
    · rw [hesl, List.map_map]
      have : (List.range d.length).map ((fun x : MapEntry => x.key) ∘ fun i => (⟨.int .i64 (d.getD i (0, [])).1, cs i 1, i⟩ : MapEntry)) = (keysD d).map (Value.int .i64) := by
        apply List.ext_getElem
        · simp [keysD]
        · intro i h1 h2; simp at h1; simp [keysD, h1]
      rw [this]
      exact (List.pairwise_map.2 (hnd.imp fun h e => h (by cases e; rfl)))
    · rw [hesl]; intro x hx
      obtain ⟨i, hi, rfl⟩ := List.mem_map.1 hx
      exact ⟨_, hrd i (List.mem_range.1 hi)⟩
    · show (((es.toList.map (rg Try.prog 3 dumR)).foldr DataW.insert []).map fun p => _root_.Go.intOf p.1).Perm _
      refine ((foldr_perm _).map _).trans ?_
      rw [hD, List.map_map]
      exact .of_eq (List.map_congr_left fun e _ => rfl)
    · show ((es.toList.map (rg Try.prog 3 dumR)).foldr DataW.insert []).length = _
      rw [(foldr_perm _).length_eq, List.length_map, Array.length_toList, hn]
/-- slices.Sorted of a map's keys, in any order of the map -/
theorem opSortedE {dst : Option Nat} {x : Operand} {ats : Array TypeId} {ty : TypeId} {pos : String} {after : Array Edge} {guard : Option (Nat × Bool)} {g : Operand → SV} {h : Heap} {id : Nat} {o : Bool} {d : List (Int × List ByteArray)}
    (hx : g x = .clo 78 [.ptr id 0 0]) (hr : hrow h id = some ⟨1, 72, [[.mp o (mapX d)]]⟩) {ks : List Int} (hp0 : (keysD d).Perm ks) (hs : ks.Pairwise (· < ·)) (hb : ∀ k ∈ keysD d, I64 k) (hl : d.length ≤ 1000) :
    OpB Try.prog ⟨dst, .call ⟨.value (.func 50), #[x], ats⟩, ty, pos, after, guard⟩ g h (lsV h.length ks.length) [some ⟨1, 3, nums .i64 ks⟩] := by
  intro ρ O F w a hsat hrl hfree next Q hn
  have hv := hrl x (by simp [Op.operands, Call.operands])
  rw [hx] at hv
  generalize hax : a.eval x = ax at hv
  cases hv with
  | clo _ _ vs hl2 hh =>
  obtain ⟨l⟩ := vs
  match l, hl2 with
  | [u], _ =>
  have hu := hh 0 _ u rfl rfl
  cases hu with
  | ptr _ _ _ ri hρ =>
  have hR := hsat.row id _ ri (hrow_some hr) hρ
  obtain ⟨arr, e1, e2, e3, e4⟩ := hR.cells
  obtain ⟨mv, hm1, hm2⟩ := e4 0 0 [.mp o (mapX d)] (.mp o (mapX d)) rfl rfl
  obtain ⟨b, D0, rfl, hown, hperm, hsz⟩ := owns_mapE hm2 (hp0.nodup_iff.2 (hs.imp fun h e => by omega)) hb hl
  have hbl : ri.b < w.heap.size := hR.lt
  have hcell : w.cell? ⟨ri.b, 0, none⟩ = some (.map (some b)) := by simp only [World.cell?, e1]; simpa using hm1
  have hadr : (⟨ri.b, 0 * ri.k + 0, none⟩ : Addr) = ⟨ri.b, 0, none⟩ := by simp
  rw [hadr] at hax
  have hseq := AnyZI.keys_gives (ρ := Try.keysA_ren) { Try.keysA with } Fence.wide 2 trivial rfl (by omega) ri.b b d.length D0 w hbl hcell hown
  have cS := AnyZI.sorted_in Try.sortedA Fence.wide 5 trivial trivial trivial trivial rfl (by omega) (Try.sortsA _) (enters_of Try.func77 (by kernel_rfl) rfl) 78 #[.pointer (some ⟨ri.b, 0, none⟩)] trivial (enters_of Try.func78 (by kernel_rfl) rfl) _ (Maps.size D0) (by simp [hsz, maxLen]; omega) (by omega) _ hseq
  have cC := (callsIn_wide (n := 5)).1 cS
  change Calls Try.prog 50 _ _ _ at cC
  have hexec : (execOp a.eval ⟨dst, .call ⟨.value (.func 50), #[x], ats⟩, ty, pos, after, guard⟩).run Try.prog w = .ok (.enter 50 #[.func (.func 78) #[] #[.pointer (some ⟨ri.b, 0, none⟩)]]) w := by
    simp only [execOp, resolve, show a.eval (.func 50) = .func (.func 50) #[] #[] from rfl, Deferred.ofValue]
    rw [run_bind, run_pure]
    simp only [invoke, Array.empty_append, Array.append_empty, List.map_toArray, List.map_cons, List.map_nil, hax]
    exact enters_of Try.func50 (by kernel_rfl) rfl _ _
  simp only [Oper.wp, hexec, Oper.upon]
  refine cC.mono fun e w' hp => ?_
  obtain ⟨v, ss, rfl, hS, hrow, hnil, hbw⟩ := hp
  have hpk : ss.Perm ks := (hS.trans hperm).trans hp0
  have hms := mergeSort_eq hpk hs
  rw [hms, hpk.length_eq] at hrow
  obtain ⟨ρ', hx', hid, hs', hv'⟩ := own_row hsat (hfree _ (Nat.le_refl _) (by simp)) hbw (e := 3) (k := 1) (by decide) (by omega) hrow (ys := nums .i64 ks) (by simp [nums]) (nums_w _ _) (fun i j x y f1 f2 => by
    rw [nums, List.getElem?_map] at f1
    obtain ⟨n, h1, rfl⟩ := Option.map_eq_some_iff.1 f1
    match j, f2 with
    | 0, f2 => cases f2; exact ⟨.int .i64 n, by simp [h1], fun _ _ _ _ => .int _ _⟩
    | j + 1, f2 => simp at f2)
  exact hn v ρ' F w' hx' (fun id e => by rw [hid id e]; simp) hs' hv'
theorem fValuesE (s : Int) (d : List (Int × List ByteArray)) (hd : FSpecE Try.prog 49 [.int .i64 s] (fun d' : List (Int × List ByteArray) => d'.Perm d) mapC) (hs : (keysD d).Pairwise (· < ·)) (hb : ∀ k ∈ keysD d, I64 k) (hl : d.length ≤ 1000) : FSpec Try.prog 16 [.int .i64 s] (lsV 0 (keysD d).length) [⟨1, 3, nums .i64 (keysD d)⟩] := by
  refine FSpec.intro tab_ok Try.func16 rfl rfl rfl (by kernel_rfl) (by simp) fun w0 => ?_
  simp only [argTM, Nat.zero_add, Nat.reduceAdd]
  repeat refine IW.seq ?_
  refine IW.region_seq tab_ok [some 2] rfl fun X K hX hK => ?_
  simp only [go_sem]
  refine hK _ _ ?_; clear hX hK X K
  show IW _ _ _ _ _ _ _ _
  repeat refine IW.seq ?_
  refine IW.region_seq tab_ok [some 3, some 4, some 5, some 6, some 2] rfl fun X K hX hK => ?_
  simp only [go_sem]
  refine hX.opn _ _ rfl (opN_callE rfl rfl hd (by intro d e; cases e; decide)) fun d' hd' => ?_
  simp only [mapX_ren, go_sem]
  refine hX.quiet _ _ (OpG.of_B rfl (opKeys (o := false) (xs := mapX d') rfl)) ?_
  simp only [go_sem]
  refine hX.quiet _ _ (OpG.of_B rfl (opSortedE (d := d') rfl rfl (hd'.map _) hs (fun k hk => hb k ((hd'.map _).mem_iff.1 hk)) (by rw [hd'.length_eq]; exact hl))) ?_
  simp only [go_sem]
  refine hK _ _ ?_; clear hX hK X K
  show IW _ _ _ _ _ _ _ _
  refine IW.ret (Fin.tmp1 1 (by simp [go_sem]) (by simp [go_sem]) (by simp [go_sem, keysD]) (by simp [go_sem, keysD]))
end Go.Proofs.Ytnbpbehlemaeoaa

set_option linter.unusedVariables false
set_option linter.unusedSimpArgs false
set_option maxRecDepth 10000
namespace Go.Proofs.Ytnbpbehlemaeoaa
open Go.IL
open Go.RowKit Go.Maps
theorem sizeN (s : Int) (h : ∀ k : Int, 1 ≤ k → k ≤ 10 → s ≠ k) (W : World) : Calls Try.prog 13 #[.int .i64 s] W fun e w' => e = .returned (.tuple #[.int .i64 0, .int .i64 0]) ∧ Below W.heap.size W w' := by
  have hc : ∀ W, Calls Try.prog 49 #[.int .i64 s] W fun e w' => e = .returned (.map none) ∧ Below W.heap.size W w' := fun W =>
    ((fDrawNone s h).2 W #[.int .i64 s] ⟨rfl, fun i s' v e1 e2 => by
      match i with
      | 0 => cases e1; cases e2; exact .int _ _
      | i + 1 => simp at e1⟩).mono fun e w' hp => by
        obtain ⟨v, ρ, F, rfl, hb, _, _, _, _, hv⟩ := hp
        cases hv
        exact ⟨rfl, hb⟩
  have hrg := fun w => run_range_nilMap (P := Try.prog) w 72 3 74 m72
  have hnx : ∀ (w : World) ty, (Instr.next (.pointer (some ⟨w.heap.size, 0, none⟩)) false ty).run Try.prog (w.alloc (.mapIter none 0 #[] 0)) = _ := fun w ty => run_next_nilMap w ty 0 0 #[]
  go_enter Try.func13, Try.ntmps13
  go_wp2_with fail
  refine (hc _).mono ?_
  rintro e w1 ⟨rfl, hb⟩
  simp only []
  go_at_K
  go_wp2
  refine wp_loop_rounds 1 ?_
  rw [rounds_succ]
  go_wp2
  first | go_ret | go_ret2 | go_end0
  exact ⟨rfl, hb.alloc hb.size _⟩
/-- The size of a set that there is not. -/
theorem fSizeN (s : Int) (h : ∀ k : Int, 1 ≤ k → k ≤ 10 → s ≠ k) : FSpec Try.prog 13 [.int .i64 s] (.tup [.int .i64 0, .int .i64 0]) [] := by
  refine ⟨enters Try.func13 (by kernel_rfl) rfl, fun w cargs hA => ?_⟩
  have hl := hA.1
  obtain ⟨l⟩ := cargs
  match l, hl with
  | [v], _ =>
    have hv := hA.2 0 _ v rfl rfl
    cases hv
    refine (sizeN s h w).mono fun e w' hp => ?_
    obtain ⟨rfl, hb⟩ := hp
    refine ⟨_, fun _ => none, fun _ => False, rfl, hb, ⟨fun id r ri e => by simp at e, fun id id' r r' ri ri' e => by simp at e, fun b hb => by rcases hb with hb | hb <;> exact hb.elim⟩, fun b hb => hb.elim, fun id ri e => (by cases e), fun _ _ => rfl, ?_⟩
    exact .tup _ _ rfl fun i c v e1 e2 => by
      match i with
      | 0 => cases e1; cases e2; exact .int _ _
      | 1 => cases e1; cases e2; exact .int _ _
      | i + 2 => simp at e1
end Go.Proofs.Ytnbpbehlemaeoaa

set_option linter.unusedVariables false
set_option linter.unusedSimpArgs false
set_option maxRecDepth 10000
namespace Go.Proofs.Ytnbpbehlemaeoaa
open Go.IL
theorem refSize_1 : FSpec Try.prog 14 [.int .i64 1] (.tup [.int .i64 6, .int .i64 5]) [] := by
  refine FSpec.intro tab_ok Try.func14 rfl rfl rfl (by kernel_rfl) (by simp) fun w0 => ?_
  simp only [argTM, Nat.zero_add, Nat.reduceAdd]
  repeat refine IW.seq ?_
  refine IW.region_seq tab_ok [some 2, some 3] rfl fun X K hX hK => ?_
  simp only [go_sem]
  refine hK _ _ ?_; clear hX hK X K
  show IW _ _ _ _ _ _ _ _
  repeat refine IW.seq ?_
  refine IW.region_seq tab_ok [some 4] rfl fun X K hX hK => ?_
  simp only [go_sem]
  refine hK _ _ ?_; clear hX hK X K
  show IW _ _ _ _ _ _ _ _
  repeat refine IW.seq ?_
  refine IW.block ?_
  repeat refine IW.seq ?_
  refine IW.region_seq tab_ok [some 6, some 5] rfl fun X K hX hK => ?_
  simp only [go_sem]
  refine hK _ _ ?_; clear hX hK X K
  show IW _ _ _ _ _ _ _ _
  repeat refine IW.seq ?_
  refine IW.cond rfl (fun _ => ?_) (fun hb => absurd hb (by decide))
  refine IW.skip ?_
  show IW _ _ _ _ _ _ _ _
  repeat refine IW.seq ?_
  refine IW.cond rfl (fun _ => ?_) (fun hb => absurd hb (by decide))
  repeat refine IW.seq ?_
  refine IW.region_seq tab_ok [some 2, some 3] rfl fun X K hX hK => ?_
  simp only [go_sem]
  refine hK _ _ ?_; clear hX hK X K
  show IW _ _ _ _ _ _ _ _
  refine IW.ret ⟨⟨trivial, trivial, trivial⟩, rfl, rfl, [], rfl, List.nodup_nil, ?_, trivial⟩
  simp [go_sem, resAll, resSV]
theorem refSize_2 : FSpec Try.prog 14 [.int .i64 2] (.tup [.int .i64 4, .int .i64 5]) [] := by
  refine FSpec.intro tab_ok Try.func14 rfl rfl rfl (by kernel_rfl) (by simp) fun w0 => ?_
  simp only [argTM, Nat.zero_add, Nat.reduceAdd]
  repeat refine IW.seq ?_
  refine IW.region_seq tab_ok [some 2, some 3] rfl fun X K hX hK => ?_
  simp only [go_sem]
  refine hK _ _ ?_; clear hX hK X K
  show IW _ _ _ _ _ _ _ _
  repeat refine IW.seq ?_
  refine IW.region_seq tab_ok [some 4] rfl fun X K hX hK => ?_
  simp only [go_sem]
  refine hK _ _ ?_; clear hX hK X K
  show IW _ _ _ _ _ _ _ _
  repeat refine IW.seq ?_
  refine IW.block ?_
  repeat refine IW.seq ?_
  refine IW.region_seq tab_ok [some 6, some 5] rfl fun X K hX hK => ?_
  simp only [go_sem]
  refine hK _ _ ?_; clear hX hK X K
  show IW _ _ _ _ _ _ _ _
  repeat refine IW.seq ?_
  refine IW.cond rfl (fun hb => absurd hb (by decide)) (fun _ => ?_)
  repeat refine IW.seq ?_
  refine IW.region_seq tab_ok [some 7, some 5] rfl fun X K hX hK => ?_
  simp only [go_sem]
  refine hK _ _ ?_; clear hX hK X K
  show IW _ _ _ _ _ _ _ _
  repeat refine IW.seq ?_
  refine IW.cond rfl (fun hb => absurd hb (by decide)) (fun _ => ?_)
  repeat refine IW.seq ?_
  refine IW.region_seq tab_ok [some 9, some 8] rfl fun X K hX hK => ?_
  simp only [go_sem]
  refine hK _ _ ?_; clear hX hK X K
  show IW _ _ _ _ _ _ _ _
  repeat refine IW.seq ?_
  refine IW.cond rfl (fun _ => ?_) (fun hb => absurd hb (by decide))
  refine IW.skip ?_
  show IW _ _ _ _ _ _ _ _
  repeat refine IW.seq ?_
  refine IW.cond rfl (fun _ => ?_) (fun hb => absurd hb (by decide))
  repeat refine IW.seq ?_
  refine IW.region_seq tab_ok [some 2, some 3] rfl fun X K hX hK => ?_
  simp only [go_sem]
  refine hK _ _ ?_; clear hX hK X K
  show IW _ _ _ _ _ _ _ _
  refine IW.ret ⟨⟨trivial, trivial, trivial⟩, rfl, rfl, [], rfl, List.nodup_nil, ?_, trivial⟩
  simp [go_sem, resAll, resSV]
theorem refSize_3 : FSpec Try.prog 14 [.int .i64 3] (.tup [.int .i64 2, .int .i64 5]) [] := by
  refine FSpec.intro tab_ok Try.func14 rfl rfl rfl (by kernel_rfl) (by simp) fun w0 => ?_
  simp only [argTM, Nat.zero_add, Nat.reduceAdd]
  repeat refine IW.seq ?_
  refine IW.region_seq tab_ok [some 2, some 3] rfl fun X K hX hK => ?_
  simp only [go_sem]
  refine hK _ _ ?_; clear hX hK X K
  show IW _ _ _ _ _ _ _ _
  repeat refine IW.seq ?_
  refine IW.region_seq tab_ok [some 4] rfl fun X K hX hK => ?_
  simp only [go_sem]
  refine hK _ _ ?_; clear hX hK X K
  show IW _ _ _ _ _ _ _ _
  repeat refine IW.seq ?_
  refine IW.block ?_
  repeat refine IW.seq ?_
  refine IW.region_seq tab_ok [some 6, some 5] rfl fun X K hX hK => ?_
  simp only [go_sem]
  refine hK _ _ ?_; clear hX hK X K
  show IW _ _ _ _ _ _ _ _
  repeat refine IW.seq ?_
  refine IW.cond rfl (fun hb => absurd hb (by decide)) (fun _ => ?_)
  repeat refine IW.seq ?_
  refine IW.region_seq tab_ok [some 7, some 5] rfl fun X K hX hK => ?_
  simp only [go_sem]
  refine hK _ _ ?_; clear hX hK X K
  show IW _ _ _ _ _ _ _ _
  repeat refine IW.seq ?_
  refine IW.cond rfl (fun hb => absurd hb (by decide)) (fun _ => ?_)
  repeat refine IW.seq ?_
  refine IW.region_seq tab_ok [some 9, some 8] rfl fun X K hX hK => ?_
  simp only [go_sem]
  refine hK _ _ ?_; clear hX hK X K
  show IW _ _ _ _ _ _ _ _
  repeat refine IW.seq ?_
  refine IW.cond rfl (fun hb => absurd hb (by decide)) (fun _ => ?_)
  repeat refine IW.seq ?_
  refine IW.region_seq tab_ok [some 10, some 8] rfl fun X K hX hK => ?_
  simp only [go_sem]
  refine hK _ _ ?_; clear hX hK X K
  show IW _ _ _ _ _ _ _ _
  repeat refine IW.seq ?_
  refine IW.cond rfl (fun hb => absurd hb (by decide)) (fun _ => ?_)
  repeat refine IW.seq ?_
  refine IW.region_seq tab_ok [some 11, some 8] rfl fun X K hX hK => ?_
  simp only [go_sem]
  refine hK _ _ ?_; clear hX hK X K
  show IW _ _ _ _ _ _ _ _
  repeat refine IW.seq ?_
  refine IW.cond rfl (fun hb => absurd hb (by decide)) (fun _ => ?_)
  repeat refine IW.seq ?_
  refine IW.region_seq tab_ok [some 13, some 12] rfl fun X K hX hK => ?_
  simp only [go_sem]
  refine hK _ _ ?_; clear hX hK X K
  show IW _ _ _ _ _ _ _ _
  repeat refine IW.seq ?_
  refine IW.cond rfl (fun _ => ?_) (fun hb => absurd hb (by decide))
  repeat refine IW.seq ?_
  refine IW.region_seq tab_ok [some 2, some 3] rfl fun X K hX hK => ?_
  simp only [go_sem]
  refine hK _ _ ?_; clear hX hK X K
  show IW _ _ _ _ _ _ _ _
  refine IW.ret ⟨⟨trivial, trivial, trivial⟩, rfl, rfl, [], rfl, List.nodup_nil, ?_, trivial⟩
  simp [go_sem, resAll, resSV]
theorem refSize_4 : FSpec Try.prog 14 [.int .i64 4] (.tup [.int .i64 3, .int .i64 5]) [] := by
  refine FSpec.intro tab_ok Try.func14 rfl rfl rfl (by kernel_rfl) (by simp) fun w0 => ?_
  simp only [argTM, Nat.zero_add, Nat.reduceAdd]
  repeat refine IW.seq ?_
  refine IW.region_seq tab_ok [some 2, some 3] rfl fun X K hX hK => ?_
  simp only [go_sem]
  refine hK _ _ ?_; clear hX hK X K
  show IW _ _ _ _ _ _ _ _
  repeat refine IW.seq ?_
  refine IW.region_seq tab_ok [some 4] rfl fun X K hX hK => ?_
  simp only [go_sem]
  refine hK _ _ ?_; clear hX hK X K
  show IW _ _ _ _ _ _ _ _
  repeat refine IW.seq ?_
  refine IW.block ?_
  repeat refine IW.seq ?_
  refine IW.region_seq tab_ok [some 6, some 5] rfl fun X K hX hK => ?_
  simp only [go_sem]
  refine hK _ _ ?_; clear hX hK X K
  show IW _ _ _ _ _ _ _ _
  repeat refine IW.seq ?_
  refine IW.cond rfl (fun hb => absurd hb (by decide)) (fun _ => ?_)
  repeat refine IW.seq ?_
  refine IW.region_seq tab_ok [some 7, some 5] rfl fun X K hX hK => ?_
  simp only [go_sem]
  refine hK _ _ ?_; clear hX hK X K
  show IW _ _ _ _ _ _ _ _
  repeat refine IW.seq ?_
  refine IW.cond rfl (fun hb => absurd hb (by decide)) (fun _ => ?_)
  repeat refine IW.seq ?_
  refine IW.region_seq tab_ok [some 9, some 8] rfl fun X K hX hK => ?_
  simp only [go_sem]
  refine hK _ _ ?_; clear hX hK X K
  show IW _ _ _ _ _ _ _ _
  repeat refine IW.seq ?_
  refine IW.cond rfl (fun hb => absurd hb (by decide)) (fun _ => ?_)
  repeat refine IW.seq ?_
  refine IW.region_seq tab_ok [some 10, some 8] rfl fun X K hX hK => ?_
  simp only [go_sem]
  refine hK _ _ ?_; clear hX hK X K
  show IW _ _ _ _ _ _ _ _
  repeat refine IW.seq ?_
  refine IW.cond rfl (fun hb => absurd hb (by decide)) (fun _ => ?_)
  repeat refine IW.seq ?_
  refine IW.region_seq tab_ok [some 11, some 8] rfl fun X K hX hK => ?_
  simp only [go_sem]
  refine hK _ _ ?_; clear hX hK X K
  show IW _ _ _ _ _ _ _ _
  repeat refine IW.seq ?_
  refine IW.cond rfl (fun hb => absurd hb (by decide)) (fun _ => ?_)
  repeat refine IW.seq ?_
  refine IW.region_seq tab_ok [some 13, some 12] rfl fun X K hX hK => ?_
  simp only [go_sem]
  refine hK _ _ ?_; clear hX hK X K
  show IW _ _ _ _ _ _ _ _
  repeat refine IW.seq ?_
  refine IW.cond rfl (fun hb => absurd hb (by decide)) (fun _ => ?_)
  repeat refine IW.seq ?_
  refine IW.region_seq tab_ok [some 15, some 14] rfl fun X K hX hK => ?_
  simp only [go_sem]
  refine hK _ _ ?_; clear hX hK X K
  show IW _ _ _ _ _ _ _ _
  repeat refine IW.seq ?_
  refine IW.cond rfl (fun _ => ?_) (fun hb => absurd hb (by decide))
  repeat refine IW.seq ?_
  refine IW.region_seq tab_ok [some 2, some 3] rfl fun X K hX hK => ?_
  simp only [go_sem]
  refine hK _ _ ?_; clear hX hK X K
  show IW _ _ _ _ _ _ _ _
  refine IW.ret ⟨⟨trivial, trivial, trivial⟩, rfl, rfl, [], rfl, List.nodup_nil, ?_, trivial⟩
  simp [go_sem, resAll, resSV]
theorem refSize_5 : FSpec Try.prog 14 [.int .i64 5] (.tup [.int .i64 6, .int .i64 7]) [] := by
  refine FSpec.intro tab_ok Try.func14 rfl rfl rfl (by kernel_rfl) (by simp) fun w0 => ?_
  simp only [argTM, Nat.zero_add, Nat.reduceAdd]
  repeat refine IW.seq ?_
  refine IW.region_seq tab_ok [some 2, some 3] rfl fun X K hX hK => ?_
  simp only [go_sem]
  refine hK _ _ ?_; clear hX hK X K
  show IW _ _ _ _ _ _ _ _
  repeat refine IW.seq ?_
  refine IW.region_seq tab_ok [some 4] rfl fun X K hX hK => ?_
  simp only [go_sem]
  refine hK _ _ ?_; clear hX hK X K
  show IW _ _ _ _ _ _ _ _
  repeat refine IW.seq ?_
  refine IW.block ?_
  repeat refine IW.seq ?_
  refine IW.region_seq tab_ok [some 6, some 5] rfl fun X K hX hK => ?_
  simp only [go_sem]
  refine hK _ _ ?_; clear hX hK X K
  show IW _ _ _ _ _ _ _ _
  repeat refine IW.seq ?_
  refine IW.cond rfl (fun hb => absurd hb (by decide)) (fun _ => ?_)
  repeat refine IW.seq ?_
  refine IW.region_seq tab_ok [some 7, some 5] rfl fun X K hX hK => ?_
  simp only [go_sem]
  refine hK _ _ ?_; clear hX hK X K
  show IW _ _ _ _ _ _ _ _
  repeat refine IW.seq ?_
  refine IW.cond rfl (fun hb => absurd hb (by decide)) (fun _ => ?_)
  repeat refine IW.seq ?_
  refine IW.region_seq tab_ok [some 9, some 8] rfl fun X K hX hK => ?_
  simp only [go_sem]
  refine hK _ _ ?_; clear hX hK X K
  show IW _ _ _ _ _ _ _ _
  repeat refine IW.seq ?_
  refine IW.cond rfl (fun hb => absurd hb (by decide)) (fun _ => ?_)
  repeat refine IW.seq ?_
  refine IW.region_seq tab_ok [some 10, some 8] rfl fun X K hX hK => ?_
  simp only [go_sem]
  refine hK _ _ ?_; clear hX hK X K
  show IW _ _ _ _ _ _ _ _
  repeat refine IW.seq ?_
  refine IW.cond rfl (fun hb => absurd hb (by decide)) (fun _ => ?_)
  repeat refine IW.seq ?_
  refine IW.region_seq tab_ok [some 11, some 8] rfl fun X K hX hK => ?_
  simp only [go_sem]
  refine hK _ _ ?_; clear hX hK X K
  show IW _ _ _ _ _ _ _ _
  repeat refine IW.seq ?_
  refine IW.cond rfl (fun hb => absurd hb (by decide)) (fun _ => ?_)
  repeat refine IW.seq ?_
  refine IW.region_seq tab_ok [some 13, some 12] rfl fun X K hX hK => ?_
  simp only [go_sem]
  refine hK _ _ ?_; clear hX hK X K
  show IW _ _ _ _ _ _ _ _
  repeat refine IW.seq ?_
  refine IW.cond rfl (fun hb => absurd hb (by decide)) (fun _ => ?_)
  repeat refine IW.seq ?_
  refine IW.region_seq tab_ok [some 15, some 14] rfl fun X K hX hK => ?_
  simp only [go_sem]
  refine hK _ _ ?_; clear hX hK X K
  show IW _ _ _ _ _ _ _ _
  repeat refine IW.seq ?_
  refine IW.cond rfl (fun hb => absurd hb (by decide)) (fun _ => ?_)
  repeat refine IW.seq ?_
  refine IW.region_seq tab_ok [some 17, some 16] rfl fun X K hX hK => ?_
  simp only [go_sem]
  refine hK _ _ ?_; clear hX hK X K
  show IW _ _ _ _ _ _ _ _
  repeat refine IW.seq ?_
  refine IW.cond rfl (fun _ => ?_) (fun hb => absurd hb (by decide))
  repeat refine IW.seq ?_
  refine IW.region_seq tab_ok [some 2, some 3] rfl fun X K hX hK => ?_
  simp only [go_sem]
  refine hK _ _ ?_; clear hX hK X K
  show IW _ _ _ _ _ _ _ _
  refine IW.ret ⟨⟨trivial, trivial, trivial⟩, rfl, rfl, [], rfl, List.nodup_nil, ?_, trivial⟩
  simp [go_sem, resAll, resSV]
theorem refSize_6 : FSpec Try.prog 14 [.int .i64 6] (.tup [.int .i64 6, .int .i64 5]) [] := by
  refine FSpec.intro tab_ok Try.func14 rfl rfl rfl (by kernel_rfl) (by simp) fun w0 => ?_
  simp only [argTM, Nat.zero_add, Nat.reduceAdd]
  repeat refine IW.seq ?_
  refine IW.region_seq tab_ok [some 2, some 3] rfl fun X K hX hK => ?_
  simp only [go_sem]
  refine hK _ _ ?_; clear hX hK X K
  show IW _ _ _ _ _ _ _ _
  repeat refine IW.seq ?_
  refine IW.region_seq tab_ok [some 4] rfl fun X K hX hK => ?_
  simp only [go_sem]
  refine hK _ _ ?_; clear hX hK X K
  show IW _ _ _ _ _ _ _ _
  repeat refine IW.seq ?_
  refine IW.block ?_
  repeat refine IW.seq ?_
  refine IW.region_seq tab_ok [some 6, some 5] rfl fun X K hX hK => ?_
  simp only [go_sem]
  refine hK _ _ ?_; clear hX hK X K
  show IW _ _ _ _ _ _ _ _
  repeat refine IW.seq ?_
  refine IW.cond rfl (fun hb => absurd hb (by decide)) (fun _ => ?_)
  repeat refine IW.seq ?_
  refine IW.region_seq tab_ok [some 7, some 5] rfl fun X K hX hK => ?_
  simp only [go_sem]
  refine hK _ _ ?_; clear hX hK X K
  show IW _ _ _ _ _ _ _ _
  repeat refine IW.seq ?_
  refine IW.cond rfl (fun _ => ?_) (fun hb => absurd hb (by decide))
  repeat refine IW.seq ?_
  refine IW.region_seq tab_ok [some 2, some 3] rfl fun X K hX hK => ?_
  simp only [go_sem]
  refine hK _ _ ?_; clear hX hK X K
  show IW _ _ _ _ _ _ _ _
  refine IW.ret ⟨⟨trivial, trivial, trivial⟩, rfl, rfl, [], rfl, List.nodup_nil, ?_, trivial⟩
  simp [go_sem, resAll, resSV]
theorem refSize_7 : FSpec Try.prog 14 [.int .i64 7] (.tup [.int .i64 4, .int .i64 5]) [] := by
  refine FSpec.intro tab_ok Try.func14 rfl rfl rfl (by kernel_rfl) (by simp) fun w0 => ?_
  simp only [argTM, Nat.zero_add, Nat.reduceAdd]
  repeat refine IW.seq ?_
  refine IW.region_seq tab_ok [some 2, some 3] rfl fun X K hX hK => ?_
  simp only [go_sem]
  refine hK _ _ ?_; clear hX hK X K
  show IW _ _ _ _ _ _ _ _
  repeat refine IW.seq ?_
  refine IW.region_seq tab_ok [some 4] rfl fun X K hX hK => ?_
  simp only [go_sem]
  refine hK _ _ ?_; clear hX hK X K
  show IW _ _ _ _ _ _ _ _
  repeat refine IW.seq ?_
  refine IW.block ?_
  repeat refine IW.seq ?_
  refine IW.region_seq tab_ok [some 6, some 5] rfl fun X K hX hK => ?_
  simp only [go_sem]
  refine hK _ _ ?_; clear hX hK X K
  show IW _ _ _ _ _ _ _ _
  repeat refine IW.seq ?_
  refine IW.cond rfl (fun hb => absurd hb (by decide)) (fun _ => ?_)
  repeat refine IW.seq ?_
  refine IW.region_seq tab_ok [some 7, some 5] rfl fun X K hX hK => ?_
  simp only [go_sem]
  refine hK _ _ ?_; clear hX hK X K
  show IW _ _ _ _ _ _ _ _
  repeat refine IW.seq ?_
  refine IW.cond rfl (fun hb => absurd hb (by decide)) (fun _ => ?_)
  repeat refine IW.seq ?_
  refine IW.region_seq tab_ok [some 9, some 8] rfl fun X K hX hK => ?_
  simp only [go_sem]
  refine hK _ _ ?_; clear hX hK X K
  show IW _ _ _ _ _ _ _ _
  repeat refine IW.seq ?_
  refine IW.cond rfl (fun hb => absurd hb (by decide)) (fun _ => ?_)
  repeat refine IW.seq ?_
  refine IW.region_seq tab_ok [some 10, some 8] rfl fun X K hX hK => ?_
  simp only [go_sem]
  refine hK _ _ ?_; clear hX hK X K
  show IW _ _ _ _ _ _ _ _
  repeat refine IW.seq ?_
  refine IW.cond rfl (fun _ => ?_) (fun hb => absurd hb (by decide))
  refine IW.skip ?_
  show IW _ _ _ _ _ _ _ _
  repeat refine IW.seq ?_
  refine IW.cond rfl (fun _ => ?_) (fun hb => absurd hb (by decide))
  repeat refine IW.seq ?_
  refine IW.region_seq tab_ok [some 2, some 3] rfl fun X K hX hK => ?_
  simp only [go_sem]
  refine hK _ _ ?_; clear hX hK X K
  show IW _ _ _ _ _ _ _ _
  refine IW.ret ⟨⟨trivial, trivial, trivial⟩, rfl, rfl, [], rfl, List.nodup_nil, ?_, trivial⟩
  simp [go_sem, resAll, resSV]
theorem refSize_8 : FSpec Try.prog 14 [.int .i64 8] (.tup [.int .i64 4, .int .i64 5]) [] := by
  refine FSpec.intro tab_ok Try.func14 rfl rfl rfl (by kernel_rfl) (by simp) fun w0 => ?_
  simp only [argTM, Nat.zero_add, Nat.reduceAdd]
  repeat refine IW.seq ?_
  refine IW.region_seq tab_ok [some 2, some 3] rfl fun X K hX hK => ?_
  simp only [go_sem]
  refine hK _ _ ?_; clear hX hK X K
  show IW _ _ _ _ _ _ _ _
  repeat refine IW.seq ?_
  refine IW.region_seq tab_ok [some 4] rfl fun X K hX hK => ?_
  simp only [go_sem]
  refine hK _ _ ?_; clear hX hK X K
  show IW _ _ _ _ _ _ _ _
  repeat refine IW.seq ?_
  refine IW.block ?_
  repeat refine IW.seq ?_
  refine IW.region_seq tab_ok [some 6, some 5] rfl fun X K hX hK => ?_
  simp only [go_sem]
  refine hK _ _ ?_; clear hX hK X K
  show IW _ _ _ _ _ _ _ _
  repeat refine IW.seq ?_
  refine IW.cond rfl (fun hb => absurd hb (by decide)) (fun _ => ?_)
  repeat refine IW.seq ?_
  refine IW.region_seq tab_ok [some 7, some 5] rfl fun X K hX hK => ?_
  simp only [go_sem]
  refine hK _ _ ?_; clear hX hK X K
  show IW _ _ _ _ _ _ _ _
  repeat refine IW.seq ?_
  refine IW.cond rfl (fun hb => absurd hb (by decide)) (fun _ => ?_)
  repeat refine IW.seq ?_
  refine IW.region_seq tab_ok [some 9, some 8] rfl fun X K hX hK => ?_
  simp only [go_sem]
  refine hK _ _ ?_; clear hX hK X K
  show IW _ _ _ _ _ _ _ _
  repeat refine IW.seq ?_
  refine IW.cond rfl (fun hb => absurd hb (by decide)) (fun _ => ?_)
  repeat refine IW.seq ?_
  refine IW.region_seq tab_ok [some 10, some 8] rfl fun X K hX hK => ?_
  simp only [go_sem]
  refine hK _ _ ?_; clear hX hK X K
  show IW _ _ _ _ _ _ _ _
  repeat refine IW.seq ?_
  refine IW.cond rfl (fun hb => absurd hb (by decide)) (fun _ => ?_)
  repeat refine IW.seq ?_
  refine IW.region_seq tab_ok [some 11, some 8] rfl fun X K hX hK => ?_
  simp only [go_sem]
  refine hK _ _ ?_; clear hX hK X K
  show IW _ _ _ _ _ _ _ _
  repeat refine IW.seq ?_
  refine IW.cond rfl (fun _ => ?_) (fun hb => absurd hb (by decide))
  repeat refine IW.seq ?_
  refine IW.region_seq tab_ok [some 2, some 3] rfl fun X K hX hK => ?_
  simp only [go_sem]
  refine hK _ _ ?_; clear hX hK X K
  show IW _ _ _ _ _ _ _ _
  refine IW.ret ⟨⟨trivial, trivial, trivial⟩, rfl, rfl, [], rfl, List.nodup_nil, ?_, trivial⟩
  simp [go_sem, resAll, resSV]
theorem refSize_9 : FSpec Try.prog 14 [.int .i64 9] (.tup [.int .i64 10, .int .i64 25]) [] := by
  refine FSpec.intro tab_ok Try.func14 rfl rfl rfl (by kernel_rfl) (by simp) fun w0 => ?_
  simp only [argTM, Nat.zero_add, Nat.reduceAdd]
  repeat refine IW.seq ?_
  refine IW.region_seq tab_ok [some 2, some 3] rfl fun X K hX hK => ?_
  simp only [go_sem]
  refine hK _ _ ?_; clear hX hK X K
  show IW _ _ _ _ _ _ _ _
  repeat refine IW.seq ?_
  refine IW.region_seq tab_ok [some 4] rfl fun X K hX hK => ?_
  simp only [go_sem]
  refine hK _ _ ?_; clear hX hK X K
  show IW _ _ _ _ _ _ _ _
  repeat refine IW.seq ?_
  refine IW.block ?_
  repeat refine IW.seq ?_
  refine IW.region_seq tab_ok [some 6, some 5] rfl fun X K hX hK => ?_
  simp only [go_sem]
  refine hK _ _ ?_; clear hX hK X K
  show IW _ _ _ _ _ _ _ _
  repeat refine IW.seq ?_
  refine IW.cond rfl (fun hb => absurd hb (by decide)) (fun _ => ?_)
  repeat refine IW.seq ?_
  refine IW.region_seq tab_ok [some 7, some 5] rfl fun X K hX hK => ?_
  simp only [go_sem]
  refine hK _ _ ?_; clear hX hK X K
  show IW _ _ _ _ _ _ _ _
  repeat refine IW.seq ?_
  refine IW.cond rfl (fun hb => absurd hb (by decide)) (fun _ => ?_)
  repeat refine IW.seq ?_
  refine IW.region_seq tab_ok [some 9, some 8] rfl fun X K hX hK => ?_
  simp only [go_sem]
  refine hK _ _ ?_; clear hX hK X K
  show IW _ _ _ _ _ _ _ _
  repeat refine IW.seq ?_
  refine IW.cond rfl (fun hb => absurd hb (by decide)) (fun _ => ?_)
  repeat refine IW.seq ?_
  refine IW.region_seq tab_ok [some 10, some 8] rfl fun X K hX hK => ?_
  simp only [go_sem]
  refine hK _ _ ?_; clear hX hK X K
  show IW _ _ _ _ _ _ _ _
  repeat refine IW.seq ?_
  refine IW.cond rfl (fun hb => absurd hb (by decide)) (fun _ => ?_)
  repeat refine IW.seq ?_
  refine IW.region_seq tab_ok [some 11, some 8] rfl fun X K hX hK => ?_
  simp only [go_sem]
  refine hK _ _ ?_; clear hX hK X K
  show IW _ _ _ _ _ _ _ _
  repeat refine IW.seq ?_
  refine IW.cond rfl (fun hb => absurd hb (by decide)) (fun _ => ?_)
  repeat refine IW.seq ?_
  refine IW.region_seq tab_ok [some 13, some 12] rfl fun X K hX hK => ?_
  simp only [go_sem]
  refine hK _ _ ?_; clear hX hK X K
  show IW _ _ _ _ _ _ _ _
  repeat refine IW.seq ?_
  refine IW.cond rfl (fun hb => absurd hb (by decide)) (fun _ => ?_)
  repeat refine IW.seq ?_
  refine IW.region_seq tab_ok [some 15, some 14] rfl fun X K hX hK => ?_
  simp only [go_sem]
  refine hK _ _ ?_; clear hX hK X K
  show IW _ _ _ _ _ _ _ _
  repeat refine IW.seq ?_
  refine IW.cond rfl (fun hb => absurd hb (by decide)) (fun _ => ?_)
  repeat refine IW.seq ?_
  refine IW.region_seq tab_ok [some 17, some 16] rfl fun X K hX hK => ?_
  simp only [go_sem]
  refine hK _ _ ?_; clear hX hK X K
  show IW _ _ _ _ _ _ _ _
  repeat refine IW.seq ?_
  refine IW.cond rfl (fun hb => absurd hb (by decide)) (fun _ => ?_)
  repeat refine IW.seq ?_
  refine IW.region_seq tab_ok [some 19, some 18] rfl fun X K hX hK => ?_
  simp only [go_sem]
  refine hK _ _ ?_; clear hX hK X K
  show IW _ _ _ _ _ _ _ _
  repeat refine IW.seq ?_
  refine IW.cond rfl (fun _ => ?_) (fun hb => absurd hb (by decide))
  repeat refine IW.seq ?_
  refine IW.region_seq tab_ok [some 2, some 3] rfl fun X K hX hK => ?_
  simp only [go_sem]
  refine hK _ _ ?_; clear hX hK X K
  show IW _ _ _ _ _ _ _ _
  refine IW.ret ⟨⟨trivial, trivial, trivial⟩, rfl, rfl, [], rfl, List.nodup_nil, ?_, trivial⟩
  simp [go_sem, resAll, resSV]
theorem refSize_10 : FSpec Try.prog 14 [.int .i64 10] (.tup [.int .i64 2, .int .i64 4]) [] := by
  refine FSpec.intro tab_ok Try.func14 rfl rfl rfl (by kernel_rfl) (by simp) fun w0 => ?_
  simp only [argTM, Nat.zero_add, Nat.reduceAdd]
  repeat refine IW.seq ?_
  refine IW.region_seq tab_ok [some 2, some 3] rfl fun X K hX hK => ?_
  simp only [go_sem]
  refine hK _ _ ?_; clear hX hK X K
  show IW _ _ _ _ _ _ _ _
  repeat refine IW.seq ?_
  refine IW.region_seq tab_ok [some 4] rfl fun X K hX hK => ?_
  simp only [go_sem]
  refine hK _ _ ?_; clear hX hK X K
  show IW _ _ _ _ _ _ _ _
  repeat refine IW.seq ?_
  refine IW.block ?_
  repeat refine IW.seq ?_
  refine IW.region_seq tab_ok [some 6, some 5] rfl fun X K hX hK => ?_
  simp only [go_sem]
  refine hK _ _ ?_; clear hX hK X K
  show IW _ _ _ _ _ _ _ _
  repeat refine IW.seq ?_
  refine IW.cond rfl (fun hb => absurd hb (by decide)) (fun _ => ?_)
  repeat refine IW.seq ?_
  refine IW.region_seq tab_ok [some 7, some 5] rfl fun X K hX hK => ?_
  simp only [go_sem]
  refine hK _ _ ?_; clear hX hK X K
  show IW _ _ _ _ _ _ _ _
  repeat refine IW.seq ?_
  refine IW.cond rfl (fun hb => absurd hb (by decide)) (fun _ => ?_)
  repeat refine IW.seq ?_
  refine IW.region_seq tab_ok [some 9, some 8] rfl fun X K hX hK => ?_
  simp only [go_sem]
  refine hK _ _ ?_; clear hX hK X K
  show IW _ _ _ _ _ _ _ _
  repeat refine IW.seq ?_
  refine IW.cond rfl (fun hb => absurd hb (by decide)) (fun _ => ?_)
  repeat refine IW.seq ?_
  refine IW.region_seq tab_ok [some 10, some 8] rfl fun X K hX hK => ?_
  simp only [go_sem]
  refine hK _ _ ?_; clear hX hK X K
  show IW _ _ _ _ _ _ _ _
  repeat refine IW.seq ?_
  refine IW.cond rfl (fun hb => absurd hb (by decide)) (fun _ => ?_)
  repeat refine IW.seq ?_
  refine IW.region_seq tab_ok [some 11, some 8] rfl fun X K hX hK => ?_
  simp only [go_sem]
  refine hK _ _ ?_; clear hX hK X K
  show IW _ _ _ _ _ _ _ _
  repeat refine IW.seq ?_
  refine IW.cond rfl (fun hb => absurd hb (by decide)) (fun _ => ?_)
  repeat refine IW.seq ?_
  refine IW.region_seq tab_ok [some 13, some 12] rfl fun X K hX hK => ?_
  simp only [go_sem]
  refine hK _ _ ?_; clear hX hK X K
  show IW _ _ _ _ _ _ _ _
  repeat refine IW.seq ?_
  refine IW.cond rfl (fun hb => absurd hb (by decide)) (fun _ => ?_)
  repeat refine IW.seq ?_
  refine IW.region_seq tab_ok [some 15, some 14] rfl fun X K hX hK => ?_
  simp only [go_sem]
  refine hK _ _ ?_; clear hX hK X K
  show IW _ _ _ _ _ _ _ _
  repeat refine IW.seq ?_
  refine IW.cond rfl (fun hb => absurd hb (by decide)) (fun _ => ?_)
  repeat refine IW.seq ?_
  refine IW.region_seq tab_ok [some 17, some 16] rfl fun X K hX hK => ?_
  simp only [go_sem]
  refine hK _ _ ?_; clear hX hK X K
  show IW _ _ _ _ _ _ _ _
  repeat refine IW.seq ?_
  refine IW.cond rfl (fun hb => absurd hb (by decide)) (fun _ => ?_)
  repeat refine IW.seq ?_
  refine IW.region_seq tab_ok [some 19, some 18] rfl fun X K hX hK => ?_
  simp only [go_sem]
  refine hK _ _ ?_; clear hX hK X K
  show IW _ _ _ _ _ _ _ _
  repeat refine IW.seq ?_
  refine IW.cond rfl (fun hb => absurd hb (by decide)) (fun _ => ?_)
  repeat refine IW.seq ?_
  refine IW.region_seq tab_ok [some 21, some 20] rfl fun X K hX hK => ?_
  simp only [go_sem]
  refine hK _ _ ?_; clear hX hK X K
  show IW _ _ _ _ _ _ _ _
  repeat refine IW.seq ?_
  refine IW.cond rfl (fun _ => ?_) (fun hb => absurd hb (by decide))
  repeat refine IW.seq ?_
  refine IW.region_seq tab_ok [some 2, some 3] rfl fun X K hX hK => ?_
  simp only [go_sem]
  refine hK _ _ ?_; clear hX hK X K
  show IW _ _ _ _ _ _ _ _
  refine IW.ret ⟨⟨trivial, trivial, trivial⟩, rfl, rfl, [], rfl, List.nodup_nil, ?_, trivial⟩
  simp [go_sem, resAll, resSV]
theorem refSize_N (s : Int) (h : ∀ k : Int, 1 ≤ k → k ≤ 10 → s ≠ k) : FSpec Try.prog 14 [.int .i64 s] (.tup [.int .i64 0, .int .i64 0]) [] := by
  have n1 : (s == 1) = false := by simpa using h 1 (by omega) (by omega)
  have n2 : (s == 2) = false := by simpa using h 2 (by omega) (by omega)
  have n3 : (s == 3) = false := by simpa using h 3 (by omega) (by omega)
  have n4 : (s == 4) = false := by simpa using h 4 (by omega) (by omega)
  have n5 : (s == 5) = false := by simpa using h 5 (by omega) (by omega)
  have n6 : (s == 6) = false := by simpa using h 6 (by omega) (by omega)
  have n7 : (s == 7) = false := by simpa using h 7 (by omega) (by omega)
  have n8 : (s == 8) = false := by simpa using h 8 (by omega) (by omega)
  have n9 : (s == 9) = false := by simpa using h 9 (by omega) (by omega)
  have n10 : (s == 10) = false := by simpa using h 10 (by omega) (by omega)
  refine FSpec.intro tab_ok Try.func14 rfl rfl rfl (by kernel_rfl) (by simp) fun w0 => ?_
  simp only [argTM, Nat.zero_add, Nat.reduceAdd]
  repeat refine IW.seq ?_
  refine IW.region_seq tab_ok [some 2, some 3] rfl fun X K hX hK => ?_
  simp only [go_sem, n1, n2, n3, n4, n5, n6, n7, n8, n9, n10]
  refine hK _ _ ?_; clear hX hK X K
  show IW _ _ _ _ _ _ _ _
  repeat refine IW.seq ?_
  refine IW.region_seq tab_ok [some 4] rfl fun X K hX hK => ?_
  simp only [go_sem, n1, n2, n3, n4, n5, n6, n7, n8, n9, n10]
  refine hK _ _ ?_; clear hX hK X K
  show IW _ _ _ _ _ _ _ _
  repeat refine IW.seq ?_
  refine IW.block ?_
  repeat refine IW.seq ?_
  refine IW.region_seq tab_ok [some 6, some 5] rfl fun X K hX hK => ?_
  simp only [go_sem, n1, n2, n3, n4, n5, n6, n7, n8, n9, n10]
  refine hK _ _ ?_; clear hX hK X K
  show IW _ _ _ _ _ _ _ _
  repeat refine IW.seq ?_
  refine IW.cond rfl (fun hb => absurd hb (by decide)) (fun _ => ?_)
  repeat refine IW.seq ?_
  refine IW.region_seq tab_ok [some 7, some 5] rfl fun X K hX hK => ?_
  simp only [go_sem, n1, n2, n3, n4, n5, n6, n7, n8, n9, n10]
  refine hK _ _ ?_; clear hX hK X K
  show IW _ _ _ _ _ _ _ _
  repeat refine IW.seq ?_
  refine IW.cond rfl (fun hb => absurd hb (by decide)) (fun _ => ?_)
  repeat refine IW.seq ?_
  refine IW.region_seq tab_ok [some 9, some 8] rfl fun X K hX hK => ?_
  simp only [go_sem, n1, n2, n3, n4, n5, n6, n7, n8, n9, n10]
  refine hK _ _ ?_; clear hX hK X K
  show IW _ _ _ _ _ _ _ _
  repeat refine IW.seq ?_
  refine IW.cond rfl (fun hb => absurd hb (by decide)) (fun _ => ?_)
  repeat refine IW.seq ?_
  refine IW.region_seq tab_ok [some 10, some 8] rfl fun X K hX hK => ?_
  simp only [go_sem, n1, n2, n3, n4, n5, n6, n7, n8, n9, n10]
  refine hK _ _ ?_; clear hX hK X K
  show IW _ _ _ _ _ _ _ _
  repeat refine IW.seq ?_
  refine IW.cond rfl (fun hb => absurd hb (by decide)) (fun _ => ?_)
  repeat refine IW.seq ?_
  refine IW.region_seq tab_ok [some 11, some 8] rfl fun X K hX hK => ?_
  simp only [go_sem, n1, n2, n3, n4, n5, n6, n7, n8, n9, n10]
  refine hK _ _ ?_; clear hX hK X K
  show IW _ _ _ _ _ _ _ _
  repeat refine IW.seq ?_
  refine IW.cond rfl (fun hb => absurd hb (by decide)) (fun _ => ?_)
  repeat refine IW.seq ?_
  refine IW.region_seq tab_ok [some 13, some 12] rfl fun X K hX hK => ?_
  simp only [go_sem, n1, n2, n3, n4, n5, n6, n7, n8, n9, n10]
  refine hK _ _ ?_; clear hX hK X K
  show IW _ _ _ _ _ _ _ _
  repeat refine IW.seq ?_
  refine IW.cond rfl (fun hb => absurd hb (by decide)) (fun _ => ?_)
  repeat refine IW.seq ?_
  refine IW.region_seq tab_ok [some 15, some 14] rfl fun X K hX hK => ?_
  simp only [go_sem, n1, n2, n3, n4, n5, n6, n7, n8, n9, n10]
  refine hK _ _ ?_; clear hX hK X K
  show IW _ _ _ _ _ _ _ _
  repeat refine IW.seq ?_
  refine IW.cond rfl (fun hb => absurd hb (by decide)) (fun _ => ?_)
  repeat refine IW.seq ?_
  refine IW.region_seq tab_ok [some 17, some 16] rfl fun X K hX hK => ?_
  simp only [go_sem, n1, n2, n3, n4, n5, n6, n7, n8, n9, n10]
  refine hK _ _ ?_; clear hX hK X K
  show IW _ _ _ _ _ _ _ _
  repeat refine IW.seq ?_
  refine IW.cond rfl (fun hb => absurd hb (by decide)) (fun _ => ?_)
  repeat refine IW.seq ?_
  refine IW.region_seq tab_ok [some 19, some 18] rfl fun X K hX hK => ?_
  simp only [go_sem, n1, n2, n3, n4, n5, n6, n7, n8, n9, n10]
  refine hK _ _ ?_; clear hX hK X K
  show IW _ _ _ _ _ _ _ _
  repeat refine IW.seq ?_
  refine IW.cond rfl (fun hb => absurd hb (by decide)) (fun _ => ?_)
  repeat refine IW.seq ?_
  refine IW.region_seq tab_ok [some 21, some 20] rfl fun X K hX hK => ?_
  simp only [go_sem, n1, n2, n3, n4, n5, n6, n7, n8, n9, n10]
  refine hK _ _ ?_; clear hX hK X K
  show IW _ _ _ _ _ _ _ _
  repeat refine IW.seq ?_
  refine IW.cond rfl (fun hb => absurd hb (by decide)) (fun _ => ?_)
  refine IW.skip ?_
  show IW _ _ _ _ _ _ _ _
  repeat refine IW.seq ?_
  refine IW.region_seq tab_ok [some 2, some 3] rfl fun X K hX hK => ?_
  simp only [go_sem, n1, n2, n3, n4, n5, n6, n7, n8, n9, n10]
  refine hK _ _ ?_; clear hX hK X K
  show IW _ _ _ _ _ _ _ _
  refine IW.ret ⟨⟨trivial, trivial, trivial⟩, rfl, rfl, [], rfl, List.nodup_nil, ?_, trivial⟩
  simp [go_sem, resAll, resSV]
theorem refVals_1 : FSpec Try.prog 52 [.int .i64 1] (.ref 0 0 3) [⟨1, 3, nums .i64 [1, 2, 3]⟩] := by
  refine FSpec.intro tab_ok Try.func52 rfl rfl rfl (by kernel_rfl) (by simp) fun w0 => ?_
  simp only [argTM, Nat.zero_add, Nat.reduceAdd]
  repeat refine IW.seq ?_
  refine IW.region_seq tab_ok [some 2] rfl fun X K hX hK => ?_
  simp only [go_sem]
  refine hK _ _ ?_; clear hX hK X K
  show IW _ _ _ _ _ _ _ _
  repeat refine IW.seq ?_
  refine IW.region_seq tab_ok [some 5] rfl fun X K hX hK => ?_
  simp only [go_sem]
  refine hK _ _ ?_; clear hX hK X K
  show IW _ _ _ _ _ _ _ _
  repeat refine IW.seq ?_
  refine IW.block ?_
  repeat refine IW.seq ?_
  refine IW.region_seq tab_ok [some 7, some 6] rfl fun X K hX hK => ?_
  simp only [go_sem]
  refine hK _ _ ?_; clear hX hK X K
  show IW _ _ _ _ _ _ _ _
  repeat refine IW.seq ?_
  refine IW.cond rfl (fun _ => ?_) (fun hb => absurd hb (by decide))
  refine IW.skip ?_
  show IW _ _ _ _ _ _ _ _
  repeat refine IW.seq ?_
  refine IW.cond rfl (fun _ => ?_) (fun hb => absurd hb (by decide))
  repeat refine IW.seq ?_
  refine IW.region_seq tab_ok [some 10, some 2] rfl fun X K hX hK => ?_
  simp only [go_sem]
  refine hX.quiet _ _ (OpG.of_B rfl (opB_buildSlice tab_ok rfl (by simp [go_sem]) (by simp [go_sem]) (by simp) (by simp [go_sem, bsO, List.map_cons, List.map_nil]))) ?_
  simp only [go_sem, List.map_cons, List.map_nil]
  refine hK _ _ ?_; clear hX hK X K
  show IW _ _ _ _ _ _ _ _
  refine IW.ret (Fin.tmp1 0 rfl (by simp [go_sem]) (by first | (simp [go_sem]; done) | simp [go_sem, nums]) (by first | (simp [go_sem]; done) | simp [go_sem, nums]))
theorem refVals_2 : FSpec Try.prog 52 [.int .i64 2] (.ref 0 0 3) [⟨1, 3, nums .i64 [1, 2, 3]⟩] := by
  refine FSpec.intro tab_ok Try.func52 rfl rfl rfl (by kernel_rfl) (by simp) fun w0 => ?_
  simp only [argTM, Nat.zero_add, Nat.reduceAdd]
  repeat refine IW.seq ?_
  refine IW.region_seq tab_ok [some 2] rfl fun X K hX hK => ?_
  simp only [go_sem]
  refine hK _ _ ?_; clear hX hK X K
  show IW _ _ _ _ _ _ _ _
  repeat refine IW.seq ?_
  refine IW.region_seq tab_ok [some 5] rfl fun X K hX hK => ?_
  simp only [go_sem]
  refine hK _ _ ?_; clear hX hK X K
  show IW _ _ _ _ _ _ _ _
  repeat refine IW.seq ?_
  refine IW.block ?_
  repeat refine IW.seq ?_
  refine IW.region_seq tab_ok [some 7, some 6] rfl fun X K hX hK => ?_
  simp only [go_sem]
  refine hK _ _ ?_; clear hX hK X K
  show IW _ _ _ _ _ _ _ _
  repeat refine IW.seq ?_
  refine IW.cond rfl (fun hb => absurd hb (by decide)) (fun _ => ?_)
  repeat refine IW.seq ?_
  refine IW.region_seq tab_ok [some 8, some 6] rfl fun X K hX hK => ?_
  simp only [go_sem]
  refine hK _ _ ?_; clear hX hK X K
  show IW _ _ _ _ _ _ _ _
  repeat refine IW.seq ?_
  refine IW.cond rfl (fun _ => ?_) (fun hb => absurd hb (by decide))
  refine IW.skip ?_
  show IW _ _ _ _ _ _ _ _
  repeat refine IW.seq ?_
  refine IW.cond rfl (fun _ => ?_) (fun hb => absurd hb (by decide))
  repeat refine IW.seq ?_
  refine IW.region_seq tab_ok [some 10, some 2] rfl fun X K hX hK => ?_
  simp only [go_sem]
  refine hX.quiet _ _ (OpG.of_B rfl (opB_buildSlice tab_ok rfl (by simp [go_sem]) (by simp [go_sem]) (by simp) (by simp [go_sem, bsO, List.map_cons, List.map_nil]))) ?_
  simp only [go_sem, List.map_cons, List.map_nil]
  refine hK _ _ ?_; clear hX hK X K
  show IW _ _ _ _ _ _ _ _
  refine IW.ret (Fin.tmp1 0 rfl (by simp [go_sem]) (by first | (simp [go_sem]; done) | simp [go_sem, nums]) (by first | (simp [go_sem]; done) | simp [go_sem, nums]))
theorem refVals_3 : FSpec Try.prog 52 [.int .i64 3] (.ref 0 0 1) [⟨1, 3, nums .i64 [1]⟩] := by
  refine FSpec.intro tab_ok Try.func52 rfl rfl rfl (by kernel_rfl) (by simp) fun w0 => ?_
  simp only [argTM, Nat.zero_add, Nat.reduceAdd]
  repeat refine IW.seq ?_
  refine IW.region_seq tab_ok [some 2] rfl fun X K hX hK => ?_
  simp only [go_sem]
  refine hK _ _ ?_; clear hX hK X K
  show IW _ _ _ _ _ _ _ _
  repeat refine IW.seq ?_
  refine IW.region_seq tab_ok [some 5] rfl fun X K hX hK => ?_
  simp only [go_sem]
  refine hK _ _ ?_; clear hX hK X K
  show IW _ _ _ _ _ _ _ _
  repeat refine IW.seq ?_
  refine IW.block ?_
  repeat refine IW.seq ?_
  refine IW.region_seq tab_ok [some 7, some 6] rfl fun X K hX hK => ?_
  simp only [go_sem]
  refine hK _ _ ?_; clear hX hK X K
  show IW _ _ _ _ _ _ _ _
  repeat refine IW.seq ?_
  refine IW.cond rfl (fun hb => absurd hb (by decide)) (fun _ => ?_)
  repeat refine IW.seq ?_
  refine IW.region_seq tab_ok [some 8, some 6] rfl fun X K hX hK => ?_
  simp only [go_sem]
  refine hK _ _ ?_; clear hX hK X K
  show IW _ _ _ _ _ _ _ _
  repeat refine IW.seq ?_
  refine IW.cond rfl (fun hb => absurd hb (by decide)) (fun _ => ?_)
  repeat refine IW.seq ?_
  refine IW.region_seq tab_ok [some 9, some 6] rfl fun X K hX hK => ?_
  simp only [go_sem]
  refine hK _ _ ?_; clear hX hK X K
  show IW _ _ _ _ _ _ _ _
  repeat refine IW.seq ?_
  refine IW.cond rfl (fun hb => absurd hb (by decide)) (fun _ => ?_)
  repeat refine IW.seq ?_
  refine IW.region_seq tab_ok [some 12, some 11] rfl fun X K hX hK => ?_
  simp only [go_sem]
  refine hK _ _ ?_; clear hX hK X K
  show IW _ _ _ _ _ _ _ _
  repeat refine IW.seq ?_
  refine IW.cond rfl (fun _ => ?_) (fun hb => absurd hb (by decide))
  refine IW.skip ?_
  show IW _ _ _ _ _ _ _ _
  repeat refine IW.seq ?_
  refine IW.cond rfl (fun _ => ?_) (fun hb => absurd hb (by decide))
  repeat refine IW.seq ?_
  refine IW.region_seq tab_ok [some 15, some 2] rfl fun X K hX hK => ?_
  simp only [go_sem]
  refine hX.quiet _ _ (OpG.of_B rfl (opB_buildSlice tab_ok rfl (by simp [go_sem]) (by simp [go_sem]) (by simp) (by simp [go_sem, bsO, List.map_cons, List.map_nil]))) ?_
  simp only [go_sem, List.map_cons, List.map_nil]
  refine hK _ _ ?_; clear hX hK X K
  show IW _ _ _ _ _ _ _ _
  refine IW.ret (Fin.tmp1 0 rfl (by simp [go_sem]) (by first | (simp [go_sem]; done) | simp [go_sem, nums]) (by first | (simp [go_sem]; done) | simp [go_sem, nums]))
theorem refVals_4 : FSpec Try.prog 52 [.int .i64 4] (.ref 0 0 1) [⟨1, 3, nums .i64 [1]⟩] := by
  refine FSpec.intro tab_ok Try.func52 rfl rfl rfl (by kernel_rfl) (by simp) fun w0 => ?_
  simp only [argTM, Nat.zero_add, Nat.reduceAdd]
  repeat refine IW.seq ?_
  refine IW.region_seq tab_ok [some 2] rfl fun X K hX hK => ?_
  simp only [go_sem]
  refine hK _ _ ?_; clear hX hK X K
  show IW _ _ _ _ _ _ _ _
  repeat refine IW.seq ?_
  refine IW.region_seq tab_ok [some 5] rfl fun X K hX hK => ?_
  simp only [go_sem]
  refine hK _ _ ?_; clear hX hK X K
  show IW _ _ _ _ _ _ _ _
  repeat refine IW.seq ?_
  refine IW.block ?_
  repeat refine IW.seq ?_
  refine IW.region_seq tab_ok [some 7, some 6] rfl fun X K hX hK => ?_
  simp only [go_sem]
  refine hK _ _ ?_; clear hX hK X K
  show IW _ _ _ _ _ _ _ _
  repeat refine IW.seq ?_
  refine IW.cond rfl (fun hb => absurd hb (by decide)) (fun _ => ?_)
  repeat refine IW.seq ?_
  refine IW.region_seq tab_ok [some 8, some 6] rfl fun X K hX hK => ?_
  simp only [go_sem]
  refine hK _ _ ?_; clear hX hK X K
  show IW _ _ _ _ _ _ _ _
  repeat refine IW.seq ?_
  refine IW.cond rfl (fun hb => absurd hb (by decide)) (fun _ => ?_)
  repeat refine IW.seq ?_
  refine IW.region_seq tab_ok [some 9, some 6] rfl fun X K hX hK => ?_
  simp only [go_sem]
  refine hK _ _ ?_; clear hX hK X K
  show IW _ _ _ _ _ _ _ _
  repeat refine IW.seq ?_
  refine IW.cond rfl (fun hb => absurd hb (by decide)) (fun _ => ?_)
  repeat refine IW.seq ?_
  refine IW.region_seq tab_ok [some 12, some 11] rfl fun X K hX hK => ?_
  simp only [go_sem]
  refine hK _ _ ?_; clear hX hK X K
  show IW _ _ _ _ _ _ _ _
  repeat refine IW.seq ?_
  refine IW.cond rfl (fun hb => absurd hb (by decide)) (fun _ => ?_)
  repeat refine IW.seq ?_
  refine IW.region_seq tab_ok [some 13, some 11] rfl fun X K hX hK => ?_
  simp only [go_sem]
  refine hK _ _ ?_; clear hX hK X K
  show IW _ _ _ _ _ _ _ _
  repeat refine IW.seq ?_
  refine IW.cond rfl (fun _ => ?_) (fun hb => absurd hb (by decide))
  refine IW.skip ?_
  show IW _ _ _ _ _ _ _ _
  repeat refine IW.seq ?_
  refine IW.cond rfl (fun _ => ?_) (fun hb => absurd hb (by decide))
  repeat refine IW.seq ?_
  refine IW.region_seq tab_ok [some 15, some 2] rfl fun X K hX hK => ?_
  simp only [go_sem]
  refine hX.quiet _ _ (OpG.of_B rfl (opB_buildSlice tab_ok rfl (by simp [go_sem]) (by simp [go_sem]) (by simp) (by simp [go_sem, bsO, List.map_cons, List.map_nil]))) ?_
  simp only [go_sem, List.map_cons, List.map_nil]
  refine hK _ _ ?_; clear hX hK X K
  show IW _ _ _ _ _ _ _ _
  refine IW.ret (Fin.tmp1 0 rfl (by simp [go_sem]) (by first | (simp [go_sem]; done) | simp [go_sem, nums]) (by first | (simp [go_sem]; done) | simp [go_sem, nums]))
theorem refVals_5 : FSpec Try.prog 52 [.int .i64 5] (.ref 0 0 5) [⟨1, 3, nums .i64 [1, 2, 4, 8, 16]⟩] := by
  refine FSpec.intro tab_ok Try.func52 rfl rfl rfl (by kernel_rfl) (by simp) fun w0 => ?_
  simp only [argTM, Nat.zero_add, Nat.reduceAdd]
  repeat refine IW.seq ?_
  refine IW.region_seq tab_ok [some 2] rfl fun X K hX hK => ?_
  simp only [go_sem]
  refine hK _ _ ?_; clear hX hK X K
  show IW _ _ _ _ _ _ _ _
  repeat refine IW.seq ?_
  refine IW.region_seq tab_ok [some 5] rfl fun X K hX hK => ?_
  simp only [go_sem]
  refine hK _ _ ?_; clear hX hK X K
  show IW _ _ _ _ _ _ _ _
  repeat refine IW.seq ?_
  refine IW.block ?_
  repeat refine IW.seq ?_
  refine IW.region_seq tab_ok [some 7, some 6] rfl fun X K hX hK => ?_
  simp only [go_sem]
  refine hK _ _ ?_; clear hX hK X K
  show IW _ _ _ _ _ _ _ _
  repeat refine IW.seq ?_
  refine IW.cond rfl (fun hb => absurd hb (by decide)) (fun _ => ?_)
  repeat refine IW.seq ?_
  refine IW.region_seq tab_ok [some 8, some 6] rfl fun X K hX hK => ?_
  simp only [go_sem]
  refine hK _ _ ?_; clear hX hK X K
  show IW _ _ _ _ _ _ _ _
  repeat refine IW.seq ?_
  refine IW.cond rfl (fun hb => absurd hb (by decide)) (fun _ => ?_)
  repeat refine IW.seq ?_
  refine IW.region_seq tab_ok [some 9, some 6] rfl fun X K hX hK => ?_
  simp only [go_sem]
  refine hK _ _ ?_; clear hX hK X K
  show IW _ _ _ _ _ _ _ _
  repeat refine IW.seq ?_
  refine IW.cond rfl (fun hb => absurd hb (by decide)) (fun _ => ?_)
  repeat refine IW.seq ?_
  refine IW.region_seq tab_ok [some 12, some 11] rfl fun X K hX hK => ?_
  simp only [go_sem]
  refine hK _ _ ?_; clear hX hK X K
  show IW _ _ _ _ _ _ _ _
  repeat refine IW.seq ?_
  refine IW.cond rfl (fun hb => absurd hb (by decide)) (fun _ => ?_)
  repeat refine IW.seq ?_
  refine IW.region_seq tab_ok [some 13, some 11] rfl fun X K hX hK => ?_
  simp only [go_sem]
  refine hK _ _ ?_; clear hX hK X K
  show IW _ _ _ _ _ _ _ _
  repeat refine IW.seq ?_
  refine IW.cond rfl (fun hb => absurd hb (by decide)) (fun _ => ?_)
  repeat refine IW.seq ?_
  refine IW.region_seq tab_ok [some 14, some 11] rfl fun X K hX hK => ?_
  simp only [go_sem]
  refine hK _ _ ?_; clear hX hK X K
  show IW _ _ _ _ _ _ _ _
  repeat refine IW.seq ?_
  refine IW.cond rfl (fun hb => absurd hb (by decide)) (fun _ => ?_)
  repeat refine IW.seq ?_
  refine IW.region_seq tab_ok [some 17, some 16] rfl fun X K hX hK => ?_
  simp only [go_sem]
  refine hK _ _ ?_; clear hX hK X K
  show IW _ _ _ _ _ _ _ _
  repeat refine IW.seq ?_
  refine IW.cond rfl (fun _ => ?_) (fun hb => absurd hb (by decide))
  repeat refine IW.seq ?_
  refine IW.region_seq tab_ok [some 18, some 2] rfl fun X K hX hK => ?_
  simp only [go_sem]
  refine hX.quiet _ _ (OpG.of_B rfl (opB_buildSlice tab_ok rfl (by simp [go_sem]) (by simp [go_sem]) (by simp) (by simp [go_sem, bsO, List.map_cons, List.map_nil]))) ?_
  simp only [go_sem, List.map_cons, List.map_nil]
  refine hK _ _ ?_; clear hX hK X K
  show IW _ _ _ _ _ _ _ _
  refine IW.ret (Fin.tmp1 0 rfl (by simp [go_sem]) (by first | (simp [go_sem]; done) | simp [go_sem, nums]) (by first | (simp [go_sem]; done) | simp [go_sem, nums]))
theorem refVals_6 : FSpec Try.prog 52 [.int .i64 6] (.ref 0 0 3) [⟨1, 3, nums .i64 [1, 2, 3]⟩] := by
  refine FSpec.intro tab_ok Try.func52 rfl rfl rfl (by kernel_rfl) (by simp) fun w0 => ?_
  simp only [argTM, Nat.zero_add, Nat.reduceAdd]
  repeat refine IW.seq ?_
  refine IW.region_seq tab_ok [some 2] rfl fun X K hX hK => ?_
  simp only [go_sem]
  refine hK _ _ ?_; clear hX hK X K
  show IW _ _ _ _ _ _ _ _
  repeat refine IW.seq ?_
  refine IW.region_seq tab_ok [some 5] rfl fun X K hX hK => ?_
  simp only [go_sem]
  refine hK _ _ ?_; clear hX hK X K
  show IW _ _ _ _ _ _ _ _
  repeat refine IW.seq ?_
  refine IW.block ?_
  repeat refine IW.seq ?_
  refine IW.region_seq tab_ok [some 7, some 6] rfl fun X K hX hK => ?_
  simp only [go_sem]
  refine hK _ _ ?_; clear hX hK X K
  show IW _ _ _ _ _ _ _ _
  repeat refine IW.seq ?_
  refine IW.cond rfl (fun hb => absurd hb (by decide)) (fun _ => ?_)
  repeat refine IW.seq ?_
  refine IW.region_seq tab_ok [some 8, some 6] rfl fun X K hX hK => ?_
  simp only [go_sem]
  refine hK _ _ ?_; clear hX hK X K
  show IW _ _ _ _ _ _ _ _
  repeat refine IW.seq ?_
  refine IW.cond rfl (fun hb => absurd hb (by decide)) (fun _ => ?_)
  repeat refine IW.seq ?_
  refine IW.region_seq tab_ok [some 9, some 6] rfl fun X K hX hK => ?_
  simp only [go_sem]
  refine hK _ _ ?_; clear hX hK X K
  show IW _ _ _ _ _ _ _ _
  repeat refine IW.seq ?_
  refine IW.cond rfl (fun _ => ?_) (fun hb => absurd hb (by decide))
  repeat refine IW.seq ?_
  refine IW.region_seq tab_ok [some 10, some 2] rfl fun X K hX hK => ?_
  simp only [go_sem]
  refine hX.quiet _ _ (OpG.of_B rfl (opB_buildSlice tab_ok rfl (by simp [go_sem]) (by simp [go_sem]) (by simp) (by simp [go_sem, bsO, List.map_cons, List.map_nil]))) ?_
  simp only [go_sem, List.map_cons, List.map_nil]
  refine hK _ _ ?_; clear hX hK X K
  show IW _ _ _ _ _ _ _ _
  refine IW.ret (Fin.tmp1 0 rfl (by simp [go_sem]) (by first | (simp [go_sem]; done) | simp [go_sem, nums]) (by first | (simp [go_sem]; done) | simp [go_sem, nums]))
theorem refVals_7 : FSpec Try.prog 52 [.int .i64 7] (.ref 0 0 9) [⟨1, 3, nums .i64 [1, 2, 3, 4, 5, 6, 7, 8, 9]⟩] := by
  refine FSpec.intro tab_ok Try.func52 rfl rfl rfl (by kernel_rfl) (by simp) fun w0 => ?_
  simp only [argTM, Nat.zero_add, Nat.reduceAdd]
  repeat refine IW.seq ?_
  refine IW.region_seq tab_ok [some 2] rfl fun X K hX hK => ?_
  simp only [go_sem]
  refine hK _ _ ?_; clear hX hK X K
  show IW _ _ _ _ _ _ _ _
  repeat refine IW.seq ?_
  refine IW.region_seq tab_ok [some 5] rfl fun X K hX hK => ?_
  simp only [go_sem]
  refine hK _ _ ?_; clear hX hK X K
  show IW _ _ _ _ _ _ _ _
  repeat refine IW.seq ?_
  refine IW.block ?_
  repeat refine IW.seq ?_
  refine IW.region_seq tab_ok [some 7, some 6] rfl fun X K hX hK => ?_
  simp only [go_sem]
  refine hK _ _ ?_; clear hX hK X K
  show IW _ _ _ _ _ _ _ _
  repeat refine IW.seq ?_
  refine IW.cond rfl (fun hb => absurd hb (by decide)) (fun _ => ?_)
  repeat refine IW.seq ?_
  refine IW.region_seq tab_ok [some 8, some 6] rfl fun X K hX hK => ?_
  simp only [go_sem]
  refine hK _ _ ?_; clear hX hK X K
  show IW _ _ _ _ _ _ _ _
  repeat refine IW.seq ?_
  refine IW.cond rfl (fun hb => absurd hb (by decide)) (fun _ => ?_)
  repeat refine IW.seq ?_
  refine IW.region_seq tab_ok [some 9, some 6] rfl fun X K hX hK => ?_
  simp only [go_sem]
  refine hK _ _ ?_; clear hX hK X K
  show IW _ _ _ _ _ _ _ _
  repeat refine IW.seq ?_
  refine IW.cond rfl (fun hb => absurd hb (by decide)) (fun _ => ?_)
  repeat refine IW.seq ?_
  refine IW.region_seq tab_ok [some 12, some 11] rfl fun X K hX hK => ?_
  simp only [go_sem]
  refine hK _ _ ?_; clear hX hK X K
  show IW _ _ _ _ _ _ _ _
  repeat refine IW.seq ?_
  refine IW.cond rfl (fun hb => absurd hb (by decide)) (fun _ => ?_)
  repeat refine IW.seq ?_
  refine IW.region_seq tab_ok [some 13, some 11] rfl fun X K hX hK => ?_
  simp only [go_sem]
  refine hK _ _ ?_; clear hX hK X K
  show IW _ _ _ _ _ _ _ _
  repeat refine IW.seq ?_
  refine IW.cond rfl (fun hb => absurd hb (by decide)) (fun _ => ?_)
  repeat refine IW.seq ?_
  refine IW.region_seq tab_ok [some 14, some 11] rfl fun X K hX hK => ?_
  simp only [go_sem]
  refine hK _ _ ?_; clear hX hK X K
  show IW _ _ _ _ _ _ _ _
  repeat refine IW.seq ?_
  refine IW.cond rfl (fun hb => absurd hb (by decide)) (fun _ => ?_)
  repeat refine IW.seq ?_
  refine IW.region_seq tab_ok [some 17, some 16] rfl fun X K hX hK => ?_
  simp only [go_sem]
  refine hK _ _ ?_; clear hX hK X K
  show IW _ _ _ _ _ _ _ _
  repeat refine IW.seq ?_
  refine IW.cond rfl (fun hb => absurd hb (by decide)) (fun _ => ?_)
  repeat refine IW.seq ?_
  refine IW.region_seq tab_ok [some 20, some 19] rfl fun X K hX hK => ?_
  simp only [go_sem]
  refine hK _ _ ?_; clear hX hK X K
  show IW _ _ _ _ _ _ _ _
  repeat refine IW.seq ?_
  refine IW.cond rfl (fun _ => ?_) (fun hb => absurd hb (by decide))
  repeat refine IW.seq ?_
  refine IW.region_seq tab_ok [some 21, some 2] rfl fun X K hX hK => ?_
  simp only [go_sem]
  refine hX.quiet _ _ (OpG.of_B rfl (opB_buildSlice tab_ok rfl (by simp [go_sem]) (by simp [go_sem]) (by simp) (by simp [go_sem, bsO, List.map_cons, List.map_nil]))) ?_
  simp only [go_sem, List.map_cons, List.map_nil]
  refine hK _ _ ?_; clear hX hK X K
  show IW _ _ _ _ _ _ _ _
  refine IW.ret (Fin.tmp1 0 rfl (by simp [go_sem]) (by first | (simp [go_sem]; done) | simp [go_sem, nums]) (by first | (simp [go_sem]; done) | simp [go_sem, nums]))
theorem refVals_9 : FSpec Try.prog 52 [.int .i64 9] (.ref 0 0 5) [⟨1, 3, nums .i64 [1, 2, 3, 4, 5]⟩] := by
  refine FSpec.intro tab_ok Try.func52 rfl rfl rfl (by kernel_rfl) (by simp) fun w0 => ?_
  simp only [argTM, Nat.zero_add, Nat.reduceAdd]
  repeat refine IW.seq ?_
  refine IW.region_seq tab_ok [some 2] rfl fun X K hX hK => ?_
  simp only [go_sem]
  refine hK _ _ ?_; clear hX hK X K
  show IW _ _ _ _ _ _ _ _
  repeat refine IW.seq ?_
  refine IW.region_seq tab_ok [some 5] rfl fun X K hX hK => ?_
  simp only [go_sem]
  refine hK _ _ ?_; clear hX hK X K
  show IW _ _ _ _ _ _ _ _
  repeat refine IW.seq ?_
  refine IW.block ?_
  repeat refine IW.seq ?_
  refine IW.region_seq tab_ok [some 7, some 6] rfl fun X K hX hK => ?_
  simp only [go_sem]
  refine hK _ _ ?_; clear hX hK X K
  show IW _ _ _ _ _ _ _ _
  repeat refine IW.seq ?_
  refine IW.cond rfl (fun hb => absurd hb (by decide)) (fun _ => ?_)
  repeat refine IW.seq ?_
  refine IW.region_seq tab_ok [some 8, some 6] rfl fun X K hX hK => ?_
  simp only [go_sem]
  refine hK _ _ ?_; clear hX hK X K
  show IW _ _ _ _ _ _ _ _
  repeat refine IW.seq ?_
  refine IW.cond rfl (fun hb => absurd hb (by decide)) (fun _ => ?_)
  repeat refine IW.seq ?_
  refine IW.region_seq tab_ok [some 9, some 6] rfl fun X K hX hK => ?_
  simp only [go_sem]
  refine hK _ _ ?_; clear hX hK X K
  show IW _ _ _ _ _ _ _ _
  repeat refine IW.seq ?_
  refine IW.cond rfl (fun hb => absurd hb (by decide)) (fun _ => ?_)
  repeat refine IW.seq ?_
  refine IW.region_seq tab_ok [some 12, some 11] rfl fun X K hX hK => ?_
  simp only [go_sem]
  refine hK _ _ ?_; clear hX hK X K
  show IW _ _ _ _ _ _ _ _
  repeat refine IW.seq ?_
  refine IW.cond rfl (fun hb => absurd hb (by decide)) (fun _ => ?_)
  repeat refine IW.seq ?_
  refine IW.region_seq tab_ok [some 13, some 11] rfl fun X K hX hK => ?_
  simp only [go_sem]
  refine hK _ _ ?_; clear hX hK X K
  show IW _ _ _ _ _ _ _ _
  repeat refine IW.seq ?_
  refine IW.cond rfl (fun hb => absurd hb (by decide)) (fun _ => ?_)
  repeat refine IW.seq ?_
  refine IW.region_seq tab_ok [some 14, some 11] rfl fun X K hX hK => ?_
  simp only [go_sem]
  refine hK _ _ ?_; clear hX hK X K
  show IW _ _ _ _ _ _ _ _
  repeat refine IW.seq ?_
  refine IW.cond rfl (fun hb => absurd hb (by decide)) (fun _ => ?_)
  repeat refine IW.seq ?_
  refine IW.region_seq tab_ok [some 17, some 16] rfl fun X K hX hK => ?_
  simp only [go_sem]
  refine hK _ _ ?_; clear hX hK X K
  show IW _ _ _ _ _ _ _ _
  repeat refine IW.seq ?_
  refine IW.cond rfl (fun hb => absurd hb (by decide)) (fun _ => ?_)
  repeat refine IW.seq ?_
  refine IW.region_seq tab_ok [some 20, some 19] rfl fun X K hX hK => ?_
  simp only [go_sem]
  refine hK _ _ ?_; clear hX hK X K
  show IW _ _ _ _ _ _ _ _
  repeat refine IW.seq ?_
  refine IW.cond rfl (fun hb => absurd hb (by decide)) (fun _ => ?_)
  repeat refine IW.seq ?_
  refine IW.region_seq tab_ok [some 23, some 22] rfl fun X K hX hK => ?_
  simp only [go_sem]
  refine hK _ _ ?_; clear hX hK X K
  show IW _ _ _ _ _ _ _ _
  repeat refine IW.seq ?_
  refine IW.cond rfl (fun hb => absurd hb (by decide)) (fun _ => ?_)
  repeat refine IW.seq ?_
  refine IW.region_seq tab_ok [some 34, some 33] rfl fun X K hX hK => ?_
  simp only [go_sem]
  refine hK _ _ ?_; clear hX hK X K
  show IW _ _ _ _ _ _ _ _
  repeat refine IW.seq ?_
  refine IW.cond rfl (fun _ => ?_) (fun hb => absurd hb (by decide))
  repeat refine IW.seq ?_
  refine IW.region_seq tab_ok [some 35, some 2] rfl fun X K hX hK => ?_
  simp only [go_sem]
  refine hX.quiet _ _ (OpG.of_B rfl (opB_buildSlice tab_ok rfl (by simp [go_sem]) (by simp [go_sem]) (by simp) (by simp [go_sem, bsO, List.map_cons, List.map_nil]))) ?_
  simp only [go_sem, List.map_cons, List.map_nil]
  refine hK _ _ ?_; clear hX hK X K
  show IW _ _ _ _ _ _ _ _
  refine IW.ret (Fin.tmp1 0 rfl (by simp [go_sem]) (by first | (simp [go_sem]; done) | simp [go_sem, nums]) (by first | (simp [go_sem]; done) | simp [go_sem, nums]))
theorem refVals_10 : FSpec Try.prog 52 [.int .i64 10] (.ref 0 0 1) [⟨1, 3, nums .i64 [1]⟩] := by
  refine FSpec.intro tab_ok Try.func52 rfl rfl rfl (by kernel_rfl) (by simp) fun w0 => ?_
  simp only [argTM, Nat.zero_add, Nat.reduceAdd]
  repeat refine IW.seq ?_
  refine IW.region_seq tab_ok [some 2] rfl fun X K hX hK => ?_
  simp only [go_sem]
  refine hK _ _ ?_; clear hX hK X K
  show IW _ _ _ _ _ _ _ _
  repeat refine IW.seq ?_
  refine IW.region_seq tab_ok [some 5] rfl fun X K hX hK => ?_
  simp only [go_sem]
  refine hK _ _ ?_; clear hX hK X K
  show IW _ _ _ _ _ _ _ _
  repeat refine IW.seq ?_
  refine IW.block ?_
  repeat refine IW.seq ?_
  refine IW.region_seq tab_ok [some 7, some 6] rfl fun X K hX hK => ?_
  simp only [go_sem]
  refine hK _ _ ?_; clear hX hK X K
  show IW _ _ _ _ _ _ _ _
  repeat refine IW.seq ?_
  refine IW.cond rfl (fun hb => absurd hb (by decide)) (fun _ => ?_)
  repeat refine IW.seq ?_
  refine IW.region_seq tab_ok [some 8, some 6] rfl fun X K hX hK => ?_
  simp only [go_sem]
  refine hK _ _ ?_; clear hX hK X K
  show IW _ _ _ _ _ _ _ _
  repeat refine IW.seq ?_
  refine IW.cond rfl (fun hb => absurd hb (by decide)) (fun _ => ?_)
  repeat refine IW.seq ?_
  refine IW.region_seq tab_ok [some 9, some 6] rfl fun X K hX hK => ?_
  simp only [go_sem]
  refine hK _ _ ?_; clear hX hK X K
  show IW _ _ _ _ _ _ _ _
  repeat refine IW.seq ?_
  refine IW.cond rfl (fun hb => absurd hb (by decide)) (fun _ => ?_)
  repeat refine IW.seq ?_
  refine IW.region_seq tab_ok [some 12, some 11] rfl fun X K hX hK => ?_
  simp only [go_sem]
  refine hK _ _ ?_; clear hX hK X K
  show IW _ _ _ _ _ _ _ _
  repeat refine IW.seq ?_
  refine IW.cond rfl (fun hb => absurd hb (by decide)) (fun _ => ?_)
  repeat refine IW.seq ?_
  refine IW.region_seq tab_ok [some 13, some 11] rfl fun X K hX hK => ?_
  simp only [go_sem]
  refine hK _ _ ?_; clear hX hK X K
  show IW _ _ _ _ _ _ _ _
  repeat refine IW.seq ?_
  refine IW.cond rfl (fun hb => absurd hb (by decide)) (fun _ => ?_)
  repeat refine IW.seq ?_
  refine IW.region_seq tab_ok [some 14, some 11] rfl fun X K hX hK => ?_
  simp only [go_sem]
  refine hK _ _ ?_; clear hX hK X K
  show IW _ _ _ _ _ _ _ _
  repeat refine IW.seq ?_
  refine IW.cond rfl (fun _ => ?_) (fun hb => absurd hb (by decide))
  repeat refine IW.seq ?_
  refine IW.region_seq tab_ok [some 15, some 2] rfl fun X K hX hK => ?_
  simp only [go_sem]
  refine hX.quiet _ _ (OpG.of_B rfl (opB_buildSlice tab_ok rfl (by simp [go_sem]) (by simp [go_sem]) (by simp) (by simp [go_sem, bsO, List.map_cons, List.map_nil]))) ?_
  simp only [go_sem, List.map_cons, List.map_nil]
  refine hK _ _ ?_; clear hX hK X K
  show IW _ _ _ _ _ _ _ _
  refine IW.ret (Fin.tmp1 0 rfl (by simp [go_sem]) (by first | (simp [go_sem]; done) | simp [go_sem, nums]) (by first | (simp [go_sem]; done) | simp [go_sem, nums]))
def rw1 : List ByteArray := drw1.flatMap (·.2)
set_option maxHeartbeats 4000000 in
theorem refRows_1 : FSpec Try.prog 55 [.int .i64 1] (.ref 0 0 rw1.length) [⟨1, 9, strs rw1⟩] := by
  refine FSpec.intro tab_ok Try.func55 rfl rfl rfl (by kernel_rfl) (by simp) fun w0 => ?_
  simp only [argTM, Nat.zero_add, Nat.reduceAdd]
  repeat refine IW.seq ?_
  refine IW.region_seq tab_ok [some 2] rfl fun X K hX hK => ?_
  simp only [go_sem]
  refine hK _ _ ?_; clear hX hK X K
  show IW _ _ _ _ _ _ _ _
  repeat refine IW.seq ?_
  refine IW.region_seq tab_ok [some 3] rfl fun X K hX hK => ?_
  simp only [go_sem]
  refine hK _ _ ?_; clear hX hK X K
  show IW _ _ _ _ _ _ _ _
  repeat refine IW.seq ?_
  refine IW.block ?_
  repeat refine IW.seq ?_
  refine IW.region_seq tab_ok [some 5, some 4] rfl fun X K hX hK => ?_
  simp only [go_sem]
  refine hK _ _ ?_; clear hX hK X K
  show IW _ _ _ _ _ _ _ _
  repeat refine IW.seq ?_
  refine IW.cond rfl (fun _ => ?_) (fun hb => absurd hb (by decide))
  repeat refine IW.seq ?_
  refine IW.region_seq tab_ok [some 6, some 2] rfl fun X K hX hK => ?_
  simp only [go_sem]
  refine hX.quiet _ _ (OpG.of_B rfl (opB_buildSlice tab_ok rfl (by simp [go_sem]) (by simp [go_sem]) (by simp) (by simp [go_sem, bsO, List.map_cons, List.map_nil]))) ?_
  simp only [go_sem, List.map_cons, List.map_nil]
  refine hK _ _ ?_; clear hX hK X K
  show IW _ _ _ _ _ _ _ _
  exact IW.ret (Fin.tmp1 0 rfl (strs_nold' _) rfl rfl)
def rw2 : List ByteArray := drw2.flatMap (·.2)
set_option maxHeartbeats 4000000 in
theorem refRows_2 : FSpec Try.prog 55 [.int .i64 2] (.ref 0 0 rw2.length) [⟨1, 9, strs rw2⟩] := by
  refine FSpec.intro tab_ok Try.func55 rfl rfl rfl (by kernel_rfl) (by simp) fun w0 => ?_
  simp only [argTM, Nat.zero_add, Nat.reduceAdd]
  repeat refine IW.seq ?_
  refine IW.region_seq tab_ok [some 2] rfl fun X K hX hK => ?_
  simp only [go_sem]
  refine hK _ _ ?_; clear hX hK X K
  show IW _ _ _ _ _ _ _ _
  repeat refine IW.seq ?_
  refine IW.region_seq tab_ok [some 3] rfl fun X K hX hK => ?_
  simp only [go_sem]
  refine hK _ _ ?_; clear hX hK X K
  show IW _ _ _ _ _ _ _ _
  repeat refine IW.seq ?_
  refine IW.block ?_
  repeat refine IW.seq ?_
  refine IW.region_seq tab_ok [some 5, some 4] rfl fun X K hX hK => ?_
  simp only [go_sem]
  refine hK _ _ ?_; clear hX hK X K
  show IW _ _ _ _ _ _ _ _
  repeat refine IW.seq ?_
  refine IW.cond rfl (fun hb => absurd hb (by decide)) (fun _ => ?_)
  repeat refine IW.seq ?_
  refine IW.region_seq tab_ok [some 8, some 7] rfl fun X K hX hK => ?_
  simp only [go_sem]
  refine hK _ _ ?_; clear hX hK X K
  show IW _ _ _ _ _ _ _ _
  repeat refine IW.seq ?_
  refine IW.cond rfl (fun _ => ?_) (fun hb => absurd hb (by decide))
  repeat refine IW.seq ?_
  refine IW.region_seq tab_ok [some 9, some 2] rfl fun X K hX hK => ?_
  simp only [go_sem]
  refine hX.quiet _ _ (OpG.of_B rfl (opB_buildSlice tab_ok rfl (by simp [go_sem]) (by simp [go_sem]) (by simp) (by simp [go_sem, bsO, List.map_cons, List.map_nil]))) ?_
  simp only [go_sem, List.map_cons, List.map_nil]
  refine hK _ _ ?_; clear hX hK X K
  show IW _ _ _ _ _ _ _ _
  exact IW.ret (Fin.tmp1 0 rfl (strs_nold' _) rfl rfl)
def rw3 : List ByteArray := drw3.flatMap (·.2)
set_option maxHeartbeats 4000000 in
theorem refRows_3 : FSpec Try.prog 55 [.int .i64 3] (.ref 0 0 rw3.length) [⟨1, 9, strs rw3⟩] := by
  refine FSpec.intro tab_ok Try.func55 rfl rfl rfl (by kernel_rfl) (by simp) fun w0 => ?_
  simp only [argTM, Nat.zero_add, Nat.reduceAdd]
  repeat refine IW.seq ?_
  refine IW.region_seq tab_ok [some 2] rfl fun X K hX hK => ?_
  simp only [go_sem]
  refine hK _ _ ?_; clear hX hK X K
  show IW _ _ _ _ _ _ _ _
  repeat refine IW.seq ?_
  refine IW.region_seq tab_ok [some 3] rfl fun X K hX hK => ?_
  simp only [go_sem]
  refine hK _ _ ?_; clear hX hK X K
  show IW _ _ _ _ _ _ _ _
  repeat refine IW.seq ?_
  refine IW.block ?_
  repeat refine IW.seq ?_
  refine IW.region_seq tab_ok [some 5, some 4] rfl fun X K hX hK => ?_
  simp only [go_sem]
  refine hK _ _ ?_; clear hX hK X K
  show IW _ _ _ _ _ _ _ _
  repeat refine IW.seq ?_
  refine IW.cond rfl (fun hb => absurd hb (by decide)) (fun _ => ?_)
  repeat refine IW.seq ?_
  refine IW.region_seq tab_ok [some 8, some 7] rfl fun X K hX hK => ?_
  simp only [go_sem]
  refine hK _ _ ?_; clear hX hK X K
  show IW _ _ _ _ _ _ _ _
  repeat refine IW.seq ?_
  refine IW.cond rfl (fun hb => absurd hb (by decide)) (fun _ => ?_)
  repeat refine IW.seq ?_
  refine IW.region_seq tab_ok [some 11, some 10] rfl fun X K hX hK => ?_
  simp only [go_sem]
  refine hK _ _ ?_; clear hX hK X K
  show IW _ _ _ _ _ _ _ _
  repeat refine IW.seq ?_
  refine IW.cond rfl (fun _ => ?_) (fun hb => absurd hb (by decide))
  repeat refine IW.seq ?_
  refine IW.region_seq tab_ok [some 12, some 2] rfl fun X K hX hK => ?_
  simp only [go_sem]
  refine hX.quiet _ _ (OpG.of_B rfl (opB_buildSlice tab_ok rfl (by simp [go_sem]) (by simp [go_sem]) (by simp) (by simp [go_sem, bsO, List.map_cons, List.map_nil]))) ?_
  simp only [go_sem, List.map_cons, List.map_nil]
  refine hK _ _ ?_; clear hX hK X K
  show IW _ _ _ _ _ _ _ _
  exact IW.ret (Fin.tmp1 0 rfl (strs_nold' _) rfl rfl)
def rw4 : List ByteArray := drw4.flatMap (·.2)
set_option maxHeartbeats 4000000 in
theorem refRows_4 : FSpec Try.prog 55 [.int .i64 4] (.ref 0 0 rw4.length) [⟨1, 9, strs rw4⟩] := by
  refine FSpec.intro tab_ok Try.func55 rfl rfl rfl (by kernel_rfl) (by simp) fun w0 => ?_
  simp only [argTM, Nat.zero_add, Nat.reduceAdd]
  repeat refine IW.seq ?_
  refine IW.region_seq tab_ok [some 2] rfl fun X K hX hK => ?_
  simp only [go_sem]
  refine hK _ _ ?_; clear hX hK X K
  show IW _ _ _ _ _ _ _ _
  repeat refine IW.seq ?_
  refine IW.region_seq tab_ok [some 3] rfl fun X K hX hK => ?_
  simp only [go_sem]
  refine hK _ _ ?_; clear hX hK X K
  show IW _ _ _ _ _ _ _ _
  repeat refine IW.seq ?_
  refine IW.block ?_
  repeat refine IW.seq ?_
  refine IW.region_seq tab_ok [some 5, some 4] rfl fun X K hX hK => ?_
  simp only [go_sem]
  refine hK _ _ ?_; clear hX hK X K
  show IW _ _ _ _ _ _ _ _
  repeat refine IW.seq ?_
  refine IW.cond rfl (fun hb => absurd hb (by decide)) (fun _ => ?_)
  repeat refine IW.seq ?_
  refine IW.region_seq tab_ok [some 8, some 7] rfl fun X K hX hK => ?_
  simp only [go_sem]
  refine hK _ _ ?_; clear hX hK X K
  show IW _ _ _ _ _ _ _ _
  repeat refine IW.seq ?_
  refine IW.cond rfl (fun hb => absurd hb (by decide)) (fun _ => ?_)
  repeat refine IW.seq ?_
  refine IW.region_seq tab_ok [some 11, some 10] rfl fun X K hX hK => ?_
  simp only [go_sem]
  refine hK _ _ ?_; clear hX hK X K
  show IW _ _ _ _ _ _ _ _
  repeat refine IW.seq ?_
  refine IW.cond rfl (fun hb => absurd hb (by decide)) (fun _ => ?_)
  repeat refine IW.seq ?_
  refine IW.region_seq tab_ok [some 14, some 13] rfl fun X K hX hK => ?_
  simp only [go_sem]
  refine hK _ _ ?_; clear hX hK X K
  show IW _ _ _ _ _ _ _ _
  repeat refine IW.seq ?_
  refine IW.cond rfl (fun _ => ?_) (fun hb => absurd hb (by decide))
  repeat refine IW.seq ?_
  refine IW.region_seq tab_ok [some 15, some 2] rfl fun X K hX hK => ?_
  simp only [go_sem]
  refine hX.quiet _ _ (OpG.of_B rfl (opB_buildSlice tab_ok rfl (by simp [go_sem]) (by simp [go_sem]) (by simp) (by simp [go_sem, bsO, List.map_cons, List.map_nil]))) ?_
  simp only [go_sem, List.map_cons, List.map_nil]
  refine hK _ _ ?_; clear hX hK X K
  show IW _ _ _ _ _ _ _ _
  exact IW.ret (Fin.tmp1 0 rfl (strs_nold' _) rfl rfl)
def rw5 : List ByteArray := drw5.flatMap (·.2)
set_option maxHeartbeats 4000000 in
theorem refRows_5 : FSpec Try.prog 55 [.int .i64 5] (.ref 0 0 rw5.length) [⟨1, 9, strs rw5⟩] := by
  refine FSpec.intro tab_ok Try.func55 rfl rfl rfl (by kernel_rfl) (by simp) fun w0 => ?_
  simp only [argTM, Nat.zero_add, Nat.reduceAdd]
  repeat refine IW.seq ?_
  refine IW.region_seq tab_ok [some 2] rfl fun X K hX hK => ?_
  simp only [go_sem]
  refine hK _ _ ?_; clear hX hK X K
  show IW _ _ _ _ _ _ _ _
  repeat refine IW.seq ?_
  refine IW.region_seq tab_ok [some 3] rfl fun X K hX hK => ?_
  simp only [go_sem]
  refine hK _ _ ?_; clear hX hK X K
  show IW _ _ _ _ _ _ _ _
  repeat refine IW.seq ?_
  refine IW.block ?_
  repeat refine IW.seq ?_
  refine IW.region_seq tab_ok [some 5, some 4] rfl fun X K hX hK => ?_
  simp only [go_sem]
  refine hK _ _ ?_; clear hX hK X K
  show IW _ _ _ _ _ _ _ _
  repeat refine IW.seq ?_
  refine IW.cond rfl (fun hb => absurd hb (by decide)) (fun _ => ?_)
  repeat refine IW.seq ?_
  refine IW.region_seq tab_ok [some 8, some 7] rfl fun X K hX hK => ?_
  simp only [go_sem]
  refine hK _ _ ?_; clear hX hK X K
  show IW _ _ _ _ _ _ _ _
  repeat refine IW.seq ?_
  refine IW.cond rfl (fun hb => absurd hb (by decide)) (fun _ => ?_)
  repeat refine IW.seq ?_
  refine IW.region_seq tab_ok [some 11, some 10] rfl fun X K hX hK => ?_
  simp only [go_sem]
  refine hK _ _ ?_; clear hX hK X K
  show IW _ _ _ _ _ _ _ _
  repeat refine IW.seq ?_
  refine IW.cond rfl (fun hb => absurd hb (by decide)) (fun _ => ?_)
  repeat refine IW.seq ?_
  refine IW.region_seq tab_ok [some 14, some 13] rfl fun X K hX hK => ?_
  simp only [go_sem]
  refine hK _ _ ?_; clear hX hK X K
  show IW _ _ _ _ _ _ _ _
  repeat refine IW.seq ?_
  refine IW.cond rfl (fun hb => absurd hb (by decide)) (fun _ => ?_)
  repeat refine IW.seq ?_
  refine IW.region_seq tab_ok [some 17, some 16] rfl fun X K hX hK => ?_
  simp only [go_sem]
  refine hK _ _ ?_; clear hX hK X K
  show IW _ _ _ _ _ _ _ _
  repeat refine IW.seq ?_
  refine IW.cond rfl (fun _ => ?_) (fun hb => absurd hb (by decide))
  repeat refine IW.seq ?_
  refine IW.region_seq tab_ok [some 18, some 2] rfl fun X K hX hK => ?_
  simp only [go_sem]
  refine hX.quiet _ _ (OpG.of_B rfl (opB_buildSlice tab_ok rfl (by simp [go_sem]) (by simp [go_sem]) (by simp) (by simp [go_sem, bsO, List.map_cons, List.map_nil]))) ?_
  simp only [go_sem, List.map_cons, List.map_nil]
  refine hK _ _ ?_; clear hX hK X K
  show IW _ _ _ _ _ _ _ _
  exact IW.ret (Fin.tmp1 0 rfl (strs_nold' _) rfl rfl)
def rw6 : List ByteArray := drw6.flatMap (·.2)
set_option maxHeartbeats 4000000 in
theorem refRows_6 : FSpec Try.prog 55 [.int .i64 6] (.ref 0 0 rw6.length) [⟨1, 9, strs rw6⟩] := by
  refine FSpec.intro tab_ok Try.func55 rfl rfl rfl (by kernel_rfl) (by simp) fun w0 => ?_
  simp only [argTM, Nat.zero_add, Nat.reduceAdd]
  repeat refine IW.seq ?_
  refine IW.region_seq tab_ok [some 2] rfl fun X K hX hK => ?_
  simp only [go_sem]
  refine hK _ _ ?_; clear hX hK X K
  show IW _ _ _ _ _ _ _ _
  repeat refine IW.seq ?_
  refine IW.region_seq tab_ok [some 3] rfl fun X K hX hK => ?_
  simp only [go_sem]
  refine hK _ _ ?_; clear hX hK X K
  show IW _ _ _ _ _ _ _ _
  repeat refine IW.seq ?_
  refine IW.block ?_
  repeat refine IW.seq ?_
  refine IW.region_seq tab_ok [some 5, some 4] rfl fun X K hX hK => ?_
  simp only [go_sem]
  refine hK _ _ ?_; clear hX hK X K
  show IW _ _ _ _ _ _ _ _
  repeat refine IW.seq ?_
  refine IW.cond rfl (fun hb => absurd hb (by decide)) (fun _ => ?_)
  repeat refine IW.seq ?_
  refine IW.region_seq tab_ok [some 8, some 7] rfl fun X K hX hK => ?_
  simp only [go_sem]
  refine hK _ _ ?_; clear hX hK X K
  show IW _ _ _ _ _ _ _ _
  repeat refine IW.seq ?_
  refine IW.cond rfl (fun hb => absurd hb (by decide)) (fun _ => ?_)
  repeat refine IW.seq ?_
  refine IW.region_seq tab_ok [some 11, some 10] rfl fun X K hX hK => ?_
  simp only [go_sem]
  refine hK _ _ ?_; clear hX hK X K
  show IW _ _ _ _ _ _ _ _
  repeat refine IW.seq ?_
  refine IW.cond rfl (fun hb => absurd hb (by decide)) (fun _ => ?_)
  repeat refine IW.seq ?_
  refine IW.region_seq tab_ok [some 14, some 13] rfl fun X K hX hK => ?_
  simp only [go_sem]
  refine hK _ _ ?_; clear hX hK X K
  show IW _ _ _ _ _ _ _ _
  repeat refine IW.seq ?_
  refine IW.cond rfl (fun hb => absurd hb (by decide)) (fun _ => ?_)
  repeat refine IW.seq ?_
  refine IW.region_seq tab_ok [some 17, some 16] rfl fun X K hX hK => ?_
  simp only [go_sem]
  refine hK _ _ ?_; clear hX hK X K
  show IW _ _ _ _ _ _ _ _
  repeat refine IW.seq ?_
  refine IW.cond rfl (fun hb => absurd hb (by decide)) (fun _ => ?_)
  repeat refine IW.seq ?_
  refine IW.region_seq tab_ok [some 20, some 19] rfl fun X K hX hK => ?_
  simp only [go_sem]
  refine hK _ _ ?_; clear hX hK X K
  show IW _ _ _ _ _ _ _ _
  repeat refine IW.seq ?_
  refine IW.cond rfl (fun _ => ?_) (fun hb => absurd hb (by decide))
  repeat refine IW.seq ?_
  refine IW.region_seq tab_ok [some 21, some 2] rfl fun X K hX hK => ?_
  simp only [go_sem]
  refine hX.quiet _ _ (OpG.of_B rfl (opB_buildSlice tab_ok rfl (by simp [go_sem]) (by simp [go_sem]) (by simp) (by simp [go_sem, bsO, List.map_cons, List.map_nil]))) ?_
  simp only [go_sem, List.map_cons, List.map_nil]
  refine hK _ _ ?_; clear hX hK X K
  show IW _ _ _ _ _ _ _ _
  exact IW.ret (Fin.tmp1 0 rfl (strs_nold' _) rfl rfl)
def rw7 : List ByteArray := drw7.flatMap (·.2)
set_option maxHeartbeats 4000000 in
theorem refRows_7 : FSpec Try.prog 55 [.int .i64 7] (.ref 0 0 rw7.length) [⟨1, 9, strs rw7⟩] := by
  refine FSpec.intro tab_ok Try.func55 rfl rfl rfl (by kernel_rfl) (by simp) fun w0 => ?_
  simp only [argTM, Nat.zero_add, Nat.reduceAdd]
  repeat refine IW.seq ?_
  refine IW.region_seq tab_ok [some 2] rfl fun X K hX hK => ?_
  simp only [go_sem]
  refine hK _ _ ?_; clear hX hK X K
  show IW _ _ _ _ _ _ _ _
  repeat refine IW.seq ?_
  refine IW.region_seq tab_ok [some 3] rfl fun X K hX hK => ?_
  simp only [go_sem]
  refine hK _ _ ?_; clear hX hK X K
  show IW _ _ _ _ _ _ _ _
  repeat refine IW.seq ?_
  refine IW.block ?_
  repeat refine IW.seq ?_
  refine IW.region_seq tab_ok [some 5, some 4] rfl fun X K hX hK => ?_
  simp only [go_sem]
  refine hK _ _ ?_; clear hX hK X K
  show IW _ _ _ _ _ _ _ _
  repeat refine IW.seq ?_
  refine IW.cond rfl (fun hb => absurd hb (by decide)) (fun _ => ?_)
  repeat refine IW.seq ?_
  refine IW.region_seq tab_ok [some 8, some 7] rfl fun X K hX hK => ?_
  simp only [go_sem]
  refine hK _ _ ?_; clear hX hK X K
  show IW _ _ _ _ _ _ _ _
  repeat refine IW.seq ?_
  refine IW.cond rfl (fun hb => absurd hb (by decide)) (fun _ => ?_)
  repeat refine IW.seq ?_
  refine IW.region_seq tab_ok [some 11, some 10] rfl fun X K hX hK => ?_
  simp only [go_sem]
  refine hK _ _ ?_; clear hX hK X K
  show IW _ _ _ _ _ _ _ _
  repeat refine IW.seq ?_
  refine IW.cond rfl (fun hb => absurd hb (by decide)) (fun _ => ?_)
  repeat refine IW.seq ?_
  refine IW.region_seq tab_ok [some 14, some 13] rfl fun X K hX hK => ?_
  simp only [go_sem]
  refine hK _ _ ?_; clear hX hK X K
  show IW _ _ _ _ _ _ _ _
  repeat refine IW.seq ?_
  refine IW.cond rfl (fun hb => absurd hb (by decide)) (fun _ => ?_)
  repeat refine IW.seq ?_
  refine IW.region_seq tab_ok [some 17, some 16] rfl fun X K hX hK => ?_
  simp only [go_sem]
  refine hK _ _ ?_; clear hX hK X K
  show IW _ _ _ _ _ _ _ _
  repeat refine IW.seq ?_
  refine IW.cond rfl (fun hb => absurd hb (by decide)) (fun _ => ?_)
  repeat refine IW.seq ?_
  refine IW.region_seq tab_ok [some 20, some 19] rfl fun X K hX hK => ?_
  simp only [go_sem]
  refine hK _ _ ?_; clear hX hK X K
  show IW _ _ _ _ _ _ _ _
  repeat refine IW.seq ?_
  refine IW.cond rfl (fun hb => absurd hb (by decide)) (fun _ => ?_)
  repeat refine IW.seq ?_
  refine IW.region_seq tab_ok [some 23, some 22] rfl fun X K hX hK => ?_
  simp only [go_sem]
  refine hK _ _ ?_; clear hX hK X K
  show IW _ _ _ _ _ _ _ _
  repeat refine IW.seq ?_
  refine IW.cond rfl (fun _ => ?_) (fun hb => absurd hb (by decide))
  repeat refine IW.seq ?_
  refine IW.region_seq tab_ok [some 24, some 2] rfl fun X K hX hK => ?_
  simp only [go_sem]
  refine hX.quiet _ _ (OpG.of_B rfl (opB_buildSlice tab_ok rfl (by simp [go_sem]) (by simp [go_sem]) (by simp) (by simp [go_sem, bsO, List.map_cons, List.map_nil]))) ?_
  simp only [go_sem, List.map_cons, List.map_nil]
  refine hK _ _ ?_; clear hX hK X K
  show IW _ _ _ _ _ _ _ _
  exact IW.ret (Fin.tmp1 0 rfl (strs_nold' _) rfl rfl)
def rw8 : List ByteArray := drw8.flatMap (·.2)
set_option maxHeartbeats 4000000 in
theorem refRows_8 : FSpec Try.prog 55 [.int .i64 8] (.ref 0 0 rw8.length) [⟨1, 9, strs rw8⟩] := by
  refine FSpec.intro tab_ok Try.func55 rfl rfl rfl (by kernel_rfl) (by simp) fun w0 => ?_
  simp only [argTM, Nat.zero_add, Nat.reduceAdd]
  repeat refine IW.seq ?_
  refine IW.region_seq tab_ok [some 2] rfl fun X K hX hK => ?_
  simp only [go_sem]
  refine hK _ _ ?_; clear hX hK X K
  show IW _ _ _ _ _ _ _ _
  repeat refine IW.seq ?_
  refine IW.region_seq tab_ok [some 3] rfl fun X K hX hK => ?_
  simp only [go_sem]
  refine hK _ _ ?_; clear hX hK X K
  show IW _ _ _ _ _ _ _ _
  repeat refine IW.seq ?_
  refine IW.block ?_
  repeat refine IW.seq ?_
  refine IW.region_seq tab_ok [some 5, some 4] rfl fun X K hX hK => ?_
  simp only [go_sem]
  refine hK _ _ ?_; clear hX hK X K
  show IW _ _ _ _ _ _ _ _
  repeat refine IW.seq ?_
  refine IW.cond rfl (fun hb => absurd hb (by decide)) (fun _ => ?_)
  repeat refine IW.seq ?_
  refine IW.region_seq tab_ok [some 8, some 7] rfl fun X K hX hK => ?_
  simp only [go_sem]
  refine hK _ _ ?_; clear hX hK X K
  show IW _ _ _ _ _ _ _ _
  repeat refine IW.seq ?_
  refine IW.cond rfl (fun hb => absurd hb (by decide)) (fun _ => ?_)
  repeat refine IW.seq ?_
  refine IW.region_seq tab_ok [some 11, some 10] rfl fun X K hX hK => ?_
  simp only [go_sem]
  refine hK _ _ ?_; clear hX hK X K
  show IW _ _ _ _ _ _ _ _
  repeat refine IW.seq ?_
  refine IW.cond rfl (fun hb => absurd hb (by decide)) (fun _ => ?_)
  repeat refine IW.seq ?_
  refine IW.region_seq tab_ok [some 14, some 13] rfl fun X K hX hK => ?_
  simp only [go_sem]
  refine hK _ _ ?_; clear hX hK X K
  show IW _ _ _ _ _ _ _ _
  repeat refine IW.seq ?_
  refine IW.cond rfl (fun hb => absurd hb (by decide)) (fun _ => ?_)
  repeat refine IW.seq ?_
  refine IW.region_seq tab_ok [some 17, some 16] rfl fun X K hX hK => ?_
  simp only [go_sem]
  refine hK _ _ ?_; clear hX hK X K
  show IW _ _ _ _ _ _ _ _
  repeat refine IW.seq ?_
  refine IW.cond rfl (fun hb => absurd hb (by decide)) (fun _ => ?_)
  repeat refine IW.seq ?_
  refine IW.region_seq tab_ok [some 20, some 19] rfl fun X K hX hK => ?_
  simp only [go_sem]
  refine hK _ _ ?_; clear hX hK X K
  show IW _ _ _ _ _ _ _ _
  repeat refine IW.seq ?_
  refine IW.cond rfl (fun hb => absurd hb (by decide)) (fun _ => ?_)
  repeat refine IW.seq ?_
  refine IW.region_seq tab_ok [some 23, some 22] rfl fun X K hX hK => ?_
  simp only [go_sem]
  refine hK _ _ ?_; clear hX hK X K
  show IW _ _ _ _ _ _ _ _
  repeat refine IW.seq ?_
  refine IW.cond rfl (fun hb => absurd hb (by decide)) (fun _ => ?_)
  repeat refine IW.seq ?_
  refine IW.region_seq tab_ok [some 26, some 25] rfl fun X K hX hK => ?_
  simp only [go_sem]
  refine hK _ _ ?_; clear hX hK X K
  show IW _ _ _ _ _ _ _ _
  repeat refine IW.seq ?_
  refine IW.cond rfl (fun _ => ?_) (fun hb => absurd hb (by decide))
  repeat refine IW.seq ?_
  refine IW.region_seq tab_ok [some 27, some 2] rfl fun X K hX hK => ?_
  simp only [go_sem]
  refine hX.quiet _ _ (OpG.of_B rfl (opB_buildSlice tab_ok rfl (by simp [go_sem]) (by simp [go_sem]) (by simp) (by simp [go_sem, bsO, List.map_cons, List.map_nil]))) ?_
  simp only [go_sem, List.map_cons, List.map_nil]
  refine hK _ _ ?_; clear hX hK X K
  show IW _ _ _ _ _ _ _ _
  exact IW.ret (Fin.tmp1 0 rfl (strs_nold' _) rfl rfl)
def rw10 : List ByteArray := drw10.flatMap (·.2)
set_option maxHeartbeats 4000000 in
theorem refRows_10 : FSpec Try.prog 55 [.int .i64 10] (.ref 0 0 rw10.length) [⟨1, 9, strs rw10⟩] := by
  refine FSpec.intro tab_ok Try.func55 rfl rfl rfl (by kernel_rfl) (by simp) fun w0 => ?_
  simp only [argTM, Nat.zero_add, Nat.reduceAdd]
  repeat refine IW.seq ?_
  refine IW.region_seq tab_ok [some 2] rfl fun X K hX hK => ?_
  simp only [go_sem]
  refine hK _ _ ?_; clear hX hK X K
  show IW _ _ _ _ _ _ _ _
  repeat refine IW.seq ?_
  refine IW.region_seq tab_ok [some 3] rfl fun X K hX hK => ?_
  simp only [go_sem]
  refine hK _ _ ?_; clear hX hK X K
  show IW _ _ _ _ _ _ _ _
  repeat refine IW.seq ?_
  refine IW.block ?_
  repeat refine IW.seq ?_
  refine IW.region_seq tab_ok [some 5, some 4] rfl fun X K hX hK => ?_
  simp only [go_sem]
  refine hK _ _ ?_; clear hX hK X K
  show IW _ _ _ _ _ _ _ _
  repeat refine IW.seq ?_
  refine IW.cond rfl (fun hb => absurd hb (by decide)) (fun _ => ?_)
  repeat refine IW.seq ?_
  refine IW.region_seq tab_ok [some 8, some 7] rfl fun X K hX hK => ?_
  simp only [go_sem]
  refine hK _ _ ?_; clear hX hK X K
  show IW _ _ _ _ _ _ _ _
  repeat refine IW.seq ?_
  refine IW.cond rfl (fun hb => absurd hb (by decide)) (fun _ => ?_)
  repeat refine IW.seq ?_
  refine IW.region_seq tab_ok [some 11, some 10] rfl fun X K hX hK => ?_
  simp only [go_sem]
  refine hK _ _ ?_; clear hX hK X K
  show IW _ _ _ _ _ _ _ _
  repeat refine IW.seq ?_
  refine IW.cond rfl (fun hb => absurd hb (by decide)) (fun _ => ?_)
  repeat refine IW.seq ?_
  refine IW.region_seq tab_ok [some 14, some 13] rfl fun X K hX hK => ?_
  simp only [go_sem]
  refine hK _ _ ?_; clear hX hK X K
  show IW _ _ _ _ _ _ _ _
  repeat refine IW.seq ?_
  refine IW.cond rfl (fun hb => absurd hb (by decide)) (fun _ => ?_)
  repeat refine IW.seq ?_
  refine IW.region_seq tab_ok [some 17, some 16] rfl fun X K hX hK => ?_
  simp only [go_sem]
  refine hK _ _ ?_; clear hX hK X K
  show IW _ _ _ _ _ _ _ _
  repeat refine IW.seq ?_
  refine IW.cond rfl (fun hb => absurd hb (by decide)) (fun _ => ?_)
  repeat refine IW.seq ?_
  refine IW.region_seq tab_ok [some 20, some 19] rfl fun X K hX hK => ?_
  simp only [go_sem]
  refine hK _ _ ?_; clear hX hK X K
  show IW _ _ _ _ _ _ _ _
  repeat refine IW.seq ?_
  refine IW.cond rfl (fun hb => absurd hb (by decide)) (fun _ => ?_)
  repeat refine IW.seq ?_
  refine IW.region_seq tab_ok [some 23, some 22] rfl fun X K hX hK => ?_
  simp only [go_sem]
  refine hK _ _ ?_; clear hX hK X K
  show IW _ _ _ _ _ _ _ _
  repeat refine IW.seq ?_
  refine IW.cond rfl (fun hb => absurd hb (by decide)) (fun _ => ?_)
  repeat refine IW.seq ?_
  refine IW.region_seq tab_ok [some 26, some 25] rfl fun X K hX hK => ?_
  simp only [go_sem]
  refine hK _ _ ?_; clear hX hK X K
  show IW _ _ _ _ _ _ _ _
  repeat refine IW.seq ?_
  refine IW.cond rfl (fun hb => absurd hb (by decide)) (fun _ => ?_)
  repeat refine IW.seq ?_
  refine IW.region_seq tab_ok [some 29, some 28] rfl fun X K hX hK => ?_
  simp only [go_sem]
  refine hK _ _ ?_; clear hX hK X K
  show IW _ _ _ _ _ _ _ _
  repeat refine IW.seq ?_
  refine IW.cond rfl (fun _ => ?_) (fun hb => absurd hb (by decide))
  repeat refine IW.seq ?_
  refine IW.region_seq tab_ok [some 30, some 2] rfl fun X K hX hK => ?_
  simp only [go_sem]
  refine hX.quiet _ _ (OpG.of_B rfl (opB_buildSlice tab_ok rfl (by simp [go_sem]) (by simp [go_sem]) (by simp) (by simp [go_sem, bsO, List.map_cons, List.map_nil]))) ?_
  simp only [go_sem, List.map_cons, List.map_nil]
  refine hK _ _ ?_; clear hX hK X K
  show IW _ _ _ _ _ _ _ _
  exact IW.ret (Fin.tmp1 0 rfl (strs_nold' _) rfl rfl)
theorem refRows_9 : FSpec Try.prog 55 [.int .i64 9] .nils [] := by
  refine FSpec.intro tab_ok Try.func55 rfl rfl rfl (by kernel_rfl) (by simp) fun w0 => ?_
  simp only [argTM, Nat.zero_add, Nat.reduceAdd]
  repeat refine IW.seq ?_
  refine IW.region_seq tab_ok [some 2] rfl fun X K hX hK => ?_
  simp only [go_sem]
  refine hK _ _ ?_; clear hX hK X K
  show IW _ _ _ _ _ _ _ _
  repeat refine IW.seq ?_
  refine IW.region_seq tab_ok [some 3] rfl fun X K hX hK => ?_
  simp only [go_sem]
  refine hK _ _ ?_; clear hX hK X K
  show IW _ _ _ _ _ _ _ _
  repeat refine IW.seq ?_
  refine IW.block ?_
  repeat refine IW.seq ?_
  refine IW.region_seq tab_ok [some 5, some 4] rfl fun X K hX hK => ?_
  simp only [go_sem]
  refine hK _ _ ?_; clear hX hK X K
  show IW _ _ _ _ _ _ _ _
  repeat refine IW.seq ?_
  refine IW.cond rfl (fun hb => absurd hb (by decide)) (fun _ => ?_)
  repeat refine IW.seq ?_
  refine IW.region_seq tab_ok [some 8, some 7] rfl fun X K hX hK => ?_
  simp only [go_sem]
  refine hK _ _ ?_; clear hX hK X K
  show IW _ _ _ _ _ _ _ _
  repeat refine IW.seq ?_
  refine IW.cond rfl (fun hb => absurd hb (by decide)) (fun _ => ?_)
  repeat refine IW.seq ?_
  refine IW.region_seq tab_ok [some 11, some 10] rfl fun X K hX hK => ?_
  simp only [go_sem]
  refine hK _ _ ?_; clear hX hK X K
  show IW _ _ _ _ _ _ _ _
  repeat refine IW.seq ?_
  refine IW.cond rfl (fun hb => absurd hb (by decide)) (fun _ => ?_)
  repeat refine IW.seq ?_
  refine IW.region_seq tab_ok [some 14, some 13] rfl fun X K hX hK => ?_
  simp only [go_sem]
  refine hK _ _ ?_; clear hX hK X K
  show IW _ _ _ _ _ _ _ _
  repeat refine IW.seq ?_
  refine IW.cond rfl (fun hb => absurd hb (by decide)) (fun _ => ?_)
  repeat refine IW.seq ?_
  refine IW.region_seq tab_ok [some 17, some 16] rfl fun X K hX hK => ?_
  simp only [go_sem]
  refine hK _ _ ?_; clear hX hK X K
  show IW _ _ _ _ _ _ _ _
  repeat refine IW.seq ?_
  refine IW.cond rfl (fun hb => absurd hb (by decide)) (fun _ => ?_)
  repeat refine IW.seq ?_
  refine IW.region_seq tab_ok [some 20, some 19] rfl fun X K hX hK => ?_
  simp only [go_sem]
  refine hK _ _ ?_; clear hX hK X K
  show IW _ _ _ _ _ _ _ _
  repeat refine IW.seq ?_
  refine IW.cond rfl (fun hb => absurd hb (by decide)) (fun _ => ?_)
  repeat refine IW.seq ?_
  refine IW.region_seq tab_ok [some 23, some 22] rfl fun X K hX hK => ?_
  simp only [go_sem]
  refine hK _ _ ?_; clear hX hK X K
  show IW _ _ _ _ _ _ _ _
  repeat refine IW.seq ?_
  refine IW.cond rfl (fun hb => absurd hb (by decide)) (fun _ => ?_)
  repeat refine IW.seq ?_
  refine IW.region_seq tab_ok [some 26, some 25] rfl fun X K hX hK => ?_
  simp only [go_sem]
  refine hK _ _ ?_; clear hX hK X K
  show IW _ _ _ _ _ _ _ _
  repeat refine IW.seq ?_
  refine IW.cond rfl (fun hb => absurd hb (by decide)) (fun _ => ?_)
  repeat refine IW.seq ?_
  refine IW.region_seq tab_ok [some 29, some 28] rfl fun X K hX hK => ?_
  simp only [go_sem]
  refine hK _ _ ?_; clear hX hK X K
  show IW _ _ _ _ _ _ _ _
  repeat refine IW.seq ?_
  refine IW.cond rfl (fun hb => absurd hb (by decide)) (fun _ => ?_)
  refine IW.skip ?_
  show IW _ _ _ _ _ _ _ _
  repeat refine IW.seq ?_
  refine IW.region_seq tab_ok [some 2] rfl fun X K hX hK => ?_
  simp only [go_sem]
  refine hK _ _ ?_; clear hX hK X K
  show IW _ _ _ _ _ _ _ _
  refine IW.ret (Fin.scal rfl rfl ?_)
  rfl
end Go.Proofs.Ytnbpbehlemaeoaa

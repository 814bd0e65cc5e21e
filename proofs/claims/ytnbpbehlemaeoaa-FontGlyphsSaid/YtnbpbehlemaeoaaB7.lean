/- Contracts of sets, sorts, options, texts, and of the chapter's examples. -/
import Derived.Test.YtnbpbehlemaeoaaB6
import Derived.Shelf.SlIterI.Nil
import Derived.Shelf.SortM.Plain
import Derived.Shelf.SortM.SortNone
import Derived.Ground.GgzProg
import Derived.Ground.SlgmProg
set_option linter.unusedVariables false
set_option linter.unusedSimpArgs false
set_option maxRecDepth 10000
namespace Go.Proofs
open Go.RowKit Go.Maps Go.Sort Go.Shelf
def Try.keysA_ren : Go.Shelf.Ren := ⟨fun | 7 => 51 | 10 => 78 | n => n, fun | 23 => 72 | 26 => 3 | 3 => 74 | 28 => 77 | 0 => 0 | 27 => 76 | 33 => 108 | 4 => 4 | n => n, fun | n => n⟩
theorem Try.keysA : Go.Proofs.SlLaysZI.n7 Try.prog Try.keysA_ren := {
  mixed := by kernel_rfl,
  f7 := ⟨Try.f51.name, by decide, Try.func51.trans (congrArg some (by kernel_rfl))⟩,
  f10 := ⟨Try.f78.name, by decide, Try.func78.trans (congrArg some (by kernel_rfl))⟩,
  t0 := Try.underlying0,
  a0 := Try.isAgg0,
  z0 := Try.sizeOf0,
  v0 := Try.zeroValue0,
  t4 := Try.underlying4,
  a4 := Try.isAgg4,
  z4 := Try.sizeOf4,
  v4 := Try.zeroValue4,
  t23 := Try.underlying72,
  a23 := Try.isAgg72,
  z23 := Try.sizeOf72,
  v23 := Try.zeroValue72,
  t26 := Try.underlying3,
  a26 := Try.isAgg3,
  z26 := Try.sizeOf3,
  v26 := Try.zeroValue3,
  t27 := Try.underlying76,
  a27 := Try.isAgg76,
  z27 := Try.sizeOf76,
  v27 := Try.zeroValue76,
  t28 := Try.underlying77,
  a28 := Try.isAgg77,
  z28 := Try.sizeOf77,
  v28 := Try.zeroValue77,
  t33 := Try.underlying108,
  a33 := Try.isAgg108,
  z33 := Try.sizeOf108,
  v33 := Try.zeroValue108 }
def Try.sortedA_ren : Go.Shelf.Ren := ⟨fun | 6 => 50 | 8 => 76 | 9 => 77 | 11 => 87 | 13 => 89 | 12 => 88 | 23 => 104 | 24 => 105 | 14 => 95 | 15 => 96 | 16 => 97 | 17 => 98 | 18 => 99 | 19 => 100 | 20 => 101 | 21 => 102 | 22 => 103 | 25 => 107 | 26 => 108 | 27 => 109 | 28 => 110 | 29 => 111 | 30 => 112 | 31 => 114 | n => n, fun | 26 => 3 | 28 => 77 | 24 => 23 | 0 => 0 | 3 => 3 | 37 => 121 | 48 => 138 | 50 => 124 | 4 => 4 | 40 => 131 | 39 => 130 | 45 => 135 | 5 => 5 | 9 => 9 | 51 => 140 | 55 => 144 | 57 => 146 | 58 => 24 | 33 => 108 | n => n, fun | n => n⟩
theorem Try.sortedA : Go.Proofs.SlLaysZI.n6 Try.prog Try.sortedA_ren := {
  mixed := by kernel_rfl,
  f6 := ⟨Try.f50.name, by decide, Try.func50.trans (congrArg some (by kernel_rfl))⟩,
  f8 := ⟨Try.f76.name, by decide, Try.func76.trans (congrArg some (by kernel_rfl))⟩,
  f11 := ⟨Try.f87.name, by decide, Try.func87.trans (congrArg some (by kernel_rfl))⟩,
  t0 := Try.underlying0,
  a0 := Try.isAgg0,
  z0 := Try.sizeOf0,
  v0 := Try.zeroValue0,
  t24 := Try.underlying23,
  a24 := Try.isAgg23,
  z24 := Try.sizeOf23,
  v24 := Try.zeroValue23,
  t26 := Try.underlying3,
  a26 := Try.isAgg3,
  z26 := Try.sizeOf3,
  v26 := Try.zeroValue3,
  t28 := Try.underlying77,
  a28 := Try.isAgg77,
  z28 := Try.sizeOf77,
  v28 := Try.zeroValue77,
  i26 := by kernel_rfl }
def Try.sortA_ren : Go.Shelf.Ren := ⟨fun | 5 => 77 | 8 => 89 | 7 => 88 | 19 => 104 | 20 => 105 | 10 => 95 | 11 => 96 | 12 => 97 | 13 => 98 | 14 => 99 | 15 => 100 | 16 => 101 | 17 => 102 | 18 => 103 | 30 => 107 | 31 => 108 | 32 => 109 | 33 => 110 | 34 => 111 | 35 => 112 | 40 => 114 | n => n, fun | 23 => 23 | 25 => 3 | 3 => 3 | 32 => 121 | 22 => 23 | 0 => 0 | 44 => 138 | 46 => 124 | 4 => 4 | 36 => 131 | 35 => 130 | 41 => 135 | 5 => 5 | 9 => 9 | 53 => 140 | 57 => 144 | 63 => 146 | 64 => 24 | n => n, fun | n => n⟩
theorem Try.sortA : Go.Proofs.SlLaysM.n5 Try.prog Try.sortA_ren := {
  mixed := by kernel_rfl,
  f5 := ⟨Try.f77.name, by decide, Try.func77.trans (congrArg some (by kernel_rfl))⟩,
  f7 := ⟨Try.f88.name, by decide, Try.func88.trans (congrArg some (by kernel_rfl))⟩,
  f8 := Try.func89.trans (congrArg some (by kernel_rfl)),
  f10 := ⟨Try.f95.name, by decide, Try.func95.trans (congrArg some (by kernel_rfl))⟩,
  f11 := ⟨Try.f96.name, by decide, Try.func96.trans (congrArg some (by kernel_rfl))⟩,
  f12 := ⟨Try.f97.name, by decide, Try.func97.trans (congrArg some (by kernel_rfl))⟩,
  f13 := ⟨Try.f98.name, by decide, Try.func98.trans (congrArg some (by kernel_rfl))⟩,
  f14 := ⟨Try.f99.name, by decide, Try.func99.trans (congrArg some (by kernel_rfl))⟩,
  f15 := ⟨Try.f100.name, by decide, Try.func100.trans (congrArg some (by kernel_rfl))⟩,
  f16 := ⟨Try.f101.name, by decide, Try.func101.trans (congrArg some (by kernel_rfl))⟩,
  f17 := ⟨Try.f102.name, by decide, Try.func102.trans (congrArg some (by kernel_rfl))⟩,
  f18 := ⟨Try.f103.name, by decide, Try.func103.trans (congrArg some (by kernel_rfl))⟩,
  f19 := Try.func104.trans (congrArg some (by kernel_rfl)),
  f20 := Try.func105.trans (congrArg some (by kernel_rfl)),
  f30 := ⟨Try.f107.name, by decide, Try.func107.trans (congrArg some (by kernel_rfl))⟩,
  f31 := Try.func108.trans (congrArg some (by kernel_rfl)),
  f32 := Try.func109.trans (congrArg some (by kernel_rfl)),
  f33 := ⟨Try.f110.name, by decide, Try.func110.trans (congrArg some (by kernel_rfl))⟩,
  f34 := ⟨Try.f111.name, by decide, Try.func111.trans (congrArg some (by kernel_rfl))⟩,
  f35 := ⟨Try.f112.name, by decide, Try.func112.trans (congrArg some (by kernel_rfl))⟩,
  f40 := ⟨Try.f114.name, by decide, Try.func114.trans (congrArg some (by kernel_rfl))⟩,
  t0 := Try.underlying0,
  a0 := Try.isAgg0,
  z0 := Try.sizeOf0,
  v0 := Try.zeroValue0,
  t3 := Try.underlying3,
  a3 := Try.isAgg3,
  z3 := Try.sizeOf3,
  v3 := Try.zeroValue3,
  t4 := Try.underlying4,
  a4 := Try.isAgg4,
  z4 := Try.sizeOf4,
  v4 := Try.zeroValue4,
  t5 := Try.underlying5,
  a5 := Try.isAgg5,
  z5 := Try.sizeOf5,
  v5 := Try.zeroValue5,
  t9 := Try.underlying9,
  a9 := Try.isAgg9,
  z9 := Try.sizeOf9,
  v9 := Try.zeroValue9,
  t22 := Try.underlying23,
  a22 := Try.isAgg23,
  z22 := Try.sizeOf23,
  v22 := Try.zeroValue23,
  t23 := Try.underlying23,
  a23 := Try.isAgg23,
  z23 := Try.sizeOf23,
  v23 := Try.zeroValue23,
  t25 := Try.underlying3,
  a25 := Try.isAgg3,
  z25 := Try.sizeOf3,
  v25 := Try.zeroValue3,
  t32 := Try.underlying121,
  a32 := Try.isAgg121,
  z32 := Try.sizeOf121,
  v32 := Try.zeroValue121,
  t35 := Try.underlying130,
  a35 := Try.isAgg130,
  z35 := Try.sizeOf130,
  v35 := Try.zeroValue130,
  t36 := Try.underlying131,
  a36 := Try.isAgg131,
  z36 := Try.sizeOf131,
  v36 := Try.zeroValue131,
  t41 := Try.underlying135,
  a41 := Try.isAgg135,
  z41 := Try.sizeOf135,
  v41 := Try.zeroValue135,
  t44 := Try.underlying138,
  a44 := Try.isAgg138,
  z44 := Try.sizeOf138,
  v44 := Try.zeroValue138,
  t46 := Try.underlying124,
  a46 := Try.isAgg124,
  z46 := Try.sizeOf124,
  v46 := Try.zeroValue124,
  t53 := Try.underlying140,
  a53 := Try.isAgg140,
  z53 := Try.sizeOf140,
  v53 := Try.zeroValue140,
  t57 := Try.underlying144,
  a57 := Try.isAgg144,
  z57 := Try.sizeOf144,
  v57 := Try.zeroValue144,
  t63 := Try.underlying146,
  a63 := Try.isAgg146,
  z63 := Try.sizeOf146,
  v63 := Try.zeroValue146,
  t64 := Try.underlying24,
  a64 := Try.isAgg24,
  z64 := Try.sizeOf24,
  v64 := Try.zeroValue24 }
theorem Try.sortsA (m : Nat) : AnyZI.SortsIn Try.prog Try.sortedA_ren Fence.wide m :=
  ⟨fun blk off cap ss W hH hblk hsz => callsIn_wide.2 (AnyM.slices_Sort_int Try.sortA blk off cap ss W hH hblk hsz),
   fun p cap W => callsIn_wide.2 (AnyM.slices_Sort_int_none Try.sortA p cap W)⟩
end Go.Proofs
namespace Go.Proofs.Ytnbpbehlemaeoaa
open Go.IL
/-- A row that a call has made, or none. -/
theorem own_row {ρ : Rho} {O F : Nat → Prop} {w w' : World} {h : Heap} (hs : Sat ρ O F h w) (hfree : ρ h.length = none) (hb : RowKit.Below w.heap.size w w') {e : TypeId} {k n : Nat} {v : Value} {news : List Value} (he : e < softK) (hk : 0 < k) (hown : w'.ownsRow w.heap.size e k v n news)
    {ys : List (List SV)} (hl : ys.length = n) (hw : ∀ y ∈ ys, y.length = k) (hc : ∀ (i j : Nat) (x : List SV) (y : SV), ys[i]? = some x → x[j]? = some y → ∃ u, news[i * k + j]? = some u ∧ ∀ (ρ : Rho) (O F : Nat → Prop) (w : World), VRel ρ O F w y u) :
    ∃ ρ', Ext ρ F w ρ' F w' ∧ (∀ id, ρ' id ≠ ρ id → id = h.length) ∧ Sat ρ' O F (h ++ [some ⟨k, e, ys⟩]) w' ∧ VRel ρ' O F w' (lsV h.length n) v := by
  have hext : Ext ρ F w ρ F w' := ⟨fun _ _ e => e, fun id ri e e' => (by rw [e'] at e; cases e), fun _ e => e, fun _ e e' => absurd e e', hb⟩
  rcases hown.2 with ⟨rfl, h0⟩ | ⟨g, cap, cur, rfl, g0, g1, g2, g3, g4, g5⟩
  · subst h0
    refine ⟨ρ, hext, fun id e => absurd rfl e, ⟨fun id r ri e1 e2 => ?_, fun id id' r r' ri ri' e1 e1' e2 e2' hbb => ?_, fun b hb' => Nat.lt_of_lt_of_le (hs.lt b hb') hb.size⟩, rel_ls_nil .nils⟩
    · have hid : id < h.length := by
        rcases Nat.lt_trichotomy id h.length with h' | h' | h'
        · exact h'
        · rw [h', hfree] at e2; cases e2
        · rw [List.getElem?_eq_none (by simp; omega)] at e1; cases e1
      rw [List.getElem?_append_left hid] at e1
      exact (hs.row id r ri e1 e2).ext hs.lt hext
    · have key : ∀ id r ri, (h ++ [some (⟨k, e, ys⟩ : Row)])[id]? = some (some r) → ρ id = some ri → h[id]? = some (some r) := fun id r ri e1 e2 => by
        have hid : id < h.length := by
          rcases Nat.lt_trichotomy id h.length with h' | h' | h'
          · exact h'
          · rw [h', hfree] at e2; cases e2
          · rw [List.getElem?_eq_none (by simp; omega)] at e1; cases e1
        rw [List.getElem?_append_left hid] at e1; exact e1
      exact hs.inj id id' r r' ri ri' (key id r ri e1 e2) (key id' r' ri' e1' e2') e2 e2' hbb
  · have hx : Ext ρ F w (fun id => if id = h.length then some ⟨g, k, cap * k⟩ else ρ id) F w' := by
      refine ⟨fun id ri e => ?_, fun id ri e e' => ?_, fun _ e => e, fun _ e e' => absurd e e', hb⟩
      · rw [if_neg]
        · exact e
        · rintro rfl; rw [hfree] at e; cases e
      · by_cases c : id = h.length
        · simp only [if_pos c] at e; cases e; exact g0
        · simp only [if_neg c] at e; rw [e'] at e; cases e
    refine ⟨_, hx, fun id e => ?_, ⟨fun id r ri e1 e2 => ?_, fun id id' r r' ri ri' e1 e1' e2 e2' hbb => ?_, fun b hb' => Nat.lt_of_lt_of_le (hs.lt b hb') hb.size⟩, ?_⟩
    · by_cases c : id = h.length
      · exact c
      · simp only [if_neg c] at e; exact absurd rfl e
    · by_cases c : id = h.length
      · subst c
        simp only [if_true] at e2
        cases e2
        rw [List.getElem?_append_right (Nat.le_refl _), Nat.sub_self] at e1
        simp at e1; subst e1
        refine ⟨rfl, fun ho => by have := hs.lt _ (.inl ho); simp only at this; omega, fun hf => by have := hs.lt _ (.inr hf); simp only at this; omega, hw, cur, by rw [tyE_hard he, frE_hard he]; exact g1, g4, by rw [hl, g4]; exact Nat.mul_le_mul_right _ g2, fun i j x y f1 f2 => ?_⟩
        obtain ⟨u, a1, a2⟩ := hc i j x y f1 f2
        refine ⟨u, ?_, a2 _ _ _ _⟩
        rw [← g5, List.getElem?_take] at a1
        split at a1
        · simpa using a1
        · cases a1
      · simp only [if_neg c] at e2
        have hid : id < h.length := by
          rcases Nat.lt_trichotomy id h.length with h' | h' | h'
          · exact h'
          · exact absurd h' c
          · rw [List.getElem?_eq_none (by simp; omega)] at e1; cases e1
        rw [List.getElem?_append_left hid] at e1
        exact (hs.row id r ri e1 e2).ext hs.lt hx
    · have old : ∀ id r ri, id ≠ h.length → (h ++ [some (⟨k, e, ys⟩ : Row)])[id]? = some (some r) → ρ id = some ri → h[id]? = some (some r) ∧ ri.b < w.heap.size := fun id r ri c e1 e2 => by
        have hid : id < h.length := by
          rcases Nat.lt_trichotomy id h.length with h' | h' | h'
          · exact h'
          · exact absurd h' c
          · rw [List.getElem?_eq_none (by simp; omega)] at e1; cases e1
        rw [List.getElem?_append_left hid] at e1
        exact ⟨e1, (hs.row id r ri e1 e2).lt⟩
      by_cases c : id = h.length <;> by_cases c' : id' = h.length
      · rw [c, c']
      · simp only [if_pos c] at e2; simp only [if_neg c'] at e2'
        cases e2
        have := (old id' r' ri' c' e1' e2').2
        simp only at hbb; omega
      · simp only [if_neg c] at e2; simp only [if_pos c'] at e2'
        cases e2'
        have := (old id r ri c e1 e2).2
        simp only at hbb; omega
      · simp only [if_neg c] at e2; simp only [if_neg c'] at e2'
        exact hs.inj id id' r r' ri ri' (old id r ri c e1 e2).1 (old id' r' ri' c' e1' e2').1 e2 e2' hbb
    · refine rel_ls ?_
      have := VRel.ref (ρ := fun id => if id = h.length then some (⟨g, k, cap * k⟩ : RI) else ρ id) (O := O) (F := F) (w := w') h.length 0 n cap ⟨g, k, cap * k⟩ (by simp) g2 (by simp) (by simpa [maxLen] using g3)
      simpa using this
theorem fKeys0 (r : Option Nat) : FSpec Try.prog 51 [.raw (.map r)] (.clo 78 [.ptr 0 0 0]) [⟨1, 72, [[.raw (.map r)]]⟩] := by
  refine FSpec.intro tab_ok Try.func51 rfl rfl rfl (by kernel_rfl) (by simp) fun w0 => ?_
  simp only [argTM, Nat.zero_add, Nat.reduceAdd]
  repeat refine IW.seq ?_
  refine IW.region_seq tab_ok [some 1, some 2] rfl fun X K hX hK => ?_
  simp only [go_sem, if_true, if_false, reduceIte, Nat.reduceEqDiff, Nat.reduceAdd, Nat.reduceLT, Nat.reduceLeDiff, reduceCtorEq]
  refine hK _ _ ?_; clear hX hK X K
  show IW _ _ _ _ _ _ _ _
  repeat refine IW.seq ?_
  refine IW.region_seq tab_ok [some 3, some 2] rfl fun X K hX hK => ?_
  simp only [go_sem, if_true, if_false, reduceIte, Nat.reduceEqDiff, Nat.reduceAdd, Nat.reduceLT, Nat.reduceLeDiff, reduceCtorEq]
  refine hK _ _ ?_; clear hX hK X K
  show IW _ _ _ _ _ _ _ _
  refine IW.ret ⟨⟨trivial, trivial⟩, rfl, rfl, [0], rfl, by decide, ?_, ?_⟩
  · simp [go_sem, if_true, if_false, reduceIte, Nat.reduceEqDiff, Nat.reduceAdd, Nat.reduceLT, Nat.reduceLeDiff, reduceCtorEq, resAll, resSV]
  · simp [go_sem, if_true, if_false, reduceIte, Nat.reduceEqDiff, Nat.reduceAdd, Nat.reduceLT, Nat.reduceLeDiff, reduceCtorEq, subH]
/-- maps.Keys -/
theorem opKeys {dst : Option Nat} {x : Operand} {ats : Array TypeId} {ty : TypeId} {pos : String} {after : Array Edge} {guard : Option (Nat × Bool)} {g : Operand → SV} {h : Heap} {o : Bool} {xs : List (List SV)}
    (hx : g x = .mp o xs) : OpB Try.prog ⟨dst, .call ⟨.value (.func 51), #[x], ats⟩, ty, pos, after, guard⟩ g h ((SV.clo 78 [.ptr 0 0 0]).ren (h.length + ·)) [some ⟨1, 72, [[.mp o xs]]⟩] := by
  refine opB_callV _ fun ρ O F w vs hl hr => ?_
  match vs, hl with
  | [v], _ =>
    have hv := hr 0 x v rfl rfl
    rw [hx] at hv
    have hv' : ∃ b, v = .map (some b) := by cases hv; exact ⟨_, rfl⟩
    obtain ⟨b, rfl⟩ := hv'
    refine ⟨[.raw (.map (some b))], _, fKeys0 (some b), rfl, ?_, rfl, ?_⟩
    · intro i s v' ρ' O' F' w' e1 e2
      match i, e1, e2 with
      | 0, e1, e2 => cases e1; cases e2; exact .raw _
      | i + 1, e1, e2 => simp at e1
    · intro ρ' F' w' hg hs
      refine hs.retell rfl fun i r' e => ?_
      match i, e with
      | 0, e =>
        cases e
        refine ⟨_, rfl, rfl, rfl, rfl, by simp, fun i j x' y' e1 e2 => ?_⟩
        match i, j, e1, e2 with
        | 0, 0, e1, e2 =>
          cases e1; cases e2
          refine ⟨_, _, rfl, rfl, fun v hv => ?_⟩
          cases hv
          have := hg 0 x _ rfl rfl
          rw [hx] at this; exact this
        | 0, j + 1, e1, e2 => cases e1; simp at e2
        | i + 1, _, e1, _ => simp at e1
      | i + 1, e => simp at e
end Go.Proofs.Ytnbpbehlemaeoaa

set_option linter.unusedVariables false
set_option linter.unusedSimpArgs false
set_option maxRecDepth 10000
namespace Go.Proofs.Ytnbpbehlemaeoaa
open Go.IL
open Go.WideElems (Fit rd rg)
def keysD (d : List (Int × List ByteArray)) : List Int := d.map (·.1)
/-- What the kit's reader is told of an element: nothing. -/
def dumR : Value → Option (DataW Unit × List MemPlace) := fun _ => some (.nil, [])
theorem insert_perm {H : Type} (x : Lit × DataW H) : ∀ l : List (Lit × DataW H), (DataW.insert x l).Perm (x :: l)
  | [] => .refl _
  | y :: r => by
    unfold DataW.insert
    split
    · exact .refl _
    · exact ((insert_perm x r).cons y).trans (.swap x y r)
theorem foldr_perm {H : Type} : ∀ l : List (Lit × DataW H), (l.foldr DataW.insert []).Perm l
  | [] => .refl _
  | x :: r => (insert_perm x _).trans ((foldr_perm r).cons x)
theorem sorted_eq {a b : List Int} (hp : a.Perm b) (ha : a.Pairwise (· ≤ ·)) (hb : b.Pairwise (· ≤ ·)) : a = b := hp.eq_of_pairwise (fun x y _ _ h1 h2 => by omega) ha hb
theorem mergeSort_eq {ss ks : List Int} (hp : ss.Perm ks) (hs : ks.Pairwise (· < ·)) : (ss.mergeSort fun x y => decide (x ≤ y)) = ks := by
  refine sorted_eq ((List.mergeSort_perm _ _).trans hp) ?_ (hs.imp fun h => by omega)
  have := List.pairwise_mergeSort (le := fun x y : Int => decide (x ≤ y)) (fun a b c h1 h2 => by simp at h1 h2 ⊢; omega) (fun a b => by simp; omega) ss
  exact this.imp fun h => by simpa using h
theorem owns_map {ρ : Rho} {O F : Nat → Prop} {w : World} {o : Bool} {d : List (Int × List ByteArray)} {v : Value} (h : VRel ρ O F w (.mp o (mapX d)) v) (hs : (keysD d).Pairwise (· < ·)) (hb : ∀ k ∈ keysD d, I64 k) (hl : d.length ≤ 1000) :
    ∃ b D0, v = .map (some b) ∧ w.ownsMap Try.prog 3 dumR b d.length D0 ∧ (_root_.Go.intKeys D0).Perm (keysD d) ∧ Maps.size D0 = d.length := by
  cases h with
  | mp _ _ b es cs hbl hw hk hn he hr =>
    have hlen : (mapX d).length = d.length := mapX_length d
    rw [hlen] at hn hw he
    have hkey : ∀ i, i < d.length → es[i]? = some ⟨.int .i64 (d.getD i (0, [])).1, cs i 1, i⟩ := fun i hi => by
      have h1 := hr i 0 [.int .i64 (d.getD i (0, [])).1, .sl false (strs (d.getD i (0, [])).2)] (.int .i64 (d.getD i (0, [])).1) (by simp [mapX, hi]) rfl
      rw [he i hi]
      generalize cs i 0 = c at h1
      cases h1; rfl
    have hesl : es.toList = (List.range d.length).map fun i => ⟨.int .i64 (d.getD i (0, [])).1, cs i 1, i⟩ := by
      apply List.ext_getElem?
      intro i
      rw [Array.getElem?_toList]
      rcases Nat.lt_or_ge i d.length with hi | hi
      · rw [hkey i hi]; simp [hi]
      · rw [Array.getElem?_eq_none (by omega)]; simp [hi]
    have hkb : ∀ i, i < d.length → I64 (d.getD i (0, [])).1 := fun i hi => hb _ (List.mem_map.2 ⟨d.getD i (0, []), by simp [hi], rfl⟩)
    have hwf : ∀ n, I64 n → (Lit.int .i64 n).wf = true := fun n hn => by
      have e1 : IntKind.i64.min = -9223372036854775808 := rfl
      have e2 : IntKind.i64.max = 9223372036854775807 := rfl
      simp [Lit.wf, e1, e2, hn.1, hn.2]
    have hrd : ∀ i, i < d.length → rd Try.prog 3 dumR ⟨.int .i64 (d.getD i (0, [])).1, cs i 1, i⟩ = some (.int .i64 (d.getD i (0, [])).1, (.nil : DataW Unit)) := fun i hi => by
      have hk := Maps.keyOf_int_mk u3 (hwf _ (hkb i hi))
      simp only [rd, dumR, hk]
      rfl
    have hD : es.toList.map (rg Try.prog 3 dumR) = d.map fun e => (.int .i64 e.1, (.nil : DataW Unit)) := by
      rw [hesl, List.map_map]
      apply List.ext_getElem
      · simp
      · intro i h1 h2
        simp at h1
        simp only [List.getElem_map, List.getElem_range, Function.comp, rg, hrd i h1, Option.getD_some]
        simp [h1]
    refine ⟨b, .map ((es.toList.map (rg Try.prog 3 dumR)).foldr DataW.insert []), rfl, ⟨es, d.length, hw, ⟨by simp [maxLen]; omega, ⟨?_, ?_, ?_⟩, ?_⟩, by omega, rfl⟩, ?_, ?_⟩
    · rw [hesl]; intro x hx
      obtain ⟨i, hi, rfl⟩ := List.mem_map.1 hx
      exact List.mem_range.1 hi
    · rw [hesl, List.map_map]
      have : (List.range d.length).map ((fun x : MapEntry => x.born) ∘ fun i => (⟨.int .i64 (d.getD i (0, [])).1, cs i 1, i⟩ : MapEntry)) = List.range d.length := by
        conv => rhs; rw [← List.map_id (List.range d.length)]
        exact List.map_congr_left fun i _ => rfl
      rw [this]; exact List.nodup_range
    · rw [hesl, List.map_map]
      have : (List.range d.length).map ((fun x : MapEntry => x.key) ∘ fun i => (⟨.int .i64 (d.getD i (0, [])).1, cs i 1, i⟩ : MapEntry)) = (keysD d).map (Value.int .i64) := by
        apply List.ext_getElem
        · simp [keysD]
        · intro i h1 h2; simp at h1; simp [keysD, h1]
      rw [this]
      have hnd : (keysD d).Nodup := hs.imp fun h e => by omega
      exact (List.pairwise_map.2 (hnd.imp fun h e => h (by cases e; rfl)))
    · rw [hesl]; intro x hx
      obtain ⟨i, hi, rfl⟩ := List.mem_map.1 hx
      exact ⟨_, hrd i (List.mem_range.1 hi)⟩
    · show (((es.toList.map (rg Try.prog 3 dumR)).foldr DataW.insert []).map fun p => _root_.Go.intOf p.1).Perm _
      refine ((foldr_perm _).map _).trans ?_
      rw [hD, List.map_map]
      exact .of_eq (List.map_congr_left fun e _ => rfl)
    · show ((es.toList.map (rg Try.prog 3 dumR)).foldr DataW.insert []).length = _
      rw [(foldr_perm _).length_eq, List.length_map, Array.length_toList, hn]
/-- slices.Sorted of a map's keys -/
theorem opSorted {dst : Option Nat} {x : Operand} {ats : Array TypeId} {ty : TypeId} {pos : String} {after : Array Edge} {guard : Option (Nat × Bool)} {g : Operand → SV} {h : Heap} {id : Nat} {o : Bool} {d : List (Int × List ByteArray)}
    (hx : g x = .clo 78 [.ptr id 0 0]) (hr : hrow h id = some ⟨1, 72, [[.mp o (mapX d)]]⟩) (hs : (keysD d).Pairwise (· < ·)) (hb : ∀ k ∈ keysD d, I64 k) (hl : d.length ≤ 1000) :
    OpB Try.prog ⟨dst, .call ⟨.value (.func 50), #[x], ats⟩, ty, pos, after, guard⟩ g h (lsV h.length (keysD d).length) [some ⟨1, 3, nums .i64 (keysD d)⟩] := by
  intro ρ O F w a hsat hrl hfree next Q hn
  have hv := hrl x (by simp [Op.operands, Call.operands])
  rw [hx] at hv
  generalize hax : a.eval x = ax at hv
  cases hv with
  | clo _ _ vs hl2 hh =>
  obtain ⟨l⟩ := vs
  match l, hl2 with
  | [u], _ =>
  have hu := hh 0 _ u rfl rfl
  cases hu with
  | ptr _ _ _ ri hρ =>
  have hR := hsat.row id _ ri (hrow_some hr) hρ
  obtain ⟨arr, e1, e2, e3, e4⟩ := hR.cells
  obtain ⟨mv, hm1, hm2⟩ := e4 0 0 [.mp o (mapX d)] (.mp o (mapX d)) rfl rfl
  obtain ⟨b, D0, rfl, hown, hperm, hsz⟩ := owns_map hm2 hs hb hl
  have hbl : ri.b < w.heap.size := hR.lt
  have hcell : w.cell? ⟨ri.b, 0, none⟩ = some (.map (some b)) := by simp only [World.cell?, e1]; simpa using hm1
  have hadr : (⟨ri.b, 0 * ri.k + 0, none⟩ : Addr) = ⟨ri.b, 0, none⟩ := by simp
  rw [hadr] at hax
  have hseq := AnyZI.keys_gives (ρ := Try.keysA_ren) { Try.keysA with } Fence.wide 2 trivial rfl (by omega) ri.b b d.length D0 w hbl hcell hown
  have cS := AnyZI.sorted_in Try.sortedA Fence.wide 5 trivial trivial trivial trivial rfl (by omega) (Try.sortsA _) (enters_of Try.func77 (by kernel_rfl) rfl) 78 #[.pointer (some ⟨ri.b, 0, none⟩)] trivial (enters_of Try.func78 (by kernel_rfl) rfl) _ (Maps.size D0) (by simp [hsz, maxLen]; omega) (by omega) _ hseq
  have cC := (callsIn_wide (n := 5)).1 cS
  change Calls Try.prog 50 _ _ _ at cC
  have hexec : (execOp a.eval ⟨dst, .call ⟨.value (.func 50), #[x], ats⟩, ty, pos, after, guard⟩).run Try.prog w = .ok (.enter 50 #[.func (.func 78) #[] #[.pointer (some ⟨ri.b, 0, none⟩)]]) w := by
    simp only [execOp, resolve, show a.eval (.func 50) = .func (.func 50) #[] #[] from rfl, Deferred.ofValue]
    rw [run_bind, run_pure]
    simp only [invoke, Array.empty_append, Array.append_empty, List.map_toArray, List.map_cons, List.map_nil, hax]
    exact enters_of Try.func50 (by kernel_rfl) rfl _ _
  simp only [Oper.wp, hexec, Oper.upon]
  refine cC.mono fun e w' hp => ?_
  obtain ⟨v, ss, rfl, hS, hrow, hnil, hbw⟩ := hp
  have hpk : ss.Perm (keysD d) := hS.trans hperm
  have hms := mergeSort_eq hpk hs
  rw [hms, hpk.length_eq] at hrow
  obtain ⟨ρ', hx', hid, hs', hv'⟩ := own_row hsat (hfree _ (Nat.le_refl _) (by simp)) hbw (e := 3) (k := 1) (by decide) (by omega) hrow (ys := nums .i64 (keysD d)) (by simp [nums]) (nums_w _ _) (fun i j x y f1 f2 => by
    rw [nums, List.getElem?_map] at f1
    obtain ⟨n, h1, rfl⟩ := Option.map_eq_some_iff.1 f1
    match j, f2 with
    | 0, f2 => cases f2; exact ⟨.int .i64 n, by simp [h1], fun _ _ _ _ => .int _ _⟩
    | j + 1, f2 => simp at f2)
  exact hn v ρ' F w' hx' (fun id e => by rw [hid id e]; simp) hs' hv'
theorem fValues (s : Int) (d : List (Int × List ByteArray)) (hd : FSpec Try.prog 49 [.int .i64 s] (mapC d) []) (hs : (keysD d).Pairwise (· < ·)) (hb : ∀ k ∈ keysD d, I64 k) (hl : d.length ≤ 1000) : FSpec Try.prog 16 [.int .i64 s] (lsV 0 (keysD d).length) [⟨1, 3, nums .i64 (keysD d)⟩] := by
  refine FSpec.intro tab_ok Try.func16 rfl rfl rfl (by kernel_rfl) (by simp) fun w0 => ?_
  simp only [argTM, Nat.zero_add, Nat.reduceAdd]
  repeat refine IW.seq ?_
  refine IW.region_seq tab_ok [some 2] rfl fun X K hX hK => ?_
  simp only [go_sem, if_true, if_false, reduceIte, Nat.reduceEqDiff, Nat.reduceAdd, Nat.reduceLT, Nat.reduceLeDiff, reduceCtorEq]
  refine hK _ _ ?_; clear hX hK X K
  show IW _ _ _ _ _ _ _ _
  repeat refine IW.seq ?_
  refine IW.region_seq tab_ok [some 3, some 4, some 5, some 6, some 2] rfl fun X K hX hK => ?_
  simp only [go_sem, if_true, if_false, reduceIte, Nat.reduceEqDiff, Nat.reduceAdd, Nat.reduceLT, Nat.reduceLeDiff, reduceCtorEq]
  refine hX.quiet _ _ (OpG.of_B rfl (opB_call rfl rfl hd)) ?_
  simp only [mapX_ren, go_sem, if_true, if_false, reduceIte, Nat.reduceEqDiff, Nat.reduceAdd, Nat.reduceLT, Nat.reduceLeDiff, reduceCtorEq]
  refine hX.quiet _ _ (OpG.of_B rfl (opKeys (o := false) (xs := mapX d) rfl)) ?_
  simp only [go_sem, if_true, if_false, reduceIte, Nat.reduceEqDiff, Nat.reduceAdd, Nat.reduceLT, Nat.reduceLeDiff, reduceCtorEq]
  refine hX.quiet _ _ (OpG.of_B rfl (opSorted (d := d) rfl rfl hs hb hl)) ?_
  simp only [go_sem, if_true, if_false, reduceIte, Nat.reduceEqDiff, Nat.reduceAdd, Nat.reduceLT, Nat.reduceLeDiff, reduceCtorEq]
  refine hK _ _ ?_; clear hX hK X K
  show IW _ _ _ _ _ _ _ _
  refine IW.ret (Fin.tmp1 1 (by simp [go_sem, if_true, if_false, reduceIte, Nat.reduceEqDiff, Nat.reduceAdd, Nat.reduceLT, Nat.reduceLeDiff, reduceCtorEq]) (by simp [go_sem, if_true, if_false, reduceIte, Nat.reduceEqDiff, Nat.reduceAdd, Nat.reduceLT, Nat.reduceLeDiff, reduceCtorEq]) (by simp [go_sem, if_true, if_false, reduceIte, Nat.reduceEqDiff, Nat.reduceAdd, Nat.reduceLT, Nat.reduceLeDiff, reduceCtorEq]) (by simp [go_sem, if_true, if_false, reduceIte, Nat.reduceEqDiff, Nat.reduceAdd, Nat.reduceLT, Nat.reduceLeDiff, reduceCtorEq]))
end Go.Proofs.Ytnbpbehlemaeoaa

set_option linter.unusedVariables false
set_option linter.unusedSimpArgs false
set_option maxRecDepth 10000
namespace Go.Proofs.Ytnbpbehlemaeoaa
open Go.IL
def M9 (n : Int) : Prop := -1000000000 ≤ n ∧ n ≤ 1000000000
/-- By increasing second number; those with the same by increasing first one. -/
def lex (p q : Int × Int) : Prop := p.2 < q.2 ∨ (p.2 = q.2 ∧ p.1 < q.1)
theorem fCmp (a b c d : Int) (hb : M9 b) (hd : M9 d) : FSpec Try.prog 60 [.agg [.int .i64 a, .int .i64 b], .agg [.int .i64 c, .int .i64 d]] (.int .i64 (b - d)) [] := by
  have e1 : IntKind.i64.wrap (b - d) = b - d := wrap_eq (by unfold M9 at *; omega) (by unfold M9 at *; omega)
  refine FSpec.intro tab_ok Try.func60 rfl rfl rfl (by kernel_rfl) (by simp) fun w0 => ?_
  simp only [argTM, Nat.zero_add, Nat.reduceAdd]
  repeat refine IW.seq ?_
  refine IW.region_seq tab_ok [some 2, some 3, some 4] rfl fun X K hX hK => ?_
  simp only [go_sem, if_true, if_false, reduceIte, Nat.reduceEqDiff, Nat.reduceAdd, Nat.reduceLT, Nat.reduceLeDiff, reduceCtorEq]
  refine hK _ _ ?_; clear hX hK X K
  show IW _ _ _ _ _ _ _ _
  repeat refine IW.seq ?_
  refine IW.region_seq tab_ok [some 5, some 6, some 7, some 8, some 9, some 4] rfl fun X K hX hK => ?_
  simp only [go_sem, if_true, if_false, reduceIte, Nat.reduceEqDiff, Nat.reduceAdd, Nat.reduceLT, Nat.reduceLeDiff, reduceCtorEq, e1]
  refine hK _ _ ?_; clear hX hK X K
  show IW _ _ _ _ _ _ _ _
  refine IW.ret (Fin.scal rfl rfl ?_)
  rfl
theorem swap_lem {α : Type} (S : List α) (x y : α) : ∀ P : List α, ((P ++ y :: x :: S).set (P.length + 1) y).set P.length x = P ++ x :: y :: S
  | [] => rfl
  | p :: P => by
    have := swap_lem S x y P
    simp only [List.cons_append, List.length_cons, List.set_cons_succ, this]
/-- x has come down to place j of s. -/
def insS (A s R : List (Int × Int)) (x : Int × Int) (j : Nat) : List (Int × Int) := A ++ (s.take j ++ x :: s.drop j) ++ R
theorem insS_length (A s R : List (Int × Int)) (x : Int × Int) {j : Nat} (h : j ≤ s.length) : (insS A s R x j).length = A.length + s.length + 1 + R.length := by
  simp only [insS, List.length_append, List.length_cons, List.length_take, List.length_drop]; omega
theorem insS_split (A s R : List (Int × Int)) (x : Int × Int) {j : Nat} (h : j < s.length) : insS A s R x (j + 1) = (A ++ s.take j) ++ s.getD j (0, 0) :: x :: (s.drop (j + 1) ++ R) ∧ insS A s R x j = (A ++ s.take j) ++ x :: s.getD j (0, 0) :: (s.drop (j + 1) ++ R) := by
  have h1 : s.take (j + 1) = s.take j ++ [s.getD j (0, 0)] := by rw [List.take_add_one]; simp [h]
  have h2 : s.drop j = s.getD j (0, 0) :: s.drop (j + 1) := by rw [List.drop_eq_getElem_cons h]; simp [h]
  constructor
  · simp only [insS, h1, List.append_assoc, List.cons_append, List.nil_append]
  · simp only [insS, h2, List.append_assoc, List.cons_append, List.nil_append]
theorem insS_swap (A s R : List (Int × Int)) (x : Int × Int) {j : Nat} (h : j < s.length) : ((insS A s R x (j + 1)).set (A.length + j + 1) (s.getD j (0, 0))).set (A.length + j) x = insS A s R x j := by
  obtain ⟨h1, h2⟩ := insS_split A s R x h
  have hl : (A ++ s.take j).length = A.length + j := by simp; omega
  rw [h1, h2, ← hl]
  exact swap_lem _ _ _ _
theorem insS_at (A s R : List (Int × Int)) (x : Int × Int) {j : Nat} (h : j < s.length) : (insS A s R x (j + 1)).getD (A.length + j + 1) (0, 0) = x ∧ (insS A s R x (j + 1)).getD (A.length + j) (0, 0) = s.getD j (0, 0) := by
  obtain ⟨h1, _⟩ := insS_split A s R x h
  have hl : (A ++ s.take j).length = A.length + j := by simp; omega
  rw [h1, ← hl]
  constructor
  · rw [List.getD_eq_getElem?_getD, List.getElem?_append_right (by omega), Nat.add_sub_cancel_left]; rfl
  · rw [List.getD_eq_getElem?_getD, List.getElem?_append_right (Nat.le_refl _), Nat.sub_self]; rfl
theorem getD_pair (l : List (Int × Int)) (i : Nat) : l.getD i (0, 0) = ((l.getD i (0, 0)).1, (l.getD i (0, 0)).2) := rfl
/-- The sorting that is stable, of a list whose first numbers rise. -/
def srt (l s : List (Int × Int)) : Prop := s.Perm l ∧ s.Pairwise lex
theorem srt_insert {l s : List (Int × Int)} {x : Int × Int} {j : Nat} (h : srt l s) (hj : j ≤ s.length) (hx : ∀ y ∈ s, y.1 < x.1) (h1 : ∀ y ∈ s.drop j, x.2 < y.2) (h2 : ∀ y ∈ s.take j, y.2 ≤ x.2) : srt (l ++ [x]) (s.take j ++ x :: s.drop j) := by
  constructor
  · refine List.perm_middle.trans ?_
    rw [List.take_append_drop]
    exact (h.1.cons x).trans (List.perm_append_singleton x l).symm
  · have hp := h.2
    rw [← List.take_append_drop j s, List.pairwise_append] at hp
    rw [List.pairwise_append]
    refine ⟨hp.1, List.pairwise_cons.2 ⟨fun y hy => .inl (h1 y hy), hp.2.1⟩, fun a ha b hb => ?_⟩
    rcases List.mem_cons.1 hb with rfl | hb
    · have h3 := h2 a ha
      have h4 := hx a (List.mem_of_mem_take ha)
      unfold lex; omega
    · exact hp.2.2 a ha b hb
def leB (p q : Int × Int) : Bool := decide (p.2 < q.2 ∨ (p.2 = q.2 ∧ p.1 ≤ q.1))
def optS (l : List (Int × Int)) : List (Int × Int) := l.mergeSort leB
theorem srt_unique {l s t : List (Int × Int)} (h : srt l s) (k : srt l t) : s = t := (h.1.trans k.1.symm).eq_of_pairwise (fun a b _ _ h1 h2 => by unfold lex at h1 h2; exact Prod.ext (by omega) (by omega)) h.2 k.2
theorem srt_opt {l : List (Int × Int)} (hv : l.Pairwise (fun p q => p.1 ≠ q.1)) : srt l (optS l) := by
  refine ⟨List.mergeSort_perm _ _, ?_⟩
  have h1 := List.pairwise_mergeSort (le := leB) (fun a b c h1 h2 => by simp only [leB, decide_eq_true_eq] at *; omega) (fun a b => by simp only [leB, Bool.or_eq_true, decide_eq_true_eq]; omega) l
  have h2 : (optS l).Pairwise (fun p q => p.1 ≠ q.1) := (List.mergeSort_perm l leB).symm.pairwise hv (fun h e => h e.symm)
  exact (h1.and h2).imp fun ⟨h3, h4⟩ => by simp only [leB, decide_eq_true_eq] at h3; unfold lex; omega
theorem fInsSort (A l R : List (Int × Int)) (hv : l.Pairwise (fun p q => p.1 < q.1)) (hm : ∀ p ∈ l, M9 p.2) (hn : (A ++ l ++ R).length ≤ 1000000) :
    WSpec Try.prog 90 [.ref 0 0 (A ++ l ++ R).length, .int .i64 A.length, .int .i64 (A.length + l.length : Nat), .clo 60 []] [⟨2, 70, prs (A ++ l ++ R)⟩] (.tup []) [some ⟨2, 70, prs (A ++ optS l ++ R)⟩] := by
  have hlen : (A ++ l ++ R).length = A.length + l.length + R.length := by simp; omega
  have hopt := srt_opt (hv.imp fun h e => by omega)
  have hvg : ∀ i j, i < j → j < l.length → (l.getD i (0, 0)).1 < (l.getD j (0, 0)).1 := fun i j hij hj => by
    have := List.pairwise_iff_getElem.1 hv i j (by omega) hj hij
    simpa [hj, show i < l.length by omega] using this
  generalize hN : (A ++ l ++ R).length = n at *
  refine WSpec.intro tab_ok Try.func90 rfl rfl rfl (by kernel_rfl) (by simp) (by simp) fun O w0 hr => ?_
  simp only [argTM, Nat.zero_add, Nat.reduceAdd, List.map_cons, List.map_nil]
  have e0 : IntKind.i64.wrap ((A.length : Int) + 1) = ((A.length + 1 : Nat) : Int) := (wrap_eq (by omega) (by omega)).trans (by omega)
  repeat refine IW.seq ?_
  refine IW.region_seq tab_ok [some 10, some 11, some 8] rfl fun X K hX hK => ?_
  simp only [go_sem, if_true, if_false, reduceIte, Nat.reduceEqDiff, Nat.reduceAdd, Nat.reduceLT, Nat.reduceLeDiff, reduceCtorEq, e0]
  refine hK _ _ ?_; clear hX hK X K
  show IW _ _ _ _ _ _ _ _
  repeat refine IW.seq ?_
  refine IW.block ?_
  refine IW.loop (α := {x : Nat × List (Int × Int) // x.1 ≤ l.length ∧ (0 < l.length → 1 ≤ x.1) ∧ srt (l.take x.1) x.2}) (fun x => [(0, .ref 0 0 n), (1, .int .i64 A.length), (2, .int .i64 (A.length + l.length : Nat)), (3, .clo 60 []), (8, .int .i64 (A.length + max 1 x.1.1 : Nat))]) (fun x => [some ⟨2, 70, prs (A ++ x.1.2 ++ (l.drop x.1.1 ++ R))⟩]) (fun x => l.length - x.1.1) ⟨(min 1 l.length, l.take 1), ?_, ?_, ?_⟩ ?_ fun ⟨⟨k, s⟩, hk, hk1, hs⟩ => ?_
  · simp only []; omega
  · simp only []; omega
  · simp only []
    cases l with
    | nil => exact ⟨.refl _, .nil⟩
    | cons y l => exact ⟨by simp, by simp⟩
  · simp only []
    have e1 : max 1 (min 1 l.length) = 1 := by omega
    have e2 : A ++ l.take 1 ++ (l.drop (min 1 l.length) ++ R) = A ++ l ++ R := by
      cases l with
      | nil => simp
      | cons y l => simp
    refine Ent.cut ?_ ?_ (fun id ri e => Nat.lt_of_lt_of_le (hr id ri e) (by simp)) <;> simp only [go_sem, if_true, if_false, reduceIte, Nat.reduceEqDiff, Nat.reduceAdd, Nat.reduceLT, Nat.reduceLeDiff, reduceCtorEq, e1, e2]
  · simp only [] at hk hk1 hs ⊢
    repeat refine IW.seq ?_
    refine IW.region_seq tab_ok [some 12, some 13, some 14] rfl fun X K hX hK => ?_
    simp only [go_sem, if_true, if_false, reduceIte, Nat.reduceEqDiff, Nat.reduceAdd, Nat.reduceLT, Nat.reduceLeDiff, reduceCtorEq]
    refine hK _ _ ?_; clear hX hK X K
    show IW _ _ _ _ _ _ _ _
    repeat refine IW.seq ?_
    refine IW.cond rfl (fun hb1 => ?_) (fun hb1 => ?_)
    · simp only [decide_eq_true_eq] at hb1
      have hkl : k < l.length := by omega
      have hk0 : 1 ≤ k := by omega
      have hmax : max 1 k = k := by omega
      have slen : s.length = k := by rw [hs.1.length_eq, List.length_take]; omega
      have hxs : ∀ y ∈ s, y.1 < (l.getD k (0, 0)).1 := fun y hy => by
        obtain ⟨i, hi, rfl⟩ := List.mem_iff_getElem.1 (hs.1.mem_iff.1 hy)
        simp only [List.length_take] at hi
        have := hvg i k (by omega) hkl
        simpa [show i < l.length by omega] using this
      have htk : l.take (k + 1) = l.take k ++ [l.getD k (0, 0)] := by rw [List.take_add_one]; simp [hkl]
      have hdk : l.drop k = l.getD k (0, 0) :: l.drop (k + 1) := by rw [List.drop_eq_getElem_cons hkl]; simp [hkl]
      have hsm : ∀ y ∈ s, M9 y.2 := fun y hy => hm y (List.mem_of_mem_take (hs.1.mem_iff.1 hy))
      have hxm : M9 (l.getD k (0, 0)).2 := hm _ (by simp [hkl])
      generalize l.getD k (0, 0) = x at *
      rw [hmax]
      refine IW.skip ?_
      show IW _ _ _ _ _ _ _ _
      refine IW.seq (IW.block ?_)
      repeat refine IW.seq ?_
      refine IW.region_seq tab_ok [some 17, some 9] rfl fun X K hX hK => ?_
      simp only [go_sem, if_true, if_false, reduceIte, Nat.reduceEqDiff, Nat.reduceAdd, Nat.reduceLT, Nat.reduceLeDiff, reduceCtorEq]
      refine hK _ _ ?_; clear hX hK X K
      show IW _ _ _ _ _ _ _ _
      repeat refine IW.seq ?_
      refine IW.block ?_
      refine IW.loop (α := {j : Nat // j ≤ k ∧ ∀ y ∈ s.drop j, x.2 < y.2}) (fun j => [(0, .ref 0 0 n), (1, .int .i64 A.length), (2, .int .i64 (A.length + l.length : Nat)), (3, .clo 60 []), (8, .int .i64 (A.length + k : Nat)), (9, .int .i64 (A.length + j.1 : Nat))]) (fun j => [some ⟨2, 70, prs (insS A s (l.drop (k + 1) ++ R) x j.1)⟩]) (fun j => j.1) ⟨k, Nat.le_refl _, by simp [← slen]⟩ ?_ fun ⟨j, hj, hjy⟩ => ?_
      · have : A ++ s ++ (l.drop k ++ R) = insS A s (l.drop (k + 1) ++ R) x k := by
          rw [insS, hdk, ← slen]; simp
        refine Ent.cut ?_ ?_ (fun id ri e => Nat.lt_of_lt_of_le (hr id ri e) (by simp)) <;> simp only [go_sem, if_true, if_false, reduceIte, Nat.reduceEqDiff, Nat.reduceAdd, Nat.reduceLT, Nat.reduceLeDiff, reduceCtorEq, this]
      · have hil := insS_length A s (l.drop (k + 1) ++ R) x (j := j) (by omega)
        have hil2 : (insS A s (l.drop (k + 1) ++ R) x j).length = n := by rw [hil, slen]; simp only [List.length_append, List.length_drop]; omega
        have hend : (∀ y ∈ s.take j, y.2 ≤ x.2) → srt (l.take (k + 1)) (s.take j ++ x :: s.drop j) ∧ insS A s (l.drop (k + 1) ++ R) x j = A ++ (s.take j ++ x :: s.drop j) ++ (l.drop (k + 1) ++ R) := fun h2 => ⟨by rw [htk]; exact srt_insert hs (by omega) hxs hjy h2, rfl⟩
        simp only []
        cases j with
        | zero =>
          have hgt : ¬ (((A.length + 0 : Nat) : Int) > (A.length : Int)) := by omega
          repeat refine IW.seq ?_
          refine IW.region_draw tab_ok mixed [some 18, some 19, some 20, some 21, some 22, some 23, some 24, some 25, some 26, some 27, some 28, some 29, some 30, some 31, some 32, some 33, some 34] 17 (by kernel_rfl) rfl fun Xq Xs K hXq hXs hK K1 hK1 => ?_
          simp only [go_sem, if_true, if_false, reduceIte, Nat.reduceEqDiff, Nat.reduceAdd, Nat.reduceLT, Nat.reduceLeDiff, reduceCtorEq, gt_iff_lt, Nat.add_zero, Int.lt_irrefl, decide_false]
          refine hXq.quiet (.cnd false (.int .i64 0)) [] (OpG.of_BG (sv := .int .i64 0) (ext := []) rfl rfl rfl (by simp [go_sem, if_true, if_false, reduceIte, Nat.reduceEqDiff, Nat.reduceAdd, Nat.reduceLT, Nat.reduceLeDiff, reduceCtorEq]) fun hc => by cases hc) ?_
          simp only [go_sem, if_true, if_false, reduceIte, Nat.reduceEqDiff, Nat.reduceAdd, Nat.reduceLT, Nat.reduceLeDiff, reduceCtorEq]
          refine hK1 _ _ ?_; clear hXq hK1 K1 Xq
          simp only [List.drop_zero, List.drop_succ_cons, go_sem, if_true, if_false, reduceIte, Nat.reduceEqDiff, Nat.reduceAdd, Nat.reduceLT, Nat.reduceLeDiff, reduceCtorEq]
          refine hK _ _ ?_; clear hXs hK K Xs
          show IW _ _ _ _ _ _ _ _
          repeat refine IW.seq ?_
          refine IW.cond rfl (fun hb => absurd hb (by decide)) (fun _ => ?_)
          refine IW.exit ?_
          show IW _ _ _ _ _ _ _ _
          repeat refine IW.seq ?_
          refine IW.region_seq tab_ok [some 15, some 16, some 8] rfl fun X K hX hK => ?_
          simp only [go_sem, if_true, if_false, reduceIte, Nat.reduceEqDiff, Nat.reduceAdd, Nat.reduceLT, Nat.reduceLeDiff, reduceCtorEq, succ_wrap (show A.length + k < 9223372036854775807 by omega) (Nat.le_refl _)]
          obtain ⟨h1, h2⟩ := hend (by simp)
          refine hK _ _ ⟨⟨(k + 1, s.take 0 ++ x :: s.drop 0), hkl, fun _ => by simp only []; omega, h1⟩, by simp only []; omega, ?_⟩
          rw [h2]
          have e1 : max 1 (k + 1) = k + 1 := by omega
          refine Ent.cut ?_ ?_ (fun id ri e => Nat.lt_of_lt_of_le (hr id ri e) (by simp)) <;> simp only [go_sem, if_true, if_false, reduceIte, Nat.reduceEqDiff, Nat.reduceAdd, Nat.reduceLT, Nat.reduceLeDiff, reduceCtorEq, e1, ← Nat.add_assoc]
        | succ j =>
          have hjs : j < s.length := by omega
          obtain ⟨ha1, ha2⟩ := insS_at A s (l.drop (k + 1) ++ R) x hjs
          have hgt : decide (((A.length + (j + 1) : Nat) : Int) > (A.length : Int)) = true := by simp only [decide_eq_true_eq]; omega
          have w1 : IntKind.i64.wrap (((A.length + (j + 1) : Nat) : Int) - 1) = ((A.length + j : Nat) : Int) := (wrap_eq (by omega) (by omega)).trans (by omega)
          have p1 := prs_at (l := insS A s (l.drop (k + 1) ++ R) x (j + 1)) (i := A.length + (j + 1)) (by omega)
          have p2 := prs_at (l := insS A s (l.drop (k + 1) ++ R) x (j + 1)) (i := A.length + j) (by omega)
          rw [← Nat.add_assoc, ha1] at p1
          rw [ha2] at p2
          have hym := hsm (s.getD j (0, 0)) (by simp [hjs])
          rw [show A.length + (j + 1) = A.length + j + 1 by omega] at *
          repeat refine IW.seq ?_
          refine IW.region_draw tab_ok mixed [some 18, some 19, some 20, some 21, some 22, some 23, some 24, some 25, some 26, some 27, some 28, some 29, some 30, some 31, some 32, some 33, some 34] 17 (by kernel_rfl) rfl fun Xq Xs K hXq hXs hK K1 hK1 => ?_
          simp only [go_sem, if_true, if_false, reduceIte, Nat.reduceEqDiff, Nat.reduceAdd, Nat.reduceLT, Nat.reduceLeDiff, reduceCtorEq, gt_iff_lt, hgt, w1, p1, p2, hil2]
          refine ⟨⟨by omega, by omega⟩, by omega, ⟨by omega, by omega⟩, by omega, ?_⟩
          refine hXq.quiet _ _ (OpG.of_BG rfl rfl rfl (by first | (simp only [go_sem, if_true, if_false, reduceIte, Nat.reduceEqDiff, Nat.reduceAdd, Nat.reduceLT, Nat.reduceLeDiff, reduceCtorEq]; done) | (simp [go_sem, if_true, if_false, reduceIte, Nat.reduceEqDiff, Nat.reduceAdd, Nat.reduceLT, Nat.reduceLeDiff, reduceCtorEq] <;> (intros; simp_all))) fun hc => opB_call rfl rfl (FSpec.nz (fCmp x.1 x.2 (s.getD j (0, 0)).1 (s.getD j (0, 0)).2 hxm hym) (by simp [go_sem, if_true, if_false, reduceIte, Nat.reduceEqDiff, Nat.reduceAdd, Nat.reduceLT, Nat.reduceLeDiff, reduceCtorEq, List.map_cons, List.map_nil, List.append_nil, opnd, unc]))) ?_
          simp only [go_sem, if_true, if_false, reduceIte, Nat.reduceEqDiff, Nat.reduceAdd, Nat.reduceLT, Nat.reduceLeDiff, reduceCtorEq]
          refine hK1 _ _ ?_; clear hXq hK1 K1 Xq
          simp only [List.drop_zero, List.drop_succ_cons, go_sem, if_true, if_false, reduceIte, Nat.reduceEqDiff, Nat.reduceAdd, Nat.reduceLT, Nat.reduceLeDiff, reduceCtorEq]
          refine hK _ _ ?_; clear hXs hK K Xs
          show IW _ _ _ _ _ _ _ _
          repeat refine IW.seq ?_
          refine IW.cond rfl (fun hb2 => ?_) (fun hb2 => ?_)
          · refine IW.skip ?_
            show IW _ _ _ _ _ _ _ _
            simp only [decide_eq_true_eq] at hb2
            refine IW.seq (IW.block ?_)
            repeat refine IW.seq ?_
            refine IW.region_drawL tab_ok mixed [some 37, some 38, some 39, some 40, some 41, some 42, some 43, some 44, some 45, some 46, some 47, some 48, some 49, some 50, some 51, none, some 52, none] 15 [2, 3, 4] [9] (by kernel_rfl) rfl (by simp [go_sem, if_true, if_false, reduceIte, Nat.reduceEqDiff, Nat.reduceAdd, Nat.reduceLT, Nat.reduceLeDiff, reduceCtorEq]) fun Xq Xs K hXq hXs hK K1 hK1 => ?_
            simp only [go_sem, if_true, if_false, reduceIte, Nat.reduceEqDiff, Nat.reduceAdd, Nat.reduceLT, Nat.reduceLeDiff, reduceCtorEq, w1, p1, p2, hil2]
            refine ⟨⟨by omega, by omega⟩, by omega, ⟨by omega, by omega⟩, by omega, ⟨by omega, by omega⟩, ?_⟩
            have hlt1 : A.length + j + 1 < n := by omega
            have hlt2 : A.length + j < n := by omega
            refine hK1 _ _ ?_; clear hXq hK1 K1 Xq
            simp only [List.drop_zero, List.drop_succ_cons, go_sem, if_true, if_false, reduceIte, Nat.reduceEqDiff, Nat.reduceAdd, Nat.reduceLT, Nat.reduceLeDiff, reduceCtorEq]
            have q2 : ∀ v, ((prs (insS A s (l.drop (k + 1) ++ R) x (j + 1))).set (A.length + j + 1) v).getD (A.length + j) [] = [.int .i64 (s.getD j (0, 0)).1, .int .i64 (s.getD j (0, 0)).2] := fun v => by
              rw [List.getD_eq_getElem?_getD, List.getElem?_set_ne (by omega), ← List.getD_eq_getElem?_getD, p2]
            refine hXs.op _ _ rfl (opS_store tab_ok rfl (by simp [go_sem, if_true, if_false, reduceIte, Nat.reduceEqDiff, Nat.reduceAdd, Nat.reduceLT, Nat.reduceLeDiff, reduceCtorEq]) (by simp [go_sem, if_true, if_false, reduceIte, Nat.reduceEqDiff, Nat.reduceAdd, Nat.reduceLT, Nat.reduceLeDiff, reduceCtorEq]) (by simp [go_sem, if_true, if_false, reduceIte, Nat.reduceEqDiff, Nat.reduceAdd, Nat.reduceLT, Nat.reduceLeDiff, reduceCtorEq]) (by simp [go_sem, if_true, if_false, reduceIte, Nat.reduceEqDiff, Nat.reduceAdd, Nat.reduceLT, Nat.reduceLeDiff, reduceCtorEq, hil2, hlt1, hlt2]) (by simp [go_sem, if_true, if_false, reduceIte, Nat.reduceEqDiff, Nat.reduceAdd, Nat.reduceLT, Nat.reduceLeDiff, reduceCtorEq]) (by simp [go_sem, if_true, if_false, reduceIte, Nat.reduceEqDiff, Nat.reduceAdd, Nat.reduceLT, Nat.reduceLeDiff, reduceCtorEq])) ?_
            simp only [go_sem, if_true, if_false, reduceIte, Nat.reduceEqDiff, Nat.reduceAdd, Nat.reduceLT, Nat.reduceLeDiff, reduceCtorEq, hil2, hlt1, hlt2]
            simp only [p1, List.drop_succ_cons, List.drop_nil, List.drop_zero]
            refine ⟨⟨by omega, by omega⟩, ?_⟩
            refine hXs.op _ _ rfl (opS_store tab_ok rfl (by simp [go_sem, if_true, if_false, reduceIte, Nat.reduceEqDiff, Nat.reduceAdd, Nat.reduceLT, Nat.reduceLeDiff, reduceCtorEq]) (by simp [go_sem, if_true, if_false, reduceIte, Nat.reduceEqDiff, Nat.reduceAdd, Nat.reduceLT, Nat.reduceLeDiff, reduceCtorEq]) (by simp [go_sem, if_true, if_false, reduceIte, Nat.reduceEqDiff, Nat.reduceAdd, Nat.reduceLT, Nat.reduceLeDiff, reduceCtorEq]) (by simp [go_sem, if_true, if_false, reduceIte, Nat.reduceEqDiff, Nat.reduceAdd, Nat.reduceLT, Nat.reduceLeDiff, reduceCtorEq, hil2, hlt1, hlt2]) (by simp [go_sem, if_true, if_false, reduceIte, Nat.reduceEqDiff, Nat.reduceAdd, Nat.reduceLT, Nat.reduceLeDiff, reduceCtorEq]) (by simp [go_sem, if_true, if_false, reduceIte, Nat.reduceEqDiff, Nat.reduceAdd, Nat.reduceLT, Nat.reduceLeDiff, reduceCtorEq])) ?_
            simp only [go_sem, if_true, if_false, reduceIte, Nat.reduceEqDiff, Nat.reduceAdd, Nat.reduceLT, Nat.reduceLeDiff, reduceCtorEq, hil2, hlt1, hlt2]
            simp only [q2, List.drop_succ_cons, List.drop_nil, List.drop_zero]
            refine hK _ _ ?_; clear hXs hK K Xs
            show IW _ _ _ _ _ _ _ _
            have hsw : ((prs (insS A s (l.drop (k + 1) ++ R) x (j + 1))).set (A.length + j + 1) [.int .i64 (s.getD j (0, 0)).1, .int .i64 (s.getD j (0, 0)).2]).set (A.length + j) [.int .i64 x.1, .int .i64 x.2] = prs (insS A s (l.drop (k + 1) ++ R) x j) := by
              have := congrArg prs (insS_swap A s (l.drop (k + 1) ++ R) x hjs)
              simpa only [prs, List.map_set] using this
            repeat refine IW.seq ?_
            refine IW.region_seq tab_ok [some 35, some 36, some 9] rfl fun X K hX hK => ?_
            simp only [go_sem, if_true, if_false, reduceIte, Nat.reduceEqDiff, Nat.reduceAdd, Nat.reduceLT, Nat.reduceLeDiff, reduceCtorEq, w1]
            refine hK _ _ ⟨⟨j, by omega, fun y hy => ?_⟩, by simp only []; omega, ?_⟩
            · rw [List.drop_eq_getElem_cons hjs] at hy
              rcases List.mem_cons.1 hy with rfl | hy
              · simp only [List.getD_eq_getElem?_getD, List.getElem?_eq_getElem hjs, Option.getD_some] at hb2; omega
              · exact hjy y hy
            · refine Ent.cut ?_ ?_ (fun id ri e => Nat.lt_of_lt_of_le (hr id ri e) (by simp)) <;> simp only [go_sem, if_true, if_false, reduceIte, Nat.reduceEqDiff, Nat.reduceAdd, Nat.reduceLT, Nat.reduceLeDiff, reduceCtorEq, hsw]
          · refine IW.exit ?_
            show IW _ _ _ _ _ _ _ _
            simp only [decide_eq_false_iff_not] at hb2
            repeat refine IW.seq ?_
            refine IW.region_seq tab_ok [some 15, some 16, some 8] rfl fun X K hX hK => ?_
            simp only [go_sem, if_true, if_false, reduceIte, Nat.reduceEqDiff, Nat.reduceAdd, Nat.reduceLT, Nat.reduceLeDiff, reduceCtorEq, succ_wrap (show A.length + k < 9223372036854775807 by omega) (Nat.le_refl _)]
            obtain ⟨h1, h2⟩ := hend (fun y hy => by
              obtain ⟨i, hi, rfl⟩ := List.mem_iff_getElem.1 hy
              simp only [List.length_take] at hi
              rw [List.getElem_take]
              have hp := List.pairwise_iff_getElem.1 hs.2
              rcases Nat.lt_or_ge i j with hij | hij
              · have := hp i j (by omega) hjs hij
                simp only [List.getD_eq_getElem?_getD, List.getElem?_eq_getElem hjs, Option.getD_some] at hb2
                unfold lex at this; omega
              · obtain rfl : i = j := by omega
                simp only [List.getD_eq_getElem?_getD, List.getElem?_eq_getElem hjs, Option.getD_some] at hb2
                omega)
            refine hK _ _ ⟨⟨(k + 1, s.take (j + 1) ++ x :: s.drop (j + 1)), hkl, fun _ => by simp only []; omega, h1⟩, by simp only []; omega, ?_⟩
            rw [h2]
            have e1 : max 1 (k + 1) = k + 1 := by omega
            refine Ent.cut ?_ ?_ (fun id ri e => Nat.lt_of_lt_of_le (hr id ri e) (by simp)) <;> simp only [go_sem, if_true, if_false, reduceIte, Nat.reduceEqDiff, Nat.reduceAdd, Nat.reduceLT, Nat.reduceLeDiff, reduceCtorEq, e1, ← Nat.add_assoc]
    · refine IW.exit ?_
      simp only [decide_eq_false_iff_not] at hb1
      have hkl : k = l.length := by omega
      subst hkl
      rw [List.take_length] at hs
      have : s = optS l := srt_unique hs hopt
      subst this
      have e2 : A ++ optS l ++ (l.drop l.length ++ R) = A ++ optS l ++ R := by simp
      rw [e2]
      exact ⟨trivial, rfl, by simp [go_sem, if_true, if_false, reduceIte, Nat.reduceEqDiff, Nat.reduceAdd, Nat.reduceLT, Nat.reduceLeDiff, reduceCtorEq, heapNold], by simp, [0], rfl, by simp, rfl, rfl, by simp [go_sem, if_true, if_false, reduceIte, Nat.reduceEqDiff, Nat.reduceAdd, Nat.reduceLT, Nat.reduceLeDiff, reduceCtorEq, subH], trivial⟩
end Go.Proofs.Ytnbpbehlemaeoaa

set_option linter.unusedVariables false
set_option linter.unusedSimpArgs false
set_option maxRecDepth 10000
namespace Go.Proofs.Ytnbpbehlemaeoaa
open Go.IL
theorem prs_reWrow (σ : List Nat) (n : Nat) (h : Heap) (l : List (Int × Int)) : (⟨2, 70, prs l⟩ : Row).reW σ (n + 1) h = ⟨2, 70, prs l⟩ := by
  simp only [Row.reW, prs_reW]
theorem prs_renrow (σ : Nat → Nat) (l : List (Int × Int)) : (⟨2, 70, prs l⟩ : Row).ren σ = ⟨2, 70, prs l⟩ := by
  simp only [Row.ren, prs_ren]
/-- At most nineteen: one stretch of insertion. -/
theorem fStable (l : List (Int × Int)) (hv : l.Pairwise (fun p q => p.1 < q.1)) (hm : ∀ p ∈ l, M9 p.2) (hn : l.length < 20) :
    WSpec Try.prog 79 [.ref 0 0 l.length, .int .i64 l.length, .clo 60 []] [⟨2, 70, prs l⟩] (.tup []) [some ⟨2, 70, prs (optS l)⟩] := by
  have h90 : WSpec Try.prog 90 [.ref 0 0 l.length, .int .i64 0, .int .i64 l.length, .clo 60 []] [⟨2, 70, prs l⟩] (.tup []) [some ⟨2, 70, prs (optS l)⟩] := by
    have := fInsSort [] l [] hv hm (by simp; omega)
    simp only [List.nil_append, List.append_nil, List.length_nil, Nat.zero_add] at this
    exact this
  have hn1 : ¬ ((20 : Int) ≤ (l.length : Int)) := by omega
  have hn2 : ¬ ((20 : Int) < (l.length : Int)) := by omega
  refine WSpec.intro tab_ok Try.func79 rfl rfl rfl (by kernel_rfl) (by simp) (by simp) fun O w0 hr => ?_
  simp only [argTM, Nat.zero_add, Nat.reduceAdd, List.map_cons, List.map_nil]
  repeat refine IW.seq ?_
  refine IW.region_seq tab_ok [some 6] rfl fun X K hX hK => ?_
  simp only [go_sem, if_true, if_false, reduceIte, Nat.reduceEqDiff, Nat.reduceAdd, Nat.reduceLT, Nat.reduceLeDiff, reduceCtorEq]
  refine hK _ _ ?_; clear hX hK X K
  show IW _ _ _ _ _ _ _ _
  repeat refine IW.seq ?_
  refine IW.region_seq tab_ok [some 10, some 7, some 8] rfl fun X K hX hK => ?_
  simp only [go_sem, if_true, if_false, reduceIte, Nat.reduceEqDiff, Nat.reduceAdd, Nat.reduceLT, Nat.reduceLeDiff, reduceCtorEq]
  refine hK _ _ ?_; clear hX hK X K
  show IW _ _ _ _ _ _ _ _
  repeat refine IW.seq ?_
  refine IW.block ?_
  refine IW.loop (α := Unit) (fun _ => [(0, .ref 0 0 l.length), (1, .int .i64 l.length), (2, .clo 60 []), (6, .int .i64 20), (7, .int .i64 0), (8, .int .i64 20)]) (fun _ => [some ⟨2, 70, prs l⟩]) (fun _ => 0) () ?_ fun _ => ?_
  · refine Ent.cut ?_ ?_ (fun id ri e => Nat.lt_of_lt_of_le (hr id ri e) (by simp)) <;> simp only [go_sem, if_true, if_false, reduceIte, Nat.reduceEqDiff, Nat.reduceAdd, Nat.reduceLT, Nat.reduceLeDiff, reduceCtorEq]
  · repeat refine IW.seq ?_
    refine IW.region_seq tab_ok [some 11, some 12, some 13] rfl fun X K hX hK => ?_
    simp only [go_sem, if_true, if_false, reduceIte, Nat.reduceEqDiff, Nat.reduceAdd, Nat.reduceLT, Nat.reduceLeDiff, reduceCtorEq]
    refine hK _ _ ?_; clear hX hK X K
    show IW _ _ _ _ _ _ _ _
    repeat refine IW.seq ?_
    refine IW.cond rfl (fun hb1 => ?_) (fun hb1 => ?_)
    · simp only [decide_eq_true_eq] at hb1; omega
    · refine IW.exit ?_
      show IW _ _ _ _ _ _ _ _
      repeat refine IW.seq ?_
      refine IW.region_seq tab_ok [some 23, some 24, some 25, some 26, some 27] rfl fun X K hX hK => ?_
      simp only [go_sem, if_true, if_false, reduceIte, Nat.reduceEqDiff, Nat.reduceAdd, Nat.reduceLT, Nat.reduceLeDiff, reduceCtorEq]
      refine hX.op _ _ rfl (opS_callW (caps := []) [0] (by simp) (by simp [go_sem, if_true, if_false, reduceIte, Nat.reduceEqDiff, Nat.reduceAdd, Nat.reduceLT, Nat.reduceLeDiff, reduceCtorEq]) (by simp) (by simp [go_sem, if_true, if_false, reduceIte, Nat.reduceEqDiff, Nat.reduceAdd, Nat.reduceLT, Nat.reduceLeDiff, reduceCtorEq, prs_reWrow]) (by simp [go_sem, if_true, if_false, reduceIte, Nat.reduceEqDiff, Nat.reduceAdd, Nat.reduceLT, Nat.reduceLeDiff, reduceCtorEq, reW]) h90) ?_
      simp only [go_sem, if_true, if_false, reduceIte, Nat.reduceEqDiff, Nat.reduceAdd, Nat.reduceLT, Nat.reduceLeDiff, reduceCtorEq]
      simp only [updR, List.set_cons_zero, Option.map_some, prs_renrow]
      refine hK _ _ ?_; clear hX hK X K
      show IW _ _ _ _ _ _ _ _
      repeat refine IW.seq ?_
      refine IW.block ?_
      refine IW.loop (α := Unit) (fun _ => [(0, .ref 0 0 l.length), (1, .int .i64 l.length), (2, .clo 60 []), (6, .int .i64 20)]) (fun _ => [some ⟨2, 70, prs (optS l)⟩]) (fun _ => 0) () ?_ fun _ => ?_
      · refine Ent.cut ?_ ?_ (fun id ri e => Nat.lt_of_lt_of_le (hr id ri e) (by simp)) <;> simp only [go_sem, if_true, if_false, reduceIte, Nat.reduceEqDiff, Nat.reduceAdd, Nat.reduceLT, Nat.reduceLeDiff, reduceCtorEq]
      · repeat refine IW.seq ?_
        refine IW.region_seq tab_ok [some 28, some 29, some 30] rfl fun X K hX hK => ?_
        simp only [go_sem, if_true, if_false, reduceIte, Nat.reduceEqDiff, Nat.reduceAdd, Nat.reduceLT, Nat.reduceLeDiff, reduceCtorEq]
        refine hK _ _ ?_; clear hX hK X K
        show IW _ _ _ _ _ _ _ _
        repeat refine IW.seq ?_
        refine IW.cond rfl (fun hb2 => ?_) (fun hb2 => ?_)
        · simp only [decide_eq_true_eq] at hb2; omega
        · refine IW.exit ?_
          exact ⟨trivial, rfl, by simp [go_sem, if_true, if_false, reduceIte, Nat.reduceEqDiff, Nat.reduceAdd, Nat.reduceLT, Nat.reduceLeDiff, reduceCtorEq, heapNold, prs_nold], by simp, [0], rfl, by simp, rfl, rfl, by simp [go_sem, if_true, if_false, reduceIte, Nat.reduceEqDiff, Nat.reduceAdd, Nat.reduceLT, Nat.reduceLeDiff, reduceCtorEq, subH, prs_renrow], trivial⟩
theorem fSortStable (l : List (Int × Int)) (hv : l.Pairwise (fun p q => p.1 < q.1)) (hm : ∀ p ∈ l, M9 p.2) (hn : l.length < 20) :
    WSpec Try.prog 59 [.ref 0 0 l.length, .clo 60 []] [⟨2, 70, prs l⟩] (.tup []) [some ⟨2, 70, prs (optS l)⟩] := by
  refine WSpec.intro tab_ok Try.func59 rfl rfl rfl (by kernel_rfl) (by simp) (by simp) fun O w0 hr => ?_
  simp only [argTM, Nat.zero_add, Nat.reduceAdd, List.map_cons, List.map_nil]
  repeat refine IW.seq ?_
  refine IW.region_seq tab_ok [some 4, some 5, some 6, some 7, some 8] rfl fun X K hX hK => ?_
  simp only [go_sem, if_true, if_false, reduceIte, Nat.reduceEqDiff, Nat.reduceAdd, Nat.reduceLT, Nat.reduceLeDiff, reduceCtorEq]
  refine hX.op _ _ rfl (opS_callW (caps := []) [0] (by simp) (by simp [go_sem, if_true, if_false, reduceIte, Nat.reduceEqDiff, Nat.reduceAdd, Nat.reduceLT, Nat.reduceLeDiff, reduceCtorEq]) (by simp) (by simp [go_sem, if_true, if_false, reduceIte, Nat.reduceEqDiff, Nat.reduceAdd, Nat.reduceLT, Nat.reduceLeDiff, reduceCtorEq, prs_reWrow]) (by simp [go_sem, if_true, if_false, reduceIte, Nat.reduceEqDiff, Nat.reduceAdd, Nat.reduceLT, Nat.reduceLeDiff, reduceCtorEq, reW]) (fStable l hv hm hn)) ?_
  simp only [go_sem, if_true, if_false, reduceIte, Nat.reduceEqDiff, Nat.reduceAdd, Nat.reduceLT, Nat.reduceLeDiff, reduceCtorEq]
  simp only [updR, List.set_cons_zero, Option.map_some, prs_renrow]
  refine hK _ _ ?_
  exact ⟨trivial, rfl, by simp [go_sem, if_true, if_false, reduceIte, Nat.reduceEqDiff, Nat.reduceAdd, Nat.reduceLT, Nat.reduceLeDiff, reduceCtorEq, heapNold, prs_nold], by simp, [0], rfl, by simp, rfl, rfl, by simp [go_sem, if_true, if_false, reduceIte, Nat.reduceEqDiff, Nat.reduceAdd, Nat.reduceLT, Nat.reduceLeDiff, reduceCtorEq, subH, prs_renrow], trivial⟩
end Go.Proofs.Ytnbpbehlemaeoaa

set_option linter.unusedVariables false
set_option linter.unusedSimpArgs false
set_option maxRecDepth 10000
namespace Go.Proofs.Ytnbpbehlemaeoaa
open Go.IL
/-- Dressing off: an image's lines, with those taken away that `drF` says. -/
def drsF (W H : Int) (p l : List Int) : List Int := if rightS W H p then drF W.toNat H.toNat (liF W H p l) l else []
theorem liF_length (W H : Int) (p l : List Int) : (liF W H p l).length = if rightS W H p then p.length else 0 := by
  unfold liF; split <;> simp [rm]
theorem drsF_length (W H : Int) (p l : List Int) : (drsF W H p l).length = if rightS W H p then p.length else 0 := by
  unfold drsF
  split
  · rename_i h
    simp only [drF, rm, List.length_map, List.length_range, liF_length, h, if_true]
  · rfl
theorem fDress (W H : Int) (p l : List Int) (hl : p.length ≤ 1000000) (hll : l.length ≤ 1000000) : FSpec Try.prog 31 [ink W H p, .sl true (nums .i64 l)] (resI (riW W H p W) (riW W H p H) (drsF W H p l)) (resR (drsF W H p l)) := by
  have hs := fLined W H p l hl hll
  by_cases hr : rightS W H p = true
  · have h1 := right_len hr
    have hq := liF_length W H p l
    have e2 : riW W H p W = ((W.toNat : Nat) : Int) := by simp only [riW, hr, if_true]; omega
    have e3 : riW W H p H = ((H.toNat : Nat) : Int) := by simp only [riW, hr, if_true]; omega
    have e4 : drsF W H p l = drF W.toNat H.toNat (liF W H p l) l := by simp only [drsF, hr, if_true]
    rw [e2, e3] at hs
    rw [e2, e3, e4]
    refine fDress0 W H p l hl hll W.toNat H.toNat _ hs ?_ (by omega) (by omega)
    rw [hq, if_pos hr]
    have e5 : ((W.toNat * H.toNat : Nat) : Int) = W * H := by rw [Int.natCast_mul, Int.toNat_of_nonneg (by omega), Int.toNat_of_nonneg (by omega)]
    omega
  · have e2 : riW W H p W = ((0 : Nat) : Int) := by simp [riW, hr]
    have e3 : riW W H p H = ((0 : Nat) : Int) := by simp [riW, hr]
    have e4 : drsF W H p l = drF 0 0 (liF W H p l) l := by simp [drsF, hr, drF, liF, rm]
    rw [e2, e3] at hs
    rw [e2, e3, e4]
    exact fDress0 W H p l hl hll 0 0 _ hs (by rw [liF_length, if_neg hr]) (by omega) (by omega)

/-- The image's lines in one dress or the other. -/
def styF (b : Bool) (W H : Int) (p l : List Int) : List Int := if b then liF W H p l else drsF W H p l
theorem styF_length (b : Bool) (W H : Int) (p l : List Int) : (styF b W H p l).length = if rightS W H p then p.length else 0 := by
  cases b <;> simp [styF, liF_length, drsF_length]
theorem fSty (b : Bool) (W H : Int) (p l : List Int) (hl : p.length ≤ 1000000) (hll : l.length ≤ 1000000) : FSpec Try.prog (if b then 36 else 31) [ink W H p, .sl true (nums .i64 l)] (resI (riW W H p W) (riW W H p H) (styF b W H p l)) (resR (styF b W H p l)) := by
  cases b
  · exact fDress W H p l hl hll
  · exact fLined W H p l hl hll
/-- How far the image is from letter v of a set. -/
def optM (w h : Nat) (d : List (Int × List ByteArray)) (b : Bool) (l : List Int) (W H : Int) (p : List Int) (v : Int) : Int :=
  missS W H p (riW (gW d w v) (gW d h v) (gP d v) (gW d w v)) (riW (gW d w v) (gW d h v) (gP d v) (gW d h v)) (styF b (gW d w v) (gW d h v) (gP d v) l)
/-- What the image may be, before they are put in order. -/
def optL (w h : Nat) (d : List (Int × List ByteArray)) (b : Bool) (l : List Int) (W H : Int) (p : List Int) (n : Nat) : List (Int × Int) :=
  (0, missS W H p w h (List.replicate (w * h) 0)) :: ((keysD d).take n).map fun v => (v, optM w h d b l W H p v)
def optF (w h : Nat) (d : List (Int × List ByteArray)) (b : Bool) (l : List Int) (W H : Int) (p : List Int) : List (Int × Int) :=
  if rightS W H p = true ∧ w ≠ 0 ∧ W = w ∧ H = h then optS (optL w h d b l W H p d.length) else []
theorem gP_length {w h : Nat} {d : List (Int × List ByteArray)} (hok : okD w h d) (h0 : 0 < h) (v : Int) : (gP d v).length ≤ w * h := by
  unfold gP
  cases hv : d.lookup v with
  | none => simp
  | some r =>
    obtain ⟨h1, h2⟩ := hok _ (lookup_mem' hv)
    simp only [drawP, rm, List.length_map, List.length_range]
    rw [h2 0 h0, h1]
    exact Nat.le_refl _
theorem optL_lt {w h : Nat} {d : List (Int × List ByteArray)} {b : Bool} {l : List Int} {W H : Int} {p : List Int} {n : Nat} (hks : (keysD d).Pairwise (· < ·)) (hkp : ∀ k ∈ keysD d, 0 < k) : (optL w h d b l W H p n).Pairwise (fun p q => p.1 < q.1) := by
  refine List.Pairwise.cons (fun y hy => ?_) ?_
  · obtain ⟨v, hv, rfl⟩ := List.mem_map.1 hy
    exact hkp v (List.mem_of_mem_take hv)
  · rw [List.pairwise_map]
    exact hks.sublist (List.take_sublist _ _)
theorem optL_m9 {w h : Nat} {d : List (Int × List ByteArray)} {b : Bool} {l : List Int} {W H : Int} {p : List Int} {n : Nat} (hl : p.length ≤ 1000000) : ∀ q ∈ optL w h d b l W H p n, M9 q.2 := by
  have key : ∀ W' H' q', M9 (missS W H p W' H' q') := fun W' H' q' => by have := missS_bd W H p W' H' q'; unfold M9; omega
  intro q hq
  rcases List.mem_cons.1 hq with rfl | hq
  · exact key _ _ _
  · obtain ⟨v, hv, rfl⟩ := List.mem_map.1 hq
    exact key _ _ _
theorem fOptions (s : Int) (w h : Nat) (d : List (Int × List ByteArray)) (hd : FSpec Try.prog 49 [.int .i64 s] (mapC d) []) (hok : okD w h d) (h0 : 0 < h) (hb1 : h ≤ 640) (hb2 : w ≤ 640) (hne : 0 < d.length) (hn : d.length < 19)
    (hks : (keysD d).Pairwise (· < ·)) (hkp : ∀ k ∈ keysD d, 0 < k ∧ k ≤ 1000000) (b : Bool) (l : List Int) (W H : Int) (p : List Int) (hl : p.length ≤ 1000000) (hll : l.length ≤ 1000000) :
    FSpec Try.prog 28 [ink W H p, .int .i64 s, .sl true (nums .i64 l), .bool b] (lsV 0 (optF w h d b l W H p).length) [⟨2, 70, prs (optF w h d b l W H p)⟩] := by
  obtain ⟨fn, hfn⟩ : ∃ fn : Nat, fn = if b then 36 else 31 := ⟨_, rfl⟩
  have hsize := fSize s w h d hd hok h0 hne
  have hvals := fValues s d hd hks (fun k hk => by have := hkp k hk; unfold I64; omega) (by omega)
  have hsh : (!rightS W H p || (w : Int) == 0 || W != w || H != h) = !decide (rightS W H p = true ∧ w ≠ 0 ∧ W = w ∧ H = h) := by
    cases rightS W H p <;> by_cases c1 : w = 0 <;> by_cases c2 : W = w <;> by_cases c3 : H = h <;> simp [c1, c2, c3]
  by_cases hc : rightS W H p = true ∧ w ≠ 0 ∧ W = w ∧ H = h
  case neg =>
    have e1 : optF w h d b l W H p = [] := by simp only [optF, hc, if_false]
    rw [e1]
    refine FSpec.ghost (r := ⟨2, 70, prs []⟩) (sv := .nils) ?_ fun F w v h => rel_ls_nil h
    refine FSpec.intro tab_ok Try.func28 rfl rfl rfl (by kernel_rfl) (by simp) fun w0 => ?_
    simp only [argTM, Nat.zero_add, Nat.reduceAdd]
    simp only [ink]
    repeat refine IW.seq ?_
    refine IW.region_seq tab_ok [some 4, some 8] rfl fun X K hX hK => ?_
    simp only [go_sem, if_true, if_false, reduceIte, Nat.reduceEqDiff, Nat.reduceAdd, Nat.reduceLT, Nat.reduceLeDiff, reduceCtorEq]
    refine hK _ _ ?_; clear hX hK X K
    show IW _ _ _ _ _ _ _ _
    repeat refine IW.seq ?_
    refine IW.region_seq tab_ok [some 18, some 19, some 17, some 20, some 21, some 9, some 10] rfl fun X K hX hK => ?_
    simp only [go_sem, if_true, if_false, reduceIte, Nat.reduceEqDiff, Nat.reduceAdd, Nat.reduceLT, Nat.reduceLeDiff, reduceCtorEq]
    refine hX.quiet _ _ (OpG.of_B rfl (opB_call rfl rfl (FSpec.nz (hsize) (by simp [go_sem, if_true, if_false, reduceIte, Nat.reduceEqDiff, Nat.reduceAdd, Nat.reduceLT, Nat.reduceLeDiff, reduceCtorEq, List.map_cons, List.map_nil, List.append_nil, opnd, unc])))) ?_
    simp only [go_sem, if_true, if_false, reduceIte, Nat.reduceEqDiff, Nat.reduceAdd, Nat.reduceLT, Nat.reduceLeDiff, reduceCtorEq]
    refine hK _ _ ?_; clear hX hK X K
    show IW _ _ _ _ _ _ _ _
    repeat refine IW.seq ?_
    refine IW.region_seq tab_ok [some 22, some 23, some 24, some 25, some 26, some 27, some 28, some 29, some 30, some 31, some 32, some 33, some 34, some 35, some 36, some 37, some 38, some 39, some 40] rfl fun X K hX hK => ?_
    simp only [go_sem, if_true, if_false, reduceIte, Nat.reduceEqDiff, Nat.reduceAdd, Nat.reduceLT, Nat.reduceLeDiff, reduceCtorEq]
    refine hX.quiet _ _ (OpG.of_B rfl (opB_call rfl rfl (FSpec.nz (fRight W H p hl) (by simp [go_sem, if_true, if_false, reduceIte, Nat.reduceEqDiff, Nat.reduceAdd, Nat.reduceLT, Nat.reduceLeDiff, reduceCtorEq, List.map_cons, List.map_nil, List.append_nil, opnd, unc])))) ?_
    simp only [go_sem, if_true, if_false, reduceIte, Nat.reduceEqDiff, Nat.reduceAdd, Nat.reduceLT, Nat.reduceLeDiff, reduceCtorEq]
    simp only [hsh, hc, decide_false, Bool.not_false]
    refine hK _ _ ?_; clear hX hK X K
    show IW _ _ _ _ _ _ _ _
    repeat refine IW.seq ?_
    refine IW.cond rfl (fun hb => ?_) (fun hb => ?_)
    · repeat refine IW.seq ?_
      refine IW.region_seq tab_ok [some 8] rfl fun X K hX hK => ?_
      simp only [go_sem, if_true, if_false, reduceIte, Nat.reduceEqDiff, Nat.reduceAdd, Nat.reduceLT, Nat.reduceLeDiff, reduceCtorEq]
      refine hK _ _ ?_; clear hX hK X K
      show IW _ _ _ _ _ _ _ _
      refine IW.ret (Fin.scal rfl rfl ?_)
      rfl
    · simp at hb
  case pos =>
    obtain ⟨hr, hw0, rfl, rfl⟩ := hc
    have hwh : w * h ≤ 640 * 640 := Nat.mul_le_mul hb2 hb1
    have hkl : (keysD d).length = d.length := by simp [keysD]
    have hblank := res_img (fBlank w h (by omega) (by omega) (by omega))
    simp only [imgW, imgH, imgP] at hblank
    have e1 : optF w h d b l w h p = optS (optL w h d b l w h p d.length) := by simp only [optF, hr, hw0, ne_eq, not_false_eq_true, and_self, if_true]
    rw [e1]
    refine FSpec.intro tab_ok Try.func28 rfl rfl rfl (by kernel_rfl) (by simp) fun w0 => ?_
    simp only [argTM, Nat.zero_add, Nat.reduceAdd]
    simp only [ink]
    repeat refine IW.seq ?_
    refine IW.region_seq tab_ok [some 4, some 8] rfl fun X K hX hK => ?_
    simp only [go_sem, if_true, if_false, reduceIte, Nat.reduceEqDiff, Nat.reduceAdd, Nat.reduceLT, Nat.reduceLeDiff, reduceCtorEq]
    refine hK _ _ ?_; clear hX hK X K
    show IW _ _ _ _ _ _ _ _
    repeat refine IW.seq ?_
    refine IW.region_seq tab_ok [some 18, some 19, some 17, some 20, some 21, some 9, some 10] rfl fun X K hX hK => ?_
    simp only [go_sem, if_true, if_false, reduceIte, Nat.reduceEqDiff, Nat.reduceAdd, Nat.reduceLT, Nat.reduceLeDiff, reduceCtorEq]
    refine hX.quiet _ _ (OpG.of_B rfl (opB_call rfl rfl (FSpec.nz (hsize) (by simp [go_sem, if_true, if_false, reduceIte, Nat.reduceEqDiff, Nat.reduceAdd, Nat.reduceLT, Nat.reduceLeDiff, reduceCtorEq, List.map_cons, List.map_nil, List.append_nil, opnd, unc])))) ?_
    simp only [go_sem, if_true, if_false, reduceIte, Nat.reduceEqDiff, Nat.reduceAdd, Nat.reduceLT, Nat.reduceLeDiff, reduceCtorEq]
    refine hK _ _ ?_; clear hX hK X K
    show IW _ _ _ _ _ _ _ _
    repeat refine IW.seq ?_
    refine IW.region_seq tab_ok [some 22, some 23, some 24, some 25, some 26, some 27, some 28, some 29, some 30, some 31, some 32, some 33, some 34, some 35, some 36, some 37, some 38, some 39, some 40] rfl fun X K hX hK => ?_
    simp only [go_sem, if_true, if_false, reduceIte, Nat.reduceEqDiff, Nat.reduceAdd, Nat.reduceLT, Nat.reduceLeDiff, reduceCtorEq]
    refine hX.quiet _ _ (OpG.of_B rfl (opB_call rfl rfl (FSpec.nz (fRight w h p hl) (by simp [go_sem, if_true, if_false, reduceIte, Nat.reduceEqDiff, Nat.reduceAdd, Nat.reduceLT, Nat.reduceLeDiff, reduceCtorEq, List.map_cons, List.map_nil, List.append_nil, opnd, unc])))) ?_
    simp only [go_sem, if_true, if_false, reduceIte, Nat.reduceEqDiff, Nat.reduceAdd, Nat.reduceLT, Nat.reduceLeDiff, reduceCtorEq]
    simp only [hsh]
    refine hK _ _ ?_; clear hX hK X K
    show IW _ _ _ _ _ _ _ _
    repeat refine IW.seq ?_
    refine IW.cond rfl (fun hb => ?_) (fun hb => ?_)
    · simp [hr, hw0] at hb
    · refine IW.skip ?_
      show IW _ _ _ _ _ _ _ _
      repeat refine IW.seq ?_
      refine IW.region_draw tab_ok mixed [some 41, some 42, some 43, some 44, some 45, some 46, some 47, some 11] 7 (by kernel_rfl) rfl fun Xq Xs K hXq hXs hK K1 hK1 => ?_
      simp only [go_sem, if_true, if_false, reduceIte, Nat.reduceEqDiff, Nat.reduceAdd, Nat.reduceLT, Nat.reduceLeDiff, reduceCtorEq]
      refine hXq.quiet _ _ (OpG.of_B rfl (opB_call rfl rfl (FSpec.nz (hblank) (by simp [go_sem, if_true, if_false, reduceIte, Nat.reduceEqDiff, Nat.reduceAdd, Nat.reduceLT, Nat.reduceLeDiff, reduceCtorEq, List.map_cons, List.map_nil, List.append_nil, opnd, unc, resI, resR])))) ?_
      simp only [go_sem, if_true, if_false, reduceIte, Nat.reduceEqDiff, Nat.reduceAdd, Nat.reduceLT, Nat.reduceLeDiff, reduceCtorEq, resI, resR]
      refine hXq.quiet _ _ (OpG.of_B rfl (opB_call rfl rfl (FSpec.nz (fMiss w h p w h (List.replicate (w * h) 0) hl (by rw [List.length_replicate]; omega)) (by simp [go_sem, if_true, if_false, reduceIte, Nat.reduceEqDiff, Nat.reduceAdd, Nat.reduceLT, Nat.reduceLeDiff, reduceCtorEq, List.map_cons, List.map_nil, List.append_nil, opnd, unc])))) ?_
      simp only [go_sem, if_true, if_false, reduceIte, Nat.reduceEqDiff, Nat.reduceAdd, Nat.reduceLT, Nat.reduceLeDiff, reduceCtorEq]
      refine hXq.quiet _ _ (OpG.of_B rfl (opB_buildSlice tab_ok rfl (by simp [go_sem, if_true, if_false, reduceIte, Nat.reduceEqDiff, Nat.reduceAdd, Nat.reduceLT, Nat.reduceLeDiff, reduceCtorEq]) (by simp [go_sem, if_true, if_false, reduceIte, Nat.reduceEqDiff, Nat.reduceAdd, Nat.reduceLT, Nat.reduceLeDiff, reduceCtorEq]) (by simp) (by simp [go_sem, if_true, if_false, reduceIte, Nat.reduceEqDiff, Nat.reduceAdd, Nat.reduceLT, Nat.reduceLeDiff, reduceCtorEq, bsO, List.map_cons, List.map_nil]))) ?_
      simp only [go_sem, if_true, if_false, reduceIte, Nat.reduceEqDiff, Nat.reduceAdd, Nat.reduceLT, Nat.reduceLeDiff, reduceCtorEq, List.map_cons, List.map_nil]
      refine hK1 _ _ ?_; clear hXq hK1 K1 Xq
      simp only [List.drop_zero, List.drop_succ_cons, go_sem, if_true, if_false, reduceIte, Nat.reduceEqDiff, Nat.reduceAdd, Nat.reduceLT, Nat.reduceLeDiff, reduceCtorEq]
      refine hK _ _ ?_; clear hXs hK K Xs
      show IW _ _ _ _ _ _ _ _
      repeat refine IW.seq ?_
      refine IW.region_seq tab_ok [some 12] rfl fun X K hX hK => ?_
      simp only [go_sem, if_true, if_false, reduceIte, Nat.reduceEqDiff, Nat.reduceAdd, Nat.reduceLT, Nat.reduceLeDiff, reduceCtorEq]
      refine hK _ _ ?_; clear hX hK X K
      show IW _ _ _ _ _ _ _ _
      repeat refine IW.seq ?_
      refine IW.region_seq tab_ok [some 48] rfl fun X K hX hK => ?_
      simp only [go_sem, if_true, if_false, reduceIte, Nat.reduceEqDiff, Nat.reduceAdd, Nat.reduceLT, Nat.reduceLeDiff, reduceCtorEq]
      refine hK _ _ ?_; clear hX hK X K
      show IW _ _ _ _ _ _ _ _
      have hls : ∀ id, lsV id (keysD d).length = .ref id 0 d.length := fun id => by rw [hkl]; exact lsV_ne hne
      repeat refine IW.seq ?_
      refine IW.cond rfl (fun hbb => ?_) (fun hbb => ?_)
      repeat refine IW.seq ?_
      refine IW.region_seq tab_ok [some 12] rfl fun X K hX hK => ?_
      simp only [go_sem, if_true, if_false, reduceIte, Nat.reduceEqDiff, Nat.reduceAdd, Nat.reduceLT, Nat.reduceLeDiff, reduceCtorEq]
      refine hK _ _ ?_; clear hX hK X K
      show IW _ _ _ _ _ _ _ _
      have hfn2 : fn = 36 := by rw [hfn, hbb]; rfl
      rotate_left
      refine IW.skip ?_
      show IW _ _ _ _ _ _ _ _
      have hfn2 : fn = 31 := by rw [hfn, hbb]; rfl
      all_goals
        repeat refine IW.seq ?_
        refine IW.region_seq tab_ok [some 49, some 50, some 51, some 52] rfl fun X K hX hK => ?_
        simp only [go_sem, if_true, if_false, reduceIte, Nat.reduceEqDiff, Nat.reduceAdd, Nat.reduceLT, Nat.reduceLeDiff, reduceCtorEq]
        refine hX.quiet _ _ (OpG.of_B rfl (opB_call rfl rfl (FSpec.nz (hvals) (by simp [go_sem, if_true, if_false, reduceIte, Nat.reduceEqDiff, Nat.reduceAdd, Nat.reduceLT, Nat.reduceLeDiff, reduceCtorEq, List.map_cons, List.map_nil, List.append_nil, opnd, unc, hls])))) ?_
        simp only [go_sem, if_true, if_false, reduceIte, Nat.reduceEqDiff, Nat.reduceAdd, Nat.reduceLT, Nat.reduceLeDiff, reduceCtorEq, hls]
        refine hK _ _ ?_; clear hX hK X K
        show IW _ _ _ _ _ _ _ _
        repeat refine IW.seq ?_
        refine IW.block ?_
        refine IW.loop (α := {k : Nat // k ≤ d.length}) (fun k => [(1, .int .i64 s), (2, .sl true (nums .i64 l)), (4, .ptr 0 0 0), (11, .ref 2 0 (k.1 + 1)), (12, .clo fn []), (50, .ref 1 0 d.length), (51, .int .i64 d.length), (52, .int .i64 k.1)]) (fun k => [some ⟨3, 33, [[.int .i64 w, .int .i64 h, .sl true (nums .u8 p)]]⟩, some ⟨1, 3, nums .i64 (keysD d)⟩, some ⟨2, 70, prs (optL w h d b l w h p k.1)⟩]) (fun k => d.length - k.1) ⟨0, Nat.zero_le _⟩ ?_ fun ⟨k, hk⟩ => ?_
        · have e2 : prs (optL w h d b l w h p 0) = [[.int .i64 0, .int .i64 (missS w h p w h (List.replicate (w * h) 0))]] := by simp [optL, prs]
          refine Ent.ren [0, 3, 2] rfl (by decide) ?_ ?_ (fun id ri e => by cases e) <;> simp [go_sem, if_true, if_false, reduceIte, Nat.reduceEqDiff, Nat.reduceAdd, Nat.reduceLT, Nat.reduceLeDiff, reduceCtorEq, subT, subH, sg, SV.ren, Row.ren, e2, hfn2, prs_ren, nums_ren]
        · simp only []
          repeat refine IW.seq ?_
          refine IW.region_seq tab_ok [some 53] rfl fun X K hX hK => ?_
          simp only [go_sem, if_true, if_false, reduceIte, Nat.reduceEqDiff, Nat.reduceAdd, Nat.reduceLT, Nat.reduceLeDiff, reduceCtorEq]
          refine hK _ _ ?_; clear hX hK X K
          show IW _ _ _ _ _ _ _ _
          repeat refine IW.seq ?_
          refine IW.cond rfl (fun hb3 => ?_) (fun hb3 => ?_)
          · simp only [decide_eq_true_eq] at hb3
            have hkd : k < d.length := by omega
            have hkk : k < (keysD d).length := by omega
            refine IW.skip ?_
            show IW _ _ _ _ _ _ _ _
            refine IW.seq (IW.block ?_)
            repeat refine IW.seq ?_
            refine IW.region_seq tab_ok [some 54, some 55, some 14] rfl fun X K hX hK => ?_
            simp only [go_sem, if_true, if_false, reduceIte, Nat.reduceEqDiff, Nat.reduceAdd, Nat.reduceLT, Nat.reduceLeDiff, reduceCtorEq, nums_at hkk]
            refine ⟨⟨by omega, by omega⟩, by omega, ?_⟩
            refine hK _ _ ?_; clear hX hK X K
            show IW _ _ _ _ _ _ _ _
            have hv := hkp ((keysD d).getD k 0) (by simp [hkk])
            generalize hvv : (keysD d).getD k 0 = v at *
            repeat refine IW.seq ?_
            refine IW.region_seq tab_ok [some 57, some 58, some 59, some 56, some 60, some 61, some 15, none, some 16] rfl fun X K hX hK => ?_
            simp only [go_sem, if_true, if_false, reduceIte, Nat.reduceEqDiff, Nat.reduceAdd, Nat.reduceLT, Nat.reduceLeDiff, reduceCtorEq]
            refine hX.quiet _ _ (OpG.of_B rfl (opB_call rfl rfl (FSpec.nz (fGlyph s v w h d hd hok h0 hb1 hb2) (by simp [go_sem, if_true, if_false, reduceIte, Nat.reduceEqDiff, Nat.reduceAdd, Nat.reduceLT, Nat.reduceLeDiff, reduceCtorEq, List.map_cons, List.map_nil, List.append_nil, opnd, unc, resI, resR])))) ?_
            simp only [go_sem, if_true, if_false, reduceIte, Nat.reduceEqDiff, Nat.reduceAdd, Nat.reduceLT, Nat.reduceLeDiff, reduceCtorEq, resI, resR]
            refine hX.op _ _ rfl (opS_store tab_ok rfl (by simp [go_sem, if_true, if_false, reduceIte, Nat.reduceEqDiff, Nat.reduceAdd, Nat.reduceLT, Nat.reduceLeDiff, reduceCtorEq]) (by simp [go_sem, if_true, if_false, reduceIte, Nat.reduceEqDiff, Nat.reduceAdd, Nat.reduceLT, Nat.reduceLeDiff, reduceCtorEq]) (by simp [go_sem, if_true, if_false, reduceIte, Nat.reduceEqDiff, Nat.reduceAdd, Nat.reduceLT, Nat.reduceLeDiff, reduceCtorEq]) (by simp [go_sem, if_true, if_false, reduceIte, Nat.reduceEqDiff, Nat.reduceAdd, Nat.reduceLT, Nat.reduceLeDiff, reduceCtorEq]) (by simp [go_sem, if_true, if_false, reduceIte, Nat.reduceEqDiff, Nat.reduceAdd, Nat.reduceLT, Nat.reduceLeDiff, reduceCtorEq]) (by simp [go_sem, if_true, if_false, reduceIte, Nat.reduceEqDiff, Nat.reduceAdd, Nat.reduceLT, Nat.reduceLeDiff, reduceCtorEq])) ?_
            simp only [go_sem, if_true, if_false, reduceIte, Nat.reduceEqDiff, Nat.reduceAdd, Nat.reduceLT, Nat.reduceLeDiff, reduceCtorEq]
            refine hK _ _ ?_; clear hX hK X K
            show IW _ _ _ _ _ _ _ _
            have hgl := gP_length hok h0 v
            have hsl := styF_length b (gW d w v) (gW d h v) (gP d v) l
            have hsl2 : (styF b (gW d w v) (gW d h v) (gP d v) l).length ≤ 1000000 := by rw [hsl]; split <;> omega
            have hs2 := fSty b (gW d w v) (gW d h v) (gP d v) l (by omega) hll
            rw [← hfn] at hs2
            have hom : optM w h d b l w h p v = missS w h p (riW (gW d w v) (gW d h v) (gP d v) (gW d w v)) (riW (gW d w v) (gW d h v) (gP d v) (gW d h v)) (styF b (gW d w v) (gW d h v) (gP d v) l) := rfl
            clear hsl
            generalize riW (gW d w v) (gW d h v) (gP d v) (gW d w v) = W1 at hs2 hom
            generalize riW (gW d w v) (gW d h v) (gP d v) (gW d h v) = H1 at hs2 hom
            generalize styF b (gW d w v) (gW d h v) (gP d v) l = q1 at hs2 hom hsl2
            have hol : (optL w h d b l w h p k).length = k + 1 := by simp [optL, hkl]; omega
            repeat refine IW.seq ?_
            refine IW.region_draw tab_ok mixed [some 62, some 63, some 64, some 65, some 66, some 67, some 68, some 69, some 70, some 71, some 72, some 11] 10 (by kernel_rfl) rfl fun Xq Xs K hXq hXs hK K1 hK1 => ?_
            simp only [go_sem, if_true, if_false, reduceIte, Nat.reduceEqDiff, Nat.reduceAdd, Nat.reduceLT, Nat.reduceLeDiff, reduceCtorEq]
            refine hXq.quiet _ _ (OpG.of_B rfl (opB_call rfl rfl (FSpec.nz (hs2) (by simp [go_sem, if_true, if_false, reduceIte, Nat.reduceEqDiff, Nat.reduceAdd, Nat.reduceLT, Nat.reduceLeDiff, reduceCtorEq, List.map_cons, List.map_nil, List.append_nil, opnd, unc, resI, resR])))) ?_
            simp only [go_sem, if_true, if_false, reduceIte, Nat.reduceEqDiff, Nat.reduceAdd, Nat.reduceLT, Nat.reduceLeDiff, reduceCtorEq, resI, resR]
            refine hXq.quiet _ _ (OpG.of_B rfl (opB_call rfl rfl (FSpec.nz (fMiss w h p W1 H1 q1 hl hsl2) (by simp [go_sem, if_true, if_false, reduceIte, Nat.reduceEqDiff, Nat.reduceAdd, Nat.reduceLT, Nat.reduceLeDiff, reduceCtorEq, List.map_cons, List.map_nil, List.append_nil, opnd, unc])))) ?_
            simp only [go_sem, if_true, if_false, reduceIte, Nat.reduceEqDiff, Nat.reduceAdd, Nat.reduceLT, Nat.reduceLeDiff, reduceCtorEq]
            refine hXq.quiet _ _ (OpG.of_B rfl (opB_buildSlice tab_ok rfl (by simp [go_sem, if_true, if_false, reduceIte, Nat.reduceEqDiff, Nat.reduceAdd, Nat.reduceLT, Nat.reduceLeDiff, reduceCtorEq]) (by simp [go_sem, if_true, if_false, reduceIte, Nat.reduceEqDiff, Nat.reduceAdd, Nat.reduceLT, Nat.reduceLeDiff, reduceCtorEq]) (by simp) (by simp [go_sem, if_true, if_false, reduceIte, Nat.reduceEqDiff, Nat.reduceAdd, Nat.reduceLT, Nat.reduceLeDiff, reduceCtorEq, bsO, List.map_cons, List.map_nil]))) ?_
            simp only [go_sem, if_true, if_false, reduceIte, Nat.reduceEqDiff, Nat.reduceAdd, Nat.reduceLT, Nat.reduceLeDiff, reduceCtorEq, List.map_cons, List.map_nil]
            refine hK1 _ _ ?_; clear hXq hK1 K1 Xq
            simp only [List.drop_zero, List.drop_succ_cons, go_sem, if_true, if_false, reduceIte, Nat.reduceEqDiff, Nat.reduceAdd, Nat.reduceLT, Nat.reduceLeDiff, reduceCtorEq]
            refine hXs.op _ _ rfl (opS_append tab_ok (ys := [[.int .i64 v, .int .i64 (missS w h p W1 H1 q1)]]) rfl (by simp [go_sem, if_true, if_false, reduceIte, Nat.reduceEqDiff, Nat.reduceAdd, Nat.reduceLT, Nat.reduceLeDiff, reduceCtorEq, prs_length, hol]) rfl (by simp [go_sem, if_true, if_false, reduceIte, Nat.reduceEqDiff, Nat.reduceAdd, Nat.reduceLT, Nat.reduceLeDiff, reduceCtorEq, prs_length, hol]; try omega) rfl (by simp [go_sem, if_true, if_false, reduceIte, Nat.reduceEqDiff, Nat.reduceAdd, Nat.reduceLT, Nat.reduceLeDiff, reduceCtorEq]) (by simp [go_sem, if_true, if_false, reduceIte, Nat.reduceEqDiff, Nat.reduceAdd, Nat.reduceLT, Nat.reduceLeDiff, reduceCtorEq]) (by simp [go_sem, if_true, if_false, reduceIte, Nat.reduceEqDiff, Nat.reduceAdd, Nat.reduceLT, Nat.reduceLeDiff, reduceCtorEq, prs_length, hol]) rfl rfl rfl (by first | exact nums_w _ _ | exact prs_w _ | simp [go_sem, if_true, if_false, reduceIte, Nat.reduceEqDiff, Nat.reduceAdd, Nat.reduceLT, Nat.reduceLeDiff, reduceCtorEq, nums]) (by simp [go_sem, if_true, if_false, reduceIte, Nat.reduceEqDiff, Nat.reduceAdd, Nat.reduceLT, Nat.reduceLeDiff, reduceCtorEq]) (by simp [go_sem, if_true, if_false, reduceIte, Nat.reduceEqDiff, Nat.reduceAdd, Nat.reduceLT, Nat.reduceLeDiff, reduceCtorEq]; omega) (by simp [go_sem, if_true, if_false, reduceIte, Nat.reduceEqDiff, Nat.reduceAdd, Nat.reduceLT, Nat.reduceLeDiff, reduceCtorEq]; omega) (by intro d e; cases e; decide)) ?_
            simp only [go_sem, if_true, if_false, reduceIte, Nat.reduceEqDiff, Nat.reduceAdd, Nat.reduceLT, Nat.reduceLeDiff, reduceCtorEq, List.length_cons, List.length_nil, prs_length, hol]
            refine hK _ _ ?_; clear hXs hK K Xs
            show IW _ _ _ _ _ _ _ _
            repeat refine IW.seq ?_
            refine IW.region_seq tab_ok [some 73, some 52] rfl fun X K hX hK => ?_
            simp only [go_sem, if_true, if_false, reduceIte, Nat.reduceEqDiff, Nat.reduceAdd, Nat.reduceLT, Nat.reduceLeDiff, reduceCtorEq, succ_wrap hkd (Nat.le_trans (Nat.le_of_lt hn) (by decide))]
            have hnx : (prs (optL w h d b l w h p k)).take (k + 1) ++ [[.int .i64 v, .int .i64 (missS w h p W1 H1 q1)]] = prs (optL w h d b l w h p (k + 1)) := by
              rw [List.take_of_length_le (by rw [prs_length, hol]; exact Nat.le_refl _)]
              have htk : (keysD d).take (k + 1) = (keysD d).take k ++ [v] := by rw [List.take_add_one, ← hvv]; simp [hkk]
              simp only [optL, htk, List.map_append, prs, List.map_cons, List.map_nil, hom, List.cons_append]
            refine hK _ _ ⟨⟨k + 1, hkd⟩, by simp only []; omega, ?_⟩
            refine Ent.ren [0, 1, 7] rfl (by decide) ?_ ?_ (fun id ri e => by cases e) <;> simp [go_sem, if_true, if_false, reduceIte, Nat.reduceEqDiff, Nat.reduceAdd, Nat.reduceLT, Nat.reduceLeDiff, reduceCtorEq, subT, subH, sg, SV.ren, Row.ren, hnx, prs_ren, nums_ren]
          · refine IW.exit ?_
            show IW _ _ _ _ _ _ _ _
            simp only [decide_eq_false_iff_not] at hb3
            obtain rfl : k = d.length := by omega
            have hol : (optL w h d b l w h p d.length).length = d.length + 1 := by simp [optL, hkl]
            have hsrt := fSortStable (optL w h d b l w h p d.length) (optL_lt hks (fun k hk => (hkp k hk).1)) (optL_m9 hl) (by omega)
            rw [hol] at hsrt
            repeat refine IW.seq ?_
            refine IW.region_seq tab_ok [some 74, some 75] rfl fun X K hX hK => ?_
            simp only [go_sem, if_true, if_false, reduceIte, Nat.reduceEqDiff, Nat.reduceAdd, Nat.reduceLT, Nat.reduceLeDiff, reduceCtorEq]
            refine hX.op _ _ rfl (opS_callW (caps := []) [2] (by simp) (by simp [go_sem, if_true, if_false, reduceIte, Nat.reduceEqDiff, Nat.reduceAdd, Nat.reduceLT, Nat.reduceLeDiff, reduceCtorEq]) (by simp) (by simp [go_sem, if_true, if_false, reduceIte, Nat.reduceEqDiff, Nat.reduceAdd, Nat.reduceLT, Nat.reduceLeDiff, reduceCtorEq, prs_reWrow]) (by simp [go_sem, if_true, if_false, reduceIte, Nat.reduceEqDiff, Nat.reduceAdd, Nat.reduceLT, Nat.reduceLeDiff, reduceCtorEq, reW]) hsrt) ?_
            simp only [go_sem, if_true, if_false, reduceIte, Nat.reduceEqDiff, Nat.reduceAdd, Nat.reduceLT, Nat.reduceLeDiff, reduceCtorEq]
            simp only [updR, List.set_cons_zero, List.set_cons_succ, Option.map_some, prs_renrow]
            refine hK _ _ ?_; clear hX hK X K
            show IW _ _ _ _ _ _ _ _
            repeat refine IW.seq ?_
            refine IW.region_seq tab_ok [some 76, some 8] rfl fun X K hX hK => ?_
            simp only [go_sem, if_true, if_false, reduceIte, Nat.reduceEqDiff, Nat.reduceAdd, Nat.reduceLT, Nat.reduceLeDiff, reduceCtorEq]
            refine hK _ _ ?_; clear hX hK X K
            show IW _ _ _ _ _ _ _ _
            have hfl : (optS (optL w h d b l w h p d.length)).length = d.length + 1 := by rw [← hol]; exact List.length_mergeSort _
            rw [hfl]
            refine IW.ret (Fin.tmp1 2 (by simp [go_sem, if_true, if_false, reduceIte, Nat.reduceEqDiff, Nat.reduceAdd, Nat.reduceLT, Nat.reduceLeDiff, reduceCtorEq, prs_nold]) (by simp [go_sem, if_true, if_false, reduceIte, Nat.reduceEqDiff, Nat.reduceAdd, Nat.reduceLT, Nat.reduceLeDiff, reduceCtorEq, prs_nold]) (by simp [go_sem, if_true, if_false, reduceIte, Nat.reduceEqDiff, Nat.reduceAdd, Nat.reduceLT, Nat.reduceLeDiff, reduceCtorEq, lsV]) (by simp [go_sem, if_true, if_false, reduceIte, Nat.reduceEqDiff, Nat.reduceAdd, Nat.reduceLT, Nat.reduceLeDiff, reduceCtorEq, prs_ren]))
end Go.Proofs.Ytnbpbehlemaeoaa

set_option linter.unusedVariables false
set_option linter.unusedSimpArgs false
set_option maxRecDepth 10000
namespace Go.Proofs.Ytnbpbehlemaeoaa
open Go.IL
theorem same93 (v : Value) (w : World) : (callFunc 93 #[v]).run Try.prog w = .ok (.value v) w := by kernel_rfl
theorem u97 : Try.prog.underlying 97 = some (.pointer 99) := by kernel_rfl
theorem u126 : Try.prog.underlying 126 = some .unsafePointer := by kernel_rfl
noncomputable def j99 : TypeInfo := (Try.prog.info? 99).getD default
theorem i99 : Try.prog.info? 99 = some j99 := by kernel_rfl
theorem s99 : j99.size ≠ 0 := of_decide_eq_true (by kernel_rfl)
theorem c99 : Try.prog.cellsOf 99 = 2 := by kernel_rfl
theorem fCheck0 : WSpec Try.prog 85 [.ptr 0 0 0] [⟨2, 99, [[.nilp, .nils]]⟩] (.tup []) [some ⟨2, 99, [[.ptr 0 0 0, .nils]]⟩] := by
  refine WSpec.intro tab_ok Try.func85 rfl rfl rfl (by kernel_rfl) (by simp) (by simp) fun O w0 hr => ?_
  simp only [argTM, Nat.zero_add, Nat.reduceAdd, List.map_cons, List.map_nil]
  repeat refine IW.seq ?_
  refine IW.region_seq tab_ok [some 2, some 3, some 4, some 5, some 6] rfl fun X K hX hK => ?_
  simp only [go_sem, if_true, if_false, reduceIte, Nat.reduceEqDiff, Nat.reduceAdd, Nat.reduceLT, Nat.reduceLeDiff, reduceCtorEq]
  refine hX.quiet _ _ (OpG.of_B rfl (opB_ptrNil (b := true) u97 i99 rfl (by simp [go_sem, if_true, if_false, reduceIte, Nat.reduceEqDiff, Nat.reduceAdd, Nat.reduceLT, Nat.reduceLeDiff, reduceCtorEq, nilPV]))) ?_
  simp only [go_sem, if_true, if_false, reduceIte, Nat.reduceEqDiff, Nat.reduceAdd, Nat.reduceLT, Nat.reduceLeDiff, reduceCtorEq, eqRes]
  refine hK _ _ ?_; clear hX hK X K
  show IW _ _ _ _ _ _ _ _
  repeat refine IW.seq ?_
  refine IW.cond rfl (fun hb => ?_) (fun hb => ?_)
  · repeat refine IW.seq ?_
    refine IW.region_seq tab_ok [some 7, some 8, some 9, some 10, some 11, some 12, some 13, none] rfl fun X K hX hK => ?_
    simp only [go_sem, if_true, if_false, reduceIte, Nat.reduceEqDiff, Nat.reduceAdd, Nat.reduceLT, Nat.reduceLeDiff, reduceCtorEq]
    refine hX.quiet _ _ (OpG.of_B rfl (opB_toUnsafe (id := 0) (r := ⟨2, 99, [[.nilp, .nils]]⟩) u97 u126 i99 s99 (by simp [go_sem, if_true, if_false, reduceIte, Nat.reduceEqDiff, Nat.reduceAdd, Nat.reduceLT, Nat.reduceLeDiff, reduceCtorEq]) rfl (by decide) (by decide))) ?_
    simp only [go_sem, if_true, if_false, reduceIte, Nat.reduceEqDiff, Nat.reduceAdd, Nat.reduceLT, Nat.reduceLeDiff, reduceCtorEq]
    refine hX.quiet _ _ (OpG.of_B rfl (opB_same same93)) ?_
    simp only [go_sem, if_true, if_false, reduceIte, Nat.reduceEqDiff, Nat.reduceAdd, Nat.reduceLT, Nat.reduceLeDiff, reduceCtorEq]
    refine hX.quiet _ _ (OpG.of_B rfl (opB_fromUnsafe (id := 0) (r := ⟨2, 99, [[.nilp, .nils]]⟩) u126 u97 i99 (by simp [go_sem, if_true, if_false, reduceIte, Nat.reduceEqDiff, Nat.reduceAdd, Nat.reduceLT, Nat.reduceLeDiff, reduceCtorEq]) rfl (by decide) rfl c99 (by decide) (by decide))) ?_
    simp only [go_sem, if_true, if_false, reduceIte, Nat.reduceEqDiff, Nat.reduceAdd, Nat.reduceLT, Nat.reduceLeDiff, reduceCtorEq]
    refine hX.op _ _ rfl (opS_store tab_ok rfl (by simp [go_sem, if_true, if_false, reduceIte, Nat.reduceEqDiff, Nat.reduceAdd, Nat.reduceLT, Nat.reduceLeDiff, reduceCtorEq]) (by simp [go_sem, if_true, if_false, reduceIte, Nat.reduceEqDiff, Nat.reduceAdd, Nat.reduceLT, Nat.reduceLeDiff, reduceCtorEq]) (by simp [go_sem, if_true, if_false, reduceIte, Nat.reduceEqDiff, Nat.reduceAdd, Nat.reduceLT, Nat.reduceLeDiff, reduceCtorEq]) (by simp [go_sem, if_true, if_false, reduceIte, Nat.reduceEqDiff, Nat.reduceAdd, Nat.reduceLT, Nat.reduceLeDiff, reduceCtorEq]) (by simp [go_sem, if_true, if_false, reduceIte, Nat.reduceEqDiff, Nat.reduceAdd, Nat.reduceLT, Nat.reduceLeDiff, reduceCtorEq]) (by simp [go_sem, if_true, if_false, reduceIte, Nat.reduceEqDiff, Nat.reduceAdd, Nat.reduceLT, Nat.reduceLeDiff, reduceCtorEq])) ?_
    simp only [go_sem, if_true, if_false, reduceIte, Nat.reduceEqDiff, Nat.reduceAdd, Nat.reduceLT, Nat.reduceLeDiff, reduceCtorEq]
    refine hK _ _ ?_
    exact ⟨trivial, rfl, by simp [go_sem, if_true, if_false, reduceIte, Nat.reduceEqDiff, Nat.reduceAdd, Nat.reduceLT, Nat.reduceLeDiff, reduceCtorEq, heapNold], by simp, [0], rfl, by simp, rfl, rfl, by simp [go_sem, if_true, if_false, reduceIte, Nat.reduceEqDiff, Nat.reduceAdd, Nat.reduceLT, Nat.reduceLeDiff, reduceCtorEq, subH], trivial⟩
  · simp at hb
theorem fCheck (n : Nat) (bs : List Int) (hn : n ≤ bs.length) : WSpec Try.prog 85 [.ptr 0 0 0] [⟨2, 99, [[.ptr 0 0 0, .ref 1 0 n]]⟩, ⟨1, 5, nums .u8 bs⟩] (.tup []) [some ⟨2, 99, [[.ptr 0 0 0, .ref 1 0 n]]⟩, some ⟨1, 5, nums .u8 bs⟩] := by
  refine WSpec.intro tab_ok Try.func85 rfl rfl rfl (by kernel_rfl) (by simp) (by simp) fun O w0 hr => ?_
  simp only [argTM, Nat.zero_add, Nat.reduceAdd, List.map_cons, List.map_nil]
  repeat refine IW.seq ?_
  refine IW.region_seq tab_ok [some 2, some 3, some 4, some 5, some 6] rfl fun X K hX hK => ?_
  simp only [go_sem, if_true, if_false, reduceIte, Nat.reduceEqDiff, Nat.reduceAdd, Nat.reduceLT, Nat.reduceLeDiff, reduceCtorEq]
  refine hX.quiet _ _ (OpG.of_B rfl (opB_ptrNil (b := false) u97 i99 rfl (by simp [go_sem, if_true, if_false, reduceIte, Nat.reduceEqDiff, Nat.reduceAdd, Nat.reduceLT, Nat.reduceLeDiff, reduceCtorEq, nilPV]))) ?_
  simp only [go_sem, if_true, if_false, reduceIte, Nat.reduceEqDiff, Nat.reduceAdd, Nat.reduceLT, Nat.reduceLeDiff, reduceCtorEq, eqRes]
  refine hK _ _ ?_; clear hX hK X K
  show IW _ _ _ _ _ _ _ _
  repeat refine IW.seq ?_
  refine IW.cond rfl (fun hb => ?_) (fun hb => ?_)
  · simp at hb
  · repeat refine IW.seq ?_
    refine IW.region_seq tab_ok [some 14, some 15, some 16, some 17, some 18, some 19] rfl fun X K hX hK => ?_
    simp only [go_sem, if_true, if_false, reduceIte, Nat.reduceEqDiff, Nat.reduceAdd, Nat.reduceLT, Nat.reduceLeDiff, reduceCtorEq]
    refine hX.quiet _ _ (OpG.of_B rfl (opB_ptrSame (id := 0) (i := 0) (o := 0) u97 i99 s99 rfl (by simp [go_sem, if_true, if_false, reduceIte, Nat.reduceEqDiff, Nat.reduceAdd, Nat.reduceLT, Nat.reduceLeDiff, reduceCtorEq]) (by simp [go_sem, if_true, if_false, reduceIte, Nat.reduceEqDiff, Nat.reduceAdd, Nat.reduceLT, Nat.reduceLeDiff, reduceCtorEq]))) ?_
    simp only [go_sem, if_true, if_false, reduceIte, Nat.reduceEqDiff, Nat.reduceAdd, Nat.reduceLT, Nat.reduceLeDiff, reduceCtorEq, eqRes]
    refine hK _ _ ?_; clear hX hK X K
    show IW _ _ _ _ _ _ _ _
    repeat refine IW.seq ?_
    refine IW.cond rfl (fun hb2 => ?_) (fun hb2 => ?_)
    · simp at hb2
    · refine IW.skip ?_
      exact ⟨trivial, rfl, by simp [go_sem, if_true, if_false, reduceIte, Nat.reduceEqDiff, Nat.reduceAdd, Nat.reduceLT, Nat.reduceLeDiff, reduceCtorEq, heapNold, nums_nold], by simp, [0, 1], rfl, by simp, rfl, rfl, by simp [go_sem, if_true, if_false, reduceIte, Nat.reduceEqDiff, Nat.reduceAdd, Nat.reduceLT, Nat.reduceLeDiff, reduceCtorEq, subH, nums_ren, Row.ren, renLL, renL, SV.ren, sg]⟩
theorem nums_reWrow (k : IntKind) (e : TypeId) (σ : List Nat) (n : Nat) (h : Heap) (l : List Int) : (⟨1, e, nums k l⟩ : Row).reW σ (n + 1) h = ⟨1, e, nums k l⟩ := by
  simp only [Row.reW, nums_reW]
theorem bld_reW (m n : Nat) (h : Heap) : (⟨2, 99, [[.ptr 0 0 0, .ref 1 0 n]]⟩ : Row).reW [0, 1] (m + 1) h = ⟨2, 99, [[.ptr 0 0 0, .ref 1 0 n]]⟩ := by
  simp [Row.reW, reW, show List.idxOf 1 [0, 1] = 1 from rfl]
theorem fByte0 (c : Int) : WSpec Try.prog 70 [.ptr 0 0 0, .int .u8 c] [⟨2, 99, [[.nilp, .nils]]⟩] (.raw .nilIface) [some ⟨2, 99, [[.ptr 0 0 0, .ref 1 0 1]]⟩, some ⟨1, 5, nums .u8 [c]⟩] := by
  refine WSpec.intro tab_ok Try.func70 rfl rfl rfl (by kernel_rfl) (by simp) (by simp) fun O w0 hr => ?_
  simp only [argTM, Nat.zero_add, Nat.reduceAdd, List.map_cons, List.map_nil]
  repeat refine IW.seq ?_
  refine IW.region_seq tab_ok [some 4] rfl fun X K hX hK => ?_
  simp only [go_sem, if_true, if_false, reduceIte, Nat.reduceEqDiff, Nat.reduceAdd, Nat.reduceLT, Nat.reduceLeDiff, reduceCtorEq]
  refine hK _ _ ?_; clear hX hK X K
  show IW _ _ _ _ _ _ _ _
  repeat refine IW.seq ?_
  refine IW.region_seq tab_ok [some 5, some 6] rfl fun X K hX hK => ?_
  simp only [go_sem, if_true, if_false, reduceIte, Nat.reduceEqDiff, Nat.reduceAdd, Nat.reduceLT, Nat.reduceLeDiff, reduceCtorEq]
  refine hX.op _ _ rfl (opS_callW (caps := []) [0] (by simp) (by simp [go_sem, if_true, if_false, reduceIte, Nat.reduceEqDiff, Nat.reduceAdd, Nat.reduceLT, Nat.reduceLeDiff, reduceCtorEq]) (by simp) (by simp [go_sem, if_true, if_false, reduceIte, Nat.reduceEqDiff, Nat.reduceAdd, Nat.reduceLT, Nat.reduceLeDiff, reduceCtorEq, Row.reW, reW]) (by simp [go_sem, if_true, if_false, reduceIte, Nat.reduceEqDiff, Nat.reduceAdd, Nat.reduceLT, Nat.reduceLeDiff, reduceCtorEq, reW]) fCheck0) ?_
  simp only [go_sem, if_true, if_false, reduceIte, Nat.reduceEqDiff, Nat.reduceAdd, Nat.reduceLT, Nat.reduceLeDiff, reduceCtorEq]
  simp only [updR, List.set_cons_zero, List.set_cons_succ, Option.map_some, Row.ren, renLL, renL, SV.ren, tauW, List.length_cons, List.length_nil, Nat.reduceAdd, Nat.reduceLT, if_true, List.getD_cons_zero, Nat.zero_lt_one]
  refine hK _ _ ?_; clear hX hK X K
  show IW _ _ _ _ _ _ _ _
  repeat refine IW.seq ?_
  refine IW.region_seq tab_ok [some 7, some 8, some 9, some 10, some 11, some 12, some 13, some 14, some 15, some 16, none] rfl fun X K hX hK => ?_
  simp only [go_sem, if_true, if_false, reduceIte, Nat.reduceEqDiff, Nat.reduceAdd, Nat.reduceLT, Nat.reduceLeDiff, reduceCtorEq]
  refine hX.quiet _ _ (OpG.of_B rfl (opB_buildSlice tab_ok rfl (by simp [go_sem, if_true, if_false, reduceIte, Nat.reduceEqDiff, Nat.reduceAdd, Nat.reduceLT, Nat.reduceLeDiff, reduceCtorEq]) (by simp [go_sem, if_true, if_false, reduceIte, Nat.reduceEqDiff, Nat.reduceAdd, Nat.reduceLT, Nat.reduceLeDiff, reduceCtorEq]) (by simp) (by simp [go_sem, if_true, if_false, reduceIte, Nat.reduceEqDiff, Nat.reduceAdd, Nat.reduceLT, Nat.reduceLeDiff, reduceCtorEq, bsO, List.map_cons, List.map_nil]))) ?_
  simp only [go_sem, if_true, if_false, reduceIte, Nat.reduceEqDiff, Nat.reduceAdd, Nat.reduceLT, Nat.reduceLeDiff, reduceCtorEq, List.map_cons, List.map_nil]
  refine hX.quiet _ _ (OpG.of_B rfl (opB_append_nil tab_ok (ys := [[.int .u8 c]]) rfl (by simp [go_sem, if_true, if_false, reduceIte, Nat.reduceEqDiff, Nat.reduceAdd, Nat.reduceLT, Nat.reduceLeDiff, reduceCtorEq]) rfl (by simp [go_sem, if_true, if_false, reduceIte, Nat.reduceEqDiff, Nat.reduceAdd, Nat.reduceLT, Nat.reduceLeDiff, reduceCtorEq]; try omega) rfl (by simp [go_sem, if_true, if_false, reduceIte, Nat.reduceEqDiff, Nat.reduceAdd, Nat.reduceLT, Nat.reduceLeDiff, reduceCtorEq]) (by simp [go_sem, if_true, if_false, reduceIte, Nat.reduceEqDiff, Nat.reduceAdd, Nat.reduceLT, Nat.reduceLeDiff, reduceCtorEq]) (by first | exact nums_w _ _ | exact prs_w _ | simp [go_sem, if_true, if_false, reduceIte, Nat.reduceEqDiff, Nat.reduceAdd, Nat.reduceLT, Nat.reduceLeDiff, reduceCtorEq, nums]) (by simp [go_sem, if_true, if_false, reduceIte, Nat.reduceEqDiff, Nat.reduceAdd, Nat.reduceLT, Nat.reduceLeDiff, reduceCtorEq]) (by simp [go_sem, if_true, if_false, reduceIte, Nat.reduceEqDiff, Nat.reduceAdd, Nat.reduceLT, Nat.reduceLeDiff, reduceCtorEq]; try omega) (by simp [go_sem, if_true, if_false, reduceIte, Nat.reduceEqDiff, Nat.reduceAdd, Nat.reduceLT, Nat.reduceLeDiff, reduceCtorEq]; try omega))) ?_
  simp only [go_sem, if_true, if_false, reduceIte, Nat.reduceEqDiff, Nat.reduceAdd, Nat.reduceLT, Nat.reduceLeDiff, reduceCtorEq, List.length_cons, List.length_nil]
  refine hX.op _ _ rfl (opS_store tab_ok rfl (by simp [go_sem, if_true, if_false, reduceIte, Nat.reduceEqDiff, Nat.reduceAdd, Nat.reduceLT, Nat.reduceLeDiff, reduceCtorEq]) (by simp [go_sem, if_true, if_false, reduceIte, Nat.reduceEqDiff, Nat.reduceAdd, Nat.reduceLT, Nat.reduceLeDiff, reduceCtorEq]) (by simp [go_sem, if_true, if_false, reduceIte, Nat.reduceEqDiff, Nat.reduceAdd, Nat.reduceLT, Nat.reduceLeDiff, reduceCtorEq]) (by simp [go_sem, if_true, if_false, reduceIte, Nat.reduceEqDiff, Nat.reduceAdd, Nat.reduceLT, Nat.reduceLeDiff, reduceCtorEq]) (by simp [go_sem, if_true, if_false, reduceIte, Nat.reduceEqDiff, Nat.reduceAdd, Nat.reduceLT, Nat.reduceLeDiff, reduceCtorEq]) (by simp [go_sem, if_true, if_false, reduceIte, Nat.reduceEqDiff, Nat.reduceAdd, Nat.reduceLT, Nat.reduceLeDiff, reduceCtorEq])) ?_
  simp only [go_sem, if_true, if_false, reduceIte, Nat.reduceEqDiff, Nat.reduceAdd, Nat.reduceLT, Nat.reduceLeDiff, reduceCtorEq]
  refine hK _ _ ?_; clear hX hK X K
  show IW _ _ _ _ _ _ _ _
  repeat refine IW.seq ?_
  refine IW.region_seq tab_ok [some 4] rfl fun X K hX hK => ?_
  simp only [go_sem, if_true, if_false, reduceIte, Nat.reduceEqDiff, Nat.reduceAdd, Nat.reduceLT, Nat.reduceLeDiff, reduceCtorEq]
  refine hK _ _ ?_; clear hX hK X K
  show IW _ _ _ _ _ _ _ _
  refine IW.ret ⟨⟨trivial, trivial⟩, rfl, by simp [go_sem, if_true, if_false, reduceIte, Nat.reduceEqDiff, Nat.reduceAdd, Nat.reduceLT, Nat.reduceLeDiff, reduceCtorEq, heapNold], by simp, [0, 2], rfl, by simp, rfl, ?_, ?_⟩
  · simp [go_sem, if_true, if_false, reduceIte, Nat.reduceEqDiff, Nat.reduceAdd, Nat.reduceLT, Nat.reduceLeDiff, reduceCtorEq, resAll, resSV]
  · simp [go_sem, if_true, if_false, reduceIte, Nat.reduceEqDiff, Nat.reduceAdd, Nat.reduceLT, Nat.reduceLeDiff, reduceCtorEq, subH, sg, Row.ren]
    rfl
theorem fByte (n : Nat) (bs : List Int) (hn : bs.length = n) (hn0 : n ≤ 1000000) (c : Int) : WSpec Try.prog 70 [.ptr 0 0 0, .int .u8 c] [⟨2, 99, [[.ptr 0 0 0, .ref 1 0 n]]⟩, ⟨1, 5, nums .u8 bs⟩] (.raw .nilIface) [some ⟨2, 99, [[.ptr 0 0 0, .ref 2 0 (n + 1)]]⟩, none, some ⟨1, 5, nums .u8 (bs ++ [c])⟩] := by
  refine WSpec.intro tab_ok Try.func70 rfl rfl rfl (by kernel_rfl) (by simp) (by simp) fun O w0 hr => ?_
  simp only [argTM, Nat.zero_add, Nat.reduceAdd, List.map_cons, List.map_nil]
  repeat refine IW.seq ?_
  refine IW.region_seq tab_ok [some 4] rfl fun X K hX hK => ?_
  simp only [go_sem, if_true, if_false, reduceIte, Nat.reduceEqDiff, Nat.reduceAdd, Nat.reduceLT, Nat.reduceLeDiff, reduceCtorEq]
  refine hK _ _ ?_; clear hX hK X K
  show IW _ _ _ _ _ _ _ _
  repeat refine IW.seq ?_
  refine IW.region_seq tab_ok [some 5, some 6] rfl fun X K hX hK => ?_
  simp only [go_sem, if_true, if_false, reduceIte, Nat.reduceEqDiff, Nat.reduceAdd, Nat.reduceLT, Nat.reduceLeDiff, reduceCtorEq]
  refine hX.op _ _ rfl (opS_callW (caps := []) [0, 1] (by simp) (by simp [go_sem, if_true, if_false, reduceIte, Nat.reduceEqDiff, Nat.reduceAdd, Nat.reduceLT, Nat.reduceLeDiff, reduceCtorEq]) (by simp) (by simp [go_sem, if_true, if_false, reduceIte, Nat.reduceEqDiff, Nat.reduceAdd, Nat.reduceLT, Nat.reduceLeDiff, reduceCtorEq, bld_reW, nums_reWrow]) (by simp [go_sem, if_true, if_false, reduceIte, Nat.reduceEqDiff, Nat.reduceAdd, Nat.reduceLT, Nat.reduceLeDiff, reduceCtorEq, reW]) (fCheck n bs (by omega))) ?_
  simp only [go_sem, if_true, if_false, reduceIte, Nat.reduceEqDiff, Nat.reduceAdd, Nat.reduceLT, Nat.reduceLeDiff, reduceCtorEq]
  simp only [updR, List.set_cons_zero, List.set_cons_succ, Option.map_some, Row.ren, renLL, renL, SV.ren, nums_ren, tauW, List.length_cons, List.length_nil, Nat.reduceAdd, Nat.reduceLT, if_true, List.getD_cons_zero, List.getD_cons_succ, Nat.zero_lt_one]
  refine hK _ _ ?_; clear hX hK X K
  show IW _ _ _ _ _ _ _ _
  repeat refine IW.seq ?_
  refine IW.region_seq tab_ok [some 7, some 8, some 9, some 10, some 11, some 12, some 13, some 14, some 15, some 16, none] rfl fun X K hX hK => ?_
  simp only [go_sem, if_true, if_false, reduceIte, Nat.reduceEqDiff, Nat.reduceAdd, Nat.reduceLT, Nat.reduceLeDiff, reduceCtorEq]
  refine hX.quiet _ _ (OpG.of_B rfl (opB_buildSlice tab_ok rfl (by simp [go_sem, if_true, if_false, reduceIte, Nat.reduceEqDiff, Nat.reduceAdd, Nat.reduceLT, Nat.reduceLeDiff, reduceCtorEq]) (by simp [go_sem, if_true, if_false, reduceIte, Nat.reduceEqDiff, Nat.reduceAdd, Nat.reduceLT, Nat.reduceLeDiff, reduceCtorEq]) (by simp) (by simp [go_sem, if_true, if_false, reduceIte, Nat.reduceEqDiff, Nat.reduceAdd, Nat.reduceLT, Nat.reduceLeDiff, reduceCtorEq, bsO, List.map_cons, List.map_nil]))) ?_
  simp only [go_sem, if_true, if_false, reduceIte, Nat.reduceEqDiff, Nat.reduceAdd, Nat.reduceLT, Nat.reduceLeDiff, reduceCtorEq, List.map_cons, List.map_nil]
  refine hX.op _ _ rfl (opS_append tab_ok (ys := [[.int .u8 c]]) rfl (by simp [go_sem, if_true, if_false, reduceIte, Nat.reduceEqDiff, Nat.reduceAdd, Nat.reduceLT, Nat.reduceLeDiff, reduceCtorEq, nums_length, hn]) rfl (by simp [go_sem, if_true, if_false, reduceIte, Nat.reduceEqDiff, Nat.reduceAdd, Nat.reduceLT, Nat.reduceLeDiff, reduceCtorEq, nums_length, hn]; try omega) rfl (by simp [go_sem, if_true, if_false, reduceIte, Nat.reduceEqDiff, Nat.reduceAdd, Nat.reduceLT, Nat.reduceLeDiff, reduceCtorEq]) (by simp [go_sem, if_true, if_false, reduceIte, Nat.reduceEqDiff, Nat.reduceAdd, Nat.reduceLT, Nat.reduceLeDiff, reduceCtorEq]) (by simp [go_sem, if_true, if_false, reduceIte, Nat.reduceEqDiff, Nat.reduceAdd, Nat.reduceLT, Nat.reduceLeDiff, reduceCtorEq, nums_length, hn]) rfl rfl rfl (by first | exact nums_w _ _ | exact prs_w _ | simp [go_sem, if_true, if_false, reduceIte, Nat.reduceEqDiff, Nat.reduceAdd, Nat.reduceLT, Nat.reduceLeDiff, reduceCtorEq, nums]) (by simp [go_sem, if_true, if_false, reduceIte, Nat.reduceEqDiff, Nat.reduceAdd, Nat.reduceLT, Nat.reduceLeDiff, reduceCtorEq]) (by simp [go_sem, if_true, if_false, reduceIte, Nat.reduceEqDiff, Nat.reduceAdd, Nat.reduceLT, Nat.reduceLeDiff, reduceCtorEq]; omega) (by simp [go_sem, if_true, if_false, reduceIte, Nat.reduceEqDiff, Nat.reduceAdd, Nat.reduceLT, Nat.reduceLeDiff, reduceCtorEq]; omega) (by intro d e; cases e; decide)) ?_
  simp only [go_sem, if_true, if_false, reduceIte, Nat.reduceEqDiff, Nat.reduceAdd, Nat.reduceLT, Nat.reduceLeDiff, reduceCtorEq, List.length_cons, List.length_nil, nums_length, hn]
  refine hX.op _ _ rfl (opS_store tab_ok rfl (by simp [go_sem, if_true, if_false, reduceIte, Nat.reduceEqDiff, Nat.reduceAdd, Nat.reduceLT, Nat.reduceLeDiff, reduceCtorEq]) (by simp [go_sem, if_true, if_false, reduceIte, Nat.reduceEqDiff, Nat.reduceAdd, Nat.reduceLT, Nat.reduceLeDiff, reduceCtorEq]) (by simp [go_sem, if_true, if_false, reduceIte, Nat.reduceEqDiff, Nat.reduceAdd, Nat.reduceLT, Nat.reduceLeDiff, reduceCtorEq]) (by simp [go_sem, if_true, if_false, reduceIte, Nat.reduceEqDiff, Nat.reduceAdd, Nat.reduceLT, Nat.reduceLeDiff, reduceCtorEq]) (by simp [go_sem, if_true, if_false, reduceIte, Nat.reduceEqDiff, Nat.reduceAdd, Nat.reduceLT, Nat.reduceLeDiff, reduceCtorEq]) (by simp [go_sem, if_true, if_false, reduceIte, Nat.reduceEqDiff, Nat.reduceAdd, Nat.reduceLT, Nat.reduceLeDiff, reduceCtorEq])) ?_
  simp only [go_sem, if_true, if_false, reduceIte, Nat.reduceEqDiff, Nat.reduceAdd, Nat.reduceLT, Nat.reduceLeDiff, reduceCtorEq]
  refine hK _ _ ?_; clear hX hK X K
  show IW _ _ _ _ _ _ _ _
  repeat refine IW.seq ?_
  refine IW.region_seq tab_ok [some 4] rfl fun X K hX hK => ?_
  simp only [go_sem, if_true, if_false, reduceIte, Nat.reduceEqDiff, Nat.reduceAdd, Nat.reduceLT, Nat.reduceLeDiff, reduceCtorEq]
  refine hK _ _ ?_; clear hX hK X K
  show IW _ _ _ _ _ _ _ _
  have ht : (nums .u8 bs).take n ++ [[.int .u8 c]] = nums .u8 (bs ++ [c]) := by
    rw [List.take_of_length_le (by rw [nums_length]; omega)]
    simp [nums]
  refine IW.ret ⟨⟨trivial, trivial⟩, rfl, by simp [go_sem, if_true, if_false, reduceIte, Nat.reduceEqDiff, Nat.reduceAdd, Nat.reduceLT, Nat.reduceLeDiff, reduceCtorEq, heapNold], by simp, [0, 1, 3], rfl, by simp, rfl, ?_, ?_⟩
  · simp [go_sem, if_true, if_false, reduceIte, Nat.reduceEqDiff, Nat.reduceAdd, Nat.reduceLT, Nat.reduceLeDiff, reduceCtorEq, resAll, resSV]
  · simp [go_sem, if_true, if_false, reduceIte, Nat.reduceEqDiff, Nat.reduceAdd, Nat.reduceLT, Nat.reduceLeDiff, reduceCtorEq, subH, sg, Row.ren, ht]
theorem u113 : Try.prog.underlying 113 = some (.pointer 5) := by kernel_rfl
theorem c5 : Try.prog.cellsOf 5 = 1 := by kernel_rfl
theorem fString0 : WSpec Try.prog 71 [.ptr 0 0 0] [⟨2, 99, [[.nilp, .nils]]⟩] (.str (IL.strOf [])) [some ⟨2, 99, [[.nilp, .nils]]⟩] := by
  refine WSpec.intro tab_ok Try.func71 rfl rfl rfl (by kernel_rfl) (by simp) (by simp) fun O w0 hr => ?_
  simp only [argTM, Nat.zero_add, Nat.reduceAdd, List.map_cons, List.map_nil]
  repeat refine IW.seq ?_
  refine IW.region_seq tab_ok [some 2] rfl fun X K hX hK => ?_
  simp only [go_sem, if_true, if_false, reduceIte, Nat.reduceEqDiff, Nat.reduceAdd, Nat.reduceLT, Nat.reduceLeDiff, reduceCtorEq]
  refine hK _ _ ?_; clear hX hK X K
  show IW _ _ _ _ _ _ _ _
  repeat refine IW.seq ?_
  refine IW.region_draw tab_ok mixed [some 3, some 4, some 5, some 6, some 7, some 8, some 9, some 10, some 11, some 12, some 13, some 2] 10 (by kernel_rfl) rfl fun Xq Xs K hXq hXs hK K1 hK1 => ?_
  simp only [go_sem, if_true, if_false, reduceIte, Nat.reduceEqDiff, Nat.reduceAdd, Nat.reduceLT, Nat.reduceLeDiff, reduceCtorEq]
  refine hXq.quiet _ _ (OpG.of_B rfl (opB_sliceData_nil (by simp [go_sem, if_true, if_false, reduceIte, Nat.reduceEqDiff, Nat.reduceAdd, Nat.reduceLT, Nat.reduceLeDiff, reduceCtorEq]))) ?_
  simp only [go_sem, if_true, if_false, reduceIte, Nat.reduceEqDiff, Nat.reduceAdd, Nat.reduceLT, Nat.reduceLeDiff, reduceCtorEq]
  refine hK1 _ _ ?_; clear hXq hK1 K1 Xq
  simp only [List.drop_zero, List.drop_succ_cons, go_sem, if_true, if_false, reduceIte, Nat.reduceEqDiff, Nat.reduceAdd, Nat.reduceLT, Nat.reduceLeDiff, reduceCtorEq]
  refine hXs.quiet _ _ (OpG.of_B rfl (opB_unsafeString_nil (by simp [go_sem, if_true, if_false, reduceIte, Nat.reduceEqDiff, Nat.reduceAdd, Nat.reduceLT, Nat.reduceLeDiff, reduceCtorEq]) (by simp [go_sem, if_true, if_false, reduceIte, Nat.reduceEqDiff, Nat.reduceAdd, Nat.reduceLT, Nat.reduceLeDiff, reduceCtorEq]))) ?_
  simp only [go_sem, if_true, if_false, reduceIte, Nat.reduceEqDiff, Nat.reduceAdd, Nat.reduceLT, Nat.reduceLeDiff, reduceCtorEq]
  refine hK _ _ ?_; clear hXs hK K Xs
  show IW _ _ _ _ _ _ _ _
  refine IW.ret ⟨⟨trivial, trivial⟩, rfl, by simp [go_sem, if_true, if_false, reduceIte, Nat.reduceEqDiff, Nat.reduceAdd, Nat.reduceLT, Nat.reduceLeDiff, reduceCtorEq, heapNold], by simp, [0], rfl, by simp, rfl, ?_, ?_⟩
  · simp [go_sem, if_true, if_false, reduceIte, Nat.reduceEqDiff, Nat.reduceAdd, Nat.reduceLT, Nat.reduceLeDiff, reduceCtorEq, resAll, resSV]
  · simp [go_sem, if_true, if_false, reduceIte, Nat.reduceEqDiff, Nat.reduceAdd, Nat.reduceLT, Nat.reduceLeDiff, reduceCtorEq, subH, sg, Row.ren]
theorem fString (bs : List Int) (hn0 : bs.length ≤ 1000000) (hp : 0 < bs.length) (hb : ∀ x ∈ bs, 0 ≤ x ∧ x < 256) : WSpec Try.prog 71 [.ptr 0 0 0] [⟨2, 99, [[.ptr 0 0 0, .ref 1 0 bs.length]]⟩, ⟨1, 5, nums .u8 bs⟩] (.str (IL.strOf bs)) [some ⟨2, 99, [[.ptr 0 0 0, .ref 1 0 bs.length]]⟩, none] := by
  refine WSpec.intro tab_ok Try.func71 rfl rfl rfl (by kernel_rfl) (by simp) (by simp) fun O w0 hr => ?_
  simp only [argTM, Nat.zero_add, Nat.reduceAdd, List.map_cons, List.map_nil]
  repeat refine IW.seq ?_
  refine IW.region_seq tab_ok [some 2] rfl fun X K hX hK => ?_
  simp only [go_sem, if_true, if_false, reduceIte, Nat.reduceEqDiff, Nat.reduceAdd, Nat.reduceLT, Nat.reduceLeDiff, reduceCtorEq]
  refine hK _ _ ?_; clear hX hK X K
  show IW _ _ _ _ _ _ _ _
  repeat refine IW.seq ?_
  refine IW.region_draw tab_ok mixed [some 3, some 4, some 5, some 6, some 7, some 8, some 9, some 10, some 11, some 12, some 13, some 2] 10 (by kernel_rfl) rfl fun Xq Xs K hXq hXs hK K1 hK1 => ?_
  simp only [go_sem, if_true, if_false, reduceIte, Nat.reduceEqDiff, Nat.reduceAdd, Nat.reduceLT, Nat.reduceLeDiff, reduceCtorEq]
  refine hXq.quiet _ _ (OpG.of_B rfl (opB_sliceData (id := 1) (off := 0) (n := bs.length) (by simp [go_sem, if_true, if_false, reduceIte, Nat.reduceEqDiff, Nat.reduceAdd, Nat.reduceLT, Nat.reduceLeDiff, reduceCtorEq]) hp)) ?_
  simp only [go_sem, if_true, if_false, reduceIte, Nat.reduceEqDiff, Nat.reduceAdd, Nat.reduceLT, Nat.reduceLeDiff, reduceCtorEq]
  refine hK1 _ _ ?_; clear hXq hK1 K1 Xq
  simp only [List.drop_zero, List.drop_succ_cons, go_sem, if_true, if_false, reduceIte, Nat.reduceEqDiff, Nat.reduceAdd, Nat.reduceLT, Nat.reduceLeDiff, reduceCtorEq]
  refine hXs.op _ _ rfl (opS_unsafeString (id := 1) (xs := bs) (by simp [go_sem, if_true, if_false, reduceIte, Nat.reduceEqDiff, Nat.reduceAdd, Nat.reduceLT, Nat.reduceLeDiff, reduceCtorEq]) (by simp [go_sem, if_true, if_false, reduceIte, Nat.reduceEqDiff, Nat.reduceAdd, Nat.reduceLT, Nat.reduceLeDiff, reduceCtorEq]) rfl (by decide) u113 c5 hp hb (by omega) (by intro d e; cases e; decide)) ?_
  simp only [go_sem, if_true, if_false, reduceIte, Nat.reduceEqDiff, Nat.reduceAdd, Nat.reduceLT, Nat.reduceLeDiff, reduceCtorEq]
  refine hK _ _ ?_; clear hXs hK K Xs
  show IW _ _ _ _ _ _ _ _
  refine IW.ret ⟨⟨trivial, trivial⟩, rfl, by simp [go_sem, if_true, if_false, reduceIte, Nat.reduceEqDiff, Nat.reduceAdd, Nat.reduceLT, Nat.reduceLeDiff, reduceCtorEq, heapNold], by simp, [0, 1], rfl, by simp, rfl, ?_, ?_⟩
  · simp [go_sem, if_true, if_false, reduceIte, Nat.reduceEqDiff, Nat.reduceAdd, Nat.reduceLT, Nat.reduceLeDiff, reduceCtorEq, resAll, resSV]
  · simp [go_sem, if_true, if_false, reduceIte, Nat.reduceEqDiff, Nat.reduceAdd, Nat.reduceLT, Nat.reduceLeDiff, reduceCtorEq, subH, sg, Row.ren]
end Go.Proofs.Ytnbpbehlemaeoaa

set_option linter.unusedVariables false
set_option linter.unusedSimpArgs false
set_option maxRecDepth 10000
namespace Go.Proofs.Ytnbpbehlemaeoaa
open Go.IL
/-- A builder (row 1) that has written bs (row 2). -/
def wbV (bs : List Int) : List SV := match bs with | [] => [.nilp, .nils] | _ :: _ => [.ptr 1 0 0, .ref 2 0 bs.length]
def wbR (bs : List Int) : Option Row := match bs with | [] => none | _ :: _ => some ⟨1, 5, nums .u8 bs⟩
theorem opS_byte {O : Nat → Prop} {w0 : Ctx} {N : Nat} {dst : Option Nat} {x y : Operand} {ats : Array TypeId} {ty : TypeId} {pos : String} {after : Array Edge} {tm : TM} {bs : List Int} {c : Int} {r0 : Option Row} (hx : opnd tm x = .ptr 1 0 0) (hy : opnd tm y = .int .u8 c) (hl : bs.length ≤ 1000000) (hd : ∀ d, dst = some d → d < N) :
    OpS Try.prog O w0 N ⟨dst, .call ⟨.value (.func 70), #[x, y], ats⟩, ty, pos, after, none⟩ tm [r0, some ⟨2, 99, [wbV bs]⟩, wbR bs] (tm.put dst (.raw .nilIface)) [r0, some ⟨2, 99, [[.ptr 1 0 0, .ref 3 0 (bs.length + 1)]]⟩, none, some ⟨1, 5, nums .u8 (bs ++ [c])⟩] := by
  cases bs with
  | nil =>
    have := opS_callW (P := Try.prog) (O := O) (w0 := w0) (N := N) (dst := dst) (fo := .func 70) (caps := []) (args := #[x, y]) (ats := ats) (ty := ty) (pos := pos) (after := after) (tm := tm) (h := [r0, some ⟨2, 99, [[.nilp, .nils]]⟩, none]) (svs := [.ptr 0 0 0, .int .u8 c]) (rowsIn := [⟨2, 99, [[.nilp, .nils]]⟩]) [1] hd (by simp [go_sem, if_true, if_false, reduceIte, Nat.reduceEqDiff, Nat.reduceAdd, Nat.reduceLT, Nat.reduceLeDiff, reduceCtorEq]) (by simp) (by simp [go_sem, if_true, if_false, reduceIte, Nat.reduceEqDiff, Nat.reduceAdd, Nat.reduceLT, Nat.reduceLeDiff, reduceCtorEq, Row.reW, reW]) (by simp only [List.map_cons, List.map_nil, hx, hy, List.append_nil]; rfl) (fByte0 c)
    simp only [updR, List.set_cons_zero, List.set_cons_succ, Option.map_some, Row.ren, renLL, renL, SV.ren, nums_ren, tauW, List.length_cons, List.length_nil, Nat.reduceAdd, Nat.reduceLT, if_true, if_false, List.getD_cons_zero, List.getD_cons_succ, Nat.zero_lt_one, List.drop_succ_cons, List.drop_zero, List.map_cons, List.map_nil, Nat.lt_irrefl, Nat.sub_self, Nat.add_zero, List.cons_append, List.nil_append] at this
    exact this
  | cons b bs =>
    have := opS_callW (P := Try.prog) (O := O) (w0 := w0) (N := N) (dst := dst) (fo := .func 70) (caps := []) (args := #[x, y]) (ats := ats) (ty := ty) (pos := pos) (after := after) (tm := tm) (h := [r0, some ⟨2, 99, [[.ptr 1 0 0, .ref 2 0 (b :: bs).length]]⟩, some ⟨1, 5, nums .u8 (b :: bs)⟩]) (svs := [.ptr 0 0 0, .int .u8 c]) (rowsIn := [⟨2, 99, [[.ptr 0 0 0, .ref 1 0 (b :: bs).length]]⟩, ⟨1, 5, nums .u8 (b :: bs)⟩]) [1, 2] hd (by simp [go_sem, if_true, if_false, reduceIte, Nat.reduceEqDiff, Nat.reduceAdd, Nat.reduceLT, Nat.reduceLeDiff, reduceCtorEq]) (by simp) (by simp [go_sem, if_true, if_false, reduceIte, Nat.reduceEqDiff, Nat.reduceAdd, Nat.reduceLT, Nat.reduceLeDiff, reduceCtorEq, Row.reW, reW, nums, show List.idxOf 2 [1, 2] = 1 from rfl, show List.idxOf 1 [1, 2] = 0 from rfl]) (by simp only [List.map_cons, List.map_nil, hx, hy, List.append_nil]; rfl) (fByte _ (b :: bs) rfl hl c)
    simp only [updR, List.set_cons_zero, List.set_cons_succ, Option.map_some, Option.map_none, Row.ren, renLL, renL, SV.ren, nums_ren, tauW, List.length_cons, List.length_nil, Nat.reduceAdd, Nat.reduceLT, if_true, if_false, List.getD_cons_zero, List.getD_cons_succ, Nat.zero_lt_one, List.drop_succ_cons, List.drop_zero, List.map_cons, List.map_nil, Nat.lt_irrefl, Nat.sub_self, Nat.add_zero, List.cons_append, List.nil_append] at this
    exact this
theorem opS_text {O : Nat → Prop} {w0 : Ctx} {N : Nat} {dst : Option Nat} {x : Operand} {ats : Array TypeId} {ty : TypeId} {pos : String} {after : Array Edge} {tm : TM} {bs : List Int} {r0 : Option Row} (hx : opnd tm x = .ptr 1 0 0) (hl : bs.length ≤ 1000000) (hb : ∀ x ∈ bs, 0 ≤ x ∧ x < 256) (hd : ∀ d, dst = some d → d < N) :
    OpS Try.prog O w0 N ⟨dst, .call ⟨.value (.func 71), #[x], ats⟩, ty, pos, after, none⟩ tm [r0, some ⟨2, 99, [wbV bs]⟩, wbR bs] (tm.put dst (.str (IL.strOf bs))) [r0, some ⟨2, 99, [wbV bs]⟩, none] := by
  cases bs with
  | nil =>
    have := opS_callW (P := Try.prog) (O := O) (w0 := w0) (N := N) (dst := dst) (fo := .func 71) (caps := []) (args := #[x]) (ats := ats) (ty := ty) (pos := pos) (after := after) (tm := tm) (h := [r0, some ⟨2, 99, [[.nilp, .nils]]⟩, none]) (svs := [.ptr 0 0 0]) (rowsIn := [⟨2, 99, [[.nilp, .nils]]⟩]) [1] hd (by simp [go_sem, if_true, if_false, reduceIte, Nat.reduceEqDiff, Nat.reduceAdd, Nat.reduceLT, Nat.reduceLeDiff, reduceCtorEq]) (by simp) (by simp [go_sem, if_true, if_false, reduceIte, Nat.reduceEqDiff, Nat.reduceAdd, Nat.reduceLT, Nat.reduceLeDiff, reduceCtorEq, Row.reW, reW]) (by simp only [List.map_cons, List.map_nil, hx, List.append_nil]; rfl) fString0
    simp only [updR, List.set_cons_zero, List.set_cons_succ, Option.map_some, Row.ren, renLL, renL, SV.ren, nums_ren, tauW, List.length_cons, List.length_nil, Nat.reduceAdd, Nat.reduceLT, if_true, if_false, List.getD_cons_zero, List.getD_cons_succ, Nat.zero_lt_one, List.drop_succ_cons, List.drop_zero, List.map_cons, List.map_nil, Nat.lt_irrefl, Nat.sub_self, Nat.add_zero, List.cons_append, List.nil_append, List.append_nil] at this
    exact this
  | cons b bs =>
    have := opS_callW (P := Try.prog) (O := O) (w0 := w0) (N := N) (dst := dst) (fo := .func 71) (caps := []) (args := #[x]) (ats := ats) (ty := ty) (pos := pos) (after := after) (tm := tm) (h := [r0, some ⟨2, 99, [[.ptr 1 0 0, .ref 2 0 (b :: bs).length]]⟩, some ⟨1, 5, nums .u8 (b :: bs)⟩]) (svs := [.ptr 0 0 0]) (rowsIn := [⟨2, 99, [[.ptr 0 0 0, .ref 1 0 (b :: bs).length]]⟩, ⟨1, 5, nums .u8 (b :: bs)⟩]) [1, 2] hd (by simp [go_sem, if_true, if_false, reduceIte, Nat.reduceEqDiff, Nat.reduceAdd, Nat.reduceLT, Nat.reduceLeDiff, reduceCtorEq]) (by simp) (by simp [go_sem, if_true, if_false, reduceIte, Nat.reduceEqDiff, Nat.reduceAdd, Nat.reduceLT, Nat.reduceLeDiff, reduceCtorEq, Row.reW, reW, nums, show List.idxOf 2 [1, 2] = 1 from rfl, show List.idxOf 1 [1, 2] = 0 from rfl]) (by simp only [List.map_cons, List.map_nil, hx, List.append_nil]; rfl) (fString (b :: bs) hl (by simp) hb)
    simp only [updR, List.set_cons_zero, List.set_cons_succ, Option.map_some, Option.map_none, Row.ren, renLL, renL, SV.ren, nums_ren, tauW, List.length_cons, List.length_nil, Nat.reduceAdd, Nat.reduceLT, if_true, if_false, List.getD_cons_zero, List.getD_cons_succ, Nat.zero_lt_one, List.drop_succ_cons, List.drop_zero, List.map_cons, List.map_nil, Nat.lt_irrefl, Nat.sub_self, Nat.add_zero, List.cons_append, List.nil_append, List.append_nil] at this
    exact this
/-- A line of a drawing in characters, and all lines. -/
def shRow (w : Nat) (p : List Int) (y n : Nat) : List Int := (List.range n).map fun x => if p.getD (y * w + x) 0 = 0 then 46 else 35
def shL (w : Nat) (p : List Int) (n : Nat) : List Int := (List.range n).flatMap fun y => shRow w p y w ++ [10]
def showF (W H : Int) (p : List Int) : ByteArray := if rightS W H p then IL.strOf (shL W.toNat p H.toNat) else ⟨#[]⟩
theorem shL_succ (w : Nat) (p : List Int) (n : Nat) : shL w p (n + 1) = shL w p n ++ shRow w p n w ++ [10] := by
  simp [shL, List.range_succ]
theorem shRow_succ (w : Nat) (p : List Int) (y n : Nat) : shRow w p y (n + 1) = shRow w p y n ++ [if p.getD (y * w + n) 0 = 0 then 46 else 35] := by
  simp [shRow, List.range_succ]
theorem shRow_length (w : Nat) (p : List Int) (y n : Nat) : (shRow w p y n).length = n := by simp [shRow]
theorem shL_length (w : Nat) (p : List Int) : ∀ n, (shL w p n).length = n * (w + 1)
  | 0 => by simp [shL]
  | n + 1 => by rw [shL_succ, List.length_append, List.length_append, shL_length w p n, shRow_length, Nat.succ_mul]; simp; omega
theorem shRow_bytes (w : Nat) (p : List Int) (y n : Nat) : ∀ x ∈ shRow w p y n, 0 ≤ x ∧ x < 256 := by
  intro x hx
  obtain ⟨t, _, rfl⟩ := List.mem_map.1 hx
  split <;> omega
theorem shL_bytes (w : Nat) (p : List Int) (n : Nat) : ∀ x ∈ shL w p n, 0 ≤ x ∧ x < 256 := by
  intro x hx
  obtain ⟨y, _, hx⟩ := List.mem_flatMap.1 hx
  rcases List.mem_append.1 hx with h | h
  · exact shRow_bytes _ _ _ _ x h
  · simp at h; omega
theorem shL_zero (w : Nat) (p : List Int) : shL w p 0 = [] := rfl
theorem wbV_snoc (bs : List Int) (c : Int) : wbV (bs ++ [c]) = [.ptr 1 0 0, .ref 2 0 (bs.length + 1)] := by cases bs <;> simp [wbV]
theorem wbR_snoc (bs : List Int) (c : Int) : wbR (bs ++ [c]) = some ⟨1, 5, nums .u8 (bs ++ [c])⟩ := by cases bs <;> simp [wbR]
theorem fShow (W H : Int) (p : List Int) (hl : p.length ≤ 1000000) (hp : ∀ x ∈ p, 0 ≤ x) : FSpec Try.prog 41 [ink W H p] (.str (showF W H p)) [] := by
  by_cases hr : rightS W H p = true
  case neg =>
    have e1 : showF W H p = ⟨#[]⟩ := by simp [showF, hr]
    rw [e1]
    refine FSpec.intro tab_ok Try.func41 rfl rfl rfl (by kernel_rfl) (by simp) fun w0 => ?_
    simp only [argTM, Nat.zero_add, Nat.reduceAdd]
    simp only [ink]
    repeat refine IW.seq ?_
    refine IW.region_seq tab_ok [some 1, some 2] rfl fun X K hX hK => ?_
    simp only [go_sem, if_true, if_false, reduceIte, Nat.reduceEqDiff, Nat.reduceAdd, Nat.reduceLT, Nat.reduceLeDiff, reduceCtorEq]
    refine hK _ _ ?_; clear hX hK X K
    show IW _ _ _ _ _ _ _ _
    repeat refine IW.seq ?_
    refine IW.region_seq tab_ok [some 7, some 8, some 9] rfl fun X K hX hK => ?_
    simp only [go_sem, if_true, if_false, reduceIte, Nat.reduceEqDiff, Nat.reduceAdd, Nat.reduceLT, Nat.reduceLeDiff, reduceCtorEq]
    refine hX.quiet _ _ (OpG.of_B rfl (opB_call rfl rfl (FSpec.nz (fRight W H p hl) (by simp [go_sem, if_true, if_false, reduceIte, Nat.reduceEqDiff, Nat.reduceAdd, Nat.reduceLT, Nat.reduceLeDiff, reduceCtorEq, List.map_cons, List.map_nil, List.append_nil, opnd, unc])))) ?_
    simp only [go_sem, if_true, if_false, reduceIte, Nat.reduceEqDiff, Nat.reduceAdd, Nat.reduceLT, Nat.reduceLeDiff, reduceCtorEq]
    refine hK _ _ ?_; clear hX hK X K
    show IW _ _ _ _ _ _ _ _
    repeat refine IW.seq ?_
    refine IW.cond rfl (fun hb => ?_) (fun hb => ?_)
    · repeat refine IW.seq ?_
      refine IW.region_seq tab_ok [some 2] rfl fun X K hX hK => ?_
      simp only [go_sem, if_true, if_false, reduceIte, Nat.reduceEqDiff, Nat.reduceAdd, Nat.reduceLT, Nat.reduceLeDiff, reduceCtorEq]
      refine hK _ _ ?_; clear hX hK X K
      show IW _ _ _ _ _ _ _ _
      refine IW.ret (Fin.scal rfl rfl ?_)
      rfl
    · simp [hr] at hb
  case pos =>
    obtain ⟨h1, h2, h3, h4, h5⟩ := right_len hr
    obtain ⟨w, rfl⟩ : ∃ w : Nat, W = w := ⟨W.toNat, by omega⟩
    obtain ⟨h, rfl⟩ : ∃ h : Nat, H = h := ⟨H.toNat, by omega⟩
    have e1 : showF w h p = IL.strOf (shL w p h) := by simp [showF, hr]
    have hwh : p.length = w * h := by have := h1; rw [← Int.natCast_mul] at this; omega
    have hall : ∀ x ∈ p, x = 0 ∨ x = 1 := fun x hx => by
      have := hp x hx
      simp only [rightS, Bool.and_eq_true, List.all_eq_true, decide_eq_true_eq] at hr
      have := hr.2 x hx
      omega
    rw [e1]
    refine FSpec.intro tab_ok Try.func41 rfl rfl rfl (by kernel_rfl) (by simp) fun w0 => ?_
    simp only [argTM, Nat.zero_add, Nat.reduceAdd]
    simp only [ink]
    repeat refine IW.seq ?_
    refine IW.region_seq tab_ok [some 1, some 2] rfl fun X K hX hK => ?_
    simp only [go_sem, if_true, if_false, reduceIte, Nat.reduceEqDiff, Nat.reduceAdd, Nat.reduceLT, Nat.reduceLeDiff, reduceCtorEq]
    refine hK _ _ ?_; clear hX hK X K
    show IW _ _ _ _ _ _ _ _
    repeat refine IW.seq ?_
    refine IW.region_seq tab_ok [some 7, some 8, some 9] rfl fun X K hX hK => ?_
    simp only [go_sem, if_true, if_false, reduceIte, Nat.reduceEqDiff, Nat.reduceAdd, Nat.reduceLT, Nat.reduceLeDiff, reduceCtorEq]
    refine hX.quiet _ _ (OpG.of_B rfl (opB_call rfl rfl (FSpec.nz (fRight w h p hl) (by simp [go_sem, if_true, if_false, reduceIte, Nat.reduceEqDiff, Nat.reduceAdd, Nat.reduceLT, Nat.reduceLeDiff, reduceCtorEq, List.map_cons, List.map_nil, List.append_nil, opnd, unc])))) ?_
    simp only [go_sem, if_true, if_false, reduceIte, Nat.reduceEqDiff, Nat.reduceAdd, Nat.reduceLT, Nat.reduceLeDiff, reduceCtorEq]
    refine hK _ _ ?_; clear hX hK X K
    show IW _ _ _ _ _ _ _ _
    repeat refine IW.seq ?_
    refine IW.cond rfl (fun hb => ?_) (fun hb => ?_)
    · simp [hr] at hb
    · refine IW.skip ?_
      show IW _ _ _ _ _ _ _ _
      repeat refine IW.seq ?_
      refine IW.region_seq tab_ok [some 3] rfl fun X K hX hK => ?_
      simp only [go_sem, if_true, if_false, reduceIte, Nat.reduceEqDiff, Nat.reduceAdd, Nat.reduceLT, Nat.reduceLeDiff, reduceCtorEq]
      refine hK _ _ ?_; clear hX hK X K
      show IW _ _ _ _ _ _ _ _
      repeat refine IW.seq ?_
      refine IW.region_seq tab_ok [some 10, some 11, some 12] rfl fun X K hX hK => ?_
      simp only [go_sem, if_true, if_false, reduceIte, Nat.reduceEqDiff, Nat.reduceAdd, Nat.reduceLT, Nat.reduceLeDiff, reduceCtorEq]
      refine hK _ _ ?_; clear hX hK X K
      show IW _ _ _ _ _ _ _ _
      repeat refine IW.seq ?_
      refine IW.block ?_
      have hwh6 : w * h ≤ 640 * 640 := Nat.mul_le_mul (by omega) (by omega)
      refine IW.loop (α := {y : Nat // y ≤ h}) (fun y => [(1, .ptr 0 0 0), (3, .ptr 1 0 0), (11, .int .i64 h), (12, .int .i64 y.1)]) (fun y => [some ⟨3, 33, [[.int .i64 w, .int .i64 h, .sl true (nums .u8 p)]]⟩, some ⟨2, 99, [wbV (shL w p y.1)]⟩, wbR (shL w p y.1)]) (fun y => h - y.1) ⟨0, Nat.zero_le _⟩ ?_ fun ⟨y, hy⟩ => ?_
      · refine Ent.ren [0, 1, 2] rfl (by decide) ?_ ?_ (fun id ri e => by cases e) <;> simp [go_sem, if_true, if_false, reduceIte, Nat.reduceEqDiff, Nat.reduceAdd, Nat.reduceLT, Nat.reduceLeDiff, reduceCtorEq, subT, subH, sg, SV.ren, Row.ren, shL_zero, wbV, wbR]
      · simp only []
        repeat refine IW.seq ?_
        refine IW.region_seq tab_ok [some 13] rfl fun X K hX hK => ?_
        simp only [go_sem, if_true, if_false, reduceIte, Nat.reduceEqDiff, Nat.reduceAdd, Nat.reduceLT, Nat.reduceLeDiff, reduceCtorEq]
        refine hK _ _ ?_; clear hX hK X K
        show IW _ _ _ _ _ _ _ _
        repeat refine IW.seq ?_
        refine IW.cond rfl (fun hb1 => ?_) (fun hb1 => ?_)
        · simp only [decide_eq_true_eq] at hb1
          have hyh : y < h := by omega
          have hm1 : y * w ≤ h * w := Nat.mul_le_mul_right w hy
          have hm2 : (y + 1) * w ≤ h * w := Nat.mul_le_mul_right w hyh
          have hm0 : (y + 1) * w = y * w + w := Nat.succ_mul y w
          rw [Nat.mul_comm h w] at hm1 hm2
          have e1 : IntKind.i64.wrap ((y : Int) * (w : Int)) = ((y * w : Nat) : Int) := (wrap_eq (by rw [← Int.natCast_mul]; omega) (by rw [← Int.natCast_mul]; omega)).trans (Int.natCast_mul y w).symm
          have e2 : IntKind.i64.wrap ((y : Int) + 1) = ((y + 1 : Nat) : Int) := (wrap_eq (by omega) (by omega)).trans (by omega)
          have e3 : IntKind.i64.wrap (((y + 1 : Nat) : Int) * (w : Int)) = (((y + 1) * w : Nat) : Int) := (wrap_eq (by rw [← Int.natCast_mul]; omega) (by rw [← Int.natCast_mul]; omega)).trans (Int.natCast_mul _ w).symm
          refine IW.skip ?_
          show IW _ _ _ _ _ _ _ _
          refine IW.seq (IW.block ?_)
          repeat refine IW.seq ?_
          refine IW.region_seq tab_ok [some 14, some 4] rfl fun X K hX hK => ?_
          simp only [go_sem, if_true, if_false, reduceIte, Nat.reduceEqDiff, Nat.reduceAdd, Nat.reduceLT, Nat.reduceLeDiff, reduceCtorEq]
          refine hK _ _ ?_; clear hX hK X K
          show IW _ _ _ _ _ _ _ _
          repeat refine IW.seq ?_
          refine IW.region_seq tab_ok [some 15, some 16, some 17, some 18, some 19, some 20, some 21, some 22, some 23, some 24, some 25, some 26, some 27, some 28] rfl fun X K hX hK => ?_
          simp only [go_sem, if_true, if_false, reduceIte, Nat.reduceEqDiff, Nat.reduceAdd, Nat.reduceLT, Nat.reduceLeDiff, reduceCtorEq, e1, e2, e3]
          refine ⟨⟨by omega, by omega, by omega, fun x hx => nums_w _ _ x hx⟩, ?_⟩
          have e4 : (((((y + 1) * w : Nat) : Int) - ((y * w : Nat) : Int)).toNat) = w := by omega
          have e5 : (List.drop (y * w) (nums .u8 p)).take w = nums .u8 ((p.drop (y * w)).take w) := by simp [nums]
          have e6 : ((p.drop (y * w)).take w).length = w := by rw [List.length_take, List.length_drop]; omega
          have e7 : ∀ x, x < w → ((p.drop (y * w)).take w).getD x 0 = p.getD (y * w + x) 0 := fun x hx => by
            rw [List.getD_eq_getElem?_getD, List.getElem?_take_of_lt hx, List.getElem?_drop, List.getD_eq_getElem?_getD]
          have e8 : ∀ x, x < w → p.getD (y * w + x) 0 = 0 ∨ p.getD (y * w + x) 0 = 1 := fun x hx => hall _ (by
            have : y * w + x < p.length := by omega
            simp [this])
          simp only [e4, e5, nums_length, e6]
          generalize (p.drop (y * w)).take w = q at *
          refine hK _ _ ?_; clear hX hK X K
          show IW _ _ _ _ _ _ _ _
          repeat refine IW.seq ?_
          refine IW.block ?_
          refine IW.loop (α := {x : Nat // x ≤ w}) (fun x => [(1, .ptr 0 0 0), (3, .ptr 1 0 0), (11, .int .i64 h), (12, .int .i64 y), (26, .sl true (nums .u8 q)), (27, .int .i64 w), (28, .int .i64 x.1)]) (fun x => [some ⟨3, 33, [[.int .i64 w, .int .i64 h, .sl true (nums .u8 p)]]⟩, some ⟨2, 99, [wbV (shL w p y ++ shRow w p y x.1)]⟩, wbR (shL w p y ++ shRow w p y x.1)]) (fun x => w - x.1) ⟨0, Nat.zero_le _⟩ ?_ fun ⟨x, hx⟩ => ?_
          · have : shL w p y ++ shRow w p y 0 = shL w p y := by simp [shRow]
            simp only [this]
            cases shL w p y with
            | nil =>
              refine Ent.ren [0, 1, 2] rfl (by decide) ?_ ?_ (fun id ri e => by cases e) <;> simp [go_sem, if_true, if_false, reduceIte, Nat.reduceEqDiff, Nat.reduceAdd, Nat.reduceLT, Nat.reduceLeDiff, reduceCtorEq, subT, subH, sg, SV.ren, Row.ren, wbV, wbR]
            | cons b r =>
              refine Ent.ren [0, 1, 2] rfl (by decide) ?_ ?_ (fun id ri e => by cases e) <;> simp [go_sem, if_true, if_false, reduceIte, Nat.reduceEqDiff, Nat.reduceAdd, Nat.reduceLT, Nat.reduceLeDiff, reduceCtorEq, subT, subH, sg, SV.ren, Row.ren, wbV, wbR, nums_ren]
          · simp only []
            repeat refine IW.seq ?_
            refine IW.region_seq tab_ok [some 29] rfl fun X K hX hK => ?_
            simp only [go_sem, if_true, if_false, reduceIte, Nat.reduceEqDiff, Nat.reduceAdd, Nat.reduceLT, Nat.reduceLeDiff, reduceCtorEq]
            refine hK _ _ ?_; clear hX hK X K
            show IW _ _ _ _ _ _ _ _
            repeat refine IW.seq ?_
            refine IW.cond rfl (fun hb2 => ?_) (fun hb2 => ?_)
            · simp only [decide_eq_true_eq] at hb2
              have hxw : x < w := by omega
              refine IW.skip ?_
              show IW _ _ _ _ _ _ _ _
              refine IW.seq (IW.block ?_)
              have hbl : (shL w p y ++ shRow w p y x).length ≤ 1000000 := by
                rw [List.length_append, shL_length, shRow_length]
                have : y * (w + 1) = y * w + y := Nat.mul_succ y w
                omega
              obtain ⟨c, hc⟩ : ∃ c : Int, c = if p.getD (y * w + x) 0 = 0 then 46 else 35 := ⟨_, rfl⟩
              rcases e8 x hxw with hv | hv
              have hcc : c = 46 := by rw [hc, hv]; rfl
              rotate_left
              have hcc : c = 35 := by rw [hc, hv]; rfl
              all_goals
                repeat refine IW.seq ?_
                refine IW.region_seq tab_ok [some 30, some 31, some 6] rfl fun X K hX hK => ?_
                simp only [go_sem, if_true, if_false, reduceIte, Nat.reduceEqDiff, Nat.reduceAdd, Nat.reduceLT, Nat.reduceLeDiff, reduceCtorEq, nums_at (show x < q.length by omega), e7 x hxw, hv]
                refine ⟨⟨by omega, by omega⟩, ?_⟩
                refine hK _ _ ?_; clear hX hK X K
                show IW _ _ _ _ _ _ _ _
                repeat refine IW.seq ?_
                refine IW.region_seq tab_ok [some 32, some 33, some 34, some 35] rfl fun X K hX hK => ?_
                simp only [go_sem, if_true, if_false, reduceIte, Nat.reduceEqDiff, Nat.reduceAdd, Nat.reduceLT, Nat.reduceLeDiff, reduceCtorEq]
                refine hX.quiet _ _ (OpG.of_B rfl (opB_buildArr tab_ok (n := 2) (e := 5) rfl rfl [(0, 1, false), (1, 1, false)] (by intro i hi; match i, hi with | 0, _ => exact ⟨rfl, rfl⟩ | 1, _ => exact ⟨rfl, rfl⟩) (by simp [go_sem, if_true, if_false, reduceIte, Nat.reduceEqDiff, Nat.reduceAdd, Nat.reduceLT, Nat.reduceLeDiff, reduceCtorEq]))) ?_
                simp only [go_sem, if_true, if_false, reduceIte, Nat.reduceEqDiff, Nat.reduceAdd, Nat.reduceLT, Nat.reduceLeDiff, reduceCtorEq]
                refine ⟨by decide, ?_⟩
                try simp only [Nat.zero_mul, Nat.one_mul, List.getD_cons_zero, List.getD_cons_succ]
                refine hX.op _ _ rfl (opS_byte (c := c) (by simp [go_sem, if_true, if_false, reduceIte, Nat.reduceEqDiff, Nat.reduceAdd, Nat.reduceLT, Nat.reduceLeDiff, reduceCtorEq]) (by simp [go_sem, if_true, if_false, reduceIte, Nat.reduceEqDiff, Nat.reduceAdd, Nat.reduceLT, Nat.reduceLeDiff, reduceCtorEq, hcc]) hbl (by intro d e; cases e; decide)) ?_
                simp only [go_sem, if_true, if_false, reduceIte, Nat.reduceEqDiff, Nat.reduceAdd, Nat.reduceLT, Nat.reduceLeDiff, reduceCtorEq]
                refine hK _ _ ?_; clear hX hK X K
                show IW _ _ _ _ _ _ _ _
                repeat refine IW.seq ?_
                refine IW.region_seq tab_ok [some 36, some 28] rfl fun X K hX hK => ?_
                simp only [go_sem, if_true, if_false, reduceIte, Nat.reduceEqDiff, Nat.reduceAdd, Nat.reduceLT, Nat.reduceLeDiff, reduceCtorEq, succ_wrap hxw (Nat.le_trans (Nat.le_of_lt_succ (show w < 641 by omega)) (by decide))]
                refine hK _ _ ⟨⟨x + 1, hxw⟩, by simp only []; omega, ?_⟩
                simp only [shRow_succ, ← hc, ← List.append_assoc, wbV_snoc, wbR_snoc]
                refine Ent.ren [0, 1, 3] rfl (by decide) ?_ ?_ (fun id ri e => by cases e) <;> simp [go_sem, if_true, if_false, reduceIte, Nat.reduceEqDiff, Nat.reduceAdd, Nat.reduceLT, Nat.reduceLeDiff, reduceCtorEq, subT, subH, sg, SV.ren, Row.ren, nums_ren, shL_length, shRow_length]
            · refine IW.exit ?_
              show IW _ _ _ _ _ _ _ _
              simp only [decide_eq_false_iff_not] at hb2
              obtain rfl : x = w := by omega
              have hbl : (shL x p y ++ shRow x p y x).length ≤ 1000000 := by
                rw [List.length_append, shL_length, shRow_length]
                have : y * (x + 1) = y * x + y := Nat.mul_succ y x
                omega
              repeat refine IW.seq ?_
              refine IW.region_seq tab_ok [some 37] rfl fun X K hX hK => ?_
              simp only [go_sem, if_true, if_false, reduceIte, Nat.reduceEqDiff, Nat.reduceAdd, Nat.reduceLT, Nat.reduceLeDiff, reduceCtorEq]
              refine hX.op _ _ rfl (opS_byte (c := 10) (by simp [go_sem, if_true, if_false, reduceIte, Nat.reduceEqDiff, Nat.reduceAdd, Nat.reduceLT, Nat.reduceLeDiff, reduceCtorEq]) (by simp [go_sem, if_true, if_false, reduceIte, Nat.reduceEqDiff, Nat.reduceAdd, Nat.reduceLT, Nat.reduceLeDiff, reduceCtorEq]) hbl (by intro d e; cases e; decide)) ?_
              simp only [go_sem, if_true, if_false, reduceIte, Nat.reduceEqDiff, Nat.reduceAdd, Nat.reduceLT, Nat.reduceLeDiff, reduceCtorEq]
              refine hK _ _ ?_; clear hX hK X K
              show IW _ _ _ _ _ _ _ _
              repeat refine IW.seq ?_
              refine IW.region_seq tab_ok [some 38, some 12] rfl fun X K hX hK => ?_
              simp only [go_sem, if_true, if_false, reduceIte, Nat.reduceEqDiff, Nat.reduceAdd, Nat.reduceLT, Nat.reduceLeDiff, reduceCtorEq, succ_wrap hyh (Nat.le_trans (Nat.le_of_lt_succ (show h < 641 by omega)) (by decide))]
              refine hK _ _ ⟨⟨y + 1, hyh⟩, by simp only []; omega, ?_⟩
              simp only [shL_succ, wbV_snoc, wbR_snoc]
              refine Ent.ren [0, 1, 3] rfl (by decide) ?_ ?_ (fun id ri e => by cases e) <;> simp [go_sem, if_true, if_false, reduceIte, Nat.reduceEqDiff, Nat.reduceAdd, Nat.reduceLT, Nat.reduceLeDiff, reduceCtorEq, subT, subH, sg, SV.ren, Row.ren, nums_ren, shL_length, shRow_length]
        · refine IW.exit ?_
          show IW _ _ _ _ _ _ _ _
          simp only [decide_eq_false_iff_not] at hb1
          obtain rfl : y = h := by omega
          have hbl : (shL w p y).length ≤ 1000000 := by
            rw [shL_length]
            have : y * (w + 1) = y * w + y := Nat.mul_succ y w
            rw [Nat.mul_comm w y] at hwh6
            omega
          repeat refine IW.seq ?_
          refine IW.region_seq tab_ok [some 39, some 2] rfl fun X K hX hK => ?_
          simp only [go_sem, if_true, if_false, reduceIte, Nat.reduceEqDiff, Nat.reduceAdd, Nat.reduceLT, Nat.reduceLeDiff, reduceCtorEq]
          refine hX.op _ _ rfl (opS_text (by simp [go_sem, if_true, if_false, reduceIte, Nat.reduceEqDiff, Nat.reduceAdd, Nat.reduceLT, Nat.reduceLeDiff, reduceCtorEq]) hbl (shL_bytes w p y) (by intro d e; cases e; decide)) ?_
          simp only [go_sem, if_true, if_false, reduceIte, Nat.reduceEqDiff, Nat.reduceAdd, Nat.reduceLT, Nat.reduceLeDiff, reduceCtorEq]
          refine hK _ _ ?_; clear hX hK X K
          show IW _ _ _ _ _ _ _ _
          refine IW.ret (Fin.scal rfl rfl ?_)
          rfl
end Go.Proofs.Ytnbpbehlemaeoaa

set_option linter.unusedVariables false
set_option linter.unusedSimpArgs false
set_option maxRecDepth 10000
namespace Go.Proofs.Ytnbpbehlemaeoaa
open Go.IL
def okB (w h : Nat) (d : List (Int × List ByteArray)) : Bool := d.all fun e => e.2.length == h && (List.range h).all fun i => (e.2.getD i default).size == w
theorem okD_of {w h : Nat} {d : List (Int × List ByteArray)} (hk : okB w h d = true) : okD w h d := fun e he => by
  have h1 := List.all_eq_true.1 hk e he
  simp only [Bool.and_eq_true, beq_iff_eq, List.all_eq_true, List.mem_range] at h1
  exact h1
theorem ok1 : okD 6 5 drw1 := okD_of (by kernel_rfl)
theorem ok2 : okD 4 5 drw2 := okD_of (by kernel_rfl)
theorem ok7 : okD 4 5 drw7 := okD_of (by kernel_rfl)
theorem fGl {s v : Int} {w h : Nat} {d : List (Int × List ByteArray)} (hd : drw s = some d) (hok : okD w h d) (h0 : 0 < h) (hb1 : h ≤ 640) (hb2 : w ≤ 640) (hv : (d.lookup v).isSome = true) :
    FSpec Try.prog 18 [.int .i64 s, .int .i64 v] (.tup [resI w h (gP d v), .int .i64 0]) (resR (gP d v)) := by
  have := fGlyph s v w h d (fDrw hd) hok h0 hb1 hb2
  obtain ⟨r, hr⟩ := Option.isSome_iff_exists.1 hv
  simp only [gW, gE, hr] at this
  exact this
def img21 : List Int := gP drw2 1
def img22 : List Int := gP drw2 2
def img11 : List Int := gP drw1 1
def img76 : List Int := gP drw7 6
def img78 : List Int := gP drw7 8
theorem g21 : FSpec Try.prog 18 [.int .i64 2, .int .i64 1] (.tup [resI 4 5 img21, .int .i64 0]) (resR img21) := fGl (w := 4) (h := 5) rfl ok2 (by decide) (by decide) (by decide) (by kernel_rfl)
theorem g22 : FSpec Try.prog 18 [.int .i64 2, .int .i64 2] (.tup [resI 4 5 img22, .int .i64 0]) (resR img22) := fGl (w := 4) (h := 5) rfl ok2 (by decide) (by decide) (by decide) (by kernel_rfl)
theorem g11 : FSpec Try.prog 18 [.int .i64 1, .int .i64 1] (.tup [resI 6 5 img11, .int .i64 0]) (resR img11) := fGl (w := 6) (h := 5) rfl ok1 (by decide) (by decide) (by decide) (by kernel_rfl)
theorem g76 : FSpec Try.prog 18 [.int .i64 7, .int .i64 6] (.tup [resI 4 5 img76, .int .i64 0]) (resR img76) := fGl (w := 4) (h := 5) rfl ok7 (by decide) (by decide) (by decide) (by kernel_rfl)
theorem g78 : FSpec Try.prog 18 [.int .i64 7, .int .i64 8] (.tup [resI 4 5 img78, .int .i64 0]) (resR img78) := fGl (w := 4) (h := 5) rfl ok7 (by decide) (by decide) (by decide) (by kernel_rfl)
theorem l21 : img21.length = 20 := by kernel_rfl
theorem l22 : img22.length = 20 := by kernel_rfl
theorem l11 : img11.length = 30 := by kernel_rfl
theorem l76 : img76.length = 20 := by kernel_rfl
theorem l78 : img78.length = 20 := by kernel_rfl
def drs21 : List Int := drsF 4 5 img21 [2]
def drs22 : List Int := drsF 4 5 img22 [2]
theorem d21 : FSpec Try.prog 31 [ink 4 5 img21, .sl true (nums .i64 [2])] (resI 4 5 drs21) (resR drs21) := fDress 4 5 img21 [2] (by rw [l21]; decide) (by decide)
theorem d22 : FSpec Try.prog 31 [ink 4 5 img22, .sl true (nums .i64 [2])] (resI 4 5 drs22) (resR drs22) := fDress 4 5 img22 [2] (by rw [l22]; decide) (by decide)
theorem all0 {l : List Int} (h : (l.all fun x => decide (0 ≤ x)) = true) : ∀ x ∈ l, 0 ≤ x := fun x hx => by simpa using List.all_eq_true.1 h x hx
theorem sh21 : showF 4 5 drs21 = ⟨#[46, 35, 46, 35, 10, 35, 35, 35, 35, 10, 35, 35, 35, 35, 10, 35, 35, 35, 35, 10, 46, 35, 46, 35, 10]⟩ := by kernel_rfl
theorem sh22 : showF 4 5 drs22 = ⟨#[35, 46, 46, 46, 10, 35, 46, 46, 46, 10, 35, 46, 35, 46, 10, 35, 46, 35, 46, 10, 35, 35, 46, 46, 10]⟩ := by kernel_rfl
theorem w21 : FSpec Try.prog 41 [ink 4 5 drs21] (.str ⟨#[46, 35, 46, 35, 10, 35, 35, 35, 35, 10, 35, 35, 35, 35, 10, 35, 35, 35, 35, 10, 46, 35, 46, 35, 10]⟩) [] := by
  have := fShow 4 5 drs21 (by rw [show drs21.length = 20 by kernel_rfl]; decide) (all0 (by kernel_rfl))
  rw [sh21] at this; exact this
theorem w22 : FSpec Try.prog 41 [ink 4 5 drs22] (.str ⟨#[35, 46, 46, 46, 10, 35, 46, 46, 46, 10, 35, 46, 35, 46, 10, 35, 46, 35, 46, 10, 35, 35, 46, 46, 10]⟩) [] := by
  have := fShow 4 5 drs22 (by rw [show drs22.length = 20 by kernel_rfl]; decide) (all0 (by kernel_rfl))
  rw [sh22] at this; exact this
instance (p q : Int × Int) : Decidable (lex p q) := by unfold lex; infer_instance
theorem ol11 : optL 6 5 drw1 false [] 6 5 img11 3 = [(0, 26), (1, 0), (2, 12), (3, 6)] := by kernel_rfl
theorem of11 : optF 6 5 drw1 false [] 6 5 img11 = [(1, 0), (3, 6), (2, 12), (0, 26)] := by
  have hr : rightS 6 5 img11 = true := by kernel_rfl
  have h1 : optF 6 5 drw1 false [] 6 5 img11 = optS (optL 6 5 drw1 false [] 6 5 img11 3) := by
    have : rightS ((6 : Nat) : Int) ((5 : Nat) : Int) img11 = true ∧ (6 : Nat) ≠ 0 ∧ (6 : Int) = ((6 : Nat) : Int) ∧ (5 : Int) = ((5 : Nat) : Int) := ⟨hr, by decide, rfl, rfl⟩
    exact if_pos this
  rw [h1, ol11]
  exact (srt_unique (l := [(0, 26), (1, 0), (2, 12), (3, 6)]) ⟨by decide, by decide⟩ (srt_opt (by decide))).symm
theorem o11 : FSpec Try.prog 28 [ink 6 5 img11, .int .i64 1, .sl true (nums .i64 []), .bool false] (.ref 0 0 4) [⟨2, 70, prs [(1, 0), (3, 6), (2, 12), (0, 26)]⟩] := by
  have := fOptions 1 6 5 drw1 (fDrw rfl) ok1 (by decide) (by decide) (by decide) (by decide) (by decide) (by decide) (by decide) false [] 6 5 img11 (by rw [l11]; decide) (by decide)
  rw [of11] at this
  exact this
theorem r7 : ratS (missS 4 5 img76 4 5 img78) img76.length = (9, 10) := by kernel_rfl
theorem s7 : FSpec Try.prog 25 [ink 4 5 img76, ink 4 5 img78] (ratV (9, 10)) [] := by
  have := fShare 4 5 img76 4 5 img78 (by rw [l76]; decide) (by rw [l78]; decide)
  rw [r7] at this
  exact this
theorem rei_two {n : Nat} {h : Heap} {id : Nat} (hr : hrow h id = some ⟨1, 3, [[.int .i64 2]]⟩) : rei (n + 1 + 1) h (.ref id 0 1) = .sl true (nums .i64 [2]) := by
  simp [rei, rowXs, hr, nums]
theorem rei_opt {n : Nat} {h : Heap} {id : Nat} (hr : hrow h id = some ⟨2, 70, prs [(1, 0), (3, 6), (2, 12), (0, 26)]⟩) : rei (n + 1 + 1) h (.ref id 0 4) = .sl true (prs [(1, 0), (3, 6), (2, 12), (0, 26)]) := by
  simp [rei, rowXs, hr, prs]
theorem rei_opt2 {n : Nat} {h : Heap} {id : Nat} (hr : hrow h id = some ⟨2, 70, [[.int .i64 1, .int .i64 0], [.int .i64 3, .int .i64 6], [.int .i64 2, .int .i64 12], [.int .i64 0, .int .i64 26]]⟩) : rei (n + 1 + 1) h (.ref id 0 4) = .sl true (prs [(1, 0), (3, 6), (2, 12), (0, 26)]) := by
  simp [rei, rowXs, hr, prs]
theorem nz_sl (o : Bool) (xs : List (List SV)) : nz (.sl o xs) = .sl o xs := rfl
set_option maxHeartbeats 2000000 in
theorem fAwake : FSpec Try.prog 21 [] (.bool true) [] := by
  refine FSpec.intro tab_ok Try.func21 rfl rfl rfl (by kernel_rfl) (by simp) fun w0 => ?_
  simp only [argTM, Nat.zero_add, Nat.reduceAdd]
  repeat refine IW.seq ?_
  refine IW.region_seq tab_ok [some 0] rfl fun X K hX hK => ?_
  simp only [go_sem, if_true, if_false, reduceIte, Nat.reduceEqDiff, Nat.reduceAdd, Nat.reduceLT, Nat.reduceLeDiff, reduceCtorEq]
  refine hK _ _ ?_; clear hX hK X K
  show IW _ _ _ _ _ _ _ _
  repeat refine IW.seq ?_
  refine IW.region_seq tab_ok [some 13, some 12, some 14, some 15, some 1, none, some 2] rfl fun X K hX hK => ?_
  simp only [go_sem, if_true, if_false, reduceIte, Nat.reduceEqDiff, Nat.reduceAdd, Nat.reduceLT, Nat.reduceLeDiff, reduceCtorEq]
  refine hX.quiet _ _ (OpG.of_B rfl (opB_call rfl rfl (FSpec.nz (g21) (by simp [go_sem, if_true, if_false, reduceIte, Nat.reduceEqDiff, Nat.reduceAdd, Nat.reduceLT, Nat.reduceLeDiff, reduceCtorEq, List.map_cons, List.map_nil, List.append_nil, opnd, unc, resI, resR])))) ?_
  simp only [go_sem, if_true, if_false, reduceIte, Nat.reduceEqDiff, Nat.reduceAdd, Nat.reduceLT, Nat.reduceLeDiff, reduceCtorEq, resI, resR]
  refine hX.op _ _ rfl (opS_store tab_ok rfl (by simp [go_sem, if_true, if_false, reduceIte, Nat.reduceEqDiff, Nat.reduceAdd, Nat.reduceLT, Nat.reduceLeDiff, reduceCtorEq]) (by simp [go_sem, if_true, if_false, reduceIte, Nat.reduceEqDiff, Nat.reduceAdd, Nat.reduceLT, Nat.reduceLeDiff, reduceCtorEq]) (by simp [go_sem, if_true, if_false, reduceIte, Nat.reduceEqDiff, Nat.reduceAdd, Nat.reduceLT, Nat.reduceLeDiff, reduceCtorEq]) (by simp [go_sem, if_true, if_false, reduceIte, Nat.reduceEqDiff, Nat.reduceAdd, Nat.reduceLT, Nat.reduceLeDiff, reduceCtorEq]) (by simp [go_sem, if_true, if_false, reduceIte, Nat.reduceEqDiff, Nat.reduceAdd, Nat.reduceLT, Nat.reduceLeDiff, reduceCtorEq]) (by simp [go_sem, if_true, if_false, reduceIte, Nat.reduceEqDiff, Nat.reduceAdd, Nat.reduceLT, Nat.reduceLeDiff, reduceCtorEq])) ?_
  simp only [go_sem, if_true, if_false, reduceIte, Nat.reduceEqDiff, Nat.reduceAdd, Nat.reduceLT, Nat.reduceLeDiff, reduceCtorEq]
  refine hK _ _ ?_; clear hX hK X K
  show IW _ _ _ _ _ _ _ _
  repeat refine IW.seq ?_
  refine IW.region_seq tab_ok [some 17, some 16, some 18, some 19, some 3, none, some 4] rfl fun X K hX hK => ?_
  simp only [go_sem, if_true, if_false, reduceIte, Nat.reduceEqDiff, Nat.reduceAdd, Nat.reduceLT, Nat.reduceLeDiff, reduceCtorEq]
  refine hX.quiet _ _ (OpG.of_B rfl (opB_call rfl rfl (FSpec.nz (g22) (by simp [go_sem, if_true, if_false, reduceIte, Nat.reduceEqDiff, Nat.reduceAdd, Nat.reduceLT, Nat.reduceLeDiff, reduceCtorEq, List.map_cons, List.map_nil, List.append_nil, opnd, unc, resI, resR])))) ?_
  simp only [go_sem, if_true, if_false, reduceIte, Nat.reduceEqDiff, Nat.reduceAdd, Nat.reduceLT, Nat.reduceLeDiff, reduceCtorEq, resI, resR]
  refine hX.op _ _ rfl (opS_store tab_ok rfl (by simp [go_sem, if_true, if_false, reduceIte, Nat.reduceEqDiff, Nat.reduceAdd, Nat.reduceLT, Nat.reduceLeDiff, reduceCtorEq]) (by simp [go_sem, if_true, if_false, reduceIte, Nat.reduceEqDiff, Nat.reduceAdd, Nat.reduceLT, Nat.reduceLeDiff, reduceCtorEq]) (by simp [go_sem, if_true, if_false, reduceIte, Nat.reduceEqDiff, Nat.reduceAdd, Nat.reduceLT, Nat.reduceLeDiff, reduceCtorEq]) (by simp [go_sem, if_true, if_false, reduceIte, Nat.reduceEqDiff, Nat.reduceAdd, Nat.reduceLT, Nat.reduceLeDiff, reduceCtorEq]) (by simp [go_sem, if_true, if_false, reduceIte, Nat.reduceEqDiff, Nat.reduceAdd, Nat.reduceLT, Nat.reduceLeDiff, reduceCtorEq]) (by simp [go_sem, if_true, if_false, reduceIte, Nat.reduceEqDiff, Nat.reduceAdd, Nat.reduceLT, Nat.reduceLeDiff, reduceCtorEq])) ?_
  simp only [go_sem, if_true, if_false, reduceIte, Nat.reduceEqDiff, Nat.reduceAdd, Nat.reduceLT, Nat.reduceLeDiff, reduceCtorEq]
  refine hK _ _ ?_; clear hX hK X K
  show IW _ _ _ _ _ _ _ _
  repeat refine IW.seq ?_
  refine IW.region_seq tab_ok [some 21, some 20, some 22, some 23, some 5, none, some 6] rfl fun X K hX hK => ?_
  simp only [go_sem, if_true, if_false, reduceIte, Nat.reduceEqDiff, Nat.reduceAdd, Nat.reduceLT, Nat.reduceLeDiff, reduceCtorEq]
  refine hX.quiet _ _ (OpG.of_B rfl (opB_call rfl rfl (FSpec.nz (g11) (by simp [go_sem, if_true, if_false, reduceIte, Nat.reduceEqDiff, Nat.reduceAdd, Nat.reduceLT, Nat.reduceLeDiff, reduceCtorEq, List.map_cons, List.map_nil, List.append_nil, opnd, unc, resI, resR])))) ?_
  simp only [go_sem, if_true, if_false, reduceIte, Nat.reduceEqDiff, Nat.reduceAdd, Nat.reduceLT, Nat.reduceLeDiff, reduceCtorEq, resI, resR]
  refine hX.op _ _ rfl (opS_store tab_ok rfl (by simp [go_sem, if_true, if_false, reduceIte, Nat.reduceEqDiff, Nat.reduceAdd, Nat.reduceLT, Nat.reduceLeDiff, reduceCtorEq]) (by simp [go_sem, if_true, if_false, reduceIte, Nat.reduceEqDiff, Nat.reduceAdd, Nat.reduceLT, Nat.reduceLeDiff, reduceCtorEq]) (by simp [go_sem, if_true, if_false, reduceIte, Nat.reduceEqDiff, Nat.reduceAdd, Nat.reduceLT, Nat.reduceLeDiff, reduceCtorEq]) (by simp [go_sem, if_true, if_false, reduceIte, Nat.reduceEqDiff, Nat.reduceAdd, Nat.reduceLT, Nat.reduceLeDiff, reduceCtorEq]) (by simp [go_sem, if_true, if_false, reduceIte, Nat.reduceEqDiff, Nat.reduceAdd, Nat.reduceLT, Nat.reduceLeDiff, reduceCtorEq]) (by simp [go_sem, if_true, if_false, reduceIte, Nat.reduceEqDiff, Nat.reduceAdd, Nat.reduceLT, Nat.reduceLeDiff, reduceCtorEq])) ?_
  simp only [go_sem, if_true, if_false, reduceIte, Nat.reduceEqDiff, Nat.reduceAdd, Nat.reduceLT, Nat.reduceLeDiff, reduceCtorEq]
  refine hK _ _ ?_; clear hX hK X K
  show IW _ _ _ _ _ _ _ _
  repeat refine IW.seq ?_
  refine IW.region_seq tab_ok [some 25, some 24, some 26, some 27, some 7, none, some 8] rfl fun X K hX hK => ?_
  simp only [go_sem, if_true, if_false, reduceIte, Nat.reduceEqDiff, Nat.reduceAdd, Nat.reduceLT, Nat.reduceLeDiff, reduceCtorEq]
  refine hX.quiet _ _ (OpG.of_B rfl (opB_call rfl rfl (FSpec.nz (g76) (by simp [go_sem, if_true, if_false, reduceIte, Nat.reduceEqDiff, Nat.reduceAdd, Nat.reduceLT, Nat.reduceLeDiff, reduceCtorEq, List.map_cons, List.map_nil, List.append_nil, opnd, unc, resI, resR])))) ?_
  simp only [go_sem, if_true, if_false, reduceIte, Nat.reduceEqDiff, Nat.reduceAdd, Nat.reduceLT, Nat.reduceLeDiff, reduceCtorEq, resI, resR]
  refine hX.op _ _ rfl (opS_store tab_ok rfl (by simp [go_sem, if_true, if_false, reduceIte, Nat.reduceEqDiff, Nat.reduceAdd, Nat.reduceLT, Nat.reduceLeDiff, reduceCtorEq]) (by simp [go_sem, if_true, if_false, reduceIte, Nat.reduceEqDiff, Nat.reduceAdd, Nat.reduceLT, Nat.reduceLeDiff, reduceCtorEq]) (by simp [go_sem, if_true, if_false, reduceIte, Nat.reduceEqDiff, Nat.reduceAdd, Nat.reduceLT, Nat.reduceLeDiff, reduceCtorEq]) (by simp [go_sem, if_true, if_false, reduceIte, Nat.reduceEqDiff, Nat.reduceAdd, Nat.reduceLT, Nat.reduceLeDiff, reduceCtorEq]) (by simp [go_sem, if_true, if_false, reduceIte, Nat.reduceEqDiff, Nat.reduceAdd, Nat.reduceLT, Nat.reduceLeDiff, reduceCtorEq]) (by simp [go_sem, if_true, if_false, reduceIte, Nat.reduceEqDiff, Nat.reduceAdd, Nat.reduceLT, Nat.reduceLeDiff, reduceCtorEq])) ?_
  simp only [go_sem, if_true, if_false, reduceIte, Nat.reduceEqDiff, Nat.reduceAdd, Nat.reduceLT, Nat.reduceLeDiff, reduceCtorEq]
  refine hK _ _ ?_; clear hX hK X K
  show IW _ _ _ _ _ _ _ _
  repeat refine IW.seq ?_
  refine IW.region_seq tab_ok [some 29, some 28, some 30, some 31, some 9, none, some 10] rfl fun X K hX hK => ?_
  simp only [go_sem, if_true, if_false, reduceIte, Nat.reduceEqDiff, Nat.reduceAdd, Nat.reduceLT, Nat.reduceLeDiff, reduceCtorEq]
  refine hX.quiet _ _ (OpG.of_B rfl (opB_call rfl rfl (FSpec.nz (g78) (by simp [go_sem, if_true, if_false, reduceIte, Nat.reduceEqDiff, Nat.reduceAdd, Nat.reduceLT, Nat.reduceLeDiff, reduceCtorEq, List.map_cons, List.map_nil, List.append_nil, opnd, unc, resI, resR])))) ?_
  simp only [go_sem, if_true, if_false, reduceIte, Nat.reduceEqDiff, Nat.reduceAdd, Nat.reduceLT, Nat.reduceLeDiff, reduceCtorEq, resI, resR]
  refine hX.op _ _ rfl (opS_store tab_ok rfl (by simp [go_sem, if_true, if_false, reduceIte, Nat.reduceEqDiff, Nat.reduceAdd, Nat.reduceLT, Nat.reduceLeDiff, reduceCtorEq]) (by simp [go_sem, if_true, if_false, reduceIte, Nat.reduceEqDiff, Nat.reduceAdd, Nat.reduceLT, Nat.reduceLeDiff, reduceCtorEq]) (by simp [go_sem, if_true, if_false, reduceIte, Nat.reduceEqDiff, Nat.reduceAdd, Nat.reduceLT, Nat.reduceLeDiff, reduceCtorEq]) (by simp [go_sem, if_true, if_false, reduceIte, Nat.reduceEqDiff, Nat.reduceAdd, Nat.reduceLT, Nat.reduceLeDiff, reduceCtorEq]) (by simp [go_sem, if_true, if_false, reduceIte, Nat.reduceEqDiff, Nat.reduceAdd, Nat.reduceLT, Nat.reduceLeDiff, reduceCtorEq]) (by simp [go_sem, if_true, if_false, reduceIte, Nat.reduceEqDiff, Nat.reduceAdd, Nat.reduceLT, Nat.reduceLeDiff, reduceCtorEq])) ?_
  simp only [go_sem, if_true, if_false, reduceIte, Nat.reduceEqDiff, Nat.reduceAdd, Nat.reduceLT, Nat.reduceLeDiff, reduceCtorEq]
  refine hK _ _ ?_; clear hX hK X K
  show IW _ _ _ _ _ _ _ _
  repeat refine IW.seq ?_
  refine IW.region_seq tab_ok [some 32, some 33, some 11] rfl fun X K hX hK => ?_
  simp only [go_sem, if_true, if_false, reduceIte, Nat.reduceEqDiff, Nat.reduceAdd, Nat.reduceLT, Nat.reduceLeDiff, reduceCtorEq]
  refine hX.quiet _ _ (OpG.of_B rfl (opB_call rfl rfl (FSpec.nz (o11) (by simp [go_sem, if_true, if_false, reduceIte, Nat.reduceEqDiff, Nat.reduceAdd, Nat.reduceLT, Nat.reduceLeDiff, reduceCtorEq, List.map_cons, List.map_nil, List.append_nil, opnd, unc])))) ?_
  simp only [go_sem, if_true, if_false, reduceIte, Nat.reduceEqDiff, Nat.reduceAdd, Nat.reduceLT, Nat.reduceLeDiff, reduceCtorEq]
  refine hK _ _ ?_; clear hX hK X K
  show IW _ _ _ _ _ _ _ _
  repeat refine IW.seq ?_
  refine IW.region_seq tab_ok [some 34, some 35, some 36, some 37, some 38, some 39, some 40, some 41, some 42, some 43, some 44, some 45, some 46, some 47, some 48, some 49, some 50, some 51, some 52, some 53, some 54, some 55, some 56, some 57, some 58, some 59, some 60, some 61, some 62, some 63, some 64, some 65, some 66, some 67, some 68, some 69, some 70, some 71, some 72, some 73, some 74, some 75, some 76, some 77, some 78, some 79, some 80, some 81, some 0] rfl fun X K hX hK => ?_
  simp only [go_sem, if_true, if_false, reduceIte, Nat.reduceEqDiff, Nat.reduceAdd, Nat.reduceLT, Nat.reduceLeDiff, reduceCtorEq, beq_self_eq_true]
  refine hX.quiet _ _ (OpG.of_BG rfl rfl rfl (by first | (simp only [go_sem, if_true, if_false, reduceIte, Nat.reduceEqDiff, Nat.reduceAdd, Nat.reduceLT, Nat.reduceLeDiff, reduceCtorEq]; done) | (simp [go_sem, if_true, if_false, reduceIte, Nat.reduceEqDiff, Nat.reduceAdd, Nat.reduceLT, Nat.reduceLeDiff, reduceCtorEq] <;> (intros; simp_all))) fun hc => opB_buildSlice tab_ok rfl (by simp [go_sem, if_true, if_false, reduceIte, Nat.reduceEqDiff, Nat.reduceAdd, Nat.reduceLT, Nat.reduceLeDiff, reduceCtorEq]) (by simp [go_sem, if_true, if_false, reduceIte, Nat.reduceEqDiff, Nat.reduceAdd, Nat.reduceLT, Nat.reduceLeDiff, reduceCtorEq]) (by simp) (by simp [go_sem, if_true, if_false, reduceIte, Nat.reduceEqDiff, Nat.reduceAdd, Nat.reduceLT, Nat.reduceLeDiff, reduceCtorEq, bsO, List.map_cons, List.map_nil, unc])) ?_
  simp only [go_sem, if_true, if_false, reduceIte, Nat.reduceEqDiff, Nat.reduceAdd, Nat.reduceLT, Nat.reduceLeDiff, reduceCtorEq, List.map_cons, List.map_nil]
  refine hX.quiet _ _ (OpG.of_BG rfl rfl rfl (by first | (simp only [go_sem, if_true, if_false, reduceIte, Nat.reduceEqDiff, Nat.reduceAdd, Nat.reduceLT, Nat.reduceLeDiff, reduceCtorEq]; done) | (simp [go_sem, if_true, if_false, reduceIte, Nat.reduceEqDiff, Nat.reduceAdd, Nat.reduceLT, Nat.reduceLeDiff, reduceCtorEq] <;> (intros; simp_all))) fun hc => opB_call rfl rfl (FSpec.nz (d21) (by simp [go_sem, if_true, if_false, reduceIte, Nat.reduceEqDiff, Nat.reduceAdd, Nat.reduceLT, Nat.reduceLeDiff, reduceCtorEq, List.map_cons, List.map_nil, List.append_nil, opnd, unc, resI, resR, rei_two, nz_sl]))) ?_
  simp only [go_sem, if_true, if_false, reduceIte, Nat.reduceEqDiff, Nat.reduceAdd, Nat.reduceLT, Nat.reduceLeDiff, reduceCtorEq, resI, resR, rei_two, nz_sl]
  refine hX.quiet _ _ (OpG.of_BG rfl rfl rfl (by first | (simp only [go_sem, if_true, if_false, reduceIte, Nat.reduceEqDiff, Nat.reduceAdd, Nat.reduceLT, Nat.reduceLeDiff, reduceCtorEq]; done) | (simp [go_sem, if_true, if_false, reduceIte, Nat.reduceEqDiff, Nat.reduceAdd, Nat.reduceLT, Nat.reduceLeDiff, reduceCtorEq] <;> (intros; simp_all))) fun hc => opB_call rfl rfl (FSpec.nz (w21) (by simp [go_sem, if_true, if_false, reduceIte, Nat.reduceEqDiff, Nat.reduceAdd, Nat.reduceLT, Nat.reduceLeDiff, reduceCtorEq, List.map_cons, List.map_nil, List.append_nil, opnd, unc, beq_self_eq_true]))) ?_
  simp only [go_sem, if_true, if_false, reduceIte, Nat.reduceEqDiff, Nat.reduceAdd, Nat.reduceLT, Nat.reduceLeDiff, reduceCtorEq, beq_self_eq_true]
  refine hX.quiet _ _ (OpG.of_BG rfl rfl rfl (by first | (simp only [go_sem, if_true, if_false, reduceIte, Nat.reduceEqDiff, Nat.reduceAdd, Nat.reduceLT, Nat.reduceLeDiff, reduceCtorEq]; done) | (simp [go_sem, if_true, if_false, reduceIte, Nat.reduceEqDiff, Nat.reduceAdd, Nat.reduceLT, Nat.reduceLeDiff, reduceCtorEq] <;> (intros; simp_all))) fun hc => opB_buildSlice tab_ok rfl (by simp [go_sem, if_true, if_false, reduceIte, Nat.reduceEqDiff, Nat.reduceAdd, Nat.reduceLT, Nat.reduceLeDiff, reduceCtorEq]) (by simp [go_sem, if_true, if_false, reduceIte, Nat.reduceEqDiff, Nat.reduceAdd, Nat.reduceLT, Nat.reduceLeDiff, reduceCtorEq]) (by simp) (by simp [go_sem, if_true, if_false, reduceIte, Nat.reduceEqDiff, Nat.reduceAdd, Nat.reduceLT, Nat.reduceLeDiff, reduceCtorEq, bsO, List.map_cons, List.map_nil, unc])) ?_
  simp only [go_sem, if_true, if_false, reduceIte, Nat.reduceEqDiff, Nat.reduceAdd, Nat.reduceLT, Nat.reduceLeDiff, reduceCtorEq, List.map_cons, List.map_nil]
  refine hX.quiet _ _ (OpG.of_BG rfl rfl rfl (by first | (simp only [go_sem, if_true, if_false, reduceIte, Nat.reduceEqDiff, Nat.reduceAdd, Nat.reduceLT, Nat.reduceLeDiff, reduceCtorEq]; done) | (simp [go_sem, if_true, if_false, reduceIte, Nat.reduceEqDiff, Nat.reduceAdd, Nat.reduceLT, Nat.reduceLeDiff, reduceCtorEq] <;> (intros; simp_all))) fun hc => opB_call rfl rfl (FSpec.nz (d22) (by simp [go_sem, if_true, if_false, reduceIte, Nat.reduceEqDiff, Nat.reduceAdd, Nat.reduceLT, Nat.reduceLeDiff, reduceCtorEq, List.map_cons, List.map_nil, List.append_nil, opnd, unc, resI, resR, rei_two, nz_sl]))) ?_
  simp only [go_sem, if_true, if_false, reduceIte, Nat.reduceEqDiff, Nat.reduceAdd, Nat.reduceLT, Nat.reduceLeDiff, reduceCtorEq, resI, resR, rei_two, nz_sl]
  refine hX.quiet _ _ (OpG.of_BG rfl rfl rfl (by first | (simp only [go_sem, if_true, if_false, reduceIte, Nat.reduceEqDiff, Nat.reduceAdd, Nat.reduceLT, Nat.reduceLeDiff, reduceCtorEq]; done) | (simp [go_sem, if_true, if_false, reduceIte, Nat.reduceEqDiff, Nat.reduceAdd, Nat.reduceLT, Nat.reduceLeDiff, reduceCtorEq] <;> (intros; simp_all))) fun hc => opB_call rfl rfl (FSpec.nz (w22) (by simp [go_sem, if_true, if_false, reduceIte, Nat.reduceEqDiff, Nat.reduceAdd, Nat.reduceLT, Nat.reduceLeDiff, reduceCtorEq, List.map_cons, List.map_nil, List.append_nil, opnd, unc, beq_self_eq_true]))) ?_
  simp only [go_sem, if_true, if_false, reduceIte, Nat.reduceEqDiff, Nat.reduceAdd, Nat.reduceLT, Nat.reduceLeDiff, reduceCtorEq, beq_self_eq_true]
  refine hX.quiet _ _ (OpG.of_BG rfl rfl rfl (by first | (simp only [go_sem, if_true, if_false, reduceIte, Nat.reduceEqDiff, Nat.reduceAdd, Nat.reduceLT, Nat.reduceLeDiff, reduceCtorEq]; done) | (simp [go_sem, if_true, if_false, reduceIte, Nat.reduceEqDiff, Nat.reduceAdd, Nat.reduceLT, Nat.reduceLeDiff, reduceCtorEq] <;> (intros; simp_all))) fun hc => opB_buildSlice tab_ok rfl (by simp [go_sem, if_true, if_false, reduceIte, Nat.reduceEqDiff, Nat.reduceAdd, Nat.reduceLT, Nat.reduceLeDiff, reduceCtorEq]) (by simp [go_sem, if_true, if_false, reduceIte, Nat.reduceEqDiff, Nat.reduceAdd, Nat.reduceLT, Nat.reduceLeDiff, reduceCtorEq]) (by simp) (by simp [go_sem, if_true, if_false, reduceIte, Nat.reduceEqDiff, Nat.reduceAdd, Nat.reduceLT, Nat.reduceLeDiff, reduceCtorEq, bsO, List.map_cons, List.map_nil, unc])) ?_
  simp only [go_sem, if_true, if_false, reduceIte, Nat.reduceEqDiff, Nat.reduceAdd, Nat.reduceLT, Nat.reduceLeDiff, reduceCtorEq, List.map_cons, List.map_nil]
  refine hX.quiet _ _ (OpG.of_BG rfl rfl rfl (by first | (simp only [go_sem, if_true, if_false, reduceIte, Nat.reduceEqDiff, Nat.reduceAdd, Nat.reduceLT, Nat.reduceLeDiff, reduceCtorEq]; done) | (simp [go_sem, if_true, if_false, reduceIte, Nat.reduceEqDiff, Nat.reduceAdd, Nat.reduceLT, Nat.reduceLeDiff, reduceCtorEq] <;> (intros; simp_all))) fun hc => opB_call rfl rfl (FSpec.nz (kSameOptions [(1, 0), (3, 6), (2, 12), (0, 26)] [(1, 0), (3, 6), (2, 12), (0, 26)] (by decide) (by decide)) (by simp [go_sem, if_true, if_false, reduceIte, Nat.reduceEqDiff, Nat.reduceAdd, Nat.reduceLT, Nat.reduceLeDiff, reduceCtorEq, List.map_cons, List.map_nil, List.append_nil, opnd, unc, rei_opt, rei_opt2, nz_sl, decide_true]))) ?_
  simp only [go_sem, if_true, if_false, reduceIte, Nat.reduceEqDiff, Nat.reduceAdd, Nat.reduceLT, Nat.reduceLeDiff, reduceCtorEq, rei_opt, rei_opt2, nz_sl, decide_true]
  refine hX.quiet _ _ (OpG.of_BG rfl rfl rfl (by first | (simp only [go_sem, if_true, if_false, reduceIte, Nat.reduceEqDiff, Nat.reduceAdd, Nat.reduceLT, Nat.reduceLeDiff, reduceCtorEq]; done) | (simp [go_sem, if_true, if_false, reduceIte, Nat.reduceEqDiff, Nat.reduceAdd, Nat.reduceLT, Nat.reduceLeDiff, reduceCtorEq] <;> (intros; simp_all))) fun hc => opB_call rfl rfl (FSpec.nz (s7) (by simp [go_sem, if_true, if_false, reduceIte, Nat.reduceEqDiff, Nat.reduceAdd, Nat.reduceLT, Nat.reduceLeDiff, reduceCtorEq, List.map_cons, List.map_nil, List.append_nil, opnd, unc]))) ?_
  simp only [go_sem, if_true, if_false, reduceIte, Nat.reduceEqDiff, Nat.reduceAdd, Nat.reduceLT, Nat.reduceLeDiff, reduceCtorEq]
  refine hX.quiet _ _ (OpG.of_BG rfl rfl rfl (by first | (simp only [go_sem, if_true, if_false, reduceIte, Nat.reduceEqDiff, Nat.reduceAdd, Nat.reduceLT, Nat.reduceLeDiff, reduceCtorEq]; done) | (simp [go_sem, if_true, if_false, reduceIte, Nat.reduceEqDiff, Nat.reduceAdd, Nat.reduceLT, Nat.reduceLeDiff, reduceCtorEq] <;> (intros; simp_all))) fun hc => opB_eqAgg eqTy44 rfl rfl rfl rfl rfl) ?_
  simp only [go_sem, if_true, if_false, reduceIte, Nat.reduceEqDiff, Nat.reduceAdd, Nat.reduceLT, Nat.reduceLeDiff, reduceCtorEq]
  simp only [beq_self_eq_true, Bool.and_self]
  refine hK _ _ ?_; clear hX hK X K
  show IW _ _ _ _ _ _ _ _
  refine IW.ret (Fin.scal rfl rfl ?_)
  rfl
end Go.Proofs.Ytnbpbehlemaeoaa

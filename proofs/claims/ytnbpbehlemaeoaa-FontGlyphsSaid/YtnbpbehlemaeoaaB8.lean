/- How what comes in is read. -/
import Derived.Test.YtnbpbehlemaeoaaB7
import Derived.Lib.SmallJoins
import Derived.Below
import Derived.ChangeSlices
import Derived.ProofKit
import Derived.WalkKit
import Derived.OpenShut
import Derived.ShutString
import Derived.ChangeOld
set_option linter.unusedVariables false
set_option linter.unusedSimpArgs false
set_option maxRecDepth 10000
namespace Go.Proofs.Ytnbpbehlemaeoaa
open Go.IL
open Go.ChangeShapes Go.WideShapes Go.ChangeAt Go.RowKit Go.Joins
theorem u33 : ∃ f0 f1 f2 : Field, Try.prog.underlying 33 = some (.struct #[f0, f1, f2]) ∧ Go.Deep.oneCellFields Try.prog #[f0, f1, f2] = true ∧ f0.type = 3 ∧ f1.type = 3 ∧ f2.type = 31 := by
  refine ⟨_, _, _, by rfl, ?_, ?_, ?_, ?_⟩
  · rfl
  · rfl
  · rfl
  · rfl
theorem uint3 : Try.prog.underlying 3 = some (.int .i64) := by kernel_rfl
theorem u5 : Try.prog.underlying 5 = some (.int .u8) := by kernel_rfl
theorem u31 : Try.prog.underlying 31 = some (.slice 5) := by kernel_rfl
theorem u4 : Try.prog.underlying 4 = some .bool := by kernel_rfl
theorem c33 : Try.prog.cellsOf 33 = 3 := by kernel_rfl
theorem cellq_lt {w : World} {a : Addr} {v : Value} (h : w.cell? a = some v) : a.block < w.heap.size := by
  unfold World.cell? at h
  rcases Nat.lt_or_ge a.block w.heap.size with h1 | h1
  · exact h1
  · simp [h1] at h
/-- A slice of numbers that came in. -/
theorem ints_arg {w : World} {k : IntKind} {a : Addr} {len cap : Nat} {zs : List Int} (hl : len ≤ cap) (hm : cap ≤ maxLen) (hz : zs.length = cap) (hcell : ∀ i, i < zs.length → w.cell? (a.add i) = some (.int k (zs.getD i 0))) :
    VRel (fun _ => none) (fun b => b < w.heap.size) (fun _ => False) w (.sl true (nums k (zs.take len))) (.slice (some a) len cap) := by
  have hlen : (nums k (zs.take len)).length = len := by rw [nums_length, List.length_take]; omega
  have hmm : cap ≤ 9223372036854775807 := by unfold maxLen at hm; omega
  have key := VRel.sl (ρ := fun _ => none) (O := fun b => b < w.heap.size) (F := fun _ => False) (w := w) true (nums k (zs.take len)) (some a) cap 1 (fun i j => .int k (zs.getD i 0)) (nums_w k _) (by omega) hmm
  rw [hlen] at key
  refine key (fun hp => ?_) fun i j x y h1 h2 => ?_
  · have h0 := hcell 0 (by omega)
    obtain ⟨b, off, spot⟩ := a
    have hs : spot = none := by simpa [Addr.add] using World.cell?_spot h0
    subst hs
    refine ⟨b, off, rfl, .inr ⟨rfl, by simpa [Addr.add] using cellq_lt h0⟩, fun i j hi hj => ?_⟩
    have h1 := hcell i (by omega)
    obtain rfl : j = 0 := by omega
    rw [addr_add] at h1
    simpa using h1
  · simp only [nums, List.getElem?_map] at h1
    cases hx : (zs.take len)[i]? with
    | none => rw [hx] at h1; cases h1
    | some z =>
      rw [hx] at h1
      cases h1
      have hj : j = 0 := by
        cases j with
        | zero => rfl
        | succ j => simp at h2
      subst hj
      cases h2
      have : zs.getD i 0 = z := by
        rw [List.getElem?_take] at hx
        split at hx
        · rw [List.getD_eq_getElem?_getD, hx]; rfl
        · cases hx
      rw [this]
      exact .int _ _
theorem trodAt {H : Type} {enc : TypeId × Value → H} {P : Program} {w : World} {base : Nat} {spare : Nat → Bool} {held : Bool} {n t t' : Nat} {cs : List Value} {x : DataW H × List MemPlace} (h : DataW.trod enc P w base spare held n t cs = some x) (e : t = t') : DataW.trod enc P w base spare held n t' cs = some x := e ▸ h
theorem bytes_of {n : Int} (h : (Lit.int .u8 n).wf = true) : 0 ≤ n ∧ n < 256 := by
  simp [Lit.wf, IntKind.min, IntKind.max, IntKind.signed, IntKind.bits] at h
  omega
/-- An image that came in. -/
theorem ink_arg {H : Type} {enc : TypeId × Value → H} {w : World} {base : Nat} {v : Value} {d : DataW H} {p : List MemPlace} (hv : Value.okWide Try.prog w .any base 33 v) (h : DataW.Trod enc Try.prog w 0 (fun _ => true) true 33 v d p) :
    ∃ (W H : Int) (q : List Int), VRel (fun _ => none) (fun b => b < w.heap.size) (fun _ => False) w (ink W H q) v ∧ ∀ x ∈ q, 0 ≤ x ∧ x < 256 := by
  obtain ⟨f0, f1, f2, hu, hone, t0, t1, t2⟩ := u33
  obtain ⟨c0, c1, c2, y0, y1, y2, m, rfl, rfl, rfl, hy0, hy1, hy2⟩ := open_agg3 hu hone c33 hv h
  obtain ⟨x, e0, -, wx⟩ := DataW.trod_int uint3 (trodAt hy0 t0)
  obtain ⟨y, e1, -, wy⟩ := DataW.trod_int uint3 (trodAt hy1 t1)
  simp only [List.cons.injEq, and_true] at e0 e1
  subst e0 e1
  have mk : ∀ (q : List Int), VRel (fun _ => none) (fun b => b < w.heap.size) (fun _ => False) w (.sl true (nums .u8 q)) c2 → VRel (fun _ => none) (fun b => b < w.heap.size) (fun _ => False) w (ink x y q) (.agg #[.int .i64 x, .int .i64 y, c2]) := fun q hq =>
    .agg _ _ rfl fun i c v h1 h2 => by
      match i with
      | 0 => cases h1; cases h2; exact .int _ _
      | 1 => cases h1; cases h2; exact .int _ _
      | 2 => cases h1; cases h2; exact hq
      | i + 3 => simp at h1
  rcases open_ints u31 u5 c5 (trodAt hy2 t2) with ⟨hcs, _⟩ | ⟨a, len, cap, zs, hcs, _, hl, hm, hz, _, hcell, hwz⟩
  · simp only [List.cons.injEq, and_true] at hcs
    subst hcs
    exact ⟨x, y, [], mk [] (nz_rel (s := .nils) .nils), by simp⟩
  · simp only [List.cons.injEq, and_true] at hcs
    subst hcs
    exact ⟨x, y, zs.take len, mk _ (ints_arg hl hm (by simpa using hz) hcell), fun z hz => bytes_of (hwz z (List.mem_of_mem_take hz))⟩
end Go.Proofs.Ytnbpbehlemaeoaa

set_option linter.unusedVariables false
set_option linter.unusedSimpArgs false
set_option maxRecDepth 10000
namespace Go.Proofs.Ytnbpbehlemaeoaa
open Go.IL
open Go.ChangeShapes Go.WideShapes Go.ChangeAt Go.RowKit Go.Joins
theorem u23 : Try.prog.underlying 23 = some (.slice 3) := by kernel_rfl
theorem c3 : Try.prog.cellsOf 3 = 1 := by kernel_rfl
theorem c56 : Try.prog.cellsOf 56 = 4 := by kernel_rfl
theorem u56 : ∃ f0 f1 f2 f3 : Field, Try.prog.underlying 56 = some (.struct #[f0, f1, f2, f3]) ∧ Go.Deep.oneCellFields Try.prog #[f0, f1, f2, f3] = true ∧ f0.type = 3 ∧ f1.type = 3 ∧ f2.type = 3 ∧ f3.type = 3 := by
  refine ⟨_, _, _, _, by rfl, ?_, ?_, ?_, ?_, ?_⟩
  · rfl
  · rfl
  · rfl
  · rfl
  · rfl
/-- Numbers that came in. -/
theorem nums_arg {H : Type} {enc : TypeId × Value → H} {w : World} {base : Nat} {v : Value} {d : DataW H} {p : List MemPlace} (hv : Value.okWide Try.prog w .any base 23 v) (h : DataW.Trod enc Try.prog w 0 (fun _ => true) true 23 v d p) :
    ∃ l : List Int, VRel (fun _ => none) (fun b => b < w.heap.size) (fun _ => False) w (.sl true (nums .i64 l)) v ∧ ∀ x ∈ l, I64 x := by
  obtain ⟨a0, len0, cap0, rfl⟩ := okWide_slice u23 hv
  obtain ⟨fuel, hf⟩ := h
  rcases open_ints u23 uint3 c3 hf with ⟨hcs, _⟩ | ⟨a, len, cap, zs, hcs, _, hl, hm, hz, _, hcell, hwz⟩
  · simp [Value.cells] at hcs
    obtain ⟨rfl, rfl, rfl⟩ := hcs
    exact ⟨[], nz_rel (s := .nils) .nils, by simp⟩
  · simp [Value.cells] at hcs
    obtain ⟨rfl, rfl, rfl⟩ := hcs
    refine ⟨zs.take len0, ints_arg hl hm (by simpa using hz) hcell, fun x hx => ?_⟩
    have := hwz x (List.mem_of_mem_take hx)
    simp [Lit.wf, IntKind.min, IntKind.max, IntKind.signed, IntKind.bits] at this
    unfold I64; omega
theorem i64_of {n : Int} (h : (Lit.int .i64 n).wf = true) : I64 n := by
  simp [Lit.wf, IntKind.min, IntKind.max, IntKind.signed, IntKind.bits] at h
  unfold I64; omega
/-- A number that came in. -/
theorem int_arg {H : Type} {enc : TypeId × Value → H} {w : World} {base : Nat} {v : Value} {d : DataW H} {p : List MemPlace} (hv : Value.okWide Try.prog w .any base 3 v) (h : DataW.Trod enc Try.prog w 0 (fun _ => true) true 3 v d p) :
    ∃ n : Int, VRel (fun _ => none) (fun b => b < w.heap.size) (fun _ => False) w (.int .i64 n) v ∧ I64 n := by
  obtain ⟨x, rfl, rfl, rfl, wx⟩ := open_int uint3 hv h
  exact ⟨x, .int _ _, i64_of wx⟩
/-- A truth that came in. -/
theorem bool_arg {H : Type} {enc : TypeId × Value → H} {w : World} {base : Nat} {v : Value} {d : DataW H} {p : List MemPlace} (hv : Value.okWide Try.prog w .any base 4 v) (h : DataW.Trod enc Try.prog w 0 (fun _ => true) true 4 v d p) :
    ∃ t : Bool, VRel (fun _ => none) (fun b => b < w.heap.size) (fun _ => False) w (.bool t) v := by
  obtain ⟨x, rfl, rfl, rfl⟩ := open_bool u4 hv h
  exact ⟨x, .bool _⟩
end Go.Proofs.Ytnbpbehlemaeoaa

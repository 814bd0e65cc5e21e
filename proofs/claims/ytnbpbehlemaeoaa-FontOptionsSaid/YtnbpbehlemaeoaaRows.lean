/-
  No cell of these rows narrows 'for every input' (looked for: loops, veiled, ifaces, maps, wideKeys, modest, calm, conditions, laid).
  DERIVED. THE GIVEN ROWS OF THIS SEAT. 9 by the template 'for every input the law returns true; each argument reads behind the call as it read before'; 0 by the template 'total and deterministic' (their statements: YtnbpbehlemaeoaaTotals.lean).
  GIVEN WITH THE SEED: the statements are not yours to turn. If you find one false, say at which input.
  Laid BY PROGRAM, IN A SANDBOX (cutbox-rows.mjs): the forced cells as the released guide's own fill.sh prints them over the translation 292fee0f570858e6… (all of the seat's roots in one cut). By AI agents, Wed Nov 11 2026. No macro, syntax, notation, axiom, sorry.
-/
import Derived.Test.YtnbpbehlemaeoaaChecked
import GoSem.Claim
import GoSem.ClaimJoined
import GoSem.ClaimMapViews
import Derived.JoinedTies
import Derived.KernelRfl
namespace Go.Proofs.Ytnbpbehlemaeoaa
/- THE CELL 'sum', in the pinned program and in every row, IS THE sha256 OF THE DUMP (.gsa) THAT YtnbpbehlemaeoaaProg.lean LOADS. Nothing in Lean hashes anything: it is a label: what it is worth is what the hold of that sum in a sandbox is worth. -/
noncomputable def Try.pinned : Pinned := { name := "ytnbpbehlemaeoaa", sum := "292fee0f570858e638e470f13ba5f85215465e54e27fd8ddd2dce353fb32f959", checked := Try.checked }
namespace Rows
def none {H : Type} : Left H := { results := [], args := [] }

/-- 'custoslaw04.FontGlyphs': WHATEVER THE INPUT: true; the input reads as it did. -/
def fontGlyphsSpec : ChangeSpec := { name := "fontGlyphs", fn := fun _ => fun
  | [d1, d2] => { results := [.lit (.bool true)], args := [d1, d2] }
  | _ => none }
def fontGlyphsRow : OpenClaim := { program := "ytnbpbehlemaeoaa", sum := "292fee0f570858e638e470f13ba5f85215465e54e27fd8ddd2dce353fb32f959", func := "custos/custoslaw04.FontGlyphs", spec := "fontGlyphs", inPlace := ["internal/abi.NoEscape"], unfollowed := true, recurses := true, apart := false }
def FontGlyphsSaid : Prop := fontGlyphsRow.holds Try.pinned (OpenSpec.ofChange fontGlyphsSpec)

/-- ITS FALSE NEIGHBOUR: 'it returns false'. Refute it at one input. -/
def fontGlyphsWrong : ChangeSpec := { name := "fontGlyphs", fn := fun _ => fun
  | [d1, d2] => { results := [.lit (.bool false)], args := [d1, d2] }
  | _ => none }
def FontGlyphsWrongFalsely : Prop := fontGlyphsRow.holds Try.pinned (OpenSpec.ofChange fontGlyphsWrong)

/-- 'custoslaw04.FontCompares': WHATEVER THE INPUT: true; the input reads as it did. -/
def fontComparesSpec : ChangeSpec := { name := "fontCompares", fn := fun _ => fun
  | [d1, d2] => { results := [.lit (.bool true)], args := [d1, d2] }
  | _ => none }
def fontComparesRow : OpenClaim := { program := "ytnbpbehlemaeoaa", sum := "292fee0f570858e638e470f13ba5f85215465e54e27fd8ddd2dce353fb32f959", func := "custos/custoslaw04.FontCompares", spec := "fontCompares", inPlace := ["internal/abi.NoEscape"], unfollowed := true, recurses := true, apart := false }
def FontComparesSaid : Prop := fontComparesRow.holds Try.pinned (OpenSpec.ofChange fontComparesSpec)

/-- ITS FALSE NEIGHBOUR: 'it returns false'. Refute it at one input. -/
def fontComparesWrong : ChangeSpec := { name := "fontCompares", fn := fun _ => fun
  | [d1, d2] => { results := [.lit (.bool false)], args := [d1, d2] }
  | _ => none }
def FontComparesWrongFalsely : Prop := fontComparesRow.holds Try.pinned (OpenSpec.ofChange fontComparesWrong)

/-- 'custoslaw04.FontOptions': WHATEVER THE INPUT: true; the input reads as it did. -/
def fontOptionsSpec : ChangeSpec := { name := "fontOptions", fn := fun _ => fun
  | [d1, d2, d3, d4] => { results := [.lit (.bool true)], args := [d1, d2, d3, d4] }
  | _ => none }
def fontOptionsRow : OpenClaim := { program := "ytnbpbehlemaeoaa", sum := "292fee0f570858e638e470f13ba5f85215465e54e27fd8ddd2dce353fb32f959", func := "custos/custoslaw04.FontOptions", spec := "fontOptions", inPlace := ["internal/abi.NoEscape"], unfollowed := true, recurses := true, apart := false }
def FontOptionsSaid : Prop := fontOptionsRow.holds Try.pinned (OpenSpec.ofChange fontOptionsSpec)

/-- ITS FALSE NEIGHBOUR: 'it returns false'. Refute it at one input. -/
def fontOptionsWrong : ChangeSpec := { name := "fontOptions", fn := fun _ => fun
  | [d1, d2, d3, d4] => { results := [.lit (.bool false)], args := [d1, d2, d3, d4] }
  | _ => none }
def FontOptionsWrongFalsely : Prop := fontOptionsRow.holds Try.pinned (OpenSpec.ofChange fontOptionsWrong)

/-- 'custoslaw04.FontLeaves': WHATEVER THE INPUT: true; the input reads as it did. -/
def fontLeavesSpec : ChangeSpec := { name := "fontLeaves", fn := fun _ => fun
  | [d1, d2] => { results := [.lit (.bool true)], args := [d1, d2] }
  | _ => none }
def fontLeavesRow : OpenClaim := { program := "ytnbpbehlemaeoaa", sum := "292fee0f570858e638e470f13ba5f85215465e54e27fd8ddd2dce353fb32f959", func := "custos/custoslaw04.FontLeaves", spec := "fontLeaves", inPlace := ["internal/abi.NoEscape"], unfollowed := true, recurses := true, apart := false }
def FontLeavesSaid : Prop := fontLeavesRow.holds Try.pinned (OpenSpec.ofChange fontLeavesSpec)

/-- ITS FALSE NEIGHBOUR: 'it returns false'. Refute it at one input. -/
def fontLeavesWrong : ChangeSpec := { name := "fontLeaves", fn := fun _ => fun
  | [d1, d2] => { results := [.lit (.bool false)], args := [d1, d2] }
  | _ => none }
def FontLeavesWrongFalsely : Prop := fontLeavesRow.holds Try.pinned (OpenSpec.ofChange fontLeavesWrong)

/-- 'custoslaw04.FontDresses': WHATEVER THE INPUT: true; the input reads as it did. -/
def fontDressesSpec : ChangeSpec := { name := "fontDresses", fn := fun _ => fun
  | [d1, d2, d3] => { results := [.lit (.bool true)], args := [d1, d2, d3] }
  | _ => none }
def fontDressesRow : OpenClaim := { program := "ytnbpbehlemaeoaa", sum := "292fee0f570858e638e470f13ba5f85215465e54e27fd8ddd2dce353fb32f959", func := "custos/custoslaw04.FontDresses", spec := "fontDresses", inPlace := ["internal/abi.NoEscape"], unfollowed := true, recurses := true, apart := false }
def FontDressesSaid : Prop := fontDressesRow.holds Try.pinned (OpenSpec.ofChange fontDressesSpec)

/-- ITS FALSE NEIGHBOUR: 'it returns false'. Refute it at one input. -/
def fontDressesWrong : ChangeSpec := { name := "fontDresses", fn := fun _ => fun
  | [d1, d2, d3] => { results := [.lit (.bool false)], args := [d1, d2, d3] }
  | _ => none }
def FontDressesWrongFalsely : Prop := fontDressesRow.holds Try.pinned (OpenSpec.ofChange fontDressesWrong)

/-- 'custoslaw04.FontApart': WHATEVER THE INPUT: true; the input reads as it did. -/
def fontApartSpec : ChangeSpec := { name := "fontApart", fn := fun _ => fun
  | [] => { results := [.lit (.bool true)], args := [] }
  | _ => none }
def fontApartRow : OpenClaim := { program := "ytnbpbehlemaeoaa", sum := "292fee0f570858e638e470f13ba5f85215465e54e27fd8ddd2dce353fb32f959", func := "custos/custoslaw04.FontApart", spec := "fontApart", inPlace := ["internal/abi.NoEscape"], unfollowed := true, recurses := true, apart := false }
def FontApartSaid : Prop := fontApartRow.holds Try.pinned (OpenSpec.ofChange fontApartSpec)

/-- ITS FALSE NEIGHBOUR: 'it returns false'. Refute it at one input. -/
def fontApartWrong : ChangeSpec := { name := "fontApart", fn := fun _ => fun
  | [] => { results := [.lit (.bool false)], args := [] }
  | _ => none }
def FontApartWrongFalsely : Prop := fontApartRow.holds Try.pinned (OpenSpec.ofChange fontApartWrong)

/-- 'custoslaw04.FontFinds': WHATEVER THE INPUT: true; the input reads as it did. -/
def fontFindsSpec : ChangeSpec := { name := "fontFinds", fn := fun _ => fun
  | [d1, d2, d3, d4] => { results := [.lit (.bool true)], args := [d1, d2, d3, d4] }
  | _ => none }
def fontFindsRow : OpenClaim := { program := "ytnbpbehlemaeoaa", sum := "292fee0f570858e638e470f13ba5f85215465e54e27fd8ddd2dce353fb32f959", func := "custos/custoslaw04.FontFinds", spec := "fontFinds", inPlace := ["internal/abi.NoEscape"], unfollowed := true, recurses := true, apart := false }
def FontFindsSaid : Prop := fontFindsRow.holds Try.pinned (OpenSpec.ofChange fontFindsSpec)

/-- ITS FALSE NEIGHBOUR: 'it returns false'. Refute it at one input. -/
def fontFindsWrong : ChangeSpec := { name := "fontFinds", fn := fun _ => fun
  | [d1, d2, d3, d4] => { results := [.lit (.bool false)], args := [d1, d2, d3, d4] }
  | _ => none }
def FontFindsWrongFalsely : Prop := fontFindsRow.holds Try.pinned (OpenSpec.ofChange fontFindsWrong)

/-- 'custoslaw04.FontSmall': WHATEVER THE INPUT: true; the input reads as it did. -/
def fontSmallSpec : ChangeSpec := { name := "fontSmall", fn := fun _ => fun
  | [] => { results := [.lit (.bool true)], args := [] }
  | _ => none }
def fontSmallRow : OpenClaim := { program := "ytnbpbehlemaeoaa", sum := "292fee0f570858e638e470f13ba5f85215465e54e27fd8ddd2dce353fb32f959", func := "custos/custoslaw04.FontSmall", spec := "fontSmall", inPlace := ["internal/abi.NoEscape"], unfollowed := true, recurses := true, apart := false }
def FontSmallSaid : Prop := fontSmallRow.holds Try.pinned (OpenSpec.ofChange fontSmallSpec)

/-- ITS FALSE NEIGHBOUR: 'it returns false'. Refute it at one input. -/
def fontSmallWrong : ChangeSpec := { name := "fontSmall", fn := fun _ => fun
  | [] => { results := [.lit (.bool false)], args := [] }
  | _ => none }
def FontSmallWrongFalsely : Prop := fontSmallRow.holds Try.pinned (OpenSpec.ofChange fontSmallWrong)

/-- 'custoslaw04.FontFound': WHATEVER THE INPUT: true; the input reads as it did. -/
def fontFoundSpec : ChangeSpec := { name := "fontFound", fn := fun _ => fun
  | [d1, d2, d3, d4] => { results := [.lit (.bool true)], args := [d1, d2, d3, d4] }
  | _ => none }
def fontFoundRow : OpenClaim := { program := "ytnbpbehlemaeoaa", sum := "292fee0f570858e638e470f13ba5f85215465e54e27fd8ddd2dce353fb32f959", func := "custos/custoslaw04.FontFound", spec := "fontFound", inPlace := ["internal/abi.NoEscape"], unfollowed := true, recurses := true, apart := false }
def FontFoundSaid : Prop := fontFoundRow.holds Try.pinned (OpenSpec.ofChange fontFoundSpec)

/-- ITS FALSE NEIGHBOUR: 'it returns false'. Refute it at one input. -/
def fontFoundWrong : ChangeSpec := { name := "fontFound", fn := fun _ => fun
  | [d1, d2, d3, d4] => { results := [.lit (.bool false)], args := [d1, d2, d3, d4] }
  | _ => none }
def FontFoundWrongFalsely : Prop := fontFoundRow.holds Try.pinned (OpenSpec.ofChange fontFoundWrong)

/- THE SECOND FORM. 'bulk': how many values and letters a reading holds, each counted each time it is reached (what is shared counts as often as it is met; a slice's spare places count too). A statement '..UptoSaid' is the law's where the arguments, and the package variables that the reading takes, are together of bulk at most 1048576: NARROWER than '..Said'. Prove '..Said' where nothing that the law and all that it calls make is longer than what came in: it says more and counts as full. Else prove '..UptoSaid'. A law counts once. -/
mutual
def uptoBulk {H : Type} : DataW H → Nat
  | .lit (.string bytes) => bytes.length + 1
  | .lit _ => 1
  | .nil => 1
  | .ptr d => uptoBulk d + 1
  | .slice elems spare => uptoBulkAll elems + uptoBulkAll spare + 1
  | .agg parts => uptoBulkAll parts + 1
  | .iface _ d => uptoBulk d + 1
  | .map entries => uptoBulkEntries entries + 1
  | .held _ => 1
def uptoBulkAll {H : Type} : List (DataW H) → Nat
  | [] => 0
  | d :: r => uptoBulk d + uptoBulkAll r
def uptoBulkEntries {H : Type} : List (Lit × DataW H) → Nat
  | [] => 0
  | x :: r => uptoBulkEntry x + uptoBulkEntries r
def uptoBulkEntry {H : Type} : Lit × DataW H → Nat
  | (.string bytes, d) => bytes.length + uptoBulk d + 1
  | (_, d) => uptoBulk d + 1
 end
def uptoSmall : (H : Type) → List (DataW H) → Bool := fun _ ds => decide (uptoBulkAll ds ≤ 1048576)
def OpenSpec.upto (s : _root_.Go.ChangeSpec) : _root_.Go.OpenSpec := { _root_.Go.OpenSpec.ofChange s with cond := some uptoSmall }

/-- 'custoslaw04.FontGlyphs', WHERE WHAT IT READS IS OF BULK AT MOST 1048576: true; the input reads as it did. -/
def fontGlyphsUptoRow : OpenClaim := { program := "ytnbpbehlemaeoaa", sum := "292fee0f570858e638e470f13ba5f85215465e54e27fd8ddd2dce353fb32f959", func := "custos/custoslaw04.FontGlyphs", spec := "fontGlyphs", inPlace := ["internal/abi.NoEscape"], unfollowed := true, recurses := true, apart := false, narrowed := true }
def FontGlyphsUptoSaid : Prop := fontGlyphsUptoRow.holds Try.pinned (OpenSpec.upto fontGlyphsSpec)

/-- 'custoslaw04.FontCompares', WHERE WHAT IT READS IS OF BULK AT MOST 1048576: true; the input reads as it did. -/
def fontComparesUptoRow : OpenClaim := { program := "ytnbpbehlemaeoaa", sum := "292fee0f570858e638e470f13ba5f85215465e54e27fd8ddd2dce353fb32f959", func := "custos/custoslaw04.FontCompares", spec := "fontCompares", inPlace := ["internal/abi.NoEscape"], unfollowed := true, recurses := true, apart := false, narrowed := true }
def FontComparesUptoSaid : Prop := fontComparesUptoRow.holds Try.pinned (OpenSpec.upto fontComparesSpec)

/-- 'custoslaw04.FontOptions', WHERE WHAT IT READS IS OF BULK AT MOST 1048576: true; the input reads as it did. -/
def fontOptionsUptoRow : OpenClaim := { program := "ytnbpbehlemaeoaa", sum := "292fee0f570858e638e470f13ba5f85215465e54e27fd8ddd2dce353fb32f959", func := "custos/custoslaw04.FontOptions", spec := "fontOptions", inPlace := ["internal/abi.NoEscape"], unfollowed := true, recurses := true, apart := false, narrowed := true }
def FontOptionsUptoSaid : Prop := fontOptionsUptoRow.holds Try.pinned (OpenSpec.upto fontOptionsSpec)

/-- 'custoslaw04.FontLeaves', WHERE WHAT IT READS IS OF BULK AT MOST 1048576: true; the input reads as it did. -/
def fontLeavesUptoRow : OpenClaim := { program := "ytnbpbehlemaeoaa", sum := "292fee0f570858e638e470f13ba5f85215465e54e27fd8ddd2dce353fb32f959", func := "custos/custoslaw04.FontLeaves", spec := "fontLeaves", inPlace := ["internal/abi.NoEscape"], unfollowed := true, recurses := true, apart := false, narrowed := true }
def FontLeavesUptoSaid : Prop := fontLeavesUptoRow.holds Try.pinned (OpenSpec.upto fontLeavesSpec)

/-- 'custoslaw04.FontDresses', WHERE WHAT IT READS IS OF BULK AT MOST 1048576: true; the input reads as it did. -/
def fontDressesUptoRow : OpenClaim := { program := "ytnbpbehlemaeoaa", sum := "292fee0f570858e638e470f13ba5f85215465e54e27fd8ddd2dce353fb32f959", func := "custos/custoslaw04.FontDresses", spec := "fontDresses", inPlace := ["internal/abi.NoEscape"], unfollowed := true, recurses := true, apart := false, narrowed := true }
def FontDressesUptoSaid : Prop := fontDressesUptoRow.holds Try.pinned (OpenSpec.upto fontDressesSpec)

/-- 'custoslaw04.FontApart', WHERE WHAT IT READS IS OF BULK AT MOST 1048576: true; the input reads as it did. -/
def fontApartUptoRow : OpenClaim := { program := "ytnbpbehlemaeoaa", sum := "292fee0f570858e638e470f13ba5f85215465e54e27fd8ddd2dce353fb32f959", func := "custos/custoslaw04.FontApart", spec := "fontApart", inPlace := ["internal/abi.NoEscape"], unfollowed := true, recurses := true, apart := false, narrowed := true }
def FontApartUptoSaid : Prop := fontApartUptoRow.holds Try.pinned (OpenSpec.upto fontApartSpec)

/-- 'custoslaw04.FontFinds', WHERE WHAT IT READS IS OF BULK AT MOST 1048576: true; the input reads as it did. -/
def fontFindsUptoRow : OpenClaim := { program := "ytnbpbehlemaeoaa", sum := "292fee0f570858e638e470f13ba5f85215465e54e27fd8ddd2dce353fb32f959", func := "custos/custoslaw04.FontFinds", spec := "fontFinds", inPlace := ["internal/abi.NoEscape"], unfollowed := true, recurses := true, apart := false, narrowed := true }
def FontFindsUptoSaid : Prop := fontFindsUptoRow.holds Try.pinned (OpenSpec.upto fontFindsSpec)

/-- 'custoslaw04.FontSmall', WHERE WHAT IT READS IS OF BULK AT MOST 1048576: true; the input reads as it did. -/
def fontSmallUptoRow : OpenClaim := { program := "ytnbpbehlemaeoaa", sum := "292fee0f570858e638e470f13ba5f85215465e54e27fd8ddd2dce353fb32f959", func := "custos/custoslaw04.FontSmall", spec := "fontSmall", inPlace := ["internal/abi.NoEscape"], unfollowed := true, recurses := true, apart := false, narrowed := true }
def FontSmallUptoSaid : Prop := fontSmallUptoRow.holds Try.pinned (OpenSpec.upto fontSmallSpec)

/-- 'custoslaw04.FontFound', WHERE WHAT IT READS IS OF BULK AT MOST 1048576: true; the input reads as it did. -/
def fontFoundUptoRow : OpenClaim := { program := "ytnbpbehlemaeoaa", sum := "292fee0f570858e638e470f13ba5f85215465e54e27fd8ddd2dce353fb32f959", func := "custos/custoslaw04.FontFound", spec := "fontFound", inPlace := ["internal/abi.NoEscape"], unfollowed := true, recurses := true, apart := false, narrowed := true }
def FontFoundUptoSaid : Prop := fontFoundUptoRow.holds Try.pinned (OpenSpec.upto fontFoundSpec)

end Rows
end Go.Proofs.Ytnbpbehlemaeoaa

/-
  No cell of these rows narrows 'for every input' (looked for: loops, veiled, ifaces, maps, wideKeys, modest, calm, conditions, laid).
  DERIVED. THE GIVEN ROWS OF THIS SEAT. 8 by the template 'for every input the law returns true; each argument reads behind the call as it read before'; 0 by the template 'total and deterministic' (their statements: YtigcbcaknhhgmaaTotals.lean).
  GIVEN WITH THE SEED: the statements are not yours to turn. If you find one false, say at which input.
  Laid BY PROGRAM, IN A SANDBOX (cutbox-rows.mjs): the forced cells as the released guide's own fill.sh prints them over the translation c0b5e8e352823ad7… (all of the seat's roots in one cut). By AI agents, Wed Nov 11 2026. No macro, syntax, notation, axiom, sorry.
-/
import Derived.Test.YtigcbcaknhhgmaaChecked
import GoSem.Claim
import GoSem.ClaimJoined
import GoSem.ClaimMapViews
import Derived.JoinedTies
import Derived.KernelRfl
namespace Go.Proofs.Ytigcbcaknhhgmaa
/- THE CELL 'sum', in the pinned program and in every row, IS THE sha256 OF THE DUMP (.gsa) THAT YtigcbcaknhhgmaaProg.lean LOADS. Nothing in Lean hashes anything: it is a label: what it is worth is what the hold of that sum in a sandbox is worth. -/
noncomputable def Try.pinned : Pinned := { name := "ytigcbcaknhhgmaa", sum := "c0b5e8e352823ad72fb16062967a2f8f7f090c82dd8bdae95432302361c990ec", checked := Try.checked }
namespace Rows
def none {H : Type} : Left H := { results := [], args := [] }

/-- 'laws.FnExactPrimariesFrom': WHATEVER THE INPUT: true; the input reads as it did. -/
def fnExactPrimariesFromSpec : ChangeSpec := { name := "fnExactPrimariesFrom", fn := fun _ => fun
  | [d1, d2, d3, d4] => { results := [.lit (.bool true)], args := [d1, d2, d3, d4] }
  | _ => none }
def fnExactPrimariesFromRow : OpenClaim := { program := "ytigcbcaknhhgmaa", sum := "c0b5e8e352823ad72fb16062967a2f8f7f090c82dd8bdae95432302361c990ec", func := "loop.example/g01320/laws.FnExactPrimariesFrom", spec := "fnExactPrimariesFrom", apart := false }
def FnExactPrimariesFromSaid : Prop := fnExactPrimariesFromRow.holds Try.pinned (OpenSpec.ofChange fnExactPrimariesFromSpec)

/-- ITS FALSE NEIGHBOUR: 'it returns false'. Refute it at one input. -/
def fnExactPrimariesFromWrong : ChangeSpec := { name := "fnExactPrimariesFrom", fn := fun _ => fun
  | [d1, d2, d3, d4] => { results := [.lit (.bool false)], args := [d1, d2, d3, d4] }
  | _ => none }
def FnExactPrimariesFromWrongFalsely : Prop := fnExactPrimariesFromRow.holds Try.pinned (OpenSpec.ofChange fnExactPrimariesFromWrong)

/-- 'laws.FnExactReplaceGrey': WHATEVER THE INPUT: true; the input reads as it did. -/
def fnExactReplaceGreySpec : ChangeSpec := { name := "fnExactReplaceGrey", fn := fun _ => fun
  | [d1, d2] => { results := [.lit (.bool true)], args := [d1, d2] }
  | _ => none }
def fnExactReplaceGreyRow : OpenClaim := { program := "ytigcbcaknhhgmaa", sum := "c0b5e8e352823ad72fb16062967a2f8f7f090c82dd8bdae95432302361c990ec", func := "loop.example/g01320/laws.FnExactReplaceGrey", spec := "fnExactReplaceGrey", apart := false }
def FnExactReplaceGreySaid : Prop := fnExactReplaceGreyRow.holds Try.pinned (OpenSpec.ofChange fnExactReplaceGreySpec)

/-- ITS FALSE NEIGHBOUR: 'it returns false'. Refute it at one input. -/
def fnExactReplaceGreyWrong : ChangeSpec := { name := "fnExactReplaceGrey", fn := fun _ => fun
  | [d1, d2] => { results := [.lit (.bool false)], args := [d1, d2] }
  | _ => none }
def FnExactReplaceGreyWrongFalsely : Prop := fnExactReplaceGreyRow.holds Try.pinned (OpenSpec.ofChange fnExactReplaceGreyWrong)

/-- 'laws.FnExactNearestPrimary': WHATEVER THE INPUT: true; the input reads as it did. -/
def fnExactNearestPrimarySpec : ChangeSpec := { name := "fnExactNearestPrimary", fn := fun _ => fun
  | [d1, d2] => { results := [.lit (.bool true)], args := [d1, d2] }
  | _ => none }
def fnExactNearestPrimaryRow : OpenClaim := { program := "ytigcbcaknhhgmaa", sum := "c0b5e8e352823ad72fb16062967a2f8f7f090c82dd8bdae95432302361c990ec", func := "loop.example/g01320/laws.FnExactNearestPrimary", spec := "fnExactNearestPrimary", apart := false }
def FnExactNearestPrimarySaid : Prop := fnExactNearestPrimaryRow.holds Try.pinned (OpenSpec.ofChange fnExactNearestPrimarySpec)

/-- ITS FALSE NEIGHBOUR: 'it returns false'. Refute it at one input. -/
def fnExactNearestPrimaryWrong : ChangeSpec := { name := "fnExactNearestPrimary", fn := fun _ => fun
  | [d1, d2] => { results := [.lit (.bool false)], args := [d1, d2] }
  | _ => none }
def FnExactNearestPrimaryWrongFalsely : Prop := fnExactNearestPrimaryRow.holds Try.pinned (OpenSpec.ofChange fnExactNearestPrimaryWrong)

/-- 'laws.FnExactColourOf': WHATEVER THE INPUT: true; the input reads as it did. -/
def fnExactColourOfSpec : ChangeSpec := { name := "fnExactColourOf", fn := fun _ => fun
  | [d1, d2] => { results := [.lit (.bool true)], args := [d1, d2] }
  | _ => none }
def fnExactColourOfRow : OpenClaim := { program := "ytigcbcaknhhgmaa", sum := "c0b5e8e352823ad72fb16062967a2f8f7f090c82dd8bdae95432302361c990ec", func := "loop.example/g01320/laws.FnExactColourOf", spec := "fnExactColourOf", apart := false }
def FnExactColourOfSaid : Prop := fnExactColourOfRow.holds Try.pinned (OpenSpec.ofChange fnExactColourOfSpec)

/-- ITS FALSE NEIGHBOUR: 'it returns false'. Refute it at one input. -/
def fnExactColourOfWrong : ChangeSpec := { name := "fnExactColourOf", fn := fun _ => fun
  | [d1, d2] => { results := [.lit (.bool false)], args := [d1, d2] }
  | _ => none }
def FnExactColourOfWrongFalsely : Prop := fnExactColourOfRow.holds Try.pinned (OpenSpec.ofChange fnExactColourOfWrong)

/-- 'laws.FnExactDotsFor': WHATEVER THE INPUT: true; the input reads as it did. -/
def fnExactDotsForSpec : ChangeSpec := { name := "fnExactDotsFor", fn := fun _ => fun
  | [d1, d2] => { results := [.lit (.bool true)], args := [d1, d2] }
  | _ => none }
def fnExactDotsForRow : OpenClaim := { program := "ytigcbcaknhhgmaa", sum := "c0b5e8e352823ad72fb16062967a2f8f7f090c82dd8bdae95432302361c990ec", func := "loop.example/g01320/laws.FnExactDotsFor", spec := "fnExactDotsFor", apart := false }
def FnExactDotsForSaid : Prop := fnExactDotsForRow.holds Try.pinned (OpenSpec.ofChange fnExactDotsForSpec)

/-- ITS FALSE NEIGHBOUR: 'it returns false'. Refute it at one input. -/
def fnExactDotsForWrong : ChangeSpec := { name := "fnExactDotsFor", fn := fun _ => fun
  | [d1, d2] => { results := [.lit (.bool false)], args := [d1, d2] }
  | _ => none }
def FnExactDotsForWrongFalsely : Prop := fnExactDotsForRow.holds Try.pinned (OpenSpec.ofChange fnExactDotsForWrong)

/-- 'laws.FnExactPlatesColour': WHATEVER THE INPUT: true; the input reads as it did. -/
def fnExactPlatesColourSpec : ChangeSpec := { name := "fnExactPlatesColour", fn := fun _ => fun
  | [d1, d2, d3, d4, d5, d6] => { results := [.lit (.bool true)], args := [d1, d2, d3, d4, d5, d6] }
  | _ => none }
def fnExactPlatesColourRow : OpenClaim := { program := "ytigcbcaknhhgmaa", sum := "c0b5e8e352823ad72fb16062967a2f8f7f090c82dd8bdae95432302361c990ec", func := "loop.example/g01320/laws.FnExactPlatesColour", spec := "fnExactPlatesColour", apart := false }
def FnExactPlatesColourSaid : Prop := fnExactPlatesColourRow.holds Try.pinned (OpenSpec.ofChange fnExactPlatesColourSpec)

/-- ITS FALSE NEIGHBOUR: 'it returns false'. Refute it at one input. -/
def fnExactPlatesColourWrong : ChangeSpec := { name := "fnExactPlatesColour", fn := fun _ => fun
  | [d1, d2, d3, d4, d5, d6] => { results := [.lit (.bool false)], args := [d1, d2, d3, d4, d5, d6] }
  | _ => none }
def FnExactPlatesColourWrongFalsely : Prop := fnExactPlatesColourRow.holds Try.pinned (OpenSpec.ofChange fnExactPlatesColourWrong)

/-- 'laws.FnExactMeanColour': WHATEVER THE INPUT: true; the input reads as it did. -/
def fnExactMeanColourSpec : ChangeSpec := { name := "fnExactMeanColour", fn := fun _ => fun
  | [d1, d2, d3, d4] => { results := [.lit (.bool true)], args := [d1, d2, d3, d4] }
  | _ => none }
def fnExactMeanColourRow : OpenClaim := { program := "ytigcbcaknhhgmaa", sum := "c0b5e8e352823ad72fb16062967a2f8f7f090c82dd8bdae95432302361c990ec", func := "loop.example/g01320/laws.FnExactMeanColour", spec := "fnExactMeanColour", apart := false }
def FnExactMeanColourSaid : Prop := fnExactMeanColourRow.holds Try.pinned (OpenSpec.ofChange fnExactMeanColourSpec)

/-- ITS FALSE NEIGHBOUR: 'it returns false'. Refute it at one input. -/
def fnExactMeanColourWrong : ChangeSpec := { name := "fnExactMeanColour", fn := fun _ => fun
  | [d1, d2, d3, d4] => { results := [.lit (.bool false)], args := [d1, d2, d3, d4] }
  | _ => none }
def FnExactMeanColourWrongFalsely : Prop := fnExactMeanColourRow.holds Try.pinned (OpenSpec.ofChange fnExactMeanColourWrong)

/-- 'laws.FnFound': WHATEVER THE INPUT: true; the input reads as it did. -/
def fnFoundSpec : ChangeSpec := { name := "fnFound", fn := fun _ => fun
  | [d1, d2] => { results := [.lit (.bool true)], args := [d1, d2] }
  | _ => none }
def fnFoundRow : OpenClaim := { program := "ytigcbcaknhhgmaa", sum := "c0b5e8e352823ad72fb16062967a2f8f7f090c82dd8bdae95432302361c990ec", func := "loop.example/g01320/laws.FnFound", spec := "fnFound", inPlace := ["math.Float32bits"], apart := false }
def FnFoundSaid : Prop := fnFoundRow.holds Try.pinned (OpenSpec.ofChange fnFoundSpec)

/-- ITS FALSE NEIGHBOUR: 'it returns false'. Refute it at one input. -/
def fnFoundWrong : ChangeSpec := { name := "fnFound", fn := fun _ => fun
  | [d1, d2] => { results := [.lit (.bool false)], args := [d1, d2] }
  | _ => none }
def FnFoundWrongFalsely : Prop := fnFoundRow.holds Try.pinned (OpenSpec.ofChange fnFoundWrong)

/- THE SECOND FORM. 'bulk': how many values and letters a reading holds, each counted each time it is reached (what is shared counts as often as it is met; a slice's spare places count too). A statement '..UptoSaid' is the law's where the arguments, and the package variables that the reading takes, are together of bulk at most 1048576: NARROWER than '..Said'. Prove '..Said' where nothing that the law and all that it calls make is longer than what came in: it says more and counts as full. Else prove '..UptoSaid'. A law counts once. -/
mutual
def uptoBulk {H : Type} : DataW H → Nat
  | .lit (.string bytes) => bytes.length + 1
  | .lit _ => 1
  | .nil => 1
  | .ptr d => uptoBulk d + 1
  | .slice elems spare => uptoBulkAll elems + uptoBulkAll spare + 1
  | .agg parts => uptoBulkAll parts + 1
  | .iface _ d => uptoBulk d + 1
  | .map entries => uptoBulkEntries entries + 1
  | .held _ => 1
def uptoBulkAll {H : Type} : List (DataW H) → Nat
  | [] => 0
  | d :: r => uptoBulk d + uptoBulkAll r
def uptoBulkEntries {H : Type} : List (Lit × DataW H) → Nat
  | [] => 0
  | x :: r => uptoBulkEntry x + uptoBulkEntries r
def uptoBulkEntry {H : Type} : Lit × DataW H → Nat
  | (.string bytes, d) => bytes.length + uptoBulk d + 1
  | (_, d) => uptoBulk d + 1
 end
def uptoSmall : (H : Type) → List (DataW H) → Bool := fun _ ds => decide (uptoBulkAll ds ≤ 1048576)
def OpenSpec.upto (s : _root_.Go.ChangeSpec) : _root_.Go.OpenSpec := { _root_.Go.OpenSpec.ofChange s with cond := some uptoSmall }

/-- 'laws.FnExactPrimariesFrom', WHERE WHAT IT READS IS OF BULK AT MOST 1048576: true; the input reads as it did. -/
def fnExactPrimariesFromUptoRow : OpenClaim := { program := "ytigcbcaknhhgmaa", sum := "c0b5e8e352823ad72fb16062967a2f8f7f090c82dd8bdae95432302361c990ec", func := "loop.example/g01320/laws.FnExactPrimariesFrom", spec := "fnExactPrimariesFrom", apart := false, narrowed := true }
def FnExactPrimariesFromUptoSaid : Prop := fnExactPrimariesFromUptoRow.holds Try.pinned (OpenSpec.upto fnExactPrimariesFromSpec)

/-- 'laws.FnExactReplaceGrey', WHERE WHAT IT READS IS OF BULK AT MOST 1048576: true; the input reads as it did. -/
def fnExactReplaceGreyUptoRow : OpenClaim := { program := "ytigcbcaknhhgmaa", sum := "c0b5e8e352823ad72fb16062967a2f8f7f090c82dd8bdae95432302361c990ec", func := "loop.example/g01320/laws.FnExactReplaceGrey", spec := "fnExactReplaceGrey", apart := false, narrowed := true }
def FnExactReplaceGreyUptoSaid : Prop := fnExactReplaceGreyUptoRow.holds Try.pinned (OpenSpec.upto fnExactReplaceGreySpec)

/-- 'laws.FnExactNearestPrimary', WHERE WHAT IT READS IS OF BULK AT MOST 1048576: true; the input reads as it did. -/
def fnExactNearestPrimaryUptoRow : OpenClaim := { program := "ytigcbcaknhhgmaa", sum := "c0b5e8e352823ad72fb16062967a2f8f7f090c82dd8bdae95432302361c990ec", func := "loop.example/g01320/laws.FnExactNearestPrimary", spec := "fnExactNearestPrimary", apart := false, narrowed := true }
def FnExactNearestPrimaryUptoSaid : Prop := fnExactNearestPrimaryUptoRow.holds Try.pinned (OpenSpec.upto fnExactNearestPrimarySpec)

/-- 'laws.FnExactColourOf', WHERE WHAT IT READS IS OF BULK AT MOST 1048576: true; the input reads as it did. -/
def fnExactColourOfUptoRow : OpenClaim := { program := "ytigcbcaknhhgmaa", sum := "c0b5e8e352823ad72fb16062967a2f8f7f090c82dd8bdae95432302361c990ec", func := "loop.example/g01320/laws.FnExactColourOf", spec := "fnExactColourOf", apart := false, narrowed := true }
def FnExactColourOfUptoSaid : Prop := fnExactColourOfUptoRow.holds Try.pinned (OpenSpec.upto fnExactColourOfSpec)

/-- 'laws.FnExactDotsFor', WHERE WHAT IT READS IS OF BULK AT MOST 1048576: true; the input reads as it did. -/
def fnExactDotsForUptoRow : OpenClaim := { program := "ytigcbcaknhhgmaa", sum := "c0b5e8e352823ad72fb16062967a2f8f7f090c82dd8bdae95432302361c990ec", func := "loop.example/g01320/laws.FnExactDotsFor", spec := "fnExactDotsFor", apart := false, narrowed := true }
def FnExactDotsForUptoSaid : Prop := fnExactDotsForUptoRow.holds Try.pinned (OpenSpec.upto fnExactDotsForSpec)

/-- 'laws.FnExactPlatesColour', WHERE WHAT IT READS IS OF BULK AT MOST 1048576: true; the input reads as it did. -/
def fnExactPlatesColourUptoRow : OpenClaim := { program := "ytigcbcaknhhgmaa", sum := "c0b5e8e352823ad72fb16062967a2f8f7f090c82dd8bdae95432302361c990ec", func := "loop.example/g01320/laws.FnExactPlatesColour", spec := "fnExactPlatesColour", apart := false, narrowed := true }
def FnExactPlatesColourUptoSaid : Prop := fnExactPlatesColourUptoRow.holds Try.pinned (OpenSpec.upto fnExactPlatesColourSpec)

/-- 'laws.FnExactMeanColour', WHERE WHAT IT READS IS OF BULK AT MOST 1048576: true; the input reads as it did. -/
def fnExactMeanColourUptoRow : OpenClaim := { program := "ytigcbcaknhhgmaa", sum := "c0b5e8e352823ad72fb16062967a2f8f7f090c82dd8bdae95432302361c990ec", func := "loop.example/g01320/laws.FnExactMeanColour", spec := "fnExactMeanColour", apart := false, narrowed := true }
def FnExactMeanColourUptoSaid : Prop := fnExactMeanColourUptoRow.holds Try.pinned (OpenSpec.upto fnExactMeanColourSpec)

/-- 'laws.FnFound', WHERE WHAT IT READS IS OF BULK AT MOST 1048576: true; the input reads as it did. -/
def fnFoundUptoRow : OpenClaim := { program := "ytigcbcaknhhgmaa", sum := "c0b5e8e352823ad72fb16062967a2f8f7f090c82dd8bdae95432302361c990ec", func := "loop.example/g01320/laws.FnFound", spec := "fnFound", inPlace := ["math.Float32bits"], apart := false, narrowed := true }
def FnFoundUptoSaid : Prop := fnFoundUptoRow.holds Try.pinned (OpenSpec.upto fnFoundSpec)

end Rows
end Go.Proofs.Ytigcbcaknhhgmaa

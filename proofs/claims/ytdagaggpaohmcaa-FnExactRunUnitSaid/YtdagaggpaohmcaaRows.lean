/-
  No cell of these rows narrows 'for every input' (looked for: loops, veiled, ifaces, maps, wideKeys, modest, calm, conditions, laid).
  DERIVED. THE GIVEN ROWS OF THIS SEAT. 12 by the template 'for every input the law returns true; each argument reads behind the call as it read before'; 0 by the template 'total and deterministic' (their statements: YtdagaggpaohmcaaTotals.lean).
  GIVEN WITH THE SEED: the statements are not yours to turn. If you find one false, say at which input.
  Laid BY PROGRAM, IN A SANDBOX (cutbox-rows.mjs): the forced cells as the released guide's own fill.sh prints them over the translation ca4d15ee6a264798… (all of the seat's roots in one cut). By AI agents, Wed Nov 11 2026. No macro, syntax, notation, axiom, sorry.
-/
import Derived.Test.YtdagaggpaohmcaaChecked
import GoSem.Claim
import GoSem.ClaimJoined
import GoSem.ClaimMapViews
import Derived.JoinedTies
import Derived.KernelRfl
namespace Go.Proofs.Ytdagaggpaohmcaa
/- THE CELL 'sum', in the pinned program and in every row, IS THE sha256 OF THE DUMP (.gsa) THAT YtdagaggpaohmcaaProg.lean LOADS. Nothing in Lean hashes anything: it is a label: what it is worth is what the hold of that sum in a sandbox is worth. -/
noncomputable def Try.pinned : Pinned := { name := "ytdagaggpaohmcaa", sum := "ca4d15ee6a26479883db1c1cb5719e4466bd6363f457ba9f91fa150380f1e206", checked := Try.checked }
namespace Rows
def none {H : Type} : Left H := { results := [], args := [] }

/-- 'laws.FnExactValidSetting': WHATEVER THE INPUT: true; the input reads as it did. -/
def fnExactValidSettingSpec : ChangeSpec := { name := "fnExactValidSetting", fn := fun _ => fun
  | [d] => { results := [.lit (.bool true)], args := [d] }
  | _ => none }
def fnExactValidSettingRow : OpenClaim := { program := "ytdagaggpaohmcaa", sum := "ca4d15ee6a26479883db1c1cb5719e4466bd6363f457ba9f91fa150380f1e206", func := "loop.example/g01320/laws.FnExactValidSetting", spec := "fnExactValidSetting", apart := false }
def FnExactValidSettingSaid : Prop := fnExactValidSettingRow.holds Try.pinned (OpenSpec.ofChange fnExactValidSettingSpec)

/-- ITS FALSE NEIGHBOUR: 'it returns false'. Refute it at one input. -/
def fnExactValidSettingWrong : ChangeSpec := { name := "fnExactValidSetting", fn := fun _ => fun
  | [d] => { results := [.lit (.bool false)], args := [d] }
  | _ => none }
def FnExactValidSettingWrongFalsely : Prop := fnExactValidSettingRow.holds Try.pinned (OpenSpec.ofChange fnExactValidSettingWrong)

/-- 'laws.FnExactSameUnit': WHATEVER THE INPUT: true; the input reads as it did. -/
def fnExactSameUnitSpec : ChangeSpec := { name := "fnExactSameUnit", fn := fun _ => fun
  | [d1, d2] => { results := [.lit (.bool true)], args := [d1, d2] }
  | _ => none }
def fnExactSameUnitRow : OpenClaim := { program := "ytdagaggpaohmcaa", sum := "ca4d15ee6a26479883db1c1cb5719e4466bd6363f457ba9f91fa150380f1e206", func := "loop.example/g01320/laws.FnExactSameUnit", spec := "fnExactSameUnit", inPlace := ["math.Float32bits", "math.Float64bits"], apart := false }
def FnExactSameUnitSaid : Prop := fnExactSameUnitRow.holds Try.pinned (OpenSpec.ofChange fnExactSameUnitSpec)

/-- ITS FALSE NEIGHBOUR: 'it returns false'. Refute it at one input. -/
def fnExactSameUnitWrong : ChangeSpec := { name := "fnExactSameUnit", fn := fun _ => fun
  | [d1, d2] => { results := [.lit (.bool false)], args := [d1, d2] }
  | _ => none }
def FnExactSameUnitWrongFalsely : Prop := fnExactSameUnitRow.holds Try.pinned (OpenSpec.ofChange fnExactSameUnitWrong)

/-- 'laws.FnExactValidUnit': WHATEVER THE INPUT: true; the input reads as it did. -/
def fnExactValidUnitSpec : ChangeSpec := { name := "fnExactValidUnit", fn := fun _ => fun
  | [d] => { results := [.lit (.bool true)], args := [d] }
  | _ => none }
def fnExactValidUnitRow : OpenClaim := { program := "ytdagaggpaohmcaa", sum := "ca4d15ee6a26479883db1c1cb5719e4466bd6363f457ba9f91fa150380f1e206", func := "loop.example/g01320/laws.FnExactValidUnit", spec := "fnExactValidUnit", apart := false }
def FnExactValidUnitSaid : Prop := fnExactValidUnitRow.holds Try.pinned (OpenSpec.ofChange fnExactValidUnitSpec)

/-- ITS FALSE NEIGHBOUR: 'it returns false'. Refute it at one input. -/
def fnExactValidUnitWrong : ChangeSpec := { name := "fnExactValidUnit", fn := fun _ => fun
  | [d] => { results := [.lit (.bool false)], args := [d] }
  | _ => none }
def FnExactValidUnitWrongFalsely : Prop := fnExactValidUnitRow.holds Try.pinned (OpenSpec.ofChange fnExactValidUnitWrong)

/-- 'laws.FnExactNewUnit': WHATEVER THE INPUT: true; the input reads as it did. -/
def fnExactNewUnitSpec : ChangeSpec := { name := "fnExactNewUnit", fn := fun _ => fun
  | [d1, d2, d3] => { results := [.lit (.bool true)], args := [d1, d2, d3] }
  | _ => none }
def fnExactNewUnitRow : OpenClaim := { program := "ytdagaggpaohmcaa", sum := "ca4d15ee6a26479883db1c1cb5719e4466bd6363f457ba9f91fa150380f1e206", func := "loop.example/g01320/laws.FnExactNewUnit", spec := "fnExactNewUnit", apart := false }
def FnExactNewUnitSaid : Prop := fnExactNewUnitRow.holds Try.pinned (OpenSpec.ofChange fnExactNewUnitSpec)

/-- ITS FALSE NEIGHBOUR: 'it returns false'. Refute it at one input. -/
def fnExactNewUnitWrong : ChangeSpec := { name := "fnExactNewUnit", fn := fun _ => fun
  | [d1, d2, d3] => { results := [.lit (.bool false)], args := [d1, d2, d3] }
  | _ => none }
def FnExactNewUnitWrongFalsely : Prop := fnExactNewUnitRow.holds Try.pinned (OpenSpec.ofChange fnExactNewUnitWrong)

/-- 'laws.FnExactWithKey': WHATEVER THE INPUT: true; the input reads as it did. -/
def fnExactWithKeySpec : ChangeSpec := { name := "fnExactWithKey", fn := fun _ => fun
  | [d1, d2, d3] => { results := [.lit (.bool true)], args := [d1, d2, d3] }
  | _ => none }
def fnExactWithKeyRow : OpenClaim := { program := "ytdagaggpaohmcaa", sum := "ca4d15ee6a26479883db1c1cb5719e4466bd6363f457ba9f91fa150380f1e206", func := "loop.example/g01320/laws.FnExactWithKey", spec := "fnExactWithKey", apart := false }
def FnExactWithKeySaid : Prop := fnExactWithKeyRow.holds Try.pinned (OpenSpec.ofChange fnExactWithKeySpec)

/-- ITS FALSE NEIGHBOUR: 'it returns false'. Refute it at one input. -/
def fnExactWithKeyWrong : ChangeSpec := { name := "fnExactWithKey", fn := fun _ => fun
  | [d1, d2, d3] => { results := [.lit (.bool false)], args := [d1, d2, d3] }
  | _ => none }
def FnExactWithKeyWrongFalsely : Prop := fnExactWithKeyRow.holds Try.pinned (OpenSpec.ofChange fnExactWithKeyWrong)

/-- 'laws.FnExactTargetsFor': WHATEVER THE INPUT: true; the input reads as it did. -/
def fnExactTargetsForSpec : ChangeSpec := { name := "fnExactTargetsFor", fn := fun _ => fun
  | [d1, d2, d3] => { results := [.lit (.bool true)], args := [d1, d2, d3] }
  | _ => none }
def fnExactTargetsForRow : OpenClaim := { program := "ytdagaggpaohmcaa", sum := "ca4d15ee6a26479883db1c1cb5719e4466bd6363f457ba9f91fa150380f1e206", func := "loop.example/g01320/laws.FnExactTargetsFor", spec := "fnExactTargetsFor", apart := false }
def FnExactTargetsForSaid : Prop := fnExactTargetsForRow.holds Try.pinned (OpenSpec.ofChange fnExactTargetsForSpec)

/-- ITS FALSE NEIGHBOUR: 'it returns false'. Refute it at one input. -/
def fnExactTargetsForWrong : ChangeSpec := { name := "fnExactTargetsFor", fn := fun _ => fun
  | [d1, d2, d3] => { results := [.lit (.bool false)], args := [d1, d2, d3] }
  | _ => none }
def FnExactTargetsForWrongFalsely : Prop := fnExactTargetsForRow.holds Try.pinned (OpenSpec.ofChange fnExactTargetsForWrong)

/-- 'laws.FnExactKeysFor': WHATEVER THE INPUT: true; the input reads as it did. -/
def fnExactKeysForSpec : ChangeSpec := { name := "fnExactKeysFor", fn := fun _ => fun
  | [d1, d2, d3] => { results := [.lit (.bool true)], args := [d1, d2, d3] }
  | _ => none }
def fnExactKeysForRow : OpenClaim := { program := "ytdagaggpaohmcaa", sum := "ca4d15ee6a26479883db1c1cb5719e4466bd6363f457ba9f91fa150380f1e206", func := "loop.example/g01320/laws.FnExactKeysFor", spec := "fnExactKeysFor", apart := false }
def FnExactKeysForSaid : Prop := fnExactKeysForRow.holds Try.pinned (OpenSpec.ofChange fnExactKeysForSpec)

/-- ITS FALSE NEIGHBOUR: 'it returns false'. Refute it at one input. -/
def fnExactKeysForWrong : ChangeSpec := { name := "fnExactKeysFor", fn := fun _ => fun
  | [d1, d2, d3] => { results := [.lit (.bool false)], args := [d1, d2, d3] }
  | _ => none }
def FnExactKeysForWrongFalsely : Prop := fnExactKeysForRow.holds Try.pinned (OpenSpec.ofChange fnExactKeysForWrong)

/-- 'laws.FnExactOffBy': WHATEVER THE INPUT: true; the input reads as it did. -/
def fnExactOffBySpec : ChangeSpec := { name := "fnExactOffBy", fn := fun _ => fun
  | [d1, d2, d3] => { results := [.lit (.bool true)], args := [d1, d2, d3] }
  | _ => none }
def fnExactOffByRow : OpenClaim := { program := "ytdagaggpaohmcaa", sum := "ca4d15ee6a26479883db1c1cb5719e4466bd6363f457ba9f91fa150380f1e206", func := "loop.example/g01320/laws.FnExactOffBy", spec := "fnExactOffBy", inPlace := ["math.Float64bits", "math.Float64frombits"], apart := false }
def FnExactOffBySaid : Prop := fnExactOffByRow.holds Try.pinned (OpenSpec.ofChange fnExactOffBySpec)

/-- ITS FALSE NEIGHBOUR: 'it returns false'. Refute it at one input. -/
def fnExactOffByWrong : ChangeSpec := { name := "fnExactOffBy", fn := fun _ => fun
  | [d1, d2, d3] => { results := [.lit (.bool false)], args := [d1, d2, d3] }
  | _ => none }
def FnExactOffByWrongFalsely : Prop := fnExactOffByRow.holds Try.pinned (OpenSpec.ofChange fnExactOffByWrong)

/-- 'laws.FnExactSheetOf': WHATEVER THE INPUT: true; the input reads as it did. -/
def fnExactSheetOfSpec : ChangeSpec := { name := "fnExactSheetOf", fn := fun _ => fun
  | [d1, d2] => { results := [.lit (.bool true)], args := [d1, d2] }
  | _ => none }
def fnExactSheetOfRow : OpenClaim := { program := "ytdagaggpaohmcaa", sum := "ca4d15ee6a26479883db1c1cb5719e4466bd6363f457ba9f91fa150380f1e206", func := "loop.example/g01320/laws.FnExactSheetOf", spec := "fnExactSheetOf", apart := false }
def FnExactSheetOfSaid : Prop := fnExactSheetOfRow.holds Try.pinned (OpenSpec.ofChange fnExactSheetOfSpec)

/-- ITS FALSE NEIGHBOUR: 'it returns false'. Refute it at one input. -/
def fnExactSheetOfWrong : ChangeSpec := { name := "fnExactSheetOf", fn := fun _ => fun
  | [d1, d2] => { results := [.lit (.bool false)], args := [d1, d2] }
  | _ => none }
def FnExactSheetOfWrongFalsely : Prop := fnExactSheetOfRow.holds Try.pinned (OpenSpec.ofChange fnExactSheetOfWrong)

/-- 'laws.FnExactTurnKeys': WHATEVER THE INPUT: true; the input reads as it did. -/
def fnExactTurnKeysSpec : ChangeSpec := { name := "fnExactTurnKeys", fn := fun _ => fun
  | [d1, d2, d3] => { results := [.lit (.bool true)], args := [d1, d2, d3] }
  | _ => none }
def fnExactTurnKeysRow : OpenClaim := { program := "ytdagaggpaohmcaa", sum := "ca4d15ee6a26479883db1c1cb5719e4466bd6363f457ba9f91fa150380f1e206", func := "loop.example/g01320/laws.FnExactTurnKeys", spec := "fnExactTurnKeys", inPlace := ["math.Float64bits", "math.Float64frombits"], apart := false }
def FnExactTurnKeysSaid : Prop := fnExactTurnKeysRow.holds Try.pinned (OpenSpec.ofChange fnExactTurnKeysSpec)

/-- ITS FALSE NEIGHBOUR: 'it returns false'. Refute it at one input. -/
def fnExactTurnKeysWrong : ChangeSpec := { name := "fnExactTurnKeys", fn := fun _ => fun
  | [d1, d2, d3] => { results := [.lit (.bool false)], args := [d1, d2, d3] }
  | _ => none }
def FnExactTurnKeysWrongFalsely : Prop := fnExactTurnKeysRow.holds Try.pinned (OpenSpec.ofChange fnExactTurnKeysWrong)

/-- 'laws.FnExactRunUnit': WHATEVER THE INPUT: true; the input reads as it did. -/
def fnExactRunUnitSpec : ChangeSpec := { name := "fnExactRunUnit", fn := fun _ => fun
  | [d1, d2, d3] => { results := [.lit (.bool true)], args := [d1, d2, d3] }
  | _ => none }
def fnExactRunUnitRow : OpenClaim := { program := "ytdagaggpaohmcaa", sum := "ca4d15ee6a26479883db1c1cb5719e4466bd6363f457ba9f91fa150380f1e206", func := "loop.example/g01320/laws.FnExactRunUnit", spec := "fnExactRunUnit", apart := false }
def FnExactRunUnitSaid : Prop := fnExactRunUnitRow.holds Try.pinned (OpenSpec.ofChange fnExactRunUnitSpec)

/-- ITS FALSE NEIGHBOUR: 'it returns false'. Refute it at one input. -/
def fnExactRunUnitWrong : ChangeSpec := { name := "fnExactRunUnit", fn := fun _ => fun
  | [d1, d2, d3] => { results := [.lit (.bool false)], args := [d1, d2, d3] }
  | _ => none }
def FnExactRunUnitWrongFalsely : Prop := fnExactRunUnitRow.holds Try.pinned (OpenSpec.ofChange fnExactRunUnitWrong)

/-- 'laws.FnExactMakeReady': WHATEVER THE INPUT: true; the input reads as it did. -/
def fnExactMakeReadySpec : ChangeSpec := { name := "fnExactMakeReady", fn := fun _ => fun
  | [d1, d2] => { results := [.lit (.bool true)], args := [d1, d2] }
  | _ => none }
def fnExactMakeReadyRow : OpenClaim := { program := "ytdagaggpaohmcaa", sum := "ca4d15ee6a26479883db1c1cb5719e4466bd6363f457ba9f91fa150380f1e206", func := "loop.example/g01320/laws.FnExactMakeReady", spec := "fnExactMakeReady", inPlace := ["math.Float64bits", "math.Float64frombits"], apart := false }
def FnExactMakeReadySaid : Prop := fnExactMakeReadyRow.holds Try.pinned (OpenSpec.ofChange fnExactMakeReadySpec)

/-- ITS FALSE NEIGHBOUR: 'it returns false'. Refute it at one input. -/
def fnExactMakeReadyWrong : ChangeSpec := { name := "fnExactMakeReady", fn := fun _ => fun
  | [d1, d2] => { results := [.lit (.bool false)], args := [d1, d2] }
  | _ => none }
def FnExactMakeReadyWrongFalsely : Prop := fnExactMakeReadyRow.holds Try.pinned (OpenSpec.ofChange fnExactMakeReadyWrong)

/- THE SECOND FORM. 'bulk': how many values and letters a reading holds, each counted each time it is reached (what is shared counts as often as it is met; a slice's spare places count too). A statement '..UptoSaid' is the law's where the arguments, and the package variables that the reading takes, are together of bulk at most 1048576: NARROWER than '..Said'. Prove '..Said' where nothing that the law and all that it calls make is longer than what came in: it says more and counts as full. Else prove '..UptoSaid'. A law counts once. -/
mutual
def uptoBulk {H : Type} : DataW H → Nat
  | .lit (.string bytes) => bytes.length + 1
  | .lit _ => 1
  | .nil => 1
  | .ptr d => uptoBulk d + 1
  | .slice elems spare => uptoBulkAll elems + uptoBulkAll spare + 1
  | .agg parts => uptoBulkAll parts + 1
  | .iface _ d => uptoBulk d + 1
  | .map entries => uptoBulkEntries entries + 1
  | .held _ => 1
def uptoBulkAll {H : Type} : List (DataW H) → Nat
  | [] => 0
  | d :: r => uptoBulk d + uptoBulkAll r
def uptoBulkEntries {H : Type} : List (Lit × DataW H) → Nat
  | [] => 0
  | x :: r => uptoBulkEntry x + uptoBulkEntries r
def uptoBulkEntry {H : Type} : Lit × DataW H → Nat
  | (.string bytes, d) => bytes.length + uptoBulk d + 1
  | (_, d) => uptoBulk d + 1
 end
def uptoSmall : (H : Type) → List (DataW H) → Bool := fun _ ds => decide (uptoBulkAll ds ≤ 1048576)
def OpenSpec.upto (s : _root_.Go.ChangeSpec) : _root_.Go.OpenSpec := { _root_.Go.OpenSpec.ofChange s with cond := some uptoSmall }

/-- 'laws.FnExactValidSetting', WHERE WHAT IT READS IS OF BULK AT MOST 1048576: true; the input reads as it did. -/
def fnExactValidSettingUptoRow : OpenClaim := { program := "ytdagaggpaohmcaa", sum := "ca4d15ee6a26479883db1c1cb5719e4466bd6363f457ba9f91fa150380f1e206", func := "loop.example/g01320/laws.FnExactValidSetting", spec := "fnExactValidSetting", apart := false, narrowed := true }
def FnExactValidSettingUptoSaid : Prop := fnExactValidSettingUptoRow.holds Try.pinned (OpenSpec.upto fnExactValidSettingSpec)

/-- 'laws.FnExactSameUnit', WHERE WHAT IT READS IS OF BULK AT MOST 1048576: true; the input reads as it did. -/
def fnExactSameUnitUptoRow : OpenClaim := { program := "ytdagaggpaohmcaa", sum := "ca4d15ee6a26479883db1c1cb5719e4466bd6363f457ba9f91fa150380f1e206", func := "loop.example/g01320/laws.FnExactSameUnit", spec := "fnExactSameUnit", inPlace := ["math.Float32bits", "math.Float64bits"], apart := false, narrowed := true }
def FnExactSameUnitUptoSaid : Prop := fnExactSameUnitUptoRow.holds Try.pinned (OpenSpec.upto fnExactSameUnitSpec)

/-- 'laws.FnExactValidUnit', WHERE WHAT IT READS IS OF BULK AT MOST 1048576: true; the input reads as it did. -/
def fnExactValidUnitUptoRow : OpenClaim := { program := "ytdagaggpaohmcaa", sum := "ca4d15ee6a26479883db1c1cb5719e4466bd6363f457ba9f91fa150380f1e206", func := "loop.example/g01320/laws.FnExactValidUnit", spec := "fnExactValidUnit", apart := false, narrowed := true }
def FnExactValidUnitUptoSaid : Prop := fnExactValidUnitUptoRow.holds Try.pinned (OpenSpec.upto fnExactValidUnitSpec)

/-- 'laws.FnExactNewUnit', WHERE WHAT IT READS IS OF BULK AT MOST 1048576: true; the input reads as it did. -/
def fnExactNewUnitUptoRow : OpenClaim := { program := "ytdagaggpaohmcaa", sum := "ca4d15ee6a26479883db1c1cb5719e4466bd6363f457ba9f91fa150380f1e206", func := "loop.example/g01320/laws.FnExactNewUnit", spec := "fnExactNewUnit", apart := false, narrowed := true }
def FnExactNewUnitUptoSaid : Prop := fnExactNewUnitUptoRow.holds Try.pinned (OpenSpec.upto fnExactNewUnitSpec)

/-- 'laws.FnExactWithKey', WHERE WHAT IT READS IS OF BULK AT MOST 1048576: true; the input reads as it did. -/
def fnExactWithKeyUptoRow : OpenClaim := { program := "ytdagaggpaohmcaa", sum := "ca4d15ee6a26479883db1c1cb5719e4466bd6363f457ba9f91fa150380f1e206", func := "loop.example/g01320/laws.FnExactWithKey", spec := "fnExactWithKey", apart := false, narrowed := true }
def FnExactWithKeyUptoSaid : Prop := fnExactWithKeyUptoRow.holds Try.pinned (OpenSpec.upto fnExactWithKeySpec)

/-- 'laws.FnExactTargetsFor', WHERE WHAT IT READS IS OF BULK AT MOST 1048576: true; the input reads as it did. -/
def fnExactTargetsForUptoRow : OpenClaim := { program := "ytdagaggpaohmcaa", sum := "ca4d15ee6a26479883db1c1cb5719e4466bd6363f457ba9f91fa150380f1e206", func := "loop.example/g01320/laws.FnExactTargetsFor", spec := "fnExactTargetsFor", apart := false, narrowed := true }
def FnExactTargetsForUptoSaid : Prop := fnExactTargetsForUptoRow.holds Try.pinned (OpenSpec.upto fnExactTargetsForSpec)

/-- 'laws.FnExactKeysFor', WHERE WHAT IT READS IS OF BULK AT MOST 1048576: true; the input reads as it did. -/
def fnExactKeysForUptoRow : OpenClaim := { program := "ytdagaggpaohmcaa", sum := "ca4d15ee6a26479883db1c1cb5719e4466bd6363f457ba9f91fa150380f1e206", func := "loop.example/g01320/laws.FnExactKeysFor", spec := "fnExactKeysFor", apart := false, narrowed := true }
def FnExactKeysForUptoSaid : Prop := fnExactKeysForUptoRow.holds Try.pinned (OpenSpec.upto fnExactKeysForSpec)

/-- 'laws.FnExactOffBy', WHERE WHAT IT READS IS OF BULK AT MOST 1048576: true; the input reads as it did. -/
def fnExactOffByUptoRow : OpenClaim := { program := "ytdagaggpaohmcaa", sum := "ca4d15ee6a26479883db1c1cb5719e4466bd6363f457ba9f91fa150380f1e206", func := "loop.example/g01320/laws.FnExactOffBy", spec := "fnExactOffBy", inPlace := ["math.Float64bits", "math.Float64frombits"], apart := false, narrowed := true }
def FnExactOffByUptoSaid : Prop := fnExactOffByUptoRow.holds Try.pinned (OpenSpec.upto fnExactOffBySpec)

/-- 'laws.FnExactSheetOf', WHERE WHAT IT READS IS OF BULK AT MOST 1048576: true; the input reads as it did. -/
def fnExactSheetOfUptoRow : OpenClaim := { program := "ytdagaggpaohmcaa", sum := "ca4d15ee6a26479883db1c1cb5719e4466bd6363f457ba9f91fa150380f1e206", func := "loop.example/g01320/laws.FnExactSheetOf", spec := "fnExactSheetOf", apart := false, narrowed := true }
def FnExactSheetOfUptoSaid : Prop := fnExactSheetOfUptoRow.holds Try.pinned (OpenSpec.upto fnExactSheetOfSpec)

/-- 'laws.FnExactTurnKeys', WHERE WHAT IT READS IS OF BULK AT MOST 1048576: true; the input reads as it did. -/
def fnExactTurnKeysUptoRow : OpenClaim := { program := "ytdagaggpaohmcaa", sum := "ca4d15ee6a26479883db1c1cb5719e4466bd6363f457ba9f91fa150380f1e206", func := "loop.example/g01320/laws.FnExactTurnKeys", spec := "fnExactTurnKeys", inPlace := ["math.Float64bits", "math.Float64frombits"], apart := false, narrowed := true }
def FnExactTurnKeysUptoSaid : Prop := fnExactTurnKeysUptoRow.holds Try.pinned (OpenSpec.upto fnExactTurnKeysSpec)

/-- 'laws.FnExactRunUnit', WHERE WHAT IT READS IS OF BULK AT MOST 1048576: true; the input reads as it did. -/
def fnExactRunUnitUptoRow : OpenClaim := { program := "ytdagaggpaohmcaa", sum := "ca4d15ee6a26479883db1c1cb5719e4466bd6363f457ba9f91fa150380f1e206", func := "loop.example/g01320/laws.FnExactRunUnit", spec := "fnExactRunUnit", apart := false, narrowed := true }
def FnExactRunUnitUptoSaid : Prop := fnExactRunUnitUptoRow.holds Try.pinned (OpenSpec.upto fnExactRunUnitSpec)

/-- 'laws.FnExactMakeReady', WHERE WHAT IT READS IS OF BULK AT MOST 1048576: true; the input reads as it did. -/
def fnExactMakeReadyUptoRow : OpenClaim := { program := "ytdagaggpaohmcaa", sum := "ca4d15ee6a26479883db1c1cb5719e4466bd6363f457ba9f91fa150380f1e206", func := "loop.example/g01320/laws.FnExactMakeReady", spec := "fnExactMakeReady", inPlace := ["math.Float64bits", "math.Float64frombits"], apart := false, narrowed := true }
def FnExactMakeReadyUptoSaid : Prop := fnExactMakeReadyUptoRow.holds Try.pinned (OpenSpec.upto fnExactMakeReadySpec)

end Rows
end Go.Proofs.Ytdagaggpaohmcaa

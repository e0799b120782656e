/-
  No cell of these rows narrows 'for every input' (looked for: loops, veiled, ifaces, maps, wideKeys, modest, calm, conditions, laid).
  DERIVED. THE GIVEN ROWS OF THIS SEAT. 5 by the template 'for every input the law returns true; each argument reads behind the call as it read before'; 0 by the template 'total and deterministic' (their statements: YtagkkkplmilkhaaTotals.lean).
  GIVEN WITH THE SEED: the statements are not yours to turn. If you find one false, say at which input.
  Laid BY PROGRAM, IN A SANDBOX (cutbox-rows.mjs): the forced cells as the released guide's own fill.sh prints them over the translation cf5c57809bc1cb93… (all of the seat's roots in one cut). By AI agents, Wed Nov 11 2026. No macro, syntax, notation, axiom, sorry.
-/
import Derived.Test.YtagkkkplmilkhaaChecked
import GoSem.Claim
import GoSem.ClaimJoined
import GoSem.ClaimMapViews
import Derived.JoinedTies
import Derived.KernelRfl
namespace Go.Proofs.Ytagkkkplmilkhaa
/- THE CELL 'sum', in the pinned program and in every row, IS THE sha256 OF THE DUMP (.gsa) THAT YtagkkkplmilkhaaProg.lean LOADS. Nothing in Lean hashes anything: it is a label: what it is worth is what the hold of that sum in a sandbox is worth. -/
noncomputable def Try.pinned : Pinned := { name := "ytagkkkplmilkhaa", sum := "cf5c57809bc1cb9368cb61dd00acef174276e304d2442a24159464c0b1126356", checked := Try.checked }
namespace Rows
def none {H : Type} : Left H := { results := [], args := [] }

/-- 'laws.FnExactCountGood': WHATEVER THE INPUT: true; the input reads as it did. -/
def fnExactCountGoodSpec : ChangeSpec := { name := "fnExactCountGood", fn := fun _ => fun
  | [d1, d2, d3] => { results := [.lit (.bool true)], args := [d1, d2, d3] }
  | _ => none }
def fnExactCountGoodRow : OpenClaim := { program := "ytagkkkplmilkhaa", sum := "cf5c57809bc1cb9368cb61dd00acef174276e304d2442a24159464c0b1126356", func := "loop.example/g01320/laws.FnExactCountGood", spec := "fnExactCountGood", inPlace := ["math.Float64bits", "math.Float64frombits"], apart := false }
def FnExactCountGoodSaid : Prop := fnExactCountGoodRow.holds Try.pinned (OpenSpec.ofChange fnExactCountGoodSpec)

/-- ITS FALSE NEIGHBOUR: 'it returns false'. Refute it at one input. -/
def fnExactCountGoodWrong : ChangeSpec := { name := "fnExactCountGood", fn := fun _ => fun
  | [d1, d2, d3] => { results := [.lit (.bool false)], args := [d1, d2, d3] }
  | _ => none }
def FnExactCountGoodWrongFalsely : Prop := fnExactCountGoodRow.holds Try.pinned (OpenSpec.ofChange fnExactCountGoodWrong)

/-- 'laws.FnExactFirstGood': WHATEVER THE INPUT: true; the input reads as it did. -/
def fnExactFirstGoodSpec : ChangeSpec := { name := "fnExactFirstGood", fn := fun _ => fun
  | [d1, d2, d3] => { results := [.lit (.bool true)], args := [d1, d2, d3] }
  | _ => none }
def fnExactFirstGoodRow : OpenClaim := { program := "ytagkkkplmilkhaa", sum := "cf5c57809bc1cb9368cb61dd00acef174276e304d2442a24159464c0b1126356", func := "loop.example/g01320/laws.FnExactFirstGood", spec := "fnExactFirstGood", inPlace := ["math.Float64bits", "math.Float64frombits"], apart := false }
def FnExactFirstGoodSaid : Prop := fnExactFirstGoodRow.holds Try.pinned (OpenSpec.ofChange fnExactFirstGoodSpec)

/-- ITS FALSE NEIGHBOUR: 'it returns false'. Refute it at one input. -/
def fnExactFirstGoodWrong : ChangeSpec := { name := "fnExactFirstGood", fn := fun _ => fun
  | [d1, d2, d3] => { results := [.lit (.bool false)], args := [d1, d2, d3] }
  | _ => none }
def FnExactFirstGoodWrongFalsely : Prop := fnExactFirstGoodRow.holds Try.pinned (OpenSpec.ofChange fnExactFirstGoodWrong)

/-- 'laws.FnJobs': WHATEVER THE INPUT: true; the input reads as it did. -/
def fnJobsSpec : ChangeSpec := { name := "fnJobs", fn := fun _ => fun
  | [d1, d2] => { results := [.lit (.bool true)], args := [d1, d2] }
  | _ => none }
def fnJobsRow : OpenClaim := { program := "ytagkkkplmilkhaa", sum := "cf5c57809bc1cb9368cb61dd00acef174276e304d2442a24159464c0b1126356", func := "loop.example/g01320/laws.FnJobs", spec := "fnJobs", inPlace := ["math.Float64bits", "math.Float64frombits", "math.Float32bits"], unfollowed := true, recurses := true, apart := false }
def FnJobsSaid : Prop := fnJobsRow.holds Try.pinned (OpenSpec.ofChange fnJobsSpec)

/-- ITS FALSE NEIGHBOUR: 'it returns false'. Refute it at one input. -/
def fnJobsWrong : ChangeSpec := { name := "fnJobs", fn := fun _ => fun
  | [d1, d2] => { results := [.lit (.bool false)], args := [d1, d2] }
  | _ => none }
def FnJobsWrongFalsely : Prop := fnJobsRow.holds Try.pinned (OpenSpec.ofChange fnJobsWrong)

/-- 'laws.FnReady': WHATEVER THE INPUT: true; the input reads as it did. -/
def fnReadySpec : ChangeSpec := { name := "fnReady", fn := fun _ => fun
  | [d1, d2] => { results := [.lit (.bool true)], args := [d1, d2] }
  | _ => none }
def fnReadyRow : OpenClaim := { program := "ytagkkkplmilkhaa", sum := "cf5c57809bc1cb9368cb61dd00acef174276e304d2442a24159464c0b1126356", func := "loop.example/g01320/laws.FnReady", spec := "fnReady", inPlace := ["math.Float64bits", "math.Float64frombits", "math.Float32bits"], apart := false }
def FnReadySaid : Prop := fnReadyRow.holds Try.pinned (OpenSpec.ofChange fnReadySpec)

/-- ITS FALSE NEIGHBOUR: 'it returns false'. Refute it at one input. -/
def fnReadyWrong : ChangeSpec := { name := "fnReady", fn := fun _ => fun
  | [d1, d2] => { results := [.lit (.bool false)], args := [d1, d2] }
  | _ => none }
def FnReadyWrongFalsely : Prop := fnReadyRow.holds Try.pinned (OpenSpec.ofChange fnReadyWrong)

/-- 'laws.FnTopOfAll': WHATEVER THE INPUT: true; the input reads as it did. -/
def fnTopOfAllSpec : ChangeSpec := { name := "fnTopOfAll", fn := fun _ => fun
  | [d1, d2, d3, d4, d5] => { results := [.lit (.bool true)], args := [d1, d2, d3, d4, d5] }
  | _ => none }
def fnTopOfAllRow : OpenClaim := { program := "ytagkkkplmilkhaa", sum := "cf5c57809bc1cb9368cb61dd00acef174276e304d2442a24159464c0b1126356", func := "loop.example/g01320/laws.FnTopOfAll", spec := "fnTopOfAll", inPlace := ["math.Float32bits"], apart := false }
def FnTopOfAllSaid : Prop := fnTopOfAllRow.holds Try.pinned (OpenSpec.ofChange fnTopOfAllSpec)

/-- ITS FALSE NEIGHBOUR: 'it returns false'. Refute it at one input. -/
def fnTopOfAllWrong : ChangeSpec := { name := "fnTopOfAll", fn := fun _ => fun
  | [d1, d2, d3, d4, d5] => { results := [.lit (.bool false)], args := [d1, d2, d3, d4, d5] }
  | _ => none }
def FnTopOfAllWrongFalsely : Prop := fnTopOfAllRow.holds Try.pinned (OpenSpec.ofChange fnTopOfAllWrong)

/- THE SECOND FORM. 'bulk': how many values and letters a reading holds, each counted each time it is reached (what is shared counts as often as it is met; a slice's spare places count too). A statement '..UptoSaid' is the law's where the arguments, and the package variables that the reading takes, are together of bulk at most 1048576: NARROWER than '..Said'. Prove '..Said' where nothing that the law and all that it calls make is longer than what came in: it says more and counts as full. Else prove '..UptoSaid'. A law counts once. -/
mutual
def uptoBulk {H : Type} : DataW H → Nat
  | .lit (.string bytes) => bytes.length + 1
  | .lit _ => 1
  | .nil => 1
  | .ptr d => uptoBulk d + 1
  | .slice elems spare => uptoBulkAll elems + uptoBulkAll spare + 1
  | .agg parts => uptoBulkAll parts + 1
  | .iface _ d => uptoBulk d + 1
  | .map entries => uptoBulkEntries entries + 1
  | .held _ => 1
def uptoBulkAll {H : Type} : List (DataW H) → Nat
  | [] => 0
  | d :: r => uptoBulk d + uptoBulkAll r
def uptoBulkEntries {H : Type} : List (Lit × DataW H) → Nat
  | [] => 0
  | x :: r => uptoBulkEntry x + uptoBulkEntries r
def uptoBulkEntry {H : Type} : Lit × DataW H → Nat
  | (.string bytes, d) => bytes.length + uptoBulk d + 1
  | (_, d) => uptoBulk d + 1
 end
def uptoSmall : (H : Type) → List (DataW H) → Bool := fun _ ds => decide (uptoBulkAll ds ≤ 1048576)
def OpenSpec.upto (s : _root_.Go.ChangeSpec) : _root_.Go.OpenSpec := { _root_.Go.OpenSpec.ofChange s with cond := some uptoSmall }

/-- 'laws.FnExactCountGood', WHERE WHAT IT READS IS OF BULK AT MOST 1048576: true; the input reads as it did. -/
def fnExactCountGoodUptoRow : OpenClaim := { program := "ytagkkkplmilkhaa", sum := "cf5c57809bc1cb9368cb61dd00acef174276e304d2442a24159464c0b1126356", func := "loop.example/g01320/laws.FnExactCountGood", spec := "fnExactCountGood", inPlace := ["math.Float64bits", "math.Float64frombits"], apart := false, narrowed := true }
def FnExactCountGoodUptoSaid : Prop := fnExactCountGoodUptoRow.holds Try.pinned (OpenSpec.upto fnExactCountGoodSpec)

/-- 'laws.FnExactFirstGood', WHERE WHAT IT READS IS OF BULK AT MOST 1048576: true; the input reads as it did. -/
def fnExactFirstGoodUptoRow : OpenClaim := { program := "ytagkkkplmilkhaa", sum := "cf5c57809bc1cb9368cb61dd00acef174276e304d2442a24159464c0b1126356", func := "loop.example/g01320/laws.FnExactFirstGood", spec := "fnExactFirstGood", inPlace := ["math.Float64bits", "math.Float64frombits"], apart := false, narrowed := true }
def FnExactFirstGoodUptoSaid : Prop := fnExactFirstGoodUptoRow.holds Try.pinned (OpenSpec.upto fnExactFirstGoodSpec)

/-- 'laws.FnJobs', WHERE WHAT IT READS IS OF BULK AT MOST 1048576: true; the input reads as it did. -/
def fnJobsUptoRow : OpenClaim := { program := "ytagkkkplmilkhaa", sum := "cf5c57809bc1cb9368cb61dd00acef174276e304d2442a24159464c0b1126356", func := "loop.example/g01320/laws.FnJobs", spec := "fnJobs", inPlace := ["math.Float64bits", "math.Float64frombits", "math.Float32bits"], unfollowed := true, recurses := true, apart := false, narrowed := true }
def FnJobsUptoSaid : Prop := fnJobsUptoRow.holds Try.pinned (OpenSpec.upto fnJobsSpec)

/-- 'laws.FnReady', WHERE WHAT IT READS IS OF BULK AT MOST 1048576: true; the input reads as it did. -/
def fnReadyUptoRow : OpenClaim := { program := "ytagkkkplmilkhaa", sum := "cf5c57809bc1cb9368cb61dd00acef174276e304d2442a24159464c0b1126356", func := "loop.example/g01320/laws.FnReady", spec := "fnReady", inPlace := ["math.Float64bits", "math.Float64frombits", "math.Float32bits"], apart := false, narrowed := true }
def FnReadyUptoSaid : Prop := fnReadyUptoRow.holds Try.pinned (OpenSpec.upto fnReadySpec)

/-- 'laws.FnTopOfAll', WHERE WHAT IT READS IS OF BULK AT MOST 1048576: true; the input reads as it did. -/
def fnTopOfAllUptoRow : OpenClaim := { program := "ytagkkkplmilkhaa", sum := "cf5c57809bc1cb9368cb61dd00acef174276e304d2442a24159464c0b1126356", func := "loop.example/g01320/laws.FnTopOfAll", spec := "fnTopOfAll", inPlace := ["math.Float32bits"], apart := false, narrowed := true }
def FnTopOfAllUptoSaid : Prop := fnTopOfAllUptoRow.holds Try.pinned (OpenSpec.upto fnTopOfAllSpec)

end Rows
end Go.Proofs.Ytagkkkplmilkhaa

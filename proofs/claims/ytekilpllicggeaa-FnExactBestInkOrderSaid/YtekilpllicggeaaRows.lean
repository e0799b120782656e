/-
  No cell of these rows narrows 'for every input' (looked for: loops, veiled, ifaces, maps, wideKeys, modest, calm, conditions, laid).
  DERIVED. THE GIVEN ROWS OF THIS SEAT. 6 by the template 'for every input the law returns true; each argument reads behind the call as it read before'; 0 by the template 'total and deterministic' (their statements: YtekilpllicggeaaTotals.lean).
  GIVEN WITH THE SEED: the statements are not yours to turn. If you find one false, say at which input.
  Laid BY PROGRAM, IN A SANDBOX (cutbox-rows.mjs): the forced cells as the released guide's own fill.sh prints them over the translation d7c3d7a14d221ba2… (all of the seat's roots in one cut). By AI agents, Wed Nov 11 2026. No macro, syntax, notation, axiom, sorry.
-/
import Derived.Test.YtekilpllicggeaaChecked
import GoSem.Claim
import GoSem.ClaimJoined
import GoSem.ClaimMapViews
import Derived.JoinedTies
import Derived.KernelRfl
namespace Go.Proofs.Ytekilpllicggeaa
/- THE CELL 'sum', in the pinned program and in every row, IS THE sha256 OF THE DUMP (.gsa) THAT YtekilpllicggeaaProg.lean LOADS. Nothing in Lean hashes anything: it is a label: what it is worth is what the hold of that sum in a sandbox is worth. -/
noncomputable def Try.pinned : Pinned := { name := "ytekilpllicggeaa", sum := "d7c3d7a14d221ba2b5bea781c7de007e74865f025254ee76f091dbea84d9e837", checked := Try.checked }
namespace Rows
def none {H : Type} : Left H := { results := [], args := [] }

/-- 'laws.FnExactPrintRun': WHATEVER THE INPUT: true; the input reads as it did. -/
def fnExactPrintRunSpec : ChangeSpec := { name := "fnExactPrintRun", fn := fun _ => fun
  | [d1, d2, d3, d4] => { results := [.lit (.bool true)], args := [d1, d2, d3, d4] }
  | _ => none }
def fnExactPrintRunRow : OpenClaim := { program := "ytekilpllicggeaa", sum := "d7c3d7a14d221ba2b5bea781c7de007e74865f025254ee76f091dbea84d9e837", func := "loop.example/g01320/laws.FnExactPrintRun", spec := "fnExactPrintRun", apart := false }
def FnExactPrintRunSaid : Prop := fnExactPrintRunRow.holds Try.pinned (OpenSpec.ofChange fnExactPrintRunSpec)

/-- ITS FALSE NEIGHBOUR: 'it returns false'. Refute it at one input. -/
def fnExactPrintRunWrong : ChangeSpec := { name := "fnExactPrintRun", fn := fun _ => fun
  | [d1, d2, d3, d4] => { results := [.lit (.bool false)], args := [d1, d2, d3, d4] }
  | _ => none }
def FnExactPrintRunWrongFalsely : Prop := fnExactPrintRunRow.holds Try.pinned (OpenSpec.ofChange fnExactPrintRunWrong)

/-- 'laws.FnExactWetsAfter': WHATEVER THE INPUT: true; the input reads as it did. -/
def fnExactWetsAfterSpec : ChangeSpec := { name := "fnExactWetsAfter", fn := fun _ => fun
  | [d1, d2, d3] => { results := [.lit (.bool true)], args := [d1, d2, d3] }
  | _ => none }
def fnExactWetsAfterRow : OpenClaim := { program := "ytekilpllicggeaa", sum := "d7c3d7a14d221ba2b5bea781c7de007e74865f025254ee76f091dbea84d9e837", func := "loop.example/g01320/laws.FnExactWetsAfter", spec := "fnExactWetsAfter", apart := false }
def FnExactWetsAfterSaid : Prop := fnExactWetsAfterRow.holds Try.pinned (OpenSpec.ofChange fnExactWetsAfterSpec)

/-- ITS FALSE NEIGHBOUR: 'it returns false'. Refute it at one input. -/
def fnExactWetsAfterWrong : ChangeSpec := { name := "fnExactWetsAfter", fn := fun _ => fun
  | [d1, d2, d3] => { results := [.lit (.bool false)], args := [d1, d2, d3] }
  | _ => none }
def FnExactWetsAfterWrongFalsely : Prop := fnExactWetsAfterRow.holds Try.pinned (OpenSpec.ofChange fnExactWetsAfterWrong)

/-- 'laws.FnExactBestInkOrder': WHATEVER THE INPUT: true; the input reads as it did. -/
def fnExactBestInkOrderSpec : ChangeSpec := { name := "fnExactBestInkOrder", fn := fun _ => fun
  | [d1, d2, d3] => { results := [.lit (.bool true)], args := [d1, d2, d3] }
  | _ => none }
def fnExactBestInkOrderRow : OpenClaim := { program := "ytekilpllicggeaa", sum := "d7c3d7a14d221ba2b5bea781c7de007e74865f025254ee76f091dbea84d9e837", func := "loop.example/g01320/laws.FnExactBestInkOrder", spec := "fnExactBestInkOrder", unfollowed := true, recurses := true, apart := false }
def FnExactBestInkOrderSaid : Prop := fnExactBestInkOrderRow.holds Try.pinned (OpenSpec.ofChange fnExactBestInkOrderSpec)

/-- ITS FALSE NEIGHBOUR: 'it returns false'. Refute it at one input. -/
def fnExactBestInkOrderWrong : ChangeSpec := { name := "fnExactBestInkOrder", fn := fun _ => fun
  | [d1, d2, d3] => { results := [.lit (.bool false)], args := [d1, d2, d3] }
  | _ => none }
def FnExactBestInkOrderWrongFalsely : Prop := fnExactBestInkOrderRow.holds Try.pinned (OpenSpec.ofChange fnExactBestInkOrderWrong)

/-- 'laws.FnExactOrderOvens': WHATEVER THE INPUT: true; the input reads as it did. -/
def fnExactOrderOvensSpec : ChangeSpec := { name := "fnExactOrderOvens", fn := fun _ => fun
  | [d1, d2, d3] => { results := [.lit (.bool true)], args := [d1, d2, d3] }
  | _ => none }
def fnExactOrderOvensRow : OpenClaim := { program := "ytekilpllicggeaa", sum := "d7c3d7a14d221ba2b5bea781c7de007e74865f025254ee76f091dbea84d9e837", func := "loop.example/g01320/laws.FnExactOrderOvens", spec := "fnExactOrderOvens", unfollowed := true, recurses := true, apart := false }
def FnExactOrderOvensSaid : Prop := fnExactOrderOvensRow.holds Try.pinned (OpenSpec.ofChange fnExactOrderOvensSpec)

/-- ITS FALSE NEIGHBOUR: 'it returns false'. Refute it at one input. -/
def fnExactOrderOvensWrong : ChangeSpec := { name := "fnExactOrderOvens", fn := fun _ => fun
  | [d1, d2, d3] => { results := [.lit (.bool false)], args := [d1, d2, d3] }
  | _ => none }
def FnExactOrderOvensWrongFalsely : Prop := fnExactOrderOvensRow.holds Try.pinned (OpenSpec.ofChange fnExactOrderOvensWrong)

/-- 'laws.FnPiles': WHATEVER THE INPUT: true; the input reads as it did. -/
def fnPilesSpec : ChangeSpec := { name := "fnPiles", fn := fun _ => fun
  | [d1, d2] => { results := [.lit (.bool true)], args := [d1, d2] }
  | _ => none }
def fnPilesRow : OpenClaim := { program := "ytekilpllicggeaa", sum := "d7c3d7a14d221ba2b5bea781c7de007e74865f025254ee76f091dbea84d9e837", func := "loop.example/g01320/laws.FnPiles", spec := "fnPiles", inPlace := ["math.Float32bits"], apart := false }
def FnPilesSaid : Prop := fnPilesRow.holds Try.pinned (OpenSpec.ofChange fnPilesSpec)

/-- ITS FALSE NEIGHBOUR: 'it returns false'. Refute it at one input. -/
def fnPilesWrong : ChangeSpec := { name := "fnPiles", fn := fun _ => fun
  | [d1, d2] => { results := [.lit (.bool false)], args := [d1, d2] }
  | _ => none }
def FnPilesWrongFalsely : Prop := fnPilesRow.holds Try.pinned (OpenSpec.ofChange fnPilesWrong)

/-- 'laws.FnInkFilms': WHATEVER THE INPUT: true; the input reads as it did. -/
def fnInkFilmsSpec : ChangeSpec := { name := "fnInkFilms", fn := fun _ => fun
  | [d1, d2] => { results := [.lit (.bool true)], args := [d1, d2] }
  | _ => none }
def fnInkFilmsRow : OpenClaim := { program := "ytekilpllicggeaa", sum := "d7c3d7a14d221ba2b5bea781c7de007e74865f025254ee76f091dbea84d9e837", func := "loop.example/g01320/laws.FnInkFilms", spec := "fnInkFilms", inPlace := ["math.Float32bits"], unfollowed := true, recurses := true, apart := false }
def FnInkFilmsSaid : Prop := fnInkFilmsRow.holds Try.pinned (OpenSpec.ofChange fnInkFilmsSpec)

/-- ITS FALSE NEIGHBOUR: 'it returns false'. Refute it at one input. -/
def fnInkFilmsWrong : ChangeSpec := { name := "fnInkFilms", fn := fun _ => fun
  | [d1, d2] => { results := [.lit (.bool false)], args := [d1, d2] }
  | _ => none }
def FnInkFilmsWrongFalsely : Prop := fnInkFilmsRow.holds Try.pinned (OpenSpec.ofChange fnInkFilmsWrong)

/- THE SECOND FORM. 'bulk': how many values and letters a reading holds, each counted each time it is reached (what is shared counts as often as it is met; a slice's spare places count too). A statement '..UptoSaid' is the law's where the arguments, and the package variables that the reading takes, are together of bulk at most 1048576: NARROWER than '..Said'. Prove '..Said' where nothing that the law and all that it calls make is longer than what came in: it says more and counts as full. Else prove '..UptoSaid'. A law counts once. -/
mutual
def uptoBulk {H : Type} : DataW H → Nat
  | .lit (.string bytes) => bytes.length + 1
  | .lit _ => 1
  | .nil => 1
  | .ptr d => uptoBulk d + 1
  | .slice elems spare => uptoBulkAll elems + uptoBulkAll spare + 1
  | .agg parts => uptoBulkAll parts + 1
  | .iface _ d => uptoBulk d + 1
  | .map entries => uptoBulkEntries entries + 1
  | .held _ => 1
def uptoBulkAll {H : Type} : List (DataW H) → Nat
  | [] => 0
  | d :: r => uptoBulk d + uptoBulkAll r
def uptoBulkEntries {H : Type} : List (Lit × DataW H) → Nat
  | [] => 0
  | x :: r => uptoBulkEntry x + uptoBulkEntries r
def uptoBulkEntry {H : Type} : Lit × DataW H → Nat
  | (.string bytes, d) => bytes.length + uptoBulk d + 1
  | (_, d) => uptoBulk d + 1
 end
def uptoSmall : (H : Type) → List (DataW H) → Bool := fun _ ds => decide (uptoBulkAll ds ≤ 1048576)
def OpenSpec.upto (s : _root_.Go.ChangeSpec) : _root_.Go.OpenSpec := { _root_.Go.OpenSpec.ofChange s with cond := some uptoSmall }

/-- 'laws.FnExactPrintRun', WHERE WHAT IT READS IS OF BULK AT MOST 1048576: true; the input reads as it did. -/
def fnExactPrintRunUptoRow : OpenClaim := { program := "ytekilpllicggeaa", sum := "d7c3d7a14d221ba2b5bea781c7de007e74865f025254ee76f091dbea84d9e837", func := "loop.example/g01320/laws.FnExactPrintRun", spec := "fnExactPrintRun", apart := false, narrowed := true }
def FnExactPrintRunUptoSaid : Prop := fnExactPrintRunUptoRow.holds Try.pinned (OpenSpec.upto fnExactPrintRunSpec)

/-- 'laws.FnExactWetsAfter', WHERE WHAT IT READS IS OF BULK AT MOST 1048576: true; the input reads as it did. -/
def fnExactWetsAfterUptoRow : OpenClaim := { program := "ytekilpllicggeaa", sum := "d7c3d7a14d221ba2b5bea781c7de007e74865f025254ee76f091dbea84d9e837", func := "loop.example/g01320/laws.FnExactWetsAfter", spec := "fnExactWetsAfter", apart := false, narrowed := true }
def FnExactWetsAfterUptoSaid : Prop := fnExactWetsAfterUptoRow.holds Try.pinned (OpenSpec.upto fnExactWetsAfterSpec)

/-- 'laws.FnExactBestInkOrder', WHERE WHAT IT READS IS OF BULK AT MOST 1048576: true; the input reads as it did. -/
def fnExactBestInkOrderUptoRow : OpenClaim := { program := "ytekilpllicggeaa", sum := "d7c3d7a14d221ba2b5bea781c7de007e74865f025254ee76f091dbea84d9e837", func := "loop.example/g01320/laws.FnExactBestInkOrder", spec := "fnExactBestInkOrder", unfollowed := true, recurses := true, apart := false, narrowed := true }
def FnExactBestInkOrderUptoSaid : Prop := fnExactBestInkOrderUptoRow.holds Try.pinned (OpenSpec.upto fnExactBestInkOrderSpec)

/-- 'laws.FnExactOrderOvens', WHERE WHAT IT READS IS OF BULK AT MOST 1048576: true; the input reads as it did. -/
def fnExactOrderOvensUptoRow : OpenClaim := { program := "ytekilpllicggeaa", sum := "d7c3d7a14d221ba2b5bea781c7de007e74865f025254ee76f091dbea84d9e837", func := "loop.example/g01320/laws.FnExactOrderOvens", spec := "fnExactOrderOvens", unfollowed := true, recurses := true, apart := false, narrowed := true }
def FnExactOrderOvensUptoSaid : Prop := fnExactOrderOvensUptoRow.holds Try.pinned (OpenSpec.upto fnExactOrderOvensSpec)

/-- 'laws.FnPiles', WHERE WHAT IT READS IS OF BULK AT MOST 1048576: true; the input reads as it did. -/
def fnPilesUptoRow : OpenClaim := { program := "ytekilpllicggeaa", sum := "d7c3d7a14d221ba2b5bea781c7de007e74865f025254ee76f091dbea84d9e837", func := "loop.example/g01320/laws.FnPiles", spec := "fnPiles", inPlace := ["math.Float32bits"], apart := false, narrowed := true }
def FnPilesUptoSaid : Prop := fnPilesUptoRow.holds Try.pinned (OpenSpec.upto fnPilesSpec)

/-- 'laws.FnInkFilms', WHERE WHAT IT READS IS OF BULK AT MOST 1048576: true; the input reads as it did. -/
def fnInkFilmsUptoRow : OpenClaim := { program := "ytekilpllicggeaa", sum := "d7c3d7a14d221ba2b5bea781c7de007e74865f025254ee76f091dbea84d9e837", func := "loop.example/g01320/laws.FnInkFilms", spec := "fnInkFilms", inPlace := ["math.Float32bits"], unfollowed := true, recurses := true, apart := false, narrowed := true }
def FnInkFilmsUptoSaid : Prop := fnInkFilmsUptoRow.holds Try.pinned (OpenSpec.upto fnInkFilmsSpec)

end Rows
end Go.Proofs.Ytekilpllicggeaa

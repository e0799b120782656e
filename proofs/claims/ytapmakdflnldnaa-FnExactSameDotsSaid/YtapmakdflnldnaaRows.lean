/-
  No cell of these rows narrows 'for every input' (looked for: loops, veiled, ifaces, maps, wideKeys, modest, calm, conditions, laid).
  DERIVED. THE GIVEN ROWS OF THIS SEAT. 12 by the template 'for every input the law returns true; each argument reads behind the call as it read before'; 0 by the template 'total and deterministic' (their statements: YtapmakdflnldnaaTotals.lean).
  GIVEN WITH THE SEED: the statements are not yours to turn. If you find one false, say at which input.
  Laid BY PROGRAM, IN A SANDBOX (cutbox-rows.mjs): the forced cells as the released guide's own fill.sh prints them over the translation 2d39f74d9ef05062… (all of the seat's roots in one cut). By AI agents, Wed Nov 11 2026. No macro, syntax, notation, axiom, sorry.
-/
import Derived.Test.YtapmakdflnldnaaChecked
import GoSem.Claim
import GoSem.ClaimJoined
import GoSem.ClaimMapViews
import Derived.JoinedTies
import Derived.KernelRfl
namespace Go.Proofs.Ytapmakdflnldnaa
/- THE CELL 'sum', in the pinned program and in every row, IS THE sha256 OF THE DUMP (.gsa) THAT YtapmakdflnldnaaProg.lean LOADS. Nothing in Lean hashes anything: it is a label: what it is worth is what the hold of that sum in a sandbox is worth. -/
noncomputable def Try.pinned : Pinned := { name := "ytapmakdflnldnaa", sum := "2d39f74d9ef05062105944f8a686af7ce535c7ff4788eaf943b34e04e5ce01bb", checked := Try.checked }
namespace Rows
def none {H : Type} : Left H := { results := [], args := [] }

/-- 'laws.FnExactValidColour': WHATEVER THE INPUT: true; the input reads as it did. -/
def fnExactValidColourSpec : ChangeSpec := { name := "fnExactValidColour", fn := fun _ => fun
  | [d] => { results := [.lit (.bool true)], args := [d] }
  | _ => none }
def fnExactValidColourRow : OpenClaim := { program := "ytapmakdflnldnaa", sum := "2d39f74d9ef05062105944f8a686af7ce535c7ff4788eaf943b34e04e5ce01bb", func := "loop.example/g01320/laws.FnExactValidColour", spec := "fnExactValidColour", apart := false }
def FnExactValidColourSaid : Prop := fnExactValidColourRow.holds Try.pinned (OpenSpec.ofChange fnExactValidColourSpec)

/-- ITS FALSE NEIGHBOUR: 'it returns false'. Refute it at one input. -/
def fnExactValidColourWrong : ChangeSpec := { name := "fnExactValidColour", fn := fun _ => fun
  | [d] => { results := [.lit (.bool false)], args := [d] }
  | _ => none }
def FnExactValidColourWrongFalsely : Prop := fnExactValidColourRow.holds Try.pinned (OpenSpec.ofChange fnExactValidColourWrong)

/-- 'laws.FnExactValidDots': WHATEVER THE INPUT: true; the input reads as it did. -/
def fnExactValidDotsSpec : ChangeSpec := { name := "fnExactValidDots", fn := fun _ => fun
  | [d] => { results := [.lit (.bool true)], args := [d] }
  | _ => none }
def fnExactValidDotsRow : OpenClaim := { program := "ytapmakdflnldnaa", sum := "2d39f74d9ef05062105944f8a686af7ce535c7ff4788eaf943b34e04e5ce01bb", func := "loop.example/g01320/laws.FnExactValidDots", spec := "fnExactValidDots", apart := false }
def FnExactValidDotsSaid : Prop := fnExactValidDotsRow.holds Try.pinned (OpenSpec.ofChange fnExactValidDotsSpec)

/-- ITS FALSE NEIGHBOUR: 'it returns false'. Refute it at one input. -/
def fnExactValidDotsWrong : ChangeSpec := { name := "fnExactValidDots", fn := fun _ => fun
  | [d] => { results := [.lit (.bool false)], args := [d] }
  | _ => none }
def FnExactValidDotsWrongFalsely : Prop := fnExactValidDotsRow.holds Try.pinned (OpenSpec.ofChange fnExactValidDotsWrong)

/-- 'laws.FnExactSameColour': WHATEVER THE INPUT: true; the input reads as it did. -/
def fnExactSameColourSpec : ChangeSpec := { name := "fnExactSameColour", fn := fun _ => fun
  | [d1, d2] => { results := [.lit (.bool true)], args := [d1, d2] }
  | _ => none }
def fnExactSameColourRow : OpenClaim := { program := "ytapmakdflnldnaa", sum := "2d39f74d9ef05062105944f8a686af7ce535c7ff4788eaf943b34e04e5ce01bb", func := "loop.example/g01320/laws.FnExactSameColour", spec := "fnExactSameColour", inPlace := ["math.Float32bits", "math.Float64bits"], apart := false }
def FnExactSameColourSaid : Prop := fnExactSameColourRow.holds Try.pinned (OpenSpec.ofChange fnExactSameColourSpec)

/-- ITS FALSE NEIGHBOUR: 'it returns false'. Refute it at one input. -/
def fnExactSameColourWrong : ChangeSpec := { name := "fnExactSameColour", fn := fun _ => fun
  | [d1, d2] => { results := [.lit (.bool false)], args := [d1, d2] }
  | _ => none }
def FnExactSameColourWrongFalsely : Prop := fnExactSameColourRow.holds Try.pinned (OpenSpec.ofChange fnExactSameColourWrong)

/-- 'laws.FnExactSameDots': WHATEVER THE INPUT: true; the input reads as it did. -/
def fnExactSameDotsSpec : ChangeSpec := { name := "fnExactSameDots", fn := fun _ => fun
  | [d1, d2] => { results := [.lit (.bool true)], args := [d1, d2] }
  | _ => none }
def fnExactSameDotsRow : OpenClaim := { program := "ytapmakdflnldnaa", sum := "2d39f74d9ef05062105944f8a686af7ce535c7ff4788eaf943b34e04e5ce01bb", func := "loop.example/g01320/laws.FnExactSameDots", spec := "fnExactSameDots", inPlace := ["math.Float32bits", "math.Float64bits"], apart := false }
def FnExactSameDotsSaid : Prop := fnExactSameDotsRow.holds Try.pinned (OpenSpec.ofChange fnExactSameDotsSpec)

/-- ITS FALSE NEIGHBOUR: 'it returns false'. Refute it at one input. -/
def fnExactSameDotsWrong : ChangeSpec := { name := "fnExactSameDots", fn := fun _ => fun
  | [d1, d2] => { results := [.lit (.bool false)], args := [d1, d2] }
  | _ => none }
def FnExactSameDotsWrongFalsely : Prop := fnExactSameDotsRow.holds Try.pinned (OpenSpec.ofChange fnExactSameDotsWrong)

/-- 'laws.FnExactValidPrimaries': WHATEVER THE INPUT: true; the input reads as it did. -/
def fnExactValidPrimariesSpec : ChangeSpec := { name := "fnExactValidPrimaries", fn := fun _ => fun
  | [d] => { results := [.lit (.bool true)], args := [d] }
  | _ => none }
def fnExactValidPrimariesRow : OpenClaim := { program := "ytapmakdflnldnaa", sum := "2d39f74d9ef05062105944f8a686af7ce535c7ff4788eaf943b34e04e5ce01bb", func := "loop.example/g01320/laws.FnExactValidPrimaries", spec := "fnExactValidPrimaries", apart := false }
def FnExactValidPrimariesSaid : Prop := fnExactValidPrimariesRow.holds Try.pinned (OpenSpec.ofChange fnExactValidPrimariesSpec)

/-- ITS FALSE NEIGHBOUR: 'it returns false'. Refute it at one input. -/
def fnExactValidPrimariesWrong : ChangeSpec := { name := "fnExactValidPrimaries", fn := fun _ => fun
  | [d] => { results := [.lit (.bool false)], args := [d] }
  | _ => none }
def FnExactValidPrimariesWrongFalsely : Prop := fnExactValidPrimariesRow.holds Try.pinned (OpenSpec.ofChange fnExactValidPrimariesWrong)

/-- 'laws.FnExactInkSum': WHATEVER THE INPUT: true; the input reads as it did. -/
def fnExactInkSumSpec : ChangeSpec := { name := "fnExactInkSum", fn := fun _ => fun
  | [d1, d2] => { results := [.lit (.bool true)], args := [d1, d2] }
  | _ => none }
def fnExactInkSumRow : OpenClaim := { program := "ytapmakdflnldnaa", sum := "2d39f74d9ef05062105944f8a686af7ce535c7ff4788eaf943b34e04e5ce01bb", func := "loop.example/g01320/laws.FnExactInkSum", spec := "fnExactInkSum", apart := false }
def FnExactInkSumSaid : Prop := fnExactInkSumRow.holds Try.pinned (OpenSpec.ofChange fnExactInkSumSpec)

/-- ITS FALSE NEIGHBOUR: 'it returns false'. Refute it at one input. -/
def fnExactInkSumWrong : ChangeSpec := { name := "fnExactInkSum", fn := fun _ => fun
  | [d1, d2] => { results := [.lit (.bool false)], args := [d1, d2] }
  | _ => none }
def FnExactInkSumWrongFalsely : Prop := fnExactInkSumRow.holds Try.pinned (OpenSpec.ofChange fnExactInkSumWrong)

/-- 'laws.FnExactGreyOf': WHATEVER THE INPUT: true; the input reads as it did. -/
def fnExactGreyOfSpec : ChangeSpec := { name := "fnExactGreyOf", fn := fun _ => fun
  | [d] => { results := [.lit (.bool true)], args := [d] }
  | _ => none }
def fnExactGreyOfRow : OpenClaim := { program := "ytapmakdflnldnaa", sum := "2d39f74d9ef05062105944f8a686af7ce535c7ff4788eaf943b34e04e5ce01bb", func := "loop.example/g01320/laws.FnExactGreyOf", spec := "fnExactGreyOf", apart := false }
def FnExactGreyOfSaid : Prop := fnExactGreyOfRow.holds Try.pinned (OpenSpec.ofChange fnExactGreyOfSpec)

/-- ITS FALSE NEIGHBOUR: 'it returns false'. Refute it at one input. -/
def fnExactGreyOfWrong : ChangeSpec := { name := "fnExactGreyOf", fn := fun _ => fun
  | [d] => { results := [.lit (.bool false)], args := [d] }
  | _ => none }
def FnExactGreyOfWrongFalsely : Prop := fnExactGreyOfRow.holds Try.pinned (OpenSpec.ofChange fnExactGreyOfWrong)

/-- 'laws.FnExactDarken': WHATEVER THE INPUT: true; the input reads as it did. -/
def fnExactDarkenSpec : ChangeSpec := { name := "fnExactDarken", fn := fun _ => fun
  | [d1, d2] => { results := [.lit (.bool true)], args := [d1, d2] }
  | _ => none }
def fnExactDarkenRow : OpenClaim := { program := "ytapmakdflnldnaa", sum := "2d39f74d9ef05062105944f8a686af7ce535c7ff4788eaf943b34e04e5ce01bb", func := "loop.example/g01320/laws.FnExactDarken", spec := "fnExactDarken", apart := false }
def FnExactDarkenSaid : Prop := fnExactDarkenRow.holds Try.pinned (OpenSpec.ofChange fnExactDarkenSpec)

/-- ITS FALSE NEIGHBOUR: 'it returns false'. Refute it at one input. -/
def fnExactDarkenWrong : ChangeSpec := { name := "fnExactDarken", fn := fun _ => fun
  | [d1, d2] => { results := [.lit (.bool false)], args := [d1, d2] }
  | _ => none }
def FnExactDarkenWrongFalsely : Prop := fnExactDarkenRow.holds Try.pinned (OpenSpec.ofChange fnExactDarkenWrong)

/-- 'laws.FnExactFarOf': WHATEVER THE INPUT: true; the input reads as it did. -/
def fnExactFarOfSpec : ChangeSpec := { name := "fnExactFarOf", fn := fun _ => fun
  | [d1, d2] => { results := [.lit (.bool true)], args := [d1, d2] }
  | _ => none }
def fnExactFarOfRow : OpenClaim := { program := "ytapmakdflnldnaa", sum := "2d39f74d9ef05062105944f8a686af7ce535c7ff4788eaf943b34e04e5ce01bb", func := "loop.example/g01320/laws.FnExactFarOf", spec := "fnExactFarOf", apart := false }
def FnExactFarOfSaid : Prop := fnExactFarOfRow.holds Try.pinned (OpenSpec.ofChange fnExactFarOfSpec)

/-- ITS FALSE NEIGHBOUR: 'it returns false'. Refute it at one input. -/
def fnExactFarOfWrong : ChangeSpec := { name := "fnExactFarOf", fn := fun _ => fun
  | [d1, d2] => { results := [.lit (.bool false)], args := [d1, d2] }
  | _ => none }
def FnExactFarOfWrongFalsely : Prop := fnExactFarOfRow.holds Try.pinned (OpenSpec.ofChange fnExactFarOfWrong)

/-- 'laws.FnExactWeightsOf': WHATEVER THE INPUT: true; the input reads as it did. -/
def fnExactWeightsOfSpec : ChangeSpec := { name := "fnExactWeightsOf", fn := fun _ => fun
  | [d] => { results := [.lit (.bool true)], args := [d] }
  | _ => none }
def fnExactWeightsOfRow : OpenClaim := { program := "ytapmakdflnldnaa", sum := "2d39f74d9ef05062105944f8a686af7ce535c7ff4788eaf943b34e04e5ce01bb", func := "loop.example/g01320/laws.FnExactWeightsOf", spec := "fnExactWeightsOf", apart := false }
def FnExactWeightsOfSaid : Prop := fnExactWeightsOfRow.holds Try.pinned (OpenSpec.ofChange fnExactWeightsOfSpec)

/-- ITS FALSE NEIGHBOUR: 'it returns false'. Refute it at one input. -/
def fnExactWeightsOfWrong : ChangeSpec := { name := "fnExactWeightsOf", fn := fun _ => fun
  | [d] => { results := [.lit (.bool false)], args := [d] }
  | _ => none }
def FnExactWeightsOfWrongFalsely : Prop := fnExactWeightsOfRow.holds Try.pinned (OpenSpec.ofChange fnExactWeightsOfWrong)

/-- 'laws.FnExactLimitInk': WHATEVER THE INPUT: true; the input reads as it did. -/
def fnExactLimitInkSpec : ChangeSpec := { name := "fnExactLimitInk", fn := fun _ => fun
  | [d1, d2] => { results := [.lit (.bool true)], args := [d1, d2] }
  | _ => none }
def fnExactLimitInkRow : OpenClaim := { program := "ytapmakdflnldnaa", sum := "2d39f74d9ef05062105944f8a686af7ce535c7ff4788eaf943b34e04e5ce01bb", func := "loop.example/g01320/laws.FnExactLimitInk", spec := "fnExactLimitInk", apart := false }
def FnExactLimitInkSaid : Prop := fnExactLimitInkRow.holds Try.pinned (OpenSpec.ofChange fnExactLimitInkSpec)

/-- ITS FALSE NEIGHBOUR: 'it returns false'. Refute it at one input. -/
def fnExactLimitInkWrong : ChangeSpec := { name := "fnExactLimitInk", fn := fun _ => fun
  | [d1, d2] => { results := [.lit (.bool false)], args := [d1, d2] }
  | _ => none }
def FnExactLimitInkWrongFalsely : Prop := fnExactLimitInkRow.holds Try.pinned (OpenSpec.ofChange fnExactLimitInkWrong)

/-- 'laws.FnExactGainDots': WHATEVER THE INPUT: true; the input reads as it did. -/
def fnExactGainDotsSpec : ChangeSpec := { name := "fnExactGainDots", fn := fun _ => fun
  | [d1, d2] => { results := [.lit (.bool true)], args := [d1, d2] }
  | _ => none }
def fnExactGainDotsRow : OpenClaim := { program := "ytapmakdflnldnaa", sum := "2d39f74d9ef05062105944f8a686af7ce535c7ff4788eaf943b34e04e5ce01bb", func := "loop.example/g01320/laws.FnExactGainDots", spec := "fnExactGainDots", apart := false }
def FnExactGainDotsSaid : Prop := fnExactGainDotsRow.holds Try.pinned (OpenSpec.ofChange fnExactGainDotsSpec)

/-- ITS FALSE NEIGHBOUR: 'it returns false'. Refute it at one input. -/
def fnExactGainDotsWrong : ChangeSpec := { name := "fnExactGainDots", fn := fun _ => fun
  | [d1, d2] => { results := [.lit (.bool false)], args := [d1, d2] }
  | _ => none }
def FnExactGainDotsWrongFalsely : Prop := fnExactGainDotsRow.holds Try.pinned (OpenSpec.ofChange fnExactGainDotsWrong)

/- THE SECOND FORM. 'bulk': how many values and letters a reading holds, each counted each time it is reached (what is shared counts as often as it is met; a slice's spare places count too). A statement '..UptoSaid' is the law's where the arguments, and the package variables that the reading takes, are together of bulk at most 1048576: NARROWER than '..Said'. Prove '..Said' where nothing that the law and all that it calls make is longer than what came in: it says more and counts as full. Else prove '..UptoSaid'. A law counts once. -/
mutual
def uptoBulk {H : Type} : DataW H → Nat
  | .lit (.string bytes) => bytes.length + 1
  | .lit _ => 1
  | .nil => 1
  | .ptr d => uptoBulk d + 1
  | .slice elems spare => uptoBulkAll elems + uptoBulkAll spare + 1
  | .agg parts => uptoBulkAll parts + 1
  | .iface _ d => uptoBulk d + 1
  | .map entries => uptoBulkEntries entries + 1
  | .held _ => 1
def uptoBulkAll {H : Type} : List (DataW H) → Nat
  | [] => 0
  | d :: r => uptoBulk d + uptoBulkAll r
def uptoBulkEntries {H : Type} : List (Lit × DataW H) → Nat
  | [] => 0
  | x :: r => uptoBulkEntry x + uptoBulkEntries r
def uptoBulkEntry {H : Type} : Lit × DataW H → Nat
  | (.string bytes, d) => bytes.length + uptoBulk d + 1
  | (_, d) => uptoBulk d + 1
 end
def uptoSmall : (H : Type) → List (DataW H) → Bool := fun _ ds => decide (uptoBulkAll ds ≤ 1048576)
def OpenSpec.upto (s : _root_.Go.ChangeSpec) : _root_.Go.OpenSpec := { _root_.Go.OpenSpec.ofChange s with cond := some uptoSmall }

/-- 'laws.FnExactValidColour', WHERE WHAT IT READS IS OF BULK AT MOST 1048576: true; the input reads as it did. -/
def fnExactValidColourUptoRow : OpenClaim := { program := "ytapmakdflnldnaa", sum := "2d39f74d9ef05062105944f8a686af7ce535c7ff4788eaf943b34e04e5ce01bb", func := "loop.example/g01320/laws.FnExactValidColour", spec := "fnExactValidColour", apart := false, narrowed := true }
def FnExactValidColourUptoSaid : Prop := fnExactValidColourUptoRow.holds Try.pinned (OpenSpec.upto fnExactValidColourSpec)

/-- 'laws.FnExactValidDots', WHERE WHAT IT READS IS OF BULK AT MOST 1048576: true; the input reads as it did. -/
def fnExactValidDotsUptoRow : OpenClaim := { program := "ytapmakdflnldnaa", sum := "2d39f74d9ef05062105944f8a686af7ce535c7ff4788eaf943b34e04e5ce01bb", func := "loop.example/g01320/laws.FnExactValidDots", spec := "fnExactValidDots", apart := false, narrowed := true }
def FnExactValidDotsUptoSaid : Prop := fnExactValidDotsUptoRow.holds Try.pinned (OpenSpec.upto fnExactValidDotsSpec)

/-- 'laws.FnExactSameColour', WHERE WHAT IT READS IS OF BULK AT MOST 1048576: true; the input reads as it did. -/
def fnExactSameColourUptoRow : OpenClaim := { program := "ytapmakdflnldnaa", sum := "2d39f74d9ef05062105944f8a686af7ce535c7ff4788eaf943b34e04e5ce01bb", func := "loop.example/g01320/laws.FnExactSameColour", spec := "fnExactSameColour", inPlace := ["math.Float32bits", "math.Float64bits"], apart := false, narrowed := true }
def FnExactSameColourUptoSaid : Prop := fnExactSameColourUptoRow.holds Try.pinned (OpenSpec.upto fnExactSameColourSpec)

/-- 'laws.FnExactSameDots', WHERE WHAT IT READS IS OF BULK AT MOST 1048576: true; the input reads as it did. -/
def fnExactSameDotsUptoRow : OpenClaim := { program := "ytapmakdflnldnaa", sum := "2d39f74d9ef05062105944f8a686af7ce535c7ff4788eaf943b34e04e5ce01bb", func := "loop.example/g01320/laws.FnExactSameDots", spec := "fnExactSameDots", inPlace := ["math.Float32bits", "math.Float64bits"], apart := false, narrowed := true }
def FnExactSameDotsUptoSaid : Prop := fnExactSameDotsUptoRow.holds Try.pinned (OpenSpec.upto fnExactSameDotsSpec)

/-- 'laws.FnExactValidPrimaries', WHERE WHAT IT READS IS OF BULK AT MOST 1048576: true; the input reads as it did. -/
def fnExactValidPrimariesUptoRow : OpenClaim := { program := "ytapmakdflnldnaa", sum := "2d39f74d9ef05062105944f8a686af7ce535c7ff4788eaf943b34e04e5ce01bb", func := "loop.example/g01320/laws.FnExactValidPrimaries", spec := "fnExactValidPrimaries", apart := false, narrowed := true }
def FnExactValidPrimariesUptoSaid : Prop := fnExactValidPrimariesUptoRow.holds Try.pinned (OpenSpec.upto fnExactValidPrimariesSpec)

/-- 'laws.FnExactInkSum', WHERE WHAT IT READS IS OF BULK AT MOST 1048576: true; the input reads as it did. -/
def fnExactInkSumUptoRow : OpenClaim := { program := "ytapmakdflnldnaa", sum := "2d39f74d9ef05062105944f8a686af7ce535c7ff4788eaf943b34e04e5ce01bb", func := "loop.example/g01320/laws.FnExactInkSum", spec := "fnExactInkSum", apart := false, narrowed := true }
def FnExactInkSumUptoSaid : Prop := fnExactInkSumUptoRow.holds Try.pinned (OpenSpec.upto fnExactInkSumSpec)

/-- 'laws.FnExactGreyOf', WHERE WHAT IT READS IS OF BULK AT MOST 1048576: true; the input reads as it did. -/
def fnExactGreyOfUptoRow : OpenClaim := { program := "ytapmakdflnldnaa", sum := "2d39f74d9ef05062105944f8a686af7ce535c7ff4788eaf943b34e04e5ce01bb", func := "loop.example/g01320/laws.FnExactGreyOf", spec := "fnExactGreyOf", apart := false, narrowed := true }
def FnExactGreyOfUptoSaid : Prop := fnExactGreyOfUptoRow.holds Try.pinned (OpenSpec.upto fnExactGreyOfSpec)

/-- 'laws.FnExactDarken', WHERE WHAT IT READS IS OF BULK AT MOST 1048576: true; the input reads as it did. -/
def fnExactDarkenUptoRow : OpenClaim := { program := "ytapmakdflnldnaa", sum := "2d39f74d9ef05062105944f8a686af7ce535c7ff4788eaf943b34e04e5ce01bb", func := "loop.example/g01320/laws.FnExactDarken", spec := "fnExactDarken", apart := false, narrowed := true }
def FnExactDarkenUptoSaid : Prop := fnExactDarkenUptoRow.holds Try.pinned (OpenSpec.upto fnExactDarkenSpec)

/-- 'laws.FnExactFarOf', WHERE WHAT IT READS IS OF BULK AT MOST 1048576: true; the input reads as it did. -/
def fnExactFarOfUptoRow : OpenClaim := { program := "ytapmakdflnldnaa", sum := "2d39f74d9ef05062105944f8a686af7ce535c7ff4788eaf943b34e04e5ce01bb", func := "loop.example/g01320/laws.FnExactFarOf", spec := "fnExactFarOf", apart := false, narrowed := true }
def FnExactFarOfUptoSaid : Prop := fnExactFarOfUptoRow.holds Try.pinned (OpenSpec.upto fnExactFarOfSpec)

/-- 'laws.FnExactWeightsOf', WHERE WHAT IT READS IS OF BULK AT MOST 1048576: true; the input reads as it did. -/
def fnExactWeightsOfUptoRow : OpenClaim := { program := "ytapmakdflnldnaa", sum := "2d39f74d9ef05062105944f8a686af7ce535c7ff4788eaf943b34e04e5ce01bb", func := "loop.example/g01320/laws.FnExactWeightsOf", spec := "fnExactWeightsOf", apart := false, narrowed := true }
def FnExactWeightsOfUptoSaid : Prop := fnExactWeightsOfUptoRow.holds Try.pinned (OpenSpec.upto fnExactWeightsOfSpec)

/-- 'laws.FnExactLimitInk', WHERE WHAT IT READS IS OF BULK AT MOST 1048576: true; the input reads as it did. -/
def fnExactLimitInkUptoRow : OpenClaim := { program := "ytapmakdflnldnaa", sum := "2d39f74d9ef05062105944f8a686af7ce535c7ff4788eaf943b34e04e5ce01bb", func := "loop.example/g01320/laws.FnExactLimitInk", spec := "fnExactLimitInk", apart := false, narrowed := true }
def FnExactLimitInkUptoSaid : Prop := fnExactLimitInkUptoRow.holds Try.pinned (OpenSpec.upto fnExactLimitInkSpec)

/-- 'laws.FnExactGainDots', WHERE WHAT IT READS IS OF BULK AT MOST 1048576: true; the input reads as it did. -/
def fnExactGainDotsUptoRow : OpenClaim := { program := "ytapmakdflnldnaa", sum := "2d39f74d9ef05062105944f8a686af7ce535c7ff4788eaf943b34e04e5ce01bb", func := "loop.example/g01320/laws.FnExactGainDots", spec := "fnExactGainDots", apart := false, narrowed := true }
def FnExactGainDotsUptoSaid : Prop := fnExactGainDotsUptoRow.holds Try.pinned (OpenSpec.upto fnExactGainDotsSpec)

end Rows
end Go.Proofs.Ytapmakdflnldnaa

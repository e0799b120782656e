/-
  The law FnExactValidColour returns true whatever the input, and its argument reads as it did; no conditions.
-/
import Derived.Test.YtapmakdflnldnaaBase
namespace Go.Proofs.Ytapmakdflnldnaa
open Go.Sim Go.ChangeShapes Go.WideShapes Go.ChangeAt Go.RowKit

def isPart (a : Nat) : Bool := bif fcmp .geq .f32 a 0 then fcmp .leq .f32 a 1065353216 else false

def validT (a b c : Bool) : Bool := bif !((bif (!a) then false else bif (!b) then false else bif !c then false else true) == (bif (bif a then b else false) then c else false)) then false else true

theorem validColour_eval (a b c : Nat) : funA Try.prog G0 100 3 [.agg [.flt .f32 a, .flt .f32 b, .flt .f32 c]] [] [] = some (.sbool (validT (isPart a) (isPart b) (isPart c)), []) := by kernel_rfl

theorem validT_true (a b c : Bool) : validT a b c = true := by
  cases a <;> cases b <;> cases c <;> rfl

set_option maxRecDepth 100000 in
theorem validColour_lifted (os : Os) (started : os.Started) (H : Type) (enc : TypeId × Value → H) :
    ReturnsInHanded {} Try.checked os 3 .any (Rows.fnExactValidColourSpec.pre6 enc Try.prog Try.f3 Rows.fnExactValidColourRow.domain false) (Rows.fnExactValidColourSpec.post enc Try.prog Try.f3 false true false false) := by
  refine law_lift (C := Try.checked) (tb := 4) Try.own started (by kernel_rfl) Try.func3 Try.laidOut (by kernel_rfl) rfl rfl Try.underlying4 ?_
    (ChangeSpec.witness6 (enc := enc) (C := Try.checked) false ⟨#[], #[.agg #[.float .f32 0, .float .f32 0, .float .f32 0]], []⟩ 8 (by kernel_rfl) (by kernel_rfl) (by kernel_rfl) (by kernel_rfl)) ?_
  · intro ds hl
    rw [Try.params3] at hl
    match ds, hl with
    | [d], _ => rfl
  · intro W base args ds before hval hA
    have hval : ∀ (j : Nat) t v, Try.f3.params[j]? = some t → args[j]? = some v → Value.okWide Try.prog W .any base t v := hval
    have hA : DataW.TrodAll enc Try.prog W 0 (fun _ => true) true Try.f3.params.toList args.toList ds before := hA
    rw [Try.params3] at hA hval
    obtain ⟨v0, d0, rfl, rfl, h0⟩ := trodAll_one hA
    obtain ⟨xs, x1, x2⟩ := open_aggr (β := fun _ => none) kds23 (hval 0 23 v0 rfl rfl)
    obtain ⟨a, b, c, rfl⟩ := three x2
    exact law_call sound0 mixed (validColour_eval a b c) (validT_true _ _ _) (fun _ h => by simp at h) (.cons _ _ _ _ x1 .nil)

theorem validColour_holds : Rows.FnExactValidColourSaid :=
  OpenClaim.holds_of_wide 3 Try.f3 rfl rfl rfl rfl rfl rfl rfl ⟨rfl, rfl, rfl, rfl, rfl⟩ rfl rfl rfl rfl rfl (by kernel_rfl) Try.func3 (by kernel_rfl)
    (of_decide_eq_true (by kernel_rfl)) (by unfold Func.isWrapper; first | (rw [if_pos (by decide +kernel)]; kernel_rfl) | (rw [if_neg (by decide +kernel)]; exact ⟨rfl, rfl⟩))
    (fun os started H enc _ => validColour_lifted os started H enc)

end Go.Proofs.Ytapmakdflnldnaa

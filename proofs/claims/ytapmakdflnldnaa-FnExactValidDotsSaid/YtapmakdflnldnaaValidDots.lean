/-
  The law FnExactValidDots returns true whatever the input, and its arguments read as they did; no conditions.
-/
import Derived.Test.YtapmakdflnldnaaBase
namespace Go.Proofs.Ytapmakdflnldnaa
open Go.Sim Go.ChangeShapes Go.WideShapes Go.ChangeAt Go.RowKit

noncomputable def G21 : Summ := inlGs Try.prog 1000 [19, 18] G8

theorem G21_ok : SoundG Try.prog G21 := by
  refine SoundG.inls mixed G8_ok fun f hf => ?_
  simp only [List.mem_cons, List.not_mem_nil, or_false] at hf
  rcases hf with rfl | rfl
  · exact Try.call19
  · exact Try.call18

noncomputable def fnExactValidDotsT (a0 a1 a2 : Nat) : Bool := (!(!((valid3 a0 a1 a2) == (valid3 a0 a1 a2))))

theorem fnExactValidDots_eval (a0 a1 a2 : Nat) : funA Try.prog G21 1000 4 [.agg [.flt .f32 a0, .flt .f32 a1, .flt .f32 a2]] [] [] = some (.sbool (fnExactValidDotsT a0 a1 a2), []) := by kernel_rfl

theorem fnExactValidDots_true (a0 a1 a2 : Nat) : fnExactValidDotsT a0 a1 a2 = true := by
  unfold fnExactValidDotsT
  simp

set_option maxRecDepth 100000 in
theorem fnExactValidDots_lifted (os : Os) (started : os.Started) (H : Type) (enc : TypeId × Value → H) :
    ReturnsInHanded {} Try.checked os 4 .any (Rows.fnExactValidDotsSpec.pre6 enc Try.prog Try.f4 Rows.fnExactValidDotsRow.domain false) (Rows.fnExactValidDotsSpec.post enc Try.prog Try.f4 false true false false) := by
  refine law_lift (C := Try.checked) (tb := 4) Try.own started (by kernel_rfl) Try.func4 Try.laidOut (by kernel_rfl) rfl rfl Try.underlying4 ?_
    (ChangeSpec.witness6 (enc := enc) (C := Try.checked) false ⟨#[], #[.agg #[.float .f32 0, .float .f32 0, .float .f32 0]], []⟩ 8 (by kernel_rfl) (by kernel_rfl) (by kernel_rfl) (by kernel_rfl)) ?_
  · intro ds hl
    rw [Try.params4] at hl
    match ds, hl with
    | [d0], _ => rfl
  · intro W base args ds before hval hA
    have hval : ∀ (j : Nat) t v, Try.f4.params[j]? = some t → args[j]? = some v → Value.okWide Try.prog W .any base t v := hval
    have hA : DataW.TrodAll enc Try.prog W 0 (fun _ => true) true Try.f4.params.toList args.toList ds before := hA
    rw [Try.params4] at hA hval
    obtain ⟨v0, d0, rfl, rfl, h0⟩ := trodAll_one hA
    obtain ⟨b0, b1, b2, x0, f0⟩ := open23 (hval 0 23 v0 rfl rfl)
    exact law_call G21_ok mixed (fnExactValidDots_eval b0 b1 b2) (fnExactValidDots_true b0 b1 b2) (fun _ h => by simp at h) (.cons _ _ _ _ x0 .nil)

theorem fnExactValidDots_holds : Rows.FnExactValidDotsSaid :=
  OpenClaim.holds_of_wide 4 Try.f4 rfl rfl rfl rfl rfl rfl rfl ⟨rfl, rfl, rfl, rfl, rfl⟩ rfl rfl rfl rfl rfl (by kernel_rfl) Try.func4 (by kernel_rfl)
    (of_decide_eq_true (by kernel_rfl)) (by unfold Func.isWrapper; first | (rw [if_pos (by decide +kernel)]; kernel_rfl) | (rw [if_neg (by decide +kernel)]; exact ⟨rfl, rfl⟩))
    (fun os started H enc _ => fnExactValidDots_lifted os started H enc)

end Go.Proofs.Ytapmakdflnldnaa

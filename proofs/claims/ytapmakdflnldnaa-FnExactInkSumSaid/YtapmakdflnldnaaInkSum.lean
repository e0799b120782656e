/-
  The law FnExactInkSum returns true whatever the input, and its arguments read as they did; no conditions.
-/
import Derived.Test.YtapmakdflnldnaaBase
namespace Go.Proofs.Ytapmakdflnldnaa
open Go.Sim Go.ChangeShapes Go.WideShapes Go.ChangeAt Go.RowKit

noncomputable def G17 : Summ := inlGs Try.prog 1000 [54] G8

theorem G17_ok : SoundG Try.prog G17 := by
  refine SoundG.inls mixed G8_ok fun f hf => ?_
  simp only [List.mem_cons, List.not_mem_nil, or_false] at hf
  subst hf
  exact Try.call54

noncomputable def inkSum0 (a0 a1 a2 a3 : Nat) : Nat := fltOf (leafAt 0 (funA Try.prog G17 1000 28 [.agg [.flt .f32 a0, .flt .f32 a1, .flt .f32 a2], .flt .f32 a3] [] []))

noncomputable def inkSum1 (a0 a1 a2 a3 : Nat) : Int := intOf (leafAt 1 (funA Try.prog G17 1000 28 [.agg [.flt .f32 a0, .flt .f32 a1, .flt .f32 a2], .flt .f32 a3] [] []))

theorem inkSum_ev28 (a0 a1 a2 a3 : Nat) : funA Try.prog G17 1000 28 [.agg [.flt .f32 a0, .flt .f32 a1, .flt .f32 a2], .flt .f32 a3] [] [] = some (.tup [.flt .f32 (inkSum0 a0 a1 a2 a3), .sint .i64 (inkSum1 a0 a1 a2 a3)], []) := by kernel_rfl

theorem inkSum_ev29 (a0 a1 a2 a3 : Nat) : funA Try.prog G17 1000 29 [.agg [.flt .f32 a0, .flt .f32 a1, .flt .f32 a2], .flt .f32 a3] [] [] = some (.tup [.flt .f32 (inkSum0 a0 a1 a2 a3), .sint .i64 (inkSum1 a0 a1 a2 a3)], []) := by kernel_rfl

noncomputable def inkSum_s : List AV → Option AV
  | [.agg [.flt .f32 a0, .flt .f32 a1, .flt .f32 a2], .flt .f32 a3] => some (.tup [.flt .f32 (inkSum0 a0 a1 a2 a3), .sint .i64 (inkSum1 a0 a1 a2 a3)])
  | _ => none

noncomputable def G18 : Summ := addG 28 (fun xs _ => (inkSum_s xs).map fun v => { v := v }) G17

theorem G18_ok : SoundG Try.prog G18 := by
  refine SoundG.add0' G17_ok mixed Try.call28 fun xs v h => ?_
  unfold inkSum_s at h
  split at h
  · cases h
    exact ⟨rfl, rfl, G17, G17_ok, 1000, [], [], inkSum_ev28 .., fun _ hb => by cases hb⟩
  · cases h

noncomputable def G19 : Summ := addG 29 (fun xs _ => (inkSum_s xs).map fun v => { v := v }) G18

theorem G19_ok : SoundG Try.prog G19 := by
  refine SoundG.add0' G18_ok mixed Try.call29 fun xs v h => ?_
  unfold inkSum_s at h
  split at h
  · cases h
    exact ⟨rfl, rfl, G17, G17_ok, 1000, [], [], inkSum_ev29 .., fun _ hb => by cases hb⟩
  · cases h

noncomputable def G20 : Summ := inlGs Try.prog 1000 [19] G19

theorem G20_ok : SoundG Try.prog G20 := by
  refine SoundG.inls mixed G19_ok fun f hf => ?_
  simp only [List.mem_cons, List.not_mem_nil, or_false] at hf
  subst hf
  exact Try.call19

noncomputable def fnExactInkSumT (a0 a1 a2 a3 : Nat) : Bool := (!((!(sameF (fconv .f32 .f64 (inkSum0 a0 a1 a2 a3)) (fconv .f32 .f64 (inkSum0 a0 a1 a2 a3)))) || (!(decide ((inkSum1 a0 a1 a2 a3) = (inkSum1 a0 a1 a2 a3))))))

theorem fnExactInkSum_eval (a0 a1 a2 a3 : Nat) : funA Try.prog G20 1000 8 [.agg [.flt .f32 a0, .flt .f32 a1, .flt .f32 a2], .flt .f32 a3] [] [] = some (.sbool (fnExactInkSumT a0 a1 a2 a3), []) := by kernel_rfl

theorem fnExactInkSum_true (a0 a1 a2 a3 : Nat) : fnExactInkSumT a0 a1 a2 a3 = true := by
  unfold fnExactInkSumT sameF
  simp [Go.Sim.sameF_self]

set_option maxRecDepth 100000 in
theorem fnExactInkSum_lifted (os : Os) (started : os.Started) (H : Type) (enc : TypeId × Value → H) :
    ReturnsInHanded {} Try.checked os 8 .any (Rows.fnExactInkSumSpec.pre6 enc Try.prog Try.f8 Rows.fnExactInkSumRow.domain false) (Rows.fnExactInkSumSpec.post enc Try.prog Try.f8 false true false false) := by
  refine law_lift (C := Try.checked) (tb := 4) Try.own started (by kernel_rfl) Try.func8 Try.laidOut (by kernel_rfl) rfl rfl Try.underlying4 ?_
    (ChangeSpec.witness6 (enc := enc) (C := Try.checked) false ⟨#[], #[.agg #[.float .f32 0, .float .f32 0, .float .f32 0], .float .f32 0], []⟩ 8 (by kernel_rfl) (by kernel_rfl) (by kernel_rfl) (by kernel_rfl)) ?_
  · intro ds hl
    rw [Try.params8] at hl
    match ds, hl with
    | [d0, d1], _ => rfl
  · intro W base args ds before hval hA
    have hval : ∀ (j : Nat) t v, Try.f8.params[j]? = some t → args[j]? = some v → Value.okWide Try.prog W .any base t v := hval
    have hA : DataW.TrodAll enc Try.prog W 0 (fun _ => true) true Try.f8.params.toList args.toList ds before := hA
    rw [Try.params8] at hA hval
    obtain ⟨v0, v1, d0, d1, p0, p1, rfl, rfl, rfl, h0, h1⟩ := trodAll_two hA
    obtain ⟨b0, b1, b2, x0⟩ := open23 (hval 0 23 v0 rfl rfl)
    obtain ⟨b3, x1⟩ := open22 (hval 1 22 v1 rfl rfl)
    exact law_call G20_ok mixed (fnExactInkSum_eval b0 b1 b2 b3) (fnExactInkSum_true b0 b1 b2 b3) (fun _ h => by simp at h) (.cons _ _ _ _ x0 (.cons _ _ _ _ x1 .nil))

theorem fnExactInkSum_holds : Rows.FnExactInkSumSaid :=
  OpenClaim.holds_of_wide 8 Try.f8 rfl rfl rfl rfl rfl rfl rfl ⟨rfl, rfl, rfl, rfl, rfl⟩ rfl rfl rfl rfl rfl (by kernel_rfl) Try.func8 (by kernel_rfl)
    (of_decide_eq_true (by kernel_rfl)) (by unfold Func.isWrapper; first | (rw [if_pos (by decide +kernel)]; kernel_rfl) | (rw [if_neg (by decide +kernel)]; exact ⟨rfl, rfl⟩))
    (fun os started H enc _ => fnExactInkSum_lifted os started H enc)

end Go.Proofs.Ytapmakdflnldnaa

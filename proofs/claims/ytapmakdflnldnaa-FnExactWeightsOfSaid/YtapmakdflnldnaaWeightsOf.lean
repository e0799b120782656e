/-
  The law FnExactWeightsOf returns true whatever the input, and its arguments read as they did; no conditions.
-/
import Derived.Test.YtapmakdflnldnaaBase
namespace Go.Proofs.Ytapmakdflnldnaa
open Go.Sim Go.ChangeShapes Go.WideShapes Go.ChangeAt Go.RowKit

noncomputable def G33 : Summ := inlGs Try.prog 1000 [60, 57, 61] G8

theorem G33_ok : SoundG Try.prog G33 := by
  refine SoundG.inls mixed G8_ok fun f hf => ?_
  simp only [List.mem_cons, List.not_mem_nil, or_false] at hf
  rcases hf with rfl | rfl | rfl
  · exact Try.call60
  · exact Try.call57
  · exact Try.call61

noncomputable def weightsOf0 (a0 a1 a2 : Nat) : Nat := fltOf (leafAt 0 (funA Try.prog G33 1000 38 [.agg [.flt .f32 a0, .flt .f32 a1, .flt .f32 a2]] [] []))

noncomputable def weightsOf1 (a0 a1 a2 : Nat) : Nat := fltOf (leafAt 1 (funA Try.prog G33 1000 38 [.agg [.flt .f32 a0, .flt .f32 a1, .flt .f32 a2]] [] []))

noncomputable def weightsOf2 (a0 a1 a2 : Nat) : Nat := fltOf (leafAt 2 (funA Try.prog G33 1000 38 [.agg [.flt .f32 a0, .flt .f32 a1, .flt .f32 a2]] [] []))

noncomputable def weightsOf3 (a0 a1 a2 : Nat) : Nat := fltOf (leafAt 3 (funA Try.prog G33 1000 38 [.agg [.flt .f32 a0, .flt .f32 a1, .flt .f32 a2]] [] []))

noncomputable def weightsOf4 (a0 a1 a2 : Nat) : Nat := fltOf (leafAt 4 (funA Try.prog G33 1000 38 [.agg [.flt .f32 a0, .flt .f32 a1, .flt .f32 a2]] [] []))

noncomputable def weightsOf5 (a0 a1 a2 : Nat) : Nat := fltOf (leafAt 5 (funA Try.prog G33 1000 38 [.agg [.flt .f32 a0, .flt .f32 a1, .flt .f32 a2]] [] []))

noncomputable def weightsOf6 (a0 a1 a2 : Nat) : Nat := fltOf (leafAt 6 (funA Try.prog G33 1000 38 [.agg [.flt .f32 a0, .flt .f32 a1, .flt .f32 a2]] [] []))

noncomputable def weightsOf7 (a0 a1 a2 : Nat) : Nat := fltOf (leafAt 7 (funA Try.prog G33 1000 38 [.agg [.flt .f32 a0, .flt .f32 a1, .flt .f32 a2]] [] []))

noncomputable def weightsOf8 (a0 a1 a2 : Nat) : Int := intOf (leafAt 8 (funA Try.prog G33 1000 38 [.agg [.flt .f32 a0, .flt .f32 a1, .flt .f32 a2]] [] []))

theorem weightsOf_ev38 (a0 a1 a2 : Nat) : funA Try.prog G33 1000 38 [.agg [.flt .f32 a0, .flt .f32 a1, .flt .f32 a2]] [] [] = some (.tup [.agg [.flt .f32 (weightsOf0 a0 a1 a2), .flt .f32 (weightsOf1 a0 a1 a2), .flt .f32 (weightsOf2 a0 a1 a2), .flt .f32 (weightsOf3 a0 a1 a2), .flt .f32 (weightsOf4 a0 a1 a2), .flt .f32 (weightsOf5 a0 a1 a2), .flt .f32 (weightsOf6 a0 a1 a2), .flt .f32 (weightsOf7 a0 a1 a2)], .sint .i64 (weightsOf8 a0 a1 a2)], []) := by kernel_rfl

theorem weightsOf_ev39 (a0 a1 a2 : Nat) : funA Try.prog G33 1000 39 [.agg [.flt .f32 a0, .flt .f32 a1, .flt .f32 a2]] [] [] = some (.tup [.agg [.flt .f32 (weightsOf0 a0 a1 a2), .flt .f32 (weightsOf1 a0 a1 a2), .flt .f32 (weightsOf2 a0 a1 a2), .flt .f32 (weightsOf3 a0 a1 a2), .flt .f32 (weightsOf4 a0 a1 a2), .flt .f32 (weightsOf5 a0 a1 a2), .flt .f32 (weightsOf6 a0 a1 a2), .flt .f32 (weightsOf7 a0 a1 a2)], .sint .i64 (weightsOf8 a0 a1 a2)], []) := by kernel_rfl

noncomputable def weightsOf_s : List AV → Option AV
  | [.agg [.flt .f32 a0, .flt .f32 a1, .flt .f32 a2]] => some (.tup [.agg [.flt .f32 (weightsOf0 a0 a1 a2), .flt .f32 (weightsOf1 a0 a1 a2), .flt .f32 (weightsOf2 a0 a1 a2), .flt .f32 (weightsOf3 a0 a1 a2), .flt .f32 (weightsOf4 a0 a1 a2), .flt .f32 (weightsOf5 a0 a1 a2), .flt .f32 (weightsOf6 a0 a1 a2), .flt .f32 (weightsOf7 a0 a1 a2)], .sint .i64 (weightsOf8 a0 a1 a2)])
  | _ => none

noncomputable def G34 : Summ := addG 38 (fun xs _ => (weightsOf_s xs).map fun v => { v := v }) G33

theorem G34_ok : SoundG Try.prog G34 := by
  refine SoundG.add0' G33_ok mixed Try.call38 fun xs v h => ?_
  unfold weightsOf_s at h
  split at h
  · cases h
    exact ⟨rfl, rfl, G33, G33_ok, 1000, [], [], weightsOf_ev38 .., fun _ hb => by cases hb⟩
  · cases h

noncomputable def G35 : Summ := addG 39 (fun xs _ => (weightsOf_s xs).map fun v => { v := v }) G34

theorem G35_ok : SoundG Try.prog G35 := by
  refine SoundG.add0' G34_ok mixed Try.call39 fun xs v h => ?_
  unfold weightsOf_s at h
  split at h
  · cases h
    exact ⟨rfl, rfl, G33, G33_ok, 1000, [], [], weightsOf_ev39 .., fun _ hb => by cases hb⟩
  · cases h

noncomputable def G36 : Summ := inlGs Try.prog 1000 [19, 40] G35

theorem G36_ok : SoundG Try.prog G36 := by
  refine SoundG.inls mixed G35_ok fun f hf => ?_
  simp only [List.mem_cons, List.not_mem_nil, or_false] at hf
  rcases hf with rfl | rfl
  · exact Try.call19
  · exact Try.call40

noncomputable def fnExactWeightsOfT (a0 a1 a2 : Nat) : Bool := (!((!(bif (!(sameF (fconv .f32 .f64 (weightsOf0 a0 a1 a2)) (fconv .f32 .f64 (weightsOf0 a0 a1 a2)))) then false else (bif (!(sameF (fconv .f32 .f64 (weightsOf1 a0 a1 a2)) (fconv .f32 .f64 (weightsOf1 a0 a1 a2)))) then false else (bif (!(sameF (fconv .f32 .f64 (weightsOf2 a0 a1 a2)) (fconv .f32 .f64 (weightsOf2 a0 a1 a2)))) then false else (bif (!(sameF (fconv .f32 .f64 (weightsOf3 a0 a1 a2)) (fconv .f32 .f64 (weightsOf3 a0 a1 a2)))) then false else (bif (!(sameF (fconv .f32 .f64 (weightsOf4 a0 a1 a2)) (fconv .f32 .f64 (weightsOf4 a0 a1 a2)))) then false else (bif (!(sameF (fconv .f32 .f64 (weightsOf5 a0 a1 a2)) (fconv .f32 .f64 (weightsOf5 a0 a1 a2)))) then false else (bif (!(sameF (fconv .f32 .f64 (weightsOf6 a0 a1 a2)) (fconv .f32 .f64 (weightsOf6 a0 a1 a2)))) then false else (!(!(sameF (fconv .f32 .f64 (weightsOf7 a0 a1 a2)) (fconv .f32 .f64 (weightsOf7 a0 a1 a2))))))))))))) || (!(decide ((weightsOf8 a0 a1 a2) = (weightsOf8 a0 a1 a2))))))

theorem fnExactWeightsOf_eval (a0 a1 a2 : Nat) : funA Try.prog G36 1000 12 [.agg [.flt .f32 a0, .flt .f32 a1, .flt .f32 a2]] [] [] = some (.sbool (fnExactWeightsOfT a0 a1 a2), []) := by kernel_rfl

theorem fnExactWeightsOf_true (a0 a1 a2 : Nat) : fnExactWeightsOfT a0 a1 a2 = true := by
  unfold fnExactWeightsOfT sameF
  simp [Go.Sim.sameF_self]

set_option maxRecDepth 100000 in
theorem fnExactWeightsOf_lifted (os : Os) (started : os.Started) (H : Type) (enc : TypeId × Value → H) :
    ReturnsInHanded {} Try.checked os 12 .any (Rows.fnExactWeightsOfSpec.pre6 enc Try.prog Try.f12 Rows.fnExactWeightsOfRow.domain false) (Rows.fnExactWeightsOfSpec.post enc Try.prog Try.f12 false true false false) := by
  refine law_lift (C := Try.checked) (tb := 4) Try.own started (by kernel_rfl) Try.func12 Try.laidOut (by kernel_rfl) rfl rfl Try.underlying4 ?_
    (ChangeSpec.witness6 (enc := enc) (C := Try.checked) false ⟨#[], #[.agg #[.float .f32 0, .float .f32 0, .float .f32 0]], []⟩ 8 (by kernel_rfl) (by kernel_rfl) (by kernel_rfl) (by kernel_rfl)) ?_
  · intro ds hl
    rw [Try.params12] at hl
    match ds, hl with
    | [d0], _ => rfl
  · intro W base args ds before hval hA
    have hval : ∀ (j : Nat) t v, Try.f12.params[j]? = some t → args[j]? = some v → Value.okWide Try.prog W .any base t v := hval
    have hA : DataW.TrodAll enc Try.prog W 0 (fun _ => true) true Try.f12.params.toList args.toList ds before := hA
    rw [Try.params12] at hA hval
    obtain ⟨v0, d0, rfl, rfl, h0⟩ := trodAll_one hA
    obtain ⟨b0, b1, b2, x0⟩ := open23 (hval 0 23 v0 rfl rfl)
    exact law_call G36_ok mixed (fnExactWeightsOf_eval b0 b1 b2) (fnExactWeightsOf_true b0 b1 b2) (fun _ h => by simp at h) (.cons _ _ _ _ x0 .nil)

theorem fnExactWeightsOf_holds : Rows.FnExactWeightsOfSaid :=
  OpenClaim.holds_of_wide 12 Try.f12 rfl rfl rfl rfl rfl rfl rfl ⟨rfl, rfl, rfl, rfl, rfl⟩ rfl rfl rfl rfl rfl (by kernel_rfl) Try.func12 (by kernel_rfl)
    (of_decide_eq_true (by kernel_rfl)) (by unfold Func.isWrapper; first | (rw [if_pos (by decide +kernel)]; kernel_rfl) | (rw [if_neg (by decide +kernel)]; exact ⟨rfl, rfl⟩))
    (fun os started H enc _ => fnExactWeightsOf_lifted os started H enc)

end Go.Proofs.Ytapmakdflnldnaa

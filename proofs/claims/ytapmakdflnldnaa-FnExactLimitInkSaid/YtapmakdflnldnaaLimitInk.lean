/-
  The law FnExactLimitInk returns true whatever the input, and its arguments read as they did; no conditions.
-/
import Derived.Test.YtapmakdflnldnaaBase
namespace Go.Proofs.Ytapmakdflnldnaa
open Go.Sim Go.ChangeShapes Go.WideShapes Go.ChangeAt Go.RowKit

noncomputable def G37 : Summ := inlGs Try.prog 1000 [62, 54, 57] G8

theorem G37_ok : SoundG Try.prog G37 := by
  refine SoundG.inls mixed G8_ok fun f hf => ?_
  simp only [List.mem_cons, List.not_mem_nil, or_false] at hf
  rcases hf with rfl | rfl | rfl
  · exact Try.call62
  · exact Try.call54
  · exact Try.call57

noncomputable def limitInk0 (a0 a1 a2 a3 : Nat) : Nat := fltOf (leafAt 0 (funA Try.prog G37 1000 41 [.agg [.flt .f32 a0, .flt .f32 a1, .flt .f32 a2], .flt .f32 a3] [] []))

noncomputable def limitInk1 (a0 a1 a2 a3 : Nat) : Nat := fltOf (leafAt 1 (funA Try.prog G37 1000 41 [.agg [.flt .f32 a0, .flt .f32 a1, .flt .f32 a2], .flt .f32 a3] [] []))

noncomputable def limitInk2 (a0 a1 a2 a3 : Nat) : Nat := fltOf (leafAt 2 (funA Try.prog G37 1000 41 [.agg [.flt .f32 a0, .flt .f32 a1, .flt .f32 a2], .flt .f32 a3] [] []))

noncomputable def limitInk3 (a0 a1 a2 a3 : Nat) : Int := intOf (leafAt 3 (funA Try.prog G37 1000 41 [.agg [.flt .f32 a0, .flt .f32 a1, .flt .f32 a2], .flt .f32 a3] [] []))

theorem limitInk_ev41 (a0 a1 a2 a3 : Nat) : funA Try.prog G37 1000 41 [.agg [.flt .f32 a0, .flt .f32 a1, .flt .f32 a2], .flt .f32 a3] [] [] = some (.tup [.agg [.flt .f32 (limitInk0 a0 a1 a2 a3), .flt .f32 (limitInk1 a0 a1 a2 a3), .flt .f32 (limitInk2 a0 a1 a2 a3)], .sint .i64 (limitInk3 a0 a1 a2 a3)], []) := by kernel_rfl

theorem limitInk_ev42 (a0 a1 a2 a3 : Nat) : funA Try.prog G37 1000 42 [.agg [.flt .f32 a0, .flt .f32 a1, .flt .f32 a2], .flt .f32 a3] [] [] = some (.tup [.agg [.flt .f32 (limitInk0 a0 a1 a2 a3), .flt .f32 (limitInk1 a0 a1 a2 a3), .flt .f32 (limitInk2 a0 a1 a2 a3)], .sint .i64 (limitInk3 a0 a1 a2 a3)], []) := by kernel_rfl

noncomputable def limitInk_s : List AV → Option AV
  | [.agg [.flt .f32 a0, .flt .f32 a1, .flt .f32 a2], .flt .f32 a3] => some (.tup [.agg [.flt .f32 (limitInk0 a0 a1 a2 a3), .flt .f32 (limitInk1 a0 a1 a2 a3), .flt .f32 (limitInk2 a0 a1 a2 a3)], .sint .i64 (limitInk3 a0 a1 a2 a3)])
  | _ => none

noncomputable def G38 : Summ := addG 41 (fun xs _ => (limitInk_s xs).map fun v => { v := v }) G37

theorem G38_ok : SoundG Try.prog G38 := by
  refine SoundG.add0' G37_ok mixed Try.call41 fun xs v h => ?_
  unfold limitInk_s at h
  split at h
  · cases h
    exact ⟨rfl, rfl, G37, G37_ok, 1000, [], [], limitInk_ev41 .., fun _ hb => by cases hb⟩
  · cases h

noncomputable def G39 : Summ := addG 42 (fun xs _ => (limitInk_s xs).map fun v => { v := v }) G38

theorem G39_ok : SoundG Try.prog G39 := by
  refine SoundG.add0' G38_ok mixed Try.call42 fun xs v h => ?_
  unfold limitInk_s at h
  split at h
  · cases h
    exact ⟨rfl, rfl, G37, G37_ok, 1000, [], [], limitInk_ev42 .., fun _ hb => by cases hb⟩
  · cases h

noncomputable def G40 : Summ := inlGs Try.prog 1000 [19, 43] G39

theorem G40_ok : SoundG Try.prog G40 := by
  refine SoundG.inls mixed G39_ok fun f hf => ?_
  simp only [List.mem_cons, List.not_mem_nil, or_false] at hf
  rcases hf with rfl | rfl
  · exact Try.call19
  · exact Try.call43

noncomputable def fnExactLimitInkT (a0 a1 a2 a3 : Nat) : Bool := (!((!(bif (!(sameF (fconv .f32 .f64 (limitInk0 a0 a1 a2 a3)) (fconv .f32 .f64 (limitInk0 a0 a1 a2 a3)))) then false else (bif (!(sameF (fconv .f32 .f64 (limitInk1 a0 a1 a2 a3)) (fconv .f32 .f64 (limitInk1 a0 a1 a2 a3)))) then false else (!(!(sameF (fconv .f32 .f64 (limitInk2 a0 a1 a2 a3)) (fconv .f32 .f64 (limitInk2 a0 a1 a2 a3)))))))) || (!(decide ((limitInk3 a0 a1 a2 a3) = (limitInk3 a0 a1 a2 a3))))))

theorem fnExactLimitInk_eval (a0 a1 a2 a3 : Nat) : funA Try.prog G40 1000 13 [.agg [.flt .f32 a0, .flt .f32 a1, .flt .f32 a2], .flt .f32 a3] [] [] = some (.sbool (fnExactLimitInkT a0 a1 a2 a3), []) := by kernel_rfl

theorem fnExactLimitInk_true (a0 a1 a2 a3 : Nat) : fnExactLimitInkT a0 a1 a2 a3 = true := by
  unfold fnExactLimitInkT sameF
  simp [Go.Sim.sameF_self]

set_option maxRecDepth 100000 in
theorem fnExactLimitInk_lifted (os : Os) (started : os.Started) (H : Type) (enc : TypeId × Value → H) :
    ReturnsInHanded {} Try.checked os 13 .any (Rows.fnExactLimitInkSpec.pre6 enc Try.prog Try.f13 Rows.fnExactLimitInkRow.domain false) (Rows.fnExactLimitInkSpec.post enc Try.prog Try.f13 false true false false) := by
  refine law_lift (C := Try.checked) (tb := 4) Try.own started (by kernel_rfl) Try.func13 Try.laidOut (by kernel_rfl) rfl rfl Try.underlying4 ?_
    (ChangeSpec.witness6 (enc := enc) (C := Try.checked) false ⟨#[], #[.agg #[.float .f32 0, .float .f32 0, .float .f32 0], .float .f32 0], []⟩ 8 (by kernel_rfl) (by kernel_rfl) (by kernel_rfl) (by kernel_rfl)) ?_
  · intro ds hl
    rw [Try.params13] at hl
    match ds, hl with
    | [d0, d1], _ => rfl
  · intro W base args ds before hval hA
    have hval : ∀ (j : Nat) t v, Try.f13.params[j]? = some t → args[j]? = some v → Value.okWide Try.prog W .any base t v := hval
    have hA : DataW.TrodAll enc Try.prog W 0 (fun _ => true) true Try.f13.params.toList args.toList ds before := hA
    rw [Try.params13] at hA hval
    obtain ⟨v0, v1, d0, d1, p0, p1, rfl, rfl, rfl, h0, h1⟩ := trodAll_two hA
    obtain ⟨b0, b1, b2, x0⟩ := open23 (hval 0 23 v0 rfl rfl)
    obtain ⟨b3, x1⟩ := open22 (hval 1 22 v1 rfl rfl)
    exact law_call G40_ok mixed (fnExactLimitInk_eval b0 b1 b2 b3) (fnExactLimitInk_true b0 b1 b2 b3) (fun _ h => by simp at h) (.cons _ _ _ _ x0 (.cons _ _ _ _ x1 .nil))

theorem fnExactLimitInk_holds : Rows.FnExactLimitInkSaid :=
  OpenClaim.holds_of_wide 13 Try.f13 rfl rfl rfl rfl rfl rfl rfl ⟨rfl, rfl, rfl, rfl, rfl⟩ rfl rfl rfl rfl rfl (by kernel_rfl) Try.func13 (by kernel_rfl)
    (of_decide_eq_true (by kernel_rfl)) (by unfold Func.isWrapper; first | (rw [if_pos (by decide +kernel)]; kernel_rfl) | (rw [if_neg (by decide +kernel)]; exact ⟨rfl, rfl⟩))
    (fun os started H enc _ => fnExactLimitInk_lifted os started H enc)

end Go.Proofs.Ytapmakdflnldnaa

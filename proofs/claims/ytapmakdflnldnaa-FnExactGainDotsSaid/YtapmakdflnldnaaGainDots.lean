/-
  The law FnExactGainDots returns true whatever the input, and its arguments read as they did; no conditions.
-/
import Derived.Test.YtapmakdflnldnaaBase
namespace Go.Proofs.Ytapmakdflnldnaa
open Go.Sim Go.ChangeShapes Go.WideShapes Go.ChangeAt Go.RowKit

noncomputable def G41 : Summ := inlGs Try.prog 1000 [63, 69, 64, 62, 65, 57, 70, 66] G8

theorem G41_ok : SoundG Try.prog G41 := by
  refine SoundG.inls mixed G8_ok fun f hf => ?_
  simp only [List.mem_cons, List.not_mem_nil, or_false] at hf
  rcases hf with rfl | rfl | rfl | rfl | rfl | rfl | rfl | rfl
  · exact Try.call63
  · exact Try.call69
  · exact Try.call64
  · exact Try.call62
  · exact Try.call65
  · exact Try.call57
  · exact Try.call70
  · exact Try.call66

noncomputable def gainDots0 (a0 a1 a2 a3 : Nat) : Nat := fltOf (leafAt 0 (funA Try.prog G41 1000 44 [.agg [.flt .f32 a0, .flt .f32 a1, .flt .f32 a2], .flt .f32 a3] [] []))

noncomputable def gainDots1 (a0 a1 a2 a3 : Nat) : Nat := fltOf (leafAt 1 (funA Try.prog G41 1000 44 [.agg [.flt .f32 a0, .flt .f32 a1, .flt .f32 a2], .flt .f32 a3] [] []))

noncomputable def gainDots2 (a0 a1 a2 a3 : Nat) : Nat := fltOf (leafAt 2 (funA Try.prog G41 1000 44 [.agg [.flt .f32 a0, .flt .f32 a1, .flt .f32 a2], .flt .f32 a3] [] []))

noncomputable def gainDots3 (a0 a1 a2 a3 : Nat) : Int := intOf (leafAt 3 (funA Try.prog G41 1000 44 [.agg [.flt .f32 a0, .flt .f32 a1, .flt .f32 a2], .flt .f32 a3] [] []))

theorem gainDots_ev44 (a0 a1 a2 a3 : Nat) : funA Try.prog G41 1000 44 [.agg [.flt .f32 a0, .flt .f32 a1, .flt .f32 a2], .flt .f32 a3] [] [] = some (.tup [.agg [.flt .f32 (gainDots0 a0 a1 a2 a3), .flt .f32 (gainDots1 a0 a1 a2 a3), .flt .f32 (gainDots2 a0 a1 a2 a3)], .sint .i64 (gainDots3 a0 a1 a2 a3)], []) := by kernel_rfl

theorem gainDots_ev45 (a0 a1 a2 a3 : Nat) : funA Try.prog G41 1000 45 [.agg [.flt .f32 a0, .flt .f32 a1, .flt .f32 a2], .flt .f32 a3] [] [] = some (.tup [.agg [.flt .f32 (gainDots0 a0 a1 a2 a3), .flt .f32 (gainDots1 a0 a1 a2 a3), .flt .f32 (gainDots2 a0 a1 a2 a3)], .sint .i64 (gainDots3 a0 a1 a2 a3)], []) := by kernel_rfl

noncomputable def gainDots_s : List AV → Option AV
  | [.agg [.flt .f32 a0, .flt .f32 a1, .flt .f32 a2], .flt .f32 a3] => some (.tup [.agg [.flt .f32 (gainDots0 a0 a1 a2 a3), .flt .f32 (gainDots1 a0 a1 a2 a3), .flt .f32 (gainDots2 a0 a1 a2 a3)], .sint .i64 (gainDots3 a0 a1 a2 a3)])
  | _ => none

noncomputable def G42 : Summ := addG 44 (fun xs _ => (gainDots_s xs).map fun v => { v := v }) G41

theorem G42_ok : SoundG Try.prog G42 := by
  refine SoundG.add0' G41_ok mixed Try.call44 fun xs v h => ?_
  unfold gainDots_s at h
  split at h
  · cases h
    exact ⟨rfl, rfl, G41, G41_ok, 1000, [], [], gainDots_ev44 .., fun _ hb => by cases hb⟩
  · cases h

noncomputable def G43 : Summ := addG 45 (fun xs _ => (gainDots_s xs).map fun v => { v := v }) G42

theorem G43_ok : SoundG Try.prog G43 := by
  refine SoundG.add0' G42_ok mixed Try.call45 fun xs v h => ?_
  unfold gainDots_s at h
  split at h
  · cases h
    exact ⟨rfl, rfl, G41, G41_ok, 1000, [], [], gainDots_ev45 .., fun _ hb => by cases hb⟩
  · cases h

noncomputable def G44 : Summ := inlGs Try.prog 1000 [19, 43] G43

theorem G44_ok : SoundG Try.prog G44 := by
  refine SoundG.inls mixed G43_ok fun f hf => ?_
  simp only [List.mem_cons, List.not_mem_nil, or_false] at hf
  rcases hf with rfl | rfl
  · exact Try.call19
  · exact Try.call43

noncomputable def fnExactGainDotsT (a0 a1 a2 a3 : Nat) : Bool := (!((!(bif (!(sameF (fconv .f32 .f64 (gainDots0 a0 a1 a2 a3)) (fconv .f32 .f64 (gainDots0 a0 a1 a2 a3)))) then false else (bif (!(sameF (fconv .f32 .f64 (gainDots1 a0 a1 a2 a3)) (fconv .f32 .f64 (gainDots1 a0 a1 a2 a3)))) then false else (!(!(sameF (fconv .f32 .f64 (gainDots2 a0 a1 a2 a3)) (fconv .f32 .f64 (gainDots2 a0 a1 a2 a3)))))))) || (!(decide ((gainDots3 a0 a1 a2 a3) = (gainDots3 a0 a1 a2 a3))))))

theorem fnExactGainDots_eval (a0 a1 a2 a3 : Nat) : funA Try.prog G44 1000 14 [.agg [.flt .f32 a0, .flt .f32 a1, .flt .f32 a2], .flt .f32 a3] [] [] = some (.sbool (fnExactGainDotsT a0 a1 a2 a3), []) := by kernel_rfl

theorem fnExactGainDots_true (a0 a1 a2 a3 : Nat) : fnExactGainDotsT a0 a1 a2 a3 = true := by
  unfold fnExactGainDotsT sameF
  simp [Go.Sim.sameF_self]

set_option maxRecDepth 100000 in
theorem fnExactGainDots_lifted (os : Os) (started : os.Started) (H : Type) (enc : TypeId × Value → H) :
    ReturnsInHanded {} Try.checked os 14 .any (Rows.fnExactGainDotsSpec.pre6 enc Try.prog Try.f14 Rows.fnExactGainDotsRow.domain false) (Rows.fnExactGainDotsSpec.post enc Try.prog Try.f14 false true false false) := by
  refine law_lift (C := Try.checked) (tb := 4) Try.own started (by kernel_rfl) Try.func14 Try.laidOut (by kernel_rfl) rfl rfl Try.underlying4 ?_
    (ChangeSpec.witness6 (enc := enc) (C := Try.checked) false ⟨#[], #[.agg #[.float .f32 0, .float .f32 0, .float .f32 0], .float .f32 0], []⟩ 8 (by kernel_rfl) (by kernel_rfl) (by kernel_rfl) (by kernel_rfl)) ?_
  · intro ds hl
    rw [Try.params14] at hl
    match ds, hl with
    | [d0, d1], _ => rfl
  · intro W base args ds before hval hA
    have hval : ∀ (j : Nat) t v, Try.f14.params[j]? = some t → args[j]? = some v → Value.okWide Try.prog W .any base t v := hval
    have hA : DataW.TrodAll enc Try.prog W 0 (fun _ => true) true Try.f14.params.toList args.toList ds before := hA
    rw [Try.params14] at hA hval
    obtain ⟨v0, v1, d0, d1, p0, p1, rfl, rfl, rfl, h0, h1⟩ := trodAll_two hA
    obtain ⟨b0, b1, b2, x0⟩ := open23 (hval 0 23 v0 rfl rfl)
    obtain ⟨b3, x1⟩ := open22 (hval 1 22 v1 rfl rfl)
    exact law_call G44_ok mixed (fnExactGainDots_eval b0 b1 b2 b3) (fnExactGainDots_true b0 b1 b2 b3) (fun _ h => by simp at h) (.cons _ _ _ _ x0 (.cons _ _ _ _ x1 .nil))

theorem fnExactGainDots_holds : Rows.FnExactGainDotsSaid :=
  OpenClaim.holds_of_wide 14 Try.f14 rfl rfl rfl rfl rfl rfl rfl ⟨rfl, rfl, rfl, rfl, rfl⟩ rfl rfl rfl rfl rfl (by kernel_rfl) Try.func14 (by kernel_rfl)
    (of_decide_eq_true (by kernel_rfl)) (by unfold Func.isWrapper; first | (rw [if_pos (by decide +kernel)]; kernel_rfl) | (rw [if_neg (by decide +kernel)]; exact ⟨rfl, rfl⟩))
    (fun os started H enc _ => fnExactGainDots_lifted os started H enc)

end Go.Proofs.Ytapmakdflnldnaa

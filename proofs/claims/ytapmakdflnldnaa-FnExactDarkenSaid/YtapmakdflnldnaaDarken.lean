/-
  The law FnExactDarken returns true whatever the input, and its arguments read as they did; no conditions.
-/
import Derived.Test.YtapmakdflnldnaaBase
namespace Go.Proofs.Ytapmakdflnldnaa
open Go.Sim Go.ChangeShapes Go.WideShapes Go.ChangeAt Go.RowKit

noncomputable def G25 : Summ := inlGs Try.prog 1000 [57] G8

theorem G25_ok : SoundG Try.prog G25 := by
  refine SoundG.inls mixed G8_ok fun f hf => ?_
  simp only [List.mem_cons, List.not_mem_nil, or_false] at hf
  subst hf
  exact Try.call57

noncomputable def darken0 (a0 a1 a2 a3 : Nat) : Nat := fltOf (leafAt 0 (funA Try.prog G25 1000 33 [.agg [.flt .f32 a0, .flt .f32 a1, .flt .f32 a2], .flt .f32 a3] [] []))

noncomputable def darken1 (a0 a1 a2 a3 : Nat) : Nat := fltOf (leafAt 1 (funA Try.prog G25 1000 33 [.agg [.flt .f32 a0, .flt .f32 a1, .flt .f32 a2], .flt .f32 a3] [] []))

noncomputable def darken2 (a0 a1 a2 a3 : Nat) : Nat := fltOf (leafAt 2 (funA Try.prog G25 1000 33 [.agg [.flt .f32 a0, .flt .f32 a1, .flt .f32 a2], .flt .f32 a3] [] []))

noncomputable def darken3 (a0 a1 a2 a3 : Nat) : Int := intOf (leafAt 3 (funA Try.prog G25 1000 33 [.agg [.flt .f32 a0, .flt .f32 a1, .flt .f32 a2], .flt .f32 a3] [] []))

theorem darken_ev33 (a0 a1 a2 a3 : Nat) : funA Try.prog G25 1000 33 [.agg [.flt .f32 a0, .flt .f32 a1, .flt .f32 a2], .flt .f32 a3] [] [] = some (.tup [.agg [.flt .f32 (darken0 a0 a1 a2 a3), .flt .f32 (darken1 a0 a1 a2 a3), .flt .f32 (darken2 a0 a1 a2 a3)], .sint .i64 (darken3 a0 a1 a2 a3)], []) := by kernel_rfl

theorem darken_ev34 (a0 a1 a2 a3 : Nat) : funA Try.prog G25 1000 34 [.agg [.flt .f32 a0, .flt .f32 a1, .flt .f32 a2], .flt .f32 a3] [] [] = some (.tup [.agg [.flt .f32 (darken0 a0 a1 a2 a3), .flt .f32 (darken1 a0 a1 a2 a3), .flt .f32 (darken2 a0 a1 a2 a3)], .sint .i64 (darken3 a0 a1 a2 a3)], []) := by kernel_rfl

noncomputable def darken_s : List AV → Option AV
  | [.agg [.flt .f32 a0, .flt .f32 a1, .flt .f32 a2], .flt .f32 a3] => some (.tup [.agg [.flt .f32 (darken0 a0 a1 a2 a3), .flt .f32 (darken1 a0 a1 a2 a3), .flt .f32 (darken2 a0 a1 a2 a3)], .sint .i64 (darken3 a0 a1 a2 a3)])
  | _ => none

noncomputable def G26 : Summ := addG 33 (fun xs _ => (darken_s xs).map fun v => { v := v }) G25

theorem G26_ok : SoundG Try.prog G26 := by
  refine SoundG.add0' G25_ok mixed Try.call33 fun xs v h => ?_
  unfold darken_s at h
  split at h
  · cases h
    exact ⟨rfl, rfl, G25, G25_ok, 1000, [], [], darken_ev33 .., fun _ hb => by cases hb⟩
  · cases h

noncomputable def G27 : Summ := addG 34 (fun xs _ => (darken_s xs).map fun v => { v := v }) G26

theorem G27_ok : SoundG Try.prog G27 := by
  refine SoundG.add0' G26_ok mixed Try.call34 fun xs v h => ?_
  unfold darken_s at h
  split at h
  · cases h
    exact ⟨rfl, rfl, G25, G25_ok, 1000, [], [], darken_ev34 .., fun _ hb => by cases hb⟩
  · cases h

noncomputable def G28 : Summ := inlGs Try.prog 1000 [16, 35] G27

theorem G28_ok : SoundG Try.prog G28 := by
  refine SoundG.inls mixed G27_ok fun f hf => ?_
  simp only [List.mem_cons, List.not_mem_nil, or_false] at hf
  rcases hf with rfl | rfl
  · exact Try.call16
  · exact Try.call35

noncomputable def fnExactDarkenT (a0 a1 a2 a3 : Nat) : Bool := (!((!(bif (!(sameF (fconv .f32 .f64 (darken0 a0 a1 a2 a3)) (fconv .f32 .f64 (darken0 a0 a1 a2 a3)))) then false else (bif (!(sameF (fconv .f32 .f64 (darken1 a0 a1 a2 a3)) (fconv .f32 .f64 (darken1 a0 a1 a2 a3)))) then false else (!(!(sameF (fconv .f32 .f64 (darken2 a0 a1 a2 a3)) (fconv .f32 .f64 (darken2 a0 a1 a2 a3)))))))) || (!(decide ((darken3 a0 a1 a2 a3) = (darken3 a0 a1 a2 a3))))))

theorem fnExactDarken_eval (a0 a1 a2 a3 : Nat) : funA Try.prog G28 1000 10 [.agg [.flt .f32 a0, .flt .f32 a1, .flt .f32 a2], .flt .f32 a3] [] [] = some (.sbool (fnExactDarkenT a0 a1 a2 a3), []) := by kernel_rfl

theorem fnExactDarken_true (a0 a1 a2 a3 : Nat) : fnExactDarkenT a0 a1 a2 a3 = true := by
  unfold fnExactDarkenT sameF
  simp [Go.Sim.sameF_self]

set_option maxRecDepth 100000 in
theorem fnExactDarken_lifted (os : Os) (started : os.Started) (H : Type) (enc : TypeId × Value → H) :
    ReturnsInHanded {} Try.checked os 10 .any (Rows.fnExactDarkenSpec.pre6 enc Try.prog Try.f10 Rows.fnExactDarkenRow.domain false) (Rows.fnExactDarkenSpec.post enc Try.prog Try.f10 false true false false) := by
  refine law_lift (C := Try.checked) (tb := 4) Try.own started (by kernel_rfl) Try.func10 Try.laidOut (by kernel_rfl) rfl rfl Try.underlying4 ?_
    (ChangeSpec.witness6 (enc := enc) (C := Try.checked) false ⟨#[], #[.agg #[.float .f32 0, .float .f32 0, .float .f32 0], .float .f32 0], []⟩ 8 (by kernel_rfl) (by kernel_rfl) (by kernel_rfl) (by kernel_rfl)) ?_
  · intro ds hl
    rw [Try.params10] at hl
    match ds, hl with
    | [d0, d1], _ => rfl
  · intro W base args ds before hval hA
    have hval : ∀ (j : Nat) t v, Try.f10.params[j]? = some t → args[j]? = some v → Value.okWide Try.prog W .any base t v := hval
    have hA : DataW.TrodAll enc Try.prog W 0 (fun _ => true) true Try.f10.params.toList args.toList ds before := hA
    rw [Try.params10] at hA hval
    obtain ⟨v0, v1, d0, d1, p0, p1, rfl, rfl, rfl, h0, h1⟩ := trodAll_two hA
    obtain ⟨b0, b1, b2, x0⟩ := open23 (hval 0 23 v0 rfl rfl)
    obtain ⟨b3, x1⟩ := open22 (hval 1 22 v1 rfl rfl)
    exact law_call G28_ok mixed (fnExactDarken_eval b0 b1 b2 b3) (fnExactDarken_true b0 b1 b2 b3) (fun _ h => by simp at h) (.cons _ _ _ _ x0 (.cons _ _ _ _ x1 .nil))

theorem fnExactDarken_holds : Rows.FnExactDarkenSaid :=
  OpenClaim.holds_of_wide 10 Try.f10 rfl rfl rfl rfl rfl rfl rfl ⟨rfl, rfl, rfl, rfl, rfl⟩ rfl rfl rfl rfl rfl (by kernel_rfl) Try.func10 (by kernel_rfl)
    (of_decide_eq_true (by kernel_rfl)) (by unfold Func.isWrapper; first | (rw [if_pos (by decide +kernel)]; kernel_rfl) | (rw [if_neg (by decide +kernel)]; exact ⟨rfl, rfl⟩))
    (fun os started H enc _ => fnExactDarken_lifted os started H enc)

end Go.Proofs.Ytapmakdflnldnaa

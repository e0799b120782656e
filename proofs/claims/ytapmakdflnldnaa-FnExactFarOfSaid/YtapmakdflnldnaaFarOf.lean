/-
  The law FnExactFarOf returns true whatever the input, and its arguments read as they did; no conditions.
-/
import Derived.Test.YtapmakdflnldnaaBase
namespace Go.Proofs.Ytapmakdflnldnaa
open Go.Sim Go.ChangeShapes Go.WideShapes Go.ChangeAt Go.RowKit

noncomputable def G9 : Summ := inlGs Try.prog 1000 [58, 51, 57, 54, 59] G8

theorem G9_ok : SoundG Try.prog G9 := by
  refine SoundG.inls mixed G8_ok fun f hf => ?_
  simp only [List.mem_cons, List.not_mem_nil, or_false] at hf
  rcases hf with rfl | rfl | rfl | rfl | rfl
  · exact Try.call58
  · exact Try.call51
  · exact Try.call57
  · exact Try.call54
  · exact Try.call59

noncomputable def farOf0 (a0 a1 a2 a3 a4 a5 : Nat) : Nat := (bif ((!(valid3 a0 a1 a2)) || (!(valid3 a3 a4 a5))) then 0 else (farith .add .f32 (farith .add .f32 (farith .mul .f32 (farith .sub .f32 a0 a3) (farith .sub .f32 a0 a3)) (farith .mul .f32 (farith .sub .f32 a1 a4) (farith .sub .f32 a1 a4))) (farith .mul .f32 (farith .sub .f32 a2 a5) (farith .sub .f32 a2 a5))))

noncomputable def farOf1 (a0 a1 a2 a3 a4 a5 : Nat) : Int := (bif ((!(valid3 a0 a1 a2)) || (!(valid3 a3 a4 a5))) then 1 else 0)

theorem farOf_ev36 (a0 a1 a2 a3 a4 a5 : Nat) : funA Try.prog G9 1000 36 [.agg [.flt .f32 a0, .flt .f32 a1, .flt .f32 a2], .agg [.flt .f32 a3, .flt .f32 a4, .flt .f32 a5]] [] [] = some (.tup [.flt .f32 (farOf0 a0 a1 a2 a3 a4 a5), .sint .i64 (farOf1 a0 a1 a2 a3 a4 a5)], []) := by kernel_rfl

theorem farOf_ev37 (a0 a1 a2 a3 a4 a5 : Nat) : funA Try.prog G9 1000 37 [.agg [.flt .f32 a0, .flt .f32 a1, .flt .f32 a2], .agg [.flt .f32 a3, .flt .f32 a4, .flt .f32 a5]] [] [] = some (.tup [.flt .f32 (farOf0 a0 a1 a2 a3 a4 a5), .sint .i64 (farOf1 a0 a1 a2 a3 a4 a5)], []) := by
  have h : funA Try.prog G9 1000 37 [.agg [.flt .f32 a0, .flt .f32 a1, .flt .f32 a2], .agg [.flt .f32 a3, .flt .f32 a4, .flt .f32 a5]] [] [] = some (.tup [.flt .f32 ((bif (!(bif (!(valid3 a0 a1 a2)) then false else (!(!(valid3 a3 a4 a5))))) then 0 else (farith .add .f32 (farith .add .f32 (farith .mul .f32 (farith .sub .f32 a0 a3) (farith .sub .f32 a0 a3)) (farith .mul .f32 (farith .sub .f32 a1 a4) (farith .sub .f32 a1 a4))) (farith .mul .f32 (farith .sub .f32 a2 a5) (farith .sub .f32 a2 a5))))), .sint .i64 ((bif (!(bif (!(valid3 a0 a1 a2)) then false else (!(!(valid3 a3 a4 a5))))) then 1 else 0))], []) := by kernel_rfl
  rw [h]
  unfold farOf0 farOf1
  cases valid3 a0 a1 a2 <;> cases valid3 a3 a4 a5 <;> rfl

noncomputable def farOf_s : List AV → Option AV
  | [.agg [.flt .f32 a0, .flt .f32 a1, .flt .f32 a2], .agg [.flt .f32 a3, .flt .f32 a4, .flt .f32 a5]] => some (.tup [.flt .f32 (farOf0 a0 a1 a2 a3 a4 a5), .sint .i64 (farOf1 a0 a1 a2 a3 a4 a5)])
  | _ => none

noncomputable def G10 : Summ := addG 36 (fun xs _ => (farOf_s xs).map fun v => { v := v }) G9

theorem G10_ok : SoundG Try.prog G10 := by
  refine SoundG.add0' G9_ok mixed Try.call36 fun xs v h => ?_
  unfold farOf_s at h
  split at h
  · cases h
    exact ⟨rfl, rfl, G9, G9_ok, 1000, [], [], farOf_ev36 .., fun _ hb => by cases hb⟩
  · cases h

noncomputable def G11 : Summ := addG 37 (fun xs _ => (farOf_s xs).map fun v => { v := v }) G10

theorem G11_ok : SoundG Try.prog G11 := by
  refine SoundG.add0' G10_ok mixed Try.call37 fun xs v h => ?_
  unfold farOf_s at h
  split at h
  · cases h
    exact ⟨rfl, rfl, G9, G9_ok, 1000, [], [], farOf_ev37 .., fun _ hb => by cases hb⟩
  · cases h

noncomputable def G12 : Summ := inlGs Try.prog 1000 [16] G11

theorem G12_ok : SoundG Try.prog G12 := by
  refine SoundG.inls mixed G11_ok fun f hf => ?_
  simp only [List.mem_cons, List.not_mem_nil, or_false] at hf
  subst hf
  exact Try.call16

noncomputable def fnExactFarOfT (a0 a1 a2 a3 a4 a5 : Nat) : Bool := (!((!(sameF (fconv .f32 .f64 (farOf0 a0 a1 a2 a3 a4 a5)) (fconv .f32 .f64 (farOf0 a0 a1 a2 a3 a4 a5)))) || (!(decide ((farOf1 a0 a1 a2 a3 a4 a5) = (farOf1 a0 a1 a2 a3 a4 a5))))))

theorem fnExactFarOf_eval (a0 a1 a2 a3 a4 a5 : Nat) : funA Try.prog G12 1000 11 [.agg [.flt .f32 a0, .flt .f32 a1, .flt .f32 a2], .agg [.flt .f32 a3, .flt .f32 a4, .flt .f32 a5]] [] [] = some (.sbool (fnExactFarOfT a0 a1 a2 a3 a4 a5), []) := by kernel_rfl

theorem fnExactFarOf_true (a0 a1 a2 a3 a4 a5 : Nat) : fnExactFarOfT a0 a1 a2 a3 a4 a5 = true := by
  unfold fnExactFarOfT sameF
  simp [Go.Sim.sameF_self]

set_option maxRecDepth 100000 in
theorem fnExactFarOf_lifted (os : Os) (started : os.Started) (H : Type) (enc : TypeId × Value → H) :
    ReturnsInHanded {} Try.checked os 11 .any (Rows.fnExactFarOfSpec.pre6 enc Try.prog Try.f11 Rows.fnExactFarOfRow.domain false) (Rows.fnExactFarOfSpec.post enc Try.prog Try.f11 false true false false) := by
  refine law_lift (C := Try.checked) (tb := 4) Try.own started (by kernel_rfl) Try.func11 Try.laidOut (by kernel_rfl) rfl rfl Try.underlying4 ?_
    (ChangeSpec.witness6 (enc := enc) (C := Try.checked) false ⟨#[], #[.agg #[.float .f32 0, .float .f32 0, .float .f32 0], .agg #[.float .f32 0, .float .f32 0, .float .f32 0]], []⟩ 8 (by kernel_rfl) (by kernel_rfl) (by kernel_rfl) (by kernel_rfl)) ?_
  · intro ds hl
    rw [Try.params11] at hl
    match ds, hl with
    | [d0, d1], _ => rfl
  · intro W base args ds before hval hA
    have hval : ∀ (j : Nat) t v, Try.f11.params[j]? = some t → args[j]? = some v → Value.okWide Try.prog W .any base t v := hval
    have hA : DataW.TrodAll enc Try.prog W 0 (fun _ => true) true Try.f11.params.toList args.toList ds before := hA
    rw [Try.params11] at hA hval
    obtain ⟨v0, v1, d0, d1, p0, p1, rfl, rfl, rfl, h0, h1⟩ := trodAll_two hA
    obtain ⟨b0, b1, b2, x0, f0⟩ := open23 (hval 0 23 v0 rfl rfl)
    obtain ⟨b3, b4, b5, x1, f1⟩ := open23 (hval 1 23 v1 rfl rfl)
    exact law_call G12_ok mixed (fnExactFarOf_eval b0 b1 b2 b3 b4 b5) (fnExactFarOf_true b0 b1 b2 b3 b4 b5) (fun _ h => by simp at h) (.cons _ _ _ _ x0 (.cons _ _ _ _ x1 .nil))

theorem fnExactFarOf_holds : Rows.FnExactFarOfSaid :=
  OpenClaim.holds_of_wide 11 Try.f11 rfl rfl rfl rfl rfl rfl rfl ⟨rfl, rfl, rfl, rfl, rfl⟩ rfl rfl rfl rfl rfl (by kernel_rfl) Try.func11 (by kernel_rfl)
    (of_decide_eq_true (by kernel_rfl)) (by unfold Func.isWrapper; first | (rw [if_pos (by decide +kernel)]; kernel_rfl) | (rw [if_neg (by decide +kernel)]; exact ⟨rfl, rfl⟩))
    (fun os started H enc _ => fnExactFarOf_lifted os started H enc)

end Go.Proofs.Ytapmakdflnldnaa

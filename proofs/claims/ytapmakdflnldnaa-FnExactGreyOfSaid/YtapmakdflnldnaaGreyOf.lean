/-
  The law FnExactGreyOf returns true whatever the input, and its arguments read as they did; no conditions.
-/
import Derived.Test.YtapmakdflnldnaaBase
namespace Go.Proofs.Ytapmakdflnldnaa
open Go.Sim Go.ChangeShapes Go.WideShapes Go.ChangeAt Go.RowKit

noncomputable def G9 : Summ := inlGs Try.prog 1000 [55, 56] G8

theorem G9_ok : SoundG Try.prog G9 := by
  refine SoundG.inls mixed G8_ok fun f hf => ?_
  simp only [List.mem_cons, List.not_mem_nil, or_false] at hf
  rcases hf with rfl | rfl
  · exact Try.call55
  · exact Try.call56

noncomputable def greyOf0 (a0 a1 a2 : Nat) : Nat := (bif (!(valid3 a0 a1 a2)) then 0 else (bif (fcmp .lss .f32 a1 a0) then (bif (fcmp .lss .f32 a2 a1) then a2 else a1) else (bif (fcmp .lss .f32 a2 a0) then a2 else a0)))

noncomputable def greyOf1 (a0 a1 a2 : Nat) : Int := (bif (!(valid3 a0 a1 a2)) then 1 else 0)

theorem greyOf_ev31 (a0 a1 a2 : Nat) : funA Try.prog G9 1000 31 [.agg [.flt .f32 a0, .flt .f32 a1, .flt .f32 a2]] [] [] = some (.tup [.flt .f32 (greyOf0 a0 a1 a2), .sint .i64 (greyOf1 a0 a1 a2)], []) := by kernel_rfl

theorem greyOf_ev32 (a0 a1 a2 : Nat) : funA Try.prog G9 1000 32 [.agg [.flt .f32 a0, .flt .f32 a1, .flt .f32 a2]] [] [] = some (.tup [.flt .f32 (greyOf0 a0 a1 a2), .sint .i64 (greyOf1 a0 a1 a2)], []) := by
  have h : funA Try.prog G9 1000 32 [.agg [.flt .f32 a0, .flt .f32 a1, .flt .f32 a2]] [] [] = some (.tup [.flt .f32 ((bif (!(valid3 a0 a1 a2)) then 0 else (bif (fcmp .lss .f32 a0 a0) then (bif (fcmp .lss .f32 a1 a0) then (bif (fcmp .lss .f32 a2 a1) then a2 else a1) else (bif (fcmp .lss .f32 a2 a0) then a2 else a0)) else (bif (fcmp .lss .f32 a1 a0) then (bif (fcmp .lss .f32 a2 a1) then a2 else a1) else (bif (fcmp .lss .f32 a2 a0) then a2 else a0))))), .sint .i64 ((bif (!(valid3 a0 a1 a2)) then 1 else 0))], []) := by kernel_rfl
  rw [h]
  unfold greyOf0 greyOf1
  cases valid3 a0 a1 a2 <;> cases fcmp .lss .f32 a0 a0 <;> rfl

noncomputable def greyOf_s : List AV → Option AV
  | [.agg [.flt .f32 a0, .flt .f32 a1, .flt .f32 a2]] => some (.tup [.flt .f32 (greyOf0 a0 a1 a2), .sint .i64 (greyOf1 a0 a1 a2)])
  | _ => none

noncomputable def G10 : Summ := addG 31 (fun xs _ => (greyOf_s xs).map fun v => { v := v }) G9

theorem G10_ok : SoundG Try.prog G10 := by
  refine SoundG.add0' G9_ok mixed Try.call31 fun xs v h => ?_
  unfold greyOf_s at h
  split at h
  · cases h
    exact ⟨rfl, rfl, G9, G9_ok, 1000, [], [], greyOf_ev31 .., fun _ hb => by cases hb⟩
  · cases h

noncomputable def G11 : Summ := addG 32 (fun xs _ => (greyOf_s xs).map fun v => { v := v }) G10

theorem G11_ok : SoundG Try.prog G11 := by
  refine SoundG.add0' G10_ok mixed Try.call32 fun xs v h => ?_
  unfold greyOf_s at h
  split at h
  · cases h
    exact ⟨rfl, rfl, G9, G9_ok, 1000, [], [], greyOf_ev32 .., fun _ hb => by cases hb⟩
  · cases h

noncomputable def G12 : Summ := inlGs Try.prog 1000 [19] G11

theorem G12_ok : SoundG Try.prog G12 := by
  refine SoundG.inls mixed G11_ok fun f hf => ?_
  simp only [List.mem_cons, List.not_mem_nil, or_false] at hf
  subst hf
  exact Try.call19

noncomputable def fnExactGreyOfT (a0 a1 a2 : Nat) : Bool := (!((!(sameF (fconv .f32 .f64 (greyOf0 a0 a1 a2)) (fconv .f32 .f64 (greyOf0 a0 a1 a2)))) || (!(decide ((greyOf1 a0 a1 a2) = (greyOf1 a0 a1 a2))))))

theorem fnExactGreyOf_eval (a0 a1 a2 : Nat) : funA Try.prog G12 1000 9 [.agg [.flt .f32 a0, .flt .f32 a1, .flt .f32 a2]] [] [] = some (.sbool (fnExactGreyOfT a0 a1 a2), []) := by kernel_rfl

theorem fnExactGreyOf_true (a0 a1 a2 : Nat) : fnExactGreyOfT a0 a1 a2 = true := by
  unfold fnExactGreyOfT sameF
  simp [Go.Sim.sameF_self]

set_option maxRecDepth 100000 in
theorem fnExactGreyOf_lifted (os : Os) (started : os.Started) (H : Type) (enc : TypeId × Value → H) :
    ReturnsInHanded {} Try.checked os 9 .any (Rows.fnExactGreyOfSpec.pre6 enc Try.prog Try.f9 Rows.fnExactGreyOfRow.domain false) (Rows.fnExactGreyOfSpec.post enc Try.prog Try.f9 false true false false) := by
  refine law_lift (C := Try.checked) (tb := 4) Try.own started (by kernel_rfl) Try.func9 Try.laidOut (by kernel_rfl) rfl rfl Try.underlying4 ?_
    (ChangeSpec.witness6 (enc := enc) (C := Try.checked) false ⟨#[], #[.agg #[.float .f32 0, .float .f32 0, .float .f32 0]], []⟩ 8 (by kernel_rfl) (by kernel_rfl) (by kernel_rfl) (by kernel_rfl)) ?_
  · intro ds hl
    rw [Try.params9] at hl
    match ds, hl with
    | [d0], _ => rfl
  · intro W base args ds before hval hA
    have hval : ∀ (j : Nat) t v, Try.f9.params[j]? = some t → args[j]? = some v → Value.okWide Try.prog W .any base t v := hval
    have hA : DataW.TrodAll enc Try.prog W 0 (fun _ => true) true Try.f9.params.toList args.toList ds before := hA
    rw [Try.params9] at hA hval
    obtain ⟨v0, d0, rfl, rfl, h0⟩ := trodAll_one hA
    obtain ⟨b0, b1, b2, x0⟩ := open23 (hval 0 23 v0 rfl rfl)
    exact law_call G12_ok mixed (fnExactGreyOf_eval b0 b1 b2) (fnExactGreyOf_true b0 b1 b2) (fun _ h => by simp at h) (.cons _ _ _ _ x0 .nil)

theorem fnExactGreyOf_holds : Rows.FnExactGreyOfSaid :=
  OpenClaim.holds_of_wide 9 Try.f9 rfl rfl rfl rfl rfl rfl rfl ⟨rfl, rfl, rfl, rfl, rfl⟩ rfl rfl rfl rfl rfl (by kernel_rfl) Try.func9 (by kernel_rfl)
    (of_decide_eq_true (by kernel_rfl)) (by unfold Func.isWrapper; first | (rw [if_pos (by decide +kernel)]; kernel_rfl) | (rw [if_neg (by decide +kernel)]; exact ⟨rfl, rfl⟩))
    (fun os started H enc _ => fnExactGreyOf_lifted os started H enc)

end Go.Proofs.Ytapmakdflnldnaa

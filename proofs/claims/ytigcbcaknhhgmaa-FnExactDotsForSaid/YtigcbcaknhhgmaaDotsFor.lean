/-
  The law FnExactDotsFor returns true whatever the input, and its arguments read as they did; no conditions.
-/
import Derived.Test.YtigcbcaknhhgmaaDots
namespace Go.Proofs.Ytigcbcaknhhgmaa
open Go.Sim Go.ChangeShapes Go.WideShapes Go.ChangeAt Go.RowKit

noncomputable def G24 : Summ := inlGs Try.prog 1000 [12, 21, 18] G23

theorem G24_ok : SoundG Try.prog G24 := by
  refine SoundG.inls mixed G23_ok fun f hf => ?_
  simp only [List.mem_cons, List.not_mem_nil, or_false] at hf
  rcases hf with rfl | rfl | rfl
  · exact Try.call12
  · exact Try.call21
  · exact Try.call18

noncomputable def fnExactDotsFor_a0 (x : Vars) : Vars := dotsR [(.flt .f32 (x.u 0)), (.flt .f32 (x.u 1)), (.flt .f32 (x.u 2)), (.flt .f32 (x.u 3)), (.flt .f32 (x.u 4)), (.flt .f32 (x.u 5)), (.flt .f32 (x.u 6)), (.flt .f32 (x.u 7)), (.flt .f32 (x.u 8)), (.flt .f32 (x.u 9)), (.flt .f32 (x.u 10)), (.flt .f32 (x.u 11)), (.flt .f32 (x.u 12)), (.flt .f32 (x.u 13)), (.flt .f32 (x.u 14)), (.flt .f32 (x.u 15)), (.flt .f32 (x.u 16)), (.flt .f32 (x.u 17)), (.flt .f32 (x.u 18)), (.flt .f32 (x.u 19)), (.flt .f32 (x.u 20)), (.flt .f32 (x.u 21)), (.flt .f32 (x.u 22)), (.flt .f32 (x.u 23)), (.flt .f32 (x.u 24)), (.flt .f32 (x.u 25)), (.flt .f32 (x.u 26))]


noncomputable def fnExactDotsForT (x : Vars) : Bool := (!((((!(bif (!((sameFR [(.flt .f64 (fconv .f32 .f64 ((fnExactDotsFor_a0 x).u 0))), (.flt .f64 (fconv .f32 .f64 ((fnExactDotsFor_a0 x).u 0)))]).b 0)) then false else (bif (!((sameFR [(.flt .f64 (fconv .f32 .f64 ((fnExactDotsFor_a0 x).u 1))), (.flt .f64 (fconv .f32 .f64 ((fnExactDotsFor_a0 x).u 1)))]).b 0)) then false else (!(!((sameFR [(.flt .f64 (fconv .f32 .f64 ((fnExactDotsFor_a0 x).u 2))), (.flt .f64 (fconv .f32 .f64 ((fnExactDotsFor_a0 x).u 2)))]).b 0)))))) || (!((sameFR [(.flt .f64 (fconv .f32 .f64 ((fnExactDotsFor_a0 x).u 3))), (.flt .f64 (fconv .f32 .f64 ((fnExactDotsFor_a0 x).u 3)))]).b 0))) || (!(decide (((fnExactDotsFor_a0 x).i 4) = ((fnExactDotsFor_a0 x).i 4))))) || (!(decide (((fnExactDotsFor_a0 x).i 5) = ((fnExactDotsFor_a0 x).i 5))))))

theorem fnExactDotsFor_eval (x : Vars) : funA Try.prog G24 1000 7 (mkAs x 0 [.ag kd2, .ag kd1]) [] [] = some (.sbool (fnExactDotsForT x), []) := by kernel_rfl

theorem fnExactDotsFor_true (x : Vars) (_hx : AllSh [.ag kd2, .ag kd1] (mkAs x 0 [.ag kd2, .ag kd1])) : fnExactDotsForT x = true := by
  show ((!((((!(bif (!((sameFR [(.flt .f64 (fconv .f32 .f64 ((fnExactDotsFor_a0 x).u 0))), (.flt .f64 (fconv .f32 .f64 ((fnExactDotsFor_a0 x).u 0)))]).b 0)) then false else (bif (!((sameFR [(.flt .f64 (fconv .f32 .f64 ((fnExactDotsFor_a0 x).u 1))), (.flt .f64 (fconv .f32 .f64 ((fnExactDotsFor_a0 x).u 1)))]).b 0)) then false else (!(!((sameFR [(.flt .f64 (fconv .f32 .f64 ((fnExactDotsFor_a0 x).u 2))), (.flt .f64 (fconv .f32 .f64 ((fnExactDotsFor_a0 x).u 2)))]).b 0)))))) || (!((sameFR [(.flt .f64 (fconv .f32 .f64 ((fnExactDotsFor_a0 x).u 3))), (.flt .f64 (fconv .f32 .f64 ((fnExactDotsFor_a0 x).u 3)))]).b 0))) || (!(decide (((fnExactDotsFor_a0 x).i 4) = ((fnExactDotsFor_a0 x).i 4))))) || (!(decide (((fnExactDotsFor_a0 x).i 5) = ((fnExactDotsFor_a0 x).i 5)))))) : Bool) = true
  exact (notT (orF (orF (orF (notF (condF (notF (sameFR_self _)) (condF (notF (sameFR_self _)) (notT (notF (sameFR_self _)))))) (notF (sameFR_self _))) (notF (decide_eq_true rfl))) (notF (decide_eq_true rfl))))

set_option maxRecDepth 100000 in
theorem fnExactDotsFor_lifted (os : Os) (started : os.Started) (H : Type) (enc : TypeId × Value → H) :
    ReturnsInHanded {} Try.checked os 7 .any (Rows.fnExactDotsForSpec.pre6 enc Try.prog Try.f7 Rows.fnExactDotsForRow.domain false) (Rows.fnExactDotsForSpec.post enc Try.prog Try.f7 false true false false) := by
  refine law_row (C := Try.checked) (tb := 4) (KS := [.ag kd2, .ag kd1]) Try.own started (by kernel_rfl) Try.func7 Try.laidOut (by kernel_rfl) rfl rfl Try.underlying4 ?_
    (ChangeSpec.witness6 (enc := enc) (C := Try.checked) false ⟨#[], #[.agg #[.float .f32 0, .float .f32 0, .float .f32 0, .float .f32 0, .float .f32 0, .float .f32 0, .float .f32 0, .float .f32 0, .float .f32 0, .float .f32 0, .float .f32 0, .float .f32 0, .float .f32 0, .float .f32 0, .float .f32 0, .float .f32 0, .float .f32 0, .float .f32 0, .float .f32 0, .float .f32 0, .float .f32 0, .float .f32 0, .float .f32 0, .float .f32 0], .agg #[.float .f32 0, .float .f32 0, .float .f32 0]], []⟩ 8 (by kernel_rfl) (by kernel_rfl) (by kernel_rfl) (by kernel_rfl)) mixed (by kernel_rfl) G24_ok
    fun x hx => ⟨_, _, fnExactDotsFor_eval x, fnExactDotsFor_true x hx, fun _ h => by cases h⟩
  intro ds hl
  rw [Try.params7] at hl
  match ds, hl with
  | [d0, d1], _ => rfl

theorem fnExactDotsFor_holds : Rows.FnExactDotsForSaid :=
  OpenClaim.holds_of_wide 7 Try.f7 rfl rfl rfl rfl rfl rfl rfl ⟨rfl, rfl, rfl, rfl, rfl⟩ rfl rfl rfl rfl rfl (by kernel_rfl) Try.func7 (by kernel_rfl)
    (of_decide_eq_true (by kernel_rfl)) (by unfold Func.isWrapper; first | (rw [if_pos (by decide +kernel)]; kernel_rfl) | (rw [if_neg (by decide +kernel)]; exact ⟨rfl, rfl⟩))
    (fun os started H enc _ => fnExactDotsFor_lifted os started H enc)

end Go.Proofs.Ytigcbcaknhhgmaa

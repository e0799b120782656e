/-
  The law FnExactBestInkOrder returns true whatever the input, and its arguments read as they did; no conditions.
-/
import Derived.Test.YtekilpllicggeaaOrde
namespace Go.Proofs.Ytekilpllicggeaa
open Go.Sim Go.ChangeShapes Go.WideShapes Go.ChangeAt Go.RowKit

theorem sameFR_self (v : Nat) : (sameFR [.flt .f64 v, .flt .f64 v]).b 0 = true := by rw [sameFR_eq]; exact Go.Sim.sameF_self v

noncomputable def G24 : Summ := inlGs Try.prog 1000 [10, 25] G23

theorem G24_ok : SoundG Try.prog G24 := by
  refine SoundG.inls mixed G23_ok fun f hf => ?_
  simp only [List.mem_cons, List.not_mem_nil, or_false] at hf
  rcases hf with rfl | rfl
  · exact Try.call10
  · exact Try.call25

noncomputable def fnExactBestInkOrderT (x : Vars) : Bool := (!(((!(bif (!(decide (((bioR [(.flt .f32 (x.u 0)), (.flt .f32 (x.u 1)), (.flt .f32 (x.u 2)), (.flt .f32 (x.u 3)), (.flt .f32 (x.u 4)), (.flt .f32 (x.u 5))]).i 0) = ((bioR [(.flt .f32 (x.u 0)), (.flt .f32 (x.u 1)), (.flt .f32 (x.u 2)), (.flt .f32 (x.u 3)), (.flt .f32 (x.u 4)), (.flt .f32 (x.u 5))]).i 0)))) then false else (bif (!(decide (((bioR [(.flt .f32 (x.u 0)), (.flt .f32 (x.u 1)), (.flt .f32 (x.u 2)), (.flt .f32 (x.u 3)), (.flt .f32 (x.u 4)), (.flt .f32 (x.u 5))]).i 1) = ((bioR [(.flt .f32 (x.u 0)), (.flt .f32 (x.u 1)), (.flt .f32 (x.u 2)), (.flt .f32 (x.u 3)), (.flt .f32 (x.u 4)), (.flt .f32 (x.u 5))]).i 1)))) then false else (bif (!(decide (((bioR [(.flt .f32 (x.u 0)), (.flt .f32 (x.u 1)), (.flt .f32 (x.u 2)), (.flt .f32 (x.u 3)), (.flt .f32 (x.u 4)), (.flt .f32 (x.u 5))]).i 2) = ((bioR [(.flt .f32 (x.u 0)), (.flt .f32 (x.u 1)), (.flt .f32 (x.u 2)), (.flt .f32 (x.u 3)), (.flt .f32 (x.u 4)), (.flt .f32 (x.u 5))]).i 2)))) then false else (!(!(decide (((bioR [(.flt .f32 (x.u 0)), (.flt .f32 (x.u 1)), (.flt .f32 (x.u 2)), (.flt .f32 (x.u 3)), (.flt .f32 (x.u 4)), (.flt .f32 (x.u 5))]).i 3) = ((bioR [(.flt .f32 (x.u 0)), (.flt .f32 (x.u 1)), (.flt .f32 (x.u 2)), (.flt .f32 (x.u 3)), (.flt .f32 (x.u 4)), (.flt .f32 (x.u 5))]).i 3))))))))) || (!((sameFR [(.flt .f64 (fconv .f32 .f64 ((bioR [(.flt .f32 (x.u 0)), (.flt .f32 (x.u 1)), (.flt .f32 (x.u 2)), (.flt .f32 (x.u 3)), (.flt .f32 (x.u 4)), (.flt .f32 (x.u 5))]).u 4))), (.flt .f64 (fconv .f32 .f64 ((bioR [(.flt .f32 (x.u 0)), (.flt .f32 (x.u 1)), (.flt .f32 (x.u 2)), (.flt .f32 (x.u 3)), (.flt .f32 (x.u 4)), (.flt .f32 (x.u 5))]).u 4)))]).b 0))) || (!(decide (((bioR [(.flt .f32 (x.u 0)), (.flt .f32 (x.u 1)), (.flt .f32 (x.u 2)), (.flt .f32 (x.u 3)), (.flt .f32 (x.u 4)), (.flt .f32 (x.u 5))]).i 5) = ((bioR [(.flt .f32 (x.u 0)), (.flt .f32 (x.u 1)), (.flt .f32 (x.u 2)), (.flt .f32 (x.u 3)), (.flt .f32 (x.u 4)), (.flt .f32 (x.u 5))]).i 5))))))

theorem fnExactBestInkOrder_eval (x : Vars) : funA Try.prog G24 1000 5 (mkAs x 0 [.ag kd1, .sc (.flt .f32), .sc (.flt .f32)]) [] [] = some (.sbool (fnExactBestInkOrderT x), []) := by kernel_rfl

theorem fnExactBestInkOrder_true (x : Vars) (_hx : AllSh [.ag kd1, .sc (.flt .f32), .sc (.flt .f32)] (mkAs x 0 [.ag kd1, .sc (.flt .f32), .sc (.flt .f32)])) : fnExactBestInkOrderT x = true := by
  show ((!(((!(bif (!(decide (((bioR [(.flt .f32 (x.u 0)), (.flt .f32 (x.u 1)), (.flt .f32 (x.u 2)), (.flt .f32 (x.u 3)), (.flt .f32 (x.u 4)), (.flt .f32 (x.u 5))]).i 0) = ((bioR [(.flt .f32 (x.u 0)), (.flt .f32 (x.u 1)), (.flt .f32 (x.u 2)), (.flt .f32 (x.u 3)), (.flt .f32 (x.u 4)), (.flt .f32 (x.u 5))]).i 0)))) then false else (bif (!(decide (((bioR [(.flt .f32 (x.u 0)), (.flt .f32 (x.u 1)), (.flt .f32 (x.u 2)), (.flt .f32 (x.u 3)), (.flt .f32 (x.u 4)), (.flt .f32 (x.u 5))]).i 1) = ((bioR [(.flt .f32 (x.u 0)), (.flt .f32 (x.u 1)), (.flt .f32 (x.u 2)), (.flt .f32 (x.u 3)), (.flt .f32 (x.u 4)), (.flt .f32 (x.u 5))]).i 1)))) then false else (bif (!(decide (((bioR [(.flt .f32 (x.u 0)), (.flt .f32 (x.u 1)), (.flt .f32 (x.u 2)), (.flt .f32 (x.u 3)), (.flt .f32 (x.u 4)), (.flt .f32 (x.u 5))]).i 2) = ((bioR [(.flt .f32 (x.u 0)), (.flt .f32 (x.u 1)), (.flt .f32 (x.u 2)), (.flt .f32 (x.u 3)), (.flt .f32 (x.u 4)), (.flt .f32 (x.u 5))]).i 2)))) then false else (!(!(decide (((bioR [(.flt .f32 (x.u 0)), (.flt .f32 (x.u 1)), (.flt .f32 (x.u 2)), (.flt .f32 (x.u 3)), (.flt .f32 (x.u 4)), (.flt .f32 (x.u 5))]).i 3) = ((bioR [(.flt .f32 (x.u 0)), (.flt .f32 (x.u 1)), (.flt .f32 (x.u 2)), (.flt .f32 (x.u 3)), (.flt .f32 (x.u 4)), (.flt .f32 (x.u 5))]).i 3))))))))) || (!((sameFR [(.flt .f64 (fconv .f32 .f64 ((bioR [(.flt .f32 (x.u 0)), (.flt .f32 (x.u 1)), (.flt .f32 (x.u 2)), (.flt .f32 (x.u 3)), (.flt .f32 (x.u 4)), (.flt .f32 (x.u 5))]).u 4))), (.flt .f64 (fconv .f32 .f64 ((bioR [(.flt .f32 (x.u 0)), (.flt .f32 (x.u 1)), (.flt .f32 (x.u 2)), (.flt .f32 (x.u 3)), (.flt .f32 (x.u 4)), (.flt .f32 (x.u 5))]).u 4)))]).b 0))) || (!(decide (((bioR [(.flt .f32 (x.u 0)), (.flt .f32 (x.u 1)), (.flt .f32 (x.u 2)), (.flt .f32 (x.u 3)), (.flt .f32 (x.u 4)), (.flt .f32 (x.u 5))]).i 5) = ((bioR [(.flt .f32 (x.u 0)), (.flt .f32 (x.u 1)), (.flt .f32 (x.u 2)), (.flt .f32 (x.u 3)), (.flt .f32 (x.u 4)), (.flt .f32 (x.u 5))]).i 5)))))) : Bool) = true
  exact (notT (orF (orF (notF (condF (notF (decide_eq_true rfl)) (condF (notF (decide_eq_true rfl)) (condF (notF (decide_eq_true rfl)) (notT (notF (decide_eq_true rfl))))))) (notF (sameFR_self _))) (notF (decide_eq_true rfl))))

set_option maxRecDepth 100000 in
theorem fnExactBestInkOrder_lifted (os : Os) (started : os.Started) (H : Type) (enc : TypeId × Value → H) :
    ReturnsInHanded {} Try.checked os 5 .any (Rows.fnExactBestInkOrderSpec.pre6 enc Try.prog Try.f5 Rows.fnExactBestInkOrderRow.domain false) (Rows.fnExactBestInkOrderSpec.post enc Try.prog Try.f5 false true false false) := by
  refine law_row (C := Try.checked) (tb := 4) (KS := [.ag kd1, .sc (.flt .f32), .sc (.flt .f32)]) Try.own started (by kernel_rfl) Try.func5 Try.laidOut (by kernel_rfl) rfl rfl Try.underlying4 ?_
    (ChangeSpec.witness6 (enc := enc) (C := Try.checked) false ⟨#[], #[.agg #[.float .f32 0, .float .f32 0, .float .f32 0, .float .f32 0], .float .f32 0, .float .f32 0], []⟩ 8 (by kernel_rfl) (by kernel_rfl) (by kernel_rfl) (by kernel_rfl)) mixed (by kernel_rfl) G24_ok
    fun x hx => ⟨_, _, fnExactBestInkOrder_eval x, fnExactBestInkOrder_true x hx, fun _ h => by cases h⟩
  intro ds hl
  rw [Try.params5] at hl
  match ds, hl with
  | [d0, d1, d2], _ => rfl

theorem fnExactBestInkOrder_holds : Rows.FnExactBestInkOrderSaid :=
  OpenClaim.holds_of_wide 5 Try.f5 rfl rfl rfl rfl rfl rfl rfl ⟨rfl, rfl, rfl, rfl, rfl⟩ rfl rfl rfl rfl rfl (by kernel_rfl) Try.func5 (by kernel_rfl)
    (of_decide_eq_true (by kernel_rfl)) (by unfold Func.isWrapper; first | (rw [if_pos (by decide +kernel)]; kernel_rfl) | (rw [if_neg (by decide +kernel)]; exact ⟨rfl, rfl⟩))
    (fun os started H enc _ => fnExactBestInkOrder_lifted os started H enc)

end Go.Proofs.Ytekilpllicggeaa

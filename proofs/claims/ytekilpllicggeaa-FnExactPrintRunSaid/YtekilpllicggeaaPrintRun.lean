/-
  The law FnExactPrintRun returns true whatever the input, and its arguments read as they did; no conditions.
-/
import Derived.Test.YtekilpllicggeaaPrintS
namespace Go.Proofs.Ytekilpllicggeaa
open Go.Sim Go.ChangeShapes Go.WideShapes Go.ChangeAt Go.RowKit

theorem sameFR_self (v : Nat) : (sameFR [.flt .f64 v, .flt .f64 v]).b 0 = true := by rw [sameFR_eq]; exact Go.Sim.sameF_self v

noncomputable def G11 : Summ := inlGs Try.prog 1000 [10, 11, 13] G10

theorem G11_ok : SoundG Try.prog G11 := by
  refine SoundG.inls mixed G10_ok fun f hf => ?_
  simp only [List.mem_cons, List.not_mem_nil, or_false] at hf
  rcases hf with rfl | rfl | rfl
  · exact Try.call10
  · exact Try.call11
  · exact Try.call13

noncomputable def fnExactPrintRunT (x : Vars) : Bool := (!((!(bif (!((sameFR [(.flt .f64 (fconv .f32 .f64 ((prR [(.flt .f32 (x.u 0)), (.flt .f32 (x.u 1)), (.flt .f32 (x.u 2)), (.flt .f32 (x.u 3)), (.sint .i8 (x.i 4)), (.sint .i8 (x.i 5)), (.sint .i8 (x.i 6)), (.sint .i8 (x.i 7)), (.flt .f32 (x.u 8)), (.flt .f32 (x.u 9))]).u 0))), (.flt .f64 (fconv .f32 .f64 ((prR [(.flt .f32 (x.u 0)), (.flt .f32 (x.u 1)), (.flt .f32 (x.u 2)), (.flt .f32 (x.u 3)), (.sint .i8 (x.i 4)), (.sint .i8 (x.i 5)), (.sint .i8 (x.i 6)), (.sint .i8 (x.i 7)), (.flt .f32 (x.u 8)), (.flt .f32 (x.u 9))]).u 0)))]).b 0)) then false else (bif (!((sameFR [(.flt .f64 (fconv .f32 .f64 ((prR [(.flt .f32 (x.u 0)), (.flt .f32 (x.u 1)), (.flt .f32 (x.u 2)), (.flt .f32 (x.u 3)), (.sint .i8 (x.i 4)), (.sint .i8 (x.i 5)), (.sint .i8 (x.i 6)), (.sint .i8 (x.i 7)), (.flt .f32 (x.u 8)), (.flt .f32 (x.u 9))]).u 1))), (.flt .f64 (fconv .f32 .f64 ((prR [(.flt .f32 (x.u 0)), (.flt .f32 (x.u 1)), (.flt .f32 (x.u 2)), (.flt .f32 (x.u 3)), (.sint .i8 (x.i 4)), (.sint .i8 (x.i 5)), (.sint .i8 (x.i 6)), (.sint .i8 (x.i 7)), (.flt .f32 (x.u 8)), (.flt .f32 (x.u 9))]).u 1)))]).b 0)) then false else (bif (!((sameFR [(.flt .f64 (fconv .f32 .f64 ((prR [(.flt .f32 (x.u 0)), (.flt .f32 (x.u 1)), (.flt .f32 (x.u 2)), (.flt .f32 (x.u 3)), (.sint .i8 (x.i 4)), (.sint .i8 (x.i 5)), (.sint .i8 (x.i 6)), (.sint .i8 (x.i 7)), (.flt .f32 (x.u 8)), (.flt .f32 (x.u 9))]).u 2))), (.flt .f64 (fconv .f32 .f64 ((prR [(.flt .f32 (x.u 0)), (.flt .f32 (x.u 1)), (.flt .f32 (x.u 2)), (.flt .f32 (x.u 3)), (.sint .i8 (x.i 4)), (.sint .i8 (x.i 5)), (.sint .i8 (x.i 6)), (.sint .i8 (x.i 7)), (.flt .f32 (x.u 8)), (.flt .f32 (x.u 9))]).u 2)))]).b 0)) then false else (!(!((sameFR [(.flt .f64 (fconv .f32 .f64 ((prR [(.flt .f32 (x.u 0)), (.flt .f32 (x.u 1)), (.flt .f32 (x.u 2)), (.flt .f32 (x.u 3)), (.sint .i8 (x.i 4)), (.sint .i8 (x.i 5)), (.sint .i8 (x.i 6)), (.sint .i8 (x.i 7)), (.flt .f32 (x.u 8)), (.flt .f32 (x.u 9))]).u 3))), (.flt .f64 (fconv .f32 .f64 ((prR [(.flt .f32 (x.u 0)), (.flt .f32 (x.u 1)), (.flt .f32 (x.u 2)), (.flt .f32 (x.u 3)), (.sint .i8 (x.i 4)), (.sint .i8 (x.i 5)), (.sint .i8 (x.i 6)), (.sint .i8 (x.i 7)), (.flt .f32 (x.u 8)), (.flt .f32 (x.u 9))]).u 3)))]).b 0))))))) || (!(decide (((prR [(.flt .f32 (x.u 0)), (.flt .f32 (x.u 1)), (.flt .f32 (x.u 2)), (.flt .f32 (x.u 3)), (.sint .i8 (x.i 4)), (.sint .i8 (x.i 5)), (.sint .i8 (x.i 6)), (.sint .i8 (x.i 7)), (.flt .f32 (x.u 8)), (.flt .f32 (x.u 9))]).i 4) = ((prR [(.flt .f32 (x.u 0)), (.flt .f32 (x.u 1)), (.flt .f32 (x.u 2)), (.flt .f32 (x.u 3)), (.sint .i8 (x.i 4)), (.sint .i8 (x.i 5)), (.sint .i8 (x.i 6)), (.sint .i8 (x.i 7)), (.flt .f32 (x.u 8)), (.flt .f32 (x.u 9))]).i 4))))))

theorem fnExactPrintRun_eval (x : Vars) : funA Try.prog G11 1000 3 (mkAs x 0 [.ag kd1, .ag kd2, .sc (.flt .f32), .sc (.flt .f32)]) [] [] = some (.sbool (fnExactPrintRunT x), []) := by kernel_rfl

theorem fnExactPrintRun_true (x : Vars) (_hx : AllSh [.ag kd1, .ag kd2, .sc (.flt .f32), .sc (.flt .f32)] (mkAs x 0 [.ag kd1, .ag kd2, .sc (.flt .f32), .sc (.flt .f32)])) : fnExactPrintRunT x = true := by
  show ((!((!(bif (!((sameFR [(.flt .f64 (fconv .f32 .f64 ((prR [(.flt .f32 (x.u 0)), (.flt .f32 (x.u 1)), (.flt .f32 (x.u 2)), (.flt .f32 (x.u 3)), (.sint .i8 (x.i 4)), (.sint .i8 (x.i 5)), (.sint .i8 (x.i 6)), (.sint .i8 (x.i 7)), (.flt .f32 (x.u 8)), (.flt .f32 (x.u 9))]).u 0))), (.flt .f64 (fconv .f32 .f64 ((prR [(.flt .f32 (x.u 0)), (.flt .f32 (x.u 1)), (.flt .f32 (x.u 2)), (.flt .f32 (x.u 3)), (.sint .i8 (x.i 4)), (.sint .i8 (x.i 5)), (.sint .i8 (x.i 6)), (.sint .i8 (x.i 7)), (.flt .f32 (x.u 8)), (.flt .f32 (x.u 9))]).u 0)))]).b 0)) then false else (bif (!((sameFR [(.flt .f64 (fconv .f32 .f64 ((prR [(.flt .f32 (x.u 0)), (.flt .f32 (x.u 1)), (.flt .f32 (x.u 2)), (.flt .f32 (x.u 3)), (.sint .i8 (x.i 4)), (.sint .i8 (x.i 5)), (.sint .i8 (x.i 6)), (.sint .i8 (x.i 7)), (.flt .f32 (x.u 8)), (.flt .f32 (x.u 9))]).u 1))), (.flt .f64 (fconv .f32 .f64 ((prR [(.flt .f32 (x.u 0)), (.flt .f32 (x.u 1)), (.flt .f32 (x.u 2)), (.flt .f32 (x.u 3)), (.sint .i8 (x.i 4)), (.sint .i8 (x.i 5)), (.sint .i8 (x.i 6)), (.sint .i8 (x.i 7)), (.flt .f32 (x.u 8)), (.flt .f32 (x.u 9))]).u 1)))]).b 0)) then false else (bif (!((sameFR [(.flt .f64 (fconv .f32 .f64 ((prR [(.flt .f32 (x.u 0)), (.flt .f32 (x.u 1)), (.flt .f32 (x.u 2)), (.flt .f32 (x.u 3)), (.sint .i8 (x.i 4)), (.sint .i8 (x.i 5)), (.sint .i8 (x.i 6)), (.sint .i8 (x.i 7)), (.flt .f32 (x.u 8)), (.flt .f32 (x.u 9))]).u 2))), (.flt .f64 (fconv .f32 .f64 ((prR [(.flt .f32 (x.u 0)), (.flt .f32 (x.u 1)), (.flt .f32 (x.u 2)), (.flt .f32 (x.u 3)), (.sint .i8 (x.i 4)), (.sint .i8 (x.i 5)), (.sint .i8 (x.i 6)), (.sint .i8 (x.i 7)), (.flt .f32 (x.u 8)), (.flt .f32 (x.u 9))]).u 2)))]).b 0)) then false else (!(!((sameFR [(.flt .f64 (fconv .f32 .f64 ((prR [(.flt .f32 (x.u 0)), (.flt .f32 (x.u 1)), (.flt .f32 (x.u 2)), (.flt .f32 (x.u 3)), (.sint .i8 (x.i 4)), (.sint .i8 (x.i 5)), (.sint .i8 (x.i 6)), (.sint .i8 (x.i 7)), (.flt .f32 (x.u 8)), (.flt .f32 (x.u 9))]).u 3))), (.flt .f64 (fconv .f32 .f64 ((prR [(.flt .f32 (x.u 0)), (.flt .f32 (x.u 1)), (.flt .f32 (x.u 2)), (.flt .f32 (x.u 3)), (.sint .i8 (x.i 4)), (.sint .i8 (x.i 5)), (.sint .i8 (x.i 6)), (.sint .i8 (x.i 7)), (.flt .f32 (x.u 8)), (.flt .f32 (x.u 9))]).u 3)))]).b 0))))))) || (!(decide (((prR [(.flt .f32 (x.u 0)), (.flt .f32 (x.u 1)), (.flt .f32 (x.u 2)), (.flt .f32 (x.u 3)), (.sint .i8 (x.i 4)), (.sint .i8 (x.i 5)), (.sint .i8 (x.i 6)), (.sint .i8 (x.i 7)), (.flt .f32 (x.u 8)), (.flt .f32 (x.u 9))]).i 4) = ((prR [(.flt .f32 (x.u 0)), (.flt .f32 (x.u 1)), (.flt .f32 (x.u 2)), (.flt .f32 (x.u 3)), (.sint .i8 (x.i 4)), (.sint .i8 (x.i 5)), (.sint .i8 (x.i 6)), (.sint .i8 (x.i 7)), (.flt .f32 (x.u 8)), (.flt .f32 (x.u 9))]).i 4)))))) : Bool) = true
  exact (notT (orF (notF (condF (notF (sameFR_self _)) (condF (notF (sameFR_self _)) (condF (notF (sameFR_self _)) (notT (notF (sameFR_self _))))))) (notF (decide_eq_true rfl))))

set_option maxRecDepth 100000 in
theorem fnExactPrintRun_lifted (os : Os) (started : os.Started) (H : Type) (enc : TypeId × Value → H) :
    ReturnsInHanded {} Try.checked os 3 .any (Rows.fnExactPrintRunSpec.pre6 enc Try.prog Try.f3 Rows.fnExactPrintRunRow.domain false) (Rows.fnExactPrintRunSpec.post enc Try.prog Try.f3 false true false false) := by
  refine law_row (C := Try.checked) (tb := 4) (KS := [.ag kd1, .ag kd2, .sc (.flt .f32), .sc (.flt .f32)]) Try.own started (by kernel_rfl) Try.func3 Try.laidOut (by kernel_rfl) rfl rfl Try.underlying4 ?_
    (ChangeSpec.witness6 (enc := enc) (C := Try.checked) false ⟨#[], #[.agg #[.float .f32 0, .float .f32 0, .float .f32 0, .float .f32 0], .agg #[.int .i8 0, .int .i8 0, .int .i8 0, .int .i8 0], .float .f32 0, .float .f32 0], []⟩ 8 (by kernel_rfl) (by kernel_rfl) (by kernel_rfl) (by kernel_rfl)) mixed (by kernel_rfl) G11_ok
    fun x hx => ⟨_, _, fnExactPrintRun_eval x, fnExactPrintRun_true x hx, fun _ h => by cases h⟩
  intro ds hl
  rw [Try.params3] at hl
  match ds, hl with
  | [d0, d1, d2, d3], _ => rfl

theorem fnExactPrintRun_holds : Rows.FnExactPrintRunSaid :=
  OpenClaim.holds_of_wide 3 Try.f3 rfl rfl rfl rfl rfl rfl rfl ⟨rfl, rfl, rfl, rfl, rfl⟩ rfl rfl rfl rfl rfl (by kernel_rfl) Try.func3 (by kernel_rfl)
    (of_decide_eq_true (by kernel_rfl)) (by unfold Func.isWrapper; first | (rw [if_pos (by decide +kernel)]; kernel_rfl) | (rw [if_neg (by decide +kernel)]; exact ⟨rfl, rfl⟩))
    (fun os started H enc _ => fnExactPrintRun_lifted os started H enc)

end Go.Proofs.Ytekilpllicggeaa

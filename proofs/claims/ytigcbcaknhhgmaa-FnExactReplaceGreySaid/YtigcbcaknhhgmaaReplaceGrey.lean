/-
  The law FnExactReplaceGrey returns true whatever the input, and its arguments read as they did; no conditions.
-/
import Derived.Test.YtigcbcaknhhgmaaShapes
namespace Go.Proofs.Ytigcbcaknhhgmaa
open Go.Sim Go.ChangeShapes Go.WideShapes Go.ChangeAt Go.RowKit

noncomputable def G20 : Summ := inlGs Try.prog 1000 [59, 56, 62] G19

theorem G20_ok : SoundG Try.prog G20 := by
  refine SoundG.inls mixed G19_ok fun f hf => ?_
  simp only [List.mem_cons, List.not_mem_nil, or_false] at hf
  rcases hf with rfl | rfl | rfl
  · exact Try.call59
  · exact Try.call56
  · exact Try.call62

noncomputable def replR (l : List AV) : Vars := outV (funA Try.prog G20 1000 15 (argsP [.val (.ag kd1), .val (.sc (.flt .f32))] 0 l) (memP [.val (.ag kd1), .val (.sc (.flt .f32))] l) [])

theorem repl_e15 (x : Vars) : (funA Try.prog G20 1000 15 (argsP [.val (.ag kd1), .val (.sc (.flt .f32))] 0 (mkL x 0 (kdsP [.val (.ag kd1), .val (.sc (.flt .f32))]))) (memP [.val (.ag kd1), .val (.sc (.flt .f32))] (mkL x 0 (kdsP [.val (.ag kd1), .val (.sc (.flt .f32))]))) []).map (fun r => (normR r.1, untupR r.1 && r.1.flat, r.2)) = some (mkR (replR (mkL x 0 (kdsP [.val (.ag kd1), .val (.sc (.flt .f32))]))) [.ag kd1, .sc (.flt .f32), .sc (.int .i64)], true, []) := by kernel_rfl

theorem repl_ev15 (x : Vars) : EvP Try.prog G20 15 [.val (.ag kd1), .val (.sc (.flt .f32))] [.ag kd1, .sc (.flt .f32), .sc (.int .i64)] (mkL x 0 (kdsP [.val (.ag kd1), .val (.sc (.flt .f32))])) (replR (mkL x 0 (kdsP [.val (.ag kd1), .val (.sc (.flt .f32))]))) := EvP.of (mkL_norm ..) (repl_e15 x) fun _ h => by cases h

theorem repl_e17 (x : Vars) : (funA Try.prog G20 1000 17 (argsP [.val (.ag kd1), .val (.sc (.flt .f32))] 0 (mkL x 0 (kdsP [.val (.ag kd1), .val (.sc (.flt .f32))]))) (memP [.val (.ag kd1), .val (.sc (.flt .f32))] (mkL x 0 (kdsP [.val (.ag kd1), .val (.sc (.flt .f32))]))) []).map (fun r => (normR r.1, untupR r.1 && r.1.flat, r.2)) = some (mkR (replR (mkL x 0 (kdsP [.val (.ag kd1), .val (.sc (.flt .f32))]))) [.ag kd1, .sc (.flt .f32), .sc (.int .i64)], true, []) := by kernel_rfl

theorem repl_ev17 (x : Vars) : EvP Try.prog G20 17 [.val (.ag kd1), .val (.sc (.flt .f32))] [.ag kd1, .sc (.flt .f32), .sc (.int .i64)] (mkL x 0 (kdsP [.val (.ag kd1), .val (.sc (.flt .f32))])) (replR (mkL x 0 (kdsP [.val (.ag kd1), .val (.sc (.flt .f32))]))) := EvP.of (mkL_norm ..) (repl_e17 x) fun _ h => by cases h

noncomputable def G21 : Summ := addG 15 (sumP [.val (.ag kd1), .val (.sc (.flt .f32))] [.ag kd1, .sc (.flt .f32), .sc (.int .i64)] (fun _ => []) replR) G20

theorem G21_ok : SoundG Try.prog G21 := SoundG.sumP G20_ok mixed Try.call15 G20_ok (fun x _ _ => repl_ev15 x)

noncomputable def G22 : Summ := addG 17 (sumP [.val (.ag kd1), .val (.sc (.flt .f32))] [.ag kd1, .sc (.flt .f32), .sc (.int .i64)] (fun _ => []) replR) G21

theorem G22_ok : SoundG Try.prog G22 := SoundG.sumP G21_ok mixed Try.call17 G20_ok (fun x _ _ => repl_ev17 x)

noncomputable def G23 : Summ := inlGs Try.prog 1000 [16, 18] G22

theorem G23_ok : SoundG Try.prog G23 := by
  refine SoundG.inls mixed G22_ok fun f hf => ?_
  simp only [List.mem_cons, List.not_mem_nil, or_false] at hf
  rcases hf with rfl | rfl
  · exact Try.call16
  · exact Try.call18

noncomputable def fnExactReplaceGreyT (x : Vars) : Bool := (!(((!(bif (!((sameFR [(.flt .f64 (fconv .f32 .f64 ((replR [(.flt .f32 (x.u 0)), (.flt .f32 (x.u 1)), (.flt .f32 (x.u 2)), (.flt .f32 (x.u 3))]).u 0))), (.flt .f64 (fconv .f32 .f64 ((replR [(.flt .f32 (x.u 0)), (.flt .f32 (x.u 1)), (.flt .f32 (x.u 2)), (.flt .f32 (x.u 3))]).u 0)))]).b 0)) then false else (bif (!((sameFR [(.flt .f64 (fconv .f32 .f64 ((replR [(.flt .f32 (x.u 0)), (.flt .f32 (x.u 1)), (.flt .f32 (x.u 2)), (.flt .f32 (x.u 3))]).u 1))), (.flt .f64 (fconv .f32 .f64 ((replR [(.flt .f32 (x.u 0)), (.flt .f32 (x.u 1)), (.flt .f32 (x.u 2)), (.flt .f32 (x.u 3))]).u 1)))]).b 0)) then false else (!(!((sameFR [(.flt .f64 (fconv .f32 .f64 ((replR [(.flt .f32 (x.u 0)), (.flt .f32 (x.u 1)), (.flt .f32 (x.u 2)), (.flt .f32 (x.u 3))]).u 2))), (.flt .f64 (fconv .f32 .f64 ((replR [(.flt .f32 (x.u 0)), (.flt .f32 (x.u 1)), (.flt .f32 (x.u 2)), (.flt .f32 (x.u 3))]).u 2)))]).b 0)))))) || (!((sameFR [(.flt .f64 (fconv .f32 .f64 ((replR [(.flt .f32 (x.u 0)), (.flt .f32 (x.u 1)), (.flt .f32 (x.u 2)), (.flt .f32 (x.u 3))]).u 3))), (.flt .f64 (fconv .f32 .f64 ((replR [(.flt .f32 (x.u 0)), (.flt .f32 (x.u 1)), (.flt .f32 (x.u 2)), (.flt .f32 (x.u 3))]).u 3)))]).b 0))) || (!(decide (((replR [(.flt .f32 (x.u 0)), (.flt .f32 (x.u 1)), (.flt .f32 (x.u 2)), (.flt .f32 (x.u 3))]).i 4) = ((replR [(.flt .f32 (x.u 0)), (.flt .f32 (x.u 1)), (.flt .f32 (x.u 2)), (.flt .f32 (x.u 3))]).i 4))))))

theorem fnExactReplaceGrey_eval (x : Vars) : funA Try.prog G23 1000 4 (mkAs x 0 [.ag kd1, .sc (.flt .f32)]) [] [] = some (.sbool (fnExactReplaceGreyT x), []) := by kernel_rfl

theorem fnExactReplaceGrey_true (x : Vars) (_hx : AllSh [.ag kd1, .sc (.flt .f32)] (mkAs x 0 [.ag kd1, .sc (.flt .f32)])) : fnExactReplaceGreyT x = true := by
  show ((!(((!(bif (!((sameFR [(.flt .f64 (fconv .f32 .f64 ((replR [(.flt .f32 (x.u 0)), (.flt .f32 (x.u 1)), (.flt .f32 (x.u 2)), (.flt .f32 (x.u 3))]).u 0))), (.flt .f64 (fconv .f32 .f64 ((replR [(.flt .f32 (x.u 0)), (.flt .f32 (x.u 1)), (.flt .f32 (x.u 2)), (.flt .f32 (x.u 3))]).u 0)))]).b 0)) then false else (bif (!((sameFR [(.flt .f64 (fconv .f32 .f64 ((replR [(.flt .f32 (x.u 0)), (.flt .f32 (x.u 1)), (.flt .f32 (x.u 2)), (.flt .f32 (x.u 3))]).u 1))), (.flt .f64 (fconv .f32 .f64 ((replR [(.flt .f32 (x.u 0)), (.flt .f32 (x.u 1)), (.flt .f32 (x.u 2)), (.flt .f32 (x.u 3))]).u 1)))]).b 0)) then false else (!(!((sameFR [(.flt .f64 (fconv .f32 .f64 ((replR [(.flt .f32 (x.u 0)), (.flt .f32 (x.u 1)), (.flt .f32 (x.u 2)), (.flt .f32 (x.u 3))]).u 2))), (.flt .f64 (fconv .f32 .f64 ((replR [(.flt .f32 (x.u 0)), (.flt .f32 (x.u 1)), (.flt .f32 (x.u 2)), (.flt .f32 (x.u 3))]).u 2)))]).b 0)))))) || (!((sameFR [(.flt .f64 (fconv .f32 .f64 ((replR [(.flt .f32 (x.u 0)), (.flt .f32 (x.u 1)), (.flt .f32 (x.u 2)), (.flt .f32 (x.u 3))]).u 3))), (.flt .f64 (fconv .f32 .f64 ((replR [(.flt .f32 (x.u 0)), (.flt .f32 (x.u 1)), (.flt .f32 (x.u 2)), (.flt .f32 (x.u 3))]).u 3)))]).b 0))) || (!(decide (((replR [(.flt .f32 (x.u 0)), (.flt .f32 (x.u 1)), (.flt .f32 (x.u 2)), (.flt .f32 (x.u 3))]).i 4) = ((replR [(.flt .f32 (x.u 0)), (.flt .f32 (x.u 1)), (.flt .f32 (x.u 2)), (.flt .f32 (x.u 3))]).i 4)))))) : Bool) = true
  exact (notT (orF (orF (notF (condF (notF (sameFR_self _)) (condF (notF (sameFR_self _)) (notT (notF (sameFR_self _)))))) (notF (sameFR_self _))) (notF (decide_eq_true rfl))))

set_option maxRecDepth 100000 in
theorem fnExactReplaceGrey_lifted (os : Os) (started : os.Started) (H : Type) (enc : TypeId × Value → H) :
    ReturnsInHanded {} Try.checked os 4 .any (Rows.fnExactReplaceGreySpec.pre6 enc Try.prog Try.f4 Rows.fnExactReplaceGreyRow.domain false) (Rows.fnExactReplaceGreySpec.post enc Try.prog Try.f4 false true false false) := by
  refine law_row (C := Try.checked) (tb := 4) (KS := [.ag kd1, .sc (.flt .f32)]) Try.own started (by kernel_rfl) Try.func4 Try.laidOut (by kernel_rfl) rfl rfl Try.underlying4 ?_
    (ChangeSpec.witness6 (enc := enc) (C := Try.checked) false ⟨#[], #[.agg #[.float .f32 0, .float .f32 0, .float .f32 0], .float .f32 0], []⟩ 8 (by kernel_rfl) (by kernel_rfl) (by kernel_rfl) (by kernel_rfl)) mixed (by kernel_rfl) G23_ok
    fun x hx => ⟨_, _, fnExactReplaceGrey_eval x, fnExactReplaceGrey_true x hx, fun _ h => by cases h⟩
  intro ds hl
  rw [Try.params4] at hl
  match ds, hl with
  | [d0, d1], _ => rfl

theorem fnExactReplaceGrey_holds : Rows.FnExactReplaceGreySaid :=
  OpenClaim.holds_of_wide 4 Try.f4 rfl rfl rfl rfl rfl rfl rfl ⟨rfl, rfl, rfl, rfl, rfl⟩ rfl rfl rfl rfl rfl (by kernel_rfl) Try.func4 (by kernel_rfl)
    (of_decide_eq_true (by kernel_rfl)) (by unfold Func.isWrapper; first | (rw [if_pos (by decide +kernel)]; kernel_rfl) | (rw [if_neg (by decide +kernel)]; exact ⟨rfl, rfl⟩))
    (fun os started H enc _ => fnExactReplaceGrey_lifted os started H enc)

end Go.Proofs.Ytigcbcaknhhgmaa

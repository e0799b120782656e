/-
  Facts of this seat that its laws use; no conditions.
-/
import Derived.Test.YtigcbcaknhhgmaaDots2
namespace Go.Proofs.Ytigcbcaknhhgmaa
open Go.Sim Go.ChangeShapes Go.WideShapes Go.ChangeAt Go.RowKit

noncomputable def dots26_v_0 (x : Vars) : Vars := (colourR [(.flt .f32 (x.u 0)), (.flt .f32 (x.u 1)), (.flt .f32 (x.u 2)), (.flt .f32 (x.u 3)), (.flt .f32 (x.u 4)), (.flt .f32 (x.u 5)), (.flt .f32 (x.u 6)), (.flt .f32 (x.u 7)), (.flt .f32 (x.u 8)), (.flt .f32 (x.u 9)), (.flt .f32 (x.u 10)), (.flt .f32 (x.u 11)), (.flt .f32 (x.u 12)), (.flt .f32 (x.u 13)), (.flt .f32 (x.u 14)), (.flt .f32 (x.u 15)), (.flt .f32 (x.u 16)), (.flt .f32 (x.u 17)), (.flt .f32 (x.u 18)), (.flt .f32 (x.u 19)), (.flt .f32 (x.u 20)), (.flt .f32 (x.u 21)), (.flt .f32 (x.u 22)), (.flt .f32 (x.u 23)), (.flt .f32 1056964608), (.flt .f32 1056964608), (.flt .f32 1056964608)])

noncomputable def dots26_v_1 (x : Vars) : Vars := (farR [(.flt .f32 ((dots26_v_0 x).u 0)), (.flt .f32 ((dots26_v_0 x).u 1)), (.flt .f32 ((dots26_v_0 x).u 2)), (.flt .f32 (x.u 24)), (.flt .f32 (x.u 25)), (.flt .f32 (x.u 26))])

noncomputable def dots26_v_2 (x : Vars) : Nat × SV := (dsF (mkSV [(.flt .f32 ((dots26_v_1 x).u 0)), (.flt .f32 1048576000), (.int .i64 0), (.flt .f32 (x.u 0)), (.flt .f32 (x.u 1)), (.flt .f32 (x.u 2)), (.flt .f32 (x.u 3)), (.flt .f32 (x.u 4)), (.flt .f32 (x.u 5)), (.flt .f32 (x.u 6)), (.flt .f32 (x.u 7)), (.flt .f32 (x.u 8)), (.flt .f32 (x.u 9)), (.flt .f32 (x.u 10)), (.flt .f32 (x.u 11)), (.flt .f32 (x.u 12)), (.flt .f32 (x.u 13)), (.flt .f32 (x.u 14)), (.flt .f32 (x.u 15)), (.flt .f32 (x.u 16)), (.flt .f32 (x.u 17)), (.flt .f32 (x.u 18)), (.flt .f32 (x.u 19)), (.flt .f32 (x.u 20)), (.flt .f32 (x.u 21)), (.flt .f32 (x.u 22)), (.flt .f32 (x.u 23)), (.flt .f32 (x.u 24)), (.flt .f32 (x.u 25)), (.flt .f32 (x.u 26)), (.flt .f32 0), (.flt .f32 0), (.flt .f32 0), (.flt .f32 1056964608), (.flt .f32 1056964608), (.flt .f32 1056964608)] [] [0, 0, 0, 0] [zeroV, zeroV, zeroV, zeroV]))

noncomputable def dots26_v_3 (x : Vars) : Vars := (valid3R [(.flt .f32 (x.u 24)), (.flt .f32 (x.u 25)), (.flt .f32 (x.u 26))])

noncomputable def dots26_v_4 (x : Vars) : Vars := (validPR [(.flt .f32 (x.u 0)), (.flt .f32 (x.u 1)), (.flt .f32 (x.u 2)), (.flt .f32 (x.u 3)), (.flt .f32 (x.u 4)), (.flt .f32 (x.u 5)), (.flt .f32 (x.u 6)), (.flt .f32 (x.u 7)), (.flt .f32 (x.u 8)), (.flt .f32 (x.u 9)), (.flt .f32 (x.u 10)), (.flt .f32 (x.u 11)), (.flt .f32 (x.u 12)), (.flt .f32 (x.u 13)), (.flt .f32 (x.u 14)), (.flt .f32 (x.u 15)), (.flt .f32 (x.u 16)), (.flt .f32 (x.u 17)), (.flt .f32 (x.u 18)), (.flt .f32 (x.u 19)), (.flt .f32 (x.u 20)), (.flt .f32 (x.u 21)), (.flt .f32 (x.u 22)), (.flt .f32 (x.u 23))])


noncomputable def dots_v (x : Vars) : AV := .tup [.agg [.flt .f32 ((bif ((!((dots26_v_4 x).b 0)) || (!((dots26_v_3 x).b 0))) then 0 else ((dots26_v_2 x).2.x.u 33))), .flt .f32 ((bif ((!((dots26_v_4 x).b 0)) || (!((dots26_v_3 x).b 0))) then 0 else ((dots26_v_2 x).2.x.u 34))), .flt .f32 ((bif ((!((dots26_v_4 x).b 0)) || (!((dots26_v_3 x).b 0))) then 0 else ((dots26_v_2 x).2.x.u 35)))], .flt .f32 ((bif ((!((dots26_v_4 x).b 0)) || (!((dots26_v_3 x).b 0))) then 0 else ((dots26_v_2 x).2.x.u 0))), .sint .i64 ((bif ((!((dots26_v_4 x).b 0)) || (!((dots26_v_3 x).b 0))) then 0 else ((dots26_v_2 x).2.x.i 2))), .sint .i64 ((bif ((!((dots26_v_4 x).b 0)) || (!((dots26_v_3 x).b 0))) then 1 else 0))]

noncomputable def dotsR0 (l : List AV) : Vars := outV (some (dots_v (varsOf l), []))

noncomputable def dotsR : List AV → Vars := Classical.choose (⟨dotsR0, rfl⟩ : ∃ f, f = dotsR0)

theorem dotsR_eq : dotsR = dotsR0 := Classical.choose_spec (⟨dotsR0, rfl⟩ : ∃ f, f = dotsR0)

theorem dots_x (x : Vars) : mkR (dotsR0 (mkL x 0 (kdsP [.val (.ag kd2), .val (.ag kd1)]))) [.ag kd1, .sc (.flt .f32), .sc (.int .i64), .sc (.int .i64)] = dots_v x := by kernel_rfl

noncomputable def dots_cs26 (x : Vars) : List Bool := [(((!((dots26_v_4 x).b 0)) || (!((dots26_v_3 x).b 0))) || (decide (0 ≤ ((mkSV [(.flt .f32 ((dots26_v_1 x).u 0)), (.flt .f32 1048576000), (.int .i64 0), (.flt .f32 (x.u 0)), (.flt .f32 (x.u 1)), (.flt .f32 (x.u 2)), (.flt .f32 (x.u 3)), (.flt .f32 (x.u 4)), (.flt .f32 (x.u 5)), (.flt .f32 (x.u 6)), (.flt .f32 (x.u 7)), (.flt .f32 (x.u 8)), (.flt .f32 (x.u 9)), (.flt .f32 (x.u 10)), (.flt .f32 (x.u 11)), (.flt .f32 (x.u 12)), (.flt .f32 (x.u 13)), (.flt .f32 (x.u 14)), (.flt .f32 (x.u 15)), (.flt .f32 (x.u 16)), (.flt .f32 (x.u 17)), (.flt .f32 (x.u 18)), (.flt .f32 (x.u 19)), (.flt .f32 (x.u 20)), (.flt .f32 (x.u 21)), (.flt .f32 (x.u 22)), (.flt .f32 (x.u 23)), (.flt .f32 (x.u 24)), (.flt .f32 (x.u 25)), (.flt .f32 (x.u 26)), (.flt .f32 0), (.flt .f32 0), (.flt .f32 0), (.flt .f32 1056964608), (.flt .f32 1056964608), (.flt .f32 1056964608)] [] [0, 0, 0, 0] [zeroV, zeroV, zeroV, zeroV]).x.i 2)))), (((!((dots26_v_4 x).b 0)) || (!((dots26_v_3 x).b 0))) || (decide (((mkSV [(.flt .f32 ((dots26_v_1 x).u 0)), (.flt .f32 1048576000), (.int .i64 0), (.flt .f32 (x.u 0)), (.flt .f32 (x.u 1)), (.flt .f32 (x.u 2)), (.flt .f32 (x.u 3)), (.flt .f32 (x.u 4)), (.flt .f32 (x.u 5)), (.flt .f32 (x.u 6)), (.flt .f32 (x.u 7)), (.flt .f32 (x.u 8)), (.flt .f32 (x.u 9)), (.flt .f32 (x.u 10)), (.flt .f32 (x.u 11)), (.flt .f32 (x.u 12)), (.flt .f32 (x.u 13)), (.flt .f32 (x.u 14)), (.flt .f32 (x.u 15)), (.flt .f32 (x.u 16)), (.flt .f32 (x.u 17)), (.flt .f32 (x.u 18)), (.flt .f32 (x.u 19)), (.flt .f32 (x.u 20)), (.flt .f32 (x.u 21)), (.flt .f32 (x.u 22)), (.flt .f32 (x.u 23)), (.flt .f32 (x.u 24)), (.flt .f32 (x.u 25)), (.flt .f32 (x.u 26)), (.flt .f32 0), (.flt .f32 0), (.flt .f32 0), (.flt .f32 1056964608), (.flt .f32 1056964608), (.flt .f32 1056964608)] [] [0, 0, 0, 0] [zeroV, zeroV, zeroV, zeroV]).x.i 2) ≤ 400)))]

theorem dots_c26 (x : Vars) : ∀ b ∈ dots_cs26 x, b = true := by
  unfold dots_cs26
  exact allC (orTr (by kernel_rfl)) (allC (orTr (by kernel_rfl)) allN)

theorem dots_f26 (x : Vars) : (funH Try.prog G21 Hds true 1000 26 (argsP [.val (.ag kd2), .val (.ag kd1)] 0 (mkL x 0 (kdsP [.val (.ag kd2), .val (.ag kd1)]))) (memP [.val (.ag kd2), .val (.ag kd1)] (mkL x 0 (kdsP [.val (.ag kd2), .val (.ag kd1)]))) []).map (fun r => (normR r.1, untupR r.1 && r.1.flat, r.2)) = some (dots_v x, true, dots_cs26 x) := by kernel_rfl

theorem dots_ev26 (x : Vars) : EvP Try.prog G21 26 [.val (.ag kd2), .val (.ag kd1)] [.ag kd1, .sc (.flt .f32), .sc (.int .i64), .sc (.int .i64)] (mkL x 0 (kdsP [.val (.ag kd2), .val (.ag kd1)])) (dotsR0 (mkL x 0 (kdsP [.val (.ag kd2), .val (.ag kd1)]))) :=
  EvP.ofH (H := Hds) (J := true) Hds_ok (mkL_norm ..) (by rw [dots_x]; exact dots_f26 x) (dots_c26 x)

noncomputable def dots27_v_0 (x : Vars) : Vars := (colourR [(.flt .f32 (x.u 0)), (.flt .f32 (x.u 1)), (.flt .f32 (x.u 2)), (.flt .f32 (x.u 3)), (.flt .f32 (x.u 4)), (.flt .f32 (x.u 5)), (.flt .f32 (x.u 6)), (.flt .f32 (x.u 7)), (.flt .f32 (x.u 8)), (.flt .f32 (x.u 9)), (.flt .f32 (x.u 10)), (.flt .f32 (x.u 11)), (.flt .f32 (x.u 12)), (.flt .f32 (x.u 13)), (.flt .f32 (x.u 14)), (.flt .f32 (x.u 15)), (.flt .f32 (x.u 16)), (.flt .f32 (x.u 17)), (.flt .f32 (x.u 18)), (.flt .f32 (x.u 19)), (.flt .f32 (x.u 20)), (.flt .f32 (x.u 21)), (.flt .f32 (x.u 22)), (.flt .f32 (x.u 23)), (.flt .f32 1056964608), (.flt .f32 1056964608), (.flt .f32 1056964608)])

noncomputable def dots27_v_1 (x : Vars) : Vars := (farR [(.flt .f32 ((dots27_v_0 x).u 0)), (.flt .f32 ((dots27_v_0 x).u 1)), (.flt .f32 ((dots27_v_0 x).u 2)), (.flt .f32 (x.u 24)), (.flt .f32 (x.u 25)), (.flt .f32 (x.u 26))])

noncomputable def dots27_v_2 (x : Vars) : Nat × SV := (diF (mkSV [(.flt .f32 ((dots27_v_1 x).u 0)), (.flt .f32 1048576000), (.int .i64 0), (.flt .f32 (x.u 0)), (.flt .f32 (x.u 1)), (.flt .f32 (x.u 2)), (.flt .f32 (x.u 3)), (.flt .f32 (x.u 4)), (.flt .f32 (x.u 5)), (.flt .f32 (x.u 6)), (.flt .f32 (x.u 7)), (.flt .f32 (x.u 8)), (.flt .f32 (x.u 9)), (.flt .f32 (x.u 10)), (.flt .f32 (x.u 11)), (.flt .f32 (x.u 12)), (.flt .f32 (x.u 13)), (.flt .f32 (x.u 14)), (.flt .f32 (x.u 15)), (.flt .f32 (x.u 16)), (.flt .f32 (x.u 17)), (.flt .f32 (x.u 18)), (.flt .f32 (x.u 19)), (.flt .f32 (x.u 20)), (.flt .f32 (x.u 21)), (.flt .f32 (x.u 22)), (.flt .f32 (x.u 23)), (.flt .f32 (x.u 24)), (.flt .f32 (x.u 25)), (.flt .f32 (x.u 26)), (.flt .f32 0), (.flt .f32 0), (.flt .f32 0), (.flt .f32 1056964608), (.flt .f32 1056964608), (.flt .f32 1056964608)] [] [0, 0, 0, 0] [zeroV, zeroV, zeroV, zeroV]))

noncomputable def dots27_v_3 (x : Vars) : Vars := (valid3R [(.flt .f32 (x.u 24)), (.flt .f32 (x.u 25)), (.flt .f32 (x.u 26))])

noncomputable def dots27_v_4 (x : Vars) : Vars := (validPR [(.flt .f32 (x.u 0)), (.flt .f32 (x.u 1)), (.flt .f32 (x.u 2)), (.flt .f32 (x.u 3)), (.flt .f32 (x.u 4)), (.flt .f32 (x.u 5)), (.flt .f32 (x.u 6)), (.flt .f32 (x.u 7)), (.flt .f32 (x.u 8)), (.flt .f32 (x.u 9)), (.flt .f32 (x.u 10)), (.flt .f32 (x.u 11)), (.flt .f32 (x.u 12)), (.flt .f32 (x.u 13)), (.flt .f32 (x.u 14)), (.flt .f32 (x.u 15)), (.flt .f32 (x.u 16)), (.flt .f32 (x.u 17)), (.flt .f32 (x.u 18)), (.flt .f32 (x.u 19)), (.flt .f32 (x.u 20)), (.flt .f32 (x.u 21)), (.flt .f32 (x.u 22)), (.flt .f32 (x.u 23))])

noncomputable def dots_cs27 (x : Vars) : List Bool := [(((!((dots27_v_4 x).b 0)) || (!((dots27_v_3 x).b 0))) || (decide (0 ≤ ((mkSV [(.flt .f32 ((dots27_v_1 x).u 0)), (.flt .f32 1048576000), (.int .i64 0), (.flt .f32 (x.u 0)), (.flt .f32 (x.u 1)), (.flt .f32 (x.u 2)), (.flt .f32 (x.u 3)), (.flt .f32 (x.u 4)), (.flt .f32 (x.u 5)), (.flt .f32 (x.u 6)), (.flt .f32 (x.u 7)), (.flt .f32 (x.u 8)), (.flt .f32 (x.u 9)), (.flt .f32 (x.u 10)), (.flt .f32 (x.u 11)), (.flt .f32 (x.u 12)), (.flt .f32 (x.u 13)), (.flt .f32 (x.u 14)), (.flt .f32 (x.u 15)), (.flt .f32 (x.u 16)), (.flt .f32 (x.u 17)), (.flt .f32 (x.u 18)), (.flt .f32 (x.u 19)), (.flt .f32 (x.u 20)), (.flt .f32 (x.u 21)), (.flt .f32 (x.u 22)), (.flt .f32 (x.u 23)), (.flt .f32 (x.u 24)), (.flt .f32 (x.u 25)), (.flt .f32 (x.u 26)), (.flt .f32 0), (.flt .f32 0), (.flt .f32 0), (.flt .f32 1056964608), (.flt .f32 1056964608), (.flt .f32 1056964608)] [] [0, 0, 0, 0] [zeroV, zeroV, zeroV, zeroV]).x.i 2)))), (((!((dots27_v_4 x).b 0)) || (!((dots27_v_3 x).b 0))) || (decide (((mkSV [(.flt .f32 ((dots27_v_1 x).u 0)), (.flt .f32 1048576000), (.int .i64 0), (.flt .f32 (x.u 0)), (.flt .f32 (x.u 1)), (.flt .f32 (x.u 2)), (.flt .f32 (x.u 3)), (.flt .f32 (x.u 4)), (.flt .f32 (x.u 5)), (.flt .f32 (x.u 6)), (.flt .f32 (x.u 7)), (.flt .f32 (x.u 8)), (.flt .f32 (x.u 9)), (.flt .f32 (x.u 10)), (.flt .f32 (x.u 11)), (.flt .f32 (x.u 12)), (.flt .f32 (x.u 13)), (.flt .f32 (x.u 14)), (.flt .f32 (x.u 15)), (.flt .f32 (x.u 16)), (.flt .f32 (x.u 17)), (.flt .f32 (x.u 18)), (.flt .f32 (x.u 19)), (.flt .f32 (x.u 20)), (.flt .f32 (x.u 21)), (.flt .f32 (x.u 22)), (.flt .f32 (x.u 23)), (.flt .f32 (x.u 24)), (.flt .f32 (x.u 25)), (.flt .f32 (x.u 26)), (.flt .f32 0), (.flt .f32 0), (.flt .f32 0), (.flt .f32 1056964608), (.flt .f32 1056964608), (.flt .f32 1056964608)] [] [0, 0, 0, 0] [zeroV, zeroV, zeroV, zeroV]).x.i 2) ≤ 400)))]

theorem dots_c27 (x : Vars) : ∀ b ∈ dots_cs27 x, b = true := by
  unfold dots_cs27
  exact allC (orTr (by kernel_rfl)) (allC (orTr (by kernel_rfl)) allN)

noncomputable def dots_w27 (x : Vars) : AV := .tup [.agg [.flt .f32 ((bif ((!((dots27_v_4 x).b 0)) || (!((dots27_v_3 x).b 0))) then 0 else ((dots27_v_2 x).2.x.u 33))), .flt .f32 ((bif ((!((dots27_v_4 x).b 0)) || (!((dots27_v_3 x).b 0))) then 0 else ((dots27_v_2 x).2.x.u 34))), .flt .f32 ((bif ((!((dots27_v_4 x).b 0)) || (!((dots27_v_3 x).b 0))) then 0 else ((dots27_v_2 x).2.x.u 35)))], .flt .f32 ((bif ((!((dots27_v_4 x).b 0)) || (!((dots27_v_3 x).b 0))) then 0 else ((dots27_v_2 x).2.x.u 0))), .sint .i64 ((bif ((!((dots27_v_4 x).b 0)) || (!((dots27_v_3 x).b 0))) then 0 else ((dots27_v_2 x).2.x.i 2))), .sint .i64 ((bif ((!((dots27_v_4 x).b 0)) || (!((dots27_v_3 x).b 0))) then 1 else 0))]

theorem dots_g27 (x : Vars) : (funH Try.prog G21 Hdi true 1000 27 (argsP [.val (.ag kd2), .val (.ag kd1)] 0 (mkL x 0 (kdsP [.val (.ag kd2), .val (.ag kd1)]))) (memP [.val (.ag kd2), .val (.ag kd1)] (mkL x 0 (kdsP [.val (.ag kd2), .val (.ag kd1)]))) []).map (fun r => (normR r.1, untupR r.1 && r.1.flat, r.2)) = some (dots_w27 x, true, dots_cs27 x) := by kernel_rfl

theorem dots_q27 (x : Vars) : dots_w27 x = dots_v x := by
  have e : dots27_v_2 x = dots26_v_2 x := by
    unfold dots27_v_2 dots26_v_2
    rw [dotsF _ (by kernel_rfl)]
    kernel_rfl
  unfold dots_w27
  rw [e]
  show (_ : AV) = _
  kernel_rfl

theorem dots_f27 (x : Vars) : (funH Try.prog G21 Hdi true 1000 27 (argsP [.val (.ag kd2), .val (.ag kd1)] 0 (mkL x 0 (kdsP [.val (.ag kd2), .val (.ag kd1)]))) (memP [.val (.ag kd2), .val (.ag kd1)] (mkL x 0 (kdsP [.val (.ag kd2), .val (.ag kd1)]))) []).map (fun r => (normR r.1, untupR r.1 && r.1.flat, r.2)) = some (dots_v x, true, dots_cs27 x) := by
  rw [dots_g27, dots_q27]

theorem dots_ev27 (x : Vars) : EvP Try.prog G21 27 [.val (.ag kd2), .val (.ag kd1)] [.ag kd1, .sc (.flt .f32), .sc (.int .i64), .sc (.int .i64)] (mkL x 0 (kdsP [.val (.ag kd2), .val (.ag kd1)])) (dotsR0 (mkL x 0 (kdsP [.val (.ag kd2), .val (.ag kd1)]))) :=
  EvP.ofH (H := Hdi) (J := true) Hdi_ok (mkL_norm ..) (by rw [dots_x]; exact dots_f27 x) (dots_c27 x)

noncomputable def G22 : Summ := addG 26 (sumP [.val (.ag kd2), .val (.ag kd1)] [.ag kd1, .sc (.flt .f32), .sc (.int .i64), .sc (.int .i64)] (fun _ => []) dotsR) G21

theorem G22_ok : SoundG Try.prog G22 := SoundG.sumP G21_ok mixed Try.call26 G21_ok (fun x hx hp => by rw [dotsR_eq]; exact (fun x _ _ => dots_ev26 x) x hx hp)

noncomputable def G23 : Summ := addG 27 (sumP [.val (.ag kd2), .val (.ag kd1)] [.ag kd1, .sc (.flt .f32), .sc (.int .i64), .sc (.int .i64)] (fun _ => []) dotsR) G22

theorem G23_ok : SoundG Try.prog G23 := SoundG.sumP G22_ok mixed Try.call27 G21_ok (fun x hx hp => by rw [dotsR_eq]; exact (fun x _ _ => dots_ev27 x) x hx hp)

end Go.Proofs.Ytigcbcaknhhgmaa

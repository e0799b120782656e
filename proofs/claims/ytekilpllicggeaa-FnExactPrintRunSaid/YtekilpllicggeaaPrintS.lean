/-
  Facts of this seat that its laws use; no conditions.
-/
import Derived.Test.YtekilpllicggeaaPrintE
namespace Go.Proofs.Ytekilpllicggeaa
open Go.Sim Go.ChangeShapes Go.WideShapes Go.ChangeAt Go.RowKit

theorem prF_5 {x : Vars} (h : prF x = true) : (filmsR [(.flt .f32 (x.u 0)), (.flt .f32 (x.u 1)), (.flt .f32 (x.u 2)), (.flt .f32 (x.u 3))]).b 0 = true ∧ fcmp .geq .f32 (x.u 8) 0 = true ∧ fcmp .leq .f32 (x.u 8) 1233125376 = true ∧ fcmp .geq .f32 (x.u 9) 0 = true ∧ fcmp .leq .f32 (x.u 9) 1233125376 = true := and5 h

noncomputable def pr_0123_a0 (x : Vars) : Vars := driedR [(.agg [(.flt .f32 (farith .add .f32 0 (x.u 0))), (.flt .f32 0), (.flt .f32 0), (.flt .f32 0)]), (.flt .f32 (x.u 8)), (.flt .f32 (x.u 9))]

noncomputable def pr_0123_a1 (x : Vars) : Vars := driedR [(.agg [(.flt .f32 ((pr_0123_a0 x).u 0)), (.flt .f32 (farith .add .f32 ((pr_0123_a0 x).u 1) (x.u 1))), (.flt .f32 ((pr_0123_a0 x).u 2)), (.flt .f32 ((pr_0123_a0 x).u 3))]), (.flt .f32 (x.u 8)), (.flt .f32 (x.u 9))]

noncomputable def pr_0123_a2 (x : Vars) : Vars := driedR [(.agg [(.flt .f32 ((pr_0123_a1 x).u 0)), (.flt .f32 ((pr_0123_a1 x).u 1)), (.flt .f32 (farith .add .f32 ((pr_0123_a1 x).u 2) (x.u 2))), (.flt .f32 ((pr_0123_a1 x).u 3))]), (.flt .f32 (x.u 8)), (.flt .f32 (x.u 9))]

noncomputable def pr_0123_a3 (x : Vars) : Vars := driedR [(.agg [(.flt .f32 ((pr_0123_a2 x).u 0)), (.flt .f32 ((pr_0123_a2 x).u 1)), (.flt .f32 ((pr_0123_a2 x).u 2)), (.flt .f32 (farith .add .f32 ((pr_0123_a2 x).u 3) (x.u 3)))]), (.flt .f32 (x.u 8)), (.flt .f32 (x.u 9))]


noncomputable def pr_v0123 (x : Vars) : AV := .tup [.agg [.flt .f32 (((pr_0123_a3 x).u 0)), .flt .f32 (((pr_0123_a3 x).u 1)), .flt .f32 (((pr_0123_a3 x).u 2)), .flt .f32 (((pr_0123_a3 x).u 3))], .sint .i64 (0)]

noncomputable def prZ0123 (l : List AV) : Vars := outV (some (pr_v0123 (varsOf l), []))

theorem pr_x0123 (x : Vars) : mkR (prZ0123 (mkL x 0 (kdsP [.val (.ag kd1), .val (.ag kd2), .val (.sc (.flt .f32)), .val (.sc (.flt .f32))]))) [.ag kd1, .sc (.int .i64)] = pr_v0123 x := by kernel_rfl

theorem pr_c9_0 (x : Vars) (hF : prF x = true) : ∀ b ∈ ([(!(!((((filmsR [(.flt .f32 (x.u 0)), (.flt .f32 (x.u 1)), (.flt .f32 (x.u 2)), (.flt .f32 (x.u 3))]).b 0) && ((fcmp .geq .f32 (x.u 8) 0) && (fcmp .leq .f32 (x.u 8) 1233125376))) && ((fcmp .geq .f32 (x.u 9) 0) && (fcmp .leq .f32 (x.u 9) 1233125376)))))] : List Bool), b = true := by
  have f := prF_5 hF
  exact (allC (notT (notF (andT (andT f.1 (andT f.2.1 f.2.2.1)) (andT f.2.2.2.1 f.2.2.2.2)))) allN)

theorem pr_f9_0123 (x : Vars) : (funH Try.prog G8 noLT true 1000 9 (argsP prP 0 (litL (litL (litL (litL (mkL x 0 (kdsP [.val (.ag kd1), .val (.ag kd2), .val (.sc (.flt .f32)), .val (.sc (.flt .f32))])) 4 0) 5 1) 6 2) 7 3)) (memP prP (litL (litL (litL (litL (mkL x 0 (kdsP [.val (.ag kd1), .val (.ag kd2), .val (.sc (.flt .f32)), .val (.sc (.flt .f32))])) 4 0) 5 1) 6 2) 7 3)) [false]).map (fun r => (normR r.1, untupR r.1 && r.1.flat, r.2)) = some (pr_v0123 x, true, [(!(!((((filmsR [(.flt .f32 (x.u 0)), (.flt .f32 (x.u 1)), (.flt .f32 (x.u 2)), (.flt .f32 (x.u 3))]).b 0) && ((fcmp .geq .f32 (x.u 8) 0) && (fcmp .leq .f32 (x.u 8) 1233125376))) && ((fcmp .geq .f32 (x.u 9) 0) && (fcmp .leq .f32 (x.u 9) 1233125376)))))]) := by kernel_rfl

theorem pr_o9_0123 (x : Vars) (hF : prF x = true) (z0 : x.i 4 = 0) (z1 : x.i 5 = 1) (z2 : x.i 6 = 2) (z3 : x.i 7 = 3) : EvP Try.prog G8 9 prP [.ag kd1, .sc (.int .i64)] (mkL x 0 (kdsP [.val (.ag kd1), .val (.ag kd2), .val (.sc (.flt .f32)), .val (.sc (.flt .f32))])) (prZ0123 (mkL x 0 (kdsP [.val (.ag kd1), .val (.ag kd2), .val (.sc (.flt .f32)), .val (.sc (.flt .f32))]))) :=
  EvP.ofH (H := noLT) (J := true) (HFun.none Try.prog _ 9) (litL_mk2 (litL_mk2 (litL_mk2 (litL_mk z0) z1) z2) z3) (by rw [pr_x0123]; exact pr_f9_0123 x) (pr_c9_0 x hF)

theorem pr_c12_1 (x : Vars) (hF : prF x = true) : ∀ b ∈ ([(!((!((filmsR [(.flt .f32 (x.u 0)), (.flt .f32 (x.u 1)), (.flt .f32 (x.u 2)), (.flt .f32 (x.u 3))]).b 0)) || (!(((fcmp .geq .f32 (x.u 8) 0) && (fcmp .leq .f32 (x.u 8) 1233125376)) && ((fcmp .geq .f32 (x.u 9) 0) && (fcmp .leq .f32 (x.u 9) 1233125376))))))] : List Bool), b = true := by
  have f := prF_5 hF
  exact (allC (notT (orF (notF f.1) (notF (andT (andT f.2.1 f.2.2.1) (andT f.2.2.2.1 f.2.2.2.2))))) allN)

theorem pr_f12_0123 (x : Vars) : (funH Try.prog G8 noLT true 1000 12 (argsP prP 0 (litL (litL (litL (litL (mkL x 0 (kdsP [.val (.ag kd1), .val (.ag kd2), .val (.sc (.flt .f32)), .val (.sc (.flt .f32))])) 4 0) 5 1) 6 2) 7 3)) (memP prP (litL (litL (litL (litL (mkL x 0 (kdsP [.val (.ag kd1), .val (.ag kd2), .val (.sc (.flt .f32)), .val (.sc (.flt .f32))])) 4 0) 5 1) 6 2) 7 3)) [false]).map (fun r => (normR r.1, untupR r.1 && r.1.flat, r.2)) = some (pr_v0123 x, true, [(!((!((filmsR [(.flt .f32 (x.u 0)), (.flt .f32 (x.u 1)), (.flt .f32 (x.u 2)), (.flt .f32 (x.u 3))]).b 0)) || (!(((fcmp .geq .f32 (x.u 8) 0) && (fcmp .leq .f32 (x.u 8) 1233125376)) && ((fcmp .geq .f32 (x.u 9) 0) && (fcmp .leq .f32 (x.u 9) 1233125376))))))]) := by kernel_rfl

theorem pr_o12_0123 (x : Vars) (hF : prF x = true) (z0 : x.i 4 = 0) (z1 : x.i 5 = 1) (z2 : x.i 6 = 2) (z3 : x.i 7 = 3) : EvP Try.prog G8 12 prP [.ag kd1, .sc (.int .i64)] (mkL x 0 (kdsP [.val (.ag kd1), .val (.ag kd2), .val (.sc (.flt .f32)), .val (.sc (.flt .f32))])) (prZ0123 (mkL x 0 (kdsP [.val (.ag kd1), .val (.ag kd2), .val (.sc (.flt .f32)), .val (.sc (.flt .f32))]))) :=
  EvP.ofH (H := noLT) (J := true) (HFun.none Try.prog _ 12) (litL_mk2 (litL_mk2 (litL_mk2 (litL_mk z0) z1) z2) z3) (by rw [pr_x0123]; exact pr_f12_0123 x) (pr_c12_1 x hF)

noncomputable def pr_0132_a0 (x : Vars) : Vars := driedR [(.agg [(.flt .f32 ((pr_0123_a1 x).u 0)), (.flt .f32 ((pr_0123_a1 x).u 1)), (.flt .f32 ((pr_0123_a1 x).u 2)), (.flt .f32 (farith .add .f32 ((pr_0123_a1 x).u 3) (x.u 3)))]), (.flt .f32 (x.u 8)), (.flt .f32 (x.u 9))]

noncomputable def pr_0132_a1 (x : Vars) : Vars := driedR [(.agg [(.flt .f32 ((pr_0132_a0 x).u 0)), (.flt .f32 ((pr_0132_a0 x).u 1)), (.flt .f32 (farith .add .f32 ((pr_0132_a0 x).u 2) (x.u 2))), (.flt .f32 ((pr_0132_a0 x).u 3))]), (.flt .f32 (x.u 8)), (.flt .f32 (x.u 9))]


noncomputable def pr_v0132 (x : Vars) : AV := .tup [.agg [.flt .f32 (((pr_0132_a1 x).u 0)), .flt .f32 (((pr_0132_a1 x).u 1)), .flt .f32 (((pr_0132_a1 x).u 2)), .flt .f32 (((pr_0132_a1 x).u 3))], .sint .i64 (0)]

noncomputable def prZ0132 (l : List AV) : Vars := outV (some (pr_v0132 (varsOf l), []))

theorem pr_x0132 (x : Vars) : mkR (prZ0132 (mkL x 0 (kdsP [.val (.ag kd1), .val (.ag kd2), .val (.sc (.flt .f32)), .val (.sc (.flt .f32))]))) [.ag kd1, .sc (.int .i64)] = pr_v0132 x := by kernel_rfl

theorem pr_f9_0132 (x : Vars) : (funH Try.prog G8 noLT true 1000 9 (argsP prP 0 (litL (litL (litL (litL (mkL x 0 (kdsP [.val (.ag kd1), .val (.ag kd2), .val (.sc (.flt .f32)), .val (.sc (.flt .f32))])) 4 0) 5 1) 6 3) 7 2)) (memP prP (litL (litL (litL (litL (mkL x 0 (kdsP [.val (.ag kd1), .val (.ag kd2), .val (.sc (.flt .f32)), .val (.sc (.flt .f32))])) 4 0) 5 1) 6 3) 7 2)) [false]).map (fun r => (normR r.1, untupR r.1 && r.1.flat, r.2)) = some (pr_v0132 x, true, [(!(!((((filmsR [(.flt .f32 (x.u 0)), (.flt .f32 (x.u 1)), (.flt .f32 (x.u 2)), (.flt .f32 (x.u 3))]).b 0) && ((fcmp .geq .f32 (x.u 8) 0) && (fcmp .leq .f32 (x.u 8) 1233125376))) && ((fcmp .geq .f32 (x.u 9) 0) && (fcmp .leq .f32 (x.u 9) 1233125376)))))]) := by kernel_rfl

theorem pr_o9_0132 (x : Vars) (hF : prF x = true) (z0 : x.i 4 = 0) (z1 : x.i 5 = 1) (z2 : x.i 6 = 3) (z3 : x.i 7 = 2) : EvP Try.prog G8 9 prP [.ag kd1, .sc (.int .i64)] (mkL x 0 (kdsP [.val (.ag kd1), .val (.ag kd2), .val (.sc (.flt .f32)), .val (.sc (.flt .f32))])) (prZ0132 (mkL x 0 (kdsP [.val (.ag kd1), .val (.ag kd2), .val (.sc (.flt .f32)), .val (.sc (.flt .f32))]))) :=
  EvP.ofH (H := noLT) (J := true) (HFun.none Try.prog _ 9) (litL_mk2 (litL_mk2 (litL_mk2 (litL_mk z0) z1) z2) z3) (by rw [pr_x0132]; exact pr_f9_0132 x) (pr_c9_0 x hF)

theorem pr_f12_0132 (x : Vars) : (funH Try.prog G8 noLT true 1000 12 (argsP prP 0 (litL (litL (litL (litL (mkL x 0 (kdsP [.val (.ag kd1), .val (.ag kd2), .val (.sc (.flt .f32)), .val (.sc (.flt .f32))])) 4 0) 5 1) 6 3) 7 2)) (memP prP (litL (litL (litL (litL (mkL x 0 (kdsP [.val (.ag kd1), .val (.ag kd2), .val (.sc (.flt .f32)), .val (.sc (.flt .f32))])) 4 0) 5 1) 6 3) 7 2)) [false]).map (fun r => (normR r.1, untupR r.1 && r.1.flat, r.2)) = some (pr_v0132 x, true, [(!((!((filmsR [(.flt .f32 (x.u 0)), (.flt .f32 (x.u 1)), (.flt .f32 (x.u 2)), (.flt .f32 (x.u 3))]).b 0)) || (!(((fcmp .geq .f32 (x.u 8) 0) && (fcmp .leq .f32 (x.u 8) 1233125376)) && ((fcmp .geq .f32 (x.u 9) 0) && (fcmp .leq .f32 (x.u 9) 1233125376))))))]) := by kernel_rfl

theorem pr_o12_0132 (x : Vars) (hF : prF x = true) (z0 : x.i 4 = 0) (z1 : x.i 5 = 1) (z2 : x.i 6 = 3) (z3 : x.i 7 = 2) : EvP Try.prog G8 12 prP [.ag kd1, .sc (.int .i64)] (mkL x 0 (kdsP [.val (.ag kd1), .val (.ag kd2), .val (.sc (.flt .f32)), .val (.sc (.flt .f32))])) (prZ0132 (mkL x 0 (kdsP [.val (.ag kd1), .val (.ag kd2), .val (.sc (.flt .f32)), .val (.sc (.flt .f32))]))) :=
  EvP.ofH (H := noLT) (J := true) (HFun.none Try.prog _ 12) (litL_mk2 (litL_mk2 (litL_mk2 (litL_mk z0) z1) z2) z3) (by rw [pr_x0132]; exact pr_f12_0132 x) (pr_c12_1 x hF)

noncomputable def pr_0213_a0 (x : Vars) : Vars := driedR [(.agg [(.flt .f32 ((pr_0123_a0 x).u 0)), (.flt .f32 ((pr_0123_a0 x).u 1)), (.flt .f32 (farith .add .f32 ((pr_0123_a0 x).u 2) (x.u 2))), (.flt .f32 ((pr_0123_a0 x).u 3))]), (.flt .f32 (x.u 8)), (.flt .f32 (x.u 9))]

noncomputable def pr_0213_a1 (x : Vars) : Vars := driedR [(.agg [(.flt .f32 ((pr_0213_a0 x).u 0)), (.flt .f32 (farith .add .f32 ((pr_0213_a0 x).u 1) (x.u 1))), (.flt .f32 ((pr_0213_a0 x).u 2)), (.flt .f32 ((pr_0213_a0 x).u 3))]), (.flt .f32 (x.u 8)), (.flt .f32 (x.u 9))]

noncomputable def pr_0213_a2 (x : Vars) : Vars := driedR [(.agg [(.flt .f32 ((pr_0213_a1 x).u 0)), (.flt .f32 ((pr_0213_a1 x).u 1)), (.flt .f32 ((pr_0213_a1 x).u 2)), (.flt .f32 (farith .add .f32 ((pr_0213_a1 x).u 3) (x.u 3)))]), (.flt .f32 (x.u 8)), (.flt .f32 (x.u 9))]


noncomputable def pr_v0213 (x : Vars) : AV := .tup [.agg [.flt .f32 (((pr_0213_a2 x).u 0)), .flt .f32 (((pr_0213_a2 x).u 1)), .flt .f32 (((pr_0213_a2 x).u 2)), .flt .f32 (((pr_0213_a2 x).u 3))], .sint .i64 (0)]

noncomputable def prZ0213 (l : List AV) : Vars := outV (some (pr_v0213 (varsOf l), []))

theorem pr_x0213 (x : Vars) : mkR (prZ0213 (mkL x 0 (kdsP [.val (.ag kd1), .val (.ag kd2), .val (.sc (.flt .f32)), .val (.sc (.flt .f32))]))) [.ag kd1, .sc (.int .i64)] = pr_v0213 x := by kernel_rfl

theorem pr_f9_0213 (x : Vars) : (funH Try.prog G8 noLT true 1000 9 (argsP prP 0 (litL (litL (litL (litL (mkL x 0 (kdsP [.val (.ag kd1), .val (.ag kd2), .val (.sc (.flt .f32)), .val (.sc (.flt .f32))])) 4 0) 5 2) 6 1) 7 3)) (memP prP (litL (litL (litL (litL (mkL x 0 (kdsP [.val (.ag kd1), .val (.ag kd2), .val (.sc (.flt .f32)), .val (.sc (.flt .f32))])) 4 0) 5 2) 6 1) 7 3)) [false]).map (fun r => (normR r.1, untupR r.1 && r.1.flat, r.2)) = some (pr_v0213 x, true, [(!(!((((filmsR [(.flt .f32 (x.u 0)), (.flt .f32 (x.u 1)), (.flt .f32 (x.u 2)), (.flt .f32 (x.u 3))]).b 0) && ((fcmp .geq .f32 (x.u 8) 0) && (fcmp .leq .f32 (x.u 8) 1233125376))) && ((fcmp .geq .f32 (x.u 9) 0) && (fcmp .leq .f32 (x.u 9) 1233125376)))))]) := by kernel_rfl

theorem pr_o9_0213 (x : Vars) (hF : prF x = true) (z0 : x.i 4 = 0) (z1 : x.i 5 = 2) (z2 : x.i 6 = 1) (z3 : x.i 7 = 3) : EvP Try.prog G8 9 prP [.ag kd1, .sc (.int .i64)] (mkL x 0 (kdsP [.val (.ag kd1), .val (.ag kd2), .val (.sc (.flt .f32)), .val (.sc (.flt .f32))])) (prZ0213 (mkL x 0 (kdsP [.val (.ag kd1), .val (.ag kd2), .val (.sc (.flt .f32)), .val (.sc (.flt .f32))]))) :=
  EvP.ofH (H := noLT) (J := true) (HFun.none Try.prog _ 9) (litL_mk2 (litL_mk2 (litL_mk2 (litL_mk z0) z1) z2) z3) (by rw [pr_x0213]; exact pr_f9_0213 x) (pr_c9_0 x hF)

theorem pr_f12_0213 (x : Vars) : (funH Try.prog G8 noLT true 1000 12 (argsP prP 0 (litL (litL (litL (litL (mkL x 0 (kdsP [.val (.ag kd1), .val (.ag kd2), .val (.sc (.flt .f32)), .val (.sc (.flt .f32))])) 4 0) 5 2) 6 1) 7 3)) (memP prP (litL (litL (litL (litL (mkL x 0 (kdsP [.val (.ag kd1), .val (.ag kd2), .val (.sc (.flt .f32)), .val (.sc (.flt .f32))])) 4 0) 5 2) 6 1) 7 3)) [false]).map (fun r => (normR r.1, untupR r.1 && r.1.flat, r.2)) = some (pr_v0213 x, true, [(!((!((filmsR [(.flt .f32 (x.u 0)), (.flt .f32 (x.u 1)), (.flt .f32 (x.u 2)), (.flt .f32 (x.u 3))]).b 0)) || (!(((fcmp .geq .f32 (x.u 8) 0) && (fcmp .leq .f32 (x.u 8) 1233125376)) && ((fcmp .geq .f32 (x.u 9) 0) && (fcmp .leq .f32 (x.u 9) 1233125376))))))]) := by kernel_rfl

theorem pr_o12_0213 (x : Vars) (hF : prF x = true) (z0 : x.i 4 = 0) (z1 : x.i 5 = 2) (z2 : x.i 6 = 1) (z3 : x.i 7 = 3) : EvP Try.prog G8 12 prP [.ag kd1, .sc (.int .i64)] (mkL x 0 (kdsP [.val (.ag kd1), .val (.ag kd2), .val (.sc (.flt .f32)), .val (.sc (.flt .f32))])) (prZ0213 (mkL x 0 (kdsP [.val (.ag kd1), .val (.ag kd2), .val (.sc (.flt .f32)), .val (.sc (.flt .f32))]))) :=
  EvP.ofH (H := noLT) (J := true) (HFun.none Try.prog _ 12) (litL_mk2 (litL_mk2 (litL_mk2 (litL_mk z0) z1) z2) z3) (by rw [pr_x0213]; exact pr_f12_0213 x) (pr_c12_1 x hF)

noncomputable def pr_0231_a0 (x : Vars) : Vars := driedR [(.agg [(.flt .f32 ((pr_0213_a0 x).u 0)), (.flt .f32 ((pr_0213_a0 x).u 1)), (.flt .f32 ((pr_0213_a0 x).u 2)), (.flt .f32 (farith .add .f32 ((pr_0213_a0 x).u 3) (x.u 3)))]), (.flt .f32 (x.u 8)), (.flt .f32 (x.u 9))]

noncomputable def pr_0231_a1 (x : Vars) : Vars := driedR [(.agg [(.flt .f32 ((pr_0231_a0 x).u 0)), (.flt .f32 (farith .add .f32 ((pr_0231_a0 x).u 1) (x.u 1))), (.flt .f32 ((pr_0231_a0 x).u 2)), (.flt .f32 ((pr_0231_a0 x).u 3))]), (.flt .f32 (x.u 8)), (.flt .f32 (x.u 9))]


noncomputable def pr_v0231 (x : Vars) : AV := .tup [.agg [.flt .f32 (((pr_0231_a1 x).u 0)), .flt .f32 (((pr_0231_a1 x).u 1)), .flt .f32 (((pr_0231_a1 x).u 2)), .flt .f32 (((pr_0231_a1 x).u 3))], .sint .i64 (0)]

noncomputable def prZ0231 (l : List AV) : Vars := outV (some (pr_v0231 (varsOf l), []))

theorem pr_x0231 (x : Vars) : mkR (prZ0231 (mkL x 0 (kdsP [.val (.ag kd1), .val (.ag kd2), .val (.sc (.flt .f32)), .val (.sc (.flt .f32))]))) [.ag kd1, .sc (.int .i64)] = pr_v0231 x := by kernel_rfl

theorem pr_f9_0231 (x : Vars) : (funH Try.prog G8 noLT true 1000 9 (argsP prP 0 (litL (litL (litL (litL (mkL x 0 (kdsP [.val (.ag kd1), .val (.ag kd2), .val (.sc (.flt .f32)), .val (.sc (.flt .f32))])) 4 0) 5 2) 6 3) 7 1)) (memP prP (litL (litL (litL (litL (mkL x 0 (kdsP [.val (.ag kd1), .val (.ag kd2), .val (.sc (.flt .f32)), .val (.sc (.flt .f32))])) 4 0) 5 2) 6 3) 7 1)) [false]).map (fun r => (normR r.1, untupR r.1 && r.1.flat, r.2)) = some (pr_v0231 x, true, [(!(!((((filmsR [(.flt .f32 (x.u 0)), (.flt .f32 (x.u 1)), (.flt .f32 (x.u 2)), (.flt .f32 (x.u 3))]).b 0) && ((fcmp .geq .f32 (x.u 8) 0) && (fcmp .leq .f32 (x.u 8) 1233125376))) && ((fcmp .geq .f32 (x.u 9) 0) && (fcmp .leq .f32 (x.u 9) 1233125376)))))]) := by kernel_rfl

theorem pr_o9_0231 (x : Vars) (hF : prF x = true) (z0 : x.i 4 = 0) (z1 : x.i 5 = 2) (z2 : x.i 6 = 3) (z3 : x.i 7 = 1) : EvP Try.prog G8 9 prP [.ag kd1, .sc (.int .i64)] (mkL x 0 (kdsP [.val (.ag kd1), .val (.ag kd2), .val (.sc (.flt .f32)), .val (.sc (.flt .f32))])) (prZ0231 (mkL x 0 (kdsP [.val (.ag kd1), .val (.ag kd2), .val (.sc (.flt .f32)), .val (.sc (.flt .f32))]))) :=
  EvP.ofH (H := noLT) (J := true) (HFun.none Try.prog _ 9) (litL_mk2 (litL_mk2 (litL_mk2 (litL_mk z0) z1) z2) z3) (by rw [pr_x0231]; exact pr_f9_0231 x) (pr_c9_0 x hF)

theorem pr_f12_0231 (x : Vars) : (funH Try.prog G8 noLT true 1000 12 (argsP prP 0 (litL (litL (litL (litL (mkL x 0 (kdsP [.val (.ag kd1), .val (.ag kd2), .val (.sc (.flt .f32)), .val (.sc (.flt .f32))])) 4 0) 5 2) 6 3) 7 1)) (memP prP (litL (litL (litL (litL (mkL x 0 (kdsP [.val (.ag kd1), .val (.ag kd2), .val (.sc (.flt .f32)), .val (.sc (.flt .f32))])) 4 0) 5 2) 6 3) 7 1)) [false]).map (fun r => (normR r.1, untupR r.1 && r.1.flat, r.2)) = some (pr_v0231 x, true, [(!((!((filmsR [(.flt .f32 (x.u 0)), (.flt .f32 (x.u 1)), (.flt .f32 (x.u 2)), (.flt .f32 (x.u 3))]).b 0)) || (!(((fcmp .geq .f32 (x.u 8) 0) && (fcmp .leq .f32 (x.u 8) 1233125376)) && ((fcmp .geq .f32 (x.u 9) 0) && (fcmp .leq .f32 (x.u 9) 1233125376))))))]) := by kernel_rfl

theorem pr_o12_0231 (x : Vars) (hF : prF x = true) (z0 : x.i 4 = 0) (z1 : x.i 5 = 2) (z2 : x.i 6 = 3) (z3 : x.i 7 = 1) : EvP Try.prog G8 12 prP [.ag kd1, .sc (.int .i64)] (mkL x 0 (kdsP [.val (.ag kd1), .val (.ag kd2), .val (.sc (.flt .f32)), .val (.sc (.flt .f32))])) (prZ0231 (mkL x 0 (kdsP [.val (.ag kd1), .val (.ag kd2), .val (.sc (.flt .f32)), .val (.sc (.flt .f32))]))) :=
  EvP.ofH (H := noLT) (J := true) (HFun.none Try.prog _ 12) (litL_mk2 (litL_mk2 (litL_mk2 (litL_mk z0) z1) z2) z3) (by rw [pr_x0231]; exact pr_f12_0231 x) (pr_c12_1 x hF)

noncomputable def pr_0312_a0 (x : Vars) : Vars := driedR [(.agg [(.flt .f32 ((pr_0123_a0 x).u 0)), (.flt .f32 ((pr_0123_a0 x).u 1)), (.flt .f32 ((pr_0123_a0 x).u 2)), (.flt .f32 (farith .add .f32 ((pr_0123_a0 x).u 3) (x.u 3)))]), (.flt .f32 (x.u 8)), (.flt .f32 (x.u 9))]

noncomputable def pr_0312_a1 (x : Vars) : Vars := driedR [(.agg [(.flt .f32 ((pr_0312_a0 x).u 0)), (.flt .f32 (farith .add .f32 ((pr_0312_a0 x).u 1) (x.u 1))), (.flt .f32 ((pr_0312_a0 x).u 2)), (.flt .f32 ((pr_0312_a0 x).u 3))]), (.flt .f32 (x.u 8)), (.flt .f32 (x.u 9))]

noncomputable def pr_0312_a2 (x : Vars) : Vars := driedR [(.agg [(.flt .f32 ((pr_0312_a1 x).u 0)), (.flt .f32 ((pr_0312_a1 x).u 1)), (.flt .f32 (farith .add .f32 ((pr_0312_a1 x).u 2) (x.u 2))), (.flt .f32 ((pr_0312_a1 x).u 3))]), (.flt .f32 (x.u 8)), (.flt .f32 (x.u 9))]


noncomputable def pr_v0312 (x : Vars) : AV := .tup [.agg [.flt .f32 (((pr_0312_a2 x).u 0)), .flt .f32 (((pr_0312_a2 x).u 1)), .flt .f32 (((pr_0312_a2 x).u 2)), .flt .f32 (((pr_0312_a2 x).u 3))], .sint .i64 (0)]

noncomputable def prZ0312 (l : List AV) : Vars := outV (some (pr_v0312 (varsOf l), []))

theorem pr_x0312 (x : Vars) : mkR (prZ0312 (mkL x 0 (kdsP [.val (.ag kd1), .val (.ag kd2), .val (.sc (.flt .f32)), .val (.sc (.flt .f32))]))) [.ag kd1, .sc (.int .i64)] = pr_v0312 x := by kernel_rfl

theorem pr_f9_0312 (x : Vars) : (funH Try.prog G8 noLT true 1000 9 (argsP prP 0 (litL (litL (litL (litL (mkL x 0 (kdsP [.val (.ag kd1), .val (.ag kd2), .val (.sc (.flt .f32)), .val (.sc (.flt .f32))])) 4 0) 5 3) 6 1) 7 2)) (memP prP (litL (litL (litL (litL (mkL x 0 (kdsP [.val (.ag kd1), .val (.ag kd2), .val (.sc (.flt .f32)), .val (.sc (.flt .f32))])) 4 0) 5 3) 6 1) 7 2)) [false]).map (fun r => (normR r.1, untupR r.1 && r.1.flat, r.2)) = some (pr_v0312 x, true, [(!(!((((filmsR [(.flt .f32 (x.u 0)), (.flt .f32 (x.u 1)), (.flt .f32 (x.u 2)), (.flt .f32 (x.u 3))]).b 0) && ((fcmp .geq .f32 (x.u 8) 0) && (fcmp .leq .f32 (x.u 8) 1233125376))) && ((fcmp .geq .f32 (x.u 9) 0) && (fcmp .leq .f32 (x.u 9) 1233125376)))))]) := by kernel_rfl

theorem pr_o9_0312 (x : Vars) (hF : prF x = true) (z0 : x.i 4 = 0) (z1 : x.i 5 = 3) (z2 : x.i 6 = 1) (z3 : x.i 7 = 2) : EvP Try.prog G8 9 prP [.ag kd1, .sc (.int .i64)] (mkL x 0 (kdsP [.val (.ag kd1), .val (.ag kd2), .val (.sc (.flt .f32)), .val (.sc (.flt .f32))])) (prZ0312 (mkL x 0 (kdsP [.val (.ag kd1), .val (.ag kd2), .val (.sc (.flt .f32)), .val (.sc (.flt .f32))]))) :=
  EvP.ofH (H := noLT) (J := true) (HFun.none Try.prog _ 9) (litL_mk2 (litL_mk2 (litL_mk2 (litL_mk z0) z1) z2) z3) (by rw [pr_x0312]; exact pr_f9_0312 x) (pr_c9_0 x hF)

theorem pr_f12_0312 (x : Vars) : (funH Try.prog G8 noLT true 1000 12 (argsP prP 0 (litL (litL (litL (litL (mkL x 0 (kdsP [.val (.ag kd1), .val (.ag kd2), .val (.sc (.flt .f32)), .val (.sc (.flt .f32))])) 4 0) 5 3) 6 1) 7 2)) (memP prP (litL (litL (litL (litL (mkL x 0 (kdsP [.val (.ag kd1), .val (.ag kd2), .val (.sc (.flt .f32)), .val (.sc (.flt .f32))])) 4 0) 5 3) 6 1) 7 2)) [false]).map (fun r => (normR r.1, untupR r.1 && r.1.flat, r.2)) = some (pr_v0312 x, true, [(!((!((filmsR [(.flt .f32 (x.u 0)), (.flt .f32 (x.u 1)), (.flt .f32 (x.u 2)), (.flt .f32 (x.u 3))]).b 0)) || (!(((fcmp .geq .f32 (x.u 8) 0) && (fcmp .leq .f32 (x.u 8) 1233125376)) && ((fcmp .geq .f32 (x.u 9) 0) && (fcmp .leq .f32 (x.u 9) 1233125376))))))]) := by kernel_rfl

theorem pr_o12_0312 (x : Vars) (hF : prF x = true) (z0 : x.i 4 = 0) (z1 : x.i 5 = 3) (z2 : x.i 6 = 1) (z3 : x.i 7 = 2) : EvP Try.prog G8 12 prP [.ag kd1, .sc (.int .i64)] (mkL x 0 (kdsP [.val (.ag kd1), .val (.ag kd2), .val (.sc (.flt .f32)), .val (.sc (.flt .f32))])) (prZ0312 (mkL x 0 (kdsP [.val (.ag kd1), .val (.ag kd2), .val (.sc (.flt .f32)), .val (.sc (.flt .f32))]))) :=
  EvP.ofH (H := noLT) (J := true) (HFun.none Try.prog _ 12) (litL_mk2 (litL_mk2 (litL_mk2 (litL_mk z0) z1) z2) z3) (by rw [pr_x0312]; exact pr_f12_0312 x) (pr_c12_1 x hF)

noncomputable def pr_0321_a0 (x : Vars) : Vars := driedR [(.agg [(.flt .f32 ((pr_0312_a0 x).u 0)), (.flt .f32 ((pr_0312_a0 x).u 1)), (.flt .f32 (farith .add .f32 ((pr_0312_a0 x).u 2) (x.u 2))), (.flt .f32 ((pr_0312_a0 x).u 3))]), (.flt .f32 (x.u 8)), (.flt .f32 (x.u 9))]

noncomputable def pr_0321_a1 (x : Vars) : Vars := driedR [(.agg [(.flt .f32 ((pr_0321_a0 x).u 0)), (.flt .f32 (farith .add .f32 ((pr_0321_a0 x).u 1) (x.u 1))), (.flt .f32 ((pr_0321_a0 x).u 2)), (.flt .f32 ((pr_0321_a0 x).u 3))]), (.flt .f32 (x.u 8)), (.flt .f32 (x.u 9))]


noncomputable def pr_v0321 (x : Vars) : AV := .tup [.agg [.flt .f32 (((pr_0321_a1 x).u 0)), .flt .f32 (((pr_0321_a1 x).u 1)), .flt .f32 (((pr_0321_a1 x).u 2)), .flt .f32 (((pr_0321_a1 x).u 3))], .sint .i64 (0)]

noncomputable def prZ0321 (l : List AV) : Vars := outV (some (pr_v0321 (varsOf l), []))

theorem pr_x0321 (x : Vars) : mkR (prZ0321 (mkL x 0 (kdsP [.val (.ag kd1), .val (.ag kd2), .val (.sc (.flt .f32)), .val (.sc (.flt .f32))]))) [.ag kd1, .sc (.int .i64)] = pr_v0321 x := by kernel_rfl

theorem pr_f9_0321 (x : Vars) : (funH Try.prog G8 noLT true 1000 9 (argsP prP 0 (litL (litL (litL (litL (mkL x 0 (kdsP [.val (.ag kd1), .val (.ag kd2), .val (.sc (.flt .f32)), .val (.sc (.flt .f32))])) 4 0) 5 3) 6 2) 7 1)) (memP prP (litL (litL (litL (litL (mkL x 0 (kdsP [.val (.ag kd1), .val (.ag kd2), .val (.sc (.flt .f32)), .val (.sc (.flt .f32))])) 4 0) 5 3) 6 2) 7 1)) [false]).map (fun r => (normR r.1, untupR r.1 && r.1.flat, r.2)) = some (pr_v0321 x, true, [(!(!((((filmsR [(.flt .f32 (x.u 0)), (.flt .f32 (x.u 1)), (.flt .f32 (x.u 2)), (.flt .f32 (x.u 3))]).b 0) && ((fcmp .geq .f32 (x.u 8) 0) && (fcmp .leq .f32 (x.u 8) 1233125376))) && ((fcmp .geq .f32 (x.u 9) 0) && (fcmp .leq .f32 (x.u 9) 1233125376)))))]) := by kernel_rfl

theorem pr_o9_0321 (x : Vars) (hF : prF x = true) (z0 : x.i 4 = 0) (z1 : x.i 5 = 3) (z2 : x.i 6 = 2) (z3 : x.i 7 = 1) : EvP Try.prog G8 9 prP [.ag kd1, .sc (.int .i64)] (mkL x 0 (kdsP [.val (.ag kd1), .val (.ag kd2), .val (.sc (.flt .f32)), .val (.sc (.flt .f32))])) (prZ0321 (mkL x 0 (kdsP [.val (.ag kd1), .val (.ag kd2), .val (.sc (.flt .f32)), .val (.sc (.flt .f32))]))) :=
  EvP.ofH (H := noLT) (J := true) (HFun.none Try.prog _ 9) (litL_mk2 (litL_mk2 (litL_mk2 (litL_mk z0) z1) z2) z3) (by rw [pr_x0321]; exact pr_f9_0321 x) (pr_c9_0 x hF)

theorem pr_f12_0321 (x : Vars) : (funH Try.prog G8 noLT true 1000 12 (argsP prP 0 (litL (litL (litL (litL (mkL x 0 (kdsP [.val (.ag kd1), .val (.ag kd2), .val (.sc (.flt .f32)), .val (.sc (.flt .f32))])) 4 0) 5 3) 6 2) 7 1)) (memP prP (litL (litL (litL (litL (mkL x 0 (kdsP [.val (.ag kd1), .val (.ag kd2), .val (.sc (.flt .f32)), .val (.sc (.flt .f32))])) 4 0) 5 3) 6 2) 7 1)) [false]).map (fun r => (normR r.1, untupR r.1 && r.1.flat, r.2)) = some (pr_v0321 x, true, [(!((!((filmsR [(.flt .f32 (x.u 0)), (.flt .f32 (x.u 1)), (.flt .f32 (x.u 2)), (.flt .f32 (x.u 3))]).b 0)) || (!(((fcmp .geq .f32 (x.u 8) 0) && (fcmp .leq .f32 (x.u 8) 1233125376)) && ((fcmp .geq .f32 (x.u 9) 0) && (fcmp .leq .f32 (x.u 9) 1233125376))))))]) := by kernel_rfl

theorem pr_o12_0321 (x : Vars) (hF : prF x = true) (z0 : x.i 4 = 0) (z1 : x.i 5 = 3) (z2 : x.i 6 = 2) (z3 : x.i 7 = 1) : EvP Try.prog G8 12 prP [.ag kd1, .sc (.int .i64)] (mkL x 0 (kdsP [.val (.ag kd1), .val (.ag kd2), .val (.sc (.flt .f32)), .val (.sc (.flt .f32))])) (prZ0321 (mkL x 0 (kdsP [.val (.ag kd1), .val (.ag kd2), .val (.sc (.flt .f32)), .val (.sc (.flt .f32))]))) :=
  EvP.ofH (H := noLT) (J := true) (HFun.none Try.prog _ 12) (litL_mk2 (litL_mk2 (litL_mk2 (litL_mk z0) z1) z2) z3) (by rw [pr_x0321]; exact pr_f12_0321 x) (pr_c12_1 x hF)

noncomputable def pr_1023_a0 (x : Vars) : Vars := driedR [(.agg [(.flt .f32 0), (.flt .f32 (farith .add .f32 0 (x.u 1))), (.flt .f32 0), (.flt .f32 0)]), (.flt .f32 (x.u 8)), (.flt .f32 (x.u 9))]

noncomputable def pr_1023_a1 (x : Vars) : Vars := driedR [(.agg [(.flt .f32 (farith .add .f32 ((pr_1023_a0 x).u 0) (x.u 0))), (.flt .f32 ((pr_1023_a0 x).u 1)), (.flt .f32 ((pr_1023_a0 x).u 2)), (.flt .f32 ((pr_1023_a0 x).u 3))]), (.flt .f32 (x.u 8)), (.flt .f32 (x.u 9))]

noncomputable def pr_1023_a2 (x : Vars) : Vars := driedR [(.agg [(.flt .f32 ((pr_1023_a1 x).u 0)), (.flt .f32 ((pr_1023_a1 x).u 1)), (.flt .f32 (farith .add .f32 ((pr_1023_a1 x).u 2) (x.u 2))), (.flt .f32 ((pr_1023_a1 x).u 3))]), (.flt .f32 (x.u 8)), (.flt .f32 (x.u 9))]

noncomputable def pr_1023_a3 (x : Vars) : Vars := driedR [(.agg [(.flt .f32 ((pr_1023_a2 x).u 0)), (.flt .f32 ((pr_1023_a2 x).u 1)), (.flt .f32 ((pr_1023_a2 x).u 2)), (.flt .f32 (farith .add .f32 ((pr_1023_a2 x).u 3) (x.u 3)))]), (.flt .f32 (x.u 8)), (.flt .f32 (x.u 9))]


noncomputable def pr_v1023 (x : Vars) : AV := .tup [.agg [.flt .f32 (((pr_1023_a3 x).u 0)), .flt .f32 (((pr_1023_a3 x).u 1)), .flt .f32 (((pr_1023_a3 x).u 2)), .flt .f32 (((pr_1023_a3 x).u 3))], .sint .i64 (0)]

noncomputable def prZ1023 (l : List AV) : Vars := outV (some (pr_v1023 (varsOf l), []))

theorem pr_x1023 (x : Vars) : mkR (prZ1023 (mkL x 0 (kdsP [.val (.ag kd1), .val (.ag kd2), .val (.sc (.flt .f32)), .val (.sc (.flt .f32))]))) [.ag kd1, .sc (.int .i64)] = pr_v1023 x := by kernel_rfl

theorem pr_f9_1023 (x : Vars) : (funH Try.prog G8 noLT true 1000 9 (argsP prP 0 (litL (litL (litL (litL (mkL x 0 (kdsP [.val (.ag kd1), .val (.ag kd2), .val (.sc (.flt .f32)), .val (.sc (.flt .f32))])) 4 1) 5 0) 6 2) 7 3)) (memP prP (litL (litL (litL (litL (mkL x 0 (kdsP [.val (.ag kd1), .val (.ag kd2), .val (.sc (.flt .f32)), .val (.sc (.flt .f32))])) 4 1) 5 0) 6 2) 7 3)) [false]).map (fun r => (normR r.1, untupR r.1 && r.1.flat, r.2)) = some (pr_v1023 x, true, [(!(!((((filmsR [(.flt .f32 (x.u 0)), (.flt .f32 (x.u 1)), (.flt .f32 (x.u 2)), (.flt .f32 (x.u 3))]).b 0) && ((fcmp .geq .f32 (x.u 8) 0) && (fcmp .leq .f32 (x.u 8) 1233125376))) && ((fcmp .geq .f32 (x.u 9) 0) && (fcmp .leq .f32 (x.u 9) 1233125376)))))]) := by kernel_rfl

theorem pr_o9_1023 (x : Vars) (hF : prF x = true) (z0 : x.i 4 = 1) (z1 : x.i 5 = 0) (z2 : x.i 6 = 2) (z3 : x.i 7 = 3) : EvP Try.prog G8 9 prP [.ag kd1, .sc (.int .i64)] (mkL x 0 (kdsP [.val (.ag kd1), .val (.ag kd2), .val (.sc (.flt .f32)), .val (.sc (.flt .f32))])) (prZ1023 (mkL x 0 (kdsP [.val (.ag kd1), .val (.ag kd2), .val (.sc (.flt .f32)), .val (.sc (.flt .f32))]))) :=
  EvP.ofH (H := noLT) (J := true) (HFun.none Try.prog _ 9) (litL_mk2 (litL_mk2 (litL_mk2 (litL_mk z0) z1) z2) z3) (by rw [pr_x1023]; exact pr_f9_1023 x) (pr_c9_0 x hF)

theorem pr_f12_1023 (x : Vars) : (funH Try.prog G8 noLT true 1000 12 (argsP prP 0 (litL (litL (litL (litL (mkL x 0 (kdsP [.val (.ag kd1), .val (.ag kd2), .val (.sc (.flt .f32)), .val (.sc (.flt .f32))])) 4 1) 5 0) 6 2) 7 3)) (memP prP (litL (litL (litL (litL (mkL x 0 (kdsP [.val (.ag kd1), .val (.ag kd2), .val (.sc (.flt .f32)), .val (.sc (.flt .f32))])) 4 1) 5 0) 6 2) 7 3)) [false]).map (fun r => (normR r.1, untupR r.1 && r.1.flat, r.2)) = some (pr_v1023 x, true, [(!((!((filmsR [(.flt .f32 (x.u 0)), (.flt .f32 (x.u 1)), (.flt .f32 (x.u 2)), (.flt .f32 (x.u 3))]).b 0)) || (!(((fcmp .geq .f32 (x.u 8) 0) && (fcmp .leq .f32 (x.u 8) 1233125376)) && ((fcmp .geq .f32 (x.u 9) 0) && (fcmp .leq .f32 (x.u 9) 1233125376))))))]) := by kernel_rfl

theorem pr_o12_1023 (x : Vars) (hF : prF x = true) (z0 : x.i 4 = 1) (z1 : x.i 5 = 0) (z2 : x.i 6 = 2) (z3 : x.i 7 = 3) : EvP Try.prog G8 12 prP [.ag kd1, .sc (.int .i64)] (mkL x 0 (kdsP [.val (.ag kd1), .val (.ag kd2), .val (.sc (.flt .f32)), .val (.sc (.flt .f32))])) (prZ1023 (mkL x 0 (kdsP [.val (.ag kd1), .val (.ag kd2), .val (.sc (.flt .f32)), .val (.sc (.flt .f32))]))) :=
  EvP.ofH (H := noLT) (J := true) (HFun.none Try.prog _ 12) (litL_mk2 (litL_mk2 (litL_mk2 (litL_mk z0) z1) z2) z3) (by rw [pr_x1023]; exact pr_f12_1023 x) (pr_c12_1 x hF)

noncomputable def pr_1032_a0 (x : Vars) : Vars := driedR [(.agg [(.flt .f32 ((pr_1023_a1 x).u 0)), (.flt .f32 ((pr_1023_a1 x).u 1)), (.flt .f32 ((pr_1023_a1 x).u 2)), (.flt .f32 (farith .add .f32 ((pr_1023_a1 x).u 3) (x.u 3)))]), (.flt .f32 (x.u 8)), (.flt .f32 (x.u 9))]

noncomputable def pr_1032_a1 (x : Vars) : Vars := driedR [(.agg [(.flt .f32 ((pr_1032_a0 x).u 0)), (.flt .f32 ((pr_1032_a0 x).u 1)), (.flt .f32 (farith .add .f32 ((pr_1032_a0 x).u 2) (x.u 2))), (.flt .f32 ((pr_1032_a0 x).u 3))]), (.flt .f32 (x.u 8)), (.flt .f32 (x.u 9))]


noncomputable def pr_v1032 (x : Vars) : AV := .tup [.agg [.flt .f32 (((pr_1032_a1 x).u 0)), .flt .f32 (((pr_1032_a1 x).u 1)), .flt .f32 (((pr_1032_a1 x).u 2)), .flt .f32 (((pr_1032_a1 x).u 3))], .sint .i64 (0)]

noncomputable def prZ1032 (l : List AV) : Vars := outV (some (pr_v1032 (varsOf l), []))

theorem pr_x1032 (x : Vars) : mkR (prZ1032 (mkL x 0 (kdsP [.val (.ag kd1), .val (.ag kd2), .val (.sc (.flt .f32)), .val (.sc (.flt .f32))]))) [.ag kd1, .sc (.int .i64)] = pr_v1032 x := by kernel_rfl

theorem pr_f9_1032 (x : Vars) : (funH Try.prog G8 noLT true 1000 9 (argsP prP 0 (litL (litL (litL (litL (mkL x 0 (kdsP [.val (.ag kd1), .val (.ag kd2), .val (.sc (.flt .f32)), .val (.sc (.flt .f32))])) 4 1) 5 0) 6 3) 7 2)) (memP prP (litL (litL (litL (litL (mkL x 0 (kdsP [.val (.ag kd1), .val (.ag kd2), .val (.sc (.flt .f32)), .val (.sc (.flt .f32))])) 4 1) 5 0) 6 3) 7 2)) [false]).map (fun r => (normR r.1, untupR r.1 && r.1.flat, r.2)) = some (pr_v1032 x, true, [(!(!((((filmsR [(.flt .f32 (x.u 0)), (.flt .f32 (x.u 1)), (.flt .f32 (x.u 2)), (.flt .f32 (x.u 3))]).b 0) && ((fcmp .geq .f32 (x.u 8) 0) && (fcmp .leq .f32 (x.u 8) 1233125376))) && ((fcmp .geq .f32 (x.u 9) 0) && (fcmp .leq .f32 (x.u 9) 1233125376)))))]) := by kernel_rfl

theorem pr_o9_1032 (x : Vars) (hF : prF x = true) (z0 : x.i 4 = 1) (z1 : x.i 5 = 0) (z2 : x.i 6 = 3) (z3 : x.i 7 = 2) : EvP Try.prog G8 9 prP [.ag kd1, .sc (.int .i64)] (mkL x 0 (kdsP [.val (.ag kd1), .val (.ag kd2), .val (.sc (.flt .f32)), .val (.sc (.flt .f32))])) (prZ1032 (mkL x 0 (kdsP [.val (.ag kd1), .val (.ag kd2), .val (.sc (.flt .f32)), .val (.sc (.flt .f32))]))) :=
  EvP.ofH (H := noLT) (J := true) (HFun.none Try.prog _ 9) (litL_mk2 (litL_mk2 (litL_mk2 (litL_mk z0) z1) z2) z3) (by rw [pr_x1032]; exact pr_f9_1032 x) (pr_c9_0 x hF)

theorem pr_f12_1032 (x : Vars) : (funH Try.prog G8 noLT true 1000 12 (argsP prP 0 (litL (litL (litL (litL (mkL x 0 (kdsP [.val (.ag kd1), .val (.ag kd2), .val (.sc (.flt .f32)), .val (.sc (.flt .f32))])) 4 1) 5 0) 6 3) 7 2)) (memP prP (litL (litL (litL (litL (mkL x 0 (kdsP [.val (.ag kd1), .val (.ag kd2), .val (.sc (.flt .f32)), .val (.sc (.flt .f32))])) 4 1) 5 0) 6 3) 7 2)) [false]).map (fun r => (normR r.1, untupR r.1 && r.1.flat, r.2)) = some (pr_v1032 x, true, [(!((!((filmsR [(.flt .f32 (x.u 0)), (.flt .f32 (x.u 1)), (.flt .f32 (x.u 2)), (.flt .f32 (x.u 3))]).b 0)) || (!(((fcmp .geq .f32 (x.u 8) 0) && (fcmp .leq .f32 (x.u 8) 1233125376)) && ((fcmp .geq .f32 (x.u 9) 0) && (fcmp .leq .f32 (x.u 9) 1233125376))))))]) := by kernel_rfl

theorem pr_o12_1032 (x : Vars) (hF : prF x = true) (z0 : x.i 4 = 1) (z1 : x.i 5 = 0) (z2 : x.i 6 = 3) (z3 : x.i 7 = 2) : EvP Try.prog G8 12 prP [.ag kd1, .sc (.int .i64)] (mkL x 0 (kdsP [.val (.ag kd1), .val (.ag kd2), .val (.sc (.flt .f32)), .val (.sc (.flt .f32))])) (prZ1032 (mkL x 0 (kdsP [.val (.ag kd1), .val (.ag kd2), .val (.sc (.flt .f32)), .val (.sc (.flt .f32))]))) :=
  EvP.ofH (H := noLT) (J := true) (HFun.none Try.prog _ 12) (litL_mk2 (litL_mk2 (litL_mk2 (litL_mk z0) z1) z2) z3) (by rw [pr_x1032]; exact pr_f12_1032 x) (pr_c12_1 x hF)

noncomputable def pr_1203_a0 (x : Vars) : Vars := driedR [(.agg [(.flt .f32 ((pr_1023_a0 x).u 0)), (.flt .f32 ((pr_1023_a0 x).u 1)), (.flt .f32 (farith .add .f32 ((pr_1023_a0 x).u 2) (x.u 2))), (.flt .f32 ((pr_1023_a0 x).u 3))]), (.flt .f32 (x.u 8)), (.flt .f32 (x.u 9))]

noncomputable def pr_1203_a1 (x : Vars) : Vars := driedR [(.agg [(.flt .f32 (farith .add .f32 ((pr_1203_a0 x).u 0) (x.u 0))), (.flt .f32 ((pr_1203_a0 x).u 1)), (.flt .f32 ((pr_1203_a0 x).u 2)), (.flt .f32 ((pr_1203_a0 x).u 3))]), (.flt .f32 (x.u 8)), (.flt .f32 (x.u 9))]

noncomputable def pr_1203_a2 (x : Vars) : Vars := driedR [(.agg [(.flt .f32 ((pr_1203_a1 x).u 0)), (.flt .f32 ((pr_1203_a1 x).u 1)), (.flt .f32 ((pr_1203_a1 x).u 2)), (.flt .f32 (farith .add .f32 ((pr_1203_a1 x).u 3) (x.u 3)))]), (.flt .f32 (x.u 8)), (.flt .f32 (x.u 9))]


noncomputable def pr_v1203 (x : Vars) : AV := .tup [.agg [.flt .f32 (((pr_1203_a2 x).u 0)), .flt .f32 (((pr_1203_a2 x).u 1)), .flt .f32 (((pr_1203_a2 x).u 2)), .flt .f32 (((pr_1203_a2 x).u 3))], .sint .i64 (0)]

noncomputable def prZ1203 (l : List AV) : Vars := outV (some (pr_v1203 (varsOf l), []))

theorem pr_x1203 (x : Vars) : mkR (prZ1203 (mkL x 0 (kdsP [.val (.ag kd1), .val (.ag kd2), .val (.sc (.flt .f32)), .val (.sc (.flt .f32))]))) [.ag kd1, .sc (.int .i64)] = pr_v1203 x := by kernel_rfl

theorem pr_f9_1203 (x : Vars) : (funH Try.prog G8 noLT true 1000 9 (argsP prP 0 (litL (litL (litL (litL (mkL x 0 (kdsP [.val (.ag kd1), .val (.ag kd2), .val (.sc (.flt .f32)), .val (.sc (.flt .f32))])) 4 1) 5 2) 6 0) 7 3)) (memP prP (litL (litL (litL (litL (mkL x 0 (kdsP [.val (.ag kd1), .val (.ag kd2), .val (.sc (.flt .f32)), .val (.sc (.flt .f32))])) 4 1) 5 2) 6 0) 7 3)) [false]).map (fun r => (normR r.1, untupR r.1 && r.1.flat, r.2)) = some (pr_v1203 x, true, [(!(!((((filmsR [(.flt .f32 (x.u 0)), (.flt .f32 (x.u 1)), (.flt .f32 (x.u 2)), (.flt .f32 (x.u 3))]).b 0) && ((fcmp .geq .f32 (x.u 8) 0) && (fcmp .leq .f32 (x.u 8) 1233125376))) && ((fcmp .geq .f32 (x.u 9) 0) && (fcmp .leq .f32 (x.u 9) 1233125376)))))]) := by kernel_rfl

theorem pr_o9_1203 (x : Vars) (hF : prF x = true) (z0 : x.i 4 = 1) (z1 : x.i 5 = 2) (z2 : x.i 6 = 0) (z3 : x.i 7 = 3) : EvP Try.prog G8 9 prP [.ag kd1, .sc (.int .i64)] (mkL x 0 (kdsP [.val (.ag kd1), .val (.ag kd2), .val (.sc (.flt .f32)), .val (.sc (.flt .f32))])) (prZ1203 (mkL x 0 (kdsP [.val (.ag kd1), .val (.ag kd2), .val (.sc (.flt .f32)), .val (.sc (.flt .f32))]))) :=
  EvP.ofH (H := noLT) (J := true) (HFun.none Try.prog _ 9) (litL_mk2 (litL_mk2 (litL_mk2 (litL_mk z0) z1) z2) z3) (by rw [pr_x1203]; exact pr_f9_1203 x) (pr_c9_0 x hF)

theorem pr_f12_1203 (x : Vars) : (funH Try.prog G8 noLT true 1000 12 (argsP prP 0 (litL (litL (litL (litL (mkL x 0 (kdsP [.val (.ag kd1), .val (.ag kd2), .val (.sc (.flt .f32)), .val (.sc (.flt .f32))])) 4 1) 5 2) 6 0) 7 3)) (memP prP (litL (litL (litL (litL (mkL x 0 (kdsP [.val (.ag kd1), .val (.ag kd2), .val (.sc (.flt .f32)), .val (.sc (.flt .f32))])) 4 1) 5 2) 6 0) 7 3)) [false]).map (fun r => (normR r.1, untupR r.1 && r.1.flat, r.2)) = some (pr_v1203 x, true, [(!((!((filmsR [(.flt .f32 (x.u 0)), (.flt .f32 (x.u 1)), (.flt .f32 (x.u 2)), (.flt .f32 (x.u 3))]).b 0)) || (!(((fcmp .geq .f32 (x.u 8) 0) && (fcmp .leq .f32 (x.u 8) 1233125376)) && ((fcmp .geq .f32 (x.u 9) 0) && (fcmp .leq .f32 (x.u 9) 1233125376))))))]) := by kernel_rfl

theorem pr_o12_1203 (x : Vars) (hF : prF x = true) (z0 : x.i 4 = 1) (z1 : x.i 5 = 2) (z2 : x.i 6 = 0) (z3 : x.i 7 = 3) : EvP Try.prog G8 12 prP [.ag kd1, .sc (.int .i64)] (mkL x 0 (kdsP [.val (.ag kd1), .val (.ag kd2), .val (.sc (.flt .f32)), .val (.sc (.flt .f32))])) (prZ1203 (mkL x 0 (kdsP [.val (.ag kd1), .val (.ag kd2), .val (.sc (.flt .f32)), .val (.sc (.flt .f32))]))) :=
  EvP.ofH (H := noLT) (J := true) (HFun.none Try.prog _ 12) (litL_mk2 (litL_mk2 (litL_mk2 (litL_mk z0) z1) z2) z3) (by rw [pr_x1203]; exact pr_f12_1203 x) (pr_c12_1 x hF)

noncomputable def pr_1230_a0 (x : Vars) : Vars := driedR [(.agg [(.flt .f32 ((pr_1203_a0 x).u 0)), (.flt .f32 ((pr_1203_a0 x).u 1)), (.flt .f32 ((pr_1203_a0 x).u 2)), (.flt .f32 (farith .add .f32 ((pr_1203_a0 x).u 3) (x.u 3)))]), (.flt .f32 (x.u 8)), (.flt .f32 (x.u 9))]

noncomputable def pr_1230_a1 (x : Vars) : Vars := driedR [(.agg [(.flt .f32 (farith .add .f32 ((pr_1230_a0 x).u 0) (x.u 0))), (.flt .f32 ((pr_1230_a0 x).u 1)), (.flt .f32 ((pr_1230_a0 x).u 2)), (.flt .f32 ((pr_1230_a0 x).u 3))]), (.flt .f32 (x.u 8)), (.flt .f32 (x.u 9))]


noncomputable def pr_v1230 (x : Vars) : AV := .tup [.agg [.flt .f32 (((pr_1230_a1 x).u 0)), .flt .f32 (((pr_1230_a1 x).u 1)), .flt .f32 (((pr_1230_a1 x).u 2)), .flt .f32 (((pr_1230_a1 x).u 3))], .sint .i64 (0)]

noncomputable def prZ1230 (l : List AV) : Vars := outV (some (pr_v1230 (varsOf l), []))

theorem pr_x1230 (x : Vars) : mkR (prZ1230 (mkL x 0 (kdsP [.val (.ag kd1), .val (.ag kd2), .val (.sc (.flt .f32)), .val (.sc (.flt .f32))]))) [.ag kd1, .sc (.int .i64)] = pr_v1230 x := by kernel_rfl

theorem pr_f9_1230 (x : Vars) : (funH Try.prog G8 noLT true 1000 9 (argsP prP 0 (litL (litL (litL (litL (mkL x 0 (kdsP [.val (.ag kd1), .val (.ag kd2), .val (.sc (.flt .f32)), .val (.sc (.flt .f32))])) 4 1) 5 2) 6 3) 7 0)) (memP prP (litL (litL (litL (litL (mkL x 0 (kdsP [.val (.ag kd1), .val (.ag kd2), .val (.sc (.flt .f32)), .val (.sc (.flt .f32))])) 4 1) 5 2) 6 3) 7 0)) [false]).map (fun r => (normR r.1, untupR r.1 && r.1.flat, r.2)) = some (pr_v1230 x, true, [(!(!((((filmsR [(.flt .f32 (x.u 0)), (.flt .f32 (x.u 1)), (.flt .f32 (x.u 2)), (.flt .f32 (x.u 3))]).b 0) && ((fcmp .geq .f32 (x.u 8) 0) && (fcmp .leq .f32 (x.u 8) 1233125376))) && ((fcmp .geq .f32 (x.u 9) 0) && (fcmp .leq .f32 (x.u 9) 1233125376)))))]) := by kernel_rfl

theorem pr_o9_1230 (x : Vars) (hF : prF x = true) (z0 : x.i 4 = 1) (z1 : x.i 5 = 2) (z2 : x.i 6 = 3) (z3 : x.i 7 = 0) : EvP Try.prog G8 9 prP [.ag kd1, .sc (.int .i64)] (mkL x 0 (kdsP [.val (.ag kd1), .val (.ag kd2), .val (.sc (.flt .f32)), .val (.sc (.flt .f32))])) (prZ1230 (mkL x 0 (kdsP [.val (.ag kd1), .val (.ag kd2), .val (.sc (.flt .f32)), .val (.sc (.flt .f32))]))) :=
  EvP.ofH (H := noLT) (J := true) (HFun.none Try.prog _ 9) (litL_mk2 (litL_mk2 (litL_mk2 (litL_mk z0) z1) z2) z3) (by rw [pr_x1230]; exact pr_f9_1230 x) (pr_c9_0 x hF)

theorem pr_f12_1230 (x : Vars) : (funH Try.prog G8 noLT true 1000 12 (argsP prP 0 (litL (litL (litL (litL (mkL x 0 (kdsP [.val (.ag kd1), .val (.ag kd2), .val (.sc (.flt .f32)), .val (.sc (.flt .f32))])) 4 1) 5 2) 6 3) 7 0)) (memP prP (litL (litL (litL (litL (mkL x 0 (kdsP [.val (.ag kd1), .val (.ag kd2), .val (.sc (.flt .f32)), .val (.sc (.flt .f32))])) 4 1) 5 2) 6 3) 7 0)) [false]).map (fun r => (normR r.1, untupR r.1 && r.1.flat, r.2)) = some (pr_v1230 x, true, [(!((!((filmsR [(.flt .f32 (x.u 0)), (.flt .f32 (x.u 1)), (.flt .f32 (x.u 2)), (.flt .f32 (x.u 3))]).b 0)) || (!(((fcmp .geq .f32 (x.u 8) 0) && (fcmp .leq .f32 (x.u 8) 1233125376)) && ((fcmp .geq .f32 (x.u 9) 0) && (fcmp .leq .f32 (x.u 9) 1233125376))))))]) := by kernel_rfl

theorem pr_o12_1230 (x : Vars) (hF : prF x = true) (z0 : x.i 4 = 1) (z1 : x.i 5 = 2) (z2 : x.i 6 = 3) (z3 : x.i 7 = 0) : EvP Try.prog G8 12 prP [.ag kd1, .sc (.int .i64)] (mkL x 0 (kdsP [.val (.ag kd1), .val (.ag kd2), .val (.sc (.flt .f32)), .val (.sc (.flt .f32))])) (prZ1230 (mkL x 0 (kdsP [.val (.ag kd1), .val (.ag kd2), .val (.sc (.flt .f32)), .val (.sc (.flt .f32))]))) :=
  EvP.ofH (H := noLT) (J := true) (HFun.none Try.prog _ 12) (litL_mk2 (litL_mk2 (litL_mk2 (litL_mk z0) z1) z2) z3) (by rw [pr_x1230]; exact pr_f12_1230 x) (pr_c12_1 x hF)

noncomputable def pr_1302_a0 (x : Vars) : Vars := driedR [(.agg [(.flt .f32 ((pr_1023_a0 x).u 0)), (.flt .f32 ((pr_1023_a0 x).u 1)), (.flt .f32 ((pr_1023_a0 x).u 2)), (.flt .f32 (farith .add .f32 ((pr_1023_a0 x).u 3) (x.u 3)))]), (.flt .f32 (x.u 8)), (.flt .f32 (x.u 9))]

noncomputable def pr_1302_a1 (x : Vars) : Vars := driedR [(.agg [(.flt .f32 (farith .add .f32 ((pr_1302_a0 x).u 0) (x.u 0))), (.flt .f32 ((pr_1302_a0 x).u 1)), (.flt .f32 ((pr_1302_a0 x).u 2)), (.flt .f32 ((pr_1302_a0 x).u 3))]), (.flt .f32 (x.u 8)), (.flt .f32 (x.u 9))]

noncomputable def pr_1302_a2 (x : Vars) : Vars := driedR [(.agg [(.flt .f32 ((pr_1302_a1 x).u 0)), (.flt .f32 ((pr_1302_a1 x).u 1)), (.flt .f32 (farith .add .f32 ((pr_1302_a1 x).u 2) (x.u 2))), (.flt .f32 ((pr_1302_a1 x).u 3))]), (.flt .f32 (x.u 8)), (.flt .f32 (x.u 9))]


noncomputable def pr_v1302 (x : Vars) : AV := .tup [.agg [.flt .f32 (((pr_1302_a2 x).u 0)), .flt .f32 (((pr_1302_a2 x).u 1)), .flt .f32 (((pr_1302_a2 x).u 2)), .flt .f32 (((pr_1302_a2 x).u 3))], .sint .i64 (0)]

noncomputable def prZ1302 (l : List AV) : Vars := outV (some (pr_v1302 (varsOf l), []))

theorem pr_x1302 (x : Vars) : mkR (prZ1302 (mkL x 0 (kdsP [.val (.ag kd1), .val (.ag kd2), .val (.sc (.flt .f32)), .val (.sc (.flt .f32))]))) [.ag kd1, .sc (.int .i64)] = pr_v1302 x := by kernel_rfl

theorem pr_f9_1302 (x : Vars) : (funH Try.prog G8 noLT true 1000 9 (argsP prP 0 (litL (litL (litL (litL (mkL x 0 (kdsP [.val (.ag kd1), .val (.ag kd2), .val (.sc (.flt .f32)), .val (.sc (.flt .f32))])) 4 1) 5 3) 6 0) 7 2)) (memP prP (litL (litL (litL (litL (mkL x 0 (kdsP [.val (.ag kd1), .val (.ag kd2), .val (.sc (.flt .f32)), .val (.sc (.flt .f32))])) 4 1) 5 3) 6 0) 7 2)) [false]).map (fun r => (normR r.1, untupR r.1 && r.1.flat, r.2)) = some (pr_v1302 x, true, [(!(!((((filmsR [(.flt .f32 (x.u 0)), (.flt .f32 (x.u 1)), (.flt .f32 (x.u 2)), (.flt .f32 (x.u 3))]).b 0) && ((fcmp .geq .f32 (x.u 8) 0) && (fcmp .leq .f32 (x.u 8) 1233125376))) && ((fcmp .geq .f32 (x.u 9) 0) && (fcmp .leq .f32 (x.u 9) 1233125376)))))]) := by kernel_rfl

theorem pr_o9_1302 (x : Vars) (hF : prF x = true) (z0 : x.i 4 = 1) (z1 : x.i 5 = 3) (z2 : x.i 6 = 0) (z3 : x.i 7 = 2) : EvP Try.prog G8 9 prP [.ag kd1, .sc (.int .i64)] (mkL x 0 (kdsP [.val (.ag kd1), .val (.ag kd2), .val (.sc (.flt .f32)), .val (.sc (.flt .f32))])) (prZ1302 (mkL x 0 (kdsP [.val (.ag kd1), .val (.ag kd2), .val (.sc (.flt .f32)), .val (.sc (.flt .f32))]))) :=
  EvP.ofH (H := noLT) (J := true) (HFun.none Try.prog _ 9) (litL_mk2 (litL_mk2 (litL_mk2 (litL_mk z0) z1) z2) z3) (by rw [pr_x1302]; exact pr_f9_1302 x) (pr_c9_0 x hF)

theorem pr_f12_1302 (x : Vars) : (funH Try.prog G8 noLT true 1000 12 (argsP prP 0 (litL (litL (litL (litL (mkL x 0 (kdsP [.val (.ag kd1), .val (.ag kd2), .val (.sc (.flt .f32)), .val (.sc (.flt .f32))])) 4 1) 5 3) 6 0) 7 2)) (memP prP (litL (litL (litL (litL (mkL x 0 (kdsP [.val (.ag kd1), .val (.ag kd2), .val (.sc (.flt .f32)), .val (.sc (.flt .f32))])) 4 1) 5 3) 6 0) 7 2)) [false]).map (fun r => (normR r.1, untupR r.1 && r.1.flat, r.2)) = some (pr_v1302 x, true, [(!((!((filmsR [(.flt .f32 (x.u 0)), (.flt .f32 (x.u 1)), (.flt .f32 (x.u 2)), (.flt .f32 (x.u 3))]).b 0)) || (!(((fcmp .geq .f32 (x.u 8) 0) && (fcmp .leq .f32 (x.u 8) 1233125376)) && ((fcmp .geq .f32 (x.u 9) 0) && (fcmp .leq .f32 (x.u 9) 1233125376))))))]) := by kernel_rfl

theorem pr_o12_1302 (x : Vars) (hF : prF x = true) (z0 : x.i 4 = 1) (z1 : x.i 5 = 3) (z2 : x.i 6 = 0) (z3 : x.i 7 = 2) : EvP Try.prog G8 12 prP [.ag kd1, .sc (.int .i64)] (mkL x 0 (kdsP [.val (.ag kd1), .val (.ag kd2), .val (.sc (.flt .f32)), .val (.sc (.flt .f32))])) (prZ1302 (mkL x 0 (kdsP [.val (.ag kd1), .val (.ag kd2), .val (.sc (.flt .f32)), .val (.sc (.flt .f32))]))) :=
  EvP.ofH (H := noLT) (J := true) (HFun.none Try.prog _ 12) (litL_mk2 (litL_mk2 (litL_mk2 (litL_mk z0) z1) z2) z3) (by rw [pr_x1302]; exact pr_f12_1302 x) (pr_c12_1 x hF)

noncomputable def pr_1320_a0 (x : Vars) : Vars := driedR [(.agg [(.flt .f32 ((pr_1302_a0 x).u 0)), (.flt .f32 ((pr_1302_a0 x).u 1)), (.flt .f32 (farith .add .f32 ((pr_1302_a0 x).u 2) (x.u 2))), (.flt .f32 ((pr_1302_a0 x).u 3))]), (.flt .f32 (x.u 8)), (.flt .f32 (x.u 9))]

noncomputable def pr_1320_a1 (x : Vars) : Vars := driedR [(.agg [(.flt .f32 (farith .add .f32 ((pr_1320_a0 x).u 0) (x.u 0))), (.flt .f32 ((pr_1320_a0 x).u 1)), (.flt .f32 ((pr_1320_a0 x).u 2)), (.flt .f32 ((pr_1320_a0 x).u 3))]), (.flt .f32 (x.u 8)), (.flt .f32 (x.u 9))]


noncomputable def pr_v1320 (x : Vars) : AV := .tup [.agg [.flt .f32 (((pr_1320_a1 x).u 0)), .flt .f32 (((pr_1320_a1 x).u 1)), .flt .f32 (((pr_1320_a1 x).u 2)), .flt .f32 (((pr_1320_a1 x).u 3))], .sint .i64 (0)]

noncomputable def prZ1320 (l : List AV) : Vars := outV (some (pr_v1320 (varsOf l), []))

theorem pr_x1320 (x : Vars) : mkR (prZ1320 (mkL x 0 (kdsP [.val (.ag kd1), .val (.ag kd2), .val (.sc (.flt .f32)), .val (.sc (.flt .f32))]))) [.ag kd1, .sc (.int .i64)] = pr_v1320 x := by kernel_rfl

theorem pr_f9_1320 (x : Vars) : (funH Try.prog G8 noLT true 1000 9 (argsP prP 0 (litL (litL (litL (litL (mkL x 0 (kdsP [.val (.ag kd1), .val (.ag kd2), .val (.sc (.flt .f32)), .val (.sc (.flt .f32))])) 4 1) 5 3) 6 2) 7 0)) (memP prP (litL (litL (litL (litL (mkL x 0 (kdsP [.val (.ag kd1), .val (.ag kd2), .val (.sc (.flt .f32)), .val (.sc (.flt .f32))])) 4 1) 5 3) 6 2) 7 0)) [false]).map (fun r => (normR r.1, untupR r.1 && r.1.flat, r.2)) = some (pr_v1320 x, true, [(!(!((((filmsR [(.flt .f32 (x.u 0)), (.flt .f32 (x.u 1)), (.flt .f32 (x.u 2)), (.flt .f32 (x.u 3))]).b 0) && ((fcmp .geq .f32 (x.u 8) 0) && (fcmp .leq .f32 (x.u 8) 1233125376))) && ((fcmp .geq .f32 (x.u 9) 0) && (fcmp .leq .f32 (x.u 9) 1233125376)))))]) := by kernel_rfl

theorem pr_o9_1320 (x : Vars) (hF : prF x = true) (z0 : x.i 4 = 1) (z1 : x.i 5 = 3) (z2 : x.i 6 = 2) (z3 : x.i 7 = 0) : EvP Try.prog G8 9 prP [.ag kd1, .sc (.int .i64)] (mkL x 0 (kdsP [.val (.ag kd1), .val (.ag kd2), .val (.sc (.flt .f32)), .val (.sc (.flt .f32))])) (prZ1320 (mkL x 0 (kdsP [.val (.ag kd1), .val (.ag kd2), .val (.sc (.flt .f32)), .val (.sc (.flt .f32))]))) :=
  EvP.ofH (H := noLT) (J := true) (HFun.none Try.prog _ 9) (litL_mk2 (litL_mk2 (litL_mk2 (litL_mk z0) z1) z2) z3) (by rw [pr_x1320]; exact pr_f9_1320 x) (pr_c9_0 x hF)

theorem pr_f12_1320 (x : Vars) : (funH Try.prog G8 noLT true 1000 12 (argsP prP 0 (litL (litL (litL (litL (mkL x 0 (kdsP [.val (.ag kd1), .val (.ag kd2), .val (.sc (.flt .f32)), .val (.sc (.flt .f32))])) 4 1) 5 3) 6 2) 7 0)) (memP prP (litL (litL (litL (litL (mkL x 0 (kdsP [.val (.ag kd1), .val (.ag kd2), .val (.sc (.flt .f32)), .val (.sc (.flt .f32))])) 4 1) 5 3) 6 2) 7 0)) [false]).map (fun r => (normR r.1, untupR r.1 && r.1.flat, r.2)) = some (pr_v1320 x, true, [(!((!((filmsR [(.flt .f32 (x.u 0)), (.flt .f32 (x.u 1)), (.flt .f32 (x.u 2)), (.flt .f32 (x.u 3))]).b 0)) || (!(((fcmp .geq .f32 (x.u 8) 0) && (fcmp .leq .f32 (x.u 8) 1233125376)) && ((fcmp .geq .f32 (x.u 9) 0) && (fcmp .leq .f32 (x.u 9) 1233125376))))))]) := by kernel_rfl

theorem pr_o12_1320 (x : Vars) (hF : prF x = true) (z0 : x.i 4 = 1) (z1 : x.i 5 = 3) (z2 : x.i 6 = 2) (z3 : x.i 7 = 0) : EvP Try.prog G8 12 prP [.ag kd1, .sc (.int .i64)] (mkL x 0 (kdsP [.val (.ag kd1), .val (.ag kd2), .val (.sc (.flt .f32)), .val (.sc (.flt .f32))])) (prZ1320 (mkL x 0 (kdsP [.val (.ag kd1), .val (.ag kd2), .val (.sc (.flt .f32)), .val (.sc (.flt .f32))]))) :=
  EvP.ofH (H := noLT) (J := true) (HFun.none Try.prog _ 12) (litL_mk2 (litL_mk2 (litL_mk2 (litL_mk z0) z1) z2) z3) (by rw [pr_x1320]; exact pr_f12_1320 x) (pr_c12_1 x hF)

noncomputable def pr_2013_a0 (x : Vars) : Vars := driedR [(.agg [(.flt .f32 0), (.flt .f32 0), (.flt .f32 (farith .add .f32 0 (x.u 2))), (.flt .f32 0)]), (.flt .f32 (x.u 8)), (.flt .f32 (x.u 9))]

noncomputable def pr_2013_a1 (x : Vars) : Vars := driedR [(.agg [(.flt .f32 (farith .add .f32 ((pr_2013_a0 x).u 0) (x.u 0))), (.flt .f32 ((pr_2013_a0 x).u 1)), (.flt .f32 ((pr_2013_a0 x).u 2)), (.flt .f32 ((pr_2013_a0 x).u 3))]), (.flt .f32 (x.u 8)), (.flt .f32 (x.u 9))]

noncomputable def pr_2013_a2 (x : Vars) : Vars := driedR [(.agg [(.flt .f32 ((pr_2013_a1 x).u 0)), (.flt .f32 (farith .add .f32 ((pr_2013_a1 x).u 1) (x.u 1))), (.flt .f32 ((pr_2013_a1 x).u 2)), (.flt .f32 ((pr_2013_a1 x).u 3))]), (.flt .f32 (x.u 8)), (.flt .f32 (x.u 9))]

noncomputable def pr_2013_a3 (x : Vars) : Vars := driedR [(.agg [(.flt .f32 ((pr_2013_a2 x).u 0)), (.flt .f32 ((pr_2013_a2 x).u 1)), (.flt .f32 ((pr_2013_a2 x).u 2)), (.flt .f32 (farith .add .f32 ((pr_2013_a2 x).u 3) (x.u 3)))]), (.flt .f32 (x.u 8)), (.flt .f32 (x.u 9))]


noncomputable def pr_v2013 (x : Vars) : AV := .tup [.agg [.flt .f32 (((pr_2013_a3 x).u 0)), .flt .f32 (((pr_2013_a3 x).u 1)), .flt .f32 (((pr_2013_a3 x).u 2)), .flt .f32 (((pr_2013_a3 x).u 3))], .sint .i64 (0)]

noncomputable def prZ2013 (l : List AV) : Vars := outV (some (pr_v2013 (varsOf l), []))

theorem pr_x2013 (x : Vars) : mkR (prZ2013 (mkL x 0 (kdsP [.val (.ag kd1), .val (.ag kd2), .val (.sc (.flt .f32)), .val (.sc (.flt .f32))]))) [.ag kd1, .sc (.int .i64)] = pr_v2013 x := by kernel_rfl

theorem pr_f9_2013 (x : Vars) : (funH Try.prog G8 noLT true 1000 9 (argsP prP 0 (litL (litL (litL (litL (mkL x 0 (kdsP [.val (.ag kd1), .val (.ag kd2), .val (.sc (.flt .f32)), .val (.sc (.flt .f32))])) 4 2) 5 0) 6 1) 7 3)) (memP prP (litL (litL (litL (litL (mkL x 0 (kdsP [.val (.ag kd1), .val (.ag kd2), .val (.sc (.flt .f32)), .val (.sc (.flt .f32))])) 4 2) 5 0) 6 1) 7 3)) [false]).map (fun r => (normR r.1, untupR r.1 && r.1.flat, r.2)) = some (pr_v2013 x, true, [(!(!((((filmsR [(.flt .f32 (x.u 0)), (.flt .f32 (x.u 1)), (.flt .f32 (x.u 2)), (.flt .f32 (x.u 3))]).b 0) && ((fcmp .geq .f32 (x.u 8) 0) && (fcmp .leq .f32 (x.u 8) 1233125376))) && ((fcmp .geq .f32 (x.u 9) 0) && (fcmp .leq .f32 (x.u 9) 1233125376)))))]) := by kernel_rfl

theorem pr_o9_2013 (x : Vars) (hF : prF x = true) (z0 : x.i 4 = 2) (z1 : x.i 5 = 0) (z2 : x.i 6 = 1) (z3 : x.i 7 = 3) : EvP Try.prog G8 9 prP [.ag kd1, .sc (.int .i64)] (mkL x 0 (kdsP [.val (.ag kd1), .val (.ag kd2), .val (.sc (.flt .f32)), .val (.sc (.flt .f32))])) (prZ2013 (mkL x 0 (kdsP [.val (.ag kd1), .val (.ag kd2), .val (.sc (.flt .f32)), .val (.sc (.flt .f32))]))) :=
  EvP.ofH (H := noLT) (J := true) (HFun.none Try.prog _ 9) (litL_mk2 (litL_mk2 (litL_mk2 (litL_mk z0) z1) z2) z3) (by rw [pr_x2013]; exact pr_f9_2013 x) (pr_c9_0 x hF)

theorem pr_f12_2013 (x : Vars) : (funH Try.prog G8 noLT true 1000 12 (argsP prP 0 (litL (litL (litL (litL (mkL x 0 (kdsP [.val (.ag kd1), .val (.ag kd2), .val (.sc (.flt .f32)), .val (.sc (.flt .f32))])) 4 2) 5 0) 6 1) 7 3)) (memP prP (litL (litL (litL (litL (mkL x 0 (kdsP [.val (.ag kd1), .val (.ag kd2), .val (.sc (.flt .f32)), .val (.sc (.flt .f32))])) 4 2) 5 0) 6 1) 7 3)) [false]).map (fun r => (normR r.1, untupR r.1 && r.1.flat, r.2)) = some (pr_v2013 x, true, [(!((!((filmsR [(.flt .f32 (x.u 0)), (.flt .f32 (x.u 1)), (.flt .f32 (x.u 2)), (.flt .f32 (x.u 3))]).b 0)) || (!(((fcmp .geq .f32 (x.u 8) 0) && (fcmp .leq .f32 (x.u 8) 1233125376)) && ((fcmp .geq .f32 (x.u 9) 0) && (fcmp .leq .f32 (x.u 9) 1233125376))))))]) := by kernel_rfl

theorem pr_o12_2013 (x : Vars) (hF : prF x = true) (z0 : x.i 4 = 2) (z1 : x.i 5 = 0) (z2 : x.i 6 = 1) (z3 : x.i 7 = 3) : EvP Try.prog G8 12 prP [.ag kd1, .sc (.int .i64)] (mkL x 0 (kdsP [.val (.ag kd1), .val (.ag kd2), .val (.sc (.flt .f32)), .val (.sc (.flt .f32))])) (prZ2013 (mkL x 0 (kdsP [.val (.ag kd1), .val (.ag kd2), .val (.sc (.flt .f32)), .val (.sc (.flt .f32))]))) :=
  EvP.ofH (H := noLT) (J := true) (HFun.none Try.prog _ 12) (litL_mk2 (litL_mk2 (litL_mk2 (litL_mk z0) z1) z2) z3) (by rw [pr_x2013]; exact pr_f12_2013 x) (pr_c12_1 x hF)

noncomputable def pr_2031_a0 (x : Vars) : Vars := driedR [(.agg [(.flt .f32 ((pr_2013_a1 x).u 0)), (.flt .f32 ((pr_2013_a1 x).u 1)), (.flt .f32 ((pr_2013_a1 x).u 2)), (.flt .f32 (farith .add .f32 ((pr_2013_a1 x).u 3) (x.u 3)))]), (.flt .f32 (x.u 8)), (.flt .f32 (x.u 9))]

noncomputable def pr_2031_a1 (x : Vars) : Vars := driedR [(.agg [(.flt .f32 ((pr_2031_a0 x).u 0)), (.flt .f32 (farith .add .f32 ((pr_2031_a0 x).u 1) (x.u 1))), (.flt .f32 ((pr_2031_a0 x).u 2)), (.flt .f32 ((pr_2031_a0 x).u 3))]), (.flt .f32 (x.u 8)), (.flt .f32 (x.u 9))]


noncomputable def pr_v2031 (x : Vars) : AV := .tup [.agg [.flt .f32 (((pr_2031_a1 x).u 0)), .flt .f32 (((pr_2031_a1 x).u 1)), .flt .f32 (((pr_2031_a1 x).u 2)), .flt .f32 (((pr_2031_a1 x).u 3))], .sint .i64 (0)]

noncomputable def prZ2031 (l : List AV) : Vars := outV (some (pr_v2031 (varsOf l), []))

theorem pr_x2031 (x : Vars) : mkR (prZ2031 (mkL x 0 (kdsP [.val (.ag kd1), .val (.ag kd2), .val (.sc (.flt .f32)), .val (.sc (.flt .f32))]))) [.ag kd1, .sc (.int .i64)] = pr_v2031 x := by kernel_rfl

theorem pr_f9_2031 (x : Vars) : (funH Try.prog G8 noLT true 1000 9 (argsP prP 0 (litL (litL (litL (litL (mkL x 0 (kdsP [.val (.ag kd1), .val (.ag kd2), .val (.sc (.flt .f32)), .val (.sc (.flt .f32))])) 4 2) 5 0) 6 3) 7 1)) (memP prP (litL (litL (litL (litL (mkL x 0 (kdsP [.val (.ag kd1), .val (.ag kd2), .val (.sc (.flt .f32)), .val (.sc (.flt .f32))])) 4 2) 5 0) 6 3) 7 1)) [false]).map (fun r => (normR r.1, untupR r.1 && r.1.flat, r.2)) = some (pr_v2031 x, true, [(!(!((((filmsR [(.flt .f32 (x.u 0)), (.flt .f32 (x.u 1)), (.flt .f32 (x.u 2)), (.flt .f32 (x.u 3))]).b 0) && ((fcmp .geq .f32 (x.u 8) 0) && (fcmp .leq .f32 (x.u 8) 1233125376))) && ((fcmp .geq .f32 (x.u 9) 0) && (fcmp .leq .f32 (x.u 9) 1233125376)))))]) := by kernel_rfl

theorem pr_o9_2031 (x : Vars) (hF : prF x = true) (z0 : x.i 4 = 2) (z1 : x.i 5 = 0) (z2 : x.i 6 = 3) (z3 : x.i 7 = 1) : EvP Try.prog G8 9 prP [.ag kd1, .sc (.int .i64)] (mkL x 0 (kdsP [.val (.ag kd1), .val (.ag kd2), .val (.sc (.flt .f32)), .val (.sc (.flt .f32))])) (prZ2031 (mkL x 0 (kdsP [.val (.ag kd1), .val (.ag kd2), .val (.sc (.flt .f32)), .val (.sc (.flt .f32))]))) :=
  EvP.ofH (H := noLT) (J := true) (HFun.none Try.prog _ 9) (litL_mk2 (litL_mk2 (litL_mk2 (litL_mk z0) z1) z2) z3) (by rw [pr_x2031]; exact pr_f9_2031 x) (pr_c9_0 x hF)

theorem pr_f12_2031 (x : Vars) : (funH Try.prog G8 noLT true 1000 12 (argsP prP 0 (litL (litL (litL (litL (mkL x 0 (kdsP [.val (.ag kd1), .val (.ag kd2), .val (.sc (.flt .f32)), .val (.sc (.flt .f32))])) 4 2) 5 0) 6 3) 7 1)) (memP prP (litL (litL (litL (litL (mkL x 0 (kdsP [.val (.ag kd1), .val (.ag kd2), .val (.sc (.flt .f32)), .val (.sc (.flt .f32))])) 4 2) 5 0) 6 3) 7 1)) [false]).map (fun r => (normR r.1, untupR r.1 && r.1.flat, r.2)) = some (pr_v2031 x, true, [(!((!((filmsR [(.flt .f32 (x.u 0)), (.flt .f32 (x.u 1)), (.flt .f32 (x.u 2)), (.flt .f32 (x.u 3))]).b 0)) || (!(((fcmp .geq .f32 (x.u 8) 0) && (fcmp .leq .f32 (x.u 8) 1233125376)) && ((fcmp .geq .f32 (x.u 9) 0) && (fcmp .leq .f32 (x.u 9) 1233125376))))))]) := by kernel_rfl

theorem pr_o12_2031 (x : Vars) (hF : prF x = true) (z0 : x.i 4 = 2) (z1 : x.i 5 = 0) (z2 : x.i 6 = 3) (z3 : x.i 7 = 1) : EvP Try.prog G8 12 prP [.ag kd1, .sc (.int .i64)] (mkL x 0 (kdsP [.val (.ag kd1), .val (.ag kd2), .val (.sc (.flt .f32)), .val (.sc (.flt .f32))])) (prZ2031 (mkL x 0 (kdsP [.val (.ag kd1), .val (.ag kd2), .val (.sc (.flt .f32)), .val (.sc (.flt .f32))]))) :=
  EvP.ofH (H := noLT) (J := true) (HFun.none Try.prog _ 12) (litL_mk2 (litL_mk2 (litL_mk2 (litL_mk z0) z1) z2) z3) (by rw [pr_x2031]; exact pr_f12_2031 x) (pr_c12_1 x hF)

noncomputable def pr_2103_a0 (x : Vars) : Vars := driedR [(.agg [(.flt .f32 ((pr_2013_a0 x).u 0)), (.flt .f32 (farith .add .f32 ((pr_2013_a0 x).u 1) (x.u 1))), (.flt .f32 ((pr_2013_a0 x).u 2)), (.flt .f32 ((pr_2013_a0 x).u 3))]), (.flt .f32 (x.u 8)), (.flt .f32 (x.u 9))]

noncomputable def pr_2103_a1 (x : Vars) : Vars := driedR [(.agg [(.flt .f32 (farith .add .f32 ((pr_2103_a0 x).u 0) (x.u 0))), (.flt .f32 ((pr_2103_a0 x).u 1)), (.flt .f32 ((pr_2103_a0 x).u 2)), (.flt .f32 ((pr_2103_a0 x).u 3))]), (.flt .f32 (x.u 8)), (.flt .f32 (x.u 9))]

noncomputable def pr_2103_a2 (x : Vars) : Vars := driedR [(.agg [(.flt .f32 ((pr_2103_a1 x).u 0)), (.flt .f32 ((pr_2103_a1 x).u 1)), (.flt .f32 ((pr_2103_a1 x).u 2)), (.flt .f32 (farith .add .f32 ((pr_2103_a1 x).u 3) (x.u 3)))]), (.flt .f32 (x.u 8)), (.flt .f32 (x.u 9))]


noncomputable def pr_v2103 (x : Vars) : AV := .tup [.agg [.flt .f32 (((pr_2103_a2 x).u 0)), .flt .f32 (((pr_2103_a2 x).u 1)), .flt .f32 (((pr_2103_a2 x).u 2)), .flt .f32 (((pr_2103_a2 x).u 3))], .sint .i64 (0)]

noncomputable def prZ2103 (l : List AV) : Vars := outV (some (pr_v2103 (varsOf l), []))

theorem pr_x2103 (x : Vars) : mkR (prZ2103 (mkL x 0 (kdsP [.val (.ag kd1), .val (.ag kd2), .val (.sc (.flt .f32)), .val (.sc (.flt .f32))]))) [.ag kd1, .sc (.int .i64)] = pr_v2103 x := by kernel_rfl

theorem pr_f9_2103 (x : Vars) : (funH Try.prog G8 noLT true 1000 9 (argsP prP 0 (litL (litL (litL (litL (mkL x 0 (kdsP [.val (.ag kd1), .val (.ag kd2), .val (.sc (.flt .f32)), .val (.sc (.flt .f32))])) 4 2) 5 1) 6 0) 7 3)) (memP prP (litL (litL (litL (litL (mkL x 0 (kdsP [.val (.ag kd1), .val (.ag kd2), .val (.sc (.flt .f32)), .val (.sc (.flt .f32))])) 4 2) 5 1) 6 0) 7 3)) [false]).map (fun r => (normR r.1, untupR r.1 && r.1.flat, r.2)) = some (pr_v2103 x, true, [(!(!((((filmsR [(.flt .f32 (x.u 0)), (.flt .f32 (x.u 1)), (.flt .f32 (x.u 2)), (.flt .f32 (x.u 3))]).b 0) && ((fcmp .geq .f32 (x.u 8) 0) && (fcmp .leq .f32 (x.u 8) 1233125376))) && ((fcmp .geq .f32 (x.u 9) 0) && (fcmp .leq .f32 (x.u 9) 1233125376)))))]) := by kernel_rfl

theorem pr_o9_2103 (x : Vars) (hF : prF x = true) (z0 : x.i 4 = 2) (z1 : x.i 5 = 1) (z2 : x.i 6 = 0) (z3 : x.i 7 = 3) : EvP Try.prog G8 9 prP [.ag kd1, .sc (.int .i64)] (mkL x 0 (kdsP [.val (.ag kd1), .val (.ag kd2), .val (.sc (.flt .f32)), .val (.sc (.flt .f32))])) (prZ2103 (mkL x 0 (kdsP [.val (.ag kd1), .val (.ag kd2), .val (.sc (.flt .f32)), .val (.sc (.flt .f32))]))) :=
  EvP.ofH (H := noLT) (J := true) (HFun.none Try.prog _ 9) (litL_mk2 (litL_mk2 (litL_mk2 (litL_mk z0) z1) z2) z3) (by rw [pr_x2103]; exact pr_f9_2103 x) (pr_c9_0 x hF)

theorem pr_f12_2103 (x : Vars) : (funH Try.prog G8 noLT true 1000 12 (argsP prP 0 (litL (litL (litL (litL (mkL x 0 (kdsP [.val (.ag kd1), .val (.ag kd2), .val (.sc (.flt .f32)), .val (.sc (.flt .f32))])) 4 2) 5 1) 6 0) 7 3)) (memP prP (litL (litL (litL (litL (mkL x 0 (kdsP [.val (.ag kd1), .val (.ag kd2), .val (.sc (.flt .f32)), .val (.sc (.flt .f32))])) 4 2) 5 1) 6 0) 7 3)) [false]).map (fun r => (normR r.1, untupR r.1 && r.1.flat, r.2)) = some (pr_v2103 x, true, [(!((!((filmsR [(.flt .f32 (x.u 0)), (.flt .f32 (x.u 1)), (.flt .f32 (x.u 2)), (.flt .f32 (x.u 3))]).b 0)) || (!(((fcmp .geq .f32 (x.u 8) 0) && (fcmp .leq .f32 (x.u 8) 1233125376)) && ((fcmp .geq .f32 (x.u 9) 0) && (fcmp .leq .f32 (x.u 9) 1233125376))))))]) := by kernel_rfl

theorem pr_o12_2103 (x : Vars) (hF : prF x = true) (z0 : x.i 4 = 2) (z1 : x.i 5 = 1) (z2 : x.i 6 = 0) (z3 : x.i 7 = 3) : EvP Try.prog G8 12 prP [.ag kd1, .sc (.int .i64)] (mkL x 0 (kdsP [.val (.ag kd1), .val (.ag kd2), .val (.sc (.flt .f32)), .val (.sc (.flt .f32))])) (prZ2103 (mkL x 0 (kdsP [.val (.ag kd1), .val (.ag kd2), .val (.sc (.flt .f32)), .val (.sc (.flt .f32))]))) :=
  EvP.ofH (H := noLT) (J := true) (HFun.none Try.prog _ 12) (litL_mk2 (litL_mk2 (litL_mk2 (litL_mk z0) z1) z2) z3) (by rw [pr_x2103]; exact pr_f12_2103 x) (pr_c12_1 x hF)

noncomputable def pr_2130_a0 (x : Vars) : Vars := driedR [(.agg [(.flt .f32 ((pr_2103_a0 x).u 0)), (.flt .f32 ((pr_2103_a0 x).u 1)), (.flt .f32 ((pr_2103_a0 x).u 2)), (.flt .f32 (farith .add .f32 ((pr_2103_a0 x).u 3) (x.u 3)))]), (.flt .f32 (x.u 8)), (.flt .f32 (x.u 9))]

noncomputable def pr_2130_a1 (x : Vars) : Vars := driedR [(.agg [(.flt .f32 (farith .add .f32 ((pr_2130_a0 x).u 0) (x.u 0))), (.flt .f32 ((pr_2130_a0 x).u 1)), (.flt .f32 ((pr_2130_a0 x).u 2)), (.flt .f32 ((pr_2130_a0 x).u 3))]), (.flt .f32 (x.u 8)), (.flt .f32 (x.u 9))]


noncomputable def pr_v2130 (x : Vars) : AV := .tup [.agg [.flt .f32 (((pr_2130_a1 x).u 0)), .flt .f32 (((pr_2130_a1 x).u 1)), .flt .f32 (((pr_2130_a1 x).u 2)), .flt .f32 (((pr_2130_a1 x).u 3))], .sint .i64 (0)]

noncomputable def prZ2130 (l : List AV) : Vars := outV (some (pr_v2130 (varsOf l), []))

theorem pr_x2130 (x : Vars) : mkR (prZ2130 (mkL x 0 (kdsP [.val (.ag kd1), .val (.ag kd2), .val (.sc (.flt .f32)), .val (.sc (.flt .f32))]))) [.ag kd1, .sc (.int .i64)] = pr_v2130 x := by kernel_rfl

theorem pr_f9_2130 (x : Vars) : (funH Try.prog G8 noLT true 1000 9 (argsP prP 0 (litL (litL (litL (litL (mkL x 0 (kdsP [.val (.ag kd1), .val (.ag kd2), .val (.sc (.flt .f32)), .val (.sc (.flt .f32))])) 4 2) 5 1) 6 3) 7 0)) (memP prP (litL (litL (litL (litL (mkL x 0 (kdsP [.val (.ag kd1), .val (.ag kd2), .val (.sc (.flt .f32)), .val (.sc (.flt .f32))])) 4 2) 5 1) 6 3) 7 0)) [false]).map (fun r => (normR r.1, untupR r.1 && r.1.flat, r.2)) = some (pr_v2130 x, true, [(!(!((((filmsR [(.flt .f32 (x.u 0)), (.flt .f32 (x.u 1)), (.flt .f32 (x.u 2)), (.flt .f32 (x.u 3))]).b 0) && ((fcmp .geq .f32 (x.u 8) 0) && (fcmp .leq .f32 (x.u 8) 1233125376))) && ((fcmp .geq .f32 (x.u 9) 0) && (fcmp .leq .f32 (x.u 9) 1233125376)))))]) := by kernel_rfl

theorem pr_o9_2130 (x : Vars) (hF : prF x = true) (z0 : x.i 4 = 2) (z1 : x.i 5 = 1) (z2 : x.i 6 = 3) (z3 : x.i 7 = 0) : EvP Try.prog G8 9 prP [.ag kd1, .sc (.int .i64)] (mkL x 0 (kdsP [.val (.ag kd1), .val (.ag kd2), .val (.sc (.flt .f32)), .val (.sc (.flt .f32))])) (prZ2130 (mkL x 0 (kdsP [.val (.ag kd1), .val (.ag kd2), .val (.sc (.flt .f32)), .val (.sc (.flt .f32))]))) :=
  EvP.ofH (H := noLT) (J := true) (HFun.none Try.prog _ 9) (litL_mk2 (litL_mk2 (litL_mk2 (litL_mk z0) z1) z2) z3) (by rw [pr_x2130]; exact pr_f9_2130 x) (pr_c9_0 x hF)

theorem pr_f12_2130 (x : Vars) : (funH Try.prog G8 noLT true 1000 12 (argsP prP 0 (litL (litL (litL (litL (mkL x 0 (kdsP [.val (.ag kd1), .val (.ag kd2), .val (.sc (.flt .f32)), .val (.sc (.flt .f32))])) 4 2) 5 1) 6 3) 7 0)) (memP prP (litL (litL (litL (litL (mkL x 0 (kdsP [.val (.ag kd1), .val (.ag kd2), .val (.sc (.flt .f32)), .val (.sc (.flt .f32))])) 4 2) 5 1) 6 3) 7 0)) [false]).map (fun r => (normR r.1, untupR r.1 && r.1.flat, r.2)) = some (pr_v2130 x, true, [(!((!((filmsR [(.flt .f32 (x.u 0)), (.flt .f32 (x.u 1)), (.flt .f32 (x.u 2)), (.flt .f32 (x.u 3))]).b 0)) || (!(((fcmp .geq .f32 (x.u 8) 0) && (fcmp .leq .f32 (x.u 8) 1233125376)) && ((fcmp .geq .f32 (x.u 9) 0) && (fcmp .leq .f32 (x.u 9) 1233125376))))))]) := by kernel_rfl

theorem pr_o12_2130 (x : Vars) (hF : prF x = true) (z0 : x.i 4 = 2) (z1 : x.i 5 = 1) (z2 : x.i 6 = 3) (z3 : x.i 7 = 0) : EvP Try.prog G8 12 prP [.ag kd1, .sc (.int .i64)] (mkL x 0 (kdsP [.val (.ag kd1), .val (.ag kd2), .val (.sc (.flt .f32)), .val (.sc (.flt .f32))])) (prZ2130 (mkL x 0 (kdsP [.val (.ag kd1), .val (.ag kd2), .val (.sc (.flt .f32)), .val (.sc (.flt .f32))]))) :=
  EvP.ofH (H := noLT) (J := true) (HFun.none Try.prog _ 12) (litL_mk2 (litL_mk2 (litL_mk2 (litL_mk z0) z1) z2) z3) (by rw [pr_x2130]; exact pr_f12_2130 x) (pr_c12_1 x hF)

noncomputable def pr_2301_a0 (x : Vars) : Vars := driedR [(.agg [(.flt .f32 ((pr_2013_a0 x).u 0)), (.flt .f32 ((pr_2013_a0 x).u 1)), (.flt .f32 ((pr_2013_a0 x).u 2)), (.flt .f32 (farith .add .f32 ((pr_2013_a0 x).u 3) (x.u 3)))]), (.flt .f32 (x.u 8)), (.flt .f32 (x.u 9))]

noncomputable def pr_2301_a1 (x : Vars) : Vars := driedR [(.agg [(.flt .f32 (farith .add .f32 ((pr_2301_a0 x).u 0) (x.u 0))), (.flt .f32 ((pr_2301_a0 x).u 1)), (.flt .f32 ((pr_2301_a0 x).u 2)), (.flt .f32 ((pr_2301_a0 x).u 3))]), (.flt .f32 (x.u 8)), (.flt .f32 (x.u 9))]

noncomputable def pr_2301_a2 (x : Vars) : Vars := driedR [(.agg [(.flt .f32 ((pr_2301_a1 x).u 0)), (.flt .f32 (farith .add .f32 ((pr_2301_a1 x).u 1) (x.u 1))), (.flt .f32 ((pr_2301_a1 x).u 2)), (.flt .f32 ((pr_2301_a1 x).u 3))]), (.flt .f32 (x.u 8)), (.flt .f32 (x.u 9))]


noncomputable def pr_v2301 (x : Vars) : AV := .tup [.agg [.flt .f32 (((pr_2301_a2 x).u 0)), .flt .f32 (((pr_2301_a2 x).u 1)), .flt .f32 (((pr_2301_a2 x).u 2)), .flt .f32 (((pr_2301_a2 x).u 3))], .sint .i64 (0)]

noncomputable def prZ2301 (l : List AV) : Vars := outV (some (pr_v2301 (varsOf l), []))

theorem pr_x2301 (x : Vars) : mkR (prZ2301 (mkL x 0 (kdsP [.val (.ag kd1), .val (.ag kd2), .val (.sc (.flt .f32)), .val (.sc (.flt .f32))]))) [.ag kd1, .sc (.int .i64)] = pr_v2301 x := by kernel_rfl

theorem pr_f9_2301 (x : Vars) : (funH Try.prog G8 noLT true 1000 9 (argsP prP 0 (litL (litL (litL (litL (mkL x 0 (kdsP [.val (.ag kd1), .val (.ag kd2), .val (.sc (.flt .f32)), .val (.sc (.flt .f32))])) 4 2) 5 3) 6 0) 7 1)) (memP prP (litL (litL (litL (litL (mkL x 0 (kdsP [.val (.ag kd1), .val (.ag kd2), .val (.sc (.flt .f32)), .val (.sc (.flt .f32))])) 4 2) 5 3) 6 0) 7 1)) [false]).map (fun r => (normR r.1, untupR r.1 && r.1.flat, r.2)) = some (pr_v2301 x, true, [(!(!((((filmsR [(.flt .f32 (x.u 0)), (.flt .f32 (x.u 1)), (.flt .f32 (x.u 2)), (.flt .f32 (x.u 3))]).b 0) && ((fcmp .geq .f32 (x.u 8) 0) && (fcmp .leq .f32 (x.u 8) 1233125376))) && ((fcmp .geq .f32 (x.u 9) 0) && (fcmp .leq .f32 (x.u 9) 1233125376)))))]) := by kernel_rfl

theorem pr_o9_2301 (x : Vars) (hF : prF x = true) (z0 : x.i 4 = 2) (z1 : x.i 5 = 3) (z2 : x.i 6 = 0) (z3 : x.i 7 = 1) : EvP Try.prog G8 9 prP [.ag kd1, .sc (.int .i64)] (mkL x 0 (kdsP [.val (.ag kd1), .val (.ag kd2), .val (.sc (.flt .f32)), .val (.sc (.flt .f32))])) (prZ2301 (mkL x 0 (kdsP [.val (.ag kd1), .val (.ag kd2), .val (.sc (.flt .f32)), .val (.sc (.flt .f32))]))) :=
  EvP.ofH (H := noLT) (J := true) (HFun.none Try.prog _ 9) (litL_mk2 (litL_mk2 (litL_mk2 (litL_mk z0) z1) z2) z3) (by rw [pr_x2301]; exact pr_f9_2301 x) (pr_c9_0 x hF)

theorem pr_f12_2301 (x : Vars) : (funH Try.prog G8 noLT true 1000 12 (argsP prP 0 (litL (litL (litL (litL (mkL x 0 (kdsP [.val (.ag kd1), .val (.ag kd2), .val (.sc (.flt .f32)), .val (.sc (.flt .f32))])) 4 2) 5 3) 6 0) 7 1)) (memP prP (litL (litL (litL (litL (mkL x 0 (kdsP [.val (.ag kd1), .val (.ag kd2), .val (.sc (.flt .f32)), .val (.sc (.flt .f32))])) 4 2) 5 3) 6 0) 7 1)) [false]).map (fun r => (normR r.1, untupR r.1 && r.1.flat, r.2)) = some (pr_v2301 x, true, [(!((!((filmsR [(.flt .f32 (x.u 0)), (.flt .f32 (x.u 1)), (.flt .f32 (x.u 2)), (.flt .f32 (x.u 3))]).b 0)) || (!(((fcmp .geq .f32 (x.u 8) 0) && (fcmp .leq .f32 (x.u 8) 1233125376)) && ((fcmp .geq .f32 (x.u 9) 0) && (fcmp .leq .f32 (x.u 9) 1233125376))))))]) := by kernel_rfl

theorem pr_o12_2301 (x : Vars) (hF : prF x = true) (z0 : x.i 4 = 2) (z1 : x.i 5 = 3) (z2 : x.i 6 = 0) (z3 : x.i 7 = 1) : EvP Try.prog G8 12 prP [.ag kd1, .sc (.int .i64)] (mkL x 0 (kdsP [.val (.ag kd1), .val (.ag kd2), .val (.sc (.flt .f32)), .val (.sc (.flt .f32))])) (prZ2301 (mkL x 0 (kdsP [.val (.ag kd1), .val (.ag kd2), .val (.sc (.flt .f32)), .val (.sc (.flt .f32))]))) :=
  EvP.ofH (H := noLT) (J := true) (HFun.none Try.prog _ 12) (litL_mk2 (litL_mk2 (litL_mk2 (litL_mk z0) z1) z2) z3) (by rw [pr_x2301]; exact pr_f12_2301 x) (pr_c12_1 x hF)

noncomputable def pr_2310_a0 (x : Vars) : Vars := driedR [(.agg [(.flt .f32 ((pr_2301_a0 x).u 0)), (.flt .f32 (farith .add .f32 ((pr_2301_a0 x).u 1) (x.u 1))), (.flt .f32 ((pr_2301_a0 x).u 2)), (.flt .f32 ((pr_2301_a0 x).u 3))]), (.flt .f32 (x.u 8)), (.flt .f32 (x.u 9))]

noncomputable def pr_2310_a1 (x : Vars) : Vars := driedR [(.agg [(.flt .f32 (farith .add .f32 ((pr_2310_a0 x).u 0) (x.u 0))), (.flt .f32 ((pr_2310_a0 x).u 1)), (.flt .f32 ((pr_2310_a0 x).u 2)), (.flt .f32 ((pr_2310_a0 x).u 3))]), (.flt .f32 (x.u 8)), (.flt .f32 (x.u 9))]


noncomputable def pr_v2310 (x : Vars) : AV := .tup [.agg [.flt .f32 (((pr_2310_a1 x).u 0)), .flt .f32 (((pr_2310_a1 x).u 1)), .flt .f32 (((pr_2310_a1 x).u 2)), .flt .f32 (((pr_2310_a1 x).u 3))], .sint .i64 (0)]

noncomputable def prZ2310 (l : List AV) : Vars := outV (some (pr_v2310 (varsOf l), []))

theorem pr_x2310 (x : Vars) : mkR (prZ2310 (mkL x 0 (kdsP [.val (.ag kd1), .val (.ag kd2), .val (.sc (.flt .f32)), .val (.sc (.flt .f32))]))) [.ag kd1, .sc (.int .i64)] = pr_v2310 x := by kernel_rfl

theorem pr_f9_2310 (x : Vars) : (funH Try.prog G8 noLT true 1000 9 (argsP prP 0 (litL (litL (litL (litL (mkL x 0 (kdsP [.val (.ag kd1), .val (.ag kd2), .val (.sc (.flt .f32)), .val (.sc (.flt .f32))])) 4 2) 5 3) 6 1) 7 0)) (memP prP (litL (litL (litL (litL (mkL x 0 (kdsP [.val (.ag kd1), .val (.ag kd2), .val (.sc (.flt .f32)), .val (.sc (.flt .f32))])) 4 2) 5 3) 6 1) 7 0)) [false]).map (fun r => (normR r.1, untupR r.1 && r.1.flat, r.2)) = some (pr_v2310 x, true, [(!(!((((filmsR [(.flt .f32 (x.u 0)), (.flt .f32 (x.u 1)), (.flt .f32 (x.u 2)), (.flt .f32 (x.u 3))]).b 0) && ((fcmp .geq .f32 (x.u 8) 0) && (fcmp .leq .f32 (x.u 8) 1233125376))) && ((fcmp .geq .f32 (x.u 9) 0) && (fcmp .leq .f32 (x.u 9) 1233125376)))))]) := by kernel_rfl

theorem pr_o9_2310 (x : Vars) (hF : prF x = true) (z0 : x.i 4 = 2) (z1 : x.i 5 = 3) (z2 : x.i 6 = 1) (z3 : x.i 7 = 0) : EvP Try.prog G8 9 prP [.ag kd1, .sc (.int .i64)] (mkL x 0 (kdsP [.val (.ag kd1), .val (.ag kd2), .val (.sc (.flt .f32)), .val (.sc (.flt .f32))])) (prZ2310 (mkL x 0 (kdsP [.val (.ag kd1), .val (.ag kd2), .val (.sc (.flt .f32)), .val (.sc (.flt .f32))]))) :=
  EvP.ofH (H := noLT) (J := true) (HFun.none Try.prog _ 9) (litL_mk2 (litL_mk2 (litL_mk2 (litL_mk z0) z1) z2) z3) (by rw [pr_x2310]; exact pr_f9_2310 x) (pr_c9_0 x hF)

theorem pr_f12_2310 (x : Vars) : (funH Try.prog G8 noLT true 1000 12 (argsP prP 0 (litL (litL (litL (litL (mkL x 0 (kdsP [.val (.ag kd1), .val (.ag kd2), .val (.sc (.flt .f32)), .val (.sc (.flt .f32))])) 4 2) 5 3) 6 1) 7 0)) (memP prP (litL (litL (litL (litL (mkL x 0 (kdsP [.val (.ag kd1), .val (.ag kd2), .val (.sc (.flt .f32)), .val (.sc (.flt .f32))])) 4 2) 5 3) 6 1) 7 0)) [false]).map (fun r => (normR r.1, untupR r.1 && r.1.flat, r.2)) = some (pr_v2310 x, true, [(!((!((filmsR [(.flt .f32 (x.u 0)), (.flt .f32 (x.u 1)), (.flt .f32 (x.u 2)), (.flt .f32 (x.u 3))]).b 0)) || (!(((fcmp .geq .f32 (x.u 8) 0) && (fcmp .leq .f32 (x.u 8) 1233125376)) && ((fcmp .geq .f32 (x.u 9) 0) && (fcmp .leq .f32 (x.u 9) 1233125376))))))]) := by kernel_rfl

theorem pr_o12_2310 (x : Vars) (hF : prF x = true) (z0 : x.i 4 = 2) (z1 : x.i 5 = 3) (z2 : x.i 6 = 1) (z3 : x.i 7 = 0) : EvP Try.prog G8 12 prP [.ag kd1, .sc (.int .i64)] (mkL x 0 (kdsP [.val (.ag kd1), .val (.ag kd2), .val (.sc (.flt .f32)), .val (.sc (.flt .f32))])) (prZ2310 (mkL x 0 (kdsP [.val (.ag kd1), .val (.ag kd2), .val (.sc (.flt .f32)), .val (.sc (.flt .f32))]))) :=
  EvP.ofH (H := noLT) (J := true) (HFun.none Try.prog _ 12) (litL_mk2 (litL_mk2 (litL_mk2 (litL_mk z0) z1) z2) z3) (by rw [pr_x2310]; exact pr_f12_2310 x) (pr_c12_1 x hF)

noncomputable def pr_3012_a0 (x : Vars) : Vars := driedR [(.agg [(.flt .f32 0), (.flt .f32 0), (.flt .f32 0), (.flt .f32 (farith .add .f32 0 (x.u 3)))]), (.flt .f32 (x.u 8)), (.flt .f32 (x.u 9))]

noncomputable def pr_3012_a1 (x : Vars) : Vars := driedR [(.agg [(.flt .f32 (farith .add .f32 ((pr_3012_a0 x).u 0) (x.u 0))), (.flt .f32 ((pr_3012_a0 x).u 1)), (.flt .f32 ((pr_3012_a0 x).u 2)), (.flt .f32 ((pr_3012_a0 x).u 3))]), (.flt .f32 (x.u 8)), (.flt .f32 (x.u 9))]

noncomputable def pr_3012_a2 (x : Vars) : Vars := driedR [(.agg [(.flt .f32 ((pr_3012_a1 x).u 0)), (.flt .f32 (farith .add .f32 ((pr_3012_a1 x).u 1) (x.u 1))), (.flt .f32 ((pr_3012_a1 x).u 2)), (.flt .f32 ((pr_3012_a1 x).u 3))]), (.flt .f32 (x.u 8)), (.flt .f32 (x.u 9))]

noncomputable def pr_3012_a3 (x : Vars) : Vars := driedR [(.agg [(.flt .f32 ((pr_3012_a2 x).u 0)), (.flt .f32 ((pr_3012_a2 x).u 1)), (.flt .f32 (farith .add .f32 ((pr_3012_a2 x).u 2) (x.u 2))), (.flt .f32 ((pr_3012_a2 x).u 3))]), (.flt .f32 (x.u 8)), (.flt .f32 (x.u 9))]


noncomputable def pr_v3012 (x : Vars) : AV := .tup [.agg [.flt .f32 (((pr_3012_a3 x).u 0)), .flt .f32 (((pr_3012_a3 x).u 1)), .flt .f32 (((pr_3012_a3 x).u 2)), .flt .f32 (((pr_3012_a3 x).u 3))], .sint .i64 (0)]

noncomputable def prZ3012 (l : List AV) : Vars := outV (some (pr_v3012 (varsOf l), []))

theorem pr_x3012 (x : Vars) : mkR (prZ3012 (mkL x 0 (kdsP [.val (.ag kd1), .val (.ag kd2), .val (.sc (.flt .f32)), .val (.sc (.flt .f32))]))) [.ag kd1, .sc (.int .i64)] = pr_v3012 x := by kernel_rfl

theorem pr_f9_3012 (x : Vars) : (funH Try.prog G8 noLT true 1000 9 (argsP prP 0 (litL (litL (litL (litL (mkL x 0 (kdsP [.val (.ag kd1), .val (.ag kd2), .val (.sc (.flt .f32)), .val (.sc (.flt .f32))])) 4 3) 5 0) 6 1) 7 2)) (memP prP (litL (litL (litL (litL (mkL x 0 (kdsP [.val (.ag kd1), .val (.ag kd2), .val (.sc (.flt .f32)), .val (.sc (.flt .f32))])) 4 3) 5 0) 6 1) 7 2)) [false]).map (fun r => (normR r.1, untupR r.1 && r.1.flat, r.2)) = some (pr_v3012 x, true, [(!(!((((filmsR [(.flt .f32 (x.u 0)), (.flt .f32 (x.u 1)), (.flt .f32 (x.u 2)), (.flt .f32 (x.u 3))]).b 0) && ((fcmp .geq .f32 (x.u 8) 0) && (fcmp .leq .f32 (x.u 8) 1233125376))) && ((fcmp .geq .f32 (x.u 9) 0) && (fcmp .leq .f32 (x.u 9) 1233125376)))))]) := by kernel_rfl

theorem pr_o9_3012 (x : Vars) (hF : prF x = true) (z0 : x.i 4 = 3) (z1 : x.i 5 = 0) (z2 : x.i 6 = 1) (z3 : x.i 7 = 2) : EvP Try.prog G8 9 prP [.ag kd1, .sc (.int .i64)] (mkL x 0 (kdsP [.val (.ag kd1), .val (.ag kd2), .val (.sc (.flt .f32)), .val (.sc (.flt .f32))])) (prZ3012 (mkL x 0 (kdsP [.val (.ag kd1), .val (.ag kd2), .val (.sc (.flt .f32)), .val (.sc (.flt .f32))]))) :=
  EvP.ofH (H := noLT) (J := true) (HFun.none Try.prog _ 9) (litL_mk2 (litL_mk2 (litL_mk2 (litL_mk z0) z1) z2) z3) (by rw [pr_x3012]; exact pr_f9_3012 x) (pr_c9_0 x hF)

theorem pr_f12_3012 (x : Vars) : (funH Try.prog G8 noLT true 1000 12 (argsP prP 0 (litL (litL (litL (litL (mkL x 0 (kdsP [.val (.ag kd1), .val (.ag kd2), .val (.sc (.flt .f32)), .val (.sc (.flt .f32))])) 4 3) 5 0) 6 1) 7 2)) (memP prP (litL (litL (litL (litL (mkL x 0 (kdsP [.val (.ag kd1), .val (.ag kd2), .val (.sc (.flt .f32)), .val (.sc (.flt .f32))])) 4 3) 5 0) 6 1) 7 2)) [false]).map (fun r => (normR r.1, untupR r.1 && r.1.flat, r.2)) = some (pr_v3012 x, true, [(!((!((filmsR [(.flt .f32 (x.u 0)), (.flt .f32 (x.u 1)), (.flt .f32 (x.u 2)), (.flt .f32 (x.u 3))]).b 0)) || (!(((fcmp .geq .f32 (x.u 8) 0) && (fcmp .leq .f32 (x.u 8) 1233125376)) && ((fcmp .geq .f32 (x.u 9) 0) && (fcmp .leq .f32 (x.u 9) 1233125376))))))]) := by kernel_rfl

theorem pr_o12_3012 (x : Vars) (hF : prF x = true) (z0 : x.i 4 = 3) (z1 : x.i 5 = 0) (z2 : x.i 6 = 1) (z3 : x.i 7 = 2) : EvP Try.prog G8 12 prP [.ag kd1, .sc (.int .i64)] (mkL x 0 (kdsP [.val (.ag kd1), .val (.ag kd2), .val (.sc (.flt .f32)), .val (.sc (.flt .f32))])) (prZ3012 (mkL x 0 (kdsP [.val (.ag kd1), .val (.ag kd2), .val (.sc (.flt .f32)), .val (.sc (.flt .f32))]))) :=
  EvP.ofH (H := noLT) (J := true) (HFun.none Try.prog _ 12) (litL_mk2 (litL_mk2 (litL_mk2 (litL_mk z0) z1) z2) z3) (by rw [pr_x3012]; exact pr_f12_3012 x) (pr_c12_1 x hF)

noncomputable def pr_3021_a0 (x : Vars) : Vars := driedR [(.agg [(.flt .f32 ((pr_3012_a1 x).u 0)), (.flt .f32 ((pr_3012_a1 x).u 1)), (.flt .f32 (farith .add .f32 ((pr_3012_a1 x).u 2) (x.u 2))), (.flt .f32 ((pr_3012_a1 x).u 3))]), (.flt .f32 (x.u 8)), (.flt .f32 (x.u 9))]

noncomputable def pr_3021_a1 (x : Vars) : Vars := driedR [(.agg [(.flt .f32 ((pr_3021_a0 x).u 0)), (.flt .f32 (farith .add .f32 ((pr_3021_a0 x).u 1) (x.u 1))), (.flt .f32 ((pr_3021_a0 x).u 2)), (.flt .f32 ((pr_3021_a0 x).u 3))]), (.flt .f32 (x.u 8)), (.flt .f32 (x.u 9))]


noncomputable def pr_v3021 (x : Vars) : AV := .tup [.agg [.flt .f32 (((pr_3021_a1 x).u 0)), .flt .f32 (((pr_3021_a1 x).u 1)), .flt .f32 (((pr_3021_a1 x).u 2)), .flt .f32 (((pr_3021_a1 x).u 3))], .sint .i64 (0)]

noncomputable def prZ3021 (l : List AV) : Vars := outV (some (pr_v3021 (varsOf l), []))

theorem pr_x3021 (x : Vars) : mkR (prZ3021 (mkL x 0 (kdsP [.val (.ag kd1), .val (.ag kd2), .val (.sc (.flt .f32)), .val (.sc (.flt .f32))]))) [.ag kd1, .sc (.int .i64)] = pr_v3021 x := by kernel_rfl

theorem pr_f9_3021 (x : Vars) : (funH Try.prog G8 noLT true 1000 9 (argsP prP 0 (litL (litL (litL (litL (mkL x 0 (kdsP [.val (.ag kd1), .val (.ag kd2), .val (.sc (.flt .f32)), .val (.sc (.flt .f32))])) 4 3) 5 0) 6 2) 7 1)) (memP prP (litL (litL (litL (litL (mkL x 0 (kdsP [.val (.ag kd1), .val (.ag kd2), .val (.sc (.flt .f32)), .val (.sc (.flt .f32))])) 4 3) 5 0) 6 2) 7 1)) [false]).map (fun r => (normR r.1, untupR r.1 && r.1.flat, r.2)) = some (pr_v3021 x, true, [(!(!((((filmsR [(.flt .f32 (x.u 0)), (.flt .f32 (x.u 1)), (.flt .f32 (x.u 2)), (.flt .f32 (x.u 3))]).b 0) && ((fcmp .geq .f32 (x.u 8) 0) && (fcmp .leq .f32 (x.u 8) 1233125376))) && ((fcmp .geq .f32 (x.u 9) 0) && (fcmp .leq .f32 (x.u 9) 1233125376)))))]) := by kernel_rfl

theorem pr_o9_3021 (x : Vars) (hF : prF x = true) (z0 : x.i 4 = 3) (z1 : x.i 5 = 0) (z2 : x.i 6 = 2) (z3 : x.i 7 = 1) : EvP Try.prog G8 9 prP [.ag kd1, .sc (.int .i64)] (mkL x 0 (kdsP [.val (.ag kd1), .val (.ag kd2), .val (.sc (.flt .f32)), .val (.sc (.flt .f32))])) (prZ3021 (mkL x 0 (kdsP [.val (.ag kd1), .val (.ag kd2), .val (.sc (.flt .f32)), .val (.sc (.flt .f32))]))) :=
  EvP.ofH (H := noLT) (J := true) (HFun.none Try.prog _ 9) (litL_mk2 (litL_mk2 (litL_mk2 (litL_mk z0) z1) z2) z3) (by rw [pr_x3021]; exact pr_f9_3021 x) (pr_c9_0 x hF)

theorem pr_f12_3021 (x : Vars) : (funH Try.prog G8 noLT true 1000 12 (argsP prP 0 (litL (litL (litL (litL (mkL x 0 (kdsP [.val (.ag kd1), .val (.ag kd2), .val (.sc (.flt .f32)), .val (.sc (.flt .f32))])) 4 3) 5 0) 6 2) 7 1)) (memP prP (litL (litL (litL (litL (mkL x 0 (kdsP [.val (.ag kd1), .val (.ag kd2), .val (.sc (.flt .f32)), .val (.sc (.flt .f32))])) 4 3) 5 0) 6 2) 7 1)) [false]).map (fun r => (normR r.1, untupR r.1 && r.1.flat, r.2)) = some (pr_v3021 x, true, [(!((!((filmsR [(.flt .f32 (x.u 0)), (.flt .f32 (x.u 1)), (.flt .f32 (x.u 2)), (.flt .f32 (x.u 3))]).b 0)) || (!(((fcmp .geq .f32 (x.u 8) 0) && (fcmp .leq .f32 (x.u 8) 1233125376)) && ((fcmp .geq .f32 (x.u 9) 0) && (fcmp .leq .f32 (x.u 9) 1233125376))))))]) := by kernel_rfl

theorem pr_o12_3021 (x : Vars) (hF : prF x = true) (z0 : x.i 4 = 3) (z1 : x.i 5 = 0) (z2 : x.i 6 = 2) (z3 : x.i 7 = 1) : EvP Try.prog G8 12 prP [.ag kd1, .sc (.int .i64)] (mkL x 0 (kdsP [.val (.ag kd1), .val (.ag kd2), .val (.sc (.flt .f32)), .val (.sc (.flt .f32))])) (prZ3021 (mkL x 0 (kdsP [.val (.ag kd1), .val (.ag kd2), .val (.sc (.flt .f32)), .val (.sc (.flt .f32))]))) :=
  EvP.ofH (H := noLT) (J := true) (HFun.none Try.prog _ 12) (litL_mk2 (litL_mk2 (litL_mk2 (litL_mk z0) z1) z2) z3) (by rw [pr_x3021]; exact pr_f12_3021 x) (pr_c12_1 x hF)

noncomputable def pr_3102_a0 (x : Vars) : Vars := driedR [(.agg [(.flt .f32 ((pr_3012_a0 x).u 0)), (.flt .f32 (farith .add .f32 ((pr_3012_a0 x).u 1) (x.u 1))), (.flt .f32 ((pr_3012_a0 x).u 2)), (.flt .f32 ((pr_3012_a0 x).u 3))]), (.flt .f32 (x.u 8)), (.flt .f32 (x.u 9))]

noncomputable def pr_3102_a1 (x : Vars) : Vars := driedR [(.agg [(.flt .f32 (farith .add .f32 ((pr_3102_a0 x).u 0) (x.u 0))), (.flt .f32 ((pr_3102_a0 x).u 1)), (.flt .f32 ((pr_3102_a0 x).u 2)), (.flt .f32 ((pr_3102_a0 x).u 3))]), (.flt .f32 (x.u 8)), (.flt .f32 (x.u 9))]

noncomputable def pr_3102_a2 (x : Vars) : Vars := driedR [(.agg [(.flt .f32 ((pr_3102_a1 x).u 0)), (.flt .f32 ((pr_3102_a1 x).u 1)), (.flt .f32 (farith .add .f32 ((pr_3102_a1 x).u 2) (x.u 2))), (.flt .f32 ((pr_3102_a1 x).u 3))]), (.flt .f32 (x.u 8)), (.flt .f32 (x.u 9))]


noncomputable def pr_v3102 (x : Vars) : AV := .tup [.agg [.flt .f32 (((pr_3102_a2 x).u 0)), .flt .f32 (((pr_3102_a2 x).u 1)), .flt .f32 (((pr_3102_a2 x).u 2)), .flt .f32 (((pr_3102_a2 x).u 3))], .sint .i64 (0)]

noncomputable def prZ3102 (l : List AV) : Vars := outV (some (pr_v3102 (varsOf l), []))

theorem pr_x3102 (x : Vars) : mkR (prZ3102 (mkL x 0 (kdsP [.val (.ag kd1), .val (.ag kd2), .val (.sc (.flt .f32)), .val (.sc (.flt .f32))]))) [.ag kd1, .sc (.int .i64)] = pr_v3102 x := by kernel_rfl

theorem pr_f9_3102 (x : Vars) : (funH Try.prog G8 noLT true 1000 9 (argsP prP 0 (litL (litL (litL (litL (mkL x 0 (kdsP [.val (.ag kd1), .val (.ag kd2), .val (.sc (.flt .f32)), .val (.sc (.flt .f32))])) 4 3) 5 1) 6 0) 7 2)) (memP prP (litL (litL (litL (litL (mkL x 0 (kdsP [.val (.ag kd1), .val (.ag kd2), .val (.sc (.flt .f32)), .val (.sc (.flt .f32))])) 4 3) 5 1) 6 0) 7 2)) [false]).map (fun r => (normR r.1, untupR r.1 && r.1.flat, r.2)) = some (pr_v3102 x, true, [(!(!((((filmsR [(.flt .f32 (x.u 0)), (.flt .f32 (x.u 1)), (.flt .f32 (x.u 2)), (.flt .f32 (x.u 3))]).b 0) && ((fcmp .geq .f32 (x.u 8) 0) && (fcmp .leq .f32 (x.u 8) 1233125376))) && ((fcmp .geq .f32 (x.u 9) 0) && (fcmp .leq .f32 (x.u 9) 1233125376)))))]) := by kernel_rfl

theorem pr_o9_3102 (x : Vars) (hF : prF x = true) (z0 : x.i 4 = 3) (z1 : x.i 5 = 1) (z2 : x.i 6 = 0) (z3 : x.i 7 = 2) : EvP Try.prog G8 9 prP [.ag kd1, .sc (.int .i64)] (mkL x 0 (kdsP [.val (.ag kd1), .val (.ag kd2), .val (.sc (.flt .f32)), .val (.sc (.flt .f32))])) (prZ3102 (mkL x 0 (kdsP [.val (.ag kd1), .val (.ag kd2), .val (.sc (.flt .f32)), .val (.sc (.flt .f32))]))) :=
  EvP.ofH (H := noLT) (J := true) (HFun.none Try.prog _ 9) (litL_mk2 (litL_mk2 (litL_mk2 (litL_mk z0) z1) z2) z3) (by rw [pr_x3102]; exact pr_f9_3102 x) (pr_c9_0 x hF)

theorem pr_f12_3102 (x : Vars) : (funH Try.prog G8 noLT true 1000 12 (argsP prP 0 (litL (litL (litL (litL (mkL x 0 (kdsP [.val (.ag kd1), .val (.ag kd2), .val (.sc (.flt .f32)), .val (.sc (.flt .f32))])) 4 3) 5 1) 6 0) 7 2)) (memP prP (litL (litL (litL (litL (mkL x 0 (kdsP [.val (.ag kd1), .val (.ag kd2), .val (.sc (.flt .f32)), .val (.sc (.flt .f32))])) 4 3) 5 1) 6 0) 7 2)) [false]).map (fun r => (normR r.1, untupR r.1 && r.1.flat, r.2)) = some (pr_v3102 x, true, [(!((!((filmsR [(.flt .f32 (x.u 0)), (.flt .f32 (x.u 1)), (.flt .f32 (x.u 2)), (.flt .f32 (x.u 3))]).b 0)) || (!(((fcmp .geq .f32 (x.u 8) 0) && (fcmp .leq .f32 (x.u 8) 1233125376)) && ((fcmp .geq .f32 (x.u 9) 0) && (fcmp .leq .f32 (x.u 9) 1233125376))))))]) := by kernel_rfl

theorem pr_o12_3102 (x : Vars) (hF : prF x = true) (z0 : x.i 4 = 3) (z1 : x.i 5 = 1) (z2 : x.i 6 = 0) (z3 : x.i 7 = 2) : EvP Try.prog G8 12 prP [.ag kd1, .sc (.int .i64)] (mkL x 0 (kdsP [.val (.ag kd1), .val (.ag kd2), .val (.sc (.flt .f32)), .val (.sc (.flt .f32))])) (prZ3102 (mkL x 0 (kdsP [.val (.ag kd1), .val (.ag kd2), .val (.sc (.flt .f32)), .val (.sc (.flt .f32))]))) :=
  EvP.ofH (H := noLT) (J := true) (HFun.none Try.prog _ 12) (litL_mk2 (litL_mk2 (litL_mk2 (litL_mk z0) z1) z2) z3) (by rw [pr_x3102]; exact pr_f12_3102 x) (pr_c12_1 x hF)

noncomputable def pr_3120_a0 (x : Vars) : Vars := driedR [(.agg [(.flt .f32 ((pr_3102_a0 x).u 0)), (.flt .f32 ((pr_3102_a0 x).u 1)), (.flt .f32 (farith .add .f32 ((pr_3102_a0 x).u 2) (x.u 2))), (.flt .f32 ((pr_3102_a0 x).u 3))]), (.flt .f32 (x.u 8)), (.flt .f32 (x.u 9))]

noncomputable def pr_3120_a1 (x : Vars) : Vars := driedR [(.agg [(.flt .f32 (farith .add .f32 ((pr_3120_a0 x).u 0) (x.u 0))), (.flt .f32 ((pr_3120_a0 x).u 1)), (.flt .f32 ((pr_3120_a0 x).u 2)), (.flt .f32 ((pr_3120_a0 x).u 3))]), (.flt .f32 (x.u 8)), (.flt .f32 (x.u 9))]


noncomputable def pr_v3120 (x : Vars) : AV := .tup [.agg [.flt .f32 (((pr_3120_a1 x).u 0)), .flt .f32 (((pr_3120_a1 x).u 1)), .flt .f32 (((pr_3120_a1 x).u 2)), .flt .f32 (((pr_3120_a1 x).u 3))], .sint .i64 (0)]

noncomputable def prZ3120 (l : List AV) : Vars := outV (some (pr_v3120 (varsOf l), []))

theorem pr_x3120 (x : Vars) : mkR (prZ3120 (mkL x 0 (kdsP [.val (.ag kd1), .val (.ag kd2), .val (.sc (.flt .f32)), .val (.sc (.flt .f32))]))) [.ag kd1, .sc (.int .i64)] = pr_v3120 x := by kernel_rfl

theorem pr_f9_3120 (x : Vars) : (funH Try.prog G8 noLT true 1000 9 (argsP prP 0 (litL (litL (litL (litL (mkL x 0 (kdsP [.val (.ag kd1), .val (.ag kd2), .val (.sc (.flt .f32)), .val (.sc (.flt .f32))])) 4 3) 5 1) 6 2) 7 0)) (memP prP (litL (litL (litL (litL (mkL x 0 (kdsP [.val (.ag kd1), .val (.ag kd2), .val (.sc (.flt .f32)), .val (.sc (.flt .f32))])) 4 3) 5 1) 6 2) 7 0)) [false]).map (fun r => (normR r.1, untupR r.1 && r.1.flat, r.2)) = some (pr_v3120 x, true, [(!(!((((filmsR [(.flt .f32 (x.u 0)), (.flt .f32 (x.u 1)), (.flt .f32 (x.u 2)), (.flt .f32 (x.u 3))]).b 0) && ((fcmp .geq .f32 (x.u 8) 0) && (fcmp .leq .f32 (x.u 8) 1233125376))) && ((fcmp .geq .f32 (x.u 9) 0) && (fcmp .leq .f32 (x.u 9) 1233125376)))))]) := by kernel_rfl

theorem pr_o9_3120 (x : Vars) (hF : prF x = true) (z0 : x.i 4 = 3) (z1 : x.i 5 = 1) (z2 : x.i 6 = 2) (z3 : x.i 7 = 0) : EvP Try.prog G8 9 prP [.ag kd1, .sc (.int .i64)] (mkL x 0 (kdsP [.val (.ag kd1), .val (.ag kd2), .val (.sc (.flt .f32)), .val (.sc (.flt .f32))])) (prZ3120 (mkL x 0 (kdsP [.val (.ag kd1), .val (.ag kd2), .val (.sc (.flt .f32)), .val (.sc (.flt .f32))]))) :=
  EvP.ofH (H := noLT) (J := true) (HFun.none Try.prog _ 9) (litL_mk2 (litL_mk2 (litL_mk2 (litL_mk z0) z1) z2) z3) (by rw [pr_x3120]; exact pr_f9_3120 x) (pr_c9_0 x hF)

theorem pr_f12_3120 (x : Vars) : (funH Try.prog G8 noLT true 1000 12 (argsP prP 0 (litL (litL (litL (litL (mkL x 0 (kdsP [.val (.ag kd1), .val (.ag kd2), .val (.sc (.flt .f32)), .val (.sc (.flt .f32))])) 4 3) 5 1) 6 2) 7 0)) (memP prP (litL (litL (litL (litL (mkL x 0 (kdsP [.val (.ag kd1), .val (.ag kd2), .val (.sc (.flt .f32)), .val (.sc (.flt .f32))])) 4 3) 5 1) 6 2) 7 0)) [false]).map (fun r => (normR r.1, untupR r.1 && r.1.flat, r.2)) = some (pr_v3120 x, true, [(!((!((filmsR [(.flt .f32 (x.u 0)), (.flt .f32 (x.u 1)), (.flt .f32 (x.u 2)), (.flt .f32 (x.u 3))]).b 0)) || (!(((fcmp .geq .f32 (x.u 8) 0) && (fcmp .leq .f32 (x.u 8) 1233125376)) && ((fcmp .geq .f32 (x.u 9) 0) && (fcmp .leq .f32 (x.u 9) 1233125376))))))]) := by kernel_rfl

theorem pr_o12_3120 (x : Vars) (hF : prF x = true) (z0 : x.i 4 = 3) (z1 : x.i 5 = 1) (z2 : x.i 6 = 2) (z3 : x.i 7 = 0) : EvP Try.prog G8 12 prP [.ag kd1, .sc (.int .i64)] (mkL x 0 (kdsP [.val (.ag kd1), .val (.ag kd2), .val (.sc (.flt .f32)), .val (.sc (.flt .f32))])) (prZ3120 (mkL x 0 (kdsP [.val (.ag kd1), .val (.ag kd2), .val (.sc (.flt .f32)), .val (.sc (.flt .f32))]))) :=
  EvP.ofH (H := noLT) (J := true) (HFun.none Try.prog _ 12) (litL_mk2 (litL_mk2 (litL_mk2 (litL_mk z0) z1) z2) z3) (by rw [pr_x3120]; exact pr_f12_3120 x) (pr_c12_1 x hF)

noncomputable def pr_3201_a0 (x : Vars) : Vars := driedR [(.agg [(.flt .f32 ((pr_3012_a0 x).u 0)), (.flt .f32 ((pr_3012_a0 x).u 1)), (.flt .f32 (farith .add .f32 ((pr_3012_a0 x).u 2) (x.u 2))), (.flt .f32 ((pr_3012_a0 x).u 3))]), (.flt .f32 (x.u 8)), (.flt .f32 (x.u 9))]

noncomputable def pr_3201_a1 (x : Vars) : Vars := driedR [(.agg [(.flt .f32 (farith .add .f32 ((pr_3201_a0 x).u 0) (x.u 0))), (.flt .f32 ((pr_3201_a0 x).u 1)), (.flt .f32 ((pr_3201_a0 x).u 2)), (.flt .f32 ((pr_3201_a0 x).u 3))]), (.flt .f32 (x.u 8)), (.flt .f32 (x.u 9))]

noncomputable def pr_3201_a2 (x : Vars) : Vars := driedR [(.agg [(.flt .f32 ((pr_3201_a1 x).u 0)), (.flt .f32 (farith .add .f32 ((pr_3201_a1 x).u 1) (x.u 1))), (.flt .f32 ((pr_3201_a1 x).u 2)), (.flt .f32 ((pr_3201_a1 x).u 3))]), (.flt .f32 (x.u 8)), (.flt .f32 (x.u 9))]


noncomputable def pr_v3201 (x : Vars) : AV := .tup [.agg [.flt .f32 (((pr_3201_a2 x).u 0)), .flt .f32 (((pr_3201_a2 x).u 1)), .flt .f32 (((pr_3201_a2 x).u 2)), .flt .f32 (((pr_3201_a2 x).u 3))], .sint .i64 (0)]

noncomputable def prZ3201 (l : List AV) : Vars := outV (some (pr_v3201 (varsOf l), []))

theorem pr_x3201 (x : Vars) : mkR (prZ3201 (mkL x 0 (kdsP [.val (.ag kd1), .val (.ag kd2), .val (.sc (.flt .f32)), .val (.sc (.flt .f32))]))) [.ag kd1, .sc (.int .i64)] = pr_v3201 x := by kernel_rfl

theorem pr_f9_3201 (x : Vars) : (funH Try.prog G8 noLT true 1000 9 (argsP prP 0 (litL (litL (litL (litL (mkL x 0 (kdsP [.val (.ag kd1), .val (.ag kd2), .val (.sc (.flt .f32)), .val (.sc (.flt .f32))])) 4 3) 5 2) 6 0) 7 1)) (memP prP (litL (litL (litL (litL (mkL x 0 (kdsP [.val (.ag kd1), .val (.ag kd2), .val (.sc (.flt .f32)), .val (.sc (.flt .f32))])) 4 3) 5 2) 6 0) 7 1)) [false]).map (fun r => (normR r.1, untupR r.1 && r.1.flat, r.2)) = some (pr_v3201 x, true, [(!(!((((filmsR [(.flt .f32 (x.u 0)), (.flt .f32 (x.u 1)), (.flt .f32 (x.u 2)), (.flt .f32 (x.u 3))]).b 0) && ((fcmp .geq .f32 (x.u 8) 0) && (fcmp .leq .f32 (x.u 8) 1233125376))) && ((fcmp .geq .f32 (x.u 9) 0) && (fcmp .leq .f32 (x.u 9) 1233125376)))))]) := by kernel_rfl

theorem pr_o9_3201 (x : Vars) (hF : prF x = true) (z0 : x.i 4 = 3) (z1 : x.i 5 = 2) (z2 : x.i 6 = 0) (z3 : x.i 7 = 1) : EvP Try.prog G8 9 prP [.ag kd1, .sc (.int .i64)] (mkL x 0 (kdsP [.val (.ag kd1), .val (.ag kd2), .val (.sc (.flt .f32)), .val (.sc (.flt .f32))])) (prZ3201 (mkL x 0 (kdsP [.val (.ag kd1), .val (.ag kd2), .val (.sc (.flt .f32)), .val (.sc (.flt .f32))]))) :=
  EvP.ofH (H := noLT) (J := true) (HFun.none Try.prog _ 9) (litL_mk2 (litL_mk2 (litL_mk2 (litL_mk z0) z1) z2) z3) (by rw [pr_x3201]; exact pr_f9_3201 x) (pr_c9_0 x hF)

theorem pr_f12_3201 (x : Vars) : (funH Try.prog G8 noLT true 1000 12 (argsP prP 0 (litL (litL (litL (litL (mkL x 0 (kdsP [.val (.ag kd1), .val (.ag kd2), .val (.sc (.flt .f32)), .val (.sc (.flt .f32))])) 4 3) 5 2) 6 0) 7 1)) (memP prP (litL (litL (litL (litL (mkL x 0 (kdsP [.val (.ag kd1), .val (.ag kd2), .val (.sc (.flt .f32)), .val (.sc (.flt .f32))])) 4 3) 5 2) 6 0) 7 1)) [false]).map (fun r => (normR r.1, untupR r.1 && r.1.flat, r.2)) = some (pr_v3201 x, true, [(!((!((filmsR [(.flt .f32 (x.u 0)), (.flt .f32 (x.u 1)), (.flt .f32 (x.u 2)), (.flt .f32 (x.u 3))]).b 0)) || (!(((fcmp .geq .f32 (x.u 8) 0) && (fcmp .leq .f32 (x.u 8) 1233125376)) && ((fcmp .geq .f32 (x.u 9) 0) && (fcmp .leq .f32 (x.u 9) 1233125376))))))]) := by kernel_rfl

theorem pr_o12_3201 (x : Vars) (hF : prF x = true) (z0 : x.i 4 = 3) (z1 : x.i 5 = 2) (z2 : x.i 6 = 0) (z3 : x.i 7 = 1) : EvP Try.prog G8 12 prP [.ag kd1, .sc (.int .i64)] (mkL x 0 (kdsP [.val (.ag kd1), .val (.ag kd2), .val (.sc (.flt .f32)), .val (.sc (.flt .f32))])) (prZ3201 (mkL x 0 (kdsP [.val (.ag kd1), .val (.ag kd2), .val (.sc (.flt .f32)), .val (.sc (.flt .f32))]))) :=
  EvP.ofH (H := noLT) (J := true) (HFun.none Try.prog _ 12) (litL_mk2 (litL_mk2 (litL_mk2 (litL_mk z0) z1) z2) z3) (by rw [pr_x3201]; exact pr_f12_3201 x) (pr_c12_1 x hF)

noncomputable def pr_3210_a0 (x : Vars) : Vars := driedR [(.agg [(.flt .f32 ((pr_3201_a0 x).u 0)), (.flt .f32 (farith .add .f32 ((pr_3201_a0 x).u 1) (x.u 1))), (.flt .f32 ((pr_3201_a0 x).u 2)), (.flt .f32 ((pr_3201_a0 x).u 3))]), (.flt .f32 (x.u 8)), (.flt .f32 (x.u 9))]

noncomputable def pr_3210_a1 (x : Vars) : Vars := driedR [(.agg [(.flt .f32 (farith .add .f32 ((pr_3210_a0 x).u 0) (x.u 0))), (.flt .f32 ((pr_3210_a0 x).u 1)), (.flt .f32 ((pr_3210_a0 x).u 2)), (.flt .f32 ((pr_3210_a0 x).u 3))]), (.flt .f32 (x.u 8)), (.flt .f32 (x.u 9))]


noncomputable def pr_v3210 (x : Vars) : AV := .tup [.agg [.flt .f32 (((pr_3210_a1 x).u 0)), .flt .f32 (((pr_3210_a1 x).u 1)), .flt .f32 (((pr_3210_a1 x).u 2)), .flt .f32 (((pr_3210_a1 x).u 3))], .sint .i64 (0)]

noncomputable def prZ3210 (l : List AV) : Vars := outV (some (pr_v3210 (varsOf l), []))

theorem pr_x3210 (x : Vars) : mkR (prZ3210 (mkL x 0 (kdsP [.val (.ag kd1), .val (.ag kd2), .val (.sc (.flt .f32)), .val (.sc (.flt .f32))]))) [.ag kd1, .sc (.int .i64)] = pr_v3210 x := by kernel_rfl

theorem pr_f9_3210 (x : Vars) : (funH Try.prog G8 noLT true 1000 9 (argsP prP 0 (litL (litL (litL (litL (mkL x 0 (kdsP [.val (.ag kd1), .val (.ag kd2), .val (.sc (.flt .f32)), .val (.sc (.flt .f32))])) 4 3) 5 2) 6 1) 7 0)) (memP prP (litL (litL (litL (litL (mkL x 0 (kdsP [.val (.ag kd1), .val (.ag kd2), .val (.sc (.flt .f32)), .val (.sc (.flt .f32))])) 4 3) 5 2) 6 1) 7 0)) [false]).map (fun r => (normR r.1, untupR r.1 && r.1.flat, r.2)) = some (pr_v3210 x, true, [(!(!((((filmsR [(.flt .f32 (x.u 0)), (.flt .f32 (x.u 1)), (.flt .f32 (x.u 2)), (.flt .f32 (x.u 3))]).b 0) && ((fcmp .geq .f32 (x.u 8) 0) && (fcmp .leq .f32 (x.u 8) 1233125376))) && ((fcmp .geq .f32 (x.u 9) 0) && (fcmp .leq .f32 (x.u 9) 1233125376)))))]) := by kernel_rfl

theorem pr_o9_3210 (x : Vars) (hF : prF x = true) (z0 : x.i 4 = 3) (z1 : x.i 5 = 2) (z2 : x.i 6 = 1) (z3 : x.i 7 = 0) : EvP Try.prog G8 9 prP [.ag kd1, .sc (.int .i64)] (mkL x 0 (kdsP [.val (.ag kd1), .val (.ag kd2), .val (.sc (.flt .f32)), .val (.sc (.flt .f32))])) (prZ3210 (mkL x 0 (kdsP [.val (.ag kd1), .val (.ag kd2), .val (.sc (.flt .f32)), .val (.sc (.flt .f32))]))) :=
  EvP.ofH (H := noLT) (J := true) (HFun.none Try.prog _ 9) (litL_mk2 (litL_mk2 (litL_mk2 (litL_mk z0) z1) z2) z3) (by rw [pr_x3210]; exact pr_f9_3210 x) (pr_c9_0 x hF)

theorem pr_f12_3210 (x : Vars) : (funH Try.prog G8 noLT true 1000 12 (argsP prP 0 (litL (litL (litL (litL (mkL x 0 (kdsP [.val (.ag kd1), .val (.ag kd2), .val (.sc (.flt .f32)), .val (.sc (.flt .f32))])) 4 3) 5 2) 6 1) 7 0)) (memP prP (litL (litL (litL (litL (mkL x 0 (kdsP [.val (.ag kd1), .val (.ag kd2), .val (.sc (.flt .f32)), .val (.sc (.flt .f32))])) 4 3) 5 2) 6 1) 7 0)) [false]).map (fun r => (normR r.1, untupR r.1 && r.1.flat, r.2)) = some (pr_v3210 x, true, [(!((!((filmsR [(.flt .f32 (x.u 0)), (.flt .f32 (x.u 1)), (.flt .f32 (x.u 2)), (.flt .f32 (x.u 3))]).b 0)) || (!(((fcmp .geq .f32 (x.u 8) 0) && (fcmp .leq .f32 (x.u 8) 1233125376)) && ((fcmp .geq .f32 (x.u 9) 0) && (fcmp .leq .f32 (x.u 9) 1233125376))))))]) := by kernel_rfl

theorem pr_o12_3210 (x : Vars) (hF : prF x = true) (z0 : x.i 4 = 3) (z1 : x.i 5 = 2) (z2 : x.i 6 = 1) (z3 : x.i 7 = 0) : EvP Try.prog G8 12 prP [.ag kd1, .sc (.int .i64)] (mkL x 0 (kdsP [.val (.ag kd1), .val (.ag kd2), .val (.sc (.flt .f32)), .val (.sc (.flt .f32))])) (prZ3210 (mkL x 0 (kdsP [.val (.ag kd1), .val (.ag kd2), .val (.sc (.flt .f32)), .val (.sc (.flt .f32))]))) :=
  EvP.ofH (H := noLT) (J := true) (HFun.none Try.prog _ 12) (litL_mk2 (litL_mk2 (litL_mk2 (litL_mk z0) z1) z2) z3) (by rw [pr_x3210]; exact pr_f12_3210 x) (pr_c12_1 x hF)

noncomputable def prT (l : List AV) : Vars := bif decide (intOf (leafN l 4) = 0) then (bif decide (intOf (leafN l 5) = 1) then (bif decide (intOf (leafN l 6) = 2) then (prZ0123 l) else (prZ0132 l)) else (bif decide (intOf (leafN l 5) = 2) then (bif decide (intOf (leafN l 6) = 1) then (prZ0213 l) else (prZ0231 l)) else (bif decide (intOf (leafN l 6) = 1) then (prZ0312 l) else (prZ0321 l)))) else (bif decide (intOf (leafN l 4) = 1) then (bif decide (intOf (leafN l 5) = 0) then (bif decide (intOf (leafN l 6) = 2) then (prZ1023 l) else (prZ1032 l)) else (bif decide (intOf (leafN l 5) = 2) then (bif decide (intOf (leafN l 6) = 0) then (prZ1203 l) else (prZ1230 l)) else (bif decide (intOf (leafN l 6) = 0) then (prZ1302 l) else (prZ1320 l)))) else (bif decide (intOf (leafN l 4) = 2) then (bif decide (intOf (leafN l 5) = 0) then (bif decide (intOf (leafN l 6) = 1) then (prZ2013 l) else (prZ2031 l)) else (bif decide (intOf (leafN l 5) = 1) then (bif decide (intOf (leafN l 6) = 0) then (prZ2103 l) else (prZ2130 l)) else (bif decide (intOf (leafN l 6) = 0) then (prZ2301 l) else (prZ2310 l)))) else (bif decide (intOf (leafN l 5) = 0) then (bif decide (intOf (leafN l 6) = 1) then (prZ3012 l) else (prZ3021 l)) else (bif decide (intOf (leafN l 5) = 1) then (bif decide (intOf (leafN l 6) = 0) then (prZ3102 l) else (prZ3120 l)) else (bif decide (intOf (leafN l 6) = 0) then (prZ3201 l) else (prZ3210 l))))))

noncomputable def prR0 (l : List AV) : Vars := bif (prF (varsOf l) && prQ (varsOf l)) then prT l else prErr

noncomputable def prR : List AV → Vars := Classical.choose (⟨prR0, rfl⟩ : ∃ f, f = prR0)

theorem prR_eq : prR = prR0 := Classical.choose_spec (⟨prR0, rfl⟩ : ∃ f, f = prR0)

theorem pr_r (x : Vars) : prR0 (mkL x 0 (kdsP [.val (.ag kd1), .val (.ag kd2), .val (.sc (.flt .f32)), .val (.sc (.flt .f32))])) = (bif (prF x && prQ x) then prT (mkL x 0 (kdsP [.val (.ag kd1), .val (.ag kd2), .val (.sc (.flt .f32)), .val (.sc (.flt .f32))])) else prErr) := by kernel_rfl

set_option maxRecDepth 100000 in
theorem pr_ev9 (x : Vars) : EvP Try.prog G8 9 prP [.ag kd1, .sc (.int .i64)] (mkL x 0 (kdsP [.val (.ag kd1), .val (.ag kd2), .val (.sc (.flt .f32)), .val (.sc (.flt .f32))])) (prR0 (mkL x 0 (kdsP [.val (.ag kd1), .val (.ag kd2), .val (.sc (.flt .f32)), .val (.sc (.flt .f32))]))) := by
  rw [pr_r]
  cases h : (prF x && prQ x) with
  | false => exact pr_bad9 x h
  | true =>
    obtain ⟨hF, hQ⟩ := Bool.and_eq_true_iff.1 h
    have q := of_decide_eq_true hQ
    show EvP Try.prog G8 9 prP [.ag kd1, .sc (.int .i64)] (mkL x 0 (kdsP [.val (.ag kd1), .val (.ag kd2), .val (.sc (.flt .f32)), .val (.sc (.flt .f32))])) (prT (mkL x 0 (kdsP [.val (.ag kd1), .val (.ag kd2), .val (.sc (.flt .f32)), .val (.sc (.flt .f32))])))
    have c0 : x.i 4 = 0 ∨ x.i 4 = 1 ∨ x.i 4 = 2 ∨ x.i 4 = 3 := by omega
    rcases c0 with z0 | z0 | z0 | z0
    · have c1 : x.i 5 = 1 ∨ x.i 5 = 2 ∨ x.i 5 = 3 := by omega
      rcases c1 with z1 | z1 | z1
      · have c2 : x.i 6 = 2 ∨ x.i 6 = 3 := by omega
        rcases c2 with z2 | z2
        · have z3 : x.i 7 = 3 := by omega
          have e : prT (mkL x 0 (kdsP [.val (.ag kd1), .val (.ag kd2), .val (.sc (.flt .f32)), .val (.sc (.flt .f32))])) = prZ0123 (mkL x 0 (kdsP [.val (.ag kd1), .val (.ag kd2), .val (.sc (.flt .f32)), .val (.sc (.flt .f32))])) := by
            unfold prT
            have y0 : intOf (leafN (mkL x 0 (kdsP [.val (.ag kd1), .val (.ag kd2), .val (.sc (.flt .f32)), .val (.sc (.flt .f32))])) 4) = 0 := z0
            have y1 : intOf (leafN (mkL x 0 (kdsP [.val (.ag kd1), .val (.ag kd2), .val (.sc (.flt .f32)), .val (.sc (.flt .f32))])) 5) = 1 := z1
            have y2 : intOf (leafN (mkL x 0 (kdsP [.val (.ag kd1), .val (.ag kd2), .val (.sc (.flt .f32)), .val (.sc (.flt .f32))])) 6) = 2 := z2
            have y3 : intOf (leafN (mkL x 0 (kdsP [.val (.ag kd1), .val (.ag kd2), .val (.sc (.flt .f32)), .val (.sc (.flt .f32))])) 7) = 3 := z3
            rw [y0, y1, y2]
            rfl
          rw [e]
          exact pr_o9_0123 x hF z0 z1 z2 z3
        · have z3 : x.i 7 = 2 := by omega
          have e : prT (mkL x 0 (kdsP [.val (.ag kd1), .val (.ag kd2), .val (.sc (.flt .f32)), .val (.sc (.flt .f32))])) = prZ0132 (mkL x 0 (kdsP [.val (.ag kd1), .val (.ag kd2), .val (.sc (.flt .f32)), .val (.sc (.flt .f32))])) := by
            unfold prT
            have y0 : intOf (leafN (mkL x 0 (kdsP [.val (.ag kd1), .val (.ag kd2), .val (.sc (.flt .f32)), .val (.sc (.flt .f32))])) 4) = 0 := z0
            have y1 : intOf (leafN (mkL x 0 (kdsP [.val (.ag kd1), .val (.ag kd2), .val (.sc (.flt .f32)), .val (.sc (.flt .f32))])) 5) = 1 := z1
            have y2 : intOf (leafN (mkL x 0 (kdsP [.val (.ag kd1), .val (.ag kd2), .val (.sc (.flt .f32)), .val (.sc (.flt .f32))])) 6) = 3 := z2
            have y3 : intOf (leafN (mkL x 0 (kdsP [.val (.ag kd1), .val (.ag kd2), .val (.sc (.flt .f32)), .val (.sc (.flt .f32))])) 7) = 2 := z3
            rw [y0, y1, y2]
            rfl
          rw [e]
          exact pr_o9_0132 x hF z0 z1 z2 z3
      · have c2 : x.i 6 = 1 ∨ x.i 6 = 3 := by omega
        rcases c2 with z2 | z2
        · have z3 : x.i 7 = 3 := by omega
          have e : prT (mkL x 0 (kdsP [.val (.ag kd1), .val (.ag kd2), .val (.sc (.flt .f32)), .val (.sc (.flt .f32))])) = prZ0213 (mkL x 0 (kdsP [.val (.ag kd1), .val (.ag kd2), .val (.sc (.flt .f32)), .val (.sc (.flt .f32))])) := by
            unfold prT
            have y0 : intOf (leafN (mkL x 0 (kdsP [.val (.ag kd1), .val (.ag kd2), .val (.sc (.flt .f32)), .val (.sc (.flt .f32))])) 4) = 0 := z0
            have y1 : intOf (leafN (mkL x 0 (kdsP [.val (.ag kd1), .val (.ag kd2), .val (.sc (.flt .f32)), .val (.sc (.flt .f32))])) 5) = 2 := z1
            have y2 : intOf (leafN (mkL x 0 (kdsP [.val (.ag kd1), .val (.ag kd2), .val (.sc (.flt .f32)), .val (.sc (.flt .f32))])) 6) = 1 := z2
            have y3 : intOf (leafN (mkL x 0 (kdsP [.val (.ag kd1), .val (.ag kd2), .val (.sc (.flt .f32)), .val (.sc (.flt .f32))])) 7) = 3 := z3
            rw [y0, y1, y2]
            rfl
          rw [e]
          exact pr_o9_0213 x hF z0 z1 z2 z3
        · have z3 : x.i 7 = 1 := by omega
          have e : prT (mkL x 0 (kdsP [.val (.ag kd1), .val (.ag kd2), .val (.sc (.flt .f32)), .val (.sc (.flt .f32))])) = prZ0231 (mkL x 0 (kdsP [.val (.ag kd1), .val (.ag kd2), .val (.sc (.flt .f32)), .val (.sc (.flt .f32))])) := by
            unfold prT
            have y0 : intOf (leafN (mkL x 0 (kdsP [.val (.ag kd1), .val (.ag kd2), .val (.sc (.flt .f32)), .val (.sc (.flt .f32))])) 4) = 0 := z0
            have y1 : intOf (leafN (mkL x 0 (kdsP [.val (.ag kd1), .val (.ag kd2), .val (.sc (.flt .f32)), .val (.sc (.flt .f32))])) 5) = 2 := z1
            have y2 : intOf (leafN (mkL x 0 (kdsP [.val (.ag kd1), .val (.ag kd2), .val (.sc (.flt .f32)), .val (.sc (.flt .f32))])) 6) = 3 := z2
            have y3 : intOf (leafN (mkL x 0 (kdsP [.val (.ag kd1), .val (.ag kd2), .val (.sc (.flt .f32)), .val (.sc (.flt .f32))])) 7) = 1 := z3
            rw [y0, y1, y2]
            rfl
          rw [e]
          exact pr_o9_0231 x hF z0 z1 z2 z3
      · have c2 : x.i 6 = 1 ∨ x.i 6 = 2 := by omega
        rcases c2 with z2 | z2
        · have z3 : x.i 7 = 2 := by omega
          have e : prT (mkL x 0 (kdsP [.val (.ag kd1), .val (.ag kd2), .val (.sc (.flt .f32)), .val (.sc (.flt .f32))])) = prZ0312 (mkL x 0 (kdsP [.val (.ag kd1), .val (.ag kd2), .val (.sc (.flt .f32)), .val (.sc (.flt .f32))])) := by
            unfold prT
            have y0 : intOf (leafN (mkL x 0 (kdsP [.val (.ag kd1), .val (.ag kd2), .val (.sc (.flt .f32)), .val (.sc (.flt .f32))])) 4) = 0 := z0
            have y1 : intOf (leafN (mkL x 0 (kdsP [.val (.ag kd1), .val (.ag kd2), .val (.sc (.flt .f32)), .val (.sc (.flt .f32))])) 5) = 3 := z1
            have y2 : intOf (leafN (mkL x 0 (kdsP [.val (.ag kd1), .val (.ag kd2), .val (.sc (.flt .f32)), .val (.sc (.flt .f32))])) 6) = 1 := z2
            have y3 : intOf (leafN (mkL x 0 (kdsP [.val (.ag kd1), .val (.ag kd2), .val (.sc (.flt .f32)), .val (.sc (.flt .f32))])) 7) = 2 := z3
            rw [y0, y1, y2]
            rfl
          rw [e]
          exact pr_o9_0312 x hF z0 z1 z2 z3
        · have z3 : x.i 7 = 1 := by omega
          have e : prT (mkL x 0 (kdsP [.val (.ag kd1), .val (.ag kd2), .val (.sc (.flt .f32)), .val (.sc (.flt .f32))])) = prZ0321 (mkL x 0 (kdsP [.val (.ag kd1), .val (.ag kd2), .val (.sc (.flt .f32)), .val (.sc (.flt .f32))])) := by
            unfold prT
            have y0 : intOf (leafN (mkL x 0 (kdsP [.val (.ag kd1), .val (.ag kd2), .val (.sc (.flt .f32)), .val (.sc (.flt .f32))])) 4) = 0 := z0
            have y1 : intOf (leafN (mkL x 0 (kdsP [.val (.ag kd1), .val (.ag kd2), .val (.sc (.flt .f32)), .val (.sc (.flt .f32))])) 5) = 3 := z1
            have y2 : intOf (leafN (mkL x 0 (kdsP [.val (.ag kd1), .val (.ag kd2), .val (.sc (.flt .f32)), .val (.sc (.flt .f32))])) 6) = 2 := z2
            have y3 : intOf (leafN (mkL x 0 (kdsP [.val (.ag kd1), .val (.ag kd2), .val (.sc (.flt .f32)), .val (.sc (.flt .f32))])) 7) = 1 := z3
            rw [y0, y1, y2]
            rfl
          rw [e]
          exact pr_o9_0321 x hF z0 z1 z2 z3
    · have c1 : x.i 5 = 0 ∨ x.i 5 = 2 ∨ x.i 5 = 3 := by omega
      rcases c1 with z1 | z1 | z1
      · have c2 : x.i 6 = 2 ∨ x.i 6 = 3 := by omega
        rcases c2 with z2 | z2
        · have z3 : x.i 7 = 3 := by omega
          have e : prT (mkL x 0 (kdsP [.val (.ag kd1), .val (.ag kd2), .val (.sc (.flt .f32)), .val (.sc (.flt .f32))])) = prZ1023 (mkL x 0 (kdsP [.val (.ag kd1), .val (.ag kd2), .val (.sc (.flt .f32)), .val (.sc (.flt .f32))])) := by
            unfold prT
            have y0 : intOf (leafN (mkL x 0 (kdsP [.val (.ag kd1), .val (.ag kd2), .val (.sc (.flt .f32)), .val (.sc (.flt .f32))])) 4) = 1 := z0
            have y1 : intOf (leafN (mkL x 0 (kdsP [.val (.ag kd1), .val (.ag kd2), .val (.sc (.flt .f32)), .val (.sc (.flt .f32))])) 5) = 0 := z1
            have y2 : intOf (leafN (mkL x 0 (kdsP [.val (.ag kd1), .val (.ag kd2), .val (.sc (.flt .f32)), .val (.sc (.flt .f32))])) 6) = 2 := z2
            have y3 : intOf (leafN (mkL x 0 (kdsP [.val (.ag kd1), .val (.ag kd2), .val (.sc (.flt .f32)), .val (.sc (.flt .f32))])) 7) = 3 := z3
            rw [y0, y1, y2]
            rfl
          rw [e]
          exact pr_o9_1023 x hF z0 z1 z2 z3
        · have z3 : x.i 7 = 2 := by omega
          have e : prT (mkL x 0 (kdsP [.val (.ag kd1), .val (.ag kd2), .val (.sc (.flt .f32)), .val (.sc (.flt .f32))])) = prZ1032 (mkL x 0 (kdsP [.val (.ag kd1), .val (.ag kd2), .val (.sc (.flt .f32)), .val (.sc (.flt .f32))])) := by
            unfold prT
            have y0 : intOf (leafN (mkL x 0 (kdsP [.val (.ag kd1), .val (.ag kd2), .val (.sc (.flt .f32)), .val (.sc (.flt .f32))])) 4) = 1 := z0
            have y1 : intOf (leafN (mkL x 0 (kdsP [.val (.ag kd1), .val (.ag kd2), .val (.sc (.flt .f32)), .val (.sc (.flt .f32))])) 5) = 0 := z1
            have y2 : intOf (leafN (mkL x 0 (kdsP [.val (.ag kd1), .val (.ag kd2), .val (.sc (.flt .f32)), .val (.sc (.flt .f32))])) 6) = 3 := z2
            have y3 : intOf (leafN (mkL x 0 (kdsP [.val (.ag kd1), .val (.ag kd2), .val (.sc (.flt .f32)), .val (.sc (.flt .f32))])) 7) = 2 := z3
            rw [y0, y1, y2]
            rfl
          rw [e]
          exact pr_o9_1032 x hF z0 z1 z2 z3
      · have c2 : x.i 6 = 0 ∨ x.i 6 = 3 := by omega
        rcases c2 with z2 | z2
        · have z3 : x.i 7 = 3 := by omega
          have e : prT (mkL x 0 (kdsP [.val (.ag kd1), .val (.ag kd2), .val (.sc (.flt .f32)), .val (.sc (.flt .f32))])) = prZ1203 (mkL x 0 (kdsP [.val (.ag kd1), .val (.ag kd2), .val (.sc (.flt .f32)), .val (.sc (.flt .f32))])) := by
            unfold prT
            have y0 : intOf (leafN (mkL x 0 (kdsP [.val (.ag kd1), .val (.ag kd2), .val (.sc (.flt .f32)), .val (.sc (.flt .f32))])) 4) = 1 := z0
            have y1 : intOf (leafN (mkL x 0 (kdsP [.val (.ag kd1), .val (.ag kd2), .val (.sc (.flt .f32)), .val (.sc (.flt .f32))])) 5) = 2 := z1
            have y2 : intOf (leafN (mkL x 0 (kdsP [.val (.ag kd1), .val (.ag kd2), .val (.sc (.flt .f32)), .val (.sc (.flt .f32))])) 6) = 0 := z2
            have y3 : intOf (leafN (mkL x 0 (kdsP [.val (.ag kd1), .val (.ag kd2), .val (.sc (.flt .f32)), .val (.sc (.flt .f32))])) 7) = 3 := z3
            rw [y0, y1, y2]
            rfl
          rw [e]
          exact pr_o9_1203 x hF z0 z1 z2 z3
        · have z3 : x.i 7 = 0 := by omega
          have e : prT (mkL x 0 (kdsP [.val (.ag kd1), .val (.ag kd2), .val (.sc (.flt .f32)), .val (.sc (.flt .f32))])) = prZ1230 (mkL x 0 (kdsP [.val (.ag kd1), .val (.ag kd2), .val (.sc (.flt .f32)), .val (.sc (.flt .f32))])) := by
            unfold prT
            have y0 : intOf (leafN (mkL x 0 (kdsP [.val (.ag kd1), .val (.ag kd2), .val (.sc (.flt .f32)), .val (.sc (.flt .f32))])) 4) = 1 := z0
            have y1 : intOf (leafN (mkL x 0 (kdsP [.val (.ag kd1), .val (.ag kd2), .val (.sc (.flt .f32)), .val (.sc (.flt .f32))])) 5) = 2 := z1
            have y2 : intOf (leafN (mkL x 0 (kdsP [.val (.ag kd1), .val (.ag kd2), .val (.sc (.flt .f32)), .val (.sc (.flt .f32))])) 6) = 3 := z2
            have y3 : intOf (leafN (mkL x 0 (kdsP [.val (.ag kd1), .val (.ag kd2), .val (.sc (.flt .f32)), .val (.sc (.flt .f32))])) 7) = 0 := z3
            rw [y0, y1, y2]
            rfl
          rw [e]
          exact pr_o9_1230 x hF z0 z1 z2 z3
      · have c2 : x.i 6 = 0 ∨ x.i 6 = 2 := by omega
        rcases c2 with z2 | z2
        · have z3 : x.i 7 = 2 := by omega
          have e : prT (mkL x 0 (kdsP [.val (.ag kd1), .val (.ag kd2), .val (.sc (.flt .f32)), .val (.sc (.flt .f32))])) = prZ1302 (mkL x 0 (kdsP [.val (.ag kd1), .val (.ag kd2), .val (.sc (.flt .f32)), .val (.sc (.flt .f32))])) := by
            unfold prT
            have y0 : intOf (leafN (mkL x 0 (kdsP [.val (.ag kd1), .val (.ag kd2), .val (.sc (.flt .f32)), .val (.sc (.flt .f32))])) 4) = 1 := z0
            have y1 : intOf (leafN (mkL x 0 (kdsP [.val (.ag kd1), .val (.ag kd2), .val (.sc (.flt .f32)), .val (.sc (.flt .f32))])) 5) = 3 := z1
            have y2 : intOf (leafN (mkL x 0 (kdsP [.val (.ag kd1), .val (.ag kd2), .val (.sc (.flt .f32)), .val (.sc (.flt .f32))])) 6) = 0 := z2
            have y3 : intOf (leafN (mkL x 0 (kdsP [.val (.ag kd1), .val (.ag kd2), .val (.sc (.flt .f32)), .val (.sc (.flt .f32))])) 7) = 2 := z3
            rw [y0, y1, y2]
            rfl
          rw [e]
          exact pr_o9_1302 x hF z0 z1 z2 z3
        · have z3 : x.i 7 = 0 := by omega
          have e : prT (mkL x 0 (kdsP [.val (.ag kd1), .val (.ag kd2), .val (.sc (.flt .f32)), .val (.sc (.flt .f32))])) = prZ1320 (mkL x 0 (kdsP [.val (.ag kd1), .val (.ag kd2), .val (.sc (.flt .f32)), .val (.sc (.flt .f32))])) := by
            unfold prT
            have y0 : intOf (leafN (mkL x 0 (kdsP [.val (.ag kd1), .val (.ag kd2), .val (.sc (.flt .f32)), .val (.sc (.flt .f32))])) 4) = 1 := z0
            have y1 : intOf (leafN (mkL x 0 (kdsP [.val (.ag kd1), .val (.ag kd2), .val (.sc (.flt .f32)), .val (.sc (.flt .f32))])) 5) = 3 := z1
            have y2 : intOf (leafN (mkL x 0 (kdsP [.val (.ag kd1), .val (.ag kd2), .val (.sc (.flt .f32)), .val (.sc (.flt .f32))])) 6) = 2 := z2
            have y3 : intOf (leafN (mkL x 0 (kdsP [.val (.ag kd1), .val (.ag kd2), .val (.sc (.flt .f32)), .val (.sc (.flt .f32))])) 7) = 0 := z3
            rw [y0, y1, y2]
            rfl
          rw [e]
          exact pr_o9_1320 x hF z0 z1 z2 z3
    · have c1 : x.i 5 = 0 ∨ x.i 5 = 1 ∨ x.i 5 = 3 := by omega
      rcases c1 with z1 | z1 | z1
      · have c2 : x.i 6 = 1 ∨ x.i 6 = 3 := by omega
        rcases c2 with z2 | z2
        · have z3 : x.i 7 = 3 := by omega
          have e : prT (mkL x 0 (kdsP [.val (.ag kd1), .val (.ag kd2), .val (.sc (.flt .f32)), .val (.sc (.flt .f32))])) = prZ2013 (mkL x 0 (kdsP [.val (.ag kd1), .val (.ag kd2), .val (.sc (.flt .f32)), .val (.sc (.flt .f32))])) := by
            unfold prT
            have y0 : intOf (leafN (mkL x 0 (kdsP [.val (.ag kd1), .val (.ag kd2), .val (.sc (.flt .f32)), .val (.sc (.flt .f32))])) 4) = 2 := z0
            have y1 : intOf (leafN (mkL x 0 (kdsP [.val (.ag kd1), .val (.ag kd2), .val (.sc (.flt .f32)), .val (.sc (.flt .f32))])) 5) = 0 := z1
            have y2 : intOf (leafN (mkL x 0 (kdsP [.val (.ag kd1), .val (.ag kd2), .val (.sc (.flt .f32)), .val (.sc (.flt .f32))])) 6) = 1 := z2
            have y3 : intOf (leafN (mkL x 0 (kdsP [.val (.ag kd1), .val (.ag kd2), .val (.sc (.flt .f32)), .val (.sc (.flt .f32))])) 7) = 3 := z3
            rw [y0, y1, y2]
            rfl
          rw [e]
          exact pr_o9_2013 x hF z0 z1 z2 z3
        · have z3 : x.i 7 = 1 := by omega
          have e : prT (mkL x 0 (kdsP [.val (.ag kd1), .val (.ag kd2), .val (.sc (.flt .f32)), .val (.sc (.flt .f32))])) = prZ2031 (mkL x 0 (kdsP [.val (.ag kd1), .val (.ag kd2), .val (.sc (.flt .f32)), .val (.sc (.flt .f32))])) := by
            unfold prT
            have y0 : intOf (leafN (mkL x 0 (kdsP [.val (.ag kd1), .val (.ag kd2), .val (.sc (.flt .f32)), .val (.sc (.flt .f32))])) 4) = 2 := z0
            have y1 : intOf (leafN (mkL x 0 (kdsP [.val (.ag kd1), .val (.ag kd2), .val (.sc (.flt .f32)), .val (.sc (.flt .f32))])) 5) = 0 := z1
            have y2 : intOf (leafN (mkL x 0 (kdsP [.val (.ag kd1), .val (.ag kd2), .val (.sc (.flt .f32)), .val (.sc (.flt .f32))])) 6) = 3 := z2
            have y3 : intOf (leafN (mkL x 0 (kdsP [.val (.ag kd1), .val (.ag kd2), .val (.sc (.flt .f32)), .val (.sc (.flt .f32))])) 7) = 1 := z3
            rw [y0, y1, y2]
            rfl
          rw [e]
          exact pr_o9_2031 x hF z0 z1 z2 z3
      · have c2 : x.i 6 = 0 ∨ x.i 6 = 3 := by omega
        rcases c2 with z2 | z2
        · have z3 : x.i 7 = 3 := by omega
          have e : prT (mkL x 0 (kdsP [.val (.ag kd1), .val (.ag kd2), .val (.sc (.flt .f32)), .val (.sc (.flt .f32))])) = prZ2103 (mkL x 0 (kdsP [.val (.ag kd1), .val (.ag kd2), .val (.sc (.flt .f32)), .val (.sc (.flt .f32))])) := by
            unfold prT
            have y0 : intOf (leafN (mkL x 0 (kdsP [.val (.ag kd1), .val (.ag kd2), .val (.sc (.flt .f32)), .val (.sc (.flt .f32))])) 4) = 2 := z0
            have y1 : intOf (leafN (mkL x 0 (kdsP [.val (.ag kd1), .val (.ag kd2), .val (.sc (.flt .f32)), .val (.sc (.flt .f32))])) 5) = 1 := z1
            have y2 : intOf (leafN (mkL x 0 (kdsP [.val (.ag kd1), .val (.ag kd2), .val (.sc (.flt .f32)), .val (.sc (.flt .f32))])) 6) = 0 := z2
            have y3 : intOf (leafN (mkL x 0 (kdsP [.val (.ag kd1), .val (.ag kd2), .val (.sc (.flt .f32)), .val (.sc (.flt .f32))])) 7) = 3 := z3
            rw [y0, y1, y2]
            rfl
          rw [e]
          exact pr_o9_2103 x hF z0 z1 z2 z3
        · have z3 : x.i 7 = 0 := by omega
          have e : prT (mkL x 0 (kdsP [.val (.ag kd1), .val (.ag kd2), .val (.sc (.flt .f32)), .val (.sc (.flt .f32))])) = prZ2130 (mkL x 0 (kdsP [.val (.ag kd1), .val (.ag kd2), .val (.sc (.flt .f32)), .val (.sc (.flt .f32))])) := by
            unfold prT
            have y0 : intOf (leafN (mkL x 0 (kdsP [.val (.ag kd1), .val (.ag kd2), .val (.sc (.flt .f32)), .val (.sc (.flt .f32))])) 4) = 2 := z0
            have y1 : intOf (leafN (mkL x 0 (kdsP [.val (.ag kd1), .val (.ag kd2), .val (.sc (.flt .f32)), .val (.sc (.flt .f32))])) 5) = 1 := z1
            have y2 : intOf (leafN (mkL x 0 (kdsP [.val (.ag kd1), .val (.ag kd2), .val (.sc (.flt .f32)), .val (.sc (.flt .f32))])) 6) = 3 := z2
            have y3 : intOf (leafN (mkL x 0 (kdsP [.val (.ag kd1), .val (.ag kd2), .val (.sc (.flt .f32)), .val (.sc (.flt .f32))])) 7) = 0 := z3
            rw [y0, y1, y2]
            rfl
          rw [e]
          exact pr_o9_2130 x hF z0 z1 z2 z3
      · have c2 : x.i 6 = 0 ∨ x.i 6 = 1 := by omega
        rcases c2 with z2 | z2
        · have z3 : x.i 7 = 1 := by omega
          have e : prT (mkL x 0 (kdsP [.val (.ag kd1), .val (.ag kd2), .val (.sc (.flt .f32)), .val (.sc (.flt .f32))])) = prZ2301 (mkL x 0 (kdsP [.val (.ag kd1), .val (.ag kd2), .val (.sc (.flt .f32)), .val (.sc (.flt .f32))])) := by
            unfold prT
            have y0 : intOf (leafN (mkL x 0 (kdsP [.val (.ag kd1), .val (.ag kd2), .val (.sc (.flt .f32)), .val (.sc (.flt .f32))])) 4) = 2 := z0
            have y1 : intOf (leafN (mkL x 0 (kdsP [.val (.ag kd1), .val (.ag kd2), .val (.sc (.flt .f32)), .val (.sc (.flt .f32))])) 5) = 3 := z1
            have y2 : intOf (leafN (mkL x 0 (kdsP [.val (.ag kd1), .val (.ag kd2), .val (.sc (.flt .f32)), .val (.sc (.flt .f32))])) 6) = 0 := z2
            have y3 : intOf (leafN (mkL x 0 (kdsP [.val (.ag kd1), .val (.ag kd2), .val (.sc (.flt .f32)), .val (.sc (.flt .f32))])) 7) = 1 := z3
            rw [y0, y1, y2]
            rfl
          rw [e]
          exact pr_o9_2301 x hF z0 z1 z2 z3
        · have z3 : x.i 7 = 0 := by omega
          have e : prT (mkL x 0 (kdsP [.val (.ag kd1), .val (.ag kd2), .val (.sc (.flt .f32)), .val (.sc (.flt .f32))])) = prZ2310 (mkL x 0 (kdsP [.val (.ag kd1), .val (.ag kd2), .val (.sc (.flt .f32)), .val (.sc (.flt .f32))])) := by
            unfold prT
            have y0 : intOf (leafN (mkL x 0 (kdsP [.val (.ag kd1), .val (.ag kd2), .val (.sc (.flt .f32)), .val (.sc (.flt .f32))])) 4) = 2 := z0
            have y1 : intOf (leafN (mkL x 0 (kdsP [.val (.ag kd1), .val (.ag kd2), .val (.sc (.flt .f32)), .val (.sc (.flt .f32))])) 5) = 3 := z1
            have y2 : intOf (leafN (mkL x 0 (kdsP [.val (.ag kd1), .val (.ag kd2), .val (.sc (.flt .f32)), .val (.sc (.flt .f32))])) 6) = 1 := z2
            have y3 : intOf (leafN (mkL x 0 (kdsP [.val (.ag kd1), .val (.ag kd2), .val (.sc (.flt .f32)), .val (.sc (.flt .f32))])) 7) = 0 := z3
            rw [y0, y1, y2]
            rfl
          rw [e]
          exact pr_o9_2310 x hF z0 z1 z2 z3
    · have c1 : x.i 5 = 0 ∨ x.i 5 = 1 ∨ x.i 5 = 2 := by omega
      rcases c1 with z1 | z1 | z1
      · have c2 : x.i 6 = 1 ∨ x.i 6 = 2 := by omega
        rcases c2 with z2 | z2
        · have z3 : x.i 7 = 2 := by omega
          have e : prT (mkL x 0 (kdsP [.val (.ag kd1), .val (.ag kd2), .val (.sc (.flt .f32)), .val (.sc (.flt .f32))])) = prZ3012 (mkL x 0 (kdsP [.val (.ag kd1), .val (.ag kd2), .val (.sc (.flt .f32)), .val (.sc (.flt .f32))])) := by
            unfold prT
            have y0 : intOf (leafN (mkL x 0 (kdsP [.val (.ag kd1), .val (.ag kd2), .val (.sc (.flt .f32)), .val (.sc (.flt .f32))])) 4) = 3 := z0
            have y1 : intOf (leafN (mkL x 0 (kdsP [.val (.ag kd1), .val (.ag kd2), .val (.sc (.flt .f32)), .val (.sc (.flt .f32))])) 5) = 0 := z1
            have y2 : intOf (leafN (mkL x 0 (kdsP [.val (.ag kd1), .val (.ag kd2), .val (.sc (.flt .f32)), .val (.sc (.flt .f32))])) 6) = 1 := z2
            have y3 : intOf (leafN (mkL x 0 (kdsP [.val (.ag kd1), .val (.ag kd2), .val (.sc (.flt .f32)), .val (.sc (.flt .f32))])) 7) = 2 := z3
            rw [y0, y1, y2]
            rfl
          rw [e]
          exact pr_o9_3012 x hF z0 z1 z2 z3
        · have z3 : x.i 7 = 1 := by omega
          have e : prT (mkL x 0 (kdsP [.val (.ag kd1), .val (.ag kd2), .val (.sc (.flt .f32)), .val (.sc (.flt .f32))])) = prZ3021 (mkL x 0 (kdsP [.val (.ag kd1), .val (.ag kd2), .val (.sc (.flt .f32)), .val (.sc (.flt .f32))])) := by
            unfold prT
            have y0 : intOf (leafN (mkL x 0 (kdsP [.val (.ag kd1), .val (.ag kd2), .val (.sc (.flt .f32)), .val (.sc (.flt .f32))])) 4) = 3 := z0
            have y1 : intOf (leafN (mkL x 0 (kdsP [.val (.ag kd1), .val (.ag kd2), .val (.sc (.flt .f32)), .val (.sc (.flt .f32))])) 5) = 0 := z1
            have y2 : intOf (leafN (mkL x 0 (kdsP [.val (.ag kd1), .val (.ag kd2), .val (.sc (.flt .f32)), .val (.sc (.flt .f32))])) 6) = 2 := z2
            have y3 : intOf (leafN (mkL x 0 (kdsP [.val (.ag kd1), .val (.ag kd2), .val (.sc (.flt .f32)), .val (.sc (.flt .f32))])) 7) = 1 := z3
            rw [y0, y1, y2]
            rfl
          rw [e]
          exact pr_o9_3021 x hF z0 z1 z2 z3
      · have c2 : x.i 6 = 0 ∨ x.i 6 = 2 := by omega
        rcases c2 with z2 | z2
        · have z3 : x.i 7 = 2 := by omega
          have e : prT (mkL x 0 (kdsP [.val (.ag kd1), .val (.ag kd2), .val (.sc (.flt .f32)), .val (.sc (.flt .f32))])) = prZ3102 (mkL x 0 (kdsP [.val (.ag kd1), .val (.ag kd2), .val (.sc (.flt .f32)), .val (.sc (.flt .f32))])) := by
            unfold prT
            have y0 : intOf (leafN (mkL x 0 (kdsP [.val (.ag kd1), .val (.ag kd2), .val (.sc (.flt .f32)), .val (.sc (.flt .f32))])) 4) = 3 := z0
            have y1 : intOf (leafN (mkL x 0 (kdsP [.val (.ag kd1), .val (.ag kd2), .val (.sc (.flt .f32)), .val (.sc (.flt .f32))])) 5) = 1 := z1
            have y2 : intOf (leafN (mkL x 0 (kdsP [.val (.ag kd1), .val (.ag kd2), .val (.sc (.flt .f32)), .val (.sc (.flt .f32))])) 6) = 0 := z2
            have y3 : intOf (leafN (mkL x 0 (kdsP [.val (.ag kd1), .val (.ag kd2), .val (.sc (.flt .f32)), .val (.sc (.flt .f32))])) 7) = 2 := z3
            rw [y0, y1, y2]
            rfl
          rw [e]
          exact pr_o9_3102 x hF z0 z1 z2 z3
        · have z3 : x.i 7 = 0 := by omega
          have e : prT (mkL x 0 (kdsP [.val (.ag kd1), .val (.ag kd2), .val (.sc (.flt .f32)), .val (.sc (.flt .f32))])) = prZ3120 (mkL x 0 (kdsP [.val (.ag kd1), .val (.ag kd2), .val (.sc (.flt .f32)), .val (.sc (.flt .f32))])) := by
            unfold prT
            have y0 : intOf (leafN (mkL x 0 (kdsP [.val (.ag kd1), .val (.ag kd2), .val (.sc (.flt .f32)), .val (.sc (.flt .f32))])) 4) = 3 := z0
            have y1 : intOf (leafN (mkL x 0 (kdsP [.val (.ag kd1), .val (.ag kd2), .val (.sc (.flt .f32)), .val (.sc (.flt .f32))])) 5) = 1 := z1
            have y2 : intOf (leafN (mkL x 0 (kdsP [.val (.ag kd1), .val (.ag kd2), .val (.sc (.flt .f32)), .val (.sc (.flt .f32))])) 6) = 2 := z2
            have y3 : intOf (leafN (mkL x 0 (kdsP [.val (.ag kd1), .val (.ag kd2), .val (.sc (.flt .f32)), .val (.sc (.flt .f32))])) 7) = 0 := z3
            rw [y0, y1, y2]
            rfl
          rw [e]
          exact pr_o9_3120 x hF z0 z1 z2 z3
      · have c2 : x.i 6 = 0 ∨ x.i 6 = 1 := by omega
        rcases c2 with z2 | z2
        · have z3 : x.i 7 = 1 := by omega
          have e : prT (mkL x 0 (kdsP [.val (.ag kd1), .val (.ag kd2), .val (.sc (.flt .f32)), .val (.sc (.flt .f32))])) = prZ3201 (mkL x 0 (kdsP [.val (.ag kd1), .val (.ag kd2), .val (.sc (.flt .f32)), .val (.sc (.flt .f32))])) := by
            unfold prT
            have y0 : intOf (leafN (mkL x 0 (kdsP [.val (.ag kd1), .val (.ag kd2), .val (.sc (.flt .f32)), .val (.sc (.flt .f32))])) 4) = 3 := z0
            have y1 : intOf (leafN (mkL x 0 (kdsP [.val (.ag kd1), .val (.ag kd2), .val (.sc (.flt .f32)), .val (.sc (.flt .f32))])) 5) = 2 := z1
            have y2 : intOf (leafN (mkL x 0 (kdsP [.val (.ag kd1), .val (.ag kd2), .val (.sc (.flt .f32)), .val (.sc (.flt .f32))])) 6) = 0 := z2
            have y3 : intOf (leafN (mkL x 0 (kdsP [.val (.ag kd1), .val (.ag kd2), .val (.sc (.flt .f32)), .val (.sc (.flt .f32))])) 7) = 1 := z3
            rw [y0, y1, y2]
            rfl
          rw [e]
          exact pr_o9_3201 x hF z0 z1 z2 z3
        · have z3 : x.i 7 = 0 := by omega
          have e : prT (mkL x 0 (kdsP [.val (.ag kd1), .val (.ag kd2), .val (.sc (.flt .f32)), .val (.sc (.flt .f32))])) = prZ3210 (mkL x 0 (kdsP [.val (.ag kd1), .val (.ag kd2), .val (.sc (.flt .f32)), .val (.sc (.flt .f32))])) := by
            unfold prT
            have y0 : intOf (leafN (mkL x 0 (kdsP [.val (.ag kd1), .val (.ag kd2), .val (.sc (.flt .f32)), .val (.sc (.flt .f32))])) 4) = 3 := z0
            have y1 : intOf (leafN (mkL x 0 (kdsP [.val (.ag kd1), .val (.ag kd2), .val (.sc (.flt .f32)), .val (.sc (.flt .f32))])) 5) = 2 := z1
            have y2 : intOf (leafN (mkL x 0 (kdsP [.val (.ag kd1), .val (.ag kd2), .val (.sc (.flt .f32)), .val (.sc (.flt .f32))])) 6) = 1 := z2
            have y3 : intOf (leafN (mkL x 0 (kdsP [.val (.ag kd1), .val (.ag kd2), .val (.sc (.flt .f32)), .val (.sc (.flt .f32))])) 7) = 0 := z3
            rw [y0, y1, y2]
            rfl
          rw [e]
          exact pr_o9_3210 x hF z0 z1 z2 z3

set_option maxRecDepth 100000 in
theorem pr_ev12 (x : Vars) : EvP Try.prog G8 12 prP [.ag kd1, .sc (.int .i64)] (mkL x 0 (kdsP [.val (.ag kd1), .val (.ag kd2), .val (.sc (.flt .f32)), .val (.sc (.flt .f32))])) (prR0 (mkL x 0 (kdsP [.val (.ag kd1), .val (.ag kd2), .val (.sc (.flt .f32)), .val (.sc (.flt .f32))]))) := by
  rw [pr_r]
  cases h : (prF x && prQ x) with
  | false => exact pr_bad12 x h
  | true =>
    obtain ⟨hF, hQ⟩ := Bool.and_eq_true_iff.1 h
    have q := of_decide_eq_true hQ
    show EvP Try.prog G8 12 prP [.ag kd1, .sc (.int .i64)] (mkL x 0 (kdsP [.val (.ag kd1), .val (.ag kd2), .val (.sc (.flt .f32)), .val (.sc (.flt .f32))])) (prT (mkL x 0 (kdsP [.val (.ag kd1), .val (.ag kd2), .val (.sc (.flt .f32)), .val (.sc (.flt .f32))])))
    have c0 : x.i 4 = 0 ∨ x.i 4 = 1 ∨ x.i 4 = 2 ∨ x.i 4 = 3 := by omega
    rcases c0 with z0 | z0 | z0 | z0
    · have c1 : x.i 5 = 1 ∨ x.i 5 = 2 ∨ x.i 5 = 3 := by omega
      rcases c1 with z1 | z1 | z1
      · have c2 : x.i 6 = 2 ∨ x.i 6 = 3 := by omega
        rcases c2 with z2 | z2
        · have z3 : x.i 7 = 3 := by omega
          have e : prT (mkL x 0 (kdsP [.val (.ag kd1), .val (.ag kd2), .val (.sc (.flt .f32)), .val (.sc (.flt .f32))])) = prZ0123 (mkL x 0 (kdsP [.val (.ag kd1), .val (.ag kd2), .val (.sc (.flt .f32)), .val (.sc (.flt .f32))])) := by
            unfold prT
            have y0 : intOf (leafN (mkL x 0 (kdsP [.val (.ag kd1), .val (.ag kd2), .val (.sc (.flt .f32)), .val (.sc (.flt .f32))])) 4) = 0 := z0
            have y1 : intOf (leafN (mkL x 0 (kdsP [.val (.ag kd1), .val (.ag kd2), .val (.sc (.flt .f32)), .val (.sc (.flt .f32))])) 5) = 1 := z1
            have y2 : intOf (leafN (mkL x 0 (kdsP [.val (.ag kd1), .val (.ag kd2), .val (.sc (.flt .f32)), .val (.sc (.flt .f32))])) 6) = 2 := z2
            have y3 : intOf (leafN (mkL x 0 (kdsP [.val (.ag kd1), .val (.ag kd2), .val (.sc (.flt .f32)), .val (.sc (.flt .f32))])) 7) = 3 := z3
            rw [y0, y1, y2]
            rfl
          rw [e]
          exact pr_o12_0123 x hF z0 z1 z2 z3
        · have z3 : x.i 7 = 2 := by omega
          have e : prT (mkL x 0 (kdsP [.val (.ag kd1), .val (.ag kd2), .val (.sc (.flt .f32)), .val (.sc (.flt .f32))])) = prZ0132 (mkL x 0 (kdsP [.val (.ag kd1), .val (.ag kd2), .val (.sc (.flt .f32)), .val (.sc (.flt .f32))])) := by
            unfold prT
            have y0 : intOf (leafN (mkL x 0 (kdsP [.val (.ag kd1), .val (.ag kd2), .val (.sc (.flt .f32)), .val (.sc (.flt .f32))])) 4) = 0 := z0
            have y1 : intOf (leafN (mkL x 0 (kdsP [.val (.ag kd1), .val (.ag kd2), .val (.sc (.flt .f32)), .val (.sc (.flt .f32))])) 5) = 1 := z1
            have y2 : intOf (leafN (mkL x 0 (kdsP [.val (.ag kd1), .val (.ag kd2), .val (.sc (.flt .f32)), .val (.sc (.flt .f32))])) 6) = 3 := z2
            have y3 : intOf (leafN (mkL x 0 (kdsP [.val (.ag kd1), .val (.ag kd2), .val (.sc (.flt .f32)), .val (.sc (.flt .f32))])) 7) = 2 := z3
            rw [y0, y1, y2]
            rfl
          rw [e]
          exact pr_o12_0132 x hF z0 z1 z2 z3
      · have c2 : x.i 6 = 1 ∨ x.i 6 = 3 := by omega
        rcases c2 with z2 | z2
        · have z3 : x.i 7 = 3 := by omega
          have e : prT (mkL x 0 (kdsP [.val (.ag kd1), .val (.ag kd2), .val (.sc (.flt .f32)), .val (.sc (.flt .f32))])) = prZ0213 (mkL x 0 (kdsP [.val (.ag kd1), .val (.ag kd2), .val (.sc (.flt .f32)), .val (.sc (.flt .f32))])) := by
            unfold prT
            have y0 : intOf (leafN (mkL x 0 (kdsP [.val (.ag kd1), .val (.ag kd2), .val (.sc (.flt .f32)), .val (.sc (.flt .f32))])) 4) = 0 := z0
            have y1 : intOf (leafN (mkL x 0 (kdsP [.val (.ag kd1), .val (.ag kd2), .val (.sc (.flt .f32)), .val (.sc (.flt .f32))])) 5) = 2 := z1
            have y2 : intOf (leafN (mkL x 0 (kdsP [.val (.ag kd1), .val (.ag kd2), .val (.sc (.flt .f32)), .val (.sc (.flt .f32))])) 6) = 1 := z2
            have y3 : intOf (leafN (mkL x 0 (kdsP [.val (.ag kd1), .val (.ag kd2), .val (.sc (.flt .f32)), .val (.sc (.flt .f32))])) 7) = 3 := z3
            rw [y0, y1, y2]
            rfl
          rw [e]
          exact pr_o12_0213 x hF z0 z1 z2 z3
        · have z3 : x.i 7 = 1 := by omega
          have e : prT (mkL x 0 (kdsP [.val (.ag kd1), .val (.ag kd2), .val (.sc (.flt .f32)), .val (.sc (.flt .f32))])) = prZ0231 (mkL x 0 (kdsP [.val (.ag kd1), .val (.ag kd2), .val (.sc (.flt .f32)), .val (.sc (.flt .f32))])) := by
            unfold prT
            have y0 : intOf (leafN (mkL x 0 (kdsP [.val (.ag kd1), .val (.ag kd2), .val (.sc (.flt .f32)), .val (.sc (.flt .f32))])) 4) = 0 := z0
            have y1 : intOf (leafN (mkL x 0 (kdsP [.val (.ag kd1), .val (.ag kd2), .val (.sc (.flt .f32)), .val (.sc (.flt .f32))])) 5) = 2 := z1
            have y2 : intOf (leafN (mkL x 0 (kdsP [.val (.ag kd1), .val (.ag kd2), .val (.sc (.flt .f32)), .val (.sc (.flt .f32))])) 6) = 3 := z2
            have y3 : intOf (leafN (mkL x 0 (kdsP [.val (.ag kd1), .val (.ag kd2), .val (.sc (.flt .f32)), .val (.sc (.flt .f32))])) 7) = 1 := z3
            rw [y0, y1, y2]
            rfl
          rw [e]
          exact pr_o12_0231 x hF z0 z1 z2 z3
      · have c2 : x.i 6 = 1 ∨ x.i 6 = 2 := by omega
        rcases c2 with z2 | z2
        · have z3 : x.i 7 = 2 := by omega
          have e : prT (mkL x 0 (kdsP [.val (.ag kd1), .val (.ag kd2), .val (.sc (.flt .f32)), .val (.sc (.flt .f32))])) = prZ0312 (mkL x 0 (kdsP [.val (.ag kd1), .val (.ag kd2), .val (.sc (.flt .f32)), .val (.sc (.flt .f32))])) := by
            unfold prT
            have y0 : intOf (leafN (mkL x 0 (kdsP [.val (.ag kd1), .val (.ag kd2), .val (.sc (.flt .f32)), .val (.sc (.flt .f32))])) 4) = 0 := z0
            have y1 : intOf (leafN (mkL x 0 (kdsP [.val (.ag kd1), .val (.ag kd2), .val (.sc (.flt .f32)), .val (.sc (.flt .f32))])) 5) = 3 := z1
            have y2 : intOf (leafN (mkL x 0 (kdsP [.val (.ag kd1), .val (.ag kd2), .val (.sc (.flt .f32)), .val (.sc (.flt .f32))])) 6) = 1 := z2
            have y3 : intOf (leafN (mkL x 0 (kdsP [.val (.ag kd1), .val (.ag kd2), .val (.sc (.flt .f32)), .val (.sc (.flt .f32))])) 7) = 2 := z3
            rw [y0, y1, y2]
            rfl
          rw [e]
          exact pr_o12_0312 x hF z0 z1 z2 z3
        · have z3 : x.i 7 = 1 := by omega
          have e : prT (mkL x 0 (kdsP [.val (.ag kd1), .val (.ag kd2), .val (.sc (.flt .f32)), .val (.sc (.flt .f32))])) = prZ0321 (mkL x 0 (kdsP [.val (.ag kd1), .val (.ag kd2), .val (.sc (.flt .f32)), .val (.sc (.flt .f32))])) := by
            unfold prT
            have y0 : intOf (leafN (mkL x 0 (kdsP [.val (.ag kd1), .val (.ag kd2), .val (.sc (.flt .f32)), .val (.sc (.flt .f32))])) 4) = 0 := z0
            have y1 : intOf (leafN (mkL x 0 (kdsP [.val (.ag kd1), .val (.ag kd2), .val (.sc (.flt .f32)), .val (.sc (.flt .f32))])) 5) = 3 := z1
            have y2 : intOf (leafN (mkL x 0 (kdsP [.val (.ag kd1), .val (.ag kd2), .val (.sc (.flt .f32)), .val (.sc (.flt .f32))])) 6) = 2 := z2
            have y3 : intOf (leafN (mkL x 0 (kdsP [.val (.ag kd1), .val (.ag kd2), .val (.sc (.flt .f32)), .val (.sc (.flt .f32))])) 7) = 1 := z3
            rw [y0, y1, y2]
            rfl
          rw [e]
          exact pr_o12_0321 x hF z0 z1 z2 z3
    · have c1 : x.i 5 = 0 ∨ x.i 5 = 2 ∨ x.i 5 = 3 := by omega
      rcases c1 with z1 | z1 | z1
      · have c2 : x.i 6 = 2 ∨ x.i 6 = 3 := by omega
        rcases c2 with z2 | z2
        · have z3 : x.i 7 = 3 := by omega
          have e : prT (mkL x 0 (kdsP [.val (.ag kd1), .val (.ag kd2), .val (.sc (.flt .f32)), .val (.sc (.flt .f32))])) = prZ1023 (mkL x 0 (kdsP [.val (.ag kd1), .val (.ag kd2), .val (.sc (.flt .f32)), .val (.sc (.flt .f32))])) := by
            unfold prT
            have y0 : intOf (leafN (mkL x 0 (kdsP [.val (.ag kd1), .val (.ag kd2), .val (.sc (.flt .f32)), .val (.sc (.flt .f32))])) 4) = 1 := z0
            have y1 : intOf (leafN (mkL x 0 (kdsP [.val (.ag kd1), .val (.ag kd2), .val (.sc (.flt .f32)), .val (.sc (.flt .f32))])) 5) = 0 := z1
            have y2 : intOf (leafN (mkL x 0 (kdsP [.val (.ag kd1), .val (.ag kd2), .val (.sc (.flt .f32)), .val (.sc (.flt .f32))])) 6) = 2 := z2
            have y3 : intOf (leafN (mkL x 0 (kdsP [.val (.ag kd1), .val (.ag kd2), .val (.sc (.flt .f32)), .val (.sc (.flt .f32))])) 7) = 3 := z3
            rw [y0, y1, y2]
            rfl
          rw [e]
          exact pr_o12_1023 x hF z0 z1 z2 z3
        · have z3 : x.i 7 = 2 := by omega
          have e : prT (mkL x 0 (kdsP [.val (.ag kd1), .val (.ag kd2), .val (.sc (.flt .f32)), .val (.sc (.flt .f32))])) = prZ1032 (mkL x 0 (kdsP [.val (.ag kd1), .val (.ag kd2), .val (.sc (.flt .f32)), .val (.sc (.flt .f32))])) := by
            unfold prT
            have y0 : intOf (leafN (mkL x 0 (kdsP [.val (.ag kd1), .val (.ag kd2), .val (.sc (.flt .f32)), .val (.sc (.flt .f32))])) 4) = 1 := z0
            have y1 : intOf (leafN (mkL x 0 (kdsP [.val (.ag kd1), .val (.ag kd2), .val (.sc (.flt .f32)), .val (.sc (.flt .f32))])) 5) = 0 := z1
            have y2 : intOf (leafN (mkL x 0 (kdsP [.val (.ag kd1), .val (.ag kd2), .val (.sc (.flt .f32)), .val (.sc (.flt .f32))])) 6) = 3 := z2
            have y3 : intOf (leafN (mkL x 0 (kdsP [.val (.ag kd1), .val (.ag kd2), .val (.sc (.flt .f32)), .val (.sc (.flt .f32))])) 7) = 2 := z3
            rw [y0, y1, y2]
            rfl
          rw [e]
          exact pr_o12_1032 x hF z0 z1 z2 z3
      · have c2 : x.i 6 = 0 ∨ x.i 6 = 3 := by omega
        rcases c2 with z2 | z2
        · have z3 : x.i 7 = 3 := by omega
          have e : prT (mkL x 0 (kdsP [.val (.ag kd1), .val (.ag kd2), .val (.sc (.flt .f32)), .val (.sc (.flt .f32))])) = prZ1203 (mkL x 0 (kdsP [.val (.ag kd1), .val (.ag kd2), .val (.sc (.flt .f32)), .val (.sc (.flt .f32))])) := by
            unfold prT
            have y0 : intOf (leafN (mkL x 0 (kdsP [.val (.ag kd1), .val (.ag kd2), .val (.sc (.flt .f32)), .val (.sc (.flt .f32))])) 4) = 1 := z0
            have y1 : intOf (leafN (mkL x 0 (kdsP [.val (.ag kd1), .val (.ag kd2), .val (.sc (.flt .f32)), .val (.sc (.flt .f32))])) 5) = 2 := z1
            have y2 : intOf (leafN (mkL x 0 (kdsP [.val (.ag kd1), .val (.ag kd2), .val (.sc (.flt .f32)), .val (.sc (.flt .f32))])) 6) = 0 := z2
            have y3 : intOf (leafN (mkL x 0 (kdsP [.val (.ag kd1), .val (.ag kd2), .val (.sc (.flt .f32)), .val (.sc (.flt .f32))])) 7) = 3 := z3
            rw [y0, y1, y2]
            rfl
          rw [e]
          exact pr_o12_1203 x hF z0 z1 z2 z3
        · have z3 : x.i 7 = 0 := by omega
          have e : prT (mkL x 0 (kdsP [.val (.ag kd1), .val (.ag kd2), .val (.sc (.flt .f32)), .val (.sc (.flt .f32))])) = prZ1230 (mkL x 0 (kdsP [.val (.ag kd1), .val (.ag kd2), .val (.sc (.flt .f32)), .val (.sc (.flt .f32))])) := by
            unfold prT
            have y0 : intOf (leafN (mkL x 0 (kdsP [.val (.ag kd1), .val (.ag kd2), .val (.sc (.flt .f32)), .val (.sc (.flt .f32))])) 4) = 1 := z0
            have y1 : intOf (leafN (mkL x 0 (kdsP [.val (.ag kd1), .val (.ag kd2), .val (.sc (.flt .f32)), .val (.sc (.flt .f32))])) 5) = 2 := z1
            have y2 : intOf (leafN (mkL x 0 (kdsP [.val (.ag kd1), .val (.ag kd2), .val (.sc (.flt .f32)), .val (.sc (.flt .f32))])) 6) = 3 := z2
            have y3 : intOf (leafN (mkL x 0 (kdsP [.val (.ag kd1), .val (.ag kd2), .val (.sc (.flt .f32)), .val (.sc (.flt .f32))])) 7) = 0 := z3
            rw [y0, y1, y2]
            rfl
          rw [e]
          exact pr_o12_1230 x hF z0 z1 z2 z3
      · have c2 : x.i 6 = 0 ∨ x.i 6 = 2 := by omega
        rcases c2 with z2 | z2
        · have z3 : x.i 7 = 2 := by omega
          have e : prT (mkL x 0 (kdsP [.val (.ag kd1), .val (.ag kd2), .val (.sc (.flt .f32)), .val (.sc (.flt .f32))])) = prZ1302 (mkL x 0 (kdsP [.val (.ag kd1), .val (.ag kd2), .val (.sc (.flt .f32)), .val (.sc (.flt .f32))])) := by
            unfold prT
            have y0 : intOf (leafN (mkL x 0 (kdsP [.val (.ag kd1), .val (.ag kd2), .val (.sc (.flt .f32)), .val (.sc (.flt .f32))])) 4) = 1 := z0
            have y1 : intOf (leafN (mkL x 0 (kdsP [.val (.ag kd1), .val (.ag kd2), .val (.sc (.flt .f32)), .val (.sc (.flt .f32))])) 5) = 3 := z1
            have y2 : intOf (leafN (mkL x 0 (kdsP [.val (.ag kd1), .val (.ag kd2), .val (.sc (.flt .f32)), .val (.sc (.flt .f32))])) 6) = 0 := z2
            have y3 : intOf (leafN (mkL x 0 (kdsP [.val (.ag kd1), .val (.ag kd2), .val (.sc (.flt .f32)), .val (.sc (.flt .f32))])) 7) = 2 := z3
            rw [y0, y1, y2]
            rfl
          rw [e]
          exact pr_o12_1302 x hF z0 z1 z2 z3
        · have z3 : x.i 7 = 0 := by omega
          have e : prT (mkL x 0 (kdsP [.val (.ag kd1), .val (.ag kd2), .val (.sc (.flt .f32)), .val (.sc (.flt .f32))])) = prZ1320 (mkL x 0 (kdsP [.val (.ag kd1), .val (.ag kd2), .val (.sc (.flt .f32)), .val (.sc (.flt .f32))])) := by
            unfold prT
            have y0 : intOf (leafN (mkL x 0 (kdsP [.val (.ag kd1), .val (.ag kd2), .val (.sc (.flt .f32)), .val (.sc (.flt .f32))])) 4) = 1 := z0
            have y1 : intOf (leafN (mkL x 0 (kdsP [.val (.ag kd1), .val (.ag kd2), .val (.sc (.flt .f32)), .val (.sc (.flt .f32))])) 5) = 3 := z1
            have y2 : intOf (leafN (mkL x 0 (kdsP [.val (.ag kd1), .val (.ag kd2), .val (.sc (.flt .f32)), .val (.sc (.flt .f32))])) 6) = 2 := z2
            have y3 : intOf (leafN (mkL x 0 (kdsP [.val (.ag kd1), .val (.ag kd2), .val (.sc (.flt .f32)), .val (.sc (.flt .f32))])) 7) = 0 := z3
            rw [y0, y1, y2]
            rfl
          rw [e]
          exact pr_o12_1320 x hF z0 z1 z2 z3
    · have c1 : x.i 5 = 0 ∨ x.i 5 = 1 ∨ x.i 5 = 3 := by omega
      rcases c1 with z1 | z1 | z1
      · have c2 : x.i 6 = 1 ∨ x.i 6 = 3 := by omega
        rcases c2 with z2 | z2
        · have z3 : x.i 7 = 3 := by omega
          have e : prT (mkL x 0 (kdsP [.val (.ag kd1), .val (.ag kd2), .val (.sc (.flt .f32)), .val (.sc (.flt .f32))])) = prZ2013 (mkL x 0 (kdsP [.val (.ag kd1), .val (.ag kd2), .val (.sc (.flt .f32)), .val (.sc (.flt .f32))])) := by
            unfold prT
            have y0 : intOf (leafN (mkL x 0 (kdsP [.val (.ag kd1), .val (.ag kd2), .val (.sc (.flt .f32)), .val (.sc (.flt .f32))])) 4) = 2 := z0
            have y1 : intOf (leafN (mkL x 0 (kdsP [.val (.ag kd1), .val (.ag kd2), .val (.sc (.flt .f32)), .val (.sc (.flt .f32))])) 5) = 0 := z1
            have y2 : intOf (leafN (mkL x 0 (kdsP [.val (.ag kd1), .val (.ag kd2), .val (.sc (.flt .f32)), .val (.sc (.flt .f32))])) 6) = 1 := z2
            have y3 : intOf (leafN (mkL x 0 (kdsP [.val (.ag kd1), .val (.ag kd2), .val (.sc (.flt .f32)), .val (.sc (.flt .f32))])) 7) = 3 := z3
            rw [y0, y1, y2]
            rfl
          rw [e]
          exact pr_o12_2013 x hF z0 z1 z2 z3
        · have z3 : x.i 7 = 1 := by omega
          have e : prT (mkL x 0 (kdsP [.val (.ag kd1), .val (.ag kd2), .val (.sc (.flt .f32)), .val (.sc (.flt .f32))])) = prZ2031 (mkL x 0 (kdsP [.val (.ag kd1), .val (.ag kd2), .val (.sc (.flt .f32)), .val (.sc (.flt .f32))])) := by
            unfold prT
            have y0 : intOf (leafN (mkL x 0 (kdsP [.val (.ag kd1), .val (.ag kd2), .val (.sc (.flt .f32)), .val (.sc (.flt .f32))])) 4) = 2 := z0
            have y1 : intOf (leafN (mkL x 0 (kdsP [.val (.ag kd1), .val (.ag kd2), .val (.sc (.flt .f32)), .val (.sc (.flt .f32))])) 5) = 0 := z1
            have y2 : intOf (leafN (mkL x 0 (kdsP [.val (.ag kd1), .val (.ag kd2), .val (.sc (.flt .f32)), .val (.sc (.flt .f32))])) 6) = 3 := z2
            have y3 : intOf (leafN (mkL x 0 (kdsP [.val (.ag kd1), .val (.ag kd2), .val (.sc (.flt .f32)), .val (.sc (.flt .f32))])) 7) = 1 := z3
            rw [y0, y1, y2]
            rfl
          rw [e]
          exact pr_o12_2031 x hF z0 z1 z2 z3
      · have c2 : x.i 6 = 0 ∨ x.i 6 = 3 := by omega
        rcases c2 with z2 | z2
        · have z3 : x.i 7 = 3 := by omega
          have e : prT (mkL x 0 (kdsP [.val (.ag kd1), .val (.ag kd2), .val (.sc (.flt .f32)), .val (.sc (.flt .f32))])) = prZ2103 (mkL x 0 (kdsP [.val (.ag kd1), .val (.ag kd2), .val (.sc (.flt .f32)), .val (.sc (.flt .f32))])) := by
            unfold prT
            have y0 : intOf (leafN (mkL x 0 (kdsP [.val (.ag kd1), .val (.ag kd2), .val (.sc (.flt .f32)), .val (.sc (.flt .f32))])) 4) = 2 := z0
            have y1 : intOf (leafN (mkL x 0 (kdsP [.val (.ag kd1), .val (.ag kd2), .val (.sc (.flt .f32)), .val (.sc (.flt .f32))])) 5) = 1 := z1
            have y2 : intOf (leafN (mkL x 0 (kdsP [.val (.ag kd1), .val (.ag kd2), .val (.sc (.flt .f32)), .val (.sc (.flt .f32))])) 6) = 0 := z2
            have y3 : intOf (leafN (mkL x 0 (kdsP [.val (.ag kd1), .val (.ag kd2), .val (.sc (.flt .f32)), .val (.sc (.flt .f32))])) 7) = 3 := z3
            rw [y0, y1, y2]
            rfl
          rw [e]
          exact pr_o12_2103 x hF z0 z1 z2 z3
        · have z3 : x.i 7 = 0 := by omega
          have e : prT (mkL x 0 (kdsP [.val (.ag kd1), .val (.ag kd2), .val (.sc (.flt .f32)), .val (.sc (.flt .f32))])) = prZ2130 (mkL x 0 (kdsP [.val (.ag kd1), .val (.ag kd2), .val (.sc (.flt .f32)), .val (.sc (.flt .f32))])) := by
            unfold prT
            have y0 : intOf (leafN (mkL x 0 (kdsP [.val (.ag kd1), .val (.ag kd2), .val (.sc (.flt .f32)), .val (.sc (.flt .f32))])) 4) = 2 := z0
            have y1 : intOf (leafN (mkL x 0 (kdsP [.val (.ag kd1), .val (.ag kd2), .val (.sc (.flt .f32)), .val (.sc (.flt .f32))])) 5) = 1 := z1
            have y2 : intOf (leafN (mkL x 0 (kdsP [.val (.ag kd1), .val (.ag kd2), .val (.sc (.flt .f32)), .val (.sc (.flt .f32))])) 6) = 3 := z2
            have y3 : intOf (leafN (mkL x 0 (kdsP [.val (.ag kd1), .val (.ag kd2), .val (.sc (.flt .f32)), .val (.sc (.flt .f32))])) 7) = 0 := z3
            rw [y0, y1, y2]
            rfl
          rw [e]
          exact pr_o12_2130 x hF z0 z1 z2 z3
      · have c2 : x.i 6 = 0 ∨ x.i 6 = 1 := by omega
        rcases c2 with z2 | z2
        · have z3 : x.i 7 = 1 := by omega
          have e : prT (mkL x 0 (kdsP [.val (.ag kd1), .val (.ag kd2), .val (.sc (.flt .f32)), .val (.sc (.flt .f32))])) = prZ2301 (mkL x 0 (kdsP [.val (.ag kd1), .val (.ag kd2), .val (.sc (.flt .f32)), .val (.sc (.flt .f32))])) := by
            unfold prT
            have y0 : intOf (leafN (mkL x 0 (kdsP [.val (.ag kd1), .val (.ag kd2), .val (.sc (.flt .f32)), .val (.sc (.flt .f32))])) 4) = 2 := z0
            have y1 : intOf (leafN (mkL x 0 (kdsP [.val (.ag kd1), .val (.ag kd2), .val (.sc (.flt .f32)), .val (.sc (.flt .f32))])) 5) = 3 := z1
            have y2 : intOf (leafN (mkL x 0 (kdsP [.val (.ag kd1), .val (.ag kd2), .val (.sc (.flt .f32)), .val (.sc (.flt .f32))])) 6) = 0 := z2
            have y3 : intOf (leafN (mkL x 0 (kdsP [.val (.ag kd1), .val (.ag kd2), .val (.sc (.flt .f32)), .val (.sc (.flt .f32))])) 7) = 1 := z3
            rw [y0, y1, y2]
            rfl
          rw [e]
          exact pr_o12_2301 x hF z0 z1 z2 z3
        · have z3 : x.i 7 = 0 := by omega
          have e : prT (mkL x 0 (kdsP [.val (.ag kd1), .val (.ag kd2), .val (.sc (.flt .f32)), .val (.sc (.flt .f32))])) = prZ2310 (mkL x 0 (kdsP [.val (.ag kd1), .val (.ag kd2), .val (.sc (.flt .f32)), .val (.sc (.flt .f32))])) := by
            unfold prT
            have y0 : intOf (leafN (mkL x 0 (kdsP [.val (.ag kd1), .val (.ag kd2), .val (.sc (.flt .f32)), .val (.sc (.flt .f32))])) 4) = 2 := z0
            have y1 : intOf (leafN (mkL x 0 (kdsP [.val (.ag kd1), .val (.ag kd2), .val (.sc (.flt .f32)), .val (.sc (.flt .f32))])) 5) = 3 := z1
            have y2 : intOf (leafN (mkL x 0 (kdsP [.val (.ag kd1), .val (.ag kd2), .val (.sc (.flt .f32)), .val (.sc (.flt .f32))])) 6) = 1 := z2
            have y3 : intOf (leafN (mkL x 0 (kdsP [.val (.ag kd1), .val (.ag kd2), .val (.sc (.flt .f32)), .val (.sc (.flt .f32))])) 7) = 0 := z3
            rw [y0, y1, y2]
            rfl
          rw [e]
          exact pr_o12_2310 x hF z0 z1 z2 z3
    · have c1 : x.i 5 = 0 ∨ x.i 5 = 1 ∨ x.i 5 = 2 := by omega
      rcases c1 with z1 | z1 | z1
      · have c2 : x.i 6 = 1 ∨ x.i 6 = 2 := by omega
        rcases c2 with z2 | z2
        · have z3 : x.i 7 = 2 := by omega
          have e : prT (mkL x 0 (kdsP [.val (.ag kd1), .val (.ag kd2), .val (.sc (.flt .f32)), .val (.sc (.flt .f32))])) = prZ3012 (mkL x 0 (kdsP [.val (.ag kd1), .val (.ag kd2), .val (.sc (.flt .f32)), .val (.sc (.flt .f32))])) := by
            unfold prT
            have y0 : intOf (leafN (mkL x 0 (kdsP [.val (.ag kd1), .val (.ag kd2), .val (.sc (.flt .f32)), .val (.sc (.flt .f32))])) 4) = 3 := z0
            have y1 : intOf (leafN (mkL x 0 (kdsP [.val (.ag kd1), .val (.ag kd2), .val (.sc (.flt .f32)), .val (.sc (.flt .f32))])) 5) = 0 := z1
            have y2 : intOf (leafN (mkL x 0 (kdsP [.val (.ag kd1), .val (.ag kd2), .val (.sc (.flt .f32)), .val (.sc (.flt .f32))])) 6) = 1 := z2
            have y3 : intOf (leafN (mkL x 0 (kdsP [.val (.ag kd1), .val (.ag kd2), .val (.sc (.flt .f32)), .val (.sc (.flt .f32))])) 7) = 2 := z3
            rw [y0, y1, y2]
            rfl
          rw [e]
          exact pr_o12_3012 x hF z0 z1 z2 z3
        · have z3 : x.i 7 = 1 := by omega
          have e : prT (mkL x 0 (kdsP [.val (.ag kd1), .val (.ag kd2), .val (.sc (.flt .f32)), .val (.sc (.flt .f32))])) = prZ3021 (mkL x 0 (kdsP [.val (.ag kd1), .val (.ag kd2), .val (.sc (.flt .f32)), .val (.sc (.flt .f32))])) := by
            unfold prT
            have y0 : intOf (leafN (mkL x 0 (kdsP [.val (.ag kd1), .val (.ag kd2), .val (.sc (.flt .f32)), .val (.sc (.flt .f32))])) 4) = 3 := z0
            have y1 : intOf (leafN (mkL x 0 (kdsP [.val (.ag kd1), .val (.ag kd2), .val (.sc (.flt .f32)), .val (.sc (.flt .f32))])) 5) = 0 := z1
            have y2 : intOf (leafN (mkL x 0 (kdsP [.val (.ag kd1), .val (.ag kd2), .val (.sc (.flt .f32)), .val (.sc (.flt .f32))])) 6) = 2 := z2
            have y3 : intOf (leafN (mkL x 0 (kdsP [.val (.ag kd1), .val (.ag kd2), .val (.sc (.flt .f32)), .val (.sc (.flt .f32))])) 7) = 1 := z3
            rw [y0, y1, y2]
            rfl
          rw [e]
          exact pr_o12_3021 x hF z0 z1 z2 z3
      · have c2 : x.i 6 = 0 ∨ x.i 6 = 2 := by omega
        rcases c2 with z2 | z2
        · have z3 : x.i 7 = 2 := by omega
          have e : prT (mkL x 0 (kdsP [.val (.ag kd1), .val (.ag kd2), .val (.sc (.flt .f32)), .val (.sc (.flt .f32))])) = prZ3102 (mkL x 0 (kdsP [.val (.ag kd1), .val (.ag kd2), .val (.sc (.flt .f32)), .val (.sc (.flt .f32))])) := by
            unfold prT
            have y0 : intOf (leafN (mkL x 0 (kdsP [.val (.ag kd1), .val (.ag kd2), .val (.sc (.flt .f32)), .val (.sc (.flt .f32))])) 4) = 3 := z0
            have y1 : intOf (leafN (mkL x 0 (kdsP [.val (.ag kd1), .val (.ag kd2), .val (.sc (.flt .f32)), .val (.sc (.flt .f32))])) 5) = 1 := z1
            have y2 : intOf (leafN (mkL x 0 (kdsP [.val (.ag kd1), .val (.ag kd2), .val (.sc (.flt .f32)), .val (.sc (.flt .f32))])) 6) = 0 := z2
            have y3 : intOf (leafN (mkL x 0 (kdsP [.val (.ag kd1), .val (.ag kd2), .val (.sc (.flt .f32)), .val (.sc (.flt .f32))])) 7) = 2 := z3
            rw [y0, y1, y2]
            rfl
          rw [e]
          exact pr_o12_3102 x hF z0 z1 z2 z3
        · have z3 : x.i 7 = 0 := by omega
          have e : prT (mkL x 0 (kdsP [.val (.ag kd1), .val (.ag kd2), .val (.sc (.flt .f32)), .val (.sc (.flt .f32))])) = prZ3120 (mkL x 0 (kdsP [.val (.ag kd1), .val (.ag kd2), .val (.sc (.flt .f32)), .val (.sc (.flt .f32))])) := by
            unfold prT
            have y0 : intOf (leafN (mkL x 0 (kdsP [.val (.ag kd1), .val (.ag kd2), .val (.sc (.flt .f32)), .val (.sc (.flt .f32))])) 4) = 3 := z0
            have y1 : intOf (leafN (mkL x 0 (kdsP [.val (.ag kd1), .val (.ag kd2), .val (.sc (.flt .f32)), .val (.sc (.flt .f32))])) 5) = 1 := z1
            have y2 : intOf (leafN (mkL x 0 (kdsP [.val (.ag kd1), .val (.ag kd2), .val (.sc (.flt .f32)), .val (.sc (.flt .f32))])) 6) = 2 := z2
            have y3 : intOf (leafN (mkL x 0 (kdsP [.val (.ag kd1), .val (.ag kd2), .val (.sc (.flt .f32)), .val (.sc (.flt .f32))])) 7) = 0 := z3
            rw [y0, y1, y2]
            rfl
          rw [e]
          exact pr_o12_3120 x hF z0 z1 z2 z3
      · have c2 : x.i 6 = 0 ∨ x.i 6 = 1 := by omega
        rcases c2 with z2 | z2
        · have z3 : x.i 7 = 1 := by omega
          have e : prT (mkL x 0 (kdsP [.val (.ag kd1), .val (.ag kd2), .val (.sc (.flt .f32)), .val (.sc (.flt .f32))])) = prZ3201 (mkL x 0 (kdsP [.val (.ag kd1), .val (.ag kd2), .val (.sc (.flt .f32)), .val (.sc (.flt .f32))])) := by
            unfold prT
            have y0 : intOf (leafN (mkL x 0 (kdsP [.val (.ag kd1), .val (.ag kd2), .val (.sc (.flt .f32)), .val (.sc (.flt .f32))])) 4) = 3 := z0
            have y1 : intOf (leafN (mkL x 0 (kdsP [.val (.ag kd1), .val (.ag kd2), .val (.sc (.flt .f32)), .val (.sc (.flt .f32))])) 5) = 2 := z1
            have y2 : intOf (leafN (mkL x 0 (kdsP [.val (.ag kd1), .val (.ag kd2), .val (.sc (.flt .f32)), .val (.sc (.flt .f32))])) 6) = 0 := z2
            have y3 : intOf (leafN (mkL x 0 (kdsP [.val (.ag kd1), .val (.ag kd2), .val (.sc (.flt .f32)), .val (.sc (.flt .f32))])) 7) = 1 := z3
            rw [y0, y1, y2]
            rfl
          rw [e]
          exact pr_o12_3201 x hF z0 z1 z2 z3
        · have z3 : x.i 7 = 0 := by omega
          have e : prT (mkL x 0 (kdsP [.val (.ag kd1), .val (.ag kd2), .val (.sc (.flt .f32)), .val (.sc (.flt .f32))])) = prZ3210 (mkL x 0 (kdsP [.val (.ag kd1), .val (.ag kd2), .val (.sc (.flt .f32)), .val (.sc (.flt .f32))])) := by
            unfold prT
            have y0 : intOf (leafN (mkL x 0 (kdsP [.val (.ag kd1), .val (.ag kd2), .val (.sc (.flt .f32)), .val (.sc (.flt .f32))])) 4) = 3 := z0
            have y1 : intOf (leafN (mkL x 0 (kdsP [.val (.ag kd1), .val (.ag kd2), .val (.sc (.flt .f32)), .val (.sc (.flt .f32))])) 5) = 2 := z1
            have y2 : intOf (leafN (mkL x 0 (kdsP [.val (.ag kd1), .val (.ag kd2), .val (.sc (.flt .f32)), .val (.sc (.flt .f32))])) 6) = 1 := z2
            have y3 : intOf (leafN (mkL x 0 (kdsP [.val (.ag kd1), .val (.ag kd2), .val (.sc (.flt .f32)), .val (.sc (.flt .f32))])) 7) = 0 := z3
            rw [y0, y1, y2]
            rfl
          rw [e]
          exact pr_o12_3210 x hF z0 z1 z2 z3

noncomputable def G9 : Summ := addG 9 (sumP [.val (.ag kd1), .val (.ag kd2), .val (.sc (.flt .f32)), .val (.sc (.flt .f32))] [.ag kd1, .sc (.int .i64)] (fun _ => []) prR) G8

theorem G9_ok : SoundG Try.prog G9 := SoundG.sumP G8_ok mixed Try.call9 G8_ok (fun x hx hp => by rw [prR_eq]; exact (fun x _ _ => pr_ev9 x) x hx hp)

noncomputable def G10 : Summ := addG 12 (sumP [.val (.ag kd1), .val (.ag kd2), .val (.sc (.flt .f32)), .val (.sc (.flt .f32))] [.ag kd1, .sc (.int .i64)] (fun _ => []) prR) G9

theorem G10_ok : SoundG Try.prog G10 := SoundG.sumP G9_ok mixed Try.call12 G8_ok (fun x hx hp => by rw [prR_eq]; exact (fun x _ _ => pr_ev12 x) x hx hp)

end Go.Proofs.Ytekilpllicggeaa

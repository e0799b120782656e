/-
  Facts of this seat that its laws use; no conditions.
-/
import Derived.Test.YtekilpllicggeaaOrdb
namespace Go.Proofs.Ytekilpllicggeaa
open Go.Sim Go.ChangeShapes Go.WideShapes Go.ChangeAt Go.RowKit

noncomputable def boL : LP := { A := 0, ts := [1, 2, 3, 6, 9, 10, 11, 12], F := ⟨[.sc (.flt .f32), .sc (.flt .f32), .ptr 0 0, .ptr 1 0, .slc 2 0 24 1, .cst (.int .i64 0), .cst (.flt .f32 0), .cst (.int .i64 0)], [.lit [.sc (.flt .f32), .sc (.flt .f32), .sc (.flt .f32), .sc (.flt .f32)] true, .lit [.cst (.int .i8 0), .cst (.int .i8 0), .cst (.int .i8 0), .cst (.int .i8 0)] true, .lit [.slc 3 0 4 1, .slc 4 0 4 1, .slc 5 0 4 1, .slc 6 0 4 1, .slc 7 0 4 1, .slc 8 0 4 1, .slc 9 0 4 1, .slc 10 0 4 1, .slc 11 0 4 1, .slc 12 0 4 1, .slc 13 0 4 1, .slc 14 0 4 1, .slc 15 0 4 1, .slc 16 0 4 1, .slc 17 0 4 1, .slc 18 0 4 1, .slc 19 0 4 1, .slc 20 0 4 1, .slc 21 0 4 1, .slc 22 0 4 1, .slc 23 0 4 1, .slc 24 0 4 1, .slc 25 0 4 1, .slc 26 0 4 1] true, .lit [.cst (.int .i64 0), .cst (.int .i64 1), .cst (.int .i64 2), .cst (.int .i64 3)] true, .lit [.cst (.int .i64 0), .cst (.int .i64 1), .cst (.int .i64 3), .cst (.int .i64 2)] true, .lit [.cst (.int .i64 0), .cst (.int .i64 2), .cst (.int .i64 1), .cst (.int .i64 3)] true, .lit [.cst (.int .i64 0), .cst (.int .i64 2), .cst (.int .i64 3), .cst (.int .i64 1)] true, .lit [.cst (.int .i64 0), .cst (.int .i64 3), .cst (.int .i64 1), .cst (.int .i64 2)] true, .lit [.cst (.int .i64 0), .cst (.int .i64 3), .cst (.int .i64 2), .cst (.int .i64 1)] true, .lit [.cst (.int .i64 1), .cst (.int .i64 0), .cst (.int .i64 2), .cst (.int .i64 3)] true, .lit [.cst (.int .i64 1), .cst (.int .i64 0), .cst (.int .i64 3), .cst (.int .i64 2)] true, .lit [.cst (.int .i64 1), .cst (.int .i64 2), .cst (.int .i64 0), .cst (.int .i64 3)] true, .lit [.cst (.int .i64 1), .cst (.int .i64 2), .cst (.int .i64 3), .cst (.int .i64 0)] true, .lit [.cst (.int .i64 1), .cst (.int .i64 3), .cst (.int .i64 0), .cst (.int .i64 2)] true, .lit [.cst (.int .i64 1), .cst (.int .i64 3), .cst (.int .i64 2), .cst (.int .i64 0)] true, .lit [.cst (.int .i64 2), .cst (.int .i64 0), .cst (.int .i64 1), .cst (.int .i64 3)] true, .lit [.cst (.int .i64 2), .cst (.int .i64 0), .cst (.int .i64 3), .cst (.int .i64 1)] true, .lit [.cst (.int .i64 2), .cst (.int .i64 1), .cst (.int .i64 0), .cst (.int .i64 3)] true, .lit [.cst (.int .i64 2), .cst (.int .i64 1), .cst (.int .i64 3), .cst (.int .i64 0)] true, .lit [.cst (.int .i64 2), .cst (.int .i64 3), .cst (.int .i64 0), .cst (.int .i64 1)] true, .lit [.cst (.int .i64 2), .cst (.int .i64 3), .cst (.int .i64 1), .cst (.int .i64 0)] true, .lit [.cst (.int .i64 3), .cst (.int .i64 0), .cst (.int .i64 1), .cst (.int .i64 2)] true, .lit [.cst (.int .i64 3), .cst (.int .i64 0), .cst (.int .i64 2), .cst (.int .i64 1)] true, .lit [.cst (.int .i64 3), .cst (.int .i64 1), .cst (.int .i64 0), .cst (.int .i64 2)] true, .lit [.cst (.int .i64 3), .cst (.int .i64 1), .cst (.int .i64 2), .cst (.int .i64 0)] true, .lit [.cst (.int .i64 3), .cst (.int .i64 2), .cst (.int .i64 0), .cst (.int .i64 1)] true, .lit [.cst (.int .i64 3), .cst (.int .i64 2), .cst (.int .i64 1), .cst (.int .i64 0)] true]⟩, xs := [(.exit 0, [6, 9, 10, 11], ⟨[.ptr 0 0, .slc 1 0 24 1, .sc (.int .i64), .sc (.flt .f32)], [.lit [.cst (.int .i8 0), .cst (.int .i8 0), .cst (.int .i8 0), .cst (.int .i8 0)] true, .lit [.slc 2 0 4 1, .slc 3 0 4 1, .slc 4 0 4 1, .slc 5 0 4 1, .slc 6 0 4 1, .slc 7 0 4 1, .slc 8 0 4 1, .slc 9 0 4 1, .slc 10 0 4 1, .slc 11 0 4 1, .slc 12 0 4 1, .slc 13 0 4 1, .slc 14 0 4 1, .slc 15 0 4 1, .slc 16 0 4 1, .slc 17 0 4 1, .slc 18 0 4 1, .slc 19 0 4 1, .slc 20 0 4 1, .slc 21 0 4 1, .slc 22 0 4 1, .slc 23 0 4 1, .slc 24 0 4 1, .slc 25 0 4 1] true, .lit [.cst (.int .i64 0), .cst (.int .i64 1), .cst (.int .i64 2), .cst (.int .i64 3)] true, .lit [.cst (.int .i64 0), .cst (.int .i64 1), .cst (.int .i64 3), .cst (.int .i64 2)] true, .lit [.cst (.int .i64 0), .cst (.int .i64 2), .cst (.int .i64 1), .cst (.int .i64 3)] true, .lit [.cst (.int .i64 0), .cst (.int .i64 2), .cst (.int .i64 3), .cst (.int .i64 1)] true, .lit [.cst (.int .i64 0), .cst (.int .i64 3), .cst (.int .i64 1), .cst (.int .i64 2)] true, .lit [.cst (.int .i64 0), .cst (.int .i64 3), .cst (.int .i64 2), .cst (.int .i64 1)] true, .lit [.cst (.int .i64 1), .cst (.int .i64 0), .cst (.int .i64 2), .cst (.int .i64 3)] true, .lit [.cst (.int .i64 1), .cst (.int .i64 0), .cst (.int .i64 3), .cst (.int .i64 2)] true, .lit [.cst (.int .i64 1), .cst (.int .i64 2), .cst (.int .i64 0), .cst (.int .i64 3)] true, .lit [.cst (.int .i64 1), .cst (.int .i64 2), .cst (.int .i64 3), .cst (.int .i64 0)] true, .lit [.cst (.int .i64 1), .cst (.int .i64 3), .cst (.int .i64 0), .cst (.int .i64 2)] true, .lit [.cst (.int .i64 1), .cst (.int .i64 3), .cst (.int .i64 2), .cst (.int .i64 0)] true, .lit [.cst (.int .i64 2), .cst (.int .i64 0), .cst (.int .i64 1), .cst (.int .i64 3)] true, .lit [.cst (.int .i64 2), .cst (.int .i64 0), .cst (.int .i64 3), .cst (.int .i64 1)] true, .lit [.cst (.int .i64 2), .cst (.int .i64 1), .cst (.int .i64 0), .cst (.int .i64 3)] true, .lit [.cst (.int .i64 2), .cst (.int .i64 1), .cst (.int .i64 3), .cst (.int .i64 0)] true, .lit [.cst (.int .i64 2), .cst (.int .i64 3), .cst (.int .i64 0), .cst (.int .i64 1)] true, .lit [.cst (.int .i64 2), .cst (.int .i64 3), .cst (.int .i64 1), .cst (.int .i64 0)] true, .lit [.cst (.int .i64 3), .cst (.int .i64 0), .cst (.int .i64 1), .cst (.int .i64 2)] true, .lit [.cst (.int .i64 3), .cst (.int .i64 0), .cst (.int .i64 2), .cst (.int .i64 1)] true, .lit [.cst (.int .i64 3), .cst (.int .i64 1), .cst (.int .i64 0), .cst (.int .i64 2)] true, .lit [.cst (.int .i64 3), .cst (.int .i64 1), .cst (.int .i64 2), .cst (.int .i64 0)] true, .lit [.cst (.int .i64 3), .cst (.int .i64 2), .cst (.int .i64 0), .cst (.int .i64 1)] true, .lit [.cst (.int .i64 3), .cst (.int .i64 2), .cst (.int .i64 1), .cst (.int .i64 0)] true]⟩)] }

noncomputable def bo_v_0 (s : SV) : Vars := (driedR [(.agg [(.flt .f32 (farith .add .f32 0 (s.x.u 2))), (.flt .f32 0), (.flt .f32 0), (.flt .f32 0)]), (.flt .f32 (s.x.u 0)), (.flt .f32 (s.x.u 1))])

noncomputable def bo_v_1 (s : SV) : Vars := (driedR [(.agg [(.flt .f32 ((bo_v_0 s).u 0)), (.flt .f32 (farith .add .f32 ((bo_v_0 s).u 1) (s.x.u 3))), (.flt .f32 ((bo_v_0 s).u 2)), (.flt .f32 ((bo_v_0 s).u 3))]), (.flt .f32 (s.x.u 0)), (.flt .f32 (s.x.u 1))])

noncomputable def bo_v_2 (s : SV) : Vars := (driedR [(.agg [(.flt .f32 ((bo_v_1 s).u 0)), (.flt .f32 ((bo_v_1 s).u 1)), (.flt .f32 ((bo_v_1 s).u 2)), (.flt .f32 (farith .add .f32 ((bo_v_1 s).u 3) (s.x.u 5)))]), (.flt .f32 (s.x.u 0)), (.flt .f32 (s.x.u 1))])

noncomputable def bo_v_3 (s : SV) : Vars := (driedR [(.agg [(.flt .f32 ((bo_v_2 s).u 0)), (.flt .f32 ((bo_v_2 s).u 1)), (.flt .f32 (farith .add .f32 ((bo_v_2 s).u 2) (s.x.u 4))), (.flt .f32 ((bo_v_2 s).u 3))]), (.flt .f32 (s.x.u 0)), (.flt .f32 (s.x.u 1))])

noncomputable def bo_v_4 (s : SV) : Vars := (driedR [(.agg [(.flt .f32 ((bo_v_1 s).u 0)), (.flt .f32 ((bo_v_1 s).u 1)), (.flt .f32 (farith .add .f32 ((bo_v_1 s).u 2) (s.x.u 4))), (.flt .f32 ((bo_v_1 s).u 3))]), (.flt .f32 (s.x.u 0)), (.flt .f32 (s.x.u 1))])

noncomputable def bo_v_5 (s : SV) : Vars := (driedR [(.agg [(.flt .f32 ((bo_v_4 s).u 0)), (.flt .f32 ((bo_v_4 s).u 1)), (.flt .f32 ((bo_v_4 s).u 2)), (.flt .f32 (farith .add .f32 ((bo_v_4 s).u 3) (s.x.u 5)))]), (.flt .f32 (s.x.u 0)), (.flt .f32 (s.x.u 1))])

noncomputable def bo_v_6 (s : SV) : Int := (bif (fcmp .lss .f32 (farith .add .f32 (farith .add .f32 (farith .add .f32 ((bo_v_3 s).u 0) ((bo_v_3 s).u 1)) ((bo_v_3 s).u 2)) ((bo_v_3 s).u 3)) (farith .add .f32 (farith .add .f32 (farith .add .f32 ((bo_v_5 s).u 0) ((bo_v_5 s).u 1)) ((bo_v_5 s).u 2)) ((bo_v_5 s).u 3))) then 1 else 0)

noncomputable def bo_v_7 (s : SV) : Vars := (driedR [(.agg [(.flt .f32 ((bo_v_0 s).u 0)), (.flt .f32 ((bo_v_0 s).u 1)), (.flt .f32 (farith .add .f32 ((bo_v_0 s).u 2) (s.x.u 4))), (.flt .f32 ((bo_v_0 s).u 3))]), (.flt .f32 (s.x.u 0)), (.flt .f32 (s.x.u 1))])

noncomputable def bo_v_8 (s : SV) : Vars := (driedR [(.agg [(.flt .f32 ((bo_v_7 s).u 0)), (.flt .f32 (farith .add .f32 ((bo_v_7 s).u 1) (s.x.u 3))), (.flt .f32 ((bo_v_7 s).u 2)), (.flt .f32 ((bo_v_7 s).u 3))]), (.flt .f32 (s.x.u 0)), (.flt .f32 (s.x.u 1))])

noncomputable def bo_v_9 (s : SV) : Vars := (driedR [(.agg [(.flt .f32 ((bo_v_8 s).u 0)), (.flt .f32 ((bo_v_8 s).u 1)), (.flt .f32 ((bo_v_8 s).u 2)), (.flt .f32 (farith .add .f32 ((bo_v_8 s).u 3) (s.x.u 5)))]), (.flt .f32 (s.x.u 0)), (.flt .f32 (s.x.u 1))])

noncomputable def bo_v_10 (s : SV) : Nat := (bif (fcmp .lss .f32 (farith .add .f32 (farith .add .f32 (farith .add .f32 ((bo_v_3 s).u 0) ((bo_v_3 s).u 1)) ((bo_v_3 s).u 2)) ((bo_v_3 s).u 3)) (farith .add .f32 (farith .add .f32 (farith .add .f32 ((bo_v_5 s).u 0) ((bo_v_5 s).u 1)) ((bo_v_5 s).u 2)) ((bo_v_5 s).u 3))) then (farith .add .f32 (farith .add .f32 (farith .add .f32 ((bo_v_3 s).u 0) ((bo_v_3 s).u 1)) ((bo_v_3 s).u 2)) ((bo_v_3 s).u 3)) else (farith .add .f32 (farith .add .f32 (farith .add .f32 ((bo_v_5 s).u 0) ((bo_v_5 s).u 1)) ((bo_v_5 s).u 2)) ((bo_v_5 s).u 3)))

noncomputable def bo_v_11 (s : SV) : Int := (bif (fcmp .lss .f32 (farith .add .f32 (farith .add .f32 (farith .add .f32 ((bo_v_9 s).u 0) ((bo_v_9 s).u 1)) ((bo_v_9 s).u 2)) ((bo_v_9 s).u 3)) (bo_v_10 s)) then 2 else (bo_v_6 s))

noncomputable def bo_v_12 (s : SV) : Vars := (driedR [(.agg [(.flt .f32 ((bo_v_7 s).u 0)), (.flt .f32 ((bo_v_7 s).u 1)), (.flt .f32 ((bo_v_7 s).u 2)), (.flt .f32 (farith .add .f32 ((bo_v_7 s).u 3) (s.x.u 5)))]), (.flt .f32 (s.x.u 0)), (.flt .f32 (s.x.u 1))])

noncomputable def bo_v_13 (s : SV) : Vars := (driedR [(.agg [(.flt .f32 ((bo_v_12 s).u 0)), (.flt .f32 (farith .add .f32 ((bo_v_12 s).u 1) (s.x.u 3))), (.flt .f32 ((bo_v_12 s).u 2)), (.flt .f32 ((bo_v_12 s).u 3))]), (.flt .f32 (s.x.u 0)), (.flt .f32 (s.x.u 1))])

noncomputable def bo_v_14 (s : SV) : Nat := (bif (fcmp .lss .f32 (farith .add .f32 (farith .add .f32 (farith .add .f32 ((bo_v_9 s).u 0) ((bo_v_9 s).u 1)) ((bo_v_9 s).u 2)) ((bo_v_9 s).u 3)) (bo_v_10 s)) then (farith .add .f32 (farith .add .f32 (farith .add .f32 ((bo_v_9 s).u 0) ((bo_v_9 s).u 1)) ((bo_v_9 s).u 2)) ((bo_v_9 s).u 3)) else (bo_v_10 s))

noncomputable def bo_v_15 (s : SV) : Int := (bif (fcmp .lss .f32 (farith .add .f32 (farith .add .f32 (farith .add .f32 ((bo_v_13 s).u 0) ((bo_v_13 s).u 1)) ((bo_v_13 s).u 2)) ((bo_v_13 s).u 3)) (bo_v_14 s)) then 3 else (bo_v_11 s))

noncomputable def bo_v_16 (s : SV) : Vars := (driedR [(.agg [(.flt .f32 ((bo_v_0 s).u 0)), (.flt .f32 ((bo_v_0 s).u 1)), (.flt .f32 ((bo_v_0 s).u 2)), (.flt .f32 (farith .add .f32 ((bo_v_0 s).u 3) (s.x.u 5)))]), (.flt .f32 (s.x.u 0)), (.flt .f32 (s.x.u 1))])

noncomputable def bo_v_17 (s : SV) : Vars := (driedR [(.agg [(.flt .f32 ((bo_v_16 s).u 0)), (.flt .f32 (farith .add .f32 ((bo_v_16 s).u 1) (s.x.u 3))), (.flt .f32 ((bo_v_16 s).u 2)), (.flt .f32 ((bo_v_16 s).u 3))]), (.flt .f32 (s.x.u 0)), (.flt .f32 (s.x.u 1))])

noncomputable def bo_v_18 (s : SV) : Vars := (driedR [(.agg [(.flt .f32 ((bo_v_17 s).u 0)), (.flt .f32 ((bo_v_17 s).u 1)), (.flt .f32 (farith .add .f32 ((bo_v_17 s).u 2) (s.x.u 4))), (.flt .f32 ((bo_v_17 s).u 3))]), (.flt .f32 (s.x.u 0)), (.flt .f32 (s.x.u 1))])

noncomputable def bo_v_19 (s : SV) : Nat := (bif (fcmp .lss .f32 (farith .add .f32 (farith .add .f32 (farith .add .f32 ((bo_v_13 s).u 0) ((bo_v_13 s).u 1)) ((bo_v_13 s).u 2)) ((bo_v_13 s).u 3)) (bo_v_14 s)) then (farith .add .f32 (farith .add .f32 (farith .add .f32 ((bo_v_13 s).u 0) ((bo_v_13 s).u 1)) ((bo_v_13 s).u 2)) ((bo_v_13 s).u 3)) else (bo_v_14 s))

noncomputable def bo_v_20 (s : SV) : Int := (bif (fcmp .lss .f32 (farith .add .f32 (farith .add .f32 (farith .add .f32 ((bo_v_18 s).u 0) ((bo_v_18 s).u 1)) ((bo_v_18 s).u 2)) ((bo_v_18 s).u 3)) (bo_v_19 s)) then 4 else (bo_v_15 s))

noncomputable def bo_v_21 (s : SV) : Vars := (driedR [(.agg [(.flt .f32 ((bo_v_16 s).u 0)), (.flt .f32 ((bo_v_16 s).u 1)), (.flt .f32 (farith .add .f32 ((bo_v_16 s).u 2) (s.x.u 4))), (.flt .f32 ((bo_v_16 s).u 3))]), (.flt .f32 (s.x.u 0)), (.flt .f32 (s.x.u 1))])

noncomputable def bo_v_22 (s : SV) : Vars := (driedR [(.agg [(.flt .f32 ((bo_v_21 s).u 0)), (.flt .f32 (farith .add .f32 ((bo_v_21 s).u 1) (s.x.u 3))), (.flt .f32 ((bo_v_21 s).u 2)), (.flt .f32 ((bo_v_21 s).u 3))]), (.flt .f32 (s.x.u 0)), (.flt .f32 (s.x.u 1))])

noncomputable def bo_v_23 (s : SV) : Nat := (bif (fcmp .lss .f32 (farith .add .f32 (farith .add .f32 (farith .add .f32 ((bo_v_18 s).u 0) ((bo_v_18 s).u 1)) ((bo_v_18 s).u 2)) ((bo_v_18 s).u 3)) (bo_v_19 s)) then (farith .add .f32 (farith .add .f32 (farith .add .f32 ((bo_v_18 s).u 0) ((bo_v_18 s).u 1)) ((bo_v_18 s).u 2)) ((bo_v_18 s).u 3)) else (bo_v_19 s))

noncomputable def bo_v_24 (s : SV) : Int := (bif (fcmp .lss .f32 (farith .add .f32 (farith .add .f32 (farith .add .f32 ((bo_v_22 s).u 0) ((bo_v_22 s).u 1)) ((bo_v_22 s).u 2)) ((bo_v_22 s).u 3)) (bo_v_23 s)) then 5 else (bo_v_20 s))

noncomputable def bo_v_25 (s : SV) : Vars := (driedR [(.agg [(.flt .f32 0), (.flt .f32 (farith .add .f32 0 (s.x.u 3))), (.flt .f32 0), (.flt .f32 0)]), (.flt .f32 (s.x.u 0)), (.flt .f32 (s.x.u 1))])

noncomputable def bo_v_26 (s : SV) : Vars := (driedR [(.agg [(.flt .f32 (farith .add .f32 ((bo_v_25 s).u 0) (s.x.u 2))), (.flt .f32 ((bo_v_25 s).u 1)), (.flt .f32 ((bo_v_25 s).u 2)), (.flt .f32 ((bo_v_25 s).u 3))]), (.flt .f32 (s.x.u 0)), (.flt .f32 (s.x.u 1))])

noncomputable def bo_v_27 (s : SV) : Vars := (driedR [(.agg [(.flt .f32 ((bo_v_26 s).u 0)), (.flt .f32 ((bo_v_26 s).u 1)), (.flt .f32 (farith .add .f32 ((bo_v_26 s).u 2) (s.x.u 4))), (.flt .f32 ((bo_v_26 s).u 3))]), (.flt .f32 (s.x.u 0)), (.flt .f32 (s.x.u 1))])

noncomputable def bo_v_28 (s : SV) : Vars := (driedR [(.agg [(.flt .f32 ((bo_v_27 s).u 0)), (.flt .f32 ((bo_v_27 s).u 1)), (.flt .f32 ((bo_v_27 s).u 2)), (.flt .f32 (farith .add .f32 ((bo_v_27 s).u 3) (s.x.u 5)))]), (.flt .f32 (s.x.u 0)), (.flt .f32 (s.x.u 1))])

noncomputable def bo_v_29 (s : SV) : Nat := (bif (fcmp .lss .f32 (farith .add .f32 (farith .add .f32 (farith .add .f32 ((bo_v_22 s).u 0) ((bo_v_22 s).u 1)) ((bo_v_22 s).u 2)) ((bo_v_22 s).u 3)) (bo_v_23 s)) then (farith .add .f32 (farith .add .f32 (farith .add .f32 ((bo_v_22 s).u 0) ((bo_v_22 s).u 1)) ((bo_v_22 s).u 2)) ((bo_v_22 s).u 3)) else (bo_v_23 s))

noncomputable def bo_v_30 (s : SV) : Int := (bif (fcmp .lss .f32 (farith .add .f32 (farith .add .f32 (farith .add .f32 ((bo_v_28 s).u 0) ((bo_v_28 s).u 1)) ((bo_v_28 s).u 2)) ((bo_v_28 s).u 3)) (bo_v_29 s)) then 6 else (bo_v_24 s))

noncomputable def bo_v_31 (s : SV) : Vars := (driedR [(.agg [(.flt .f32 ((bo_v_26 s).u 0)), (.flt .f32 ((bo_v_26 s).u 1)), (.flt .f32 ((bo_v_26 s).u 2)), (.flt .f32 (farith .add .f32 ((bo_v_26 s).u 3) (s.x.u 5)))]), (.flt .f32 (s.x.u 0)), (.flt .f32 (s.x.u 1))])

noncomputable def bo_v_32 (s : SV) : Vars := (driedR [(.agg [(.flt .f32 ((bo_v_31 s).u 0)), (.flt .f32 ((bo_v_31 s).u 1)), (.flt .f32 (farith .add .f32 ((bo_v_31 s).u 2) (s.x.u 4))), (.flt .f32 ((bo_v_31 s).u 3))]), (.flt .f32 (s.x.u 0)), (.flt .f32 (s.x.u 1))])

noncomputable def bo_v_33 (s : SV) : Nat := (bif (fcmp .lss .f32 (farith .add .f32 (farith .add .f32 (farith .add .f32 ((bo_v_28 s).u 0) ((bo_v_28 s).u 1)) ((bo_v_28 s).u 2)) ((bo_v_28 s).u 3)) (bo_v_29 s)) then (farith .add .f32 (farith .add .f32 (farith .add .f32 ((bo_v_28 s).u 0) ((bo_v_28 s).u 1)) ((bo_v_28 s).u 2)) ((bo_v_28 s).u 3)) else (bo_v_29 s))

noncomputable def bo_v_34 (s : SV) : Int := (bif (fcmp .lss .f32 (farith .add .f32 (farith .add .f32 (farith .add .f32 ((bo_v_32 s).u 0) ((bo_v_32 s).u 1)) ((bo_v_32 s).u 2)) ((bo_v_32 s).u 3)) (bo_v_33 s)) then 7 else (bo_v_30 s))

noncomputable def bo_v_35 (s : SV) : Vars := (driedR [(.agg [(.flt .f32 ((bo_v_25 s).u 0)), (.flt .f32 ((bo_v_25 s).u 1)), (.flt .f32 (farith .add .f32 ((bo_v_25 s).u 2) (s.x.u 4))), (.flt .f32 ((bo_v_25 s).u 3))]), (.flt .f32 (s.x.u 0)), (.flt .f32 (s.x.u 1))])

noncomputable def bo_v_36 (s : SV) : Vars := (driedR [(.agg [(.flt .f32 (farith .add .f32 ((bo_v_35 s).u 0) (s.x.u 2))), (.flt .f32 ((bo_v_35 s).u 1)), (.flt .f32 ((bo_v_35 s).u 2)), (.flt .f32 ((bo_v_35 s).u 3))]), (.flt .f32 (s.x.u 0)), (.flt .f32 (s.x.u 1))])

noncomputable def bo_v_37 (s : SV) : Vars := (driedR [(.agg [(.flt .f32 ((bo_v_36 s).u 0)), (.flt .f32 ((bo_v_36 s).u 1)), (.flt .f32 ((bo_v_36 s).u 2)), (.flt .f32 (farith .add .f32 ((bo_v_36 s).u 3) (s.x.u 5)))]), (.flt .f32 (s.x.u 0)), (.flt .f32 (s.x.u 1))])

noncomputable def bo_v_38 (s : SV) : Nat := (bif (fcmp .lss .f32 (farith .add .f32 (farith .add .f32 (farith .add .f32 ((bo_v_32 s).u 0) ((bo_v_32 s).u 1)) ((bo_v_32 s).u 2)) ((bo_v_32 s).u 3)) (bo_v_33 s)) then (farith .add .f32 (farith .add .f32 (farith .add .f32 ((bo_v_32 s).u 0) ((bo_v_32 s).u 1)) ((bo_v_32 s).u 2)) ((bo_v_32 s).u 3)) else (bo_v_33 s))

noncomputable def bo_v_39 (s : SV) : Int := (bif (fcmp .lss .f32 (farith .add .f32 (farith .add .f32 (farith .add .f32 ((bo_v_37 s).u 0) ((bo_v_37 s).u 1)) ((bo_v_37 s).u 2)) ((bo_v_37 s).u 3)) (bo_v_38 s)) then 8 else (bo_v_34 s))

noncomputable def bo_v_40 (s : SV) : Vars := (driedR [(.agg [(.flt .f32 ((bo_v_35 s).u 0)), (.flt .f32 ((bo_v_35 s).u 1)), (.flt .f32 ((bo_v_35 s).u 2)), (.flt .f32 (farith .add .f32 ((bo_v_35 s).u 3) (s.x.u 5)))]), (.flt .f32 (s.x.u 0)), (.flt .f32 (s.x.u 1))])

noncomputable def bo_v_41 (s : SV) : Vars := (driedR [(.agg [(.flt .f32 (farith .add .f32 ((bo_v_40 s).u 0) (s.x.u 2))), (.flt .f32 ((bo_v_40 s).u 1)), (.flt .f32 ((bo_v_40 s).u 2)), (.flt .f32 ((bo_v_40 s).u 3))]), (.flt .f32 (s.x.u 0)), (.flt .f32 (s.x.u 1))])

noncomputable def bo_v_42 (s : SV) : Nat := (bif (fcmp .lss .f32 (farith .add .f32 (farith .add .f32 (farith .add .f32 ((bo_v_37 s).u 0) ((bo_v_37 s).u 1)) ((bo_v_37 s).u 2)) ((bo_v_37 s).u 3)) (bo_v_38 s)) then (farith .add .f32 (farith .add .f32 (farith .add .f32 ((bo_v_37 s).u 0) ((bo_v_37 s).u 1)) ((bo_v_37 s).u 2)) ((bo_v_37 s).u 3)) else (bo_v_38 s))

noncomputable def bo_v_43 (s : SV) : Int := (bif (fcmp .lss .f32 (farith .add .f32 (farith .add .f32 (farith .add .f32 ((bo_v_41 s).u 0) ((bo_v_41 s).u 1)) ((bo_v_41 s).u 2)) ((bo_v_41 s).u 3)) (bo_v_42 s)) then 9 else (bo_v_39 s))

noncomputable def bo_v_44 (s : SV) : Vars := (driedR [(.agg [(.flt .f32 ((bo_v_25 s).u 0)), (.flt .f32 ((bo_v_25 s).u 1)), (.flt .f32 ((bo_v_25 s).u 2)), (.flt .f32 (farith .add .f32 ((bo_v_25 s).u 3) (s.x.u 5)))]), (.flt .f32 (s.x.u 0)), (.flt .f32 (s.x.u 1))])

noncomputable def bo_v_45 (s : SV) : Vars := (driedR [(.agg [(.flt .f32 (farith .add .f32 ((bo_v_44 s).u 0) (s.x.u 2))), (.flt .f32 ((bo_v_44 s).u 1)), (.flt .f32 ((bo_v_44 s).u 2)), (.flt .f32 ((bo_v_44 s).u 3))]), (.flt .f32 (s.x.u 0)), (.flt .f32 (s.x.u 1))])

noncomputable def bo_v_46 (s : SV) : Vars := (driedR [(.agg [(.flt .f32 ((bo_v_45 s).u 0)), (.flt .f32 ((bo_v_45 s).u 1)), (.flt .f32 (farith .add .f32 ((bo_v_45 s).u 2) (s.x.u 4))), (.flt .f32 ((bo_v_45 s).u 3))]), (.flt .f32 (s.x.u 0)), (.flt .f32 (s.x.u 1))])

noncomputable def bo_v_47 (s : SV) : Nat := (bif (fcmp .lss .f32 (farith .add .f32 (farith .add .f32 (farith .add .f32 ((bo_v_41 s).u 0) ((bo_v_41 s).u 1)) ((bo_v_41 s).u 2)) ((bo_v_41 s).u 3)) (bo_v_42 s)) then (farith .add .f32 (farith .add .f32 (farith .add .f32 ((bo_v_41 s).u 0) ((bo_v_41 s).u 1)) ((bo_v_41 s).u 2)) ((bo_v_41 s).u 3)) else (bo_v_42 s))

noncomputable def bo_v_48 (s : SV) : Int := (bif (fcmp .lss .f32 (farith .add .f32 (farith .add .f32 (farith .add .f32 ((bo_v_46 s).u 0) ((bo_v_46 s).u 1)) ((bo_v_46 s).u 2)) ((bo_v_46 s).u 3)) (bo_v_47 s)) then 10 else (bo_v_43 s))

noncomputable def bo_v_49 (s : SV) : Vars := (driedR [(.agg [(.flt .f32 ((bo_v_44 s).u 0)), (.flt .f32 ((bo_v_44 s).u 1)), (.flt .f32 (farith .add .f32 ((bo_v_44 s).u 2) (s.x.u 4))), (.flt .f32 ((bo_v_44 s).u 3))]), (.flt .f32 (s.x.u 0)), (.flt .f32 (s.x.u 1))])

noncomputable def bo_v_50 (s : SV) : Vars := (driedR [(.agg [(.flt .f32 (farith .add .f32 ((bo_v_49 s).u 0) (s.x.u 2))), (.flt .f32 ((bo_v_49 s).u 1)), (.flt .f32 ((bo_v_49 s).u 2)), (.flt .f32 ((bo_v_49 s).u 3))]), (.flt .f32 (s.x.u 0)), (.flt .f32 (s.x.u 1))])

noncomputable def bo_v_51 (s : SV) : Nat := (bif (fcmp .lss .f32 (farith .add .f32 (farith .add .f32 (farith .add .f32 ((bo_v_46 s).u 0) ((bo_v_46 s).u 1)) ((bo_v_46 s).u 2)) ((bo_v_46 s).u 3)) (bo_v_47 s)) then (farith .add .f32 (farith .add .f32 (farith .add .f32 ((bo_v_46 s).u 0) ((bo_v_46 s).u 1)) ((bo_v_46 s).u 2)) ((bo_v_46 s).u 3)) else (bo_v_47 s))

noncomputable def bo_v_52 (s : SV) : Int := (bif (fcmp .lss .f32 (farith .add .f32 (farith .add .f32 (farith .add .f32 ((bo_v_50 s).u 0) ((bo_v_50 s).u 1)) ((bo_v_50 s).u 2)) ((bo_v_50 s).u 3)) (bo_v_51 s)) then 11 else (bo_v_48 s))

noncomputable def bo_v_53 (s : SV) : Vars := (driedR [(.agg [(.flt .f32 0), (.flt .f32 0), (.flt .f32 (farith .add .f32 0 (s.x.u 4))), (.flt .f32 0)]), (.flt .f32 (s.x.u 0)), (.flt .f32 (s.x.u 1))])

noncomputable def bo_v_54 (s : SV) : Vars := (driedR [(.agg [(.flt .f32 (farith .add .f32 ((bo_v_53 s).u 0) (s.x.u 2))), (.flt .f32 ((bo_v_53 s).u 1)), (.flt .f32 ((bo_v_53 s).u 2)), (.flt .f32 ((bo_v_53 s).u 3))]), (.flt .f32 (s.x.u 0)), (.flt .f32 (s.x.u 1))])

noncomputable def bo_v_55 (s : SV) : Vars := (driedR [(.agg [(.flt .f32 ((bo_v_54 s).u 0)), (.flt .f32 (farith .add .f32 ((bo_v_54 s).u 1) (s.x.u 3))), (.flt .f32 ((bo_v_54 s).u 2)), (.flt .f32 ((bo_v_54 s).u 3))]), (.flt .f32 (s.x.u 0)), (.flt .f32 (s.x.u 1))])

noncomputable def bo_v_56 (s : SV) : Vars := (driedR [(.agg [(.flt .f32 ((bo_v_55 s).u 0)), (.flt .f32 ((bo_v_55 s).u 1)), (.flt .f32 ((bo_v_55 s).u 2)), (.flt .f32 (farith .add .f32 ((bo_v_55 s).u 3) (s.x.u 5)))]), (.flt .f32 (s.x.u 0)), (.flt .f32 (s.x.u 1))])

noncomputable def bo_v_57 (s : SV) : Nat := (bif (fcmp .lss .f32 (farith .add .f32 (farith .add .f32 (farith .add .f32 ((bo_v_50 s).u 0) ((bo_v_50 s).u 1)) ((bo_v_50 s).u 2)) ((bo_v_50 s).u 3)) (bo_v_51 s)) then (farith .add .f32 (farith .add .f32 (farith .add .f32 ((bo_v_50 s).u 0) ((bo_v_50 s).u 1)) ((bo_v_50 s).u 2)) ((bo_v_50 s).u 3)) else (bo_v_51 s))

noncomputable def bo_v_58 (s : SV) : Int := (bif (fcmp .lss .f32 (farith .add .f32 (farith .add .f32 (farith .add .f32 ((bo_v_56 s).u 0) ((bo_v_56 s).u 1)) ((bo_v_56 s).u 2)) ((bo_v_56 s).u 3)) (bo_v_57 s)) then 12 else (bo_v_52 s))

noncomputable def bo_v_59 (s : SV) : Vars := (driedR [(.agg [(.flt .f32 ((bo_v_54 s).u 0)), (.flt .f32 ((bo_v_54 s).u 1)), (.flt .f32 ((bo_v_54 s).u 2)), (.flt .f32 (farith .add .f32 ((bo_v_54 s).u 3) (s.x.u 5)))]), (.flt .f32 (s.x.u 0)), (.flt .f32 (s.x.u 1))])

noncomputable def bo_v_60 (s : SV) : Vars := (driedR [(.agg [(.flt .f32 ((bo_v_59 s).u 0)), (.flt .f32 (farith .add .f32 ((bo_v_59 s).u 1) (s.x.u 3))), (.flt .f32 ((bo_v_59 s).u 2)), (.flt .f32 ((bo_v_59 s).u 3))]), (.flt .f32 (s.x.u 0)), (.flt .f32 (s.x.u 1))])

noncomputable def bo_v_61 (s : SV) : Nat := (bif (fcmp .lss .f32 (farith .add .f32 (farith .add .f32 (farith .add .f32 ((bo_v_56 s).u 0) ((bo_v_56 s).u 1)) ((bo_v_56 s).u 2)) ((bo_v_56 s).u 3)) (bo_v_57 s)) then (farith .add .f32 (farith .add .f32 (farith .add .f32 ((bo_v_56 s).u 0) ((bo_v_56 s).u 1)) ((bo_v_56 s).u 2)) ((bo_v_56 s).u 3)) else (bo_v_57 s))

noncomputable def bo_v_62 (s : SV) : Int := (bif (fcmp .lss .f32 (farith .add .f32 (farith .add .f32 (farith .add .f32 ((bo_v_60 s).u 0) ((bo_v_60 s).u 1)) ((bo_v_60 s).u 2)) ((bo_v_60 s).u 3)) (bo_v_61 s)) then 13 else (bo_v_58 s))

noncomputable def bo_v_63 (s : SV) : Vars := (driedR [(.agg [(.flt .f32 ((bo_v_53 s).u 0)), (.flt .f32 (farith .add .f32 ((bo_v_53 s).u 1) (s.x.u 3))), (.flt .f32 ((bo_v_53 s).u 2)), (.flt .f32 ((bo_v_53 s).u 3))]), (.flt .f32 (s.x.u 0)), (.flt .f32 (s.x.u 1))])

noncomputable def bo_v_64 (s : SV) : Vars := (driedR [(.agg [(.flt .f32 (farith .add .f32 ((bo_v_63 s).u 0) (s.x.u 2))), (.flt .f32 ((bo_v_63 s).u 1)), (.flt .f32 ((bo_v_63 s).u 2)), (.flt .f32 ((bo_v_63 s).u 3))]), (.flt .f32 (s.x.u 0)), (.flt .f32 (s.x.u 1))])

noncomputable def bo_v_65 (s : SV) : Vars := (driedR [(.agg [(.flt .f32 ((bo_v_64 s).u 0)), (.flt .f32 ((bo_v_64 s).u 1)), (.flt .f32 ((bo_v_64 s).u 2)), (.flt .f32 (farith .add .f32 ((bo_v_64 s).u 3) (s.x.u 5)))]), (.flt .f32 (s.x.u 0)), (.flt .f32 (s.x.u 1))])

noncomputable def bo_v_66 (s : SV) : Nat := (bif (fcmp .lss .f32 (farith .add .f32 (farith .add .f32 (farith .add .f32 ((bo_v_60 s).u 0) ((bo_v_60 s).u 1)) ((bo_v_60 s).u 2)) ((bo_v_60 s).u 3)) (bo_v_61 s)) then (farith .add .f32 (farith .add .f32 (farith .add .f32 ((bo_v_60 s).u 0) ((bo_v_60 s).u 1)) ((bo_v_60 s).u 2)) ((bo_v_60 s).u 3)) else (bo_v_61 s))

noncomputable def bo_v_67 (s : SV) : Int := (bif (fcmp .lss .f32 (farith .add .f32 (farith .add .f32 (farith .add .f32 ((bo_v_65 s).u 0) ((bo_v_65 s).u 1)) ((bo_v_65 s).u 2)) ((bo_v_65 s).u 3)) (bo_v_66 s)) then 14 else (bo_v_62 s))

noncomputable def bo_v_68 (s : SV) : Vars := (driedR [(.agg [(.flt .f32 ((bo_v_63 s).u 0)), (.flt .f32 ((bo_v_63 s).u 1)), (.flt .f32 ((bo_v_63 s).u 2)), (.flt .f32 (farith .add .f32 ((bo_v_63 s).u 3) (s.x.u 5)))]), (.flt .f32 (s.x.u 0)), (.flt .f32 (s.x.u 1))])

noncomputable def bo_v_69 (s : SV) : Vars := (driedR [(.agg [(.flt .f32 (farith .add .f32 ((bo_v_68 s).u 0) (s.x.u 2))), (.flt .f32 ((bo_v_68 s).u 1)), (.flt .f32 ((bo_v_68 s).u 2)), (.flt .f32 ((bo_v_68 s).u 3))]), (.flt .f32 (s.x.u 0)), (.flt .f32 (s.x.u 1))])

noncomputable def bo_v_70 (s : SV) : Nat := (bif (fcmp .lss .f32 (farith .add .f32 (farith .add .f32 (farith .add .f32 ((bo_v_65 s).u 0) ((bo_v_65 s).u 1)) ((bo_v_65 s).u 2)) ((bo_v_65 s).u 3)) (bo_v_66 s)) then (farith .add .f32 (farith .add .f32 (farith .add .f32 ((bo_v_65 s).u 0) ((bo_v_65 s).u 1)) ((bo_v_65 s).u 2)) ((bo_v_65 s).u 3)) else (bo_v_66 s))

noncomputable def bo_v_71 (s : SV) : Int := (bif (fcmp .lss .f32 (farith .add .f32 (farith .add .f32 (farith .add .f32 ((bo_v_69 s).u 0) ((bo_v_69 s).u 1)) ((bo_v_69 s).u 2)) ((bo_v_69 s).u 3)) (bo_v_70 s)) then 15 else (bo_v_67 s))

noncomputable def bo_v_72 (s : SV) : Vars := (driedR [(.agg [(.flt .f32 ((bo_v_53 s).u 0)), (.flt .f32 ((bo_v_53 s).u 1)), (.flt .f32 ((bo_v_53 s).u 2)), (.flt .f32 (farith .add .f32 ((bo_v_53 s).u 3) (s.x.u 5)))]), (.flt .f32 (s.x.u 0)), (.flt .f32 (s.x.u 1))])

noncomputable def bo_v_73 (s : SV) : Vars := (driedR [(.agg [(.flt .f32 (farith .add .f32 ((bo_v_72 s).u 0) (s.x.u 2))), (.flt .f32 ((bo_v_72 s).u 1)), (.flt .f32 ((bo_v_72 s).u 2)), (.flt .f32 ((bo_v_72 s).u 3))]), (.flt .f32 (s.x.u 0)), (.flt .f32 (s.x.u 1))])

noncomputable def bo_v_74 (s : SV) : Vars := (driedR [(.agg [(.flt .f32 ((bo_v_73 s).u 0)), (.flt .f32 (farith .add .f32 ((bo_v_73 s).u 1) (s.x.u 3))), (.flt .f32 ((bo_v_73 s).u 2)), (.flt .f32 ((bo_v_73 s).u 3))]), (.flt .f32 (s.x.u 0)), (.flt .f32 (s.x.u 1))])

noncomputable def bo_v_75 (s : SV) : Nat := (bif (fcmp .lss .f32 (farith .add .f32 (farith .add .f32 (farith .add .f32 ((bo_v_69 s).u 0) ((bo_v_69 s).u 1)) ((bo_v_69 s).u 2)) ((bo_v_69 s).u 3)) (bo_v_70 s)) then (farith .add .f32 (farith .add .f32 (farith .add .f32 ((bo_v_69 s).u 0) ((bo_v_69 s).u 1)) ((bo_v_69 s).u 2)) ((bo_v_69 s).u 3)) else (bo_v_70 s))

noncomputable def bo_v_76 (s : SV) : Int := (bif (fcmp .lss .f32 (farith .add .f32 (farith .add .f32 (farith .add .f32 ((bo_v_74 s).u 0) ((bo_v_74 s).u 1)) ((bo_v_74 s).u 2)) ((bo_v_74 s).u 3)) (bo_v_75 s)) then 16 else (bo_v_71 s))

noncomputable def bo_v_77 (s : SV) : Vars := (driedR [(.agg [(.flt .f32 ((bo_v_72 s).u 0)), (.flt .f32 (farith .add .f32 ((bo_v_72 s).u 1) (s.x.u 3))), (.flt .f32 ((bo_v_72 s).u 2)), (.flt .f32 ((bo_v_72 s).u 3))]), (.flt .f32 (s.x.u 0)), (.flt .f32 (s.x.u 1))])

noncomputable def bo_v_78 (s : SV) : Vars := (driedR [(.agg [(.flt .f32 (farith .add .f32 ((bo_v_77 s).u 0) (s.x.u 2))), (.flt .f32 ((bo_v_77 s).u 1)), (.flt .f32 ((bo_v_77 s).u 2)), (.flt .f32 ((bo_v_77 s).u 3))]), (.flt .f32 (s.x.u 0)), (.flt .f32 (s.x.u 1))])

noncomputable def bo_v_79 (s : SV) : Nat := (bif (fcmp .lss .f32 (farith .add .f32 (farith .add .f32 (farith .add .f32 ((bo_v_74 s).u 0) ((bo_v_74 s).u 1)) ((bo_v_74 s).u 2)) ((bo_v_74 s).u 3)) (bo_v_75 s)) then (farith .add .f32 (farith .add .f32 (farith .add .f32 ((bo_v_74 s).u 0) ((bo_v_74 s).u 1)) ((bo_v_74 s).u 2)) ((bo_v_74 s).u 3)) else (bo_v_75 s))

noncomputable def bo_v_80 (s : SV) : Int := (bif (fcmp .lss .f32 (farith .add .f32 (farith .add .f32 (farith .add .f32 ((bo_v_78 s).u 0) ((bo_v_78 s).u 1)) ((bo_v_78 s).u 2)) ((bo_v_78 s).u 3)) (bo_v_79 s)) then 17 else (bo_v_76 s))

noncomputable def bo_v_81 (s : SV) : Vars := (driedR [(.agg [(.flt .f32 0), (.flt .f32 0), (.flt .f32 0), (.flt .f32 (farith .add .f32 0 (s.x.u 5)))]), (.flt .f32 (s.x.u 0)), (.flt .f32 (s.x.u 1))])

noncomputable def bo_v_82 (s : SV) : Vars := (driedR [(.agg [(.flt .f32 (farith .add .f32 ((bo_v_81 s).u 0) (s.x.u 2))), (.flt .f32 ((bo_v_81 s).u 1)), (.flt .f32 ((bo_v_81 s).u 2)), (.flt .f32 ((bo_v_81 s).u 3))]), (.flt .f32 (s.x.u 0)), (.flt .f32 (s.x.u 1))])

noncomputable def bo_v_83 (s : SV) : Vars := (driedR [(.agg [(.flt .f32 ((bo_v_82 s).u 0)), (.flt .f32 (farith .add .f32 ((bo_v_82 s).u 1) (s.x.u 3))), (.flt .f32 ((bo_v_82 s).u 2)), (.flt .f32 ((bo_v_82 s).u 3))]), (.flt .f32 (s.x.u 0)), (.flt .f32 (s.x.u 1))])

noncomputable def bo_v_84 (s : SV) : Vars := (driedR [(.agg [(.flt .f32 ((bo_v_83 s).u 0)), (.flt .f32 ((bo_v_83 s).u 1)), (.flt .f32 (farith .add .f32 ((bo_v_83 s).u 2) (s.x.u 4))), (.flt .f32 ((bo_v_83 s).u 3))]), (.flt .f32 (s.x.u 0)), (.flt .f32 (s.x.u 1))])

noncomputable def bo_v_85 (s : SV) : Nat := (bif (fcmp .lss .f32 (farith .add .f32 (farith .add .f32 (farith .add .f32 ((bo_v_78 s).u 0) ((bo_v_78 s).u 1)) ((bo_v_78 s).u 2)) ((bo_v_78 s).u 3)) (bo_v_79 s)) then (farith .add .f32 (farith .add .f32 (farith .add .f32 ((bo_v_78 s).u 0) ((bo_v_78 s).u 1)) ((bo_v_78 s).u 2)) ((bo_v_78 s).u 3)) else (bo_v_79 s))

noncomputable def bo_v_86 (s : SV) : Int := (bif (fcmp .lss .f32 (farith .add .f32 (farith .add .f32 (farith .add .f32 ((bo_v_84 s).u 0) ((bo_v_84 s).u 1)) ((bo_v_84 s).u 2)) ((bo_v_84 s).u 3)) (bo_v_85 s)) then 18 else (bo_v_80 s))

noncomputable def bo_v_87 (s : SV) : Vars := (driedR [(.agg [(.flt .f32 ((bo_v_82 s).u 0)), (.flt .f32 ((bo_v_82 s).u 1)), (.flt .f32 (farith .add .f32 ((bo_v_82 s).u 2) (s.x.u 4))), (.flt .f32 ((bo_v_82 s).u 3))]), (.flt .f32 (s.x.u 0)), (.flt .f32 (s.x.u 1))])

noncomputable def bo_v_88 (s : SV) : Vars := (driedR [(.agg [(.flt .f32 ((bo_v_87 s).u 0)), (.flt .f32 (farith .add .f32 ((bo_v_87 s).u 1) (s.x.u 3))), (.flt .f32 ((bo_v_87 s).u 2)), (.flt .f32 ((bo_v_87 s).u 3))]), (.flt .f32 (s.x.u 0)), (.flt .f32 (s.x.u 1))])

noncomputable def bo_v_89 (s : SV) : Nat := (bif (fcmp .lss .f32 (farith .add .f32 (farith .add .f32 (farith .add .f32 ((bo_v_84 s).u 0) ((bo_v_84 s).u 1)) ((bo_v_84 s).u 2)) ((bo_v_84 s).u 3)) (bo_v_85 s)) then (farith .add .f32 (farith .add .f32 (farith .add .f32 ((bo_v_84 s).u 0) ((bo_v_84 s).u 1)) ((bo_v_84 s).u 2)) ((bo_v_84 s).u 3)) else (bo_v_85 s))

noncomputable def bo_v_90 (s : SV) : Int := (bif (fcmp .lss .f32 (farith .add .f32 (farith .add .f32 (farith .add .f32 ((bo_v_88 s).u 0) ((bo_v_88 s).u 1)) ((bo_v_88 s).u 2)) ((bo_v_88 s).u 3)) (bo_v_89 s)) then 19 else (bo_v_86 s))

noncomputable def bo_v_91 (s : SV) : Vars := (driedR [(.agg [(.flt .f32 ((bo_v_81 s).u 0)), (.flt .f32 (farith .add .f32 ((bo_v_81 s).u 1) (s.x.u 3))), (.flt .f32 ((bo_v_81 s).u 2)), (.flt .f32 ((bo_v_81 s).u 3))]), (.flt .f32 (s.x.u 0)), (.flt .f32 (s.x.u 1))])

noncomputable def bo_v_92 (s : SV) : Vars := (driedR [(.agg [(.flt .f32 (farith .add .f32 ((bo_v_91 s).u 0) (s.x.u 2))), (.flt .f32 ((bo_v_91 s).u 1)), (.flt .f32 ((bo_v_91 s).u 2)), (.flt .f32 ((bo_v_91 s).u 3))]), (.flt .f32 (s.x.u 0)), (.flt .f32 (s.x.u 1))])

noncomputable def bo_v_93 (s : SV) : Vars := (driedR [(.agg [(.flt .f32 ((bo_v_92 s).u 0)), (.flt .f32 ((bo_v_92 s).u 1)), (.flt .f32 (farith .add .f32 ((bo_v_92 s).u 2) (s.x.u 4))), (.flt .f32 ((bo_v_92 s).u 3))]), (.flt .f32 (s.x.u 0)), (.flt .f32 (s.x.u 1))])

noncomputable def bo_v_94 (s : SV) : Nat := (bif (fcmp .lss .f32 (farith .add .f32 (farith .add .f32 (farith .add .f32 ((bo_v_88 s).u 0) ((bo_v_88 s).u 1)) ((bo_v_88 s).u 2)) ((bo_v_88 s).u 3)) (bo_v_89 s)) then (farith .add .f32 (farith .add .f32 (farith .add .f32 ((bo_v_88 s).u 0) ((bo_v_88 s).u 1)) ((bo_v_88 s).u 2)) ((bo_v_88 s).u 3)) else (bo_v_89 s))

noncomputable def bo_v_95 (s : SV) : Int := (bif (fcmp .lss .f32 (farith .add .f32 (farith .add .f32 (farith .add .f32 ((bo_v_93 s).u 0) ((bo_v_93 s).u 1)) ((bo_v_93 s).u 2)) ((bo_v_93 s).u 3)) (bo_v_94 s)) then 20 else (bo_v_90 s))

noncomputable def bo_v_96 (s : SV) : Vars := (driedR [(.agg [(.flt .f32 ((bo_v_91 s).u 0)), (.flt .f32 ((bo_v_91 s).u 1)), (.flt .f32 (farith .add .f32 ((bo_v_91 s).u 2) (s.x.u 4))), (.flt .f32 ((bo_v_91 s).u 3))]), (.flt .f32 (s.x.u 0)), (.flt .f32 (s.x.u 1))])

noncomputable def bo_v_97 (s : SV) : Vars := (driedR [(.agg [(.flt .f32 (farith .add .f32 ((bo_v_96 s).u 0) (s.x.u 2))), (.flt .f32 ((bo_v_96 s).u 1)), (.flt .f32 ((bo_v_96 s).u 2)), (.flt .f32 ((bo_v_96 s).u 3))]), (.flt .f32 (s.x.u 0)), (.flt .f32 (s.x.u 1))])

noncomputable def bo_v_98 (s : SV) : Nat := (bif (fcmp .lss .f32 (farith .add .f32 (farith .add .f32 (farith .add .f32 ((bo_v_93 s).u 0) ((bo_v_93 s).u 1)) ((bo_v_93 s).u 2)) ((bo_v_93 s).u 3)) (bo_v_94 s)) then (farith .add .f32 (farith .add .f32 (farith .add .f32 ((bo_v_93 s).u 0) ((bo_v_93 s).u 1)) ((bo_v_93 s).u 2)) ((bo_v_93 s).u 3)) else (bo_v_94 s))

noncomputable def bo_v_99 (s : SV) : Int := (bif (fcmp .lss .f32 (farith .add .f32 (farith .add .f32 (farith .add .f32 ((bo_v_97 s).u 0) ((bo_v_97 s).u 1)) ((bo_v_97 s).u 2)) ((bo_v_97 s).u 3)) (bo_v_98 s)) then 21 else (bo_v_95 s))

noncomputable def bo_v_100 (s : SV) : Vars := (driedR [(.agg [(.flt .f32 ((bo_v_81 s).u 0)), (.flt .f32 ((bo_v_81 s).u 1)), (.flt .f32 (farith .add .f32 ((bo_v_81 s).u 2) (s.x.u 4))), (.flt .f32 ((bo_v_81 s).u 3))]), (.flt .f32 (s.x.u 0)), (.flt .f32 (s.x.u 1))])

noncomputable def bo_v_101 (s : SV) : Vars := (driedR [(.agg [(.flt .f32 (farith .add .f32 ((bo_v_100 s).u 0) (s.x.u 2))), (.flt .f32 ((bo_v_100 s).u 1)), (.flt .f32 ((bo_v_100 s).u 2)), (.flt .f32 ((bo_v_100 s).u 3))]), (.flt .f32 (s.x.u 0)), (.flt .f32 (s.x.u 1))])

noncomputable def bo_v_102 (s : SV) : Vars := (driedR [(.agg [(.flt .f32 ((bo_v_101 s).u 0)), (.flt .f32 (farith .add .f32 ((bo_v_101 s).u 1) (s.x.u 3))), (.flt .f32 ((bo_v_101 s).u 2)), (.flt .f32 ((bo_v_101 s).u 3))]), (.flt .f32 (s.x.u 0)), (.flt .f32 (s.x.u 1))])

noncomputable def bo_v_103 (s : SV) : Nat := (bif (fcmp .lss .f32 (farith .add .f32 (farith .add .f32 (farith .add .f32 ((bo_v_97 s).u 0) ((bo_v_97 s).u 1)) ((bo_v_97 s).u 2)) ((bo_v_97 s).u 3)) (bo_v_98 s)) then (farith .add .f32 (farith .add .f32 (farith .add .f32 ((bo_v_97 s).u 0) ((bo_v_97 s).u 1)) ((bo_v_97 s).u 2)) ((bo_v_97 s).u 3)) else (bo_v_98 s))

noncomputable def bo_v_104 (s : SV) : Int := (bif (fcmp .lss .f32 (farith .add .f32 (farith .add .f32 (farith .add .f32 ((bo_v_102 s).u 0) ((bo_v_102 s).u 1)) ((bo_v_102 s).u 2)) ((bo_v_102 s).u 3)) (bo_v_103 s)) then 22 else (bo_v_99 s))

noncomputable def bo_v_105 (s : SV) : Vars := (driedR [(.agg [(.flt .f32 ((bo_v_100 s).u 0)), (.flt .f32 (farith .add .f32 ((bo_v_100 s).u 1) (s.x.u 3))), (.flt .f32 ((bo_v_100 s).u 2)), (.flt .f32 ((bo_v_100 s).u 3))]), (.flt .f32 (s.x.u 0)), (.flt .f32 (s.x.u 1))])

noncomputable def bo_v_106 (s : SV) : Vars := (driedR [(.agg [(.flt .f32 (farith .add .f32 ((bo_v_105 s).u 0) (s.x.u 2))), (.flt .f32 ((bo_v_105 s).u 1)), (.flt .f32 ((bo_v_105 s).u 2)), (.flt .f32 ((bo_v_105 s).u 3))]), (.flt .f32 (s.x.u 0)), (.flt .f32 (s.x.u 1))])

noncomputable def bo_v_107 (s : SV) : Nat := (bif (fcmp .lss .f32 (farith .add .f32 (farith .add .f32 (farith .add .f32 ((bo_v_102 s).u 0) ((bo_v_102 s).u 1)) ((bo_v_102 s).u 2)) ((bo_v_102 s).u 3)) (bo_v_103 s)) then (farith .add .f32 (farith .add .f32 (farith .add .f32 ((bo_v_102 s).u 0) ((bo_v_102 s).u 1)) ((bo_v_102 s).u 2)) ((bo_v_102 s).u 3)) else (bo_v_103 s))

noncomputable def bo_v_108 (s : SV) : Int := (bif (fcmp .lss .f32 (farith .add .f32 (farith .add .f32 (farith .add .f32 ((bo_v_106 s).u 0) ((bo_v_106 s).u 1)) ((bo_v_106 s).u 2)) ((bo_v_106 s).u 3)) (bo_v_107 s)) then 23 else (bo_v_104 s))

noncomputable def bo_v_109 (s : SV) : Nat := (bif (fcmp .lss .f32 (farith .add .f32 (farith .add .f32 (farith .add .f32 ((bo_v_106 s).u 0) ((bo_v_106 s).u 1)) ((bo_v_106 s).u 2)) ((bo_v_106 s).u 3)) (bo_v_107 s)) then (farith .add .f32 (farith .add .f32 (farith .add .f32 ((bo_v_106 s).u 0) ((bo_v_106 s).u 1)) ((bo_v_106 s).u 2)) ((bo_v_106 s).u 3)) else (bo_v_107 s))

noncomputable def boT (s : SV) : Tr := (.out 0 (mkSV [(.sint .i64 (bo_v_108 s)), (.flt .f32 (bo_v_109 s))] [] [0, 0, 0, 0, 0, 0, 0, 0, 0, 0, 0, 0, 0, 0, 0, 0, 0, 0, 0, 0, 0, 0, 0, 0, 0, 0] [zeroV, zeroV, zeroV, zeroV, zeroV, zeroV, zeroV, zeroV, zeroV, zeroV, zeroV, zeroV, zeroV, zeroV, zeroV, zeroV, zeroV, zeroV, zeroV, zeroV, zeroV, zeroV, zeroV, zeroV, zeroV, zeroV]) [])

theorem bo_t (s : SV) : Go.Sim.stepB Try.prog G21 (ntOf Try.prog 23) noLT true 1000 boL (blkOf Try.prog 23 0) s = some (boT s) := by kernel_rfl

noncomputable def boF0 (s : SV) : Nat × SV := endT (boT s)

noncomputable def boF : SV → Nat × SV := Classical.choose (⟨boF0, rfl⟩ : ∃ f, f = boF0)

theorem boF_eq : boF = boF0 := Classical.choose_spec (⟨boF0, rfl⟩ : ∃ f, f = boF0)

noncomputable def boPre (_s : SV) : List Bool := []

noncomputable def Hbo : LTab := hookL 0 boL boPre boF noLT

theorem Hbo_ok : HFun Try.prog 0 Hbo 23 := by
  unfold Hbo
  rw [boF_eq]
  exact HFun.blk G21_ok mixed (J := true) (n := 1000) (L := boL) (T := boT) (pre := boPre) (HFun.none Try.prog 0 23) (by kernel_rfl) (by decide) (by decide) bo_t (fun _ _ => by unfold boT; simp [Tr.ok])

noncomputable def Hbs : LTab := splitW 0 10 [0, 1, 2, 3, 4, 5, 6, 7, 8, 9, 10, 11, 12, 13, 14, 15, 16, 17, 18, 19, 20, 21, 22, 23] Hbo

theorem Hbs_ok : HFun Try.prog 0 Hbs 23 := HFun.splitW Hbo_ok

end Go.Proofs.Ytekilpllicggeaa

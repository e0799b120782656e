/-
  Facts of this seat that its laws use; no conditions.
-/
import Derived.Test.YtekilpllicggeaaOrdc
namespace Go.Proofs.Ytekilpllicggeaa
open Go.Sim Go.ChangeShapes Go.WideShapes Go.ChangeAt Go.RowKit

noncomputable def tP0 (x : Vars) : Vars := driedR [.agg [(.flt .f32 (farith .add .f32 0 (x.u 0))), (.flt .f32 0), (.flt .f32 0), (.flt .f32 0)], .flt .f32 (x.u 4), .flt .f32 (x.u 5)]

noncomputable def tP1 (x : Vars) : Vars := driedR [.agg [(.flt .f32 0), (.flt .f32 (farith .add .f32 0 (x.u 1))), (.flt .f32 0), (.flt .f32 0)], .flt .f32 (x.u 4), .flt .f32 (x.u 5)]

noncomputable def tP2 (x : Vars) : Vars := driedR [.agg [(.flt .f32 0), (.flt .f32 0), (.flt .f32 (farith .add .f32 0 (x.u 2))), (.flt .f32 0)], .flt .f32 (x.u 4), .flt .f32 (x.u 5)]

noncomputable def tP3 (x : Vars) : Vars := driedR [.agg [(.flt .f32 0), (.flt .f32 0), (.flt .f32 0), (.flt .f32 (farith .add .f32 0 (x.u 3)))], .flt .f32 (x.u 4), .flt .f32 (x.u 5)]

noncomputable def tP01 (x : Vars) : Vars := driedR [.agg [(.flt .f32 ((tP0 x).u 0)), (.flt .f32 (farith .add .f32 ((tP0 x).u 1) (x.u 1))), (.flt .f32 ((tP0 x).u 2)), (.flt .f32 ((tP0 x).u 3))], .flt .f32 (x.u 4), .flt .f32 (x.u 5)]

noncomputable def tP02 (x : Vars) : Vars := driedR [.agg [(.flt .f32 ((tP0 x).u 0)), (.flt .f32 ((tP0 x).u 1)), (.flt .f32 (farith .add .f32 ((tP0 x).u 2) (x.u 2))), (.flt .f32 ((tP0 x).u 3))], .flt .f32 (x.u 4), .flt .f32 (x.u 5)]

noncomputable def tP03 (x : Vars) : Vars := driedR [.agg [(.flt .f32 ((tP0 x).u 0)), (.flt .f32 ((tP0 x).u 1)), (.flt .f32 ((tP0 x).u 2)), (.flt .f32 (farith .add .f32 ((tP0 x).u 3) (x.u 3)))], .flt .f32 (x.u 4), .flt .f32 (x.u 5)]

noncomputable def tP10 (x : Vars) : Vars := driedR [.agg [(.flt .f32 (farith .add .f32 ((tP1 x).u 0) (x.u 0))), (.flt .f32 ((tP1 x).u 1)), (.flt .f32 ((tP1 x).u 2)), (.flt .f32 ((tP1 x).u 3))], .flt .f32 (x.u 4), .flt .f32 (x.u 5)]

noncomputable def tP12 (x : Vars) : Vars := driedR [.agg [(.flt .f32 ((tP1 x).u 0)), (.flt .f32 ((tP1 x).u 1)), (.flt .f32 (farith .add .f32 ((tP1 x).u 2) (x.u 2))), (.flt .f32 ((tP1 x).u 3))], .flt .f32 (x.u 4), .flt .f32 (x.u 5)]

noncomputable def tP13 (x : Vars) : Vars := driedR [.agg [(.flt .f32 ((tP1 x).u 0)), (.flt .f32 ((tP1 x).u 1)), (.flt .f32 ((tP1 x).u 2)), (.flt .f32 (farith .add .f32 ((tP1 x).u 3) (x.u 3)))], .flt .f32 (x.u 4), .flt .f32 (x.u 5)]

noncomputable def tP20 (x : Vars) : Vars := driedR [.agg [(.flt .f32 (farith .add .f32 ((tP2 x).u 0) (x.u 0))), (.flt .f32 ((tP2 x).u 1)), (.flt .f32 ((tP2 x).u 2)), (.flt .f32 ((tP2 x).u 3))], .flt .f32 (x.u 4), .flt .f32 (x.u 5)]

noncomputable def tP21 (x : Vars) : Vars := driedR [.agg [(.flt .f32 ((tP2 x).u 0)), (.flt .f32 (farith .add .f32 ((tP2 x).u 1) (x.u 1))), (.flt .f32 ((tP2 x).u 2)), (.flt .f32 ((tP2 x).u 3))], .flt .f32 (x.u 4), .flt .f32 (x.u 5)]

noncomputable def tP23 (x : Vars) : Vars := driedR [.agg [(.flt .f32 ((tP2 x).u 0)), (.flt .f32 ((tP2 x).u 1)), (.flt .f32 ((tP2 x).u 2)), (.flt .f32 (farith .add .f32 ((tP2 x).u 3) (x.u 3)))], .flt .f32 (x.u 4), .flt .f32 (x.u 5)]

noncomputable def tP30 (x : Vars) : Vars := driedR [.agg [(.flt .f32 (farith .add .f32 ((tP3 x).u 0) (x.u 0))), (.flt .f32 ((tP3 x).u 1)), (.flt .f32 ((tP3 x).u 2)), (.flt .f32 ((tP3 x).u 3))], .flt .f32 (x.u 4), .flt .f32 (x.u 5)]

noncomputable def tP31 (x : Vars) : Vars := driedR [.agg [(.flt .f32 ((tP3 x).u 0)), (.flt .f32 (farith .add .f32 ((tP3 x).u 1) (x.u 1))), (.flt .f32 ((tP3 x).u 2)), (.flt .f32 ((tP3 x).u 3))], .flt .f32 (x.u 4), .flt .f32 (x.u 5)]

noncomputable def tP32 (x : Vars) : Vars := driedR [.agg [(.flt .f32 ((tP3 x).u 0)), (.flt .f32 ((tP3 x).u 1)), (.flt .f32 (farith .add .f32 ((tP3 x).u 2) (x.u 2))), (.flt .f32 ((tP3 x).u 3))], .flt .f32 (x.u 4), .flt .f32 (x.u 5)]

noncomputable def tP012 (x : Vars) : Vars := driedR [.agg [(.flt .f32 ((tP01 x).u 0)), (.flt .f32 ((tP01 x).u 1)), (.flt .f32 (farith .add .f32 ((tP01 x).u 2) (x.u 2))), (.flt .f32 ((tP01 x).u 3))], .flt .f32 (x.u 4), .flt .f32 (x.u 5)]

noncomputable def tP013 (x : Vars) : Vars := driedR [.agg [(.flt .f32 ((tP01 x).u 0)), (.flt .f32 ((tP01 x).u 1)), (.flt .f32 ((tP01 x).u 2)), (.flt .f32 (farith .add .f32 ((tP01 x).u 3) (x.u 3)))], .flt .f32 (x.u 4), .flt .f32 (x.u 5)]

noncomputable def tP021 (x : Vars) : Vars := driedR [.agg [(.flt .f32 ((tP02 x).u 0)), (.flt .f32 (farith .add .f32 ((tP02 x).u 1) (x.u 1))), (.flt .f32 ((tP02 x).u 2)), (.flt .f32 ((tP02 x).u 3))], .flt .f32 (x.u 4), .flt .f32 (x.u 5)]

noncomputable def tP023 (x : Vars) : Vars := driedR [.agg [(.flt .f32 ((tP02 x).u 0)), (.flt .f32 ((tP02 x).u 1)), (.flt .f32 ((tP02 x).u 2)), (.flt .f32 (farith .add .f32 ((tP02 x).u 3) (x.u 3)))], .flt .f32 (x.u 4), .flt .f32 (x.u 5)]

noncomputable def tP031 (x : Vars) : Vars := driedR [.agg [(.flt .f32 ((tP03 x).u 0)), (.flt .f32 (farith .add .f32 ((tP03 x).u 1) (x.u 1))), (.flt .f32 ((tP03 x).u 2)), (.flt .f32 ((tP03 x).u 3))], .flt .f32 (x.u 4), .flt .f32 (x.u 5)]

noncomputable def tP032 (x : Vars) : Vars := driedR [.agg [(.flt .f32 ((tP03 x).u 0)), (.flt .f32 ((tP03 x).u 1)), (.flt .f32 (farith .add .f32 ((tP03 x).u 2) (x.u 2))), (.flt .f32 ((tP03 x).u 3))], .flt .f32 (x.u 4), .flt .f32 (x.u 5)]

noncomputable def tP102 (x : Vars) : Vars := driedR [.agg [(.flt .f32 ((tP10 x).u 0)), (.flt .f32 ((tP10 x).u 1)), (.flt .f32 (farith .add .f32 ((tP10 x).u 2) (x.u 2))), (.flt .f32 ((tP10 x).u 3))], .flt .f32 (x.u 4), .flt .f32 (x.u 5)]

noncomputable def tP103 (x : Vars) : Vars := driedR [.agg [(.flt .f32 ((tP10 x).u 0)), (.flt .f32 ((tP10 x).u 1)), (.flt .f32 ((tP10 x).u 2)), (.flt .f32 (farith .add .f32 ((tP10 x).u 3) (x.u 3)))], .flt .f32 (x.u 4), .flt .f32 (x.u 5)]

noncomputable def tP120 (x : Vars) : Vars := driedR [.agg [(.flt .f32 (farith .add .f32 ((tP12 x).u 0) (x.u 0))), (.flt .f32 ((tP12 x).u 1)), (.flt .f32 ((tP12 x).u 2)), (.flt .f32 ((tP12 x).u 3))], .flt .f32 (x.u 4), .flt .f32 (x.u 5)]

noncomputable def tP123 (x : Vars) : Vars := driedR [.agg [(.flt .f32 ((tP12 x).u 0)), (.flt .f32 ((tP12 x).u 1)), (.flt .f32 ((tP12 x).u 2)), (.flt .f32 (farith .add .f32 ((tP12 x).u 3) (x.u 3)))], .flt .f32 (x.u 4), .flt .f32 (x.u 5)]

noncomputable def tP130 (x : Vars) : Vars := driedR [.agg [(.flt .f32 (farith .add .f32 ((tP13 x).u 0) (x.u 0))), (.flt .f32 ((tP13 x).u 1)), (.flt .f32 ((tP13 x).u 2)), (.flt .f32 ((tP13 x).u 3))], .flt .f32 (x.u 4), .flt .f32 (x.u 5)]

noncomputable def tP132 (x : Vars) : Vars := driedR [.agg [(.flt .f32 ((tP13 x).u 0)), (.flt .f32 ((tP13 x).u 1)), (.flt .f32 (farith .add .f32 ((tP13 x).u 2) (x.u 2))), (.flt .f32 ((tP13 x).u 3))], .flt .f32 (x.u 4), .flt .f32 (x.u 5)]

noncomputable def tP201 (x : Vars) : Vars := driedR [.agg [(.flt .f32 ((tP20 x).u 0)), (.flt .f32 (farith .add .f32 ((tP20 x).u 1) (x.u 1))), (.flt .f32 ((tP20 x).u 2)), (.flt .f32 ((tP20 x).u 3))], .flt .f32 (x.u 4), .flt .f32 (x.u 5)]

noncomputable def tP203 (x : Vars) : Vars := driedR [.agg [(.flt .f32 ((tP20 x).u 0)), (.flt .f32 ((tP20 x).u 1)), (.flt .f32 ((tP20 x).u 2)), (.flt .f32 (farith .add .f32 ((tP20 x).u 3) (x.u 3)))], .flt .f32 (x.u 4), .flt .f32 (x.u 5)]

noncomputable def tP210 (x : Vars) : Vars := driedR [.agg [(.flt .f32 (farith .add .f32 ((tP21 x).u 0) (x.u 0))), (.flt .f32 ((tP21 x).u 1)), (.flt .f32 ((tP21 x).u 2)), (.flt .f32 ((tP21 x).u 3))], .flt .f32 (x.u 4), .flt .f32 (x.u 5)]

noncomputable def tP213 (x : Vars) : Vars := driedR [.agg [(.flt .f32 ((tP21 x).u 0)), (.flt .f32 ((tP21 x).u 1)), (.flt .f32 ((tP21 x).u 2)), (.flt .f32 (farith .add .f32 ((tP21 x).u 3) (x.u 3)))], .flt .f32 (x.u 4), .flt .f32 (x.u 5)]

noncomputable def tP230 (x : Vars) : Vars := driedR [.agg [(.flt .f32 (farith .add .f32 ((tP23 x).u 0) (x.u 0))), (.flt .f32 ((tP23 x).u 1)), (.flt .f32 ((tP23 x).u 2)), (.flt .f32 ((tP23 x).u 3))], .flt .f32 (x.u 4), .flt .f32 (x.u 5)]

noncomputable def tP231 (x : Vars) : Vars := driedR [.agg [(.flt .f32 ((tP23 x).u 0)), (.flt .f32 (farith .add .f32 ((tP23 x).u 1) (x.u 1))), (.flt .f32 ((tP23 x).u 2)), (.flt .f32 ((tP23 x).u 3))], .flt .f32 (x.u 4), .flt .f32 (x.u 5)]

noncomputable def tP301 (x : Vars) : Vars := driedR [.agg [(.flt .f32 ((tP30 x).u 0)), (.flt .f32 (farith .add .f32 ((tP30 x).u 1) (x.u 1))), (.flt .f32 ((tP30 x).u 2)), (.flt .f32 ((tP30 x).u 3))], .flt .f32 (x.u 4), .flt .f32 (x.u 5)]

noncomputable def tP302 (x : Vars) : Vars := driedR [.agg [(.flt .f32 ((tP30 x).u 0)), (.flt .f32 ((tP30 x).u 1)), (.flt .f32 (farith .add .f32 ((tP30 x).u 2) (x.u 2))), (.flt .f32 ((tP30 x).u 3))], .flt .f32 (x.u 4), .flt .f32 (x.u 5)]

noncomputable def tP310 (x : Vars) : Vars := driedR [.agg [(.flt .f32 (farith .add .f32 ((tP31 x).u 0) (x.u 0))), (.flt .f32 ((tP31 x).u 1)), (.flt .f32 ((tP31 x).u 2)), (.flt .f32 ((tP31 x).u 3))], .flt .f32 (x.u 4), .flt .f32 (x.u 5)]

noncomputable def tP312 (x : Vars) : Vars := driedR [.agg [(.flt .f32 ((tP31 x).u 0)), (.flt .f32 ((tP31 x).u 1)), (.flt .f32 (farith .add .f32 ((tP31 x).u 2) (x.u 2))), (.flt .f32 ((tP31 x).u 3))], .flt .f32 (x.u 4), .flt .f32 (x.u 5)]

noncomputable def tP320 (x : Vars) : Vars := driedR [.agg [(.flt .f32 (farith .add .f32 ((tP32 x).u 0) (x.u 0))), (.flt .f32 ((tP32 x).u 1)), (.flt .f32 ((tP32 x).u 2)), (.flt .f32 ((tP32 x).u 3))], .flt .f32 (x.u 4), .flt .f32 (x.u 5)]

noncomputable def tP321 (x : Vars) : Vars := driedR [.agg [(.flt .f32 ((tP32 x).u 0)), (.flt .f32 (farith .add .f32 ((tP32 x).u 1) (x.u 1))), (.flt .f32 ((tP32 x).u 2)), (.flt .f32 ((tP32 x).u 3))], .flt .f32 (x.u 4), .flt .f32 (x.u 5)]

noncomputable def tP0123 (x : Vars) : Vars := driedR [.agg [(.flt .f32 ((tP012 x).u 0)), (.flt .f32 ((tP012 x).u 1)), (.flt .f32 ((tP012 x).u 2)), (.flt .f32 (farith .add .f32 ((tP012 x).u 3) (x.u 3)))], .flt .f32 (x.u 4), .flt .f32 (x.u 5)]

noncomputable def tP0132 (x : Vars) : Vars := driedR [.agg [(.flt .f32 ((tP013 x).u 0)), (.flt .f32 ((tP013 x).u 1)), (.flt .f32 (farith .add .f32 ((tP013 x).u 2) (x.u 2))), (.flt .f32 ((tP013 x).u 3))], .flt .f32 (x.u 4), .flt .f32 (x.u 5)]

noncomputable def tP0213 (x : Vars) : Vars := driedR [.agg [(.flt .f32 ((tP021 x).u 0)), (.flt .f32 ((tP021 x).u 1)), (.flt .f32 ((tP021 x).u 2)), (.flt .f32 (farith .add .f32 ((tP021 x).u 3) (x.u 3)))], .flt .f32 (x.u 4), .flt .f32 (x.u 5)]

noncomputable def tP0231 (x : Vars) : Vars := driedR [.agg [(.flt .f32 ((tP023 x).u 0)), (.flt .f32 (farith .add .f32 ((tP023 x).u 1) (x.u 1))), (.flt .f32 ((tP023 x).u 2)), (.flt .f32 ((tP023 x).u 3))], .flt .f32 (x.u 4), .flt .f32 (x.u 5)]

noncomputable def tP0312 (x : Vars) : Vars := driedR [.agg [(.flt .f32 ((tP031 x).u 0)), (.flt .f32 ((tP031 x).u 1)), (.flt .f32 (farith .add .f32 ((tP031 x).u 2) (x.u 2))), (.flt .f32 ((tP031 x).u 3))], .flt .f32 (x.u 4), .flt .f32 (x.u 5)]

noncomputable def tP0321 (x : Vars) : Vars := driedR [.agg [(.flt .f32 ((tP032 x).u 0)), (.flt .f32 (farith .add .f32 ((tP032 x).u 1) (x.u 1))), (.flt .f32 ((tP032 x).u 2)), (.flt .f32 ((tP032 x).u 3))], .flt .f32 (x.u 4), .flt .f32 (x.u 5)]

noncomputable def tP1023 (x : Vars) : Vars := driedR [.agg [(.flt .f32 ((tP102 x).u 0)), (.flt .f32 ((tP102 x).u 1)), (.flt .f32 ((tP102 x).u 2)), (.flt .f32 (farith .add .f32 ((tP102 x).u 3) (x.u 3)))], .flt .f32 (x.u 4), .flt .f32 (x.u 5)]

noncomputable def tP1032 (x : Vars) : Vars := driedR [.agg [(.flt .f32 ((tP103 x).u 0)), (.flt .f32 ((tP103 x).u 1)), (.flt .f32 (farith .add .f32 ((tP103 x).u 2) (x.u 2))), (.flt .f32 ((tP103 x).u 3))], .flt .f32 (x.u 4), .flt .f32 (x.u 5)]

noncomputable def tP1203 (x : Vars) : Vars := driedR [.agg [(.flt .f32 ((tP120 x).u 0)), (.flt .f32 ((tP120 x).u 1)), (.flt .f32 ((tP120 x).u 2)), (.flt .f32 (farith .add .f32 ((tP120 x).u 3) (x.u 3)))], .flt .f32 (x.u 4), .flt .f32 (x.u 5)]

noncomputable def tP1230 (x : Vars) : Vars := driedR [.agg [(.flt .f32 (farith .add .f32 ((tP123 x).u 0) (x.u 0))), (.flt .f32 ((tP123 x).u 1)), (.flt .f32 ((tP123 x).u 2)), (.flt .f32 ((tP123 x).u 3))], .flt .f32 (x.u 4), .flt .f32 (x.u 5)]

noncomputable def tP1302 (x : Vars) : Vars := driedR [.agg [(.flt .f32 ((tP130 x).u 0)), (.flt .f32 ((tP130 x).u 1)), (.flt .f32 (farith .add .f32 ((tP130 x).u 2) (x.u 2))), (.flt .f32 ((tP130 x).u 3))], .flt .f32 (x.u 4), .flt .f32 (x.u 5)]

noncomputable def tP1320 (x : Vars) : Vars := driedR [.agg [(.flt .f32 (farith .add .f32 ((tP132 x).u 0) (x.u 0))), (.flt .f32 ((tP132 x).u 1)), (.flt .f32 ((tP132 x).u 2)), (.flt .f32 ((tP132 x).u 3))], .flt .f32 (x.u 4), .flt .f32 (x.u 5)]

noncomputable def tP2013 (x : Vars) : Vars := driedR [.agg [(.flt .f32 ((tP201 x).u 0)), (.flt .f32 ((tP201 x).u 1)), (.flt .f32 ((tP201 x).u 2)), (.flt .f32 (farith .add .f32 ((tP201 x).u 3) (x.u 3)))], .flt .f32 (x.u 4), .flt .f32 (x.u 5)]

noncomputable def tP2031 (x : Vars) : Vars := driedR [.agg [(.flt .f32 ((tP203 x).u 0)), (.flt .f32 (farith .add .f32 ((tP203 x).u 1) (x.u 1))), (.flt .f32 ((tP203 x).u 2)), (.flt .f32 ((tP203 x).u 3))], .flt .f32 (x.u 4), .flt .f32 (x.u 5)]

noncomputable def tP2103 (x : Vars) : Vars := driedR [.agg [(.flt .f32 ((tP210 x).u 0)), (.flt .f32 ((tP210 x).u 1)), (.flt .f32 ((tP210 x).u 2)), (.flt .f32 (farith .add .f32 ((tP210 x).u 3) (x.u 3)))], .flt .f32 (x.u 4), .flt .f32 (x.u 5)]

noncomputable def tP2130 (x : Vars) : Vars := driedR [.agg [(.flt .f32 (farith .add .f32 ((tP213 x).u 0) (x.u 0))), (.flt .f32 ((tP213 x).u 1)), (.flt .f32 ((tP213 x).u 2)), (.flt .f32 ((tP213 x).u 3))], .flt .f32 (x.u 4), .flt .f32 (x.u 5)]

noncomputable def tP2301 (x : Vars) : Vars := driedR [.agg [(.flt .f32 ((tP230 x).u 0)), (.flt .f32 (farith .add .f32 ((tP230 x).u 1) (x.u 1))), (.flt .f32 ((tP230 x).u 2)), (.flt .f32 ((tP230 x).u 3))], .flt .f32 (x.u 4), .flt .f32 (x.u 5)]

noncomputable def tP2310 (x : Vars) : Vars := driedR [.agg [(.flt .f32 (farith .add .f32 ((tP231 x).u 0) (x.u 0))), (.flt .f32 ((tP231 x).u 1)), (.flt .f32 ((tP231 x).u 2)), (.flt .f32 ((tP231 x).u 3))], .flt .f32 (x.u 4), .flt .f32 (x.u 5)]

noncomputable def tP3012 (x : Vars) : Vars := driedR [.agg [(.flt .f32 ((tP301 x).u 0)), (.flt .f32 ((tP301 x).u 1)), (.flt .f32 (farith .add .f32 ((tP301 x).u 2) (x.u 2))), (.flt .f32 ((tP301 x).u 3))], .flt .f32 (x.u 4), .flt .f32 (x.u 5)]

noncomputable def tP3021 (x : Vars) : Vars := driedR [.agg [(.flt .f32 ((tP302 x).u 0)), (.flt .f32 (farith .add .f32 ((tP302 x).u 1) (x.u 1))), (.flt .f32 ((tP302 x).u 2)), (.flt .f32 ((tP302 x).u 3))], .flt .f32 (x.u 4), .flt .f32 (x.u 5)]

noncomputable def tP3102 (x : Vars) : Vars := driedR [.agg [(.flt .f32 ((tP310 x).u 0)), (.flt .f32 ((tP310 x).u 1)), (.flt .f32 (farith .add .f32 ((tP310 x).u 2) (x.u 2))), (.flt .f32 ((tP310 x).u 3))], .flt .f32 (x.u 4), .flt .f32 (x.u 5)]

noncomputable def tP3120 (x : Vars) : Vars := driedR [.agg [(.flt .f32 (farith .add .f32 ((tP312 x).u 0) (x.u 0))), (.flt .f32 ((tP312 x).u 1)), (.flt .f32 ((tP312 x).u 2)), (.flt .f32 ((tP312 x).u 3))], .flt .f32 (x.u 4), .flt .f32 (x.u 5)]

noncomputable def tP3201 (x : Vars) : Vars := driedR [.agg [(.flt .f32 ((tP320 x).u 0)), (.flt .f32 (farith .add .f32 ((tP320 x).u 1) (x.u 1))), (.flt .f32 ((tP320 x).u 2)), (.flt .f32 ((tP320 x).u 3))], .flt .f32 (x.u 4), .flt .f32 (x.u 5)]

noncomputable def tP3210 (x : Vars) : Vars := driedR [.agg [(.flt .f32 (farith .add .f32 ((tP321 x).u 0) (x.u 0))), (.flt .f32 ((tP321 x).u 1)), (.flt .f32 ((tP321 x).u 2)), (.flt .f32 ((tP321 x).u 3))], .flt .f32 (x.u 4), .flt .f32 (x.u 5)]

noncomputable def tT0 (x : Vars) : Nat := farith .add .f32 (farith .add .f32 (farith .add .f32 ((tP0123 x).u 0) ((tP0123 x).u 1)) ((tP0123 x).u 2)) ((tP0123 x).u 3)

noncomputable def tT1 (x : Vars) : Nat := farith .add .f32 (farith .add .f32 (farith .add .f32 ((tP0132 x).u 0) ((tP0132 x).u 1)) ((tP0132 x).u 2)) ((tP0132 x).u 3)

noncomputable def tT2 (x : Vars) : Nat := farith .add .f32 (farith .add .f32 (farith .add .f32 ((tP0213 x).u 0) ((tP0213 x).u 1)) ((tP0213 x).u 2)) ((tP0213 x).u 3)

noncomputable def tT3 (x : Vars) : Nat := farith .add .f32 (farith .add .f32 (farith .add .f32 ((tP0231 x).u 0) ((tP0231 x).u 1)) ((tP0231 x).u 2)) ((tP0231 x).u 3)

noncomputable def tT4 (x : Vars) : Nat := farith .add .f32 (farith .add .f32 (farith .add .f32 ((tP0312 x).u 0) ((tP0312 x).u 1)) ((tP0312 x).u 2)) ((tP0312 x).u 3)

noncomputable def tT5 (x : Vars) : Nat := farith .add .f32 (farith .add .f32 (farith .add .f32 ((tP0321 x).u 0) ((tP0321 x).u 1)) ((tP0321 x).u 2)) ((tP0321 x).u 3)

noncomputable def tT6 (x : Vars) : Nat := farith .add .f32 (farith .add .f32 (farith .add .f32 ((tP1023 x).u 0) ((tP1023 x).u 1)) ((tP1023 x).u 2)) ((tP1023 x).u 3)

noncomputable def tT7 (x : Vars) : Nat := farith .add .f32 (farith .add .f32 (farith .add .f32 ((tP1032 x).u 0) ((tP1032 x).u 1)) ((tP1032 x).u 2)) ((tP1032 x).u 3)

noncomputable def tT8 (x : Vars) : Nat := farith .add .f32 (farith .add .f32 (farith .add .f32 ((tP1203 x).u 0) ((tP1203 x).u 1)) ((tP1203 x).u 2)) ((tP1203 x).u 3)

noncomputable def tT9 (x : Vars) : Nat := farith .add .f32 (farith .add .f32 (farith .add .f32 ((tP1230 x).u 0) ((tP1230 x).u 1)) ((tP1230 x).u 2)) ((tP1230 x).u 3)

noncomputable def tT10 (x : Vars) : Nat := farith .add .f32 (farith .add .f32 (farith .add .f32 ((tP1302 x).u 0) ((tP1302 x).u 1)) ((tP1302 x).u 2)) ((tP1302 x).u 3)

noncomputable def tT11 (x : Vars) : Nat := farith .add .f32 (farith .add .f32 (farith .add .f32 ((tP1320 x).u 0) ((tP1320 x).u 1)) ((tP1320 x).u 2)) ((tP1320 x).u 3)

noncomputable def tT12 (x : Vars) : Nat := farith .add .f32 (farith .add .f32 (farith .add .f32 ((tP2013 x).u 0) ((tP2013 x).u 1)) ((tP2013 x).u 2)) ((tP2013 x).u 3)

noncomputable def tT13 (x : Vars) : Nat := farith .add .f32 (farith .add .f32 (farith .add .f32 ((tP2031 x).u 0) ((tP2031 x).u 1)) ((tP2031 x).u 2)) ((tP2031 x).u 3)

noncomputable def tT14 (x : Vars) : Nat := farith .add .f32 (farith .add .f32 (farith .add .f32 ((tP2103 x).u 0) ((tP2103 x).u 1)) ((tP2103 x).u 2)) ((tP2103 x).u 3)

noncomputable def tT15 (x : Vars) : Nat := farith .add .f32 (farith .add .f32 (farith .add .f32 ((tP2130 x).u 0) ((tP2130 x).u 1)) ((tP2130 x).u 2)) ((tP2130 x).u 3)

noncomputable def tT16 (x : Vars) : Nat := farith .add .f32 (farith .add .f32 (farith .add .f32 ((tP2301 x).u 0) ((tP2301 x).u 1)) ((tP2301 x).u 2)) ((tP2301 x).u 3)

noncomputable def tT17 (x : Vars) : Nat := farith .add .f32 (farith .add .f32 (farith .add .f32 ((tP2310 x).u 0) ((tP2310 x).u 1)) ((tP2310 x).u 2)) ((tP2310 x).u 3)

noncomputable def tT18 (x : Vars) : Nat := farith .add .f32 (farith .add .f32 (farith .add .f32 ((tP3012 x).u 0) ((tP3012 x).u 1)) ((tP3012 x).u 2)) ((tP3012 x).u 3)

noncomputable def tT19 (x : Vars) : Nat := farith .add .f32 (farith .add .f32 (farith .add .f32 ((tP3021 x).u 0) ((tP3021 x).u 1)) ((tP3021 x).u 2)) ((tP3021 x).u 3)

noncomputable def tT20 (x : Vars) : Nat := farith .add .f32 (farith .add .f32 (farith .add .f32 ((tP3102 x).u 0) ((tP3102 x).u 1)) ((tP3102 x).u 2)) ((tP3102 x).u 3)

noncomputable def tT21 (x : Vars) : Nat := farith .add .f32 (farith .add .f32 (farith .add .f32 ((tP3120 x).u 0) ((tP3120 x).u 1)) ((tP3120 x).u 2)) ((tP3120 x).u 3)

noncomputable def tT22 (x : Vars) : Nat := farith .add .f32 (farith .add .f32 (farith .add .f32 ((tP3201 x).u 0) ((tP3201 x).u 1)) ((tP3201 x).u 2)) ((tP3201 x).u 3)

noncomputable def tT23 (x : Vars) : Nat := farith .add .f32 (farith .add .f32 (farith .add .f32 ((tP3210 x).u 0) ((tP3210 x).u 1)) ((tP3210 x).u 2)) ((tP3210 x).u 3)

noncomputable def tL0 (x : Vars) : Nat := tT0 x
noncomputable def tQ0 (_ : Vars) : Int := 0

noncomputable def tL1 (x : Vars) : Nat := bif fcmp .lss .f32 (tT1 x) (tL0 x) then tT1 x else tL0 x

noncomputable def tQ1 (x : Vars) : Int := bif fcmp .lss .f32 (tT1 x) (tL0 x) then 1 else tQ0 x

noncomputable def tL2 (x : Vars) : Nat := bif fcmp .lss .f32 (tT2 x) (tL1 x) then tT2 x else tL1 x

noncomputable def tQ2 (x : Vars) : Int := bif fcmp .lss .f32 (tT2 x) (tL1 x) then 2 else tQ1 x

noncomputable def tL3 (x : Vars) : Nat := bif fcmp .lss .f32 (tT3 x) (tL2 x) then tT3 x else tL2 x

noncomputable def tQ3 (x : Vars) : Int := bif fcmp .lss .f32 (tT3 x) (tL2 x) then 3 else tQ2 x

noncomputable def tL4 (x : Vars) : Nat := bif fcmp .lss .f32 (tT4 x) (tL3 x) then tT4 x else tL3 x

noncomputable def tQ4 (x : Vars) : Int := bif fcmp .lss .f32 (tT4 x) (tL3 x) then 4 else tQ3 x

noncomputable def tL5 (x : Vars) : Nat := bif fcmp .lss .f32 (tT5 x) (tL4 x) then tT5 x else tL4 x

noncomputable def tQ5 (x : Vars) : Int := bif fcmp .lss .f32 (tT5 x) (tL4 x) then 5 else tQ4 x

noncomputable def tL6 (x : Vars) : Nat := bif fcmp .lss .f32 (tT6 x) (tL5 x) then tT6 x else tL5 x

noncomputable def tQ6 (x : Vars) : Int := bif fcmp .lss .f32 (tT6 x) (tL5 x) then 6 else tQ5 x

noncomputable def tL7 (x : Vars) : Nat := bif fcmp .lss .f32 (tT7 x) (tL6 x) then tT7 x else tL6 x

noncomputable def tQ7 (x : Vars) : Int := bif fcmp .lss .f32 (tT7 x) (tL6 x) then 7 else tQ6 x

noncomputable def tL8 (x : Vars) : Nat := bif fcmp .lss .f32 (tT8 x) (tL7 x) then tT8 x else tL7 x

noncomputable def tQ8 (x : Vars) : Int := bif fcmp .lss .f32 (tT8 x) (tL7 x) then 8 else tQ7 x

noncomputable def tL9 (x : Vars) : Nat := bif fcmp .lss .f32 (tT9 x) (tL8 x) then tT9 x else tL8 x

noncomputable def tQ9 (x : Vars) : Int := bif fcmp .lss .f32 (tT9 x) (tL8 x) then 9 else tQ8 x

noncomputable def tL10 (x : Vars) : Nat := bif fcmp .lss .f32 (tT10 x) (tL9 x) then tT10 x else tL9 x

noncomputable def tQ10 (x : Vars) : Int := bif fcmp .lss .f32 (tT10 x) (tL9 x) then 10 else tQ9 x

noncomputable def tL11 (x : Vars) : Nat := bif fcmp .lss .f32 (tT11 x) (tL10 x) then tT11 x else tL10 x

noncomputable def tQ11 (x : Vars) : Int := bif fcmp .lss .f32 (tT11 x) (tL10 x) then 11 else tQ10 x

noncomputable def tL12 (x : Vars) : Nat := bif fcmp .lss .f32 (tT12 x) (tL11 x) then tT12 x else tL11 x

noncomputable def tQ12 (x : Vars) : Int := bif fcmp .lss .f32 (tT12 x) (tL11 x) then 12 else tQ11 x

noncomputable def tL13 (x : Vars) : Nat := bif fcmp .lss .f32 (tT13 x) (tL12 x) then tT13 x else tL12 x

noncomputable def tQ13 (x : Vars) : Int := bif fcmp .lss .f32 (tT13 x) (tL12 x) then 13 else tQ12 x

noncomputable def tL14 (x : Vars) : Nat := bif fcmp .lss .f32 (tT14 x) (tL13 x) then tT14 x else tL13 x

noncomputable def tQ14 (x : Vars) : Int := bif fcmp .lss .f32 (tT14 x) (tL13 x) then 14 else tQ13 x

noncomputable def tL15 (x : Vars) : Nat := bif fcmp .lss .f32 (tT15 x) (tL14 x) then tT15 x else tL14 x

noncomputable def tQ15 (x : Vars) : Int := bif fcmp .lss .f32 (tT15 x) (tL14 x) then 15 else tQ14 x

noncomputable def tL16 (x : Vars) : Nat := bif fcmp .lss .f32 (tT16 x) (tL15 x) then tT16 x else tL15 x

noncomputable def tQ16 (x : Vars) : Int := bif fcmp .lss .f32 (tT16 x) (tL15 x) then 16 else tQ15 x

noncomputable def tL17 (x : Vars) : Nat := bif fcmp .lss .f32 (tT17 x) (tL16 x) then tT17 x else tL16 x

noncomputable def tQ17 (x : Vars) : Int := bif fcmp .lss .f32 (tT17 x) (tL16 x) then 17 else tQ16 x

noncomputable def tL18 (x : Vars) : Nat := bif fcmp .lss .f32 (tT18 x) (tL17 x) then tT18 x else tL17 x

noncomputable def tQ18 (x : Vars) : Int := bif fcmp .lss .f32 (tT18 x) (tL17 x) then 18 else tQ17 x

noncomputable def tL19 (x : Vars) : Nat := bif fcmp .lss .f32 (tT19 x) (tL18 x) then tT19 x else tL18 x

noncomputable def tQ19 (x : Vars) : Int := bif fcmp .lss .f32 (tT19 x) (tL18 x) then 19 else tQ18 x

noncomputable def tL20 (x : Vars) : Nat := bif fcmp .lss .f32 (tT20 x) (tL19 x) then tT20 x else tL19 x

noncomputable def tQ20 (x : Vars) : Int := bif fcmp .lss .f32 (tT20 x) (tL19 x) then 20 else tQ19 x

noncomputable def tL21 (x : Vars) : Nat := bif fcmp .lss .f32 (tT21 x) (tL20 x) then tT21 x else tL20 x

noncomputable def tQ21 (x : Vars) : Int := bif fcmp .lss .f32 (tT21 x) (tL20 x) then 21 else tQ20 x

noncomputable def tL22 (x : Vars) : Nat := bif fcmp .lss .f32 (tT22 x) (tL21 x) then tT22 x else tL21 x

noncomputable def tQ22 (x : Vars) : Int := bif fcmp .lss .f32 (tT22 x) (tL21 x) then 22 else tQ21 x

noncomputable def tL23 (x : Vars) : Nat := bif fcmp .lss .f32 (tT23 x) (tL22 x) then tT23 x else tL22 x

noncomputable def tQ23 (x : Vars) : Int := bif fcmp .lss .f32 (tT23 x) (tL22 x) then 23 else tQ22 x

def elP (p : Nat) (q : Int) : Int := (([[0, 1, 2, 3], [0, 1, 3, 2], [0, 2, 1, 3], [0, 2, 3, 1], [0, 3, 1, 2], [0, 3, 2, 1], [1, 0, 2, 3], [1, 0, 3, 2], [1, 2, 0, 3], [1, 2, 3, 0], [1, 3, 0, 2], [1, 3, 2, 0], [2, 0, 1, 3], [2, 0, 3, 1], [2, 1, 0, 3], [2, 1, 3, 0], [2, 3, 0, 1], [2, 3, 1, 0], [3, 0, 1, 2], [3, 0, 2, 1], [3, 1, 0, 2], [3, 1, 2, 0], [3, 2, 0, 1], [3, 2, 1, 0]] : List (List Int)).getD q.toNat []).getD p 0

noncomputable def tC0_0 (_ : Vars) : Int := 0
theorem tE0_0 (x : Vars) : elP 0 (tQ0 x) = tC0_0 x := by kernel_rfl

noncomputable def tC0_1 (_ : Vars) : Int := 0

theorem tE0_1 (x : Vars) : elP 0 (tQ1 x) = tC0_1 x := by
  unfold tQ1 tC0_1
  cases fcmp .lss .f32 (tT1 x) (tL0 x)
  · exact tE0_0 x
  · rfl

noncomputable def tC0_2 (_ : Vars) : Int := 0

theorem tE0_2 (x : Vars) : elP 0 (tQ2 x) = tC0_2 x := by
  unfold tQ2 tC0_2
  cases fcmp .lss .f32 (tT2 x) (tL1 x)
  · exact tE0_1 x
  · rfl

noncomputable def tC0_3 (_ : Vars) : Int := 0

theorem tE0_3 (x : Vars) : elP 0 (tQ3 x) = tC0_3 x := by
  unfold tQ3 tC0_3
  cases fcmp .lss .f32 (tT3 x) (tL2 x)
  · exact tE0_2 x
  · rfl

noncomputable def tC0_4 (_ : Vars) : Int := 0

theorem tE0_4 (x : Vars) : elP 0 (tQ4 x) = tC0_4 x := by
  unfold tQ4 tC0_4
  cases fcmp .lss .f32 (tT4 x) (tL3 x)
  · exact tE0_3 x
  · rfl

noncomputable def tC0_5 (_ : Vars) : Int := 0

theorem tE0_5 (x : Vars) : elP 0 (tQ5 x) = tC0_5 x := by
  unfold tQ5 tC0_5
  cases fcmp .lss .f32 (tT5 x) (tL4 x)
  · exact tE0_4 x
  · rfl

noncomputable def tC0_6 (x : Vars) : Int := bif fcmp .lss .f32 (tT6 x) (tL5 x) then 1 else tC0_5 x

theorem tE0_6 (x : Vars) : elP 0 (tQ6 x) = tC0_6 x := by
  unfold tQ6 tC0_6
  cases fcmp .lss .f32 (tT6 x) (tL5 x)
  · exact tE0_5 x
  · rfl

noncomputable def tC0_7 (x : Vars) : Int := bif fcmp .lss .f32 (tT7 x) (tL6 x) then 1 else tC0_6 x

theorem tE0_7 (x : Vars) : elP 0 (tQ7 x) = tC0_7 x := by
  unfold tQ7 tC0_7
  cases fcmp .lss .f32 (tT7 x) (tL6 x)
  · exact tE0_6 x
  · rfl

noncomputable def tC0_8 (x : Vars) : Int := bif fcmp .lss .f32 (tT8 x) (tL7 x) then 1 else tC0_7 x

theorem tE0_8 (x : Vars) : elP 0 (tQ8 x) = tC0_8 x := by
  unfold tQ8 tC0_8
  cases fcmp .lss .f32 (tT8 x) (tL7 x)
  · exact tE0_7 x
  · rfl

noncomputable def tC0_9 (x : Vars) : Int := bif fcmp .lss .f32 (tT9 x) (tL8 x) then 1 else tC0_8 x

theorem tE0_9 (x : Vars) : elP 0 (tQ9 x) = tC0_9 x := by
  unfold tQ9 tC0_9
  cases fcmp .lss .f32 (tT9 x) (tL8 x)
  · exact tE0_8 x
  · rfl

noncomputable def tC0_10 (x : Vars) : Int := bif fcmp .lss .f32 (tT10 x) (tL9 x) then 1 else tC0_9 x

theorem tE0_10 (x : Vars) : elP 0 (tQ10 x) = tC0_10 x := by
  unfold tQ10 tC0_10
  cases fcmp .lss .f32 (tT10 x) (tL9 x)
  · exact tE0_9 x
  · rfl

noncomputable def tC0_11 (x : Vars) : Int := bif fcmp .lss .f32 (tT11 x) (tL10 x) then 1 else tC0_10 x

theorem tE0_11 (x : Vars) : elP 0 (tQ11 x) = tC0_11 x := by
  unfold tQ11 tC0_11
  cases fcmp .lss .f32 (tT11 x) (tL10 x)
  · exact tE0_10 x
  · rfl

noncomputable def tC0_12 (x : Vars) : Int := bif fcmp .lss .f32 (tT12 x) (tL11 x) then 2 else tC0_11 x

theorem tE0_12 (x : Vars) : elP 0 (tQ12 x) = tC0_12 x := by
  unfold tQ12 tC0_12
  cases fcmp .lss .f32 (tT12 x) (tL11 x)
  · exact tE0_11 x
  · rfl

noncomputable def tC0_13 (x : Vars) : Int := bif fcmp .lss .f32 (tT13 x) (tL12 x) then 2 else tC0_12 x

theorem tE0_13 (x : Vars) : elP 0 (tQ13 x) = tC0_13 x := by
  unfold tQ13 tC0_13
  cases fcmp .lss .f32 (tT13 x) (tL12 x)
  · exact tE0_12 x
  · rfl

noncomputable def tC0_14 (x : Vars) : Int := bif fcmp .lss .f32 (tT14 x) (tL13 x) then 2 else tC0_13 x

theorem tE0_14 (x : Vars) : elP 0 (tQ14 x) = tC0_14 x := by
  unfold tQ14 tC0_14
  cases fcmp .lss .f32 (tT14 x) (tL13 x)
  · exact tE0_13 x
  · rfl

noncomputable def tC0_15 (x : Vars) : Int := bif fcmp .lss .f32 (tT15 x) (tL14 x) then 2 else tC0_14 x

theorem tE0_15 (x : Vars) : elP 0 (tQ15 x) = tC0_15 x := by
  unfold tQ15 tC0_15
  cases fcmp .lss .f32 (tT15 x) (tL14 x)
  · exact tE0_14 x
  · rfl

noncomputable def tC0_16 (x : Vars) : Int := bif fcmp .lss .f32 (tT16 x) (tL15 x) then 2 else tC0_15 x

theorem tE0_16 (x : Vars) : elP 0 (tQ16 x) = tC0_16 x := by
  unfold tQ16 tC0_16
  cases fcmp .lss .f32 (tT16 x) (tL15 x)
  · exact tE0_15 x
  · rfl

noncomputable def tC0_17 (x : Vars) : Int := bif fcmp .lss .f32 (tT17 x) (tL16 x) then 2 else tC0_16 x

theorem tE0_17 (x : Vars) : elP 0 (tQ17 x) = tC0_17 x := by
  unfold tQ17 tC0_17
  cases fcmp .lss .f32 (tT17 x) (tL16 x)
  · exact tE0_16 x
  · rfl

noncomputable def tC0_18 (x : Vars) : Int := bif fcmp .lss .f32 (tT18 x) (tL17 x) then 3 else tC0_17 x

theorem tE0_18 (x : Vars) : elP 0 (tQ18 x) = tC0_18 x := by
  unfold tQ18 tC0_18
  cases fcmp .lss .f32 (tT18 x) (tL17 x)
  · exact tE0_17 x
  · rfl

noncomputable def tC0_19 (x : Vars) : Int := bif fcmp .lss .f32 (tT19 x) (tL18 x) then 3 else tC0_18 x

theorem tE0_19 (x : Vars) : elP 0 (tQ19 x) = tC0_19 x := by
  unfold tQ19 tC0_19
  cases fcmp .lss .f32 (tT19 x) (tL18 x)
  · exact tE0_18 x
  · rfl

noncomputable def tC0_20 (x : Vars) : Int := bif fcmp .lss .f32 (tT20 x) (tL19 x) then 3 else tC0_19 x

theorem tE0_20 (x : Vars) : elP 0 (tQ20 x) = tC0_20 x := by
  unfold tQ20 tC0_20
  cases fcmp .lss .f32 (tT20 x) (tL19 x)
  · exact tE0_19 x
  · rfl

noncomputable def tC0_21 (x : Vars) : Int := bif fcmp .lss .f32 (tT21 x) (tL20 x) then 3 else tC0_20 x

theorem tE0_21 (x : Vars) : elP 0 (tQ21 x) = tC0_21 x := by
  unfold tQ21 tC0_21
  cases fcmp .lss .f32 (tT21 x) (tL20 x)
  · exact tE0_20 x
  · rfl

noncomputable def tC0_22 (x : Vars) : Int := bif fcmp .lss .f32 (tT22 x) (tL21 x) then 3 else tC0_21 x

theorem tE0_22 (x : Vars) : elP 0 (tQ22 x) = tC0_22 x := by
  unfold tQ22 tC0_22
  cases fcmp .lss .f32 (tT22 x) (tL21 x)
  · exact tE0_21 x
  · rfl

noncomputable def tC0_23 (x : Vars) : Int := bif fcmp .lss .f32 (tT23 x) (tL22 x) then 3 else tC0_22 x

theorem tE0_23 (x : Vars) : elP 0 (tQ23 x) = tC0_23 x := by
  unfold tQ23 tC0_23
  cases fcmp .lss .f32 (tT23 x) (tL22 x)
  · exact tE0_22 x
  · rfl

noncomputable def tC1_0 (_ : Vars) : Int := 1
theorem tE1_0 (x : Vars) : elP 1 (tQ0 x) = tC1_0 x := by kernel_rfl

noncomputable def tC1_1 (_ : Vars) : Int := 1

theorem tE1_1 (x : Vars) : elP 1 (tQ1 x) = tC1_1 x := by
  unfold tQ1 tC1_1
  cases fcmp .lss .f32 (tT1 x) (tL0 x)
  · exact tE1_0 x
  · rfl

noncomputable def tC1_2 (x : Vars) : Int := bif fcmp .lss .f32 (tT2 x) (tL1 x) then 2 else tC1_1 x

theorem tE1_2 (x : Vars) : elP 1 (tQ2 x) = tC1_2 x := by
  unfold tQ2 tC1_2
  cases fcmp .lss .f32 (tT2 x) (tL1 x)
  · exact tE1_1 x
  · rfl

noncomputable def tC1_3 (x : Vars) : Int := bif fcmp .lss .f32 (tT3 x) (tL2 x) then 2 else tC1_2 x

theorem tE1_3 (x : Vars) : elP 1 (tQ3 x) = tC1_3 x := by
  unfold tQ3 tC1_3
  cases fcmp .lss .f32 (tT3 x) (tL2 x)
  · exact tE1_2 x
  · rfl

noncomputable def tC1_4 (x : Vars) : Int := bif fcmp .lss .f32 (tT4 x) (tL3 x) then 3 else tC1_3 x

theorem tE1_4 (x : Vars) : elP 1 (tQ4 x) = tC1_4 x := by
  unfold tQ4 tC1_4
  cases fcmp .lss .f32 (tT4 x) (tL3 x)
  · exact tE1_3 x
  · rfl

noncomputable def tC1_5 (x : Vars) : Int := bif fcmp .lss .f32 (tT5 x) (tL4 x) then 3 else tC1_4 x

theorem tE1_5 (x : Vars) : elP 1 (tQ5 x) = tC1_5 x := by
  unfold tQ5 tC1_5
  cases fcmp .lss .f32 (tT5 x) (tL4 x)
  · exact tE1_4 x
  · rfl

noncomputable def tC1_6 (x : Vars) : Int := bif fcmp .lss .f32 (tT6 x) (tL5 x) then 0 else tC1_5 x

theorem tE1_6 (x : Vars) : elP 1 (tQ6 x) = tC1_6 x := by
  unfold tQ6 tC1_6
  cases fcmp .lss .f32 (tT6 x) (tL5 x)
  · exact tE1_5 x
  · rfl

noncomputable def tC1_7 (x : Vars) : Int := bif fcmp .lss .f32 (tT7 x) (tL6 x) then 0 else tC1_6 x

theorem tE1_7 (x : Vars) : elP 1 (tQ7 x) = tC1_7 x := by
  unfold tQ7 tC1_7
  cases fcmp .lss .f32 (tT7 x) (tL6 x)
  · exact tE1_6 x
  · rfl

noncomputable def tC1_8 (x : Vars) : Int := bif fcmp .lss .f32 (tT8 x) (tL7 x) then 2 else tC1_7 x

theorem tE1_8 (x : Vars) : elP 1 (tQ8 x) = tC1_8 x := by
  unfold tQ8 tC1_8
  cases fcmp .lss .f32 (tT8 x) (tL7 x)
  · exact tE1_7 x
  · rfl

noncomputable def tC1_9 (x : Vars) : Int := bif fcmp .lss .f32 (tT9 x) (tL8 x) then 2 else tC1_8 x

theorem tE1_9 (x : Vars) : elP 1 (tQ9 x) = tC1_9 x := by
  unfold tQ9 tC1_9
  cases fcmp .lss .f32 (tT9 x) (tL8 x)
  · exact tE1_8 x
  · rfl

noncomputable def tC1_10 (x : Vars) : Int := bif fcmp .lss .f32 (tT10 x) (tL9 x) then 3 else tC1_9 x

theorem tE1_10 (x : Vars) : elP 1 (tQ10 x) = tC1_10 x := by
  unfold tQ10 tC1_10
  cases fcmp .lss .f32 (tT10 x) (tL9 x)
  · exact tE1_9 x
  · rfl

noncomputable def tC1_11 (x : Vars) : Int := bif fcmp .lss .f32 (tT11 x) (tL10 x) then 3 else tC1_10 x

theorem tE1_11 (x : Vars) : elP 1 (tQ11 x) = tC1_11 x := by
  unfold tQ11 tC1_11
  cases fcmp .lss .f32 (tT11 x) (tL10 x)
  · exact tE1_10 x
  · rfl

noncomputable def tC1_12 (x : Vars) : Int := bif fcmp .lss .f32 (tT12 x) (tL11 x) then 0 else tC1_11 x

theorem tE1_12 (x : Vars) : elP 1 (tQ12 x) = tC1_12 x := by
  unfold tQ12 tC1_12
  cases fcmp .lss .f32 (tT12 x) (tL11 x)
  · exact tE1_11 x
  · rfl

noncomputable def tC1_13 (x : Vars) : Int := bif fcmp .lss .f32 (tT13 x) (tL12 x) then 0 else tC1_12 x

theorem tE1_13 (x : Vars) : elP 1 (tQ13 x) = tC1_13 x := by
  unfold tQ13 tC1_13
  cases fcmp .lss .f32 (tT13 x) (tL12 x)
  · exact tE1_12 x
  · rfl

noncomputable def tC1_14 (x : Vars) : Int := bif fcmp .lss .f32 (tT14 x) (tL13 x) then 1 else tC1_13 x

theorem tE1_14 (x : Vars) : elP 1 (tQ14 x) = tC1_14 x := by
  unfold tQ14 tC1_14
  cases fcmp .lss .f32 (tT14 x) (tL13 x)
  · exact tE1_13 x
  · rfl

noncomputable def tC1_15 (x : Vars) : Int := bif fcmp .lss .f32 (tT15 x) (tL14 x) then 1 else tC1_14 x

theorem tE1_15 (x : Vars) : elP 1 (tQ15 x) = tC1_15 x := by
  unfold tQ15 tC1_15
  cases fcmp .lss .f32 (tT15 x) (tL14 x)
  · exact tE1_14 x
  · rfl

noncomputable def tC1_16 (x : Vars) : Int := bif fcmp .lss .f32 (tT16 x) (tL15 x) then 3 else tC1_15 x

theorem tE1_16 (x : Vars) : elP 1 (tQ16 x) = tC1_16 x := by
  unfold tQ16 tC1_16
  cases fcmp .lss .f32 (tT16 x) (tL15 x)
  · exact tE1_15 x
  · rfl

noncomputable def tC1_17 (x : Vars) : Int := bif fcmp .lss .f32 (tT17 x) (tL16 x) then 3 else tC1_16 x

theorem tE1_17 (x : Vars) : elP 1 (tQ17 x) = tC1_17 x := by
  unfold tQ17 tC1_17
  cases fcmp .lss .f32 (tT17 x) (tL16 x)
  · exact tE1_16 x
  · rfl

noncomputable def tC1_18 (x : Vars) : Int := bif fcmp .lss .f32 (tT18 x) (tL17 x) then 0 else tC1_17 x

theorem tE1_18 (x : Vars) : elP 1 (tQ18 x) = tC1_18 x := by
  unfold tQ18 tC1_18
  cases fcmp .lss .f32 (tT18 x) (tL17 x)
  · exact tE1_17 x
  · rfl

noncomputable def tC1_19 (x : Vars) : Int := bif fcmp .lss .f32 (tT19 x) (tL18 x) then 0 else tC1_18 x

theorem tE1_19 (x : Vars) : elP 1 (tQ19 x) = tC1_19 x := by
  unfold tQ19 tC1_19
  cases fcmp .lss .f32 (tT19 x) (tL18 x)
  · exact tE1_18 x
  · rfl

noncomputable def tC1_20 (x : Vars) : Int := bif fcmp .lss .f32 (tT20 x) (tL19 x) then 1 else tC1_19 x

theorem tE1_20 (x : Vars) : elP 1 (tQ20 x) = tC1_20 x := by
  unfold tQ20 tC1_20
  cases fcmp .lss .f32 (tT20 x) (tL19 x)
  · exact tE1_19 x
  · rfl

noncomputable def tC1_21 (x : Vars) : Int := bif fcmp .lss .f32 (tT21 x) (tL20 x) then 1 else tC1_20 x

theorem tE1_21 (x : Vars) : elP 1 (tQ21 x) = tC1_21 x := by
  unfold tQ21 tC1_21
  cases fcmp .lss .f32 (tT21 x) (tL20 x)
  · exact tE1_20 x
  · rfl

noncomputable def tC1_22 (x : Vars) : Int := bif fcmp .lss .f32 (tT22 x) (tL21 x) then 2 else tC1_21 x

theorem tE1_22 (x : Vars) : elP 1 (tQ22 x) = tC1_22 x := by
  unfold tQ22 tC1_22
  cases fcmp .lss .f32 (tT22 x) (tL21 x)
  · exact tE1_21 x
  · rfl

noncomputable def tC1_23 (x : Vars) : Int := bif fcmp .lss .f32 (tT23 x) (tL22 x) then 2 else tC1_22 x

theorem tE1_23 (x : Vars) : elP 1 (tQ23 x) = tC1_23 x := by
  unfold tQ23 tC1_23
  cases fcmp .lss .f32 (tT23 x) (tL22 x)
  · exact tE1_22 x
  · rfl

noncomputable def tC2_0 (_ : Vars) : Int := 2
theorem tE2_0 (x : Vars) : elP 2 (tQ0 x) = tC2_0 x := by kernel_rfl

noncomputable def tC2_1 (x : Vars) : Int := bif fcmp .lss .f32 (tT1 x) (tL0 x) then 3 else tC2_0 x

theorem tE2_1 (x : Vars) : elP 2 (tQ1 x) = tC2_1 x := by
  unfold tQ1 tC2_1
  cases fcmp .lss .f32 (tT1 x) (tL0 x)
  · exact tE2_0 x
  · rfl

noncomputable def tC2_2 (x : Vars) : Int := bif fcmp .lss .f32 (tT2 x) (tL1 x) then 1 else tC2_1 x

theorem tE2_2 (x : Vars) : elP 2 (tQ2 x) = tC2_2 x := by
  unfold tQ2 tC2_2
  cases fcmp .lss .f32 (tT2 x) (tL1 x)
  · exact tE2_1 x
  · rfl

noncomputable def tC2_3 (x : Vars) : Int := bif fcmp .lss .f32 (tT3 x) (tL2 x) then 3 else tC2_2 x

theorem tE2_3 (x : Vars) : elP 2 (tQ3 x) = tC2_3 x := by
  unfold tQ3 tC2_3
  cases fcmp .lss .f32 (tT3 x) (tL2 x)
  · exact tE2_2 x
  · rfl

noncomputable def tC2_4 (x : Vars) : Int := bif fcmp .lss .f32 (tT4 x) (tL3 x) then 1 else tC2_3 x

theorem tE2_4 (x : Vars) : elP 2 (tQ4 x) = tC2_4 x := by
  unfold tQ4 tC2_4
  cases fcmp .lss .f32 (tT4 x) (tL3 x)
  · exact tE2_3 x
  · rfl

noncomputable def tC2_5 (x : Vars) : Int := bif fcmp .lss .f32 (tT5 x) (tL4 x) then 2 else tC2_4 x

theorem tE2_5 (x : Vars) : elP 2 (tQ5 x) = tC2_5 x := by
  unfold tQ5 tC2_5
  cases fcmp .lss .f32 (tT5 x) (tL4 x)
  · exact tE2_4 x
  · rfl

noncomputable def tC2_6 (x : Vars) : Int := bif fcmp .lss .f32 (tT6 x) (tL5 x) then 2 else tC2_5 x

theorem tE2_6 (x : Vars) : elP 2 (tQ6 x) = tC2_6 x := by
  unfold tQ6 tC2_6
  cases fcmp .lss .f32 (tT6 x) (tL5 x)
  · exact tE2_5 x
  · rfl

noncomputable def tC2_7 (x : Vars) : Int := bif fcmp .lss .f32 (tT7 x) (tL6 x) then 3 else tC2_6 x

theorem tE2_7 (x : Vars) : elP 2 (tQ7 x) = tC2_7 x := by
  unfold tQ7 tC2_7
  cases fcmp .lss .f32 (tT7 x) (tL6 x)
  · exact tE2_6 x
  · rfl

noncomputable def tC2_8 (x : Vars) : Int := bif fcmp .lss .f32 (tT8 x) (tL7 x) then 0 else tC2_7 x

theorem tE2_8 (x : Vars) : elP 2 (tQ8 x) = tC2_8 x := by
  unfold tQ8 tC2_8
  cases fcmp .lss .f32 (tT8 x) (tL7 x)
  · exact tE2_7 x
  · rfl

noncomputable def tC2_9 (x : Vars) : Int := bif fcmp .lss .f32 (tT9 x) (tL8 x) then 3 else tC2_8 x

theorem tE2_9 (x : Vars) : elP 2 (tQ9 x) = tC2_9 x := by
  unfold tQ9 tC2_9
  cases fcmp .lss .f32 (tT9 x) (tL8 x)
  · exact tE2_8 x
  · rfl

noncomputable def tC2_10 (x : Vars) : Int := bif fcmp .lss .f32 (tT10 x) (tL9 x) then 0 else tC2_9 x

theorem tE2_10 (x : Vars) : elP 2 (tQ10 x) = tC2_10 x := by
  unfold tQ10 tC2_10
  cases fcmp .lss .f32 (tT10 x) (tL9 x)
  · exact tE2_9 x
  · rfl

noncomputable def tC2_11 (x : Vars) : Int := bif fcmp .lss .f32 (tT11 x) (tL10 x) then 2 else tC2_10 x

theorem tE2_11 (x : Vars) : elP 2 (tQ11 x) = tC2_11 x := by
  unfold tQ11 tC2_11
  cases fcmp .lss .f32 (tT11 x) (tL10 x)
  · exact tE2_10 x
  · rfl

noncomputable def tC2_12 (x : Vars) : Int := bif fcmp .lss .f32 (tT12 x) (tL11 x) then 1 else tC2_11 x

theorem tE2_12 (x : Vars) : elP 2 (tQ12 x) = tC2_12 x := by
  unfold tQ12 tC2_12
  cases fcmp .lss .f32 (tT12 x) (tL11 x)
  · exact tE2_11 x
  · rfl

noncomputable def tC2_13 (x : Vars) : Int := bif fcmp .lss .f32 (tT13 x) (tL12 x) then 3 else tC2_12 x

theorem tE2_13 (x : Vars) : elP 2 (tQ13 x) = tC2_13 x := by
  unfold tQ13 tC2_13
  cases fcmp .lss .f32 (tT13 x) (tL12 x)
  · exact tE2_12 x
  · rfl

noncomputable def tC2_14 (x : Vars) : Int := bif fcmp .lss .f32 (tT14 x) (tL13 x) then 0 else tC2_13 x

theorem tE2_14 (x : Vars) : elP 2 (tQ14 x) = tC2_14 x := by
  unfold tQ14 tC2_14
  cases fcmp .lss .f32 (tT14 x) (tL13 x)
  · exact tE2_13 x
  · rfl

noncomputable def tC2_15 (x : Vars) : Int := bif fcmp .lss .f32 (tT15 x) (tL14 x) then 3 else tC2_14 x

theorem tE2_15 (x : Vars) : elP 2 (tQ15 x) = tC2_15 x := by
  unfold tQ15 tC2_15
  cases fcmp .lss .f32 (tT15 x) (tL14 x)
  · exact tE2_14 x
  · rfl

noncomputable def tC2_16 (x : Vars) : Int := bif fcmp .lss .f32 (tT16 x) (tL15 x) then 0 else tC2_15 x

theorem tE2_16 (x : Vars) : elP 2 (tQ16 x) = tC2_16 x := by
  unfold tQ16 tC2_16
  cases fcmp .lss .f32 (tT16 x) (tL15 x)
  · exact tE2_15 x
  · rfl

noncomputable def tC2_17 (x : Vars) : Int := bif fcmp .lss .f32 (tT17 x) (tL16 x) then 1 else tC2_16 x

theorem tE2_17 (x : Vars) : elP 2 (tQ17 x) = tC2_17 x := by
  unfold tQ17 tC2_17
  cases fcmp .lss .f32 (tT17 x) (tL16 x)
  · exact tE2_16 x
  · rfl

noncomputable def tC2_18 (x : Vars) : Int := bif fcmp .lss .f32 (tT18 x) (tL17 x) then 1 else tC2_17 x

theorem tE2_18 (x : Vars) : elP 2 (tQ18 x) = tC2_18 x := by
  unfold tQ18 tC2_18
  cases fcmp .lss .f32 (tT18 x) (tL17 x)
  · exact tE2_17 x
  · rfl

noncomputable def tC2_19 (x : Vars) : Int := bif fcmp .lss .f32 (tT19 x) (tL18 x) then 2 else tC2_18 x

theorem tE2_19 (x : Vars) : elP 2 (tQ19 x) = tC2_19 x := by
  unfold tQ19 tC2_19
  cases fcmp .lss .f32 (tT19 x) (tL18 x)
  · exact tE2_18 x
  · rfl

noncomputable def tC2_20 (x : Vars) : Int := bif fcmp .lss .f32 (tT20 x) (tL19 x) then 0 else tC2_19 x

theorem tE2_20 (x : Vars) : elP 2 (tQ20 x) = tC2_20 x := by
  unfold tQ20 tC2_20
  cases fcmp .lss .f32 (tT20 x) (tL19 x)
  · exact tE2_19 x
  · rfl

noncomputable def tC2_21 (x : Vars) : Int := bif fcmp .lss .f32 (tT21 x) (tL20 x) then 2 else tC2_20 x

theorem tE2_21 (x : Vars) : elP 2 (tQ21 x) = tC2_21 x := by
  unfold tQ21 tC2_21
  cases fcmp .lss .f32 (tT21 x) (tL20 x)
  · exact tE2_20 x
  · rfl

noncomputable def tC2_22 (x : Vars) : Int := bif fcmp .lss .f32 (tT22 x) (tL21 x) then 0 else tC2_21 x

theorem tE2_22 (x : Vars) : elP 2 (tQ22 x) = tC2_22 x := by
  unfold tQ22 tC2_22
  cases fcmp .lss .f32 (tT22 x) (tL21 x)
  · exact tE2_21 x
  · rfl

noncomputable def tC2_23 (x : Vars) : Int := bif fcmp .lss .f32 (tT23 x) (tL22 x) then 1 else tC2_22 x

theorem tE2_23 (x : Vars) : elP 2 (tQ23 x) = tC2_23 x := by
  unfold tQ23 tC2_23
  cases fcmp .lss .f32 (tT23 x) (tL22 x)
  · exact tE2_22 x
  · rfl

noncomputable def tC3_0 (_ : Vars) : Int := 3
theorem tE3_0 (x : Vars) : elP 3 (tQ0 x) = tC3_0 x := by kernel_rfl

noncomputable def tC3_1 (x : Vars) : Int := bif fcmp .lss .f32 (tT1 x) (tL0 x) then 2 else tC3_0 x

theorem tE3_1 (x : Vars) : elP 3 (tQ1 x) = tC3_1 x := by
  unfold tQ1 tC3_1
  cases fcmp .lss .f32 (tT1 x) (tL0 x)
  · exact tE3_0 x
  · rfl

noncomputable def tC3_2 (x : Vars) : Int := bif fcmp .lss .f32 (tT2 x) (tL1 x) then 3 else tC3_1 x

theorem tE3_2 (x : Vars) : elP 3 (tQ2 x) = tC3_2 x := by
  unfold tQ2 tC3_2
  cases fcmp .lss .f32 (tT2 x) (tL1 x)
  · exact tE3_1 x
  · rfl

noncomputable def tC3_3 (x : Vars) : Int := bif fcmp .lss .f32 (tT3 x) (tL2 x) then 1 else tC3_2 x

theorem tE3_3 (x : Vars) : elP 3 (tQ3 x) = tC3_3 x := by
  unfold tQ3 tC3_3
  cases fcmp .lss .f32 (tT3 x) (tL2 x)
  · exact tE3_2 x
  · rfl

noncomputable def tC3_4 (x : Vars) : Int := bif fcmp .lss .f32 (tT4 x) (tL3 x) then 2 else tC3_3 x

theorem tE3_4 (x : Vars) : elP 3 (tQ4 x) = tC3_4 x := by
  unfold tQ4 tC3_4
  cases fcmp .lss .f32 (tT4 x) (tL3 x)
  · exact tE3_3 x
  · rfl

noncomputable def tC3_5 (x : Vars) : Int := bif fcmp .lss .f32 (tT5 x) (tL4 x) then 1 else tC3_4 x

theorem tE3_5 (x : Vars) : elP 3 (tQ5 x) = tC3_5 x := by
  unfold tQ5 tC3_5
  cases fcmp .lss .f32 (tT5 x) (tL4 x)
  · exact tE3_4 x
  · rfl

noncomputable def tC3_6 (x : Vars) : Int := bif fcmp .lss .f32 (tT6 x) (tL5 x) then 3 else tC3_5 x

theorem tE3_6 (x : Vars) : elP 3 (tQ6 x) = tC3_6 x := by
  unfold tQ6 tC3_6
  cases fcmp .lss .f32 (tT6 x) (tL5 x)
  · exact tE3_5 x
  · rfl

noncomputable def tC3_7 (x : Vars) : Int := bif fcmp .lss .f32 (tT7 x) (tL6 x) then 2 else tC3_6 x

theorem tE3_7 (x : Vars) : elP 3 (tQ7 x) = tC3_7 x := by
  unfold tQ7 tC3_7
  cases fcmp .lss .f32 (tT7 x) (tL6 x)
  · exact tE3_6 x
  · rfl

noncomputable def tC3_8 (x : Vars) : Int := bif fcmp .lss .f32 (tT8 x) (tL7 x) then 3 else tC3_7 x

theorem tE3_8 (x : Vars) : elP 3 (tQ8 x) = tC3_8 x := by
  unfold tQ8 tC3_8
  cases fcmp .lss .f32 (tT8 x) (tL7 x)
  · exact tE3_7 x
  · rfl

noncomputable def tC3_9 (x : Vars) : Int := bif fcmp .lss .f32 (tT9 x) (tL8 x) then 0 else tC3_8 x

theorem tE3_9 (x : Vars) : elP 3 (tQ9 x) = tC3_9 x := by
  unfold tQ9 tC3_9
  cases fcmp .lss .f32 (tT9 x) (tL8 x)
  · exact tE3_8 x
  · rfl

noncomputable def tC3_10 (x : Vars) : Int := bif fcmp .lss .f32 (tT10 x) (tL9 x) then 2 else tC3_9 x

theorem tE3_10 (x : Vars) : elP 3 (tQ10 x) = tC3_10 x := by
  unfold tQ10 tC3_10
  cases fcmp .lss .f32 (tT10 x) (tL9 x)
  · exact tE3_9 x
  · rfl

noncomputable def tC3_11 (x : Vars) : Int := bif fcmp .lss .f32 (tT11 x) (tL10 x) then 0 else tC3_10 x

theorem tE3_11 (x : Vars) : elP 3 (tQ11 x) = tC3_11 x := by
  unfold tQ11 tC3_11
  cases fcmp .lss .f32 (tT11 x) (tL10 x)
  · exact tE3_10 x
  · rfl

noncomputable def tC3_12 (x : Vars) : Int := bif fcmp .lss .f32 (tT12 x) (tL11 x) then 3 else tC3_11 x

theorem tE3_12 (x : Vars) : elP 3 (tQ12 x) = tC3_12 x := by
  unfold tQ12 tC3_12
  cases fcmp .lss .f32 (tT12 x) (tL11 x)
  · exact tE3_11 x
  · rfl

noncomputable def tC3_13 (x : Vars) : Int := bif fcmp .lss .f32 (tT13 x) (tL12 x) then 1 else tC3_12 x

theorem tE3_13 (x : Vars) : elP 3 (tQ13 x) = tC3_13 x := by
  unfold tQ13 tC3_13
  cases fcmp .lss .f32 (tT13 x) (tL12 x)
  · exact tE3_12 x
  · rfl

noncomputable def tC3_14 (x : Vars) : Int := bif fcmp .lss .f32 (tT14 x) (tL13 x) then 3 else tC3_13 x

theorem tE3_14 (x : Vars) : elP 3 (tQ14 x) = tC3_14 x := by
  unfold tQ14 tC3_14
  cases fcmp .lss .f32 (tT14 x) (tL13 x)
  · exact tE3_13 x
  · rfl

noncomputable def tC3_15 (x : Vars) : Int := bif fcmp .lss .f32 (tT15 x) (tL14 x) then 0 else tC3_14 x

theorem tE3_15 (x : Vars) : elP 3 (tQ15 x) = tC3_15 x := by
  unfold tQ15 tC3_15
  cases fcmp .lss .f32 (tT15 x) (tL14 x)
  · exact tE3_14 x
  · rfl

noncomputable def tC3_16 (x : Vars) : Int := bif fcmp .lss .f32 (tT16 x) (tL15 x) then 1 else tC3_15 x

theorem tE3_16 (x : Vars) : elP 3 (tQ16 x) = tC3_16 x := by
  unfold tQ16 tC3_16
  cases fcmp .lss .f32 (tT16 x) (tL15 x)
  · exact tE3_15 x
  · rfl

noncomputable def tC3_17 (x : Vars) : Int := bif fcmp .lss .f32 (tT17 x) (tL16 x) then 0 else tC3_16 x

theorem tE3_17 (x : Vars) : elP 3 (tQ17 x) = tC3_17 x := by
  unfold tQ17 tC3_17
  cases fcmp .lss .f32 (tT17 x) (tL16 x)
  · exact tE3_16 x
  · rfl

noncomputable def tC3_18 (x : Vars) : Int := bif fcmp .lss .f32 (tT18 x) (tL17 x) then 2 else tC3_17 x

theorem tE3_18 (x : Vars) : elP 3 (tQ18 x) = tC3_18 x := by
  unfold tQ18 tC3_18
  cases fcmp .lss .f32 (tT18 x) (tL17 x)
  · exact tE3_17 x
  · rfl

noncomputable def tC3_19 (x : Vars) : Int := bif fcmp .lss .f32 (tT19 x) (tL18 x) then 1 else tC3_18 x

theorem tE3_19 (x : Vars) : elP 3 (tQ19 x) = tC3_19 x := by
  unfold tQ19 tC3_19
  cases fcmp .lss .f32 (tT19 x) (tL18 x)
  · exact tE3_18 x
  · rfl

noncomputable def tC3_20 (x : Vars) : Int := bif fcmp .lss .f32 (tT20 x) (tL19 x) then 2 else tC3_19 x

theorem tE3_20 (x : Vars) : elP 3 (tQ20 x) = tC3_20 x := by
  unfold tQ20 tC3_20
  cases fcmp .lss .f32 (tT20 x) (tL19 x)
  · exact tE3_19 x
  · rfl

noncomputable def tC3_21 (x : Vars) : Int := bif fcmp .lss .f32 (tT21 x) (tL20 x) then 0 else tC3_20 x

theorem tE3_21 (x : Vars) : elP 3 (tQ21 x) = tC3_21 x := by
  unfold tQ21 tC3_21
  cases fcmp .lss .f32 (tT21 x) (tL20 x)
  · exact tE3_20 x
  · rfl

noncomputable def tC3_22 (x : Vars) : Int := bif fcmp .lss .f32 (tT22 x) (tL21 x) then 1 else tC3_21 x

theorem tE3_22 (x : Vars) : elP 3 (tQ22 x) = tC3_22 x := by
  unfold tQ22 tC3_22
  cases fcmp .lss .f32 (tT22 x) (tL21 x)
  · exact tE3_21 x
  · rfl

noncomputable def tC3_23 (x : Vars) : Int := bif fcmp .lss .f32 (tT23 x) (tL22 x) then 0 else tC3_22 x

theorem tE3_23 (x : Vars) : elP 3 (tQ23 x) = tC3_23 x := by
  unfold tQ23 tC3_23
  cases fcmp .lss .f32 (tT23 x) (tL22 x)
  · exact tE3_22 x
  · rfl

theorem tG0 (x : Vars) : 0 ≤ tQ0 x ∧ tQ0 x < 24 := ⟨by unfold tQ0; decide, by unfold tQ0; decide⟩

theorem tG1 (x : Vars) : 0 ≤ tQ1 x ∧ tQ1 x < 24 := by
  unfold tQ1
  cases fcmp .lss .f32 (tT1 x) (tL0 x)
  · exact tG0 x
  · exact (show (0 : Int) ≤ 1 ∧ (1 : Int) < 24 from ⟨by decide, by decide⟩)

theorem tG2 (x : Vars) : 0 ≤ tQ2 x ∧ tQ2 x < 24 := by
  unfold tQ2
  cases fcmp .lss .f32 (tT2 x) (tL1 x)
  · exact tG1 x
  · exact (show (0 : Int) ≤ 2 ∧ (2 : Int) < 24 from ⟨by decide, by decide⟩)

theorem tG3 (x : Vars) : 0 ≤ tQ3 x ∧ tQ3 x < 24 := by
  unfold tQ3
  cases fcmp .lss .f32 (tT3 x) (tL2 x)
  · exact tG2 x
  · exact (show (0 : Int) ≤ 3 ∧ (3 : Int) < 24 from ⟨by decide, by decide⟩)

theorem tG4 (x : Vars) : 0 ≤ tQ4 x ∧ tQ4 x < 24 := by
  unfold tQ4
  cases fcmp .lss .f32 (tT4 x) (tL3 x)
  · exact tG3 x
  · exact (show (0 : Int) ≤ 4 ∧ (4 : Int) < 24 from ⟨by decide, by decide⟩)

theorem tG5 (x : Vars) : 0 ≤ tQ5 x ∧ tQ5 x < 24 := by
  unfold tQ5
  cases fcmp .lss .f32 (tT5 x) (tL4 x)
  · exact tG4 x
  · exact (show (0 : Int) ≤ 5 ∧ (5 : Int) < 24 from ⟨by decide, by decide⟩)

theorem tG6 (x : Vars) : 0 ≤ tQ6 x ∧ tQ6 x < 24 := by
  unfold tQ6
  cases fcmp .lss .f32 (tT6 x) (tL5 x)
  · exact tG5 x
  · exact (show (0 : Int) ≤ 6 ∧ (6 : Int) < 24 from ⟨by decide, by decide⟩)

theorem tG7 (x : Vars) : 0 ≤ tQ7 x ∧ tQ7 x < 24 := by
  unfold tQ7
  cases fcmp .lss .f32 (tT7 x) (tL6 x)
  · exact tG6 x
  · exact (show (0 : Int) ≤ 7 ∧ (7 : Int) < 24 from ⟨by decide, by decide⟩)

theorem tG8 (x : Vars) : 0 ≤ tQ8 x ∧ tQ8 x < 24 := by
  unfold tQ8
  cases fcmp .lss .f32 (tT8 x) (tL7 x)
  · exact tG7 x
  · exact (show (0 : Int) ≤ 8 ∧ (8 : Int) < 24 from ⟨by decide, by decide⟩)

theorem tG9 (x : Vars) : 0 ≤ tQ9 x ∧ tQ9 x < 24 := by
  unfold tQ9
  cases fcmp .lss .f32 (tT9 x) (tL8 x)
  · exact tG8 x
  · exact (show (0 : Int) ≤ 9 ∧ (9 : Int) < 24 from ⟨by decide, by decide⟩)

theorem tG10 (x : Vars) : 0 ≤ tQ10 x ∧ tQ10 x < 24 := by
  unfold tQ10
  cases fcmp .lss .f32 (tT10 x) (tL9 x)
  · exact tG9 x
  · exact (show (0 : Int) ≤ 10 ∧ (10 : Int) < 24 from ⟨by decide, by decide⟩)

theorem tG11 (x : Vars) : 0 ≤ tQ11 x ∧ tQ11 x < 24 := by
  unfold tQ11
  cases fcmp .lss .f32 (tT11 x) (tL10 x)
  · exact tG10 x
  · exact (show (0 : Int) ≤ 11 ∧ (11 : Int) < 24 from ⟨by decide, by decide⟩)

theorem tG12 (x : Vars) : 0 ≤ tQ12 x ∧ tQ12 x < 24 := by
  unfold tQ12
  cases fcmp .lss .f32 (tT12 x) (tL11 x)
  · exact tG11 x
  · exact (show (0 : Int) ≤ 12 ∧ (12 : Int) < 24 from ⟨by decide, by decide⟩)

theorem tG13 (x : Vars) : 0 ≤ tQ13 x ∧ tQ13 x < 24 := by
  unfold tQ13
  cases fcmp .lss .f32 (tT13 x) (tL12 x)
  · exact tG12 x
  · exact (show (0 : Int) ≤ 13 ∧ (13 : Int) < 24 from ⟨by decide, by decide⟩)

theorem tG14 (x : Vars) : 0 ≤ tQ14 x ∧ tQ14 x < 24 := by
  unfold tQ14
  cases fcmp .lss .f32 (tT14 x) (tL13 x)
  · exact tG13 x
  · exact (show (0 : Int) ≤ 14 ∧ (14 : Int) < 24 from ⟨by decide, by decide⟩)

theorem tG15 (x : Vars) : 0 ≤ tQ15 x ∧ tQ15 x < 24 := by
  unfold tQ15
  cases fcmp .lss .f32 (tT15 x) (tL14 x)
  · exact tG14 x
  · exact (show (0 : Int) ≤ 15 ∧ (15 : Int) < 24 from ⟨by decide, by decide⟩)

theorem tG16 (x : Vars) : 0 ≤ tQ16 x ∧ tQ16 x < 24 := by
  unfold tQ16
  cases fcmp .lss .f32 (tT16 x) (tL15 x)
  · exact tG15 x
  · exact (show (0 : Int) ≤ 16 ∧ (16 : Int) < 24 from ⟨by decide, by decide⟩)

theorem tG17 (x : Vars) : 0 ≤ tQ17 x ∧ tQ17 x < 24 := by
  unfold tQ17
  cases fcmp .lss .f32 (tT17 x) (tL16 x)
  · exact tG16 x
  · exact (show (0 : Int) ≤ 17 ∧ (17 : Int) < 24 from ⟨by decide, by decide⟩)

theorem tG18 (x : Vars) : 0 ≤ tQ18 x ∧ tQ18 x < 24 := by
  unfold tQ18
  cases fcmp .lss .f32 (tT18 x) (tL17 x)
  · exact tG17 x
  · exact (show (0 : Int) ≤ 18 ∧ (18 : Int) < 24 from ⟨by decide, by decide⟩)

theorem tG19 (x : Vars) : 0 ≤ tQ19 x ∧ tQ19 x < 24 := by
  unfold tQ19
  cases fcmp .lss .f32 (tT19 x) (tL18 x)
  · exact tG18 x
  · exact (show (0 : Int) ≤ 19 ∧ (19 : Int) < 24 from ⟨by decide, by decide⟩)

theorem tG20 (x : Vars) : 0 ≤ tQ20 x ∧ tQ20 x < 24 := by
  unfold tQ20
  cases fcmp .lss .f32 (tT20 x) (tL19 x)
  · exact tG19 x
  · exact (show (0 : Int) ≤ 20 ∧ (20 : Int) < 24 from ⟨by decide, by decide⟩)

theorem tG21 (x : Vars) : 0 ≤ tQ21 x ∧ tQ21 x < 24 := by
  unfold tQ21
  cases fcmp .lss .f32 (tT21 x) (tL20 x)
  · exact tG20 x
  · exact (show (0 : Int) ≤ 21 ∧ (21 : Int) < 24 from ⟨by decide, by decide⟩)

theorem tG22 (x : Vars) : 0 ≤ tQ22 x ∧ tQ22 x < 24 := by
  unfold tQ22
  cases fcmp .lss .f32 (tT22 x) (tL21 x)
  · exact tG21 x
  · exact (show (0 : Int) ≤ 22 ∧ (22 : Int) < 24 from ⟨by decide, by decide⟩)

theorem tG23 (x : Vars) : 0 ≤ tQ23 x ∧ tQ23 x < 24 := by
  unfold tQ23
  cases fcmp .lss .f32 (tT23 x) (tL22 x)
  · exact tG22 x
  · exact (show (0 : Int) ≤ 23 ∧ (23 : Int) < 24 from ⟨by decide, by decide⟩)

noncomputable def bi_v_0 (x : Vars) : Vars := (sr0R [(.flt .f32 (x.u 0)), (.flt .f32 (x.u 1)), (.flt .f32 (x.u 2)), (.flt .f32 (x.u 3)), (.flt .f32 (x.u 4)), (.flt .f32 (x.u 5))])

noncomputable def bi_v_1 (x : Vars) : Vars := (sr1R [(.flt .f32 (x.u 0)), (.flt .f32 (x.u 1)), (.flt .f32 (x.u 2)), (.flt .f32 (x.u 3)), (.flt .f32 (x.u 4)), (.flt .f32 (x.u 5)), (.flt .f32 ((bi_v_0 x).u 0)), (.sint .i64 ((bi_v_0 x).i 1)), (.sint .i64 ((bi_v_0 x).i 2)), (.sint .i64 ((bi_v_0 x).i 3))])

noncomputable def bi_v_2 (x : Vars) : Vars := (sr2R [(.flt .f32 (x.u 0)), (.flt .f32 (x.u 1)), (.flt .f32 (x.u 2)), (.flt .f32 (x.u 3)), (.flt .f32 (x.u 4)), (.flt .f32 (x.u 5)), (.flt .f32 ((bi_v_1 x).u 0)), (.sint .i64 ((bi_v_1 x).i 1)), (.sint .i64 ((bi_v_1 x).i 2)), (.sint .i64 ((bi_v_1 x).i 3)), (.sint .i64 ((bi_v_1 x).i 4))])

noncomputable def bi_v_3 (x : Vars) : Vars := (sr3R [(.flt .f32 (x.u 0)), (.flt .f32 (x.u 1)), (.flt .f32 (x.u 2)), (.flt .f32 (x.u 3)), (.flt .f32 (x.u 4)), (.flt .f32 (x.u 5)), (.flt .f32 ((bi_v_2 x).u 0)), (.sint .i64 ((bi_v_2 x).i 1)), (.sint .i64 ((bi_v_2 x).i 2)), (.sint .i64 ((bi_v_2 x).i 3)), (.sint .i64 ((bi_v_2 x).i 4))])

noncomputable def bi_v_4 (x : Vars) : Bool := ((fcmp .geq .f32 (x.u 5) 0) && (fcmp .leq .f32 (x.u 5) 1233125376))

noncomputable def bi_v_5 (x : Vars) : Bool := ((fcmp .geq .f32 (x.u 4) 0) && (fcmp .leq .f32 (x.u 4) 1233125376))

noncomputable def bi_v_6 (x : Vars) : Vars := (filmsR [(.flt .f32 (x.u 0)), (.flt .f32 (x.u 1)), (.flt .f32 (x.u 2)), (.flt .f32 (x.u 3))])

theorem bi_p0 (x : Vars) : ((bi_v_3 x).i 1) = tC0_23 x := by
  unfold bi_v_3 bi_v_2 bi_v_1 bi_v_0
  rw [sr3R_eq, sr2R_eq, sr1R_eq, sr0R_eq]
  kernel_rfl

theorem bi_p1 (x : Vars) : ((bi_v_3 x).i 2) = tC1_23 x := by
  unfold bi_v_3 bi_v_2 bi_v_1 bi_v_0
  rw [sr3R_eq, sr2R_eq, sr1R_eq, sr0R_eq]
  kernel_rfl

theorem bi_p2 (x : Vars) : ((bi_v_3 x).i 3) = tC2_23 x := by
  unfold bi_v_3 bi_v_2 bi_v_1 bi_v_0
  rw [sr3R_eq, sr2R_eq, sr1R_eq, sr0R_eq]
  kernel_rfl

theorem bi_p3 (x : Vars) : ((bi_v_3 x).i 4) = tC3_23 x := by
  unfold bi_v_3 bi_v_2 bi_v_1 bi_v_0
  rw [sr3R_eq, sr2R_eq, sr1R_eq, sr0R_eq]
  kernel_rfl

theorem bi_l (x : Vars) : ((bi_v_3 x).u 0) = tL23 x := by
  unfold bi_v_3 bi_v_2 bi_v_1 bi_v_0
  rw [sr3R_eq, sr2R_eq, sr1R_eq, sr0R_eq]
  kernel_rfl

noncomputable def bq_v_5 (q : Int) (L : Nat) : Int := (bif (decide (q = 16)) then 2 else (bif (decide (q = 17)) then 2 else 3))

noncomputable def bq_v_6 (q : Int) (L : Nat) : Int := (bif (decide (q = 14)) then 2 else (bif (decide (q = 15)) then 2 else (bq_v_5 q L)))

noncomputable def bq_v_7 (q : Int) (L : Nat) : Int := (bif (decide (q = 12)) then 2 else (bif (decide (q = 13)) then 2 else (bq_v_6 q L)))

noncomputable def bq_v_8 (q : Int) (L : Nat) : Int := (bif (decide (q = 10)) then 1 else (bif (decide (q = 11)) then 1 else (bq_v_7 q L)))

noncomputable def bq_v_9 (q : Int) (L : Nat) : Int := (bif (decide (q = 8)) then 1 else (bif (decide (q = 9)) then 1 else (bq_v_8 q L)))

noncomputable def bq_v_10 (q : Int) (L : Nat) : Int := (bif (decide (q = 6)) then 1 else (bif (decide (q = 7)) then 1 else (bq_v_9 q L)))

noncomputable def bq_v_11 (q : Int) (L : Nat) : Int := (bif (decide (q = 4)) then 0 else (bif (decide (q = 5)) then 0 else (bq_v_10 q L)))

noncomputable def bq_v_12 (q : Int) (L : Nat) : Int := (bif (decide (q = 2)) then 0 else (bif (decide (q = 3)) then 0 else (bq_v_11 q L)))

noncomputable def bq_v_13 (q : Int) (L : Nat) : Int := (bif (decide (q = 0)) then 0 else (bif (decide (q = 1)) then 0 else (bq_v_12 q L)))

noncomputable def bq_v_14 (q : Int) (L : Nat) : Int := (bif (decide (q = 20)) then 1 else (bif (decide (q = 21)) then 1 else 2))

noncomputable def bq_v_15 (q : Int) (L : Nat) : Int := (bif (decide (q = 19)) then 0 else (bq_v_14 q L))

noncomputable def bq_v_16 (q : Int) (L : Nat) : Int := (bif (decide (q = 18)) then 0 else (bq_v_15 q L))

noncomputable def bq_v_17 (q : Int) (L : Nat) : Int := (bif (decide (q = 17)) then 3 else (bq_v_16 q L))

noncomputable def bq_v_18 (q : Int) (L : Nat) : Int := (bif (decide (q = 16)) then 3 else (bq_v_17 q L))

noncomputable def bq_v_19 (q : Int) (L : Nat) : Int := (bif (decide (q = 15)) then 1 else (bq_v_18 q L))

noncomputable def bq_v_20 (q : Int) (L : Nat) : Int := (bif (decide (q = 14)) then 1 else (bq_v_19 q L))

noncomputable def bq_v_21 (q : Int) (L : Nat) : Int := (bif (decide (q = 13)) then 0 else (bq_v_20 q L))

noncomputable def bq_v_22 (q : Int) (L : Nat) : Int := (bif (decide (q = 12)) then 0 else (bq_v_21 q L))

noncomputable def bq_v_23 (q : Int) (L : Nat) : Int := (bif (decide (q = 11)) then 3 else (bq_v_22 q L))

noncomputable def bq_v_24 (q : Int) (L : Nat) : Int := (bif (decide (q = 10)) then 3 else (bq_v_23 q L))

noncomputable def bq_v_25 (q : Int) (L : Nat) : Int := (bif (decide (q = 8)) then 2 else (bif (decide (q = 9)) then 2 else (bq_v_24 q L)))

noncomputable def bq_v_26 (q : Int) (L : Nat) : Int := (bif (decide (q = 6)) then 0 else (bif (decide (q = 7)) then 0 else (bq_v_25 q L)))

noncomputable def bq_v_27 (q : Int) (L : Nat) : Int := (bif (decide (q = 4)) then 3 else (bif (decide (q = 5)) then 3 else (bq_v_26 q L)))

noncomputable def bq_v_28 (q : Int) (L : Nat) : Int := (bif (decide (q = 2)) then 2 else (bif (decide (q = 3)) then 2 else (bq_v_27 q L)))

noncomputable def bq_v_29 (q : Int) (L : Nat) : Int := (bif (decide (q = 0)) then 1 else (bif (decide (q = 1)) then 1 else (bq_v_28 q L)))

noncomputable def bq_v_30 (q : Int) (L : Nat) : Int := (bif (decide (q = 21)) then 2 else (bif (decide (q = 22)) then 0 else 1))

noncomputable def bq_v_31 (q : Int) (L : Nat) : Int := (bif (decide (q = 20)) then 0 else (bq_v_30 q L))

noncomputable def bq_v_32 (q : Int) (L : Nat) : Int := (bif (decide (q = 19)) then 2 else (bq_v_31 q L))

noncomputable def bq_v_33 (q : Int) (L : Nat) : Int := (bif (decide (q = 18)) then 1 else (bq_v_32 q L))

noncomputable def bq_v_34 (q : Int) (L : Nat) : Int := (bif (decide (q = 17)) then 1 else (bq_v_33 q L))

noncomputable def bq_v_35 (q : Int) (L : Nat) : Int := (bif (decide (q = 16)) then 0 else (bq_v_34 q L))

noncomputable def bq_v_36 (q : Int) (L : Nat) : Int := (bif (decide (q = 15)) then 3 else (bq_v_35 q L))

noncomputable def bq_v_37 (q : Int) (L : Nat) : Int := (bif (decide (q = 14)) then 0 else (bq_v_36 q L))

noncomputable def bq_v_38 (q : Int) (L : Nat) : Int := (bif (decide (q = 13)) then 3 else (bq_v_37 q L))

noncomputable def bq_v_39 (q : Int) (L : Nat) : Int := (bif (decide (q = 12)) then 1 else (bq_v_38 q L))

noncomputable def bq_v_40 (q : Int) (L : Nat) : Int := (bif (decide (q = 11)) then 2 else (bq_v_39 q L))

noncomputable def bq_v_41 (q : Int) (L : Nat) : Int := (bif (decide (q = 10)) then 0 else (bq_v_40 q L))

noncomputable def bq_v_42 (q : Int) (L : Nat) : Int := (bif (decide (q = 8)) then 0 else (bif (decide (q = 9)) then 3 else (bq_v_41 q L)))

noncomputable def bq_v_43 (q : Int) (L : Nat) : Int := (bif (decide (q = 6)) then 2 else (bif (decide (q = 7)) then 3 else (bq_v_42 q L)))

noncomputable def bq_v_44 (q : Int) (L : Nat) : Int := (bif (decide (q = 4)) then 1 else (bif (decide (q = 5)) then 2 else (bq_v_43 q L)))

noncomputable def bq_v_45 (q : Int) (L : Nat) : Int := (bif (decide (q = 2)) then 1 else (bif (decide (q = 3)) then 3 else (bq_v_44 q L)))

noncomputable def bq_v_46 (q : Int) (L : Nat) : Int := (bif (decide (q = 0)) then 2 else (bif (decide (q = 1)) then 3 else (bq_v_45 q L)))

noncomputable def bq_v_47 (q : Int) (L : Nat) : Int := (bif (decide (q = 21)) then 0 else (bif (decide (q = 22)) then 1 else 0))

noncomputable def bq_v_48 (q : Int) (L : Nat) : Int := (bif (decide (q = 20)) then 2 else (bq_v_47 q L))

noncomputable def bq_v_49 (q : Int) (L : Nat) : Int := (bif (decide (q = 19)) then 1 else (bq_v_48 q L))

noncomputable def bq_v_50 (q : Int) (L : Nat) : Int := (bif (decide (q = 18)) then 2 else (bq_v_49 q L))

noncomputable def bq_v_51 (q : Int) (L : Nat) : Int := (bif (decide (q = 17)) then 0 else (bq_v_50 q L))

noncomputable def bq_v_52 (q : Int) (L : Nat) : Int := (bif (decide (q = 16)) then 1 else (bq_v_51 q L))

noncomputable def bq_v_53 (q : Int) (L : Nat) : Int := (bif (decide (q = 15)) then 0 else (bq_v_52 q L))

noncomputable def bq_v_54 (q : Int) (L : Nat) : Int := (bif (decide (q = 14)) then 3 else (bq_v_53 q L))

noncomputable def bq_v_55 (q : Int) (L : Nat) : Int := (bif (decide (q = 13)) then 1 else (bq_v_54 q L))

noncomputable def bq_v_56 (q : Int) (L : Nat) : Int := (bif (decide (q = 12)) then 3 else (bq_v_55 q L))

noncomputable def bq_v_57 (q : Int) (L : Nat) : Int := (bif (decide (q = 11)) then 0 else (bq_v_56 q L))

noncomputable def bq_v_58 (q : Int) (L : Nat) : Int := (bif (decide (q = 10)) then 2 else (bq_v_57 q L))

noncomputable def bq_v_59 (q : Int) (L : Nat) : Int := (bif (decide (q = 8)) then 3 else (bif (decide (q = 9)) then 0 else (bq_v_58 q L)))

noncomputable def bq_v_60 (q : Int) (L : Nat) : Int := (bif (decide (q = 6)) then 3 else (bif (decide (q = 7)) then 2 else (bq_v_59 q L)))

noncomputable def bq_v_61 (q : Int) (L : Nat) : Int := (bif (decide (q = 4)) then 2 else (bif (decide (q = 5)) then 1 else (bq_v_60 q L)))

noncomputable def bq_v_62 (q : Int) (L : Nat) : Int := (bif (decide (q = 2)) then 3 else (bif (decide (q = 3)) then 1 else (bq_v_61 q L)))

noncomputable def bq_v_63 (q : Int) (L : Nat) : Int := (bif (decide (q = 0)) then 3 else (bif (decide (q = 1)) then 2 else (bq_v_62 q L)))

noncomputable def bq_v_64 (q : Int) (L : Nat) : Nat := (bif (decide (q = 22)) then L else L)

noncomputable def bq_v_65 (q : Int) (L : Nat) : Nat := (bif (decide (q = 21)) then L else (bq_v_64 q L))

noncomputable def bq_v_66 (q : Int) (L : Nat) : Nat := (bif (decide (q = 20)) then L else (bq_v_65 q L))

noncomputable def bq_v_67 (q : Int) (L : Nat) : Nat := (bif (decide (q = 19)) then L else (bq_v_66 q L))

noncomputable def bq_v_68 (q : Int) (L : Nat) : Nat := (bif (decide (q = 18)) then L else (bq_v_67 q L))

noncomputable def bq_v_69 (q : Int) (L : Nat) : Nat := (bif (decide (q = 17)) then L else (bq_v_68 q L))

noncomputable def bq_v_70 (q : Int) (L : Nat) : Nat := (bif (decide (q = 16)) then L else (bq_v_69 q L))

noncomputable def bq_v_71 (q : Int) (L : Nat) : Nat := (bif (decide (q = 15)) then L else (bq_v_70 q L))

noncomputable def bq_v_72 (q : Int) (L : Nat) : Nat := (bif (decide (q = 14)) then L else (bq_v_71 q L))

noncomputable def bq_v_73 (q : Int) (L : Nat) : Nat := (bif (decide (q = 13)) then L else (bq_v_72 q L))

noncomputable def bq_v_74 (q : Int) (L : Nat) : Nat := (bif (decide (q = 12)) then L else (bq_v_73 q L))

noncomputable def bq_v_75 (q : Int) (L : Nat) : Nat := (bif (decide (q = 11)) then L else (bq_v_74 q L))

noncomputable def bq_v_76 (q : Int) (L : Nat) : Nat := (bif (decide (q = 10)) then L else (bq_v_75 q L))

noncomputable def bq_v_77 (q : Int) (L : Nat) : Nat := (bif (decide (q = 9)) then L else (bq_v_76 q L))

noncomputable def bq_v_78 (q : Int) (L : Nat) : Nat := (bif (decide (q = 8)) then L else (bq_v_77 q L))

noncomputable def bq_v_79 (q : Int) (L : Nat) : Nat := (bif (decide (q = 7)) then L else (bq_v_78 q L))

noncomputable def bq_v_80 (q : Int) (L : Nat) : Nat := (bif (decide (q = 6)) then L else (bq_v_79 q L))

noncomputable def bq_v_81 (q : Int) (L : Nat) : Nat := (bif (decide (q = 5)) then L else (bq_v_80 q L))

noncomputable def bq_v_82 (q : Int) (L : Nat) : Nat := (bif (decide (q = 4)) then L else (bq_v_81 q L))

noncomputable def bq_v_83 (q : Int) (L : Nat) : Nat := (bif (decide (q = 3)) then L else (bq_v_82 q L))

noncomputable def bq_v_84 (q : Int) (L : Nat) : Nat := (bif (decide (q = 2)) then L else (bq_v_83 q L))

noncomputable def bq_v_85 (q : Int) (L : Nat) : Nat := (bif (decide (q = 1)) then L else (bq_v_84 q L))

noncomputable def bq_v_86 (q : Int) (L : Nat) : Nat := (bif (decide (q = 0)) then L else (bq_v_85 q L))

noncomputable def bq_v_87 (q : Int) (L : Nat) : Bool := (bif (decide (q = 23)) then true else false)

noncomputable def bq_v_88 (q : Int) (L : Nat) : Bool := ((decide (q = 21)) || ((decide (q = 22)) || (bq_v_87 q L)))

noncomputable def bq_v_89 (q : Int) (L : Nat) : Bool := ((decide (q = 19)) || ((decide (q = 20)) || (bq_v_88 q L)))

noncomputable def bq_v_90 (q : Int) (L : Nat) : Bool := ((decide (q = 17)) || ((decide (q = 18)) || (bq_v_89 q L)))

noncomputable def bq_v_91 (q : Int) (L : Nat) : Bool := ((decide (q = 15)) || ((decide (q = 16)) || (bq_v_90 q L)))

noncomputable def bq_v_92 (q : Int) (L : Nat) : Bool := ((decide (q = 13)) || ((decide (q = 14)) || (bq_v_91 q L)))

noncomputable def bq_v_93 (q : Int) (L : Nat) : Bool := ((decide (q = 11)) || ((decide (q = 12)) || (bq_v_92 q L)))

noncomputable def bq_v_94 (q : Int) (L : Nat) : Bool := ((decide (q = 9)) || ((decide (q = 10)) || (bq_v_93 q L)))

noncomputable def bq_v_95 (q : Int) (L : Nat) : Bool := ((decide (q = 7)) || ((decide (q = 8)) || (bq_v_94 q L)))

noncomputable def bq_v_96 (q : Int) (L : Nat) : Bool := ((decide (q = 5)) || ((decide (q = 6)) || (bq_v_95 q L)))

noncomputable def bq_v_97 (q : Int) (L : Nat) : Bool := ((decide (q = 3)) || ((decide (q = 4)) || (bq_v_96 q L)))

noncomputable def bq_v_98 (q : Int) (L : Nat) : Bool := ((decide (q = 1)) || ((decide (q = 2)) || (bq_v_97 q L)))

noncomputable def bs_v_0 (x : Vars) : Nat × SV := (lo0F (mkSV [(.flt .f32 (x.u 0)), (.flt .f32 (x.u 1)), (.flt .f32 (x.u 2)), (.flt .f32 (x.u 3))] [] [0, 0, 0, 0] [zeroV, zeroV, zeroV, zeroV]))

noncomputable def bs_v_1 (x : Vars) : Nat × SV := (lo1F (mkSV [(.flt .f32 ((bs_v_0 x).2.x.u 0)), (.flt .f32 ((bs_v_0 x).2.x.u 1)), (.flt .f32 ((bs_v_0 x).2.x.u 2)), (.flt .f32 ((bs_v_0 x).2.x.u 3))] [] [0, 0, 0, 0, 0, 0, 0] [zeroV, zeroV, zeroV, zeroV, zeroV, zeroV, zeroV]))

noncomputable def bs_v_2 (x : Vars) : Nat × SV := (lo2F (mkSV [(.flt .f32 ((bs_v_1 x).2.x.u 0)), (.flt .f32 ((bs_v_1 x).2.x.u 1)), (.flt .f32 ((bs_v_1 x).2.x.u 2)), (.flt .f32 ((bs_v_1 x).2.x.u 3))] [] [0, 0, 0, 0, 0, 0, 0, 0, 0, 0, 0, 0, 0, 0, 0] [zeroV, zeroV, zeroV, zeroV, zeroV, zeroV, zeroV, zeroV, zeroV, zeroV, zeroV, zeroV, zeroV, zeroV, zeroV]))

noncomputable def bs_v_3 (x : Vars) : Nat × SV := (lo3F (mkSV [(.flt .f32 ((bs_v_2 x).2.x.u 0)), (.flt .f32 ((bs_v_2 x).2.x.u 1)), (.flt .f32 ((bs_v_2 x).2.x.u 2)), (.flt .f32 ((bs_v_2 x).2.x.u 3))] [] [0, 0, 0, 0, 0, 0, 0, 0, 0, 0, 0, 0, 0, 0, 0, 0, 0, 0, 0, 0, 0, 0, 0, 0, 0, 0, 0] [zeroV, zeroV, zeroV, zeroV, zeroV, zeroV, zeroV, zeroV, zeroV, zeroV, zeroV, zeroV, zeroV, zeroV, zeroV, zeroV, zeroV, zeroV, zeroV, zeroV, zeroV, zeroV, zeroV, zeroV, zeroV, zeroV, zeroV]))

noncomputable def bs_v_4 (x : Vars) : Nat × SV := (boF (mkSV [(.flt .f32 (x.u 4)), (.flt .f32 (x.u 5)), (.flt .f32 ((bs_v_3 x).2.x.u 0)), (.flt .f32 ((bs_v_3 x).2.x.u 1)), (.flt .f32 ((bs_v_3 x).2.x.u 2)), (.flt .f32 ((bs_v_3 x).2.x.u 3))] [] [0, 0, 0, 0, 0, 0, 0, 0, 0, 0, 0, 0, 0, 0, 0, 0, 0, 0, 0, 0, 0, 0, 0, 0, 0, 0, 0] [zeroV, zeroV, zeroV, zeroV, zeroV, zeroV, zeroV, zeroV, zeroV, zeroV, zeroV, zeroV, zeroV, zeroV, zeroV, zeroV, zeroV, zeroV, zeroV, zeroV, zeroV, zeroV, zeroV, zeroV, zeroV, zeroV, zeroV]))

noncomputable def bs_v_99 (x : Vars) : Bool := ((fcmp .geq .f32 (x.u 5) 0) && (fcmp .leq .f32 (x.u 5) 1233125376))

noncomputable def bs_v_100 (x : Vars) : Bool := ((fcmp .geq .f32 (x.u 4) 0) && (fcmp .leq .f32 (x.u 4) 1233125376))

noncomputable def bs_v_101 (x : Vars) : Vars := (filmsR [(.flt .f32 (x.u 0)), (.flt .f32 (x.u 1)), (.flt .f32 (x.u 2)), (.flt .f32 (x.u 3))])

theorem bs_q (x : Vars) : ((bs_v_4 x).2.x.i 0) = tQ23 x := by
  unfold bs_v_4 bs_v_3 bs_v_2 bs_v_1 bs_v_0
  rw [boF_eq, lo3F_eq, lo2F_eq, lo1F_eq, lo0F_eq]
  kernel_rfl

theorem bs_l (x : Vars) : ((bs_v_4 x).2.x.u 1) = tL23 x := by
  unfold bs_v_4 bs_v_3 bs_v_2 bs_v_1 bs_v_0
  rw [boF_eq, lo3F_eq, lo2F_eq, lo1F_eq, lo0F_eq]
  kernel_rfl

theorem q24 {q : Int} (h : 0 ≤ q ∧ q < 24) : q = 0 ∨ q = 1 ∨ q = 2 ∨ q = 3 ∨ q = 4 ∨ q = 5 ∨ q = 6 ∨ q = 7 ∨ q = 8 ∨ q = 9 ∨ q = 10 ∨ q = 11 ∨ q = 12 ∨ q = 13 ∨ q = 14 ∨ q = 15 ∨ q = 16 ∨ q = 17 ∨ q = 18 ∨ q = 19 ∨ q = 20 ∨ q = 21 ∨ q = 22 ∨ q = 23 := by omega

theorem bq_p0 (q : Int) (L : Nat) (h : 0 ≤ q ∧ q < 24) : bq_v_13 q L = elP 0 q := by
  rcases q24 h with rfl | rfl | rfl | rfl | rfl | rfl | rfl | rfl | rfl | rfl | rfl | rfl | rfl | rfl | rfl | rfl | rfl | rfl | rfl | rfl | rfl | rfl | rfl | rfl <;> kernel_rfl

theorem bq_p1 (q : Int) (L : Nat) (h : 0 ≤ q ∧ q < 24) : bq_v_29 q L = elP 1 q := by
  rcases q24 h with rfl | rfl | rfl | rfl | rfl | rfl | rfl | rfl | rfl | rfl | rfl | rfl | rfl | rfl | rfl | rfl | rfl | rfl | rfl | rfl | rfl | rfl | rfl | rfl <;> kernel_rfl

theorem bq_p2 (q : Int) (L : Nat) (h : 0 ≤ q ∧ q < 24) : bq_v_46 q L = elP 2 q := by
  rcases q24 h with rfl | rfl | rfl | rfl | rfl | rfl | rfl | rfl | rfl | rfl | rfl | rfl | rfl | rfl | rfl | rfl | rfl | rfl | rfl | rfl | rfl | rfl | rfl | rfl <;> kernel_rfl

theorem bq_p3 (q : Int) (L : Nat) (h : 0 ≤ q ∧ q < 24) : bq_v_63 q L = elP 3 q := by
  rcases q24 h with rfl | rfl | rfl | rfl | rfl | rfl | rfl | rfl | rfl | rfl | rfl | rfl | rfl | rfl | rfl | rfl | rfl | rfl | rfl | rfl | rfl | rfl | rfl | rfl <;> kernel_rfl

theorem bq_p4 (q : Int) (L : Nat) (h : 0 ≤ q ∧ q < 24) : bq_v_86 q L = L := by
  rcases q24 h with rfl | rfl | rfl | rfl | rfl | rfl | rfl | rfl | rfl | rfl | rfl | rfl | rfl | rfl | rfl | rfl | rfl | rfl | rfl | rfl | rfl | rfl | rfl | rfl <;> kernel_rfl

noncomputable def bq_in (q : Int) (L : Nat) : Bool := ((decide (q = 0)) || (bq_v_98 q L))
theorem bq_t (q : Int) (L : Nat) (h : 0 ≤ q ∧ q < 24) : bq_in q L = true := by
  rcases q24 h with rfl | rfl | rfl | rfl | rfl | rfl | rfl | rfl | rfl | rfl | rfl | rfl | rfl | rfl | rfl | rfl | rfl | rfl | rfl | rfl | rfl | rfl | rfl | rfl <;> kernel_rfl

end Go.Proofs.Ytekilpllicggeaa

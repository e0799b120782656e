/-
  Facts of this seat that its laws use; no conditions.
-/
import Derived.Test.YtdagaggpaohmcaaSheetF
import Derived.Test.YtdagaggpaohmcaaSimZ
namespace Go.Proofs.Ytdagaggpaohmcaa
open Go.Sim Go.ChangeShapes Go.WideShapes Go.ChangeAt Go.RowKit

noncomputable def G33 : Summ := inlGs Try.prog 1000 [88, 93] G32

theorem G33_ok : SoundG Try.prog G33 := by
  refine SoundG.inls mixed G32_ok fun f hf => ?_
  simp only [List.mem_cons, List.not_mem_nil, or_false] at hf
  rcases hf with rfl | rfl
  · exact Try.call88
  · exact Try.call93

noncomputable def tkk_1_a0 (x : Vars) : Vars := offR (apl [(.sint .i8 1)] (apl (fl x 1 8) (apl [(.sint .i8 (x.i 9))] (apl (fl x 10 14) (apl [(.sint .i8 (x.i 24))] (apl (fl x 25 14) (apl [(.sint .i8 (x.i 39))] (apl (fl x 40 14) (apl [(.sint .i8 (x.i 54))] (apl (fl x 55 14) (apl [(.sint .i8 (x.i 69))] (apl (fl x 70 14) (apl [(.sint .i8 (x.i 84))] (apl (fl x 85 14) (apl [(.sint .i8 (x.i 99))] (apl (fl x 100 14) (apl [(.sint .i8 (x.i 114))] (apl (fl x 115 32) (apl [(.sint .i16 (x.i 147))] (fl x 148 8))))))))))))))))))))



noncomputable def tkk_v1 (x : Vars) : AV := .agg [.sint .i8 (1), .flt .f32 ((bif (fcmp .gtr .f32 (farith .add .f32 (x.u 1) (farith .mul .f32 (x.u 146) ((tkk_1_a0 x).u 0))) 1098907648) then 1098907648 else (bif (fcmp .lss .f32 (farith .add .f32 (x.u 1) (farith .mul .f32 (x.u 146) ((tkk_1_a0 x).u 0))) 0) then 0 else (farith .add .f32 (x.u 1) (farith .mul .f32 (x.u 146) ((tkk_1_a0 x).u 0)))))), .flt .f32 ((x.u 2)), .flt .f32 ((x.u 3)), .flt .f32 ((x.u 4)), .flt .f32 ((x.u 5)), .flt .f32 ((x.u 6)), .flt .f32 ((x.u 7)), .flt .f32 ((x.u 8)), .sint .i8 ((x.i 9)), .flt .f32 ((x.u 10)), .flt .f32 ((x.u 11)), .flt .f32 ((x.u 12)), .flt .f32 ((x.u 13)), .flt .f32 ((x.u 14)), .flt .f32 ((x.u 15)), .flt .f32 ((x.u 16)), .flt .f32 ((x.u 17)), .flt .f32 ((x.u 18)), .flt .f32 ((x.u 19)), .flt .f32 ((x.u 20)), .flt .f32 ((x.u 21)), .flt .f32 ((x.u 22)), .flt .f32 ((x.u 23)), .sint .i8 ((x.i 24)), .flt .f32 ((x.u 25)), .flt .f32 ((x.u 26)), .flt .f32 ((x.u 27)), .flt .f32 ((x.u 28)), .flt .f32 ((x.u 29)), .flt .f32 ((x.u 30)), .flt .f32 ((x.u 31)), .flt .f32 ((x.u 32)), .flt .f32 ((x.u 33)), .flt .f32 ((x.u 34)), .flt .f32 ((x.u 35)), .flt .f32 ((x.u 36)), .flt .f32 ((x.u 37)), .flt .f32 ((x.u 38)), .sint .i8 ((x.i 39)), .flt .f32 ((x.u 40)), .flt .f32 ((x.u 41)), .flt .f32 ((x.u 42)), .flt .f32 ((x.u 43)), .flt .f32 ((x.u 44)), .flt .f32 ((x.u 45)), .flt .f32 ((x.u 46)), .flt .f32 ((x.u 47)), .flt .f32 ((x.u 48)), .flt .f32 ((x.u 49)), .flt .f32 ((x.u 50)), .flt .f32 ((x.u 51)), .flt .f32 ((x.u 52)), .flt .f32 ((x.u 53)), .sint .i8 ((x.i 54)), .flt .f32 ((x.u 55)), .flt .f32 ((x.u 56)), .flt .f32 ((x.u 57)), .flt .f32 ((x.u 58)), .flt .f32 ((x.u 59)), .flt .f32 ((x.u 60)), .flt .f32 ((x.u 61)), .flt .f32 ((x.u 62)), .flt .f32 ((x.u 63)), .flt .f32 ((x.u 64)), .flt .f32 ((x.u 65)), .flt .f32 ((x.u 66)), .flt .f32 ((x.u 67)), .flt .f32 ((x.u 68)), .sint .i8 ((x.i 69)), .flt .f32 ((x.u 70)), .flt .f32 ((x.u 71)), .flt .f32 ((x.u 72)), .flt .f32 ((x.u 73)), .flt .f32 ((x.u 74)), .flt .f32 ((x.u 75)), .flt .f32 ((x.u 76)), .flt .f32 ((x.u 77)), .flt .f32 ((x.u 78)), .flt .f32 ((x.u 79)), .flt .f32 ((x.u 80)), .flt .f32 ((x.u 81)), .flt .f32 ((x.u 82)), .flt .f32 ((x.u 83)), .sint .i8 ((x.i 84)), .flt .f32 ((x.u 85)), .flt .f32 ((x.u 86)), .flt .f32 ((x.u 87)), .flt .f32 ((x.u 88)), .flt .f32 ((x.u 89)), .flt .f32 ((x.u 90)), .flt .f32 ((x.u 91)), .flt .f32 ((x.u 92)), .flt .f32 ((x.u 93)), .flt .f32 ((x.u 94)), .flt .f32 ((x.u 95)), .flt .f32 ((x.u 96)), .flt .f32 ((x.u 97)), .flt .f32 ((x.u 98)), .sint .i8 ((x.i 99)), .flt .f32 ((x.u 100)), .flt .f32 ((x.u 101)), .flt .f32 ((x.u 102)), .flt .f32 ((x.u 103)), .flt .f32 ((x.u 104)), .flt .f32 ((x.u 105)), .flt .f32 ((x.u 106)), .flt .f32 ((x.u 107)), .flt .f32 ((x.u 108)), .flt .f32 ((x.u 109)), .flt .f32 ((x.u 110)), .flt .f32 ((x.u 111)), .flt .f32 ((x.u 112)), .flt .f32 ((x.u 113)), .sint .i8 ((x.i 114)), .flt .f32 ((x.u 115)), .flt .f32 ((x.u 116)), .flt .f32 ((x.u 117)), .flt .f32 ((x.u 118)), .flt .f32 ((x.u 119)), .flt .f32 ((x.u 120)), .flt .f32 ((x.u 121)), .flt .f32 ((x.u 122)), .flt .f32 ((x.u 123)), .flt .f32 ((x.u 124)), .flt .f32 ((x.u 125)), .flt .f32 ((x.u 126)), .flt .f32 ((x.u 127)), .flt .f32 ((x.u 128))]

noncomputable def tkkZ1 (l : List AV) : Vars := outV (some (tkk_v1 (varsOf l), []))

theorem tkk_x1 (x : Vars) : mkR (tkkZ1 (mkL x 0 (kdsP [.val (.ag kd2), .val (.ag kd4), .val (.ag kd3)]))) [.ag kd2] = tkk_v1 x := by kernel_rfl

noncomputable def tkk_2_a0 (x : Vars) : Vars := offR (apl [(.sint .i8 2)] (apl (fl x 1 8) (apl [(.sint .i8 (x.i 9))] (apl (fl x 10 14) (apl [(.sint .i8 (x.i 24))] (apl (fl x 25 14) (apl [(.sint .i8 (x.i 39))] (apl (fl x 40 14) (apl [(.sint .i8 (x.i 54))] (apl (fl x 55 14) (apl [(.sint .i8 (x.i 69))] (apl (fl x 70 14) (apl [(.sint .i8 (x.i 84))] (apl (fl x 85 14) (apl [(.sint .i8 (x.i 99))] (apl (fl x 100 14) (apl [(.sint .i8 (x.i 114))] (apl (fl x 115 32) (apl [(.sint .i16 (x.i 147))] (fl x 148 8))))))))))))))))))))



noncomputable def tkk_v2 (x : Vars) : AV := .agg [.sint .i8 (2), .flt .f32 ((bif (fcmp .gtr .f32 (farith .add .f32 (x.u 1) (farith .mul .f32 (x.u 146) ((tkk_2_a0 x).u 0))) 1098907648) then 1098907648 else (bif (fcmp .lss .f32 (farith .add .f32 (x.u 1) (farith .mul .f32 (x.u 146) ((tkk_2_a0 x).u 0))) 0) then 0 else (farith .add .f32 (x.u 1) (farith .mul .f32 (x.u 146) ((tkk_2_a0 x).u 0)))))), .flt .f32 ((bif (fcmp .gtr .f32 (farith .add .f32 (x.u 2) (farith .mul .f32 (x.u 146) ((tkk_2_a0 x).u 1))) 1098907648) then 1098907648 else (bif (fcmp .lss .f32 (farith .add .f32 (x.u 2) (farith .mul .f32 (x.u 146) ((tkk_2_a0 x).u 1))) 0) then 0 else (farith .add .f32 (x.u 2) (farith .mul .f32 (x.u 146) ((tkk_2_a0 x).u 1)))))), .flt .f32 ((x.u 3)), .flt .f32 ((x.u 4)), .flt .f32 ((x.u 5)), .flt .f32 ((x.u 6)), .flt .f32 ((x.u 7)), .flt .f32 ((x.u 8)), .sint .i8 ((x.i 9)), .flt .f32 ((x.u 10)), .flt .f32 ((x.u 11)), .flt .f32 ((x.u 12)), .flt .f32 ((x.u 13)), .flt .f32 ((x.u 14)), .flt .f32 ((x.u 15)), .flt .f32 ((x.u 16)), .flt .f32 ((x.u 17)), .flt .f32 ((x.u 18)), .flt .f32 ((x.u 19)), .flt .f32 ((x.u 20)), .flt .f32 ((x.u 21)), .flt .f32 ((x.u 22)), .flt .f32 ((x.u 23)), .sint .i8 ((x.i 24)), .flt .f32 ((x.u 25)), .flt .f32 ((x.u 26)), .flt .f32 ((x.u 27)), .flt .f32 ((x.u 28)), .flt .f32 ((x.u 29)), .flt .f32 ((x.u 30)), .flt .f32 ((x.u 31)), .flt .f32 ((x.u 32)), .flt .f32 ((x.u 33)), .flt .f32 ((x.u 34)), .flt .f32 ((x.u 35)), .flt .f32 ((x.u 36)), .flt .f32 ((x.u 37)), .flt .f32 ((x.u 38)), .sint .i8 ((x.i 39)), .flt .f32 ((x.u 40)), .flt .f32 ((x.u 41)), .flt .f32 ((x.u 42)), .flt .f32 ((x.u 43)), .flt .f32 ((x.u 44)), .flt .f32 ((x.u 45)), .flt .f32 ((x.u 46)), .flt .f32 ((x.u 47)), .flt .f32 ((x.u 48)), .flt .f32 ((x.u 49)), .flt .f32 ((x.u 50)), .flt .f32 ((x.u 51)), .flt .f32 ((x.u 52)), .flt .f32 ((x.u 53)), .sint .i8 ((x.i 54)), .flt .f32 ((x.u 55)), .flt .f32 ((x.u 56)), .flt .f32 ((x.u 57)), .flt .f32 ((x.u 58)), .flt .f32 ((x.u 59)), .flt .f32 ((x.u 60)), .flt .f32 ((x.u 61)), .flt .f32 ((x.u 62)), .flt .f32 ((x.u 63)), .flt .f32 ((x.u 64)), .flt .f32 ((x.u 65)), .flt .f32 ((x.u 66)), .flt .f32 ((x.u 67)), .flt .f32 ((x.u 68)), .sint .i8 ((x.i 69)), .flt .f32 ((x.u 70)), .flt .f32 ((x.u 71)), .flt .f32 ((x.u 72)), .flt .f32 ((x.u 73)), .flt .f32 ((x.u 74)), .flt .f32 ((x.u 75)), .flt .f32 ((x.u 76)), .flt .f32 ((x.u 77)), .flt .f32 ((x.u 78)), .flt .f32 ((x.u 79)), .flt .f32 ((x.u 80)), .flt .f32 ((x.u 81)), .flt .f32 ((x.u 82)), .flt .f32 ((x.u 83)), .sint .i8 ((x.i 84)), .flt .f32 ((x.u 85)), .flt .f32 ((x.u 86)), .flt .f32 ((x.u 87)), .flt .f32 ((x.u 88)), .flt .f32 ((x.u 89)), .flt .f32 ((x.u 90)), .flt .f32 ((x.u 91)), .flt .f32 ((x.u 92)), .flt .f32 ((x.u 93)), .flt .f32 ((x.u 94)), .flt .f32 ((x.u 95)), .flt .f32 ((x.u 96)), .flt .f32 ((x.u 97)), .flt .f32 ((x.u 98)), .sint .i8 ((x.i 99)), .flt .f32 ((x.u 100)), .flt .f32 ((x.u 101)), .flt .f32 ((x.u 102)), .flt .f32 ((x.u 103)), .flt .f32 ((x.u 104)), .flt .f32 ((x.u 105)), .flt .f32 ((x.u 106)), .flt .f32 ((x.u 107)), .flt .f32 ((x.u 108)), .flt .f32 ((x.u 109)), .flt .f32 ((x.u 110)), .flt .f32 ((x.u 111)), .flt .f32 ((x.u 112)), .flt .f32 ((x.u 113)), .sint .i8 ((x.i 114)), .flt .f32 ((x.u 115)), .flt .f32 ((x.u 116)), .flt .f32 ((x.u 117)), .flt .f32 ((x.u 118)), .flt .f32 ((x.u 119)), .flt .f32 ((x.u 120)), .flt .f32 ((x.u 121)), .flt .f32 ((x.u 122)), .flt .f32 ((x.u 123)), .flt .f32 ((x.u 124)), .flt .f32 ((x.u 125)), .flt .f32 ((x.u 126)), .flt .f32 ((x.u 127)), .flt .f32 ((x.u 128))]

noncomputable def tkkZ2 (l : List AV) : Vars := outV (some (tkk_v2 (varsOf l), []))

theorem tkk_x2 (x : Vars) : mkR (tkkZ2 (mkL x 0 (kdsP [.val (.ag kd2), .val (.ag kd4), .val (.ag kd3)]))) [.ag kd2] = tkk_v2 x := by kernel_rfl

noncomputable def tkk_3_a0 (x : Vars) : Vars := offR (apl [(.sint .i8 3)] (apl (fl x 1 8) (apl [(.sint .i8 (x.i 9))] (apl (fl x 10 14) (apl [(.sint .i8 (x.i 24))] (apl (fl x 25 14) (apl [(.sint .i8 (x.i 39))] (apl (fl x 40 14) (apl [(.sint .i8 (x.i 54))] (apl (fl x 55 14) (apl [(.sint .i8 (x.i 69))] (apl (fl x 70 14) (apl [(.sint .i8 (x.i 84))] (apl (fl x 85 14) (apl [(.sint .i8 (x.i 99))] (apl (fl x 100 14) (apl [(.sint .i8 (x.i 114))] (apl (fl x 115 32) (apl [(.sint .i16 (x.i 147))] (fl x 148 8))))))))))))))))))))



noncomputable def tkk_v3 (x : Vars) : AV := .agg [.sint .i8 (3), .flt .f32 ((bif (fcmp .gtr .f32 (farith .add .f32 (x.u 1) (farith .mul .f32 (x.u 146) ((tkk_3_a0 x).u 0))) 1098907648) then 1098907648 else (bif (fcmp .lss .f32 (farith .add .f32 (x.u 1) (farith .mul .f32 (x.u 146) ((tkk_3_a0 x).u 0))) 0) then 0 else (farith .add .f32 (x.u 1) (farith .mul .f32 (x.u 146) ((tkk_3_a0 x).u 0)))))), .flt .f32 ((bif (fcmp .gtr .f32 (farith .add .f32 (x.u 2) (farith .mul .f32 (x.u 146) ((tkk_3_a0 x).u 1))) 1098907648) then 1098907648 else (bif (fcmp .lss .f32 (farith .add .f32 (x.u 2) (farith .mul .f32 (x.u 146) ((tkk_3_a0 x).u 1))) 0) then 0 else (farith .add .f32 (x.u 2) (farith .mul .f32 (x.u 146) ((tkk_3_a0 x).u 1)))))), .flt .f32 ((bif (fcmp .gtr .f32 (farith .add .f32 (x.u 3) (farith .mul .f32 (x.u 146) ((tkk_3_a0 x).u 2))) 1098907648) then 1098907648 else (bif (fcmp .lss .f32 (farith .add .f32 (x.u 3) (farith .mul .f32 (x.u 146) ((tkk_3_a0 x).u 2))) 0) then 0 else (farith .add .f32 (x.u 3) (farith .mul .f32 (x.u 146) ((tkk_3_a0 x).u 2)))))), .flt .f32 ((x.u 4)), .flt .f32 ((x.u 5)), .flt .f32 ((x.u 6)), .flt .f32 ((x.u 7)), .flt .f32 ((x.u 8)), .sint .i8 ((x.i 9)), .flt .f32 ((x.u 10)), .flt .f32 ((x.u 11)), .flt .f32 ((x.u 12)), .flt .f32 ((x.u 13)), .flt .f32 ((x.u 14)), .flt .f32 ((x.u 15)), .flt .f32 ((x.u 16)), .flt .f32 ((x.u 17)), .flt .f32 ((x.u 18)), .flt .f32 ((x.u 19)), .flt .f32 ((x.u 20)), .flt .f32 ((x.u 21)), .flt .f32 ((x.u 22)), .flt .f32 ((x.u 23)), .sint .i8 ((x.i 24)), .flt .f32 ((x.u 25)), .flt .f32 ((x.u 26)), .flt .f32 ((x.u 27)), .flt .f32 ((x.u 28)), .flt .f32 ((x.u 29)), .flt .f32 ((x.u 30)), .flt .f32 ((x.u 31)), .flt .f32 ((x.u 32)), .flt .f32 ((x.u 33)), .flt .f32 ((x.u 34)), .flt .f32 ((x.u 35)), .flt .f32 ((x.u 36)), .flt .f32 ((x.u 37)), .flt .f32 ((x.u 38)), .sint .i8 ((x.i 39)), .flt .f32 ((x.u 40)), .flt .f32 ((x.u 41)), .flt .f32 ((x.u 42)), .flt .f32 ((x.u 43)), .flt .f32 ((x.u 44)), .flt .f32 ((x.u 45)), .flt .f32 ((x.u 46)), .flt .f32 ((x.u 47)), .flt .f32 ((x.u 48)), .flt .f32 ((x.u 49)), .flt .f32 ((x.u 50)), .flt .f32 ((x.u 51)), .flt .f32 ((x.u 52)), .flt .f32 ((x.u 53)), .sint .i8 ((x.i 54)), .flt .f32 ((x.u 55)), .flt .f32 ((x.u 56)), .flt .f32 ((x.u 57)), .flt .f32 ((x.u 58)), .flt .f32 ((x.u 59)), .flt .f32 ((x.u 60)), .flt .f32 ((x.u 61)), .flt .f32 ((x.u 62)), .flt .f32 ((x.u 63)), .flt .f32 ((x.u 64)), .flt .f32 ((x.u 65)), .flt .f32 ((x.u 66)), .flt .f32 ((x.u 67)), .flt .f32 ((x.u 68)), .sint .i8 ((x.i 69)), .flt .f32 ((x.u 70)), .flt .f32 ((x.u 71)), .flt .f32 ((x.u 72)), .flt .f32 ((x.u 73)), .flt .f32 ((x.u 74)), .flt .f32 ((x.u 75)), .flt .f32 ((x.u 76)), .flt .f32 ((x.u 77)), .flt .f32 ((x.u 78)), .flt .f32 ((x.u 79)), .flt .f32 ((x.u 80)), .flt .f32 ((x.u 81)), .flt .f32 ((x.u 82)), .flt .f32 ((x.u 83)), .sint .i8 ((x.i 84)), .flt .f32 ((x.u 85)), .flt .f32 ((x.u 86)), .flt .f32 ((x.u 87)), .flt .f32 ((x.u 88)), .flt .f32 ((x.u 89)), .flt .f32 ((x.u 90)), .flt .f32 ((x.u 91)), .flt .f32 ((x.u 92)), .flt .f32 ((x.u 93)), .flt .f32 ((x.u 94)), .flt .f32 ((x.u 95)), .flt .f32 ((x.u 96)), .flt .f32 ((x.u 97)), .flt .f32 ((x.u 98)), .sint .i8 ((x.i 99)), .flt .f32 ((x.u 100)), .flt .f32 ((x.u 101)), .flt .f32 ((x.u 102)), .flt .f32 ((x.u 103)), .flt .f32 ((x.u 104)), .flt .f32 ((x.u 105)), .flt .f32 ((x.u 106)), .flt .f32 ((x.u 107)), .flt .f32 ((x.u 108)), .flt .f32 ((x.u 109)), .flt .f32 ((x.u 110)), .flt .f32 ((x.u 111)), .flt .f32 ((x.u 112)), .flt .f32 ((x.u 113)), .sint .i8 ((x.i 114)), .flt .f32 ((x.u 115)), .flt .f32 ((x.u 116)), .flt .f32 ((x.u 117)), .flt .f32 ((x.u 118)), .flt .f32 ((x.u 119)), .flt .f32 ((x.u 120)), .flt .f32 ((x.u 121)), .flt .f32 ((x.u 122)), .flt .f32 ((x.u 123)), .flt .f32 ((x.u 124)), .flt .f32 ((x.u 125)), .flt .f32 ((x.u 126)), .flt .f32 ((x.u 127)), .flt .f32 ((x.u 128))]

noncomputable def tkkZ3 (l : List AV) : Vars := outV (some (tkk_v3 (varsOf l), []))

theorem tkk_x3 (x : Vars) : mkR (tkkZ3 (mkL x 0 (kdsP [.val (.ag kd2), .val (.ag kd4), .val (.ag kd3)]))) [.ag kd2] = tkk_v3 x := by kernel_rfl

noncomputable def tkk_4_a0 (x : Vars) : Vars := offR (apl [(.sint .i8 4)] (apl (fl x 1 8) (apl [(.sint .i8 (x.i 9))] (apl (fl x 10 14) (apl [(.sint .i8 (x.i 24))] (apl (fl x 25 14) (apl [(.sint .i8 (x.i 39))] (apl (fl x 40 14) (apl [(.sint .i8 (x.i 54))] (apl (fl x 55 14) (apl [(.sint .i8 (x.i 69))] (apl (fl x 70 14) (apl [(.sint .i8 (x.i 84))] (apl (fl x 85 14) (apl [(.sint .i8 (x.i 99))] (apl (fl x 100 14) (apl [(.sint .i8 (x.i 114))] (apl (fl x 115 32) (apl [(.sint .i16 (x.i 147))] (fl x 148 8))))))))))))))))))))



noncomputable def tkk_v4 (x : Vars) : AV := .agg [.sint .i8 (4), .flt .f32 ((bif (fcmp .gtr .f32 (farith .add .f32 (x.u 1) (farith .mul .f32 (x.u 146) ((tkk_4_a0 x).u 0))) 1098907648) then 1098907648 else (bif (fcmp .lss .f32 (farith .add .f32 (x.u 1) (farith .mul .f32 (x.u 146) ((tkk_4_a0 x).u 0))) 0) then 0 else (farith .add .f32 (x.u 1) (farith .mul .f32 (x.u 146) ((tkk_4_a0 x).u 0)))))), .flt .f32 ((bif (fcmp .gtr .f32 (farith .add .f32 (x.u 2) (farith .mul .f32 (x.u 146) ((tkk_4_a0 x).u 1))) 1098907648) then 1098907648 else (bif (fcmp .lss .f32 (farith .add .f32 (x.u 2) (farith .mul .f32 (x.u 146) ((tkk_4_a0 x).u 1))) 0) then 0 else (farith .add .f32 (x.u 2) (farith .mul .f32 (x.u 146) ((tkk_4_a0 x).u 1)))))), .flt .f32 ((bif (fcmp .gtr .f32 (farith .add .f32 (x.u 3) (farith .mul .f32 (x.u 146) ((tkk_4_a0 x).u 2))) 1098907648) then 1098907648 else (bif (fcmp .lss .f32 (farith .add .f32 (x.u 3) (farith .mul .f32 (x.u 146) ((tkk_4_a0 x).u 2))) 0) then 0 else (farith .add .f32 (x.u 3) (farith .mul .f32 (x.u 146) ((tkk_4_a0 x).u 2)))))), .flt .f32 ((bif (fcmp .gtr .f32 (farith .add .f32 (x.u 4) (farith .mul .f32 (x.u 146) ((tkk_4_a0 x).u 3))) 1098907648) then 1098907648 else (bif (fcmp .lss .f32 (farith .add .f32 (x.u 4) (farith .mul .f32 (x.u 146) ((tkk_4_a0 x).u 3))) 0) then 0 else (farith .add .f32 (x.u 4) (farith .mul .f32 (x.u 146) ((tkk_4_a0 x).u 3)))))), .flt .f32 ((x.u 5)), .flt .f32 ((x.u 6)), .flt .f32 ((x.u 7)), .flt .f32 ((x.u 8)), .sint .i8 ((x.i 9)), .flt .f32 ((x.u 10)), .flt .f32 ((x.u 11)), .flt .f32 ((x.u 12)), .flt .f32 ((x.u 13)), .flt .f32 ((x.u 14)), .flt .f32 ((x.u 15)), .flt .f32 ((x.u 16)), .flt .f32 ((x.u 17)), .flt .f32 ((x.u 18)), .flt .f32 ((x.u 19)), .flt .f32 ((x.u 20)), .flt .f32 ((x.u 21)), .flt .f32 ((x.u 22)), .flt .f32 ((x.u 23)), .sint .i8 ((x.i 24)), .flt .f32 ((x.u 25)), .flt .f32 ((x.u 26)), .flt .f32 ((x.u 27)), .flt .f32 ((x.u 28)), .flt .f32 ((x.u 29)), .flt .f32 ((x.u 30)), .flt .f32 ((x.u 31)), .flt .f32 ((x.u 32)), .flt .f32 ((x.u 33)), .flt .f32 ((x.u 34)), .flt .f32 ((x.u 35)), .flt .f32 ((x.u 36)), .flt .f32 ((x.u 37)), .flt .f32 ((x.u 38)), .sint .i8 ((x.i 39)), .flt .f32 ((x.u 40)), .flt .f32 ((x.u 41)), .flt .f32 ((x.u 42)), .flt .f32 ((x.u 43)), .flt .f32 ((x.u 44)), .flt .f32 ((x.u 45)), .flt .f32 ((x.u 46)), .flt .f32 ((x.u 47)), .flt .f32 ((x.u 48)), .flt .f32 ((x.u 49)), .flt .f32 ((x.u 50)), .flt .f32 ((x.u 51)), .flt .f32 ((x.u 52)), .flt .f32 ((x.u 53)), .sint .i8 ((x.i 54)), .flt .f32 ((x.u 55)), .flt .f32 ((x.u 56)), .flt .f32 ((x.u 57)), .flt .f32 ((x.u 58)), .flt .f32 ((x.u 59)), .flt .f32 ((x.u 60)), .flt .f32 ((x.u 61)), .flt .f32 ((x.u 62)), .flt .f32 ((x.u 63)), .flt .f32 ((x.u 64)), .flt .f32 ((x.u 65)), .flt .f32 ((x.u 66)), .flt .f32 ((x.u 67)), .flt .f32 ((x.u 68)), .sint .i8 ((x.i 69)), .flt .f32 ((x.u 70)), .flt .f32 ((x.u 71)), .flt .f32 ((x.u 72)), .flt .f32 ((x.u 73)), .flt .f32 ((x.u 74)), .flt .f32 ((x.u 75)), .flt .f32 ((x.u 76)), .flt .f32 ((x.u 77)), .flt .f32 ((x.u 78)), .flt .f32 ((x.u 79)), .flt .f32 ((x.u 80)), .flt .f32 ((x.u 81)), .flt .f32 ((x.u 82)), .flt .f32 ((x.u 83)), .sint .i8 ((x.i 84)), .flt .f32 ((x.u 85)), .flt .f32 ((x.u 86)), .flt .f32 ((x.u 87)), .flt .f32 ((x.u 88)), .flt .f32 ((x.u 89)), .flt .f32 ((x.u 90)), .flt .f32 ((x.u 91)), .flt .f32 ((x.u 92)), .flt .f32 ((x.u 93)), .flt .f32 ((x.u 94)), .flt .f32 ((x.u 95)), .flt .f32 ((x.u 96)), .flt .f32 ((x.u 97)), .flt .f32 ((x.u 98)), .sint .i8 ((x.i 99)), .flt .f32 ((x.u 100)), .flt .f32 ((x.u 101)), .flt .f32 ((x.u 102)), .flt .f32 ((x.u 103)), .flt .f32 ((x.u 104)), .flt .f32 ((x.u 105)), .flt .f32 ((x.u 106)), .flt .f32 ((x.u 107)), .flt .f32 ((x.u 108)), .flt .f32 ((x.u 109)), .flt .f32 ((x.u 110)), .flt .f32 ((x.u 111)), .flt .f32 ((x.u 112)), .flt .f32 ((x.u 113)), .sint .i8 ((x.i 114)), .flt .f32 ((x.u 115)), .flt .f32 ((x.u 116)), .flt .f32 ((x.u 117)), .flt .f32 ((x.u 118)), .flt .f32 ((x.u 119)), .flt .f32 ((x.u 120)), .flt .f32 ((x.u 121)), .flt .f32 ((x.u 122)), .flt .f32 ((x.u 123)), .flt .f32 ((x.u 124)), .flt .f32 ((x.u 125)), .flt .f32 ((x.u 126)), .flt .f32 ((x.u 127)), .flt .f32 ((x.u 128))]

noncomputable def tkkZ4 (l : List AV) : Vars := outV (some (tkk_v4 (varsOf l), []))

theorem tkk_x4 (x : Vars) : mkR (tkkZ4 (mkL x 0 (kdsP [.val (.ag kd2), .val (.ag kd4), .val (.ag kd3)]))) [.ag kd2] = tkk_v4 x := by kernel_rfl

noncomputable def tkk_5_a0 (x : Vars) : Vars := offR (apl [(.sint .i8 5)] (apl (fl x 1 8) (apl [(.sint .i8 (x.i 9))] (apl (fl x 10 14) (apl [(.sint .i8 (x.i 24))] (apl (fl x 25 14) (apl [(.sint .i8 (x.i 39))] (apl (fl x 40 14) (apl [(.sint .i8 (x.i 54))] (apl (fl x 55 14) (apl [(.sint .i8 (x.i 69))] (apl (fl x 70 14) (apl [(.sint .i8 (x.i 84))] (apl (fl x 85 14) (apl [(.sint .i8 (x.i 99))] (apl (fl x 100 14) (apl [(.sint .i8 (x.i 114))] (apl (fl x 115 32) (apl [(.sint .i16 (x.i 147))] (fl x 148 8))))))))))))))))))))



noncomputable def tkk_v5 (x : Vars) : AV := .agg [.sint .i8 (5), .flt .f32 ((bif (fcmp .gtr .f32 (farith .add .f32 (x.u 1) (farith .mul .f32 (x.u 146) ((tkk_5_a0 x).u 0))) 1098907648) then 1098907648 else (bif (fcmp .lss .f32 (farith .add .f32 (x.u 1) (farith .mul .f32 (x.u 146) ((tkk_5_a0 x).u 0))) 0) then 0 else (farith .add .f32 (x.u 1) (farith .mul .f32 (x.u 146) ((tkk_5_a0 x).u 0)))))), .flt .f32 ((bif (fcmp .gtr .f32 (farith .add .f32 (x.u 2) (farith .mul .f32 (x.u 146) ((tkk_5_a0 x).u 1))) 1098907648) then 1098907648 else (bif (fcmp .lss .f32 (farith .add .f32 (x.u 2) (farith .mul .f32 (x.u 146) ((tkk_5_a0 x).u 1))) 0) then 0 else (farith .add .f32 (x.u 2) (farith .mul .f32 (x.u 146) ((tkk_5_a0 x).u 1)))))), .flt .f32 ((bif (fcmp .gtr .f32 (farith .add .f32 (x.u 3) (farith .mul .f32 (x.u 146) ((tkk_5_a0 x).u 2))) 1098907648) then 1098907648 else (bif (fcmp .lss .f32 (farith .add .f32 (x.u 3) (farith .mul .f32 (x.u 146) ((tkk_5_a0 x).u 2))) 0) then 0 else (farith .add .f32 (x.u 3) (farith .mul .f32 (x.u 146) ((tkk_5_a0 x).u 2)))))), .flt .f32 ((bif (fcmp .gtr .f32 (farith .add .f32 (x.u 4) (farith .mul .f32 (x.u 146) ((tkk_5_a0 x).u 3))) 1098907648) then 1098907648 else (bif (fcmp .lss .f32 (farith .add .f32 (x.u 4) (farith .mul .f32 (x.u 146) ((tkk_5_a0 x).u 3))) 0) then 0 else (farith .add .f32 (x.u 4) (farith .mul .f32 (x.u 146) ((tkk_5_a0 x).u 3)))))), .flt .f32 ((bif (fcmp .gtr .f32 (farith .add .f32 (x.u 5) (farith .mul .f32 (x.u 146) ((tkk_5_a0 x).u 4))) 1098907648) then 1098907648 else (bif (fcmp .lss .f32 (farith .add .f32 (x.u 5) (farith .mul .f32 (x.u 146) ((tkk_5_a0 x).u 4))) 0) then 0 else (farith .add .f32 (x.u 5) (farith .mul .f32 (x.u 146) ((tkk_5_a0 x).u 4)))))), .flt .f32 ((x.u 6)), .flt .f32 ((x.u 7)), .flt .f32 ((x.u 8)), .sint .i8 ((x.i 9)), .flt .f32 ((x.u 10)), .flt .f32 ((x.u 11)), .flt .f32 ((x.u 12)), .flt .f32 ((x.u 13)), .flt .f32 ((x.u 14)), .flt .f32 ((x.u 15)), .flt .f32 ((x.u 16)), .flt .f32 ((x.u 17)), .flt .f32 ((x.u 18)), .flt .f32 ((x.u 19)), .flt .f32 ((x.u 20)), .flt .f32 ((x.u 21)), .flt .f32 ((x.u 22)), .flt .f32 ((x.u 23)), .sint .i8 ((x.i 24)), .flt .f32 ((x.u 25)), .flt .f32 ((x.u 26)), .flt .f32 ((x.u 27)), .flt .f32 ((x.u 28)), .flt .f32 ((x.u 29)), .flt .f32 ((x.u 30)), .flt .f32 ((x.u 31)), .flt .f32 ((x.u 32)), .flt .f32 ((x.u 33)), .flt .f32 ((x.u 34)), .flt .f32 ((x.u 35)), .flt .f32 ((x.u 36)), .flt .f32 ((x.u 37)), .flt .f32 ((x.u 38)), .sint .i8 ((x.i 39)), .flt .f32 ((x.u 40)), .flt .f32 ((x.u 41)), .flt .f32 ((x.u 42)), .flt .f32 ((x.u 43)), .flt .f32 ((x.u 44)), .flt .f32 ((x.u 45)), .flt .f32 ((x.u 46)), .flt .f32 ((x.u 47)), .flt .f32 ((x.u 48)), .flt .f32 ((x.u 49)), .flt .f32 ((x.u 50)), .flt .f32 ((x.u 51)), .flt .f32 ((x.u 52)), .flt .f32 ((x.u 53)), .sint .i8 ((x.i 54)), .flt .f32 ((x.u 55)), .flt .f32 ((x.u 56)), .flt .f32 ((x.u 57)), .flt .f32 ((x.u 58)), .flt .f32 ((x.u 59)), .flt .f32 ((x.u 60)), .flt .f32 ((x.u 61)), .flt .f32 ((x.u 62)), .flt .f32 ((x.u 63)), .flt .f32 ((x.u 64)), .flt .f32 ((x.u 65)), .flt .f32 ((x.u 66)), .flt .f32 ((x.u 67)), .flt .f32 ((x.u 68)), .sint .i8 ((x.i 69)), .flt .f32 ((x.u 70)), .flt .f32 ((x.u 71)), .flt .f32 ((x.u 72)), .flt .f32 ((x.u 73)), .flt .f32 ((x.u 74)), .flt .f32 ((x.u 75)), .flt .f32 ((x.u 76)), .flt .f32 ((x.u 77)), .flt .f32 ((x.u 78)), .flt .f32 ((x.u 79)), .flt .f32 ((x.u 80)), .flt .f32 ((x.u 81)), .flt .f32 ((x.u 82)), .flt .f32 ((x.u 83)), .sint .i8 ((x.i 84)), .flt .f32 ((x.u 85)), .flt .f32 ((x.u 86)), .flt .f32 ((x.u 87)), .flt .f32 ((x.u 88)), .flt .f32 ((x.u 89)), .flt .f32 ((x.u 90)), .flt .f32 ((x.u 91)), .flt .f32 ((x.u 92)), .flt .f32 ((x.u 93)), .flt .f32 ((x.u 94)), .flt .f32 ((x.u 95)), .flt .f32 ((x.u 96)), .flt .f32 ((x.u 97)), .flt .f32 ((x.u 98)), .sint .i8 ((x.i 99)), .flt .f32 ((x.u 100)), .flt .f32 ((x.u 101)), .flt .f32 ((x.u 102)), .flt .f32 ((x.u 103)), .flt .f32 ((x.u 104)), .flt .f32 ((x.u 105)), .flt .f32 ((x.u 106)), .flt .f32 ((x.u 107)), .flt .f32 ((x.u 108)), .flt .f32 ((x.u 109)), .flt .f32 ((x.u 110)), .flt .f32 ((x.u 111)), .flt .f32 ((x.u 112)), .flt .f32 ((x.u 113)), .sint .i8 ((x.i 114)), .flt .f32 ((x.u 115)), .flt .f32 ((x.u 116)), .flt .f32 ((x.u 117)), .flt .f32 ((x.u 118)), .flt .f32 ((x.u 119)), .flt .f32 ((x.u 120)), .flt .f32 ((x.u 121)), .flt .f32 ((x.u 122)), .flt .f32 ((x.u 123)), .flt .f32 ((x.u 124)), .flt .f32 ((x.u 125)), .flt .f32 ((x.u 126)), .flt .f32 ((x.u 127)), .flt .f32 ((x.u 128))]

noncomputable def tkkZ5 (l : List AV) : Vars := outV (some (tkk_v5 (varsOf l), []))

theorem tkk_x5 (x : Vars) : mkR (tkkZ5 (mkL x 0 (kdsP [.val (.ag kd2), .val (.ag kd4), .val (.ag kd3)]))) [.ag kd2] = tkk_v5 x := by kernel_rfl

noncomputable def tkk_6_a0 (x : Vars) : Vars := offR (apl [(.sint .i8 6)] (apl (fl x 1 8) (apl [(.sint .i8 (x.i 9))] (apl (fl x 10 14) (apl [(.sint .i8 (x.i 24))] (apl (fl x 25 14) (apl [(.sint .i8 (x.i 39))] (apl (fl x 40 14) (apl [(.sint .i8 (x.i 54))] (apl (fl x 55 14) (apl [(.sint .i8 (x.i 69))] (apl (fl x 70 14) (apl [(.sint .i8 (x.i 84))] (apl (fl x 85 14) (apl [(.sint .i8 (x.i 99))] (apl (fl x 100 14) (apl [(.sint .i8 (x.i 114))] (apl (fl x 115 32) (apl [(.sint .i16 (x.i 147))] (fl x 148 8))))))))))))))))))))



noncomputable def tkk_v6 (x : Vars) : AV := .agg [.sint .i8 (6), .flt .f32 ((bif (fcmp .gtr .f32 (farith .add .f32 (x.u 1) (farith .mul .f32 (x.u 146) ((tkk_6_a0 x).u 0))) 1098907648) then 1098907648 else (bif (fcmp .lss .f32 (farith .add .f32 (x.u 1) (farith .mul .f32 (x.u 146) ((tkk_6_a0 x).u 0))) 0) then 0 else (farith .add .f32 (x.u 1) (farith .mul .f32 (x.u 146) ((tkk_6_a0 x).u 0)))))), .flt .f32 ((bif (fcmp .gtr .f32 (farith .add .f32 (x.u 2) (farith .mul .f32 (x.u 146) ((tkk_6_a0 x).u 1))) 1098907648) then 1098907648 else (bif (fcmp .lss .f32 (farith .add .f32 (x.u 2) (farith .mul .f32 (x.u 146) ((tkk_6_a0 x).u 1))) 0) then 0 else (farith .add .f32 (x.u 2) (farith .mul .f32 (x.u 146) ((tkk_6_a0 x).u 1)))))), .flt .f32 ((bif (fcmp .gtr .f32 (farith .add .f32 (x.u 3) (farith .mul .f32 (x.u 146) ((tkk_6_a0 x).u 2))) 1098907648) then 1098907648 else (bif (fcmp .lss .f32 (farith .add .f32 (x.u 3) (farith .mul .f32 (x.u 146) ((tkk_6_a0 x).u 2))) 0) then 0 else (farith .add .f32 (x.u 3) (farith .mul .f32 (x.u 146) ((tkk_6_a0 x).u 2)))))), .flt .f32 ((bif (fcmp .gtr .f32 (farith .add .f32 (x.u 4) (farith .mul .f32 (x.u 146) ((tkk_6_a0 x).u 3))) 1098907648) then 1098907648 else (bif (fcmp .lss .f32 (farith .add .f32 (x.u 4) (farith .mul .f32 (x.u 146) ((tkk_6_a0 x).u 3))) 0) then 0 else (farith .add .f32 (x.u 4) (farith .mul .f32 (x.u 146) ((tkk_6_a0 x).u 3)))))), .flt .f32 ((bif (fcmp .gtr .f32 (farith .add .f32 (x.u 5) (farith .mul .f32 (x.u 146) ((tkk_6_a0 x).u 4))) 1098907648) then 1098907648 else (bif (fcmp .lss .f32 (farith .add .f32 (x.u 5) (farith .mul .f32 (x.u 146) ((tkk_6_a0 x).u 4))) 0) then 0 else (farith .add .f32 (x.u 5) (farith .mul .f32 (x.u 146) ((tkk_6_a0 x).u 4)))))), .flt .f32 ((bif (fcmp .gtr .f32 (farith .add .f32 (x.u 6) (farith .mul .f32 (x.u 146) ((tkk_6_a0 x).u 5))) 1098907648) then 1098907648 else (bif (fcmp .lss .f32 (farith .add .f32 (x.u 6) (farith .mul .f32 (x.u 146) ((tkk_6_a0 x).u 5))) 0) then 0 else (farith .add .f32 (x.u 6) (farith .mul .f32 (x.u 146) ((tkk_6_a0 x).u 5)))))), .flt .f32 ((x.u 7)), .flt .f32 ((x.u 8)), .sint .i8 ((x.i 9)), .flt .f32 ((x.u 10)), .flt .f32 ((x.u 11)), .flt .f32 ((x.u 12)), .flt .f32 ((x.u 13)), .flt .f32 ((x.u 14)), .flt .f32 ((x.u 15)), .flt .f32 ((x.u 16)), .flt .f32 ((x.u 17)), .flt .f32 ((x.u 18)), .flt .f32 ((x.u 19)), .flt .f32 ((x.u 20)), .flt .f32 ((x.u 21)), .flt .f32 ((x.u 22)), .flt .f32 ((x.u 23)), .sint .i8 ((x.i 24)), .flt .f32 ((x.u 25)), .flt .f32 ((x.u 26)), .flt .f32 ((x.u 27)), .flt .f32 ((x.u 28)), .flt .f32 ((x.u 29)), .flt .f32 ((x.u 30)), .flt .f32 ((x.u 31)), .flt .f32 ((x.u 32)), .flt .f32 ((x.u 33)), .flt .f32 ((x.u 34)), .flt .f32 ((x.u 35)), .flt .f32 ((x.u 36)), .flt .f32 ((x.u 37)), .flt .f32 ((x.u 38)), .sint .i8 ((x.i 39)), .flt .f32 ((x.u 40)), .flt .f32 ((x.u 41)), .flt .f32 ((x.u 42)), .flt .f32 ((x.u 43)), .flt .f32 ((x.u 44)), .flt .f32 ((x.u 45)), .flt .f32 ((x.u 46)), .flt .f32 ((x.u 47)), .flt .f32 ((x.u 48)), .flt .f32 ((x.u 49)), .flt .f32 ((x.u 50)), .flt .f32 ((x.u 51)), .flt .f32 ((x.u 52)), .flt .f32 ((x.u 53)), .sint .i8 ((x.i 54)), .flt .f32 ((x.u 55)), .flt .f32 ((x.u 56)), .flt .f32 ((x.u 57)), .flt .f32 ((x.u 58)), .flt .f32 ((x.u 59)), .flt .f32 ((x.u 60)), .flt .f32 ((x.u 61)), .flt .f32 ((x.u 62)), .flt .f32 ((x.u 63)), .flt .f32 ((x.u 64)), .flt .f32 ((x.u 65)), .flt .f32 ((x.u 66)), .flt .f32 ((x.u 67)), .flt .f32 ((x.u 68)), .sint .i8 ((x.i 69)), .flt .f32 ((x.u 70)), .flt .f32 ((x.u 71)), .flt .f32 ((x.u 72)), .flt .f32 ((x.u 73)), .flt .f32 ((x.u 74)), .flt .f32 ((x.u 75)), .flt .f32 ((x.u 76)), .flt .f32 ((x.u 77)), .flt .f32 ((x.u 78)), .flt .f32 ((x.u 79)), .flt .f32 ((x.u 80)), .flt .f32 ((x.u 81)), .flt .f32 ((x.u 82)), .flt .f32 ((x.u 83)), .sint .i8 ((x.i 84)), .flt .f32 ((x.u 85)), .flt .f32 ((x.u 86)), .flt .f32 ((x.u 87)), .flt .f32 ((x.u 88)), .flt .f32 ((x.u 89)), .flt .f32 ((x.u 90)), .flt .f32 ((x.u 91)), .flt .f32 ((x.u 92)), .flt .f32 ((x.u 93)), .flt .f32 ((x.u 94)), .flt .f32 ((x.u 95)), .flt .f32 ((x.u 96)), .flt .f32 ((x.u 97)), .flt .f32 ((x.u 98)), .sint .i8 ((x.i 99)), .flt .f32 ((x.u 100)), .flt .f32 ((x.u 101)), .flt .f32 ((x.u 102)), .flt .f32 ((x.u 103)), .flt .f32 ((x.u 104)), .flt .f32 ((x.u 105)), .flt .f32 ((x.u 106)), .flt .f32 ((x.u 107)), .flt .f32 ((x.u 108)), .flt .f32 ((x.u 109)), .flt .f32 ((x.u 110)), .flt .f32 ((x.u 111)), .flt .f32 ((x.u 112)), .flt .f32 ((x.u 113)), .sint .i8 ((x.i 114)), .flt .f32 ((x.u 115)), .flt .f32 ((x.u 116)), .flt .f32 ((x.u 117)), .flt .f32 ((x.u 118)), .flt .f32 ((x.u 119)), .flt .f32 ((x.u 120)), .flt .f32 ((x.u 121)), .flt .f32 ((x.u 122)), .flt .f32 ((x.u 123)), .flt .f32 ((x.u 124)), .flt .f32 ((x.u 125)), .flt .f32 ((x.u 126)), .flt .f32 ((x.u 127)), .flt .f32 ((x.u 128))]

noncomputable def tkkZ6 (l : List AV) : Vars := outV (some (tkk_v6 (varsOf l), []))

theorem tkk_x6 (x : Vars) : mkR (tkkZ6 (mkL x 0 (kdsP [.val (.ag kd2), .val (.ag kd4), .val (.ag kd3)]))) [.ag kd2] = tkk_v6 x := by kernel_rfl

noncomputable def tkk_7_a0 (x : Vars) : Vars := offR (apl [(.sint .i8 7)] (apl (fl x 1 8) (apl [(.sint .i8 (x.i 9))] (apl (fl x 10 14) (apl [(.sint .i8 (x.i 24))] (apl (fl x 25 14) (apl [(.sint .i8 (x.i 39))] (apl (fl x 40 14) (apl [(.sint .i8 (x.i 54))] (apl (fl x 55 14) (apl [(.sint .i8 (x.i 69))] (apl (fl x 70 14) (apl [(.sint .i8 (x.i 84))] (apl (fl x 85 14) (apl [(.sint .i8 (x.i 99))] (apl (fl x 100 14) (apl [(.sint .i8 (x.i 114))] (apl (fl x 115 32) (apl [(.sint .i16 (x.i 147))] (fl x 148 8))))))))))))))))))))



noncomputable def tkk_v7 (x : Vars) : AV := .agg [.sint .i8 (7), .flt .f32 ((bif (fcmp .gtr .f32 (farith .add .f32 (x.u 1) (farith .mul .f32 (x.u 146) ((tkk_7_a0 x).u 0))) 1098907648) then 1098907648 else (bif (fcmp .lss .f32 (farith .add .f32 (x.u 1) (farith .mul .f32 (x.u 146) ((tkk_7_a0 x).u 0))) 0) then 0 else (farith .add .f32 (x.u 1) (farith .mul .f32 (x.u 146) ((tkk_7_a0 x).u 0)))))), .flt .f32 ((bif (fcmp .gtr .f32 (farith .add .f32 (x.u 2) (farith .mul .f32 (x.u 146) ((tkk_7_a0 x).u 1))) 1098907648) then 1098907648 else (bif (fcmp .lss .f32 (farith .add .f32 (x.u 2) (farith .mul .f32 (x.u 146) ((tkk_7_a0 x).u 1))) 0) then 0 else (farith .add .f32 (x.u 2) (farith .mul .f32 (x.u 146) ((tkk_7_a0 x).u 1)))))), .flt .f32 ((bif (fcmp .gtr .f32 (farith .add .f32 (x.u 3) (farith .mul .f32 (x.u 146) ((tkk_7_a0 x).u 2))) 1098907648) then 1098907648 else (bif (fcmp .lss .f32 (farith .add .f32 (x.u 3) (farith .mul .f32 (x.u 146) ((tkk_7_a0 x).u 2))) 0) then 0 else (farith .add .f32 (x.u 3) (farith .mul .f32 (x.u 146) ((tkk_7_a0 x).u 2)))))), .flt .f32 ((bif (fcmp .gtr .f32 (farith .add .f32 (x.u 4) (farith .mul .f32 (x.u 146) ((tkk_7_a0 x).u 3))) 1098907648) then 1098907648 else (bif (fcmp .lss .f32 (farith .add .f32 (x.u 4) (farith .mul .f32 (x.u 146) ((tkk_7_a0 x).u 3))) 0) then 0 else (farith .add .f32 (x.u 4) (farith .mul .f32 (x.u 146) ((tkk_7_a0 x).u 3)))))), .flt .f32 ((bif (fcmp .gtr .f32 (farith .add .f32 (x.u 5) (farith .mul .f32 (x.u 146) ((tkk_7_a0 x).u 4))) 1098907648) then 1098907648 else (bif (fcmp .lss .f32 (farith .add .f32 (x.u 5) (farith .mul .f32 (x.u 146) ((tkk_7_a0 x).u 4))) 0) then 0 else (farith .add .f32 (x.u 5) (farith .mul .f32 (x.u 146) ((tkk_7_a0 x).u 4)))))), .flt .f32 ((bif (fcmp .gtr .f32 (farith .add .f32 (x.u 6) (farith .mul .f32 (x.u 146) ((tkk_7_a0 x).u 5))) 1098907648) then 1098907648 else (bif (fcmp .lss .f32 (farith .add .f32 (x.u 6) (farith .mul .f32 (x.u 146) ((tkk_7_a0 x).u 5))) 0) then 0 else (farith .add .f32 (x.u 6) (farith .mul .f32 (x.u 146) ((tkk_7_a0 x).u 5)))))), .flt .f32 ((bif (fcmp .gtr .f32 (farith .add .f32 (x.u 7) (farith .mul .f32 (x.u 146) ((tkk_7_a0 x).u 6))) 1098907648) then 1098907648 else (bif (fcmp .lss .f32 (farith .add .f32 (x.u 7) (farith .mul .f32 (x.u 146) ((tkk_7_a0 x).u 6))) 0) then 0 else (farith .add .f32 (x.u 7) (farith .mul .f32 (x.u 146) ((tkk_7_a0 x).u 6)))))), .flt .f32 ((x.u 8)), .sint .i8 ((x.i 9)), .flt .f32 ((x.u 10)), .flt .f32 ((x.u 11)), .flt .f32 ((x.u 12)), .flt .f32 ((x.u 13)), .flt .f32 ((x.u 14)), .flt .f32 ((x.u 15)), .flt .f32 ((x.u 16)), .flt .f32 ((x.u 17)), .flt .f32 ((x.u 18)), .flt .f32 ((x.u 19)), .flt .f32 ((x.u 20)), .flt .f32 ((x.u 21)), .flt .f32 ((x.u 22)), .flt .f32 ((x.u 23)), .sint .i8 ((x.i 24)), .flt .f32 ((x.u 25)), .flt .f32 ((x.u 26)), .flt .f32 ((x.u 27)), .flt .f32 ((x.u 28)), .flt .f32 ((x.u 29)), .flt .f32 ((x.u 30)), .flt .f32 ((x.u 31)), .flt .f32 ((x.u 32)), .flt .f32 ((x.u 33)), .flt .f32 ((x.u 34)), .flt .f32 ((x.u 35)), .flt .f32 ((x.u 36)), .flt .f32 ((x.u 37)), .flt .f32 ((x.u 38)), .sint .i8 ((x.i 39)), .flt .f32 ((x.u 40)), .flt .f32 ((x.u 41)), .flt .f32 ((x.u 42)), .flt .f32 ((x.u 43)), .flt .f32 ((x.u 44)), .flt .f32 ((x.u 45)), .flt .f32 ((x.u 46)), .flt .f32 ((x.u 47)), .flt .f32 ((x.u 48)), .flt .f32 ((x.u 49)), .flt .f32 ((x.u 50)), .flt .f32 ((x.u 51)), .flt .f32 ((x.u 52)), .flt .f32 ((x.u 53)), .sint .i8 ((x.i 54)), .flt .f32 ((x.u 55)), .flt .f32 ((x.u 56)), .flt .f32 ((x.u 57)), .flt .f32 ((x.u 58)), .flt .f32 ((x.u 59)), .flt .f32 ((x.u 60)), .flt .f32 ((x.u 61)), .flt .f32 ((x.u 62)), .flt .f32 ((x.u 63)), .flt .f32 ((x.u 64)), .flt .f32 ((x.u 65)), .flt .f32 ((x.u 66)), .flt .f32 ((x.u 67)), .flt .f32 ((x.u 68)), .sint .i8 ((x.i 69)), .flt .f32 ((x.u 70)), .flt .f32 ((x.u 71)), .flt .f32 ((x.u 72)), .flt .f32 ((x.u 73)), .flt .f32 ((x.u 74)), .flt .f32 ((x.u 75)), .flt .f32 ((x.u 76)), .flt .f32 ((x.u 77)), .flt .f32 ((x.u 78)), .flt .f32 ((x.u 79)), .flt .f32 ((x.u 80)), .flt .f32 ((x.u 81)), .flt .f32 ((x.u 82)), .flt .f32 ((x.u 83)), .sint .i8 ((x.i 84)), .flt .f32 ((x.u 85)), .flt .f32 ((x.u 86)), .flt .f32 ((x.u 87)), .flt .f32 ((x.u 88)), .flt .f32 ((x.u 89)), .flt .f32 ((x.u 90)), .flt .f32 ((x.u 91)), .flt .f32 ((x.u 92)), .flt .f32 ((x.u 93)), .flt .f32 ((x.u 94)), .flt .f32 ((x.u 95)), .flt .f32 ((x.u 96)), .flt .f32 ((x.u 97)), .flt .f32 ((x.u 98)), .sint .i8 ((x.i 99)), .flt .f32 ((x.u 100)), .flt .f32 ((x.u 101)), .flt .f32 ((x.u 102)), .flt .f32 ((x.u 103)), .flt .f32 ((x.u 104)), .flt .f32 ((x.u 105)), .flt .f32 ((x.u 106)), .flt .f32 ((x.u 107)), .flt .f32 ((x.u 108)), .flt .f32 ((x.u 109)), .flt .f32 ((x.u 110)), .flt .f32 ((x.u 111)), .flt .f32 ((x.u 112)), .flt .f32 ((x.u 113)), .sint .i8 ((x.i 114)), .flt .f32 ((x.u 115)), .flt .f32 ((x.u 116)), .flt .f32 ((x.u 117)), .flt .f32 ((x.u 118)), .flt .f32 ((x.u 119)), .flt .f32 ((x.u 120)), .flt .f32 ((x.u 121)), .flt .f32 ((x.u 122)), .flt .f32 ((x.u 123)), .flt .f32 ((x.u 124)), .flt .f32 ((x.u 125)), .flt .f32 ((x.u 126)), .flt .f32 ((x.u 127)), .flt .f32 ((x.u 128))]

noncomputable def tkkZ7 (l : List AV) : Vars := outV (some (tkk_v7 (varsOf l), []))

theorem tkk_x7 (x : Vars) : mkR (tkkZ7 (mkL x 0 (kdsP [.val (.ag kd2), .val (.ag kd4), .val (.ag kd3)]))) [.ag kd2] = tkk_v7 x := by kernel_rfl

noncomputable def tkk_8_a0 (x : Vars) : Vars := offR (apl [(.sint .i8 8)] (apl (fl x 1 8) (apl [(.sint .i8 (x.i 9))] (apl (fl x 10 14) (apl [(.sint .i8 (x.i 24))] (apl (fl x 25 14) (apl [(.sint .i8 (x.i 39))] (apl (fl x 40 14) (apl [(.sint .i8 (x.i 54))] (apl (fl x 55 14) (apl [(.sint .i8 (x.i 69))] (apl (fl x 70 14) (apl [(.sint .i8 (x.i 84))] (apl (fl x 85 14) (apl [(.sint .i8 (x.i 99))] (apl (fl x 100 14) (apl [(.sint .i8 (x.i 114))] (apl (fl x 115 32) (apl [(.sint .i16 (x.i 147))] (fl x 148 8))))))))))))))))))))



noncomputable def tkk_v8 (x : Vars) : AV := .agg [.sint .i8 (8), .flt .f32 ((bif (fcmp .gtr .f32 (farith .add .f32 (x.u 1) (farith .mul .f32 (x.u 146) ((tkk_8_a0 x).u 0))) 1098907648) then 1098907648 else (bif (fcmp .lss .f32 (farith .add .f32 (x.u 1) (farith .mul .f32 (x.u 146) ((tkk_8_a0 x).u 0))) 0) then 0 else (farith .add .f32 (x.u 1) (farith .mul .f32 (x.u 146) ((tkk_8_a0 x).u 0)))))), .flt .f32 ((bif (fcmp .gtr .f32 (farith .add .f32 (x.u 2) (farith .mul .f32 (x.u 146) ((tkk_8_a0 x).u 1))) 1098907648) then 1098907648 else (bif (fcmp .lss .f32 (farith .add .f32 (x.u 2) (farith .mul .f32 (x.u 146) ((tkk_8_a0 x).u 1))) 0) then 0 else (farith .add .f32 (x.u 2) (farith .mul .f32 (x.u 146) ((tkk_8_a0 x).u 1)))))), .flt .f32 ((bif (fcmp .gtr .f32 (farith .add .f32 (x.u 3) (farith .mul .f32 (x.u 146) ((tkk_8_a0 x).u 2))) 1098907648) then 1098907648 else (bif (fcmp .lss .f32 (farith .add .f32 (x.u 3) (farith .mul .f32 (x.u 146) ((tkk_8_a0 x).u 2))) 0) then 0 else (farith .add .f32 (x.u 3) (farith .mul .f32 (x.u 146) ((tkk_8_a0 x).u 2)))))), .flt .f32 ((bif (fcmp .gtr .f32 (farith .add .f32 (x.u 4) (farith .mul .f32 (x.u 146) ((tkk_8_a0 x).u 3))) 1098907648) then 1098907648 else (bif (fcmp .lss .f32 (farith .add .f32 (x.u 4) (farith .mul .f32 (x.u 146) ((tkk_8_a0 x).u 3))) 0) then 0 else (farith .add .f32 (x.u 4) (farith .mul .f32 (x.u 146) ((tkk_8_a0 x).u 3)))))), .flt .f32 ((bif (fcmp .gtr .f32 (farith .add .f32 (x.u 5) (farith .mul .f32 (x.u 146) ((tkk_8_a0 x).u 4))) 1098907648) then 1098907648 else (bif (fcmp .lss .f32 (farith .add .f32 (x.u 5) (farith .mul .f32 (x.u 146) ((tkk_8_a0 x).u 4))) 0) then 0 else (farith .add .f32 (x.u 5) (farith .mul .f32 (x.u 146) ((tkk_8_a0 x).u 4)))))), .flt .f32 ((bif (fcmp .gtr .f32 (farith .add .f32 (x.u 6) (farith .mul .f32 (x.u 146) ((tkk_8_a0 x).u 5))) 1098907648) then 1098907648 else (bif (fcmp .lss .f32 (farith .add .f32 (x.u 6) (farith .mul .f32 (x.u 146) ((tkk_8_a0 x).u 5))) 0) then 0 else (farith .add .f32 (x.u 6) (farith .mul .f32 (x.u 146) ((tkk_8_a0 x).u 5)))))), .flt .f32 ((bif (fcmp .gtr .f32 (farith .add .f32 (x.u 7) (farith .mul .f32 (x.u 146) ((tkk_8_a0 x).u 6))) 1098907648) then 1098907648 else (bif (fcmp .lss .f32 (farith .add .f32 (x.u 7) (farith .mul .f32 (x.u 146) ((tkk_8_a0 x).u 6))) 0) then 0 else (farith .add .f32 (x.u 7) (farith .mul .f32 (x.u 146) ((tkk_8_a0 x).u 6)))))), .flt .f32 ((bif (fcmp .gtr .f32 (farith .add .f32 (x.u 8) (farith .mul .f32 (x.u 146) ((tkk_8_a0 x).u 7))) 1098907648) then 1098907648 else (bif (fcmp .lss .f32 (farith .add .f32 (x.u 8) (farith .mul .f32 (x.u 146) ((tkk_8_a0 x).u 7))) 0) then 0 else (farith .add .f32 (x.u 8) (farith .mul .f32 (x.u 146) ((tkk_8_a0 x).u 7)))))), .sint .i8 ((x.i 9)), .flt .f32 ((x.u 10)), .flt .f32 ((x.u 11)), .flt .f32 ((x.u 12)), .flt .f32 ((x.u 13)), .flt .f32 ((x.u 14)), .flt .f32 ((x.u 15)), .flt .f32 ((x.u 16)), .flt .f32 ((x.u 17)), .flt .f32 ((x.u 18)), .flt .f32 ((x.u 19)), .flt .f32 ((x.u 20)), .flt .f32 ((x.u 21)), .flt .f32 ((x.u 22)), .flt .f32 ((x.u 23)), .sint .i8 ((x.i 24)), .flt .f32 ((x.u 25)), .flt .f32 ((x.u 26)), .flt .f32 ((x.u 27)), .flt .f32 ((x.u 28)), .flt .f32 ((x.u 29)), .flt .f32 ((x.u 30)), .flt .f32 ((x.u 31)), .flt .f32 ((x.u 32)), .flt .f32 ((x.u 33)), .flt .f32 ((x.u 34)), .flt .f32 ((x.u 35)), .flt .f32 ((x.u 36)), .flt .f32 ((x.u 37)), .flt .f32 ((x.u 38)), .sint .i8 ((x.i 39)), .flt .f32 ((x.u 40)), .flt .f32 ((x.u 41)), .flt .f32 ((x.u 42)), .flt .f32 ((x.u 43)), .flt .f32 ((x.u 44)), .flt .f32 ((x.u 45)), .flt .f32 ((x.u 46)), .flt .f32 ((x.u 47)), .flt .f32 ((x.u 48)), .flt .f32 ((x.u 49)), .flt .f32 ((x.u 50)), .flt .f32 ((x.u 51)), .flt .f32 ((x.u 52)), .flt .f32 ((x.u 53)), .sint .i8 ((x.i 54)), .flt .f32 ((x.u 55)), .flt .f32 ((x.u 56)), .flt .f32 ((x.u 57)), .flt .f32 ((x.u 58)), .flt .f32 ((x.u 59)), .flt .f32 ((x.u 60)), .flt .f32 ((x.u 61)), .flt .f32 ((x.u 62)), .flt .f32 ((x.u 63)), .flt .f32 ((x.u 64)), .flt .f32 ((x.u 65)), .flt .f32 ((x.u 66)), .flt .f32 ((x.u 67)), .flt .f32 ((x.u 68)), .sint .i8 ((x.i 69)), .flt .f32 ((x.u 70)), .flt .f32 ((x.u 71)), .flt .f32 ((x.u 72)), .flt .f32 ((x.u 73)), .flt .f32 ((x.u 74)), .flt .f32 ((x.u 75)), .flt .f32 ((x.u 76)), .flt .f32 ((x.u 77)), .flt .f32 ((x.u 78)), .flt .f32 ((x.u 79)), .flt .f32 ((x.u 80)), .flt .f32 ((x.u 81)), .flt .f32 ((x.u 82)), .flt .f32 ((x.u 83)), .sint .i8 ((x.i 84)), .flt .f32 ((x.u 85)), .flt .f32 ((x.u 86)), .flt .f32 ((x.u 87)), .flt .f32 ((x.u 88)), .flt .f32 ((x.u 89)), .flt .f32 ((x.u 90)), .flt .f32 ((x.u 91)), .flt .f32 ((x.u 92)), .flt .f32 ((x.u 93)), .flt .f32 ((x.u 94)), .flt .f32 ((x.u 95)), .flt .f32 ((x.u 96)), .flt .f32 ((x.u 97)), .flt .f32 ((x.u 98)), .sint .i8 ((x.i 99)), .flt .f32 ((x.u 100)), .flt .f32 ((x.u 101)), .flt .f32 ((x.u 102)), .flt .f32 ((x.u 103)), .flt .f32 ((x.u 104)), .flt .f32 ((x.u 105)), .flt .f32 ((x.u 106)), .flt .f32 ((x.u 107)), .flt .f32 ((x.u 108)), .flt .f32 ((x.u 109)), .flt .f32 ((x.u 110)), .flt .f32 ((x.u 111)), .flt .f32 ((x.u 112)), .flt .f32 ((x.u 113)), .sint .i8 ((x.i 114)), .flt .f32 ((x.u 115)), .flt .f32 ((x.u 116)), .flt .f32 ((x.u 117)), .flt .f32 ((x.u 118)), .flt .f32 ((x.u 119)), .flt .f32 ((x.u 120)), .flt .f32 ((x.u 121)), .flt .f32 ((x.u 122)), .flt .f32 ((x.u 123)), .flt .f32 ((x.u 124)), .flt .f32 ((x.u 125)), .flt .f32 ((x.u 126)), .flt .f32 ((x.u 127)), .flt .f32 ((x.u 128))]

noncomputable def tkkZ8 (l : List AV) : Vars := outV (some (tkk_v8 (varsOf l), []))

theorem tkk_x8 (x : Vars) : mkR (tkkZ8 (mkL x 0 (kdsP [.val (.ag kd2), .val (.ag kd4), .val (.ag kd3)]))) [.ag kd2] = tkk_v8 x := by kernel_rfl

noncomputable def tkkR0 (l : List AV) : Vars := bif decide (intOf (leafN l 0) = 1) then (tkkZ1 l) else (bif decide (intOf (leafN l 0) = 2) then (tkkZ2 l) else (bif decide (intOf (leafN l 0) = 3) then (tkkZ3 l) else (bif decide (intOf (leafN l 0) = 4) then (tkkZ4 l) else (bif decide (intOf (leafN l 0) = 5) then (tkkZ5 l) else (bif decide (intOf (leafN l 0) = 6) then (tkkZ6 l) else (bif decide (intOf (leafN l 0) = 7) then (tkkZ7 l) else (tkkZ8 l)))))))

noncomputable def tkkR : List AV → Vars := Classical.choose (⟨tkkR0, rfl⟩ : ∃ f, f = tkkR0)

theorem tkkR_eq : tkkR = tkkR0 := Classical.choose_spec (⟨tkkR0, rfl⟩ : ∃ f, f = tkkR0)

noncomputable def tkkPre (l : List AV) : List Bool := [decide (1 ≤ intOf (leafN l 0)), decide (intOf (leafN l 0) ≤ 8)] ++ [decide (intOf (leafN l 0) ≤ 0) || !(isNan .f32 (farith .sub .f32 (fltOf (leafN l 137)) (fltOf (leafN l 148)))), decide (intOf (leafN l 0) ≤ 1) || !(isNan .f32 (farith .sub .f32 (fltOf (leafN l 138)) (fltOf (leafN l 149)))), decide (intOf (leafN l 0) ≤ 2) || !(isNan .f32 (farith .sub .f32 (fltOf (leafN l 139)) (fltOf (leafN l 150)))), decide (intOf (leafN l 0) ≤ 3) || !(isNan .f32 (farith .sub .f32 (fltOf (leafN l 140)) (fltOf (leafN l 151)))), decide (intOf (leafN l 0) ≤ 4) || !(isNan .f32 (farith .sub .f32 (fltOf (leafN l 141)) (fltOf (leafN l 152)))), decide (intOf (leafN l 0) ≤ 5) || !(isNan .f32 (farith .sub .f32 (fltOf (leafN l 142)) (fltOf (leafN l 153)))), decide (intOf (leafN l 0) ≤ 6) || !(isNan .f32 (farith .sub .f32 (fltOf (leafN l 143)) (fltOf (leafN l 154)))), decide (intOf (leafN l 0) ≤ 7) || !(isNan .f32 (farith .sub .f32 (fltOf (leafN l 144)) (fltOf (leafN l 155))))]


noncomputable def tkk_cs76_1 (x : Vars) : List Bool := [true, true, (!(isNan .f32 (farith .sub .f32 (x.u 137) (x.u 148)))), true, true, true, true, true, true, true]

set_option maxRecDepth 100000 in
theorem tkk_c76_1 (x : Vars) (ho : OkV (kdsP [.val (.ag kd2), .val (.ag kd4), .val (.ag kd3)]) x) (hp : ∀ b ∈ tkkPre (mkL x 0 (kdsP [.val (.ag kd2), .val (.ag kd4), .val (.ag kd3)])), b = true) (hz : x.i 0 = 1) : ∀ b ∈ tkk_cs76_1 x, b = true := by
  have a0 : (decide (x.i 0 ≤ 0) || !(isNan .f32 (farith .sub .f32 (x.u 137) (x.u 148)))) = true := hp _ (List.mem_cons_of_mem _ (List.mem_cons_of_mem _ (List.mem_cons_self ..)))
  rw [hz] at a0
  unfold tkk_cs76_1
  exact (allC rfl (allC rfl (allC (notT (notBT a0)) (allC rfl (allC rfl (allC rfl (allC rfl (allC rfl (allC rfl (allC rfl allN))))))))))

theorem tkk_f76_1 (x : Vars) : (funH Try.prog G33 noLT true 1000 76 (argsP [.val (.ag kd2), .val (.ag kd4), .val (.ag kd3)] 0 (litL (mkL x 0 (kdsP [.val (.ag kd2), .val (.ag kd4), .val (.ag kd3)])) 0 1)) (memP [.val (.ag kd2), .val (.ag kd4), .val (.ag kd3)] (litL (mkL x 0 (kdsP [.val (.ag kd2), .val (.ag kd4), .val (.ag kd3)])) 0 1)) []).map (fun r => (normR r.1, untupR r.1 && r.1.flat, r.2)) = some (tkk_v1 x, true, tkk_cs76_1 x) := by kernel_rfl


noncomputable def tkk_cs76_2 (x : Vars) : List Bool := [true, true, (!(isNan .f32 (farith .sub .f32 (x.u 137) (x.u 148)))), (!(isNan .f32 (farith .sub .f32 (x.u 138) (x.u 149)))), true, true, true, true, true, true]

set_option maxRecDepth 100000 in
theorem tkk_c76_2 (x : Vars) (ho : OkV (kdsP [.val (.ag kd2), .val (.ag kd4), .val (.ag kd3)]) x) (hp : ∀ b ∈ tkkPre (mkL x 0 (kdsP [.val (.ag kd2), .val (.ag kd4), .val (.ag kd3)])), b = true) (hz : x.i 0 = 2) : ∀ b ∈ tkk_cs76_2 x, b = true := by
  have a0 : (decide (x.i 0 ≤ 0) || !(isNan .f32 (farith .sub .f32 (x.u 137) (x.u 148)))) = true := hp _ (List.mem_cons_of_mem _ (List.mem_cons_of_mem _ (List.mem_cons_self ..)))
  rw [hz] at a0
  have a1 : (decide (x.i 0 ≤ 1) || !(isNan .f32 (farith .sub .f32 (x.u 138) (x.u 149)))) = true := hp _ (List.mem_cons_of_mem _ (List.mem_cons_of_mem _ (List.mem_cons_of_mem _ (List.mem_cons_self ..))))
  rw [hz] at a1
  unfold tkk_cs76_2
  exact (allC rfl (allC rfl (allC (notT (notBT a0)) (allC (notT (notBT a1)) (allC rfl (allC rfl (allC rfl (allC rfl (allC rfl (allC rfl allN))))))))))

theorem tkk_f76_2 (x : Vars) : (funH Try.prog G33 noLT true 1000 76 (argsP [.val (.ag kd2), .val (.ag kd4), .val (.ag kd3)] 0 (litL (mkL x 0 (kdsP [.val (.ag kd2), .val (.ag kd4), .val (.ag kd3)])) 0 2)) (memP [.val (.ag kd2), .val (.ag kd4), .val (.ag kd3)] (litL (mkL x 0 (kdsP [.val (.ag kd2), .val (.ag kd4), .val (.ag kd3)])) 0 2)) []).map (fun r => (normR r.1, untupR r.1 && r.1.flat, r.2)) = some (tkk_v2 x, true, tkk_cs76_2 x) := by kernel_rfl


noncomputable def tkk_cs76_3 (x : Vars) : List Bool := [true, true, (!(isNan .f32 (farith .sub .f32 (x.u 137) (x.u 148)))), (!(isNan .f32 (farith .sub .f32 (x.u 138) (x.u 149)))), (!(isNan .f32 (farith .sub .f32 (x.u 139) (x.u 150)))), true, true, true, true, true]

set_option maxRecDepth 100000 in
theorem tkk_c76_3 (x : Vars) (ho : OkV (kdsP [.val (.ag kd2), .val (.ag kd4), .val (.ag kd3)]) x) (hp : ∀ b ∈ tkkPre (mkL x 0 (kdsP [.val (.ag kd2), .val (.ag kd4), .val (.ag kd3)])), b = true) (hz : x.i 0 = 3) : ∀ b ∈ tkk_cs76_3 x, b = true := by
  have a0 : (decide (x.i 0 ≤ 0) || !(isNan .f32 (farith .sub .f32 (x.u 137) (x.u 148)))) = true := hp _ (List.mem_cons_of_mem _ (List.mem_cons_of_mem _ (List.mem_cons_self ..)))
  rw [hz] at a0
  have a1 : (decide (x.i 0 ≤ 1) || !(isNan .f32 (farith .sub .f32 (x.u 138) (x.u 149)))) = true := hp _ (List.mem_cons_of_mem _ (List.mem_cons_of_mem _ (List.mem_cons_of_mem _ (List.mem_cons_self ..))))
  rw [hz] at a1
  have a2 : (decide (x.i 0 ≤ 2) || !(isNan .f32 (farith .sub .f32 (x.u 139) (x.u 150)))) = true := hp _ (List.mem_cons_of_mem _ (List.mem_cons_of_mem _ (List.mem_cons_of_mem _ (List.mem_cons_of_mem _ (List.mem_cons_self ..)))))
  rw [hz] at a2
  unfold tkk_cs76_3
  exact (allC rfl (allC rfl (allC (notT (notBT a0)) (allC (notT (notBT a1)) (allC (notT (notBT a2)) (allC rfl (allC rfl (allC rfl (allC rfl (allC rfl allN))))))))))

theorem tkk_f76_3 (x : Vars) : (funH Try.prog G33 noLT true 1000 76 (argsP [.val (.ag kd2), .val (.ag kd4), .val (.ag kd3)] 0 (litL (mkL x 0 (kdsP [.val (.ag kd2), .val (.ag kd4), .val (.ag kd3)])) 0 3)) (memP [.val (.ag kd2), .val (.ag kd4), .val (.ag kd3)] (litL (mkL x 0 (kdsP [.val (.ag kd2), .val (.ag kd4), .val (.ag kd3)])) 0 3)) []).map (fun r => (normR r.1, untupR r.1 && r.1.flat, r.2)) = some (tkk_v3 x, true, tkk_cs76_3 x) := by kernel_rfl


noncomputable def tkk_cs76_4 (x : Vars) : List Bool := [true, true, (!(isNan .f32 (farith .sub .f32 (x.u 137) (x.u 148)))), (!(isNan .f32 (farith .sub .f32 (x.u 138) (x.u 149)))), (!(isNan .f32 (farith .sub .f32 (x.u 139) (x.u 150)))), (!(isNan .f32 (farith .sub .f32 (x.u 140) (x.u 151)))), true, true, true, true]

set_option maxRecDepth 100000 in
theorem tkk_c76_4 (x : Vars) (ho : OkV (kdsP [.val (.ag kd2), .val (.ag kd4), .val (.ag kd3)]) x) (hp : ∀ b ∈ tkkPre (mkL x 0 (kdsP [.val (.ag kd2), .val (.ag kd4), .val (.ag kd3)])), b = true) (hz : x.i 0 = 4) : ∀ b ∈ tkk_cs76_4 x, b = true := by
  have a0 : (decide (x.i 0 ≤ 0) || !(isNan .f32 (farith .sub .f32 (x.u 137) (x.u 148)))) = true := hp _ (List.mem_cons_of_mem _ (List.mem_cons_of_mem _ (List.mem_cons_self ..)))
  rw [hz] at a0
  have a1 : (decide (x.i 0 ≤ 1) || !(isNan .f32 (farith .sub .f32 (x.u 138) (x.u 149)))) = true := hp _ (List.mem_cons_of_mem _ (List.mem_cons_of_mem _ (List.mem_cons_of_mem _ (List.mem_cons_self ..))))
  rw [hz] at a1
  have a2 : (decide (x.i 0 ≤ 2) || !(isNan .f32 (farith .sub .f32 (x.u 139) (x.u 150)))) = true := hp _ (List.mem_cons_of_mem _ (List.mem_cons_of_mem _ (List.mem_cons_of_mem _ (List.mem_cons_of_mem _ (List.mem_cons_self ..)))))
  rw [hz] at a2
  have a3 : (decide (x.i 0 ≤ 3) || !(isNan .f32 (farith .sub .f32 (x.u 140) (x.u 151)))) = true := hp _ (List.mem_cons_of_mem _ (List.mem_cons_of_mem _ (List.mem_cons_of_mem _ (List.mem_cons_of_mem _ (List.mem_cons_of_mem _ (List.mem_cons_self ..))))))
  rw [hz] at a3
  unfold tkk_cs76_4
  exact (allC rfl (allC rfl (allC (notT (notBT a0)) (allC (notT (notBT a1)) (allC (notT (notBT a2)) (allC (notT (notBT a3)) (allC rfl (allC rfl (allC rfl (allC rfl allN))))))))))

theorem tkk_f76_4 (x : Vars) : (funH Try.prog G33 noLT true 1000 76 (argsP [.val (.ag kd2), .val (.ag kd4), .val (.ag kd3)] 0 (litL (mkL x 0 (kdsP [.val (.ag kd2), .val (.ag kd4), .val (.ag kd3)])) 0 4)) (memP [.val (.ag kd2), .val (.ag kd4), .val (.ag kd3)] (litL (mkL x 0 (kdsP [.val (.ag kd2), .val (.ag kd4), .val (.ag kd3)])) 0 4)) []).map (fun r => (normR r.1, untupR r.1 && r.1.flat, r.2)) = some (tkk_v4 x, true, tkk_cs76_4 x) := by kernel_rfl


noncomputable def tkk_cs76_5 (x : Vars) : List Bool := [true, true, (!(isNan .f32 (farith .sub .f32 (x.u 137) (x.u 148)))), (!(isNan .f32 (farith .sub .f32 (x.u 138) (x.u 149)))), (!(isNan .f32 (farith .sub .f32 (x.u 139) (x.u 150)))), (!(isNan .f32 (farith .sub .f32 (x.u 140) (x.u 151)))), (!(isNan .f32 (farith .sub .f32 (x.u 141) (x.u 152)))), true, true, true]

set_option maxRecDepth 100000 in
theorem tkk_c76_5 (x : Vars) (ho : OkV (kdsP [.val (.ag kd2), .val (.ag kd4), .val (.ag kd3)]) x) (hp : ∀ b ∈ tkkPre (mkL x 0 (kdsP [.val (.ag kd2), .val (.ag kd4), .val (.ag kd3)])), b = true) (hz : x.i 0 = 5) : ∀ b ∈ tkk_cs76_5 x, b = true := by
  have a0 : (decide (x.i 0 ≤ 0) || !(isNan .f32 (farith .sub .f32 (x.u 137) (x.u 148)))) = true := hp _ (List.mem_cons_of_mem _ (List.mem_cons_of_mem _ (List.mem_cons_self ..)))
  rw [hz] at a0
  have a1 : (decide (x.i 0 ≤ 1) || !(isNan .f32 (farith .sub .f32 (x.u 138) (x.u 149)))) = true := hp _ (List.mem_cons_of_mem _ (List.mem_cons_of_mem _ (List.mem_cons_of_mem _ (List.mem_cons_self ..))))
  rw [hz] at a1
  have a2 : (decide (x.i 0 ≤ 2) || !(isNan .f32 (farith .sub .f32 (x.u 139) (x.u 150)))) = true := hp _ (List.mem_cons_of_mem _ (List.mem_cons_of_mem _ (List.mem_cons_of_mem _ (List.mem_cons_of_mem _ (List.mem_cons_self ..)))))
  rw [hz] at a2
  have a3 : (decide (x.i 0 ≤ 3) || !(isNan .f32 (farith .sub .f32 (x.u 140) (x.u 151)))) = true := hp _ (List.mem_cons_of_mem _ (List.mem_cons_of_mem _ (List.mem_cons_of_mem _ (List.mem_cons_of_mem _ (List.mem_cons_of_mem _ (List.mem_cons_self ..))))))
  rw [hz] at a3
  have a4 : (decide (x.i 0 ≤ 4) || !(isNan .f32 (farith .sub .f32 (x.u 141) (x.u 152)))) = true := hp _ (List.mem_cons_of_mem _ (List.mem_cons_of_mem _ (List.mem_cons_of_mem _ (List.mem_cons_of_mem _ (List.mem_cons_of_mem _ (List.mem_cons_of_mem _ (List.mem_cons_self ..)))))))
  rw [hz] at a4
  unfold tkk_cs76_5
  exact (allC rfl (allC rfl (allC (notT (notBT a0)) (allC (notT (notBT a1)) (allC (notT (notBT a2)) (allC (notT (notBT a3)) (allC (notT (notBT a4)) (allC rfl (allC rfl (allC rfl allN))))))))))

theorem tkk_f76_5 (x : Vars) : (funH Try.prog G33 noLT true 1000 76 (argsP [.val (.ag kd2), .val (.ag kd4), .val (.ag kd3)] 0 (litL (mkL x 0 (kdsP [.val (.ag kd2), .val (.ag kd4), .val (.ag kd3)])) 0 5)) (memP [.val (.ag kd2), .val (.ag kd4), .val (.ag kd3)] (litL (mkL x 0 (kdsP [.val (.ag kd2), .val (.ag kd4), .val (.ag kd3)])) 0 5)) []).map (fun r => (normR r.1, untupR r.1 && r.1.flat, r.2)) = some (tkk_v5 x, true, tkk_cs76_5 x) := by kernel_rfl


noncomputable def tkk_cs76_6 (x : Vars) : List Bool := [true, true, (!(isNan .f32 (farith .sub .f32 (x.u 137) (x.u 148)))), (!(isNan .f32 (farith .sub .f32 (x.u 138) (x.u 149)))), (!(isNan .f32 (farith .sub .f32 (x.u 139) (x.u 150)))), (!(isNan .f32 (farith .sub .f32 (x.u 140) (x.u 151)))), (!(isNan .f32 (farith .sub .f32 (x.u 141) (x.u 152)))), (!(isNan .f32 (farith .sub .f32 (x.u 142) (x.u 153)))), true, true]

set_option maxRecDepth 100000 in
theorem tkk_c76_6 (x : Vars) (ho : OkV (kdsP [.val (.ag kd2), .val (.ag kd4), .val (.ag kd3)]) x) (hp : ∀ b ∈ tkkPre (mkL x 0 (kdsP [.val (.ag kd2), .val (.ag kd4), .val (.ag kd3)])), b = true) (hz : x.i 0 = 6) : ∀ b ∈ tkk_cs76_6 x, b = true := by
  have a0 : (decide (x.i 0 ≤ 0) || !(isNan .f32 (farith .sub .f32 (x.u 137) (x.u 148)))) = true := hp _ (List.mem_cons_of_mem _ (List.mem_cons_of_mem _ (List.mem_cons_self ..)))
  rw [hz] at a0
  have a1 : (decide (x.i 0 ≤ 1) || !(isNan .f32 (farith .sub .f32 (x.u 138) (x.u 149)))) = true := hp _ (List.mem_cons_of_mem _ (List.mem_cons_of_mem _ (List.mem_cons_of_mem _ (List.mem_cons_self ..))))
  rw [hz] at a1
  have a2 : (decide (x.i 0 ≤ 2) || !(isNan .f32 (farith .sub .f32 (x.u 139) (x.u 150)))) = true := hp _ (List.mem_cons_of_mem _ (List.mem_cons_of_mem _ (List.mem_cons_of_mem _ (List.mem_cons_of_mem _ (List.mem_cons_self ..)))))
  rw [hz] at a2
  have a3 : (decide (x.i 0 ≤ 3) || !(isNan .f32 (farith .sub .f32 (x.u 140) (x.u 151)))) = true := hp _ (List.mem_cons_of_mem _ (List.mem_cons_of_mem _ (List.mem_cons_of_mem _ (List.mem_cons_of_mem _ (List.mem_cons_of_mem _ (List.mem_cons_self ..))))))
  rw [hz] at a3
  have a4 : (decide (x.i 0 ≤ 4) || !(isNan .f32 (farith .sub .f32 (x.u 141) (x.u 152)))) = true := hp _ (List.mem_cons_of_mem _ (List.mem_cons_of_mem _ (List.mem_cons_of_mem _ (List.mem_cons_of_mem _ (List.mem_cons_of_mem _ (List.mem_cons_of_mem _ (List.mem_cons_self ..)))))))
  rw [hz] at a4
  have a5 : (decide (x.i 0 ≤ 5) || !(isNan .f32 (farith .sub .f32 (x.u 142) (x.u 153)))) = true := hp _ (List.mem_cons_of_mem _ (List.mem_cons_of_mem _ (List.mem_cons_of_mem _ (List.mem_cons_of_mem _ (List.mem_cons_of_mem _ (List.mem_cons_of_mem _ (List.mem_cons_of_mem _ (List.mem_cons_self ..))))))))
  rw [hz] at a5
  unfold tkk_cs76_6
  exact (allC rfl (allC rfl (allC (notT (notBT a0)) (allC (notT (notBT a1)) (allC (notT (notBT a2)) (allC (notT (notBT a3)) (allC (notT (notBT a4)) (allC (notT (notBT a5)) (allC rfl (allC rfl allN))))))))))

theorem tkk_f76_6 (x : Vars) : (funH Try.prog G33 noLT true 1000 76 (argsP [.val (.ag kd2), .val (.ag kd4), .val (.ag kd3)] 0 (litL (mkL x 0 (kdsP [.val (.ag kd2), .val (.ag kd4), .val (.ag kd3)])) 0 6)) (memP [.val (.ag kd2), .val (.ag kd4), .val (.ag kd3)] (litL (mkL x 0 (kdsP [.val (.ag kd2), .val (.ag kd4), .val (.ag kd3)])) 0 6)) []).map (fun r => (normR r.1, untupR r.1 && r.1.flat, r.2)) = some (tkk_v6 x, true, tkk_cs76_6 x) := by kernel_rfl


noncomputable def tkk_cs76_7 (x : Vars) : List Bool := [true, true, (!(isNan .f32 (farith .sub .f32 (x.u 137) (x.u 148)))), (!(isNan .f32 (farith .sub .f32 (x.u 138) (x.u 149)))), (!(isNan .f32 (farith .sub .f32 (x.u 139) (x.u 150)))), (!(isNan .f32 (farith .sub .f32 (x.u 140) (x.u 151)))), (!(isNan .f32 (farith .sub .f32 (x.u 141) (x.u 152)))), (!(isNan .f32 (farith .sub .f32 (x.u 142) (x.u 153)))), (!(isNan .f32 (farith .sub .f32 (x.u 143) (x.u 154)))), true]

set_option maxRecDepth 100000 in
theorem tkk_c76_7 (x : Vars) (ho : OkV (kdsP [.val (.ag kd2), .val (.ag kd4), .val (.ag kd3)]) x) (hp : ∀ b ∈ tkkPre (mkL x 0 (kdsP [.val (.ag kd2), .val (.ag kd4), .val (.ag kd3)])), b = true) (hz : x.i 0 = 7) : ∀ b ∈ tkk_cs76_7 x, b = true := by
  have a0 : (decide (x.i 0 ≤ 0) || !(isNan .f32 (farith .sub .f32 (x.u 137) (x.u 148)))) = true := hp _ (List.mem_cons_of_mem _ (List.mem_cons_of_mem _ (List.mem_cons_self ..)))
  rw [hz] at a0
  have a1 : (decide (x.i 0 ≤ 1) || !(isNan .f32 (farith .sub .f32 (x.u 138) (x.u 149)))) = true := hp _ (List.mem_cons_of_mem _ (List.mem_cons_of_mem _ (List.mem_cons_of_mem _ (List.mem_cons_self ..))))
  rw [hz] at a1
  have a2 : (decide (x.i 0 ≤ 2) || !(isNan .f32 (farith .sub .f32 (x.u 139) (x.u 150)))) = true := hp _ (List.mem_cons_of_mem _ (List.mem_cons_of_mem _ (List.mem_cons_of_mem _ (List.mem_cons_of_mem _ (List.mem_cons_self ..)))))
  rw [hz] at a2
  have a3 : (decide (x.i 0 ≤ 3) || !(isNan .f32 (farith .sub .f32 (x.u 140) (x.u 151)))) = true := hp _ (List.mem_cons_of_mem _ (List.mem_cons_of_mem _ (List.mem_cons_of_mem _ (List.mem_cons_of_mem _ (List.mem_cons_of_mem _ (List.mem_cons_self ..))))))
  rw [hz] at a3
  have a4 : (decide (x.i 0 ≤ 4) || !(isNan .f32 (farith .sub .f32 (x.u 141) (x.u 152)))) = true := hp _ (List.mem_cons_of_mem _ (List.mem_cons_of_mem _ (List.mem_cons_of_mem _ (List.mem_cons_of_mem _ (List.mem_cons_of_mem _ (List.mem_cons_of_mem _ (List.mem_cons_self ..)))))))
  rw [hz] at a4
  have a5 : (decide (x.i 0 ≤ 5) || !(isNan .f32 (farith .sub .f32 (x.u 142) (x.u 153)))) = true := hp _ (List.mem_cons_of_mem _ (List.mem_cons_of_mem _ (List.mem_cons_of_mem _ (List.mem_cons_of_mem _ (List.mem_cons_of_mem _ (List.mem_cons_of_mem _ (List.mem_cons_of_mem _ (List.mem_cons_self ..))))))))
  rw [hz] at a5
  have a6 : (decide (x.i 0 ≤ 6) || !(isNan .f32 (farith .sub .f32 (x.u 143) (x.u 154)))) = true := hp _ (List.mem_cons_of_mem _ (List.mem_cons_of_mem _ (List.mem_cons_of_mem _ (List.mem_cons_of_mem _ (List.mem_cons_of_mem _ (List.mem_cons_of_mem _ (List.mem_cons_of_mem _ (List.mem_cons_of_mem _ (List.mem_cons_self ..)))))))))
  rw [hz] at a6
  unfold tkk_cs76_7
  exact (allC rfl (allC rfl (allC (notT (notBT a0)) (allC (notT (notBT a1)) (allC (notT (notBT a2)) (allC (notT (notBT a3)) (allC (notT (notBT a4)) (allC (notT (notBT a5)) (allC (notT (notBT a6)) (allC rfl allN))))))))))

theorem tkk_f76_7 (x : Vars) : (funH Try.prog G33 noLT true 1000 76 (argsP [.val (.ag kd2), .val (.ag kd4), .val (.ag kd3)] 0 (litL (mkL x 0 (kdsP [.val (.ag kd2), .val (.ag kd4), .val (.ag kd3)])) 0 7)) (memP [.val (.ag kd2), .val (.ag kd4), .val (.ag kd3)] (litL (mkL x 0 (kdsP [.val (.ag kd2), .val (.ag kd4), .val (.ag kd3)])) 0 7)) []).map (fun r => (normR r.1, untupR r.1 && r.1.flat, r.2)) = some (tkk_v7 x, true, tkk_cs76_7 x) := by kernel_rfl


noncomputable def tkk_cs76_8 (x : Vars) : List Bool := [true, true, (!(isNan .f32 (farith .sub .f32 (x.u 137) (x.u 148)))), (!(isNan .f32 (farith .sub .f32 (x.u 138) (x.u 149)))), (!(isNan .f32 (farith .sub .f32 (x.u 139) (x.u 150)))), (!(isNan .f32 (farith .sub .f32 (x.u 140) (x.u 151)))), (!(isNan .f32 (farith .sub .f32 (x.u 141) (x.u 152)))), (!(isNan .f32 (farith .sub .f32 (x.u 142) (x.u 153)))), (!(isNan .f32 (farith .sub .f32 (x.u 143) (x.u 154)))), (!(isNan .f32 (farith .sub .f32 (x.u 144) (x.u 155))))]

set_option maxRecDepth 100000 in
theorem tkk_c76_8 (x : Vars) (ho : OkV (kdsP [.val (.ag kd2), .val (.ag kd4), .val (.ag kd3)]) x) (hp : ∀ b ∈ tkkPre (mkL x 0 (kdsP [.val (.ag kd2), .val (.ag kd4), .val (.ag kd3)])), b = true) (hz : x.i 0 = 8) : ∀ b ∈ tkk_cs76_8 x, b = true := by
  have a0 : (decide (x.i 0 ≤ 0) || !(isNan .f32 (farith .sub .f32 (x.u 137) (x.u 148)))) = true := hp _ (List.mem_cons_of_mem _ (List.mem_cons_of_mem _ (List.mem_cons_self ..)))
  rw [hz] at a0
  have a1 : (decide (x.i 0 ≤ 1) || !(isNan .f32 (farith .sub .f32 (x.u 138) (x.u 149)))) = true := hp _ (List.mem_cons_of_mem _ (List.mem_cons_of_mem _ (List.mem_cons_of_mem _ (List.mem_cons_self ..))))
  rw [hz] at a1
  have a2 : (decide (x.i 0 ≤ 2) || !(isNan .f32 (farith .sub .f32 (x.u 139) (x.u 150)))) = true := hp _ (List.mem_cons_of_mem _ (List.mem_cons_of_mem _ (List.mem_cons_of_mem _ (List.mem_cons_of_mem _ (List.mem_cons_self ..)))))
  rw [hz] at a2
  have a3 : (decide (x.i 0 ≤ 3) || !(isNan .f32 (farith .sub .f32 (x.u 140) (x.u 151)))) = true := hp _ (List.mem_cons_of_mem _ (List.mem_cons_of_mem _ (List.mem_cons_of_mem _ (List.mem_cons_of_mem _ (List.mem_cons_of_mem _ (List.mem_cons_self ..))))))
  rw [hz] at a3
  have a4 : (decide (x.i 0 ≤ 4) || !(isNan .f32 (farith .sub .f32 (x.u 141) (x.u 152)))) = true := hp _ (List.mem_cons_of_mem _ (List.mem_cons_of_mem _ (List.mem_cons_of_mem _ (List.mem_cons_of_mem _ (List.mem_cons_of_mem _ (List.mem_cons_of_mem _ (List.mem_cons_self ..)))))))
  rw [hz] at a4
  have a5 : (decide (x.i 0 ≤ 5) || !(isNan .f32 (farith .sub .f32 (x.u 142) (x.u 153)))) = true := hp _ (List.mem_cons_of_mem _ (List.mem_cons_of_mem _ (List.mem_cons_of_mem _ (List.mem_cons_of_mem _ (List.mem_cons_of_mem _ (List.mem_cons_of_mem _ (List.mem_cons_of_mem _ (List.mem_cons_self ..))))))))
  rw [hz] at a5
  have a6 : (decide (x.i 0 ≤ 6) || !(isNan .f32 (farith .sub .f32 (x.u 143) (x.u 154)))) = true := hp _ (List.mem_cons_of_mem _ (List.mem_cons_of_mem _ (List.mem_cons_of_mem _ (List.mem_cons_of_mem _ (List.mem_cons_of_mem _ (List.mem_cons_of_mem _ (List.mem_cons_of_mem _ (List.mem_cons_of_mem _ (List.mem_cons_self ..)))))))))
  rw [hz] at a6
  have a7 : (decide (x.i 0 ≤ 7) || !(isNan .f32 (farith .sub .f32 (x.u 144) (x.u 155)))) = true := hp _ (List.mem_cons_of_mem _ (List.mem_cons_of_mem _ (List.mem_cons_of_mem _ (List.mem_cons_of_mem _ (List.mem_cons_of_mem _ (List.mem_cons_of_mem _ (List.mem_cons_of_mem _ (List.mem_cons_of_mem _ (List.mem_cons_of_mem _ (List.mem_cons_self ..))))))))))
  rw [hz] at a7
  unfold tkk_cs76_8
  exact (allC rfl (allC rfl (allC (notT (notBT a0)) (allC (notT (notBT a1)) (allC (notT (notBT a2)) (allC (notT (notBT a3)) (allC (notT (notBT a4)) (allC (notT (notBT a5)) (allC (notT (notBT a6)) (allC (notT (notBT a7)) allN))))))))))

theorem tkk_f76_8 (x : Vars) : (funH Try.prog G33 noLT true 1000 76 (argsP [.val (.ag kd2), .val (.ag kd4), .val (.ag kd3)] 0 (litL (mkL x 0 (kdsP [.val (.ag kd2), .val (.ag kd4), .val (.ag kd3)])) 0 8)) (memP [.val (.ag kd2), .val (.ag kd4), .val (.ag kd3)] (litL (mkL x 0 (kdsP [.val (.ag kd2), .val (.ag kd4), .val (.ag kd3)])) 0 8)) []).map (fun r => (normR r.1, untupR r.1 && r.1.flat, r.2)) = some (tkk_v8 x, true, tkk_cs76_8 x) := by kernel_rfl

theorem tkk_ev76 (x : Vars) (ho : OkV (kdsP [.val (.ag kd2), .val (.ag kd4), .val (.ag kd3)]) x) (hp : ∀ b ∈ tkkPre (mkL x 0 (kdsP [.val (.ag kd2), .val (.ag kd4), .val (.ag kd3)])), b = true) : EvP Try.prog G33 76 [.val (.ag kd2), .val (.ag kd4), .val (.ag kd3)] [.ag kd2] (mkL x 0 (kdsP [.val (.ag kd2), .val (.ag kd4), .val (.ag kd3)])) (tkkR0 (mkL x 0 (kdsP [.val (.ag kd2), .val (.ag kd4), .val (.ag kd3)]))) := by
  have a0 : decide (1 ≤ x.i 0) = true := hp _ (List.mem_cons_self ..)
  have a1 : decide (x.i 0 ≤ 8) = true := hp _ (List.mem_cons_of_mem _ (List.mem_cons_self ..))
  have hr : 1 ≤ x.i 0 ∧ x.i 0 ≤ 8 := ⟨of_decide_eq_true a0, of_decide_eq_true a1⟩
  have c0 : x.i 0 = 1 ∨ x.i 0 = 2 ∨ x.i 0 = 3 ∨ x.i 0 = 4 ∨ x.i 0 = 5 ∨ x.i 0 = 6 ∨ x.i 0 = 7 ∨ x.i 0 = 8 := by omega
  rcases c0 with hz | hz | hz | hz | hz | hz | hz | hz
  · have e : tkkR0 (mkL x 0 (kdsP [.val (.ag kd2), .val (.ag kd4), .val (.ag kd3)])) = tkkZ1 (mkL x 0 (kdsP [.val (.ag kd2), .val (.ag kd4), .val (.ag kd3)])) := by
      unfold tkkR0
      have hz : intOf (leafN (mkL x 0 (kdsP [.val (.ag kd2), .val (.ag kd4), .val (.ag kd3)])) 0) = 1 := hz
      rw [hz]
      rfl
    rw [e]
    exact EvP.ofH (H := noLT) (J := true) (HFun.none Try.prog _ 76) (litL_mk hz) (by rw [tkk_x1]; exact tkk_f76_1 x) (tkk_c76_1 x ho hp hz)
  · have e : tkkR0 (mkL x 0 (kdsP [.val (.ag kd2), .val (.ag kd4), .val (.ag kd3)])) = tkkZ2 (mkL x 0 (kdsP [.val (.ag kd2), .val (.ag kd4), .val (.ag kd3)])) := by
      unfold tkkR0
      have hz : intOf (leafN (mkL x 0 (kdsP [.val (.ag kd2), .val (.ag kd4), .val (.ag kd3)])) 0) = 2 := hz
      rw [hz]
      rfl
    rw [e]
    exact EvP.ofH (H := noLT) (J := true) (HFun.none Try.prog _ 76) (litL_mk hz) (by rw [tkk_x2]; exact tkk_f76_2 x) (tkk_c76_2 x ho hp hz)
  · have e : tkkR0 (mkL x 0 (kdsP [.val (.ag kd2), .val (.ag kd4), .val (.ag kd3)])) = tkkZ3 (mkL x 0 (kdsP [.val (.ag kd2), .val (.ag kd4), .val (.ag kd3)])) := by
      unfold tkkR0
      have hz : intOf (leafN (mkL x 0 (kdsP [.val (.ag kd2), .val (.ag kd4), .val (.ag kd3)])) 0) = 3 := hz
      rw [hz]
      rfl
    rw [e]
    exact EvP.ofH (H := noLT) (J := true) (HFun.none Try.prog _ 76) (litL_mk hz) (by rw [tkk_x3]; exact tkk_f76_3 x) (tkk_c76_3 x ho hp hz)
  · have e : tkkR0 (mkL x 0 (kdsP [.val (.ag kd2), .val (.ag kd4), .val (.ag kd3)])) = tkkZ4 (mkL x 0 (kdsP [.val (.ag kd2), .val (.ag kd4), .val (.ag kd3)])) := by
      unfold tkkR0
      have hz : intOf (leafN (mkL x 0 (kdsP [.val (.ag kd2), .val (.ag kd4), .val (.ag kd3)])) 0) = 4 := hz
      rw [hz]
      rfl
    rw [e]
    exact EvP.ofH (H := noLT) (J := true) (HFun.none Try.prog _ 76) (litL_mk hz) (by rw [tkk_x4]; exact tkk_f76_4 x) (tkk_c76_4 x ho hp hz)
  · have e : tkkR0 (mkL x 0 (kdsP [.val (.ag kd2), .val (.ag kd4), .val (.ag kd3)])) = tkkZ5 (mkL x 0 (kdsP [.val (.ag kd2), .val (.ag kd4), .val (.ag kd3)])) := by
      unfold tkkR0
      have hz : intOf (leafN (mkL x 0 (kdsP [.val (.ag kd2), .val (.ag kd4), .val (.ag kd3)])) 0) = 5 := hz
      rw [hz]
      rfl
    rw [e]
    exact EvP.ofH (H := noLT) (J := true) (HFun.none Try.prog _ 76) (litL_mk hz) (by rw [tkk_x5]; exact tkk_f76_5 x) (tkk_c76_5 x ho hp hz)
  · have e : tkkR0 (mkL x 0 (kdsP [.val (.ag kd2), .val (.ag kd4), .val (.ag kd3)])) = tkkZ6 (mkL x 0 (kdsP [.val (.ag kd2), .val (.ag kd4), .val (.ag kd3)])) := by
      unfold tkkR0
      have hz : intOf (leafN (mkL x 0 (kdsP [.val (.ag kd2), .val (.ag kd4), .val (.ag kd3)])) 0) = 6 := hz
      rw [hz]
      rfl
    rw [e]
    exact EvP.ofH (H := noLT) (J := true) (HFun.none Try.prog _ 76) (litL_mk hz) (by rw [tkk_x6]; exact tkk_f76_6 x) (tkk_c76_6 x ho hp hz)
  · have e : tkkR0 (mkL x 0 (kdsP [.val (.ag kd2), .val (.ag kd4), .val (.ag kd3)])) = tkkZ7 (mkL x 0 (kdsP [.val (.ag kd2), .val (.ag kd4), .val (.ag kd3)])) := by
      unfold tkkR0
      have hz : intOf (leafN (mkL x 0 (kdsP [.val (.ag kd2), .val (.ag kd4), .val (.ag kd3)])) 0) = 7 := hz
      rw [hz]
      rfl
    rw [e]
    exact EvP.ofH (H := noLT) (J := true) (HFun.none Try.prog _ 76) (litL_mk hz) (by rw [tkk_x7]; exact tkk_f76_7 x) (tkk_c76_7 x ho hp hz)
  · have e : tkkR0 (mkL x 0 (kdsP [.val (.ag kd2), .val (.ag kd4), .val (.ag kd3)])) = tkkZ8 (mkL x 0 (kdsP [.val (.ag kd2), .val (.ag kd4), .val (.ag kd3)])) := by
      unfold tkkR0
      have hz : intOf (leafN (mkL x 0 (kdsP [.val (.ag kd2), .val (.ag kd4), .val (.ag kd3)])) 0) = 8 := hz
      rw [hz]
      rfl
    rw [e]
    exact EvP.ofH (H := noLT) (J := true) (HFun.none Try.prog _ 76) (litL_mk hz) (by rw [tkk_x8]; exact tkk_f76_8 x) (tkk_c76_8 x ho hp hz)

noncomputable def G34 : Summ := addG 76 (sumP [.val (.ag kd2), .val (.ag kd4), .val (.ag kd3)] [.ag kd2] tkkPre tkkR) G33

theorem G34_ok : SoundG Try.prog G34 := SoundG.sumP G33_ok mixed Try.call76 G33_ok (fun x hx hp => by rw [tkkR_eq]; exact (fun x ho hp => tkk_ev76 x ho hp) x hx hp)

set_option maxRecDepth 100000 in
theorem tkkFact (x : Vars) (h1 : 1 ≤ x.i 0) (h2 : x.i 0 ≤ 8) : (tkkR (mkL x 0 (kdsP [.val (.ag kd2), .val (.ag kd4), .val (.ag kd3)]))).i 0 = x.i 0 ∧ (tkkR (mkL x 0 (kdsP [.val (.ag kd2), .val (.ag kd4), .val (.ag kd3)]))).i 9 = x.i 9 ∧ (tkkR (mkL x 0 (kdsP [.val (.ag kd2), .val (.ag kd4), .val (.ag kd3)]))).i 24 = x.i 24 ∧ (tkkR (mkL x 0 (kdsP [.val (.ag kd2), .val (.ag kd4), .val (.ag kd3)]))).i 39 = x.i 39 ∧ (tkkR (mkL x 0 (kdsP [.val (.ag kd2), .val (.ag kd4), .val (.ag kd3)]))).i 54 = x.i 54 ∧ (tkkR (mkL x 0 (kdsP [.val (.ag kd2), .val (.ag kd4), .val (.ag kd3)]))).i 69 = x.i 69 ∧ (tkkR (mkL x 0 (kdsP [.val (.ag kd2), .val (.ag kd4), .val (.ag kd3)]))).i 84 = x.i 84 ∧ (tkkR (mkL x 0 (kdsP [.val (.ag kd2), .val (.ag kd4), .val (.ag kd3)]))).i 99 = x.i 99 ∧ (tkkR (mkL x 0 (kdsP [.val (.ag kd2), .val (.ag kd4), .val (.ag kd3)]))).i 114 = x.i 114 := by
  have : x.i 0 = 1 ∨ x.i 0 = 2 ∨ x.i 0 = 3 ∨ x.i 0 = 4 ∨ x.i 0 = 5 ∨ x.i 0 = 6 ∨ x.i 0 = 7 ∨ x.i 0 = 8 := by omega
  rcases this with hz | hz | hz | hz | hz | hz | hz | hz
  · have e : tkkR (mkL x 0 (kdsP [.val (.ag kd2), .val (.ag kd4), .val (.ag kd3)])) = tkkZ1 (mkL x 0 (kdsP [.val (.ag kd2), .val (.ag kd4), .val (.ag kd3)])) := by
      rw [tkkR_eq]
      unfold tkkR0
      have hz : intOf (leafN (mkL x 0 (kdsP [.val (.ag kd2), .val (.ag kd4), .val (.ag kd3)])) 0) = 1 := hz
      rw [hz]
      rfl
    rw [e]
    exact ⟨(show (tkkZ1 (mkL x 0 (kdsP [.val (.ag kd2), .val (.ag kd4), .val (.ag kd3)]))).i 0 = 1 from by kernel_rfl).trans hz.symm, (by kernel_rfl), (by kernel_rfl), (by kernel_rfl), (by kernel_rfl), (by kernel_rfl), (by kernel_rfl), (by kernel_rfl), (by kernel_rfl)⟩
  · have e : tkkR (mkL x 0 (kdsP [.val (.ag kd2), .val (.ag kd4), .val (.ag kd3)])) = tkkZ2 (mkL x 0 (kdsP [.val (.ag kd2), .val (.ag kd4), .val (.ag kd3)])) := by
      rw [tkkR_eq]
      unfold tkkR0
      have hz : intOf (leafN (mkL x 0 (kdsP [.val (.ag kd2), .val (.ag kd4), .val (.ag kd3)])) 0) = 2 := hz
      rw [hz]
      rfl
    rw [e]
    exact ⟨(show (tkkZ2 (mkL x 0 (kdsP [.val (.ag kd2), .val (.ag kd4), .val (.ag kd3)]))).i 0 = 2 from by kernel_rfl).trans hz.symm, (by kernel_rfl), (by kernel_rfl), (by kernel_rfl), (by kernel_rfl), (by kernel_rfl), (by kernel_rfl), (by kernel_rfl), (by kernel_rfl)⟩
  · have e : tkkR (mkL x 0 (kdsP [.val (.ag kd2), .val (.ag kd4), .val (.ag kd3)])) = tkkZ3 (mkL x 0 (kdsP [.val (.ag kd2), .val (.ag kd4), .val (.ag kd3)])) := by
      rw [tkkR_eq]
      unfold tkkR0
      have hz : intOf (leafN (mkL x 0 (kdsP [.val (.ag kd2), .val (.ag kd4), .val (.ag kd3)])) 0) = 3 := hz
      rw [hz]
      rfl
    rw [e]
    exact ⟨(show (tkkZ3 (mkL x 0 (kdsP [.val (.ag kd2), .val (.ag kd4), .val (.ag kd3)]))).i 0 = 3 from by kernel_rfl).trans hz.symm, (by kernel_rfl), (by kernel_rfl), (by kernel_rfl), (by kernel_rfl), (by kernel_rfl), (by kernel_rfl), (by kernel_rfl), (by kernel_rfl)⟩
  · have e : tkkR (mkL x 0 (kdsP [.val (.ag kd2), .val (.ag kd4), .val (.ag kd3)])) = tkkZ4 (mkL x 0 (kdsP [.val (.ag kd2), .val (.ag kd4), .val (.ag kd3)])) := by
      rw [tkkR_eq]
      unfold tkkR0
      have hz : intOf (leafN (mkL x 0 (kdsP [.val (.ag kd2), .val (.ag kd4), .val (.ag kd3)])) 0) = 4 := hz
      rw [hz]
      rfl
    rw [e]
    exact ⟨(show (tkkZ4 (mkL x 0 (kdsP [.val (.ag kd2), .val (.ag kd4), .val (.ag kd3)]))).i 0 = 4 from by kernel_rfl).trans hz.symm, (by kernel_rfl), (by kernel_rfl), (by kernel_rfl), (by kernel_rfl), (by kernel_rfl), (by kernel_rfl), (by kernel_rfl), (by kernel_rfl)⟩
  · have e : tkkR (mkL x 0 (kdsP [.val (.ag kd2), .val (.ag kd4), .val (.ag kd3)])) = tkkZ5 (mkL x 0 (kdsP [.val (.ag kd2), .val (.ag kd4), .val (.ag kd3)])) := by
      rw [tkkR_eq]
      unfold tkkR0
      have hz : intOf (leafN (mkL x 0 (kdsP [.val (.ag kd2), .val (.ag kd4), .val (.ag kd3)])) 0) = 5 := hz
      rw [hz]
      rfl
    rw [e]
    exact ⟨(show (tkkZ5 (mkL x 0 (kdsP [.val (.ag kd2), .val (.ag kd4), .val (.ag kd3)]))).i 0 = 5 from by kernel_rfl).trans hz.symm, (by kernel_rfl), (by kernel_rfl), (by kernel_rfl), (by kernel_rfl), (by kernel_rfl), (by kernel_rfl), (by kernel_rfl), (by kernel_rfl)⟩
  · have e : tkkR (mkL x 0 (kdsP [.val (.ag kd2), .val (.ag kd4), .val (.ag kd3)])) = tkkZ6 (mkL x 0 (kdsP [.val (.ag kd2), .val (.ag kd4), .val (.ag kd3)])) := by
      rw [tkkR_eq]
      unfold tkkR0
      have hz : intOf (leafN (mkL x 0 (kdsP [.val (.ag kd2), .val (.ag kd4), .val (.ag kd3)])) 0) = 6 := hz
      rw [hz]
      rfl
    rw [e]
    exact ⟨(show (tkkZ6 (mkL x 0 (kdsP [.val (.ag kd2), .val (.ag kd4), .val (.ag kd3)]))).i 0 = 6 from by kernel_rfl).trans hz.symm, (by kernel_rfl), (by kernel_rfl), (by kernel_rfl), (by kernel_rfl), (by kernel_rfl), (by kernel_rfl), (by kernel_rfl), (by kernel_rfl)⟩
  · have e : tkkR (mkL x 0 (kdsP [.val (.ag kd2), .val (.ag kd4), .val (.ag kd3)])) = tkkZ7 (mkL x 0 (kdsP [.val (.ag kd2), .val (.ag kd4), .val (.ag kd3)])) := by
      rw [tkkR_eq]
      unfold tkkR0
      have hz : intOf (leafN (mkL x 0 (kdsP [.val (.ag kd2), .val (.ag kd4), .val (.ag kd3)])) 0) = 7 := hz
      rw [hz]
      rfl
    rw [e]
    exact ⟨(show (tkkZ7 (mkL x 0 (kdsP [.val (.ag kd2), .val (.ag kd4), .val (.ag kd3)]))).i 0 = 7 from by kernel_rfl).trans hz.symm, (by kernel_rfl), (by kernel_rfl), (by kernel_rfl), (by kernel_rfl), (by kernel_rfl), (by kernel_rfl), (by kernel_rfl), (by kernel_rfl)⟩
  · have e : tkkR (mkL x 0 (kdsP [.val (.ag kd2), .val (.ag kd4), .val (.ag kd3)])) = tkkZ8 (mkL x 0 (kdsP [.val (.ag kd2), .val (.ag kd4), .val (.ag kd3)])) := by
      rw [tkkR_eq]
      unfold tkkR0
      have hz : intOf (leafN (mkL x 0 (kdsP [.val (.ag kd2), .val (.ag kd4), .val (.ag kd3)])) 0) = 8 := hz
      rw [hz]
      rfl
    rw [e]
    exact ⟨(show (tkkZ8 (mkL x 0 (kdsP [.val (.ag kd2), .val (.ag kd4), .val (.ag kd3)]))).i 0 = 8 from by kernel_rfl).trans hz.symm, (by kernel_rfl), (by kernel_rfl), (by kernel_rfl), (by kernel_rfl), (by kernel_rfl), (by kernel_rfl), (by kernel_rfl), (by kernel_rfl)⟩

theorem clampL (v : Nat) : (bif (fcmp .lss .f32 (bif (fcmp .gtr .f32 v 1098907648) then 1098907648 else v) 0) then 0 else (bif (fcmp .gtr .f32 v 1098907648) then 1098907648 else v)) = (bif (fcmp .gtr .f32 v 1098907648) then 1098907648 else (bif (fcmp .lss .f32 v 0) then 0 else v)) := by
  cases fcmp .gtr .f32 v 1098907648 with
  | false => rfl
  | true =>
    have h : fcmp .lss .f32 1098907648 0 = false := by decide +kernel
    show (bif fcmp .lss .f32 1098907648 0 then 0 else 1098907648) = 1098907648
    rw [h]
    rfl

def litM (m : Mem) (j : Nat) (n : Int) : Mem :=
  match m with
  | some (.lit c rw) :: r => some (.lit (litL c j n) rw) :: r
  | m => m

noncomputable def ltI : Frm := ⟨[.ptr 0 0, .ptr 1 0, .ptr 2 0], [.lit [.sc (.int .i8), .sc (.flt .f32), .sc (.flt .f32), .sc (.flt .f32), .sc (.flt .f32), .sc (.flt .f32), .sc (.flt .f32), .sc (.flt .f32), .sc (.flt .f32), .sc (.int .i8), .sc (.flt .f32), .sc (.flt .f32), .sc (.flt .f32), .sc (.flt .f32), .sc (.flt .f32), .sc (.flt .f32), .sc (.flt .f32), .sc (.flt .f32), .sc (.flt .f32), .sc (.flt .f32), .sc (.flt .f32), .sc (.flt .f32), .sc (.flt .f32), .sc (.flt .f32), .sc (.int .i8), .sc (.flt .f32), .sc (.flt .f32), .sc (.flt .f32), .sc (.flt .f32), .sc (.flt .f32), .sc (.flt .f32), .sc (.flt .f32), .sc (.flt .f32), .sc (.flt .f32), .sc (.flt .f32), .sc (.flt .f32), .sc (.flt .f32), .sc (.flt .f32), .sc (.flt .f32), .sc (.int .i8), .sc (.flt .f32), .sc (.flt .f32), .sc (.flt .f32), .sc (.flt .f32), .sc (.flt .f32), .sc (.flt .f32), .sc (.flt .f32), .sc (.flt .f32), .sc (.flt .f32), .sc (.flt .f32), .sc (.flt .f32), .sc (.flt .f32), .sc (.flt .f32), .sc (.flt .f32), .sc (.int .i8), .sc (.flt .f32), .sc (.flt .f32), .sc (.flt .f32), .sc (.flt .f32), .sc (.flt .f32), .sc (.flt .f32), .sc (.flt .f32), .sc (.flt .f32), .sc (.flt .f32), .sc (.flt .f32), .sc (.flt .f32), .sc (.flt .f32), .sc (.flt .f32), .sc (.flt .f32), .sc (.int .i8), .sc (.flt .f32), .sc (.flt .f32), .sc (.flt .f32), .sc (.flt .f32), .sc (.flt .f32), .sc (.flt .f32), .sc (.flt .f32), .sc (.flt .f32), .sc (.flt .f32), .sc (.flt .f32), .sc (.flt .f32), .sc (.flt .f32), .sc (.flt .f32), .sc (.flt .f32), .sc (.int .i8), .sc (.flt .f32), .sc (.flt .f32), .sc (.flt .f32), .sc (.flt .f32), .sc (.flt .f32), .sc (.flt .f32), .sc (.flt .f32), .sc (.flt .f32), .sc (.flt .f32), .sc (.flt .f32), .sc (.flt .f32), .sc (.flt .f32), .sc (.flt .f32), .sc (.flt .f32), .sc (.int .i8), .sc (.flt .f32), .sc (.flt .f32), .sc (.flt .f32), .sc (.flt .f32), .sc (.flt .f32), .sc (.flt .f32), .sc (.flt .f32), .sc (.flt .f32), .sc (.flt .f32), .sc (.flt .f32), .sc (.flt .f32), .sc (.flt .f32), .sc (.flt .f32), .sc (.flt .f32), .sc (.int .i8), .sc (.flt .f32), .sc (.flt .f32), .sc (.flt .f32), .sc (.flt .f32), .sc (.flt .f32), .sc (.flt .f32), .sc (.flt .f32), .sc (.flt .f32), .sc (.flt .f32), .sc (.flt .f32), .sc (.flt .f32), .sc (.flt .f32), .sc (.flt .f32), .sc (.flt .f32)] true, .lit [.sc (.flt .f32), .sc (.flt .f32), .sc (.flt .f32), .sc (.flt .f32), .sc (.flt .f32), .sc (.flt .f32), .sc (.flt .f32), .sc (.flt .f32), .sc (.flt .f32), .sc (.flt .f32), .sc (.flt .f32), .sc (.flt .f32), .sc (.flt .f32), .sc (.flt .f32), .sc (.flt .f32), .sc (.flt .f32), .sc (.flt .f32), .sc (.flt .f32), .sc (.int .i16)] false, .lit [.sc (.flt .f32), .sc (.flt .f32), .sc (.flt .f32), .sc (.flt .f32), .sc (.flt .f32), .sc (.flt .f32), .sc (.flt .f32), .sc (.flt .f32)] false]⟩

noncomputable def ltO : Frm := ⟨[], [.lit [.sc (.int .i8), .sc (.flt .f32), .sc (.flt .f32), .sc (.flt .f32), .sc (.flt .f32), .sc (.flt .f32), .sc (.flt .f32), .sc (.flt .f32), .sc (.flt .f32), .sc (.int .i8), .sc (.flt .f32), .sc (.flt .f32), .sc (.flt .f32), .sc (.flt .f32), .sc (.flt .f32), .sc (.flt .f32), .sc (.flt .f32), .sc (.flt .f32), .sc (.flt .f32), .sc (.flt .f32), .sc (.flt .f32), .sc (.flt .f32), .sc (.flt .f32), .sc (.flt .f32), .sc (.int .i8), .sc (.flt .f32), .sc (.flt .f32), .sc (.flt .f32), .sc (.flt .f32), .sc (.flt .f32), .sc (.flt .f32), .sc (.flt .f32), .sc (.flt .f32), .sc (.flt .f32), .sc (.flt .f32), .sc (.flt .f32), .sc (.flt .f32), .sc (.flt .f32), .sc (.flt .f32), .sc (.int .i8), .sc (.flt .f32), .sc (.flt .f32), .sc (.flt .f32), .sc (.flt .f32), .sc (.flt .f32), .sc (.flt .f32), .sc (.flt .f32), .sc (.flt .f32), .sc (.flt .f32), .sc (.flt .f32), .sc (.flt .f32), .sc (.flt .f32), .sc (.flt .f32), .sc (.flt .f32), .sc (.int .i8), .sc (.flt .f32), .sc (.flt .f32), .sc (.flt .f32), .sc (.flt .f32), .sc (.flt .f32), .sc (.flt .f32), .sc (.flt .f32), .sc (.flt .f32), .sc (.flt .f32), .sc (.flt .f32), .sc (.flt .f32), .sc (.flt .f32), .sc (.flt .f32), .sc (.flt .f32), .sc (.int .i8), .sc (.flt .f32), .sc (.flt .f32), .sc (.flt .f32), .sc (.flt .f32), .sc (.flt .f32), .sc (.flt .f32), .sc (.flt .f32), .sc (.flt .f32), .sc (.flt .f32), .sc (.flt .f32), .sc (.flt .f32), .sc (.flt .f32), .sc (.flt .f32), .sc (.flt .f32), .sc (.int .i8), .sc (.flt .f32), .sc (.flt .f32), .sc (.flt .f32), .sc (.flt .f32), .sc (.flt .f32), .sc (.flt .f32), .sc (.flt .f32), .sc (.flt .f32), .sc (.flt .f32), .sc (.flt .f32), .sc (.flt .f32), .sc (.flt .f32), .sc (.flt .f32), .sc (.flt .f32), .sc (.int .i8), .sc (.flt .f32), .sc (.flt .f32), .sc (.flt .f32), .sc (.flt .f32), .sc (.flt .f32), .sc (.flt .f32), .sc (.flt .f32), .sc (.flt .f32), .sc (.flt .f32), .sc (.flt .f32), .sc (.flt .f32), .sc (.flt .f32), .sc (.flt .f32), .sc (.flt .f32), .sc (.int .i8), .sc (.flt .f32), .sc (.flt .f32), .sc (.flt .f32), .sc (.flt .f32), .sc (.flt .f32), .sc (.flt .f32), .sc (.flt .f32), .sc (.flt .f32), .sc (.flt .f32), .sc (.flt .f32), .sc (.flt .f32), .sc (.flt .f32), .sc (.flt .f32), .sc (.flt .f32)] true, .lit [.sc (.flt .f32), .sc (.flt .f32), .sc (.flt .f32), .sc (.flt .f32), .sc (.flt .f32), .sc (.flt .f32), .sc (.flt .f32), .sc (.flt .f32), .sc (.flt .f32), .sc (.flt .f32), .sc (.flt .f32), .sc (.flt .f32), .sc (.flt .f32), .sc (.flt .f32), .sc (.flt .f32), .sc (.flt .f32), .sc (.flt .f32), .sc (.flt .f32), .sc (.int .i16)] false, .lit [.sc (.flt .f32), .sc (.flt .f32), .sc (.flt .f32), .sc (.flt .f32), .sc (.flt .f32), .sc (.flt .f32), .sc (.flt .f32), .sc (.flt .f32)] false]⟩

noncomputable def ltL (s : SV) : List AV := mkL s.x 0 (kdsP [.val (.ag kd2), .val (.ag kd4), .val (.ag kd3)])

noncomputable def ltPre (s : SV) : List Bool := tkkPre (ltL s)

noncomputable def ltR0 (s : SV) : SV := mkSV (mkL (tkkR (ltL s)) 0 (kdsP [.val (.ag kd2)]) ++ (ltL s).drop 129) [] [0, 0, 0] [zeroV, zeroV, zeroV]

theorem litOr {v z i : Int} {b : Bool} (hz : v = z) (hi : ¬ z ≤ i) (h : (decide (v ≤ i) || b) = true) : b = true := by
  rw [hz, decide_eq_false hi] at h
  exact h

theorem varsOf_norm (l : List AV) : varsOf (normL l) = varsOf l := by
  have h : ∀ j, leafN (normL l) j = normK (leafN l j) := by
    intro j
    unfold leafN
    rw [List.getD_eq_getElem?_getD, List.getD_eq_getElem?_getD, normL_get]
    cases l[j]? <;> rfl
  have k1 : ∀ v, fltOf (normK v) = fltOf v := fun v => by cases v <;> rfl
  have k2 : ∀ v, intOf (normK v) = intOf v := fun v => by cases v <;> rfl
  have k3 : ∀ v, boolOf (normK v) = boolOf v := fun v => by cases v <;> rfl
  have k4 : ∀ v, strOf (normK v) = strOf v := fun v => by cases v <;> rfl
  unfold varsOf
  simp only [h, k1, k2, k3, k4]

theorem mkSV_norm {l l' : List AV} {q n : List Nat} {y : List Vars} (h : normL l = normL l') : mkSV l q n y = mkSV l' q n y := by
  unfold mkSV
  rw [← varsOf_norm l, h, varsOf_norm l']

theorem SameN.lit {c : List AV} {rw : Bool} {r : Mem} {j : Nat} {n : Int} (h : ∀ k m, c[j]? = some (.sint k m) → m = n) : SameN (some (.lit (litL c j n) rw) :: r) (some (.lit c rw) :: r) := by
  unfold SameN
  simp only [List.map_cons, Option.map_some, Blk.norm, litL_norm h]

def ltC : List VSh := [.sc (.int .i8), .sc (.flt .f32), .sc (.flt .f32), .sc (.flt .f32), .sc (.flt .f32), .sc (.flt .f32), .sc (.flt .f32), .sc (.flt .f32), .sc (.flt .f32), .sc (.int .i8), .sc (.flt .f32), .sc (.flt .f32), .sc (.flt .f32), .sc (.flt .f32), .sc (.flt .f32), .sc (.flt .f32), .sc (.flt .f32), .sc (.flt .f32), .sc (.flt .f32), .sc (.flt .f32), .sc (.flt .f32), .sc (.flt .f32), .sc (.flt .f32), .sc (.flt .f32), .sc (.int .i8), .sc (.flt .f32), .sc (.flt .f32), .sc (.flt .f32), .sc (.flt .f32), .sc (.flt .f32), .sc (.flt .f32), .sc (.flt .f32), .sc (.flt .f32), .sc (.flt .f32), .sc (.flt .f32), .sc (.flt .f32), .sc (.flt .f32), .sc (.flt .f32), .sc (.flt .f32), .sc (.int .i8), .sc (.flt .f32), .sc (.flt .f32), .sc (.flt .f32), .sc (.flt .f32), .sc (.flt .f32), .sc (.flt .f32), .sc (.flt .f32), .sc (.flt .f32), .sc (.flt .f32), .sc (.flt .f32), .sc (.flt .f32), .sc (.flt .f32), .sc (.flt .f32), .sc (.flt .f32), .sc (.int .i8), .sc (.flt .f32), .sc (.flt .f32), .sc (.flt .f32), .sc (.flt .f32), .sc (.flt .f32), .sc (.flt .f32), .sc (.flt .f32), .sc (.flt .f32), .sc (.flt .f32), .sc (.flt .f32), .sc (.flt .f32), .sc (.flt .f32), .sc (.flt .f32), .sc (.flt .f32), .sc (.int .i8), .sc (.flt .f32), .sc (.flt .f32), .sc (.flt .f32), .sc (.flt .f32), .sc (.flt .f32), .sc (.flt .f32), .sc (.flt .f32), .sc (.flt .f32), .sc (.flt .f32), .sc (.flt .f32), .sc (.flt .f32), .sc (.flt .f32), .sc (.flt .f32), .sc (.flt .f32), .sc (.int .i8), .sc (.flt .f32), .sc (.flt .f32), .sc (.flt .f32), .sc (.flt .f32), .sc (.flt .f32), .sc (.flt .f32), .sc (.flt .f32), .sc (.flt .f32), .sc (.flt .f32), .sc (.flt .f32), .sc (.flt .f32), .sc (.flt .f32), .sc (.flt .f32), .sc (.flt .f32), .sc (.int .i8), .sc (.flt .f32), .sc (.flt .f32), .sc (.flt .f32), .sc (.flt .f32), .sc (.flt .f32), .sc (.flt .f32), .sc (.flt .f32), .sc (.flt .f32), .sc (.flt .f32), .sc (.flt .f32), .sc (.flt .f32), .sc (.flt .f32), .sc (.flt .f32), .sc (.flt .f32), .sc (.int .i8), .sc (.flt .f32), .sc (.flt .f32), .sc (.flt .f32), .sc (.flt .f32), .sc (.flt .f32), .sc (.flt .f32), .sc (.flt .f32), .sc (.flt .f32), .sc (.flt .f32), .sc (.flt .f32), .sc (.flt .f32), .sc (.flt .f32), .sc (.flt .f32), .sc (.flt .f32)]

theorem litM_same (s : SV) {z : Int} (hz : s.x.i 0 = z) : SameN (litM (mkM ltI s) 0 z) (mkM ltI s) := by
  have h := SameN.lit (c := mkVs s 0 0 ltC) (rw := true) (r := (mkM ltI s).drop 1) (j := 0) (n := z) (fun k m hk => by
    have e : (mkVs s 0 0 ltC)[0]? = some (.sint .i8 (s.x.i 0)) := by kernel_rfl
    rw [e] at hk
    cases hk
    exact hz)
  exact (show (SameN (some (.lit (litL (mkVs s 0 0 ltC) 0 z) true) :: (mkM ltI s).drop 1) (some (.lit (mkVs s 0 0 ltC) true) :: (mkM ltI s).drop 1)) = SameN (litM (mkM ltI s) 0 z) (mkM ltI s) from by kernel_rfl) ▸ h

noncomputable def lt1_v_0 (s : SV) : Vars := (offR (apl [(.sint .i8 1)] (apl (fl s.x 1 8) (apl [(.sint .i8 (s.x.i 9))] (apl (fl s.x 10 14) (apl [(.sint .i8 (s.x.i 24))] (apl (fl s.x 25 14) (apl [(.sint .i8 (s.x.i 39))] (apl (fl s.x 40 14) (apl [(.sint .i8 (s.x.i 54))] (apl (fl s.x 55 14) (apl [(.sint .i8 (s.x.i 69))] (apl (fl s.x 70 14) (apl [(.sint .i8 (s.x.i 84))] (apl (fl s.x 85 14) (apl [(.sint .i8 (s.x.i 99))] (apl (fl s.x 100 14) (apl [(.sint .i8 (s.x.i 114))] (apl (fl s.x 115 32) (apl [(.sint .i16 (s.x.i 147))] (fl s.x 148 8)))))))))))))))))))))

noncomputable def lt_s1 (s : SV) : SV := (mkSV (apl [(.int .i8 1), (.flt .f32 (bif (fcmp .lss .f32 (bif (fcmp .gtr .f32 (farith .add .f32 (s.x.u 1) (farith .mul .f32 (s.x.u 146) ((lt1_v_0 s).u 0))) 1098907648) then 1098907648 else (farith .add .f32 (s.x.u 1) (farith .mul .f32 (s.x.u 146) ((lt1_v_0 s).u 0)))) 0) then 0 else (bif (fcmp .gtr .f32 (farith .add .f32 (s.x.u 1) (farith .mul .f32 (s.x.u 146) ((lt1_v_0 s).u 0))) 1098907648) then 1098907648 else (farith .add .f32 (s.x.u 1) (farith .mul .f32 (s.x.u 146) ((lt1_v_0 s).u 0))))))] (apl (fl s.x 2 7) (apl [(.sint .i8 (s.x.i 9))] (apl (fl s.x 10 14) (apl [(.sint .i8 (s.x.i 24))] (apl (fl s.x 25 14) (apl [(.sint .i8 (s.x.i 39))] (apl (fl s.x 40 14) (apl [(.sint .i8 (s.x.i 54))] (apl (fl s.x 55 14) (apl [(.sint .i8 (s.x.i 69))] (apl (fl s.x 70 14) (apl [(.sint .i8 (s.x.i 84))] (apl (fl s.x 85 14) (apl [(.sint .i8 (s.x.i 99))] (apl (fl s.x 100 14) (apl [(.sint .i8 (s.x.i 114))] (apl (fl s.x 115 32) (apl [(.sint .i16 (s.x.i 147))] (fl s.x 148 8)))))))))))))))))))) [] [0, 0, 0] [zeroV, zeroV, zeroV])

noncomputable def lt_cs1 (s : SV) : List Bool := [true, true, (!(isNan .f32 (farith .sub .f32 (s.x.u 137) (s.x.u 148)))), true, true, true, true, true, true, true]

theorem lt_t1 (s : SV) : funT Try.prog G34 noLT true 1000 75 3 [ltO] (mkVs s 0 0 ltI.vals) (litM (mkM ltI s) 0 1) [] = some (.out 0 (lt_s1 s) (lt_cs1 s)) := by kernel_rfl

set_option maxRecDepth 100000 in
theorem lt_c1 (s : SV) (hp : ∀ b ∈ ltPre s, b = true) (hz : s.x.i 0 = 1) : ∀ b ∈ lt_cs1 s, b = true := by
  have a0 : (!(isNan .f32 (farith .sub .f32 (s.x.u 137) (s.x.u 148)))) = true := litOr hz (by decide) (show (decide (s.x.i 0 ≤ 0) || !(isNan .f32 (farith .sub .f32 (s.x.u 137) (s.x.u 148)))) = true from hp _ (List.mem_cons_of_mem _ (List.mem_cons_of_mem _ (List.mem_cons_self ..))))
  unfold lt_cs1
  exact (allC rfl (allC rfl (allC a0 (allC rfl (allC rfl (allC rfl (allC rfl (allC rfl (allC rfl (allC rfl allN))))))))))

set_option maxRecDepth 100000 in
theorem lt_q1 (s : SV) (hz : s.x.i 0 = 1) : lt_s1 s = ltR0 s := by
  unfold lt_s1 ltR0
  have e : tkkR (ltL s) = tkkZ1 (ltL s) := by
    rw [tkkR_eq]
    unfold tkkR0
    have hz : intOf (leafN (ltL s) 0) = 1 := hz
    rw [hz]
    rfl
  rw [e]
  refine mkSV_norm ?_
  simp only [clampL]
  kernel_rfl

noncomputable def lt2_v_0 (s : SV) : Vars := (offR (apl [(.sint .i8 2)] (apl (fl s.x 1 8) (apl [(.sint .i8 (s.x.i 9))] (apl (fl s.x 10 14) (apl [(.sint .i8 (s.x.i 24))] (apl (fl s.x 25 14) (apl [(.sint .i8 (s.x.i 39))] (apl (fl s.x 40 14) (apl [(.sint .i8 (s.x.i 54))] (apl (fl s.x 55 14) (apl [(.sint .i8 (s.x.i 69))] (apl (fl s.x 70 14) (apl [(.sint .i8 (s.x.i 84))] (apl (fl s.x 85 14) (apl [(.sint .i8 (s.x.i 99))] (apl (fl s.x 100 14) (apl [(.sint .i8 (s.x.i 114))] (apl (fl s.x 115 32) (apl [(.sint .i16 (s.x.i 147))] (fl s.x 148 8)))))))))))))))))))))

noncomputable def lt_s2 (s : SV) : SV := (mkSV (apl [(.int .i8 2), (.flt .f32 (bif (fcmp .lss .f32 (bif (fcmp .gtr .f32 (farith .add .f32 (s.x.u 1) (farith .mul .f32 (s.x.u 146) ((lt2_v_0 s).u 0))) 1098907648) then 1098907648 else (farith .add .f32 (s.x.u 1) (farith .mul .f32 (s.x.u 146) ((lt2_v_0 s).u 0)))) 0) then 0 else (bif (fcmp .gtr .f32 (farith .add .f32 (s.x.u 1) (farith .mul .f32 (s.x.u 146) ((lt2_v_0 s).u 0))) 1098907648) then 1098907648 else (farith .add .f32 (s.x.u 1) (farith .mul .f32 (s.x.u 146) ((lt2_v_0 s).u 0)))))), (.flt .f32 (bif (fcmp .lss .f32 (bif (fcmp .gtr .f32 (farith .add .f32 (s.x.u 2) (farith .mul .f32 (s.x.u 146) ((lt2_v_0 s).u 1))) 1098907648) then 1098907648 else (farith .add .f32 (s.x.u 2) (farith .mul .f32 (s.x.u 146) ((lt2_v_0 s).u 1)))) 0) then 0 else (bif (fcmp .gtr .f32 (farith .add .f32 (s.x.u 2) (farith .mul .f32 (s.x.u 146) ((lt2_v_0 s).u 1))) 1098907648) then 1098907648 else (farith .add .f32 (s.x.u 2) (farith .mul .f32 (s.x.u 146) ((lt2_v_0 s).u 1))))))] (apl (fl s.x 3 6) (apl [(.sint .i8 (s.x.i 9))] (apl (fl s.x 10 14) (apl [(.sint .i8 (s.x.i 24))] (apl (fl s.x 25 14) (apl [(.sint .i8 (s.x.i 39))] (apl (fl s.x 40 14) (apl [(.sint .i8 (s.x.i 54))] (apl (fl s.x 55 14) (apl [(.sint .i8 (s.x.i 69))] (apl (fl s.x 70 14) (apl [(.sint .i8 (s.x.i 84))] (apl (fl s.x 85 14) (apl [(.sint .i8 (s.x.i 99))] (apl (fl s.x 100 14) (apl [(.sint .i8 (s.x.i 114))] (apl (fl s.x 115 32) (apl [(.sint .i16 (s.x.i 147))] (fl s.x 148 8)))))))))))))))))))) [] [0, 0, 0] [zeroV, zeroV, zeroV])

noncomputable def lt_cs2 (s : SV) : List Bool := [true, true, (!(isNan .f32 (farith .sub .f32 (s.x.u 137) (s.x.u 148)))), (!(isNan .f32 (farith .sub .f32 (s.x.u 138) (s.x.u 149)))), true, true, true, true, true, true]

theorem lt_t2 (s : SV) : funT Try.prog G34 noLT true 1000 75 3 [ltO] (mkVs s 0 0 ltI.vals) (litM (mkM ltI s) 0 2) [] = some (.out 0 (lt_s2 s) (lt_cs2 s)) := by kernel_rfl

set_option maxRecDepth 100000 in
theorem lt_c2 (s : SV) (hp : ∀ b ∈ ltPre s, b = true) (hz : s.x.i 0 = 2) : ∀ b ∈ lt_cs2 s, b = true := by
  have a0 : (!(isNan .f32 (farith .sub .f32 (s.x.u 137) (s.x.u 148)))) = true := litOr hz (by decide) (show (decide (s.x.i 0 ≤ 0) || !(isNan .f32 (farith .sub .f32 (s.x.u 137) (s.x.u 148)))) = true from hp _ (List.mem_cons_of_mem _ (List.mem_cons_of_mem _ (List.mem_cons_self ..))))
  have a1 : (!(isNan .f32 (farith .sub .f32 (s.x.u 138) (s.x.u 149)))) = true := litOr hz (by decide) (show (decide (s.x.i 0 ≤ 1) || !(isNan .f32 (farith .sub .f32 (s.x.u 138) (s.x.u 149)))) = true from hp _ (List.mem_cons_of_mem _ (List.mem_cons_of_mem _ (List.mem_cons_of_mem _ (List.mem_cons_self ..)))))
  unfold lt_cs2
  exact (allC rfl (allC rfl (allC a0 (allC a1 (allC rfl (allC rfl (allC rfl (allC rfl (allC rfl (allC rfl allN))))))))))

set_option maxRecDepth 100000 in
theorem lt_q2 (s : SV) (hz : s.x.i 0 = 2) : lt_s2 s = ltR0 s := by
  unfold lt_s2 ltR0
  have e : tkkR (ltL s) = tkkZ2 (ltL s) := by
    rw [tkkR_eq]
    unfold tkkR0
    have hz : intOf (leafN (ltL s) 0) = 2 := hz
    rw [hz]
    rfl
  rw [e]
  refine mkSV_norm ?_
  simp only [clampL]
  kernel_rfl

noncomputable def lt3_v_0 (s : SV) : Vars := (offR (apl [(.sint .i8 3)] (apl (fl s.x 1 8) (apl [(.sint .i8 (s.x.i 9))] (apl (fl s.x 10 14) (apl [(.sint .i8 (s.x.i 24))] (apl (fl s.x 25 14) (apl [(.sint .i8 (s.x.i 39))] (apl (fl s.x 40 14) (apl [(.sint .i8 (s.x.i 54))] (apl (fl s.x 55 14) (apl [(.sint .i8 (s.x.i 69))] (apl (fl s.x 70 14) (apl [(.sint .i8 (s.x.i 84))] (apl (fl s.x 85 14) (apl [(.sint .i8 (s.x.i 99))] (apl (fl s.x 100 14) (apl [(.sint .i8 (s.x.i 114))] (apl (fl s.x 115 32) (apl [(.sint .i16 (s.x.i 147))] (fl s.x 148 8)))))))))))))))))))))

noncomputable def lt_s3 (s : SV) : SV := (mkSV (apl [(.int .i8 3), (.flt .f32 (bif (fcmp .lss .f32 (bif (fcmp .gtr .f32 (farith .add .f32 (s.x.u 1) (farith .mul .f32 (s.x.u 146) ((lt3_v_0 s).u 0))) 1098907648) then 1098907648 else (farith .add .f32 (s.x.u 1) (farith .mul .f32 (s.x.u 146) ((lt3_v_0 s).u 0)))) 0) then 0 else (bif (fcmp .gtr .f32 (farith .add .f32 (s.x.u 1) (farith .mul .f32 (s.x.u 146) ((lt3_v_0 s).u 0))) 1098907648) then 1098907648 else (farith .add .f32 (s.x.u 1) (farith .mul .f32 (s.x.u 146) ((lt3_v_0 s).u 0)))))), (.flt .f32 (bif (fcmp .lss .f32 (bif (fcmp .gtr .f32 (farith .add .f32 (s.x.u 2) (farith .mul .f32 (s.x.u 146) ((lt3_v_0 s).u 1))) 1098907648) then 1098907648 else (farith .add .f32 (s.x.u 2) (farith .mul .f32 (s.x.u 146) ((lt3_v_0 s).u 1)))) 0) then 0 else (bif (fcmp .gtr .f32 (farith .add .f32 (s.x.u 2) (farith .mul .f32 (s.x.u 146) ((lt3_v_0 s).u 1))) 1098907648) then 1098907648 else (farith .add .f32 (s.x.u 2) (farith .mul .f32 (s.x.u 146) ((lt3_v_0 s).u 1)))))), (.flt .f32 (bif (fcmp .lss .f32 (bif (fcmp .gtr .f32 (farith .add .f32 (s.x.u 3) (farith .mul .f32 (s.x.u 146) ((lt3_v_0 s).u 2))) 1098907648) then 1098907648 else (farith .add .f32 (s.x.u 3) (farith .mul .f32 (s.x.u 146) ((lt3_v_0 s).u 2)))) 0) then 0 else (bif (fcmp .gtr .f32 (farith .add .f32 (s.x.u 3) (farith .mul .f32 (s.x.u 146) ((lt3_v_0 s).u 2))) 1098907648) then 1098907648 else (farith .add .f32 (s.x.u 3) (farith .mul .f32 (s.x.u 146) ((lt3_v_0 s).u 2))))))] (apl (fl s.x 4 5) (apl [(.sint .i8 (s.x.i 9))] (apl (fl s.x 10 14) (apl [(.sint .i8 (s.x.i 24))] (apl (fl s.x 25 14) (apl [(.sint .i8 (s.x.i 39))] (apl (fl s.x 40 14) (apl [(.sint .i8 (s.x.i 54))] (apl (fl s.x 55 14) (apl [(.sint .i8 (s.x.i 69))] (apl (fl s.x 70 14) (apl [(.sint .i8 (s.x.i 84))] (apl (fl s.x 85 14) (apl [(.sint .i8 (s.x.i 99))] (apl (fl s.x 100 14) (apl [(.sint .i8 (s.x.i 114))] (apl (fl s.x 115 32) (apl [(.sint .i16 (s.x.i 147))] (fl s.x 148 8)))))))))))))))))))) [] [0, 0, 0] [zeroV, zeroV, zeroV])

noncomputable def lt_cs3 (s : SV) : List Bool := [true, true, (!(isNan .f32 (farith .sub .f32 (s.x.u 137) (s.x.u 148)))), (!(isNan .f32 (farith .sub .f32 (s.x.u 138) (s.x.u 149)))), (!(isNan .f32 (farith .sub .f32 (s.x.u 139) (s.x.u 150)))), true, true, true, true, true]

theorem lt_t3 (s : SV) : funT Try.prog G34 noLT true 1000 75 3 [ltO] (mkVs s 0 0 ltI.vals) (litM (mkM ltI s) 0 3) [] = some (.out 0 (lt_s3 s) (lt_cs3 s)) := by kernel_rfl

set_option maxRecDepth 100000 in
theorem lt_c3 (s : SV) (hp : ∀ b ∈ ltPre s, b = true) (hz : s.x.i 0 = 3) : ∀ b ∈ lt_cs3 s, b = true := by
  have a0 : (!(isNan .f32 (farith .sub .f32 (s.x.u 137) (s.x.u 148)))) = true := litOr hz (by decide) (show (decide (s.x.i 0 ≤ 0) || !(isNan .f32 (farith .sub .f32 (s.x.u 137) (s.x.u 148)))) = true from hp _ (List.mem_cons_of_mem _ (List.mem_cons_of_mem _ (List.mem_cons_self ..))))
  have a1 : (!(isNan .f32 (farith .sub .f32 (s.x.u 138) (s.x.u 149)))) = true := litOr hz (by decide) (show (decide (s.x.i 0 ≤ 1) || !(isNan .f32 (farith .sub .f32 (s.x.u 138) (s.x.u 149)))) = true from hp _ (List.mem_cons_of_mem _ (List.mem_cons_of_mem _ (List.mem_cons_of_mem _ (List.mem_cons_self ..)))))
  have a2 : (!(isNan .f32 (farith .sub .f32 (s.x.u 139) (s.x.u 150)))) = true := litOr hz (by decide) (show (decide (s.x.i 0 ≤ 2) || !(isNan .f32 (farith .sub .f32 (s.x.u 139) (s.x.u 150)))) = true from hp _ (List.mem_cons_of_mem _ (List.mem_cons_of_mem _ (List.mem_cons_of_mem _ (List.mem_cons_of_mem _ (List.mem_cons_self ..))))))
  unfold lt_cs3
  exact (allC rfl (allC rfl (allC a0 (allC a1 (allC a2 (allC rfl (allC rfl (allC rfl (allC rfl (allC rfl allN))))))))))

set_option maxRecDepth 100000 in
theorem lt_q3 (s : SV) (hz : s.x.i 0 = 3) : lt_s3 s = ltR0 s := by
  unfold lt_s3 ltR0
  have e : tkkR (ltL s) = tkkZ3 (ltL s) := by
    rw [tkkR_eq]
    unfold tkkR0
    have hz : intOf (leafN (ltL s) 0) = 3 := hz
    rw [hz]
    rfl
  rw [e]
  refine mkSV_norm ?_
  simp only [clampL]
  kernel_rfl

noncomputable def lt4_v_0 (s : SV) : Vars := (offR (apl [(.sint .i8 4)] (apl (fl s.x 1 8) (apl [(.sint .i8 (s.x.i 9))] (apl (fl s.x 10 14) (apl [(.sint .i8 (s.x.i 24))] (apl (fl s.x 25 14) (apl [(.sint .i8 (s.x.i 39))] (apl (fl s.x 40 14) (apl [(.sint .i8 (s.x.i 54))] (apl (fl s.x 55 14) (apl [(.sint .i8 (s.x.i 69))] (apl (fl s.x 70 14) (apl [(.sint .i8 (s.x.i 84))] (apl (fl s.x 85 14) (apl [(.sint .i8 (s.x.i 99))] (apl (fl s.x 100 14) (apl [(.sint .i8 (s.x.i 114))] (apl (fl s.x 115 32) (apl [(.sint .i16 (s.x.i 147))] (fl s.x 148 8)))))))))))))))))))))

noncomputable def lt_s4 (s : SV) : SV := (mkSV (apl [(.int .i8 4), (.flt .f32 (bif (fcmp .lss .f32 (bif (fcmp .gtr .f32 (farith .add .f32 (s.x.u 1) (farith .mul .f32 (s.x.u 146) ((lt4_v_0 s).u 0))) 1098907648) then 1098907648 else (farith .add .f32 (s.x.u 1) (farith .mul .f32 (s.x.u 146) ((lt4_v_0 s).u 0)))) 0) then 0 else (bif (fcmp .gtr .f32 (farith .add .f32 (s.x.u 1) (farith .mul .f32 (s.x.u 146) ((lt4_v_0 s).u 0))) 1098907648) then 1098907648 else (farith .add .f32 (s.x.u 1) (farith .mul .f32 (s.x.u 146) ((lt4_v_0 s).u 0)))))), (.flt .f32 (bif (fcmp .lss .f32 (bif (fcmp .gtr .f32 (farith .add .f32 (s.x.u 2) (farith .mul .f32 (s.x.u 146) ((lt4_v_0 s).u 1))) 1098907648) then 1098907648 else (farith .add .f32 (s.x.u 2) (farith .mul .f32 (s.x.u 146) ((lt4_v_0 s).u 1)))) 0) then 0 else (bif (fcmp .gtr .f32 (farith .add .f32 (s.x.u 2) (farith .mul .f32 (s.x.u 146) ((lt4_v_0 s).u 1))) 1098907648) then 1098907648 else (farith .add .f32 (s.x.u 2) (farith .mul .f32 (s.x.u 146) ((lt4_v_0 s).u 1)))))), (.flt .f32 (bif (fcmp .lss .f32 (bif (fcmp .gtr .f32 (farith .add .f32 (s.x.u 3) (farith .mul .f32 (s.x.u 146) ((lt4_v_0 s).u 2))) 1098907648) then 1098907648 else (farith .add .f32 (s.x.u 3) (farith .mul .f32 (s.x.u 146) ((lt4_v_0 s).u 2)))) 0) then 0 else (bif (fcmp .gtr .f32 (farith .add .f32 (s.x.u 3) (farith .mul .f32 (s.x.u 146) ((lt4_v_0 s).u 2))) 1098907648) then 1098907648 else (farith .add .f32 (s.x.u 3) (farith .mul .f32 (s.x.u 146) ((lt4_v_0 s).u 2)))))), (.flt .f32 (bif (fcmp .lss .f32 (bif (fcmp .gtr .f32 (farith .add .f32 (s.x.u 4) (farith .mul .f32 (s.x.u 146) ((lt4_v_0 s).u 3))) 1098907648) then 1098907648 else (farith .add .f32 (s.x.u 4) (farith .mul .f32 (s.x.u 146) ((lt4_v_0 s).u 3)))) 0) then 0 else (bif (fcmp .gtr .f32 (farith .add .f32 (s.x.u 4) (farith .mul .f32 (s.x.u 146) ((lt4_v_0 s).u 3))) 1098907648) then 1098907648 else (farith .add .f32 (s.x.u 4) (farith .mul .f32 (s.x.u 146) ((lt4_v_0 s).u 3))))))] (apl (fl s.x 5 4) (apl [(.sint .i8 (s.x.i 9))] (apl (fl s.x 10 14) (apl [(.sint .i8 (s.x.i 24))] (apl (fl s.x 25 14) (apl [(.sint .i8 (s.x.i 39))] (apl (fl s.x 40 14) (apl [(.sint .i8 (s.x.i 54))] (apl (fl s.x 55 14) (apl [(.sint .i8 (s.x.i 69))] (apl (fl s.x 70 14) (apl [(.sint .i8 (s.x.i 84))] (apl (fl s.x 85 14) (apl [(.sint .i8 (s.x.i 99))] (apl (fl s.x 100 14) (apl [(.sint .i8 (s.x.i 114))] (apl (fl s.x 115 32) (apl [(.sint .i16 (s.x.i 147))] (fl s.x 148 8)))))))))))))))))))) [] [0, 0, 0] [zeroV, zeroV, zeroV])

noncomputable def lt_cs4 (s : SV) : List Bool := [true, true, (!(isNan .f32 (farith .sub .f32 (s.x.u 137) (s.x.u 148)))), (!(isNan .f32 (farith .sub .f32 (s.x.u 138) (s.x.u 149)))), (!(isNan .f32 (farith .sub .f32 (s.x.u 139) (s.x.u 150)))), (!(isNan .f32 (farith .sub .f32 (s.x.u 140) (s.x.u 151)))), true, true, true, true]

theorem lt_t4 (s : SV) : funT Try.prog G34 noLT true 1000 75 3 [ltO] (mkVs s 0 0 ltI.vals) (litM (mkM ltI s) 0 4) [] = some (.out 0 (lt_s4 s) (lt_cs4 s)) := by kernel_rfl

set_option maxRecDepth 100000 in
theorem lt_c4 (s : SV) (hp : ∀ b ∈ ltPre s, b = true) (hz : s.x.i 0 = 4) : ∀ b ∈ lt_cs4 s, b = true := by
  have a0 : (!(isNan .f32 (farith .sub .f32 (s.x.u 137) (s.x.u 148)))) = true := litOr hz (by decide) (show (decide (s.x.i 0 ≤ 0) || !(isNan .f32 (farith .sub .f32 (s.x.u 137) (s.x.u 148)))) = true from hp _ (List.mem_cons_of_mem _ (List.mem_cons_of_mem _ (List.mem_cons_self ..))))
  have a1 : (!(isNan .f32 (farith .sub .f32 (s.x.u 138) (s.x.u 149)))) = true := litOr hz (by decide) (show (decide (s.x.i 0 ≤ 1) || !(isNan .f32 (farith .sub .f32 (s.x.u 138) (s.x.u 149)))) = true from hp _ (List.mem_cons_of_mem _ (List.mem_cons_of_mem _ (List.mem_cons_of_mem _ (List.mem_cons_self ..)))))
  have a2 : (!(isNan .f32 (farith .sub .f32 (s.x.u 139) (s.x.u 150)))) = true := litOr hz (by decide) (show (decide (s.x.i 0 ≤ 2) || !(isNan .f32 (farith .sub .f32 (s.x.u 139) (s.x.u 150)))) = true from hp _ (List.mem_cons_of_mem _ (List.mem_cons_of_mem _ (List.mem_cons_of_mem _ (List.mem_cons_of_mem _ (List.mem_cons_self ..))))))
  have a3 : (!(isNan .f32 (farith .sub .f32 (s.x.u 140) (s.x.u 151)))) = true := litOr hz (by decide) (show (decide (s.x.i 0 ≤ 3) || !(isNan .f32 (farith .sub .f32 (s.x.u 140) (s.x.u 151)))) = true from hp _ (List.mem_cons_of_mem _ (List.mem_cons_of_mem _ (List.mem_cons_of_mem _ (List.mem_cons_of_mem _ (List.mem_cons_of_mem _ (List.mem_cons_self ..)))))))
  unfold lt_cs4
  exact (allC rfl (allC rfl (allC a0 (allC a1 (allC a2 (allC a3 (allC rfl (allC rfl (allC rfl (allC rfl allN))))))))))

set_option maxRecDepth 100000 in
theorem lt_q4 (s : SV) (hz : s.x.i 0 = 4) : lt_s4 s = ltR0 s := by
  unfold lt_s4 ltR0
  have e : tkkR (ltL s) = tkkZ4 (ltL s) := by
    rw [tkkR_eq]
    unfold tkkR0
    have hz : intOf (leafN (ltL s) 0) = 4 := hz
    rw [hz]
    rfl
  rw [e]
  refine mkSV_norm ?_
  simp only [clampL]
  kernel_rfl

noncomputable def lt5_v_0 (s : SV) : Vars := (offR (apl [(.sint .i8 5)] (apl (fl s.x 1 8) (apl [(.sint .i8 (s.x.i 9))] (apl (fl s.x 10 14) (apl [(.sint .i8 (s.x.i 24))] (apl (fl s.x 25 14) (apl [(.sint .i8 (s.x.i 39))] (apl (fl s.x 40 14) (apl [(.sint .i8 (s.x.i 54))] (apl (fl s.x 55 14) (apl [(.sint .i8 (s.x.i 69))] (apl (fl s.x 70 14) (apl [(.sint .i8 (s.x.i 84))] (apl (fl s.x 85 14) (apl [(.sint .i8 (s.x.i 99))] (apl (fl s.x 100 14) (apl [(.sint .i8 (s.x.i 114))] (apl (fl s.x 115 32) (apl [(.sint .i16 (s.x.i 147))] (fl s.x 148 8)))))))))))))))))))))

noncomputable def lt_s5 (s : SV) : SV := (mkSV (apl [(.int .i8 5), (.flt .f32 (bif (fcmp .lss .f32 (bif (fcmp .gtr .f32 (farith .add .f32 (s.x.u 1) (farith .mul .f32 (s.x.u 146) ((lt5_v_0 s).u 0))) 1098907648) then 1098907648 else (farith .add .f32 (s.x.u 1) (farith .mul .f32 (s.x.u 146) ((lt5_v_0 s).u 0)))) 0) then 0 else (bif (fcmp .gtr .f32 (farith .add .f32 (s.x.u 1) (farith .mul .f32 (s.x.u 146) ((lt5_v_0 s).u 0))) 1098907648) then 1098907648 else (farith .add .f32 (s.x.u 1) (farith .mul .f32 (s.x.u 146) ((lt5_v_0 s).u 0)))))), (.flt .f32 (bif (fcmp .lss .f32 (bif (fcmp .gtr .f32 (farith .add .f32 (s.x.u 2) (farith .mul .f32 (s.x.u 146) ((lt5_v_0 s).u 1))) 1098907648) then 1098907648 else (farith .add .f32 (s.x.u 2) (farith .mul .f32 (s.x.u 146) ((lt5_v_0 s).u 1)))) 0) then 0 else (bif (fcmp .gtr .f32 (farith .add .f32 (s.x.u 2) (farith .mul .f32 (s.x.u 146) ((lt5_v_0 s).u 1))) 1098907648) then 1098907648 else (farith .add .f32 (s.x.u 2) (farith .mul .f32 (s.x.u 146) ((lt5_v_0 s).u 1)))))), (.flt .f32 (bif (fcmp .lss .f32 (bif (fcmp .gtr .f32 (farith .add .f32 (s.x.u 3) (farith .mul .f32 (s.x.u 146) ((lt5_v_0 s).u 2))) 1098907648) then 1098907648 else (farith .add .f32 (s.x.u 3) (farith .mul .f32 (s.x.u 146) ((lt5_v_0 s).u 2)))) 0) then 0 else (bif (fcmp .gtr .f32 (farith .add .f32 (s.x.u 3) (farith .mul .f32 (s.x.u 146) ((lt5_v_0 s).u 2))) 1098907648) then 1098907648 else (farith .add .f32 (s.x.u 3) (farith .mul .f32 (s.x.u 146) ((lt5_v_0 s).u 2)))))), (.flt .f32 (bif (fcmp .lss .f32 (bif (fcmp .gtr .f32 (farith .add .f32 (s.x.u 4) (farith .mul .f32 (s.x.u 146) ((lt5_v_0 s).u 3))) 1098907648) then 1098907648 else (farith .add .f32 (s.x.u 4) (farith .mul .f32 (s.x.u 146) ((lt5_v_0 s).u 3)))) 0) then 0 else (bif (fcmp .gtr .f32 (farith .add .f32 (s.x.u 4) (farith .mul .f32 (s.x.u 146) ((lt5_v_0 s).u 3))) 1098907648) then 1098907648 else (farith .add .f32 (s.x.u 4) (farith .mul .f32 (s.x.u 146) ((lt5_v_0 s).u 3)))))), (.flt .f32 (bif (fcmp .lss .f32 (bif (fcmp .gtr .f32 (farith .add .f32 (s.x.u 5) (farith .mul .f32 (s.x.u 146) ((lt5_v_0 s).u 4))) 1098907648) then 1098907648 else (farith .add .f32 (s.x.u 5) (farith .mul .f32 (s.x.u 146) ((lt5_v_0 s).u 4)))) 0) then 0 else (bif (fcmp .gtr .f32 (farith .add .f32 (s.x.u 5) (farith .mul .f32 (s.x.u 146) ((lt5_v_0 s).u 4))) 1098907648) then 1098907648 else (farith .add .f32 (s.x.u 5) (farith .mul .f32 (s.x.u 146) ((lt5_v_0 s).u 4)))))), (.flt .f32 (s.x.u 6)), (.flt .f32 (s.x.u 7)), (.flt .f32 (s.x.u 8)), (.sint .i8 (s.x.i 9))] (apl (fl s.x 10 14) (apl [(.sint .i8 (s.x.i 24))] (apl (fl s.x 25 14) (apl [(.sint .i8 (s.x.i 39))] (apl (fl s.x 40 14) (apl [(.sint .i8 (s.x.i 54))] (apl (fl s.x 55 14) (apl [(.sint .i8 (s.x.i 69))] (apl (fl s.x 70 14) (apl [(.sint .i8 (s.x.i 84))] (apl (fl s.x 85 14) (apl [(.sint .i8 (s.x.i 99))] (apl (fl s.x 100 14) (apl [(.sint .i8 (s.x.i 114))] (apl (fl s.x 115 32) (apl [(.sint .i16 (s.x.i 147))] (fl s.x 148 8)))))))))))))))))) [] [0, 0, 0] [zeroV, zeroV, zeroV])

noncomputable def lt_cs5 (s : SV) : List Bool := [true, true, (!(isNan .f32 (farith .sub .f32 (s.x.u 137) (s.x.u 148)))), (!(isNan .f32 (farith .sub .f32 (s.x.u 138) (s.x.u 149)))), (!(isNan .f32 (farith .sub .f32 (s.x.u 139) (s.x.u 150)))), (!(isNan .f32 (farith .sub .f32 (s.x.u 140) (s.x.u 151)))), (!(isNan .f32 (farith .sub .f32 (s.x.u 141) (s.x.u 152)))), true, true, true]

theorem lt_t5 (s : SV) : funT Try.prog G34 noLT true 1000 75 3 [ltO] (mkVs s 0 0 ltI.vals) (litM (mkM ltI s) 0 5) [] = some (.out 0 (lt_s5 s) (lt_cs5 s)) := by kernel_rfl

set_option maxRecDepth 100000 in
theorem lt_c5 (s : SV) (hp : ∀ b ∈ ltPre s, b = true) (hz : s.x.i 0 = 5) : ∀ b ∈ lt_cs5 s, b = true := by
  have a0 : (!(isNan .f32 (farith .sub .f32 (s.x.u 137) (s.x.u 148)))) = true := litOr hz (by decide) (show (decide (s.x.i 0 ≤ 0) || !(isNan .f32 (farith .sub .f32 (s.x.u 137) (s.x.u 148)))) = true from hp _ (List.mem_cons_of_mem _ (List.mem_cons_of_mem _ (List.mem_cons_self ..))))
  have a1 : (!(isNan .f32 (farith .sub .f32 (s.x.u 138) (s.x.u 149)))) = true := litOr hz (by decide) (show (decide (s.x.i 0 ≤ 1) || !(isNan .f32 (farith .sub .f32 (s.x.u 138) (s.x.u 149)))) = true from hp _ (List.mem_cons_of_mem _ (List.mem_cons_of_mem _ (List.mem_cons_of_mem _ (List.mem_cons_self ..)))))
  have a2 : (!(isNan .f32 (farith .sub .f32 (s.x.u 139) (s.x.u 150)))) = true := litOr hz (by decide) (show (decide (s.x.i 0 ≤ 2) || !(isNan .f32 (farith .sub .f32 (s.x.u 139) (s.x.u 150)))) = true from hp _ (List.mem_cons_of_mem _ (List.mem_cons_of_mem _ (List.mem_cons_of_mem _ (List.mem_cons_of_mem _ (List.mem_cons_self ..))))))
  have a3 : (!(isNan .f32 (farith .sub .f32 (s.x.u 140) (s.x.u 151)))) = true := litOr hz (by decide) (show (decide (s.x.i 0 ≤ 3) || !(isNan .f32 (farith .sub .f32 (s.x.u 140) (s.x.u 151)))) = true from hp _ (List.mem_cons_of_mem _ (List.mem_cons_of_mem _ (List.mem_cons_of_mem _ (List.mem_cons_of_mem _ (List.mem_cons_of_mem _ (List.mem_cons_self ..)))))))
  have a4 : (!(isNan .f32 (farith .sub .f32 (s.x.u 141) (s.x.u 152)))) = true := litOr hz (by decide) (show (decide (s.x.i 0 ≤ 4) || !(isNan .f32 (farith .sub .f32 (s.x.u 141) (s.x.u 152)))) = true from hp _ (List.mem_cons_of_mem _ (List.mem_cons_of_mem _ (List.mem_cons_of_mem _ (List.mem_cons_of_mem _ (List.mem_cons_of_mem _ (List.mem_cons_of_mem _ (List.mem_cons_self ..))))))))
  unfold lt_cs5
  exact (allC rfl (allC rfl (allC a0 (allC a1 (allC a2 (allC a3 (allC a4 (allC rfl (allC rfl (allC rfl allN))))))))))

set_option maxRecDepth 100000 in
theorem lt_q5 (s : SV) (hz : s.x.i 0 = 5) : lt_s5 s = ltR0 s := by
  unfold lt_s5 ltR0
  have e : tkkR (ltL s) = tkkZ5 (ltL s) := by
    rw [tkkR_eq]
    unfold tkkR0
    have hz : intOf (leafN (ltL s) 0) = 5 := hz
    rw [hz]
    rfl
  rw [e]
  refine mkSV_norm ?_
  simp only [clampL]
  kernel_rfl

noncomputable def lt6_v_0 (s : SV) : Vars := (offR (apl [(.sint .i8 6)] (apl (fl s.x 1 8) (apl [(.sint .i8 (s.x.i 9))] (apl (fl s.x 10 14) (apl [(.sint .i8 (s.x.i 24))] (apl (fl s.x 25 14) (apl [(.sint .i8 (s.x.i 39))] (apl (fl s.x 40 14) (apl [(.sint .i8 (s.x.i 54))] (apl (fl s.x 55 14) (apl [(.sint .i8 (s.x.i 69))] (apl (fl s.x 70 14) (apl [(.sint .i8 (s.x.i 84))] (apl (fl s.x 85 14) (apl [(.sint .i8 (s.x.i 99))] (apl (fl s.x 100 14) (apl [(.sint .i8 (s.x.i 114))] (apl (fl s.x 115 32) (apl [(.sint .i16 (s.x.i 147))] (fl s.x 148 8)))))))))))))))))))))

noncomputable def lt_s6 (s : SV) : SV := (mkSV (apl [(.int .i8 6), (.flt .f32 (bif (fcmp .lss .f32 (bif (fcmp .gtr .f32 (farith .add .f32 (s.x.u 1) (farith .mul .f32 (s.x.u 146) ((lt6_v_0 s).u 0))) 1098907648) then 1098907648 else (farith .add .f32 (s.x.u 1) (farith .mul .f32 (s.x.u 146) ((lt6_v_0 s).u 0)))) 0) then 0 else (bif (fcmp .gtr .f32 (farith .add .f32 (s.x.u 1) (farith .mul .f32 (s.x.u 146) ((lt6_v_0 s).u 0))) 1098907648) then 1098907648 else (farith .add .f32 (s.x.u 1) (farith .mul .f32 (s.x.u 146) ((lt6_v_0 s).u 0)))))), (.flt .f32 (bif (fcmp .lss .f32 (bif (fcmp .gtr .f32 (farith .add .f32 (s.x.u 2) (farith .mul .f32 (s.x.u 146) ((lt6_v_0 s).u 1))) 1098907648) then 1098907648 else (farith .add .f32 (s.x.u 2) (farith .mul .f32 (s.x.u 146) ((lt6_v_0 s).u 1)))) 0) then 0 else (bif (fcmp .gtr .f32 (farith .add .f32 (s.x.u 2) (farith .mul .f32 (s.x.u 146) ((lt6_v_0 s).u 1))) 1098907648) then 1098907648 else (farith .add .f32 (s.x.u 2) (farith .mul .f32 (s.x.u 146) ((lt6_v_0 s).u 1)))))), (.flt .f32 (bif (fcmp .lss .f32 (bif (fcmp .gtr .f32 (farith .add .f32 (s.x.u 3) (farith .mul .f32 (s.x.u 146) ((lt6_v_0 s).u 2))) 1098907648) then 1098907648 else (farith .add .f32 (s.x.u 3) (farith .mul .f32 (s.x.u 146) ((lt6_v_0 s).u 2)))) 0) then 0 else (bif (fcmp .gtr .f32 (farith .add .f32 (s.x.u 3) (farith .mul .f32 (s.x.u 146) ((lt6_v_0 s).u 2))) 1098907648) then 1098907648 else (farith .add .f32 (s.x.u 3) (farith .mul .f32 (s.x.u 146) ((lt6_v_0 s).u 2)))))), (.flt .f32 (bif (fcmp .lss .f32 (bif (fcmp .gtr .f32 (farith .add .f32 (s.x.u 4) (farith .mul .f32 (s.x.u 146) ((lt6_v_0 s).u 3))) 1098907648) then 1098907648 else (farith .add .f32 (s.x.u 4) (farith .mul .f32 (s.x.u 146) ((lt6_v_0 s).u 3)))) 0) then 0 else (bif (fcmp .gtr .f32 (farith .add .f32 (s.x.u 4) (farith .mul .f32 (s.x.u 146) ((lt6_v_0 s).u 3))) 1098907648) then 1098907648 else (farith .add .f32 (s.x.u 4) (farith .mul .f32 (s.x.u 146) ((lt6_v_0 s).u 3)))))), (.flt .f32 (bif (fcmp .lss .f32 (bif (fcmp .gtr .f32 (farith .add .f32 (s.x.u 5) (farith .mul .f32 (s.x.u 146) ((lt6_v_0 s).u 4))) 1098907648) then 1098907648 else (farith .add .f32 (s.x.u 5) (farith .mul .f32 (s.x.u 146) ((lt6_v_0 s).u 4)))) 0) then 0 else (bif (fcmp .gtr .f32 (farith .add .f32 (s.x.u 5) (farith .mul .f32 (s.x.u 146) ((lt6_v_0 s).u 4))) 1098907648) then 1098907648 else (farith .add .f32 (s.x.u 5) (farith .mul .f32 (s.x.u 146) ((lt6_v_0 s).u 4)))))), (.flt .f32 (bif (fcmp .lss .f32 (bif (fcmp .gtr .f32 (farith .add .f32 (s.x.u 6) (farith .mul .f32 (s.x.u 146) ((lt6_v_0 s).u 5))) 1098907648) then 1098907648 else (farith .add .f32 (s.x.u 6) (farith .mul .f32 (s.x.u 146) ((lt6_v_0 s).u 5)))) 0) then 0 else (bif (fcmp .gtr .f32 (farith .add .f32 (s.x.u 6) (farith .mul .f32 (s.x.u 146) ((lt6_v_0 s).u 5))) 1098907648) then 1098907648 else (farith .add .f32 (s.x.u 6) (farith .mul .f32 (s.x.u 146) ((lt6_v_0 s).u 5)))))), (.flt .f32 (s.x.u 7)), (.flt .f32 (s.x.u 8)), (.sint .i8 (s.x.i 9))] (apl (fl s.x 10 14) (apl [(.sint .i8 (s.x.i 24))] (apl (fl s.x 25 14) (apl [(.sint .i8 (s.x.i 39))] (apl (fl s.x 40 14) (apl [(.sint .i8 (s.x.i 54))] (apl (fl s.x 55 14) (apl [(.sint .i8 (s.x.i 69))] (apl (fl s.x 70 14) (apl [(.sint .i8 (s.x.i 84))] (apl (fl s.x 85 14) (apl [(.sint .i8 (s.x.i 99))] (apl (fl s.x 100 14) (apl [(.sint .i8 (s.x.i 114))] (apl (fl s.x 115 32) (apl [(.sint .i16 (s.x.i 147))] (fl s.x 148 8)))))))))))))))))) [] [0, 0, 0] [zeroV, zeroV, zeroV])

noncomputable def lt_cs6 (s : SV) : List Bool := [true, true, (!(isNan .f32 (farith .sub .f32 (s.x.u 137) (s.x.u 148)))), (!(isNan .f32 (farith .sub .f32 (s.x.u 138) (s.x.u 149)))), (!(isNan .f32 (farith .sub .f32 (s.x.u 139) (s.x.u 150)))), (!(isNan .f32 (farith .sub .f32 (s.x.u 140) (s.x.u 151)))), (!(isNan .f32 (farith .sub .f32 (s.x.u 141) (s.x.u 152)))), (!(isNan .f32 (farith .sub .f32 (s.x.u 142) (s.x.u 153)))), true, true]

theorem lt_t6 (s : SV) : funT Try.prog G34 noLT true 1000 75 3 [ltO] (mkVs s 0 0 ltI.vals) (litM (mkM ltI s) 0 6) [] = some (.out 0 (lt_s6 s) (lt_cs6 s)) := by kernel_rfl

set_option maxRecDepth 100000 in
theorem lt_c6 (s : SV) (hp : ∀ b ∈ ltPre s, b = true) (hz : s.x.i 0 = 6) : ∀ b ∈ lt_cs6 s, b = true := by
  have a0 : (!(isNan .f32 (farith .sub .f32 (s.x.u 137) (s.x.u 148)))) = true := litOr hz (by decide) (show (decide (s.x.i 0 ≤ 0) || !(isNan .f32 (farith .sub .f32 (s.x.u 137) (s.x.u 148)))) = true from hp _ (List.mem_cons_of_mem _ (List.mem_cons_of_mem _ (List.mem_cons_self ..))))
  have a1 : (!(isNan .f32 (farith .sub .f32 (s.x.u 138) (s.x.u 149)))) = true := litOr hz (by decide) (show (decide (s.x.i 0 ≤ 1) || !(isNan .f32 (farith .sub .f32 (s.x.u 138) (s.x.u 149)))) = true from hp _ (List.mem_cons_of_mem _ (List.mem_cons_of_mem _ (List.mem_cons_of_mem _ (List.mem_cons_self ..)))))
  have a2 : (!(isNan .f32 (farith .sub .f32 (s.x.u 139) (s.x.u 150)))) = true := litOr hz (by decide) (show (decide (s.x.i 0 ≤ 2) || !(isNan .f32 (farith .sub .f32 (s.x.u 139) (s.x.u 150)))) = true from hp _ (List.mem_cons_of_mem _ (List.mem_cons_of_mem _ (List.mem_cons_of_mem _ (List.mem_cons_of_mem _ (List.mem_cons_self ..))))))
  have a3 : (!(isNan .f32 (farith .sub .f32 (s.x.u 140) (s.x.u 151)))) = true := litOr hz (by decide) (show (decide (s.x.i 0 ≤ 3) || !(isNan .f32 (farith .sub .f32 (s.x.u 140) (s.x.u 151)))) = true from hp _ (List.mem_cons_of_mem _ (List.mem_cons_of_mem _ (List.mem_cons_of_mem _ (List.mem_cons_of_mem _ (List.mem_cons_of_mem _ (List.mem_cons_self ..)))))))
  have a4 : (!(isNan .f32 (farith .sub .f32 (s.x.u 141) (s.x.u 152)))) = true := litOr hz (by decide) (show (decide (s.x.i 0 ≤ 4) || !(isNan .f32 (farith .sub .f32 (s.x.u 141) (s.x.u 152)))) = true from hp _ (List.mem_cons_of_mem _ (List.mem_cons_of_mem _ (List.mem_cons_of_mem _ (List.mem_cons_of_mem _ (List.mem_cons_of_mem _ (List.mem_cons_of_mem _ (List.mem_cons_self ..))))))))
  have a5 : (!(isNan .f32 (farith .sub .f32 (s.x.u 142) (s.x.u 153)))) = true := litOr hz (by decide) (show (decide (s.x.i 0 ≤ 5) || !(isNan .f32 (farith .sub .f32 (s.x.u 142) (s.x.u 153)))) = true from hp _ (List.mem_cons_of_mem _ (List.mem_cons_of_mem _ (List.mem_cons_of_mem _ (List.mem_cons_of_mem _ (List.mem_cons_of_mem _ (List.mem_cons_of_mem _ (List.mem_cons_of_mem _ (List.mem_cons_self ..)))))))))
  unfold lt_cs6
  exact (allC rfl (allC rfl (allC a0 (allC a1 (allC a2 (allC a3 (allC a4 (allC a5 (allC rfl (allC rfl allN))))))))))

set_option maxRecDepth 100000 in
theorem lt_q6 (s : SV) (hz : s.x.i 0 = 6) : lt_s6 s = ltR0 s := by
  unfold lt_s6 ltR0
  have e : tkkR (ltL s) = tkkZ6 (ltL s) := by
    rw [tkkR_eq]
    unfold tkkR0
    have hz : intOf (leafN (ltL s) 0) = 6 := hz
    rw [hz]
    rfl
  rw [e]
  refine mkSV_norm ?_
  simp only [clampL]
  kernel_rfl

noncomputable def lt7_v_0 (s : SV) : Vars := (offR (apl [(.sint .i8 7)] (apl (fl s.x 1 8) (apl [(.sint .i8 (s.x.i 9))] (apl (fl s.x 10 14) (apl [(.sint .i8 (s.x.i 24))] (apl (fl s.x 25 14) (apl [(.sint .i8 (s.x.i 39))] (apl (fl s.x 40 14) (apl [(.sint .i8 (s.x.i 54))] (apl (fl s.x 55 14) (apl [(.sint .i8 (s.x.i 69))] (apl (fl s.x 70 14) (apl [(.sint .i8 (s.x.i 84))] (apl (fl s.x 85 14) (apl [(.sint .i8 (s.x.i 99))] (apl (fl s.x 100 14) (apl [(.sint .i8 (s.x.i 114))] (apl (fl s.x 115 32) (apl [(.sint .i16 (s.x.i 147))] (fl s.x 148 8)))))))))))))))))))))

noncomputable def lt_s7 (s : SV) : SV := (mkSV (apl [(.int .i8 7), (.flt .f32 (bif (fcmp .lss .f32 (bif (fcmp .gtr .f32 (farith .add .f32 (s.x.u 1) (farith .mul .f32 (s.x.u 146) ((lt7_v_0 s).u 0))) 1098907648) then 1098907648 else (farith .add .f32 (s.x.u 1) (farith .mul .f32 (s.x.u 146) ((lt7_v_0 s).u 0)))) 0) then 0 else (bif (fcmp .gtr .f32 (farith .add .f32 (s.x.u 1) (farith .mul .f32 (s.x.u 146) ((lt7_v_0 s).u 0))) 1098907648) then 1098907648 else (farith .add .f32 (s.x.u 1) (farith .mul .f32 (s.x.u 146) ((lt7_v_0 s).u 0)))))), (.flt .f32 (bif (fcmp .lss .f32 (bif (fcmp .gtr .f32 (farith .add .f32 (s.x.u 2) (farith .mul .f32 (s.x.u 146) ((lt7_v_0 s).u 1))) 1098907648) then 1098907648 else (farith .add .f32 (s.x.u 2) (farith .mul .f32 (s.x.u 146) ((lt7_v_0 s).u 1)))) 0) then 0 else (bif (fcmp .gtr .f32 (farith .add .f32 (s.x.u 2) (farith .mul .f32 (s.x.u 146) ((lt7_v_0 s).u 1))) 1098907648) then 1098907648 else (farith .add .f32 (s.x.u 2) (farith .mul .f32 (s.x.u 146) ((lt7_v_0 s).u 1)))))), (.flt .f32 (bif (fcmp .lss .f32 (bif (fcmp .gtr .f32 (farith .add .f32 (s.x.u 3) (farith .mul .f32 (s.x.u 146) ((lt7_v_0 s).u 2))) 1098907648) then 1098907648 else (farith .add .f32 (s.x.u 3) (farith .mul .f32 (s.x.u 146) ((lt7_v_0 s).u 2)))) 0) then 0 else (bif (fcmp .gtr .f32 (farith .add .f32 (s.x.u 3) (farith .mul .f32 (s.x.u 146) ((lt7_v_0 s).u 2))) 1098907648) then 1098907648 else (farith .add .f32 (s.x.u 3) (farith .mul .f32 (s.x.u 146) ((lt7_v_0 s).u 2)))))), (.flt .f32 (bif (fcmp .lss .f32 (bif (fcmp .gtr .f32 (farith .add .f32 (s.x.u 4) (farith .mul .f32 (s.x.u 146) ((lt7_v_0 s).u 3))) 1098907648) then 1098907648 else (farith .add .f32 (s.x.u 4) (farith .mul .f32 (s.x.u 146) ((lt7_v_0 s).u 3)))) 0) then 0 else (bif (fcmp .gtr .f32 (farith .add .f32 (s.x.u 4) (farith .mul .f32 (s.x.u 146) ((lt7_v_0 s).u 3))) 1098907648) then 1098907648 else (farith .add .f32 (s.x.u 4) (farith .mul .f32 (s.x.u 146) ((lt7_v_0 s).u 3)))))), (.flt .f32 (bif (fcmp .lss .f32 (bif (fcmp .gtr .f32 (farith .add .f32 (s.x.u 5) (farith .mul .f32 (s.x.u 146) ((lt7_v_0 s).u 4))) 1098907648) then 1098907648 else (farith .add .f32 (s.x.u 5) (farith .mul .f32 (s.x.u 146) ((lt7_v_0 s).u 4)))) 0) then 0 else (bif (fcmp .gtr .f32 (farith .add .f32 (s.x.u 5) (farith .mul .f32 (s.x.u 146) ((lt7_v_0 s).u 4))) 1098907648) then 1098907648 else (farith .add .f32 (s.x.u 5) (farith .mul .f32 (s.x.u 146) ((lt7_v_0 s).u 4)))))), (.flt .f32 (bif (fcmp .lss .f32 (bif (fcmp .gtr .f32 (farith .add .f32 (s.x.u 6) (farith .mul .f32 (s.x.u 146) ((lt7_v_0 s).u 5))) 1098907648) then 1098907648 else (farith .add .f32 (s.x.u 6) (farith .mul .f32 (s.x.u 146) ((lt7_v_0 s).u 5)))) 0) then 0 else (bif (fcmp .gtr .f32 (farith .add .f32 (s.x.u 6) (farith .mul .f32 (s.x.u 146) ((lt7_v_0 s).u 5))) 1098907648) then 1098907648 else (farith .add .f32 (s.x.u 6) (farith .mul .f32 (s.x.u 146) ((lt7_v_0 s).u 5)))))), (.flt .f32 (bif (fcmp .lss .f32 (bif (fcmp .gtr .f32 (farith .add .f32 (s.x.u 7) (farith .mul .f32 (s.x.u 146) ((lt7_v_0 s).u 6))) 1098907648) then 1098907648 else (farith .add .f32 (s.x.u 7) (farith .mul .f32 (s.x.u 146) ((lt7_v_0 s).u 6)))) 0) then 0 else (bif (fcmp .gtr .f32 (farith .add .f32 (s.x.u 7) (farith .mul .f32 (s.x.u 146) ((lt7_v_0 s).u 6))) 1098907648) then 1098907648 else (farith .add .f32 (s.x.u 7) (farith .mul .f32 (s.x.u 146) ((lt7_v_0 s).u 6)))))), (.flt .f32 (s.x.u 8)), (.sint .i8 (s.x.i 9))] (apl (fl s.x 10 14) (apl [(.sint .i8 (s.x.i 24))] (apl (fl s.x 25 14) (apl [(.sint .i8 (s.x.i 39))] (apl (fl s.x 40 14) (apl [(.sint .i8 (s.x.i 54))] (apl (fl s.x 55 14) (apl [(.sint .i8 (s.x.i 69))] (apl (fl s.x 70 14) (apl [(.sint .i8 (s.x.i 84))] (apl (fl s.x 85 14) (apl [(.sint .i8 (s.x.i 99))] (apl (fl s.x 100 14) (apl [(.sint .i8 (s.x.i 114))] (apl (fl s.x 115 32) (apl [(.sint .i16 (s.x.i 147))] (fl s.x 148 8)))))))))))))))))) [] [0, 0, 0] [zeroV, zeroV, zeroV])

noncomputable def lt_cs7 (s : SV) : List Bool := [true, true, (!(isNan .f32 (farith .sub .f32 (s.x.u 137) (s.x.u 148)))), (!(isNan .f32 (farith .sub .f32 (s.x.u 138) (s.x.u 149)))), (!(isNan .f32 (farith .sub .f32 (s.x.u 139) (s.x.u 150)))), (!(isNan .f32 (farith .sub .f32 (s.x.u 140) (s.x.u 151)))), (!(isNan .f32 (farith .sub .f32 (s.x.u 141) (s.x.u 152)))), (!(isNan .f32 (farith .sub .f32 (s.x.u 142) (s.x.u 153)))), (!(isNan .f32 (farith .sub .f32 (s.x.u 143) (s.x.u 154)))), true]

theorem lt_t7 (s : SV) : funT Try.prog G34 noLT true 1000 75 3 [ltO] (mkVs s 0 0 ltI.vals) (litM (mkM ltI s) 0 7) [] = some (.out 0 (lt_s7 s) (lt_cs7 s)) := by kernel_rfl

set_option maxRecDepth 100000 in
theorem lt_c7 (s : SV) (hp : ∀ b ∈ ltPre s, b = true) (hz : s.x.i 0 = 7) : ∀ b ∈ lt_cs7 s, b = true := by
  have a0 : (!(isNan .f32 (farith .sub .f32 (s.x.u 137) (s.x.u 148)))) = true := litOr hz (by decide) (show (decide (s.x.i 0 ≤ 0) || !(isNan .f32 (farith .sub .f32 (s.x.u 137) (s.x.u 148)))) = true from hp _ (List.mem_cons_of_mem _ (List.mem_cons_of_mem _ (List.mem_cons_self ..))))
  have a1 : (!(isNan .f32 (farith .sub .f32 (s.x.u 138) (s.x.u 149)))) = true := litOr hz (by decide) (show (decide (s.x.i 0 ≤ 1) || !(isNan .f32 (farith .sub .f32 (s.x.u 138) (s.x.u 149)))) = true from hp _ (List.mem_cons_of_mem _ (List.mem_cons_of_mem _ (List.mem_cons_of_mem _ (List.mem_cons_self ..)))))
  have a2 : (!(isNan .f32 (farith .sub .f32 (s.x.u 139) (s.x.u 150)))) = true := litOr hz (by decide) (show (decide (s.x.i 0 ≤ 2) || !(isNan .f32 (farith .sub .f32 (s.x.u 139) (s.x.u 150)))) = true from hp _ (List.mem_cons_of_mem _ (List.mem_cons_of_mem _ (List.mem_cons_of_mem _ (List.mem_cons_of_mem _ (List.mem_cons_self ..))))))
  have a3 : (!(isNan .f32 (farith .sub .f32 (s.x.u 140) (s.x.u 151)))) = true := litOr hz (by decide) (show (decide (s.x.i 0 ≤ 3) || !(isNan .f32 (farith .sub .f32 (s.x.u 140) (s.x.u 151)))) = true from hp _ (List.mem_cons_of_mem _ (List.mem_cons_of_mem _ (List.mem_cons_of_mem _ (List.mem_cons_of_mem _ (List.mem_cons_of_mem _ (List.mem_cons_self ..)))))))
  have a4 : (!(isNan .f32 (farith .sub .f32 (s.x.u 141) (s.x.u 152)))) = true := litOr hz (by decide) (show (decide (s.x.i 0 ≤ 4) || !(isNan .f32 (farith .sub .f32 (s.x.u 141) (s.x.u 152)))) = true from hp _ (List.mem_cons_of_mem _ (List.mem_cons_of_mem _ (List.mem_cons_of_mem _ (List.mem_cons_of_mem _ (List.mem_cons_of_mem _ (List.mem_cons_of_mem _ (List.mem_cons_self ..))))))))
  have a5 : (!(isNan .f32 (farith .sub .f32 (s.x.u 142) (s.x.u 153)))) = true := litOr hz (by decide) (show (decide (s.x.i 0 ≤ 5) || !(isNan .f32 (farith .sub .f32 (s.x.u 142) (s.x.u 153)))) = true from hp _ (List.mem_cons_of_mem _ (List.mem_cons_of_mem _ (List.mem_cons_of_mem _ (List.mem_cons_of_mem _ (List.mem_cons_of_mem _ (List.mem_cons_of_mem _ (List.mem_cons_of_mem _ (List.mem_cons_self ..)))))))))
  have a6 : (!(isNan .f32 (farith .sub .f32 (s.x.u 143) (s.x.u 154)))) = true := litOr hz (by decide) (show (decide (s.x.i 0 ≤ 6) || !(isNan .f32 (farith .sub .f32 (s.x.u 143) (s.x.u 154)))) = true from hp _ (List.mem_cons_of_mem _ (List.mem_cons_of_mem _ (List.mem_cons_of_mem _ (List.mem_cons_of_mem _ (List.mem_cons_of_mem _ (List.mem_cons_of_mem _ (List.mem_cons_of_mem _ (List.mem_cons_of_mem _ (List.mem_cons_self ..))))))))))
  unfold lt_cs7
  exact (allC rfl (allC rfl (allC a0 (allC a1 (allC a2 (allC a3 (allC a4 (allC a5 (allC a6 (allC rfl allN))))))))))

set_option maxRecDepth 100000 in
theorem lt_q7 (s : SV) (hz : s.x.i 0 = 7) : lt_s7 s = ltR0 s := by
  unfold lt_s7 ltR0
  have e : tkkR (ltL s) = tkkZ7 (ltL s) := by
    rw [tkkR_eq]
    unfold tkkR0
    have hz : intOf (leafN (ltL s) 0) = 7 := hz
    rw [hz]
    rfl
  rw [e]
  refine mkSV_norm ?_
  simp only [clampL]
  kernel_rfl

noncomputable def lt8_v_0 (s : SV) : Vars := (offR (apl [(.sint .i8 8)] (apl (fl s.x 1 8) (apl [(.sint .i8 (s.x.i 9))] (apl (fl s.x 10 14) (apl [(.sint .i8 (s.x.i 24))] (apl (fl s.x 25 14) (apl [(.sint .i8 (s.x.i 39))] (apl (fl s.x 40 14) (apl [(.sint .i8 (s.x.i 54))] (apl (fl s.x 55 14) (apl [(.sint .i8 (s.x.i 69))] (apl (fl s.x 70 14) (apl [(.sint .i8 (s.x.i 84))] (apl (fl s.x 85 14) (apl [(.sint .i8 (s.x.i 99))] (apl (fl s.x 100 14) (apl [(.sint .i8 (s.x.i 114))] (apl (fl s.x 115 32) (apl [(.sint .i16 (s.x.i 147))] (fl s.x 148 8)))))))))))))))))))))

noncomputable def lt_s8 (s : SV) : SV := (mkSV (apl [(.int .i8 8), (.flt .f32 (bif (fcmp .lss .f32 (bif (fcmp .gtr .f32 (farith .add .f32 (s.x.u 1) (farith .mul .f32 (s.x.u 146) ((lt8_v_0 s).u 0))) 1098907648) then 1098907648 else (farith .add .f32 (s.x.u 1) (farith .mul .f32 (s.x.u 146) ((lt8_v_0 s).u 0)))) 0) then 0 else (bif (fcmp .gtr .f32 (farith .add .f32 (s.x.u 1) (farith .mul .f32 (s.x.u 146) ((lt8_v_0 s).u 0))) 1098907648) then 1098907648 else (farith .add .f32 (s.x.u 1) (farith .mul .f32 (s.x.u 146) ((lt8_v_0 s).u 0)))))), (.flt .f32 (bif (fcmp .lss .f32 (bif (fcmp .gtr .f32 (farith .add .f32 (s.x.u 2) (farith .mul .f32 (s.x.u 146) ((lt8_v_0 s).u 1))) 1098907648) then 1098907648 else (farith .add .f32 (s.x.u 2) (farith .mul .f32 (s.x.u 146) ((lt8_v_0 s).u 1)))) 0) then 0 else (bif (fcmp .gtr .f32 (farith .add .f32 (s.x.u 2) (farith .mul .f32 (s.x.u 146) ((lt8_v_0 s).u 1))) 1098907648) then 1098907648 else (farith .add .f32 (s.x.u 2) (farith .mul .f32 (s.x.u 146) ((lt8_v_0 s).u 1)))))), (.flt .f32 (bif (fcmp .lss .f32 (bif (fcmp .gtr .f32 (farith .add .f32 (s.x.u 3) (farith .mul .f32 (s.x.u 146) ((lt8_v_0 s).u 2))) 1098907648) then 1098907648 else (farith .add .f32 (s.x.u 3) (farith .mul .f32 (s.x.u 146) ((lt8_v_0 s).u 2)))) 0) then 0 else (bif (fcmp .gtr .f32 (farith .add .f32 (s.x.u 3) (farith .mul .f32 (s.x.u 146) ((lt8_v_0 s).u 2))) 1098907648) then 1098907648 else (farith .add .f32 (s.x.u 3) (farith .mul .f32 (s.x.u 146) ((lt8_v_0 s).u 2)))))), (.flt .f32 (bif (fcmp .lss .f32 (bif (fcmp .gtr .f32 (farith .add .f32 (s.x.u 4) (farith .mul .f32 (s.x.u 146) ((lt8_v_0 s).u 3))) 1098907648) then 1098907648 else (farith .add .f32 (s.x.u 4) (farith .mul .f32 (s.x.u 146) ((lt8_v_0 s).u 3)))) 0) then 0 else (bif (fcmp .gtr .f32 (farith .add .f32 (s.x.u 4) (farith .mul .f32 (s.x.u 146) ((lt8_v_0 s).u 3))) 1098907648) then 1098907648 else (farith .add .f32 (s.x.u 4) (farith .mul .f32 (s.x.u 146) ((lt8_v_0 s).u 3)))))), (.flt .f32 (bif (fcmp .lss .f32 (bif (fcmp .gtr .f32 (farith .add .f32 (s.x.u 5) (farith .mul .f32 (s.x.u 146) ((lt8_v_0 s).u 4))) 1098907648) then 1098907648 else (farith .add .f32 (s.x.u 5) (farith .mul .f32 (s.x.u 146) ((lt8_v_0 s).u 4)))) 0) then 0 else (bif (fcmp .gtr .f32 (farith .add .f32 (s.x.u 5) (farith .mul .f32 (s.x.u 146) ((lt8_v_0 s).u 4))) 1098907648) then 1098907648 else (farith .add .f32 (s.x.u 5) (farith .mul .f32 (s.x.u 146) ((lt8_v_0 s).u 4)))))), (.flt .f32 (bif (fcmp .lss .f32 (bif (fcmp .gtr .f32 (farith .add .f32 (s.x.u 6) (farith .mul .f32 (s.x.u 146) ((lt8_v_0 s).u 5))) 1098907648) then 1098907648 else (farith .add .f32 (s.x.u 6) (farith .mul .f32 (s.x.u 146) ((lt8_v_0 s).u 5)))) 0) then 0 else (bif (fcmp .gtr .f32 (farith .add .f32 (s.x.u 6) (farith .mul .f32 (s.x.u 146) ((lt8_v_0 s).u 5))) 1098907648) then 1098907648 else (farith .add .f32 (s.x.u 6) (farith .mul .f32 (s.x.u 146) ((lt8_v_0 s).u 5)))))), (.flt .f32 (bif (fcmp .lss .f32 (bif (fcmp .gtr .f32 (farith .add .f32 (s.x.u 7) (farith .mul .f32 (s.x.u 146) ((lt8_v_0 s).u 6))) 1098907648) then 1098907648 else (farith .add .f32 (s.x.u 7) (farith .mul .f32 (s.x.u 146) ((lt8_v_0 s).u 6)))) 0) then 0 else (bif (fcmp .gtr .f32 (farith .add .f32 (s.x.u 7) (farith .mul .f32 (s.x.u 146) ((lt8_v_0 s).u 6))) 1098907648) then 1098907648 else (farith .add .f32 (s.x.u 7) (farith .mul .f32 (s.x.u 146) ((lt8_v_0 s).u 6)))))), (.flt .f32 (bif (fcmp .lss .f32 (bif (fcmp .gtr .f32 (farith .add .f32 (s.x.u 8) (farith .mul .f32 (s.x.u 146) ((lt8_v_0 s).u 7))) 1098907648) then 1098907648 else (farith .add .f32 (s.x.u 8) (farith .mul .f32 (s.x.u 146) ((lt8_v_0 s).u 7)))) 0) then 0 else (bif (fcmp .gtr .f32 (farith .add .f32 (s.x.u 8) (farith .mul .f32 (s.x.u 146) ((lt8_v_0 s).u 7))) 1098907648) then 1098907648 else (farith .add .f32 (s.x.u 8) (farith .mul .f32 (s.x.u 146) ((lt8_v_0 s).u 7)))))), (.sint .i8 (s.x.i 9))] (apl (fl s.x 10 14) (apl [(.sint .i8 (s.x.i 24))] (apl (fl s.x 25 14) (apl [(.sint .i8 (s.x.i 39))] (apl (fl s.x 40 14) (apl [(.sint .i8 (s.x.i 54))] (apl (fl s.x 55 14) (apl [(.sint .i8 (s.x.i 69))] (apl (fl s.x 70 14) (apl [(.sint .i8 (s.x.i 84))] (apl (fl s.x 85 14) (apl [(.sint .i8 (s.x.i 99))] (apl (fl s.x 100 14) (apl [(.sint .i8 (s.x.i 114))] (apl (fl s.x 115 32) (apl [(.sint .i16 (s.x.i 147))] (fl s.x 148 8)))))))))))))))))) [] [0, 0, 0] [zeroV, zeroV, zeroV])

noncomputable def lt_cs8 (s : SV) : List Bool := [true, true, (!(isNan .f32 (farith .sub .f32 (s.x.u 137) (s.x.u 148)))), (!(isNan .f32 (farith .sub .f32 (s.x.u 138) (s.x.u 149)))), (!(isNan .f32 (farith .sub .f32 (s.x.u 139) (s.x.u 150)))), (!(isNan .f32 (farith .sub .f32 (s.x.u 140) (s.x.u 151)))), (!(isNan .f32 (farith .sub .f32 (s.x.u 141) (s.x.u 152)))), (!(isNan .f32 (farith .sub .f32 (s.x.u 142) (s.x.u 153)))), (!(isNan .f32 (farith .sub .f32 (s.x.u 143) (s.x.u 154)))), (!(isNan .f32 (farith .sub .f32 (s.x.u 144) (s.x.u 155))))]

theorem lt_t8 (s : SV) : funT Try.prog G34 noLT true 1000 75 3 [ltO] (mkVs s 0 0 ltI.vals) (litM (mkM ltI s) 0 8) [] = some (.out 0 (lt_s8 s) (lt_cs8 s)) := by kernel_rfl

set_option maxRecDepth 100000 in
theorem lt_c8 (s : SV) (hp : ∀ b ∈ ltPre s, b = true) (hz : s.x.i 0 = 8) : ∀ b ∈ lt_cs8 s, b = true := by
  have a0 : (!(isNan .f32 (farith .sub .f32 (s.x.u 137) (s.x.u 148)))) = true := litOr hz (by decide) (show (decide (s.x.i 0 ≤ 0) || !(isNan .f32 (farith .sub .f32 (s.x.u 137) (s.x.u 148)))) = true from hp _ (List.mem_cons_of_mem _ (List.mem_cons_of_mem _ (List.mem_cons_self ..))))
  have a1 : (!(isNan .f32 (farith .sub .f32 (s.x.u 138) (s.x.u 149)))) = true := litOr hz (by decide) (show (decide (s.x.i 0 ≤ 1) || !(isNan .f32 (farith .sub .f32 (s.x.u 138) (s.x.u 149)))) = true from hp _ (List.mem_cons_of_mem _ (List.mem_cons_of_mem _ (List.mem_cons_of_mem _ (List.mem_cons_self ..)))))
  have a2 : (!(isNan .f32 (farith .sub .f32 (s.x.u 139) (s.x.u 150)))) = true := litOr hz (by decide) (show (decide (s.x.i 0 ≤ 2) || !(isNan .f32 (farith .sub .f32 (s.x.u 139) (s.x.u 150)))) = true from hp _ (List.mem_cons_of_mem _ (List.mem_cons_of_mem _ (List.mem_cons_of_mem _ (List.mem_cons_of_mem _ (List.mem_cons_self ..))))))
  have a3 : (!(isNan .f32 (farith .sub .f32 (s.x.u 140) (s.x.u 151)))) = true := litOr hz (by decide) (show (decide (s.x.i 0 ≤ 3) || !(isNan .f32 (farith .sub .f32 (s.x.u 140) (s.x.u 151)))) = true from hp _ (List.mem_cons_of_mem _ (List.mem_cons_of_mem _ (List.mem_cons_of_mem _ (List.mem_cons_of_mem _ (List.mem_cons_of_mem _ (List.mem_cons_self ..)))))))
  have a4 : (!(isNan .f32 (farith .sub .f32 (s.x.u 141) (s.x.u 152)))) = true := litOr hz (by decide) (show (decide (s.x.i 0 ≤ 4) || !(isNan .f32 (farith .sub .f32 (s.x.u 141) (s.x.u 152)))) = true from hp _ (List.mem_cons_of_mem _ (List.mem_cons_of_mem _ (List.mem_cons_of_mem _ (List.mem_cons_of_mem _ (List.mem_cons_of_mem _ (List.mem_cons_of_mem _ (List.mem_cons_self ..))))))))
  have a5 : (!(isNan .f32 (farith .sub .f32 (s.x.u 142) (s.x.u 153)))) = true := litOr hz (by decide) (show (decide (s.x.i 0 ≤ 5) || !(isNan .f32 (farith .sub .f32 (s.x.u 142) (s.x.u 153)))) = true from hp _ (List.mem_cons_of_mem _ (List.mem_cons_of_mem _ (List.mem_cons_of_mem _ (List.mem_cons_of_mem _ (List.mem_cons_of_mem _ (List.mem_cons_of_mem _ (List.mem_cons_of_mem _ (List.mem_cons_self ..)))))))))
  have a6 : (!(isNan .f32 (farith .sub .f32 (s.x.u 143) (s.x.u 154)))) = true := litOr hz (by decide) (show (decide (s.x.i 0 ≤ 6) || !(isNan .f32 (farith .sub .f32 (s.x.u 143) (s.x.u 154)))) = true from hp _ (List.mem_cons_of_mem _ (List.mem_cons_of_mem _ (List.mem_cons_of_mem _ (List.mem_cons_of_mem _ (List.mem_cons_of_mem _ (List.mem_cons_of_mem _ (List.mem_cons_of_mem _ (List.mem_cons_of_mem _ (List.mem_cons_self ..))))))))))
  have a7 : (!(isNan .f32 (farith .sub .f32 (s.x.u 144) (s.x.u 155)))) = true := litOr hz (by decide) (show (decide (s.x.i 0 ≤ 7) || !(isNan .f32 (farith .sub .f32 (s.x.u 144) (s.x.u 155)))) = true from hp _ (List.mem_cons_of_mem _ (List.mem_cons_of_mem _ (List.mem_cons_of_mem _ (List.mem_cons_of_mem _ (List.mem_cons_of_mem _ (List.mem_cons_of_mem _ (List.mem_cons_of_mem _ (List.mem_cons_of_mem _ (List.mem_cons_of_mem _ (List.mem_cons_self ..)))))))))))
  unfold lt_cs8
  exact (allC rfl (allC rfl (allC a0 (allC a1 (allC a2 (allC a3 (allC a4 (allC a5 (allC a6 (allC a7 allN))))))))))

set_option maxRecDepth 100000 in
theorem lt_q8 (s : SV) (hz : s.x.i 0 = 8) : lt_s8 s = ltR0 s := by
  unfold lt_s8 ltR0
  have e : tkkR (ltL s) = tkkZ8 (ltL s) := by
    rw [tkkR_eq]
    unfold tkkR0
    have hz : intOf (leafN (ltL s) 0) = 8 := hz
    rw [hz]
    rfl
  rw [e]
  refine mkSV_norm ?_
  simp only [clampL]
  kernel_rfl

noncomputable def ltR : SV → SV := Classical.choose (⟨ltR0, rfl⟩ : ∃ f, f = ltR0)

theorem ltR_eq : ltR = ltR0 := Classical.choose_spec (⟨ltR0, rfl⟩ : ∃ f, f = ltR0)

noncomputable def G35 : Summ := addG 75 (sumW ltI ltO ltPre ltR) G34

theorem G35_ok : SoundG Try.prog G35 := by
  unfold G35
  rw [ltR_eq]
  refine SoundG.sumWN G34_ok mixed Try.call75 G34_ok (by decide) fun s hp => ?_
  have h1 : 1 ≤ s.x.i 0 := of_decide_eq_true (hp _ (List.mem_cons_self ..))
  have h2 : s.x.i 0 ≤ 8 := of_decide_eq_true (hp _ (List.mem_cons_of_mem _ (List.mem_cons_self ..)))
  have : s.x.i 0 = 1 ∨ s.x.i 0 = 2 ∨ s.x.i 0 = 3 ∨ s.x.i 0 = 4 ∨ s.x.i 0 = 5 ∨ s.x.i 0 = 6 ∨ s.x.i 0 = 7 ∨ s.x.i 0 = 8 := by omega
  rcases this with hz | hz | hz | hz | hz | hz | hz | hz
  · exact ⟨noLT, true, 1000, [], _, [ltO], 0, litM (mkM ltI s) 0 1, litM_same s hz, HFun.none Try.prog _ 75, lt_t1 s, lt_c1 s hp hz, congrArg (Pk.out 0) (lt_q1 s hz), rfl⟩
  · exact ⟨noLT, true, 1000, [], _, [ltO], 0, litM (mkM ltI s) 0 2, litM_same s hz, HFun.none Try.prog _ 75, lt_t2 s, lt_c2 s hp hz, congrArg (Pk.out 0) (lt_q2 s hz), rfl⟩
  · exact ⟨noLT, true, 1000, [], _, [ltO], 0, litM (mkM ltI s) 0 3, litM_same s hz, HFun.none Try.prog _ 75, lt_t3 s, lt_c3 s hp hz, congrArg (Pk.out 0) (lt_q3 s hz), rfl⟩
  · exact ⟨noLT, true, 1000, [], _, [ltO], 0, litM (mkM ltI s) 0 4, litM_same s hz, HFun.none Try.prog _ 75, lt_t4 s, lt_c4 s hp hz, congrArg (Pk.out 0) (lt_q4 s hz), rfl⟩
  · exact ⟨noLT, true, 1000, [], _, [ltO], 0, litM (mkM ltI s) 0 5, litM_same s hz, HFun.none Try.prog _ 75, lt_t5 s, lt_c5 s hp hz, congrArg (Pk.out 0) (lt_q5 s hz), rfl⟩
  · exact ⟨noLT, true, 1000, [], _, [ltO], 0, litM (mkM ltI s) 0 6, litM_same s hz, HFun.none Try.prog _ 75, lt_t6 s, lt_c6 s hp hz, congrArg (Pk.out 0) (lt_q6 s hz), rfl⟩
  · exact ⟨noLT, true, 1000, [], _, [ltO], 0, litM (mkM ltI s) 0 7, litM_same s hz, HFun.none Try.prog _ 75, lt_t7 s, lt_c7 s hp hz, congrArg (Pk.out 0) (lt_q7 s hz), rfl⟩
  · exact ⟨noLT, true, 1000, [], _, [ltO], 0, litM (mkM ltI s) 0 8, litM_same s hz, HFun.none Try.prog _ 75, lt_t8 s, lt_c8 s hp hz, congrArg (Pk.out 0) (lt_q8 s hz), rfl⟩

end Go.Proofs.Ytdagaggpaohmcaa

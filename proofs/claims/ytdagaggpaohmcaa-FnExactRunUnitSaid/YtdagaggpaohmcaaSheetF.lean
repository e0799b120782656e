/-
  Facts of this seat that its laws use; no conditions.
-/
import Derived.Test.YtdagaggpaohmcaaSheetM
namespace Go.Proofs.Ytdagaggpaohmcaa
open Go.Sim Go.ChangeShapes Go.WideShapes Go.ChangeAt Go.RowKit

theorem chN {a r : Bool} (h : (bif (!a) then false else r) = true) : a = true ∧ r = true := by
  cases a with
  | true => exact ⟨rfl, h⟩
  | false => cases h

theorem nnB {a : Bool} (h : (!(!a)) = true) : a = true := by
  cases a with
  | true => rfl
  | false => cases h

theorem chI {a : Bool} {d v : Int} (h : a = true) : (bif (!a) then d else v) = v := by subst h; rfl

theorem chU {a : Bool} {d v : Nat} (h : a = true) : (bif (!a) then d else v) = v := by subst h; rfl

noncomputable def shT0 (x : Vars) : Vars := turnR (apl [.sint .i8 (x.i 9)] (apl (fl x 10 14) ([.flt .f32 (x.u 1), .flt .f32 (x.u 129)])))

theorem shF0 (x : Vars) (h1 : 2 ≤ x.i 9) (h2 : x.i 9 ≤ 12) (h : (shT0 x).b 16 = true) : (shT0 x).i 0 = x.i 9 ∧ isNan .f32 ((shT0 x).u 15) = false := by
  have e : turnR (mkL (varsOf (apl [.sint .i8 (x.i 9)] (apl (fl x 10 14) ([.flt .f32 (x.u 1), .flt .f32 (x.u 129)])))) 0 (kdsP [.val (.ag kd1), .val (.sc (.flt .f32)), .val (.sc (.flt .f32))])) = shT0 x := by kernel_rfl
  have e0 : (varsOf (apl [.sint .i8 (x.i 9)] (apl (fl x 10 14) ([.flt .f32 (x.u 1), .flt .f32 (x.u 129)])))).i 0 = x.i 9 := by kernel_rfl
  have F := turnFact (varsOf (apl [.sint .i8 (x.i 9)] (apl (fl x 10 14) ([.flt .f32 (x.u 1), .flt .f32 (x.u 129)])))) (by rw [e0]; exact h1) (by rw [e0]; exact h2) (by rw [e]; exact h)
  rw [e, e0] at F
  exact F

noncomputable def shT1 (x : Vars) : Vars := turnR (apl [.sint .i8 (x.i 24)] (apl (fl x 25 14) ([.flt .f32 (x.u 2), .flt .f32 (x.u 130)])))

theorem shF1 (x : Vars) (h1 : 2 ≤ x.i 24) (h2 : x.i 24 ≤ 12) (h : (shT1 x).b 16 = true) : (shT1 x).i 0 = x.i 24 ∧ isNan .f32 ((shT1 x).u 15) = false := by
  have e : turnR (mkL (varsOf (apl [.sint .i8 (x.i 24)] (apl (fl x 25 14) ([.flt .f32 (x.u 2), .flt .f32 (x.u 130)])))) 0 (kdsP [.val (.ag kd1), .val (.sc (.flt .f32)), .val (.sc (.flt .f32))])) = shT1 x := by kernel_rfl
  have e0 : (varsOf (apl [.sint .i8 (x.i 24)] (apl (fl x 25 14) ([.flt .f32 (x.u 2), .flt .f32 (x.u 130)])))).i 0 = x.i 24 := by kernel_rfl
  have F := turnFact (varsOf (apl [.sint .i8 (x.i 24)] (apl (fl x 25 14) ([.flt .f32 (x.u 2), .flt .f32 (x.u 130)])))) (by rw [e0]; exact h1) (by rw [e0]; exact h2) (by rw [e]; exact h)
  rw [e, e0] at F
  exact F

noncomputable def shT2 (x : Vars) : Vars := turnR (apl [.sint .i8 (x.i 39)] (apl (fl x 40 14) ([.flt .f32 (x.u 3), .flt .f32 (x.u 131)])))

theorem shF2 (x : Vars) (h1 : 2 ≤ x.i 39) (h2 : x.i 39 ≤ 12) (h : (shT2 x).b 16 = true) : (shT2 x).i 0 = x.i 39 ∧ isNan .f32 ((shT2 x).u 15) = false := by
  have e : turnR (mkL (varsOf (apl [.sint .i8 (x.i 39)] (apl (fl x 40 14) ([.flt .f32 (x.u 3), .flt .f32 (x.u 131)])))) 0 (kdsP [.val (.ag kd1), .val (.sc (.flt .f32)), .val (.sc (.flt .f32))])) = shT2 x := by kernel_rfl
  have e0 : (varsOf (apl [.sint .i8 (x.i 39)] (apl (fl x 40 14) ([.flt .f32 (x.u 3), .flt .f32 (x.u 131)])))).i 0 = x.i 39 := by kernel_rfl
  have F := turnFact (varsOf (apl [.sint .i8 (x.i 39)] (apl (fl x 40 14) ([.flt .f32 (x.u 3), .flt .f32 (x.u 131)])))) (by rw [e0]; exact h1) (by rw [e0]; exact h2) (by rw [e]; exact h)
  rw [e, e0] at F
  exact F

noncomputable def shT3 (x : Vars) : Vars := turnR (apl [.sint .i8 (x.i 54)] (apl (fl x 55 14) ([.flt .f32 (x.u 4), .flt .f32 (x.u 132)])))

theorem shF3 (x : Vars) (h1 : 2 ≤ x.i 54) (h2 : x.i 54 ≤ 12) (h : (shT3 x).b 16 = true) : (shT3 x).i 0 = x.i 54 ∧ isNan .f32 ((shT3 x).u 15) = false := by
  have e : turnR (mkL (varsOf (apl [.sint .i8 (x.i 54)] (apl (fl x 55 14) ([.flt .f32 (x.u 4), .flt .f32 (x.u 132)])))) 0 (kdsP [.val (.ag kd1), .val (.sc (.flt .f32)), .val (.sc (.flt .f32))])) = shT3 x := by kernel_rfl
  have e0 : (varsOf (apl [.sint .i8 (x.i 54)] (apl (fl x 55 14) ([.flt .f32 (x.u 4), .flt .f32 (x.u 132)])))).i 0 = x.i 54 := by kernel_rfl
  have F := turnFact (varsOf (apl [.sint .i8 (x.i 54)] (apl (fl x 55 14) ([.flt .f32 (x.u 4), .flt .f32 (x.u 132)])))) (by rw [e0]; exact h1) (by rw [e0]; exact h2) (by rw [e]; exact h)
  rw [e, e0] at F
  exact F

noncomputable def shT4 (x : Vars) : Vars := turnR (apl [.sint .i8 (x.i 69)] (apl (fl x 70 14) ([.flt .f32 (x.u 5), .flt .f32 (x.u 133)])))

theorem shF4 (x : Vars) (h1 : 2 ≤ x.i 69) (h2 : x.i 69 ≤ 12) (h : (shT4 x).b 16 = true) : (shT4 x).i 0 = x.i 69 ∧ isNan .f32 ((shT4 x).u 15) = false := by
  have e : turnR (mkL (varsOf (apl [.sint .i8 (x.i 69)] (apl (fl x 70 14) ([.flt .f32 (x.u 5), .flt .f32 (x.u 133)])))) 0 (kdsP [.val (.ag kd1), .val (.sc (.flt .f32)), .val (.sc (.flt .f32))])) = shT4 x := by kernel_rfl
  have e0 : (varsOf (apl [.sint .i8 (x.i 69)] (apl (fl x 70 14) ([.flt .f32 (x.u 5), .flt .f32 (x.u 133)])))).i 0 = x.i 69 := by kernel_rfl
  have F := turnFact (varsOf (apl [.sint .i8 (x.i 69)] (apl (fl x 70 14) ([.flt .f32 (x.u 5), .flt .f32 (x.u 133)])))) (by rw [e0]; exact h1) (by rw [e0]; exact h2) (by rw [e]; exact h)
  rw [e, e0] at F
  exact F

noncomputable def shT5 (x : Vars) : Vars := turnR (apl [.sint .i8 (x.i 84)] (apl (fl x 85 14) ([.flt .f32 (x.u 6), .flt .f32 (x.u 134)])))

theorem shF5 (x : Vars) (h1 : 2 ≤ x.i 84) (h2 : x.i 84 ≤ 12) (h : (shT5 x).b 16 = true) : (shT5 x).i 0 = x.i 84 ∧ isNan .f32 ((shT5 x).u 15) = false := by
  have e : turnR (mkL (varsOf (apl [.sint .i8 (x.i 84)] (apl (fl x 85 14) ([.flt .f32 (x.u 6), .flt .f32 (x.u 134)])))) 0 (kdsP [.val (.ag kd1), .val (.sc (.flt .f32)), .val (.sc (.flt .f32))])) = shT5 x := by kernel_rfl
  have e0 : (varsOf (apl [.sint .i8 (x.i 84)] (apl (fl x 85 14) ([.flt .f32 (x.u 6), .flt .f32 (x.u 134)])))).i 0 = x.i 84 := by kernel_rfl
  have F := turnFact (varsOf (apl [.sint .i8 (x.i 84)] (apl (fl x 85 14) ([.flt .f32 (x.u 6), .flt .f32 (x.u 134)])))) (by rw [e0]; exact h1) (by rw [e0]; exact h2) (by rw [e]; exact h)
  rw [e, e0] at F
  exact F

noncomputable def shT6 (x : Vars) : Vars := turnR (apl [.sint .i8 (x.i 99)] (apl (fl x 100 14) ([.flt .f32 (x.u 7), .flt .f32 (x.u 135)])))

theorem shF6 (x : Vars) (h1 : 2 ≤ x.i 99) (h2 : x.i 99 ≤ 12) (h : (shT6 x).b 16 = true) : (shT6 x).i 0 = x.i 99 ∧ isNan .f32 ((shT6 x).u 15) = false := by
  have e : turnR (mkL (varsOf (apl [.sint .i8 (x.i 99)] (apl (fl x 100 14) ([.flt .f32 (x.u 7), .flt .f32 (x.u 135)])))) 0 (kdsP [.val (.ag kd1), .val (.sc (.flt .f32)), .val (.sc (.flt .f32))])) = shT6 x := by kernel_rfl
  have e0 : (varsOf (apl [.sint .i8 (x.i 99)] (apl (fl x 100 14) ([.flt .f32 (x.u 7), .flt .f32 (x.u 135)])))).i 0 = x.i 99 := by kernel_rfl
  have F := turnFact (varsOf (apl [.sint .i8 (x.i 99)] (apl (fl x 100 14) ([.flt .f32 (x.u 7), .flt .f32 (x.u 135)])))) (by rw [e0]; exact h1) (by rw [e0]; exact h2) (by rw [e]; exact h)
  rw [e, e0] at F
  exact F

noncomputable def shT7 (x : Vars) : Vars := turnR (apl [.sint .i8 (x.i 114)] (apl (fl x 115 14) ([.flt .f32 (x.u 8), .flt .f32 (x.u 136)])))

theorem shF7 (x : Vars) (h1 : 2 ≤ x.i 114) (h2 : x.i 114 ≤ 12) (h : (shT7 x).b 16 = true) : (shT7 x).i 0 = x.i 114 ∧ isNan .f32 ((shT7 x).u 15) = false := by
  have e : turnR (mkL (varsOf (apl [.sint .i8 (x.i 114)] (apl (fl x 115 14) ([.flt .f32 (x.u 8), .flt .f32 (x.u 136)])))) 0 (kdsP [.val (.ag kd1), .val (.sc (.flt .f32)), .val (.sc (.flt .f32))])) = shT7 x := by kernel_rfl
  have e0 : (varsOf (apl [.sint .i8 (x.i 114)] (apl (fl x 115 14) ([.flt .f32 (x.u 8), .flt .f32 (x.u 136)])))).i 0 = x.i 114 := by kernel_rfl
  have F := turnFact (varsOf (apl [.sint .i8 (x.i 114)] (apl (fl x 115 14) ([.flt .f32 (x.u 8), .flt .f32 (x.u 136)])))) (by rw [e0]; exact h1) (by rw [e0]; exact h2) (by rw [e]; exact h)
  rw [e, e0] at F
  exact F

set_option maxRecDepth 100000 in
theorem sheet_z1 (x : Vars) (p0 : 2 ≤ x.i 9 ∧ x.i 9 ≤ 12) (h : (sheetZ1 (mkL x 0 (kdsP [.val (.ag kd2), .ptr kd3]))).b 137 = true) : (sheetZ1 (mkL x 0 (kdsP [.val (.ag kd2), .ptr kd3]))).i 0 = 1 ∧ (sheetZ1 (mkL x 0 (kdsP [.val (.ag kd2), .ptr kd3]))).i 9 = x.i 9 ∧ (sheetZ1 (mkL x 0 (kdsP [.val (.ag kd2), .ptr kd3]))).i 24 = x.i 24 ∧ (sheetZ1 (mkL x 0 (kdsP [.val (.ag kd2), .ptr kd3]))).i 39 = x.i 39 ∧ (sheetZ1 (mkL x 0 (kdsP [.val (.ag kd2), .ptr kd3]))).i 54 = x.i 54 ∧ (sheetZ1 (mkL x 0 (kdsP [.val (.ag kd2), .ptr kd3]))).i 69 = x.i 69 ∧ (sheetZ1 (mkL x 0 (kdsP [.val (.ag kd2), .ptr kd3]))).i 84 = x.i 84 ∧ (sheetZ1 (mkL x 0 (kdsP [.val (.ag kd2), .ptr kd3]))).i 99 = x.i 99 ∧ (sheetZ1 (mkL x 0 (kdsP [.val (.ag kd2), .ptr kd3]))).i 114 = x.i 114 ∧ isNan .f32 ((sheetZ1 (mkL x 0 (kdsP [.val (.ag kd2), .ptr kd3]))).u 129) = false := by
  have h' := (show (!(!((shT0 x).b 16))) = (sheetZ1 (mkL x 0 (kdsP [.val (.ag kd2), .ptr kd3]))).b 137 from by kernel_rfl).trans h
  have a0 := nnB h'
  have f0 := shF0 x p0.1 p0.2 a0
  exact ⟨(show (bif (!((shT0 x).b 16)) then 0 else 1) = (sheetZ1 (mkL x 0 (kdsP [.val (.ag kd2), .ptr kd3]))).i 0 from by kernel_rfl).symm.trans ((chI a0).trans rfl),
    (show (bif (!((shT0 x).b 16)) then 0 else ((shT0 x).i 0)) = (sheetZ1 (mkL x 0 (kdsP [.val (.ag kd2), .ptr kd3]))).i 9 from by kernel_rfl).symm.trans ((chI a0).trans f0.1),
    (show (bif (!((shT0 x).b 16)) then 0 else (x.i 24)) = (sheetZ1 (mkL x 0 (kdsP [.val (.ag kd2), .ptr kd3]))).i 24 from by kernel_rfl).symm.trans ((chI a0).trans rfl),
    (show (bif (!((shT0 x).b 16)) then 0 else (x.i 39)) = (sheetZ1 (mkL x 0 (kdsP [.val (.ag kd2), .ptr kd3]))).i 39 from by kernel_rfl).symm.trans ((chI a0).trans rfl),
    (show (bif (!((shT0 x).b 16)) then 0 else (x.i 54)) = (sheetZ1 (mkL x 0 (kdsP [.val (.ag kd2), .ptr kd3]))).i 54 from by kernel_rfl).symm.trans ((chI a0).trans rfl),
    (show (bif (!((shT0 x).b 16)) then 0 else (x.i 69)) = (sheetZ1 (mkL x 0 (kdsP [.val (.ag kd2), .ptr kd3]))).i 69 from by kernel_rfl).symm.trans ((chI a0).trans rfl),
    (show (bif (!((shT0 x).b 16)) then 0 else (x.i 84)) = (sheetZ1 (mkL x 0 (kdsP [.val (.ag kd2), .ptr kd3]))).i 84 from by kernel_rfl).symm.trans ((chI a0).trans rfl),
    (show (bif (!((shT0 x).b 16)) then 0 else (x.i 99)) = (sheetZ1 (mkL x 0 (kdsP [.val (.ag kd2), .ptr kd3]))).i 99 from by kernel_rfl).symm.trans ((chI a0).trans rfl),
    (show (bif (!((shT0 x).b 16)) then 0 else (x.i 114)) = (sheetZ1 (mkL x 0 (kdsP [.val (.ag kd2), .ptr kd3]))).i 114 from by kernel_rfl).symm.trans ((chI a0).trans rfl),
    (congrArg (isNan .f32) ((show (bif (!((shT0 x).b 16)) then 0 else ((shT0 x).u 15)) = (sheetZ1 (mkL x 0 (kdsP [.val (.ag kd2), .ptr kd3]))).u 129 from by kernel_rfl).symm.trans ((chU a0).trans rfl))).trans f0.2⟩

set_option maxRecDepth 100000 in
theorem sheet_z2 (x : Vars) (p0 : 2 ≤ x.i 9 ∧ x.i 9 ≤ 12) (p1 : 2 ≤ x.i 24 ∧ x.i 24 ≤ 12) (h : (sheetZ2 (mkL x 0 (kdsP [.val (.ag kd2), .ptr kd3]))).b 137 = true) : (sheetZ2 (mkL x 0 (kdsP [.val (.ag kd2), .ptr kd3]))).i 0 = 2 ∧ (sheetZ2 (mkL x 0 (kdsP [.val (.ag kd2), .ptr kd3]))).i 9 = x.i 9 ∧ (sheetZ2 (mkL x 0 (kdsP [.val (.ag kd2), .ptr kd3]))).i 24 = x.i 24 ∧ (sheetZ2 (mkL x 0 (kdsP [.val (.ag kd2), .ptr kd3]))).i 39 = x.i 39 ∧ (sheetZ2 (mkL x 0 (kdsP [.val (.ag kd2), .ptr kd3]))).i 54 = x.i 54 ∧ (sheetZ2 (mkL x 0 (kdsP [.val (.ag kd2), .ptr kd3]))).i 69 = x.i 69 ∧ (sheetZ2 (mkL x 0 (kdsP [.val (.ag kd2), .ptr kd3]))).i 84 = x.i 84 ∧ (sheetZ2 (mkL x 0 (kdsP [.val (.ag kd2), .ptr kd3]))).i 99 = x.i 99 ∧ (sheetZ2 (mkL x 0 (kdsP [.val (.ag kd2), .ptr kd3]))).i 114 = x.i 114 ∧ isNan .f32 ((sheetZ2 (mkL x 0 (kdsP [.val (.ag kd2), .ptr kd3]))).u 129) = false ∧ isNan .f32 ((sheetZ2 (mkL x 0 (kdsP [.val (.ag kd2), .ptr kd3]))).u 130) = false := by
  have h' := (show (bif (!((shT0 x).b 16)) then false else (!(!((shT1 x).b 16)))) = (sheetZ2 (mkL x 0 (kdsP [.val (.ag kd2), .ptr kd3]))).b 137 from by kernel_rfl).trans h
  obtain ⟨a0, h'⟩ := chN h'
  have a1 := nnB h'
  have f0 := shF0 x p0.1 p0.2 a0
  have f1 := shF1 x p1.1 p1.2 a1
  exact ⟨(show (bif (!((shT0 x).b 16)) then 0 else (bif (!((shT1 x).b 16)) then 0 else 2)) = (sheetZ2 (mkL x 0 (kdsP [.val (.ag kd2), .ptr kd3]))).i 0 from by kernel_rfl).symm.trans ((chI a0).trans ((chI a1).trans rfl)),
    (show (bif (!((shT0 x).b 16)) then 0 else (bif (!((shT1 x).b 16)) then 0 else ((shT0 x).i 0))) = (sheetZ2 (mkL x 0 (kdsP [.val (.ag kd2), .ptr kd3]))).i 9 from by kernel_rfl).symm.trans ((chI a0).trans ((chI a1).trans f0.1)),
    (show (bif (!((shT0 x).b 16)) then 0 else (bif (!((shT1 x).b 16)) then 0 else ((shT1 x).i 0))) = (sheetZ2 (mkL x 0 (kdsP [.val (.ag kd2), .ptr kd3]))).i 24 from by kernel_rfl).symm.trans ((chI a0).trans ((chI a1).trans f1.1)),
    (show (bif (!((shT0 x).b 16)) then 0 else (bif (!((shT1 x).b 16)) then 0 else (x.i 39))) = (sheetZ2 (mkL x 0 (kdsP [.val (.ag kd2), .ptr kd3]))).i 39 from by kernel_rfl).symm.trans ((chI a0).trans ((chI a1).trans rfl)),
    (show (bif (!((shT0 x).b 16)) then 0 else (bif (!((shT1 x).b 16)) then 0 else (x.i 54))) = (sheetZ2 (mkL x 0 (kdsP [.val (.ag kd2), .ptr kd3]))).i 54 from by kernel_rfl).symm.trans ((chI a0).trans ((chI a1).trans rfl)),
    (show (bif (!((shT0 x).b 16)) then 0 else (bif (!((shT1 x).b 16)) then 0 else (x.i 69))) = (sheetZ2 (mkL x 0 (kdsP [.val (.ag kd2), .ptr kd3]))).i 69 from by kernel_rfl).symm.trans ((chI a0).trans ((chI a1).trans rfl)),
    (show (bif (!((shT0 x).b 16)) then 0 else (bif (!((shT1 x).b 16)) then 0 else (x.i 84))) = (sheetZ2 (mkL x 0 (kdsP [.val (.ag kd2), .ptr kd3]))).i 84 from by kernel_rfl).symm.trans ((chI a0).trans ((chI a1).trans rfl)),
    (show (bif (!((shT0 x).b 16)) then 0 else (bif (!((shT1 x).b 16)) then 0 else (x.i 99))) = (sheetZ2 (mkL x 0 (kdsP [.val (.ag kd2), .ptr kd3]))).i 99 from by kernel_rfl).symm.trans ((chI a0).trans ((chI a1).trans rfl)),
    (show (bif (!((shT0 x).b 16)) then 0 else (bif (!((shT1 x).b 16)) then 0 else (x.i 114))) = (sheetZ2 (mkL x 0 (kdsP [.val (.ag kd2), .ptr kd3]))).i 114 from by kernel_rfl).symm.trans ((chI a0).trans ((chI a1).trans rfl)),
    (congrArg (isNan .f32) ((show (bif (!((shT0 x).b 16)) then 0 else (bif (!((shT1 x).b 16)) then 0 else ((shT0 x).u 15))) = (sheetZ2 (mkL x 0 (kdsP [.val (.ag kd2), .ptr kd3]))).u 129 from by kernel_rfl).symm.trans ((chU a0).trans ((chU a1).trans rfl)))).trans f0.2,
    (congrArg (isNan .f32) ((show (bif (!((shT0 x).b 16)) then 0 else (bif (!((shT1 x).b 16)) then 0 else ((shT1 x).u 15))) = (sheetZ2 (mkL x 0 (kdsP [.val (.ag kd2), .ptr kd3]))).u 130 from by kernel_rfl).symm.trans ((chU a0).trans ((chU a1).trans rfl)))).trans f1.2⟩

set_option maxRecDepth 100000 in
theorem sheet_z3 (x : Vars) (p0 : 2 ≤ x.i 9 ∧ x.i 9 ≤ 12) (p1 : 2 ≤ x.i 24 ∧ x.i 24 ≤ 12) (p2 : 2 ≤ x.i 39 ∧ x.i 39 ≤ 12) (h : (sheetZ3 (mkL x 0 (kdsP [.val (.ag kd2), .ptr kd3]))).b 137 = true) : (sheetZ3 (mkL x 0 (kdsP [.val (.ag kd2), .ptr kd3]))).i 0 = 3 ∧ (sheetZ3 (mkL x 0 (kdsP [.val (.ag kd2), .ptr kd3]))).i 9 = x.i 9 ∧ (sheetZ3 (mkL x 0 (kdsP [.val (.ag kd2), .ptr kd3]))).i 24 = x.i 24 ∧ (sheetZ3 (mkL x 0 (kdsP [.val (.ag kd2), .ptr kd3]))).i 39 = x.i 39 ∧ (sheetZ3 (mkL x 0 (kdsP [.val (.ag kd2), .ptr kd3]))).i 54 = x.i 54 ∧ (sheetZ3 (mkL x 0 (kdsP [.val (.ag kd2), .ptr kd3]))).i 69 = x.i 69 ∧ (sheetZ3 (mkL x 0 (kdsP [.val (.ag kd2), .ptr kd3]))).i 84 = x.i 84 ∧ (sheetZ3 (mkL x 0 (kdsP [.val (.ag kd2), .ptr kd3]))).i 99 = x.i 99 ∧ (sheetZ3 (mkL x 0 (kdsP [.val (.ag kd2), .ptr kd3]))).i 114 = x.i 114 ∧ isNan .f32 ((sheetZ3 (mkL x 0 (kdsP [.val (.ag kd2), .ptr kd3]))).u 129) = false ∧ isNan .f32 ((sheetZ3 (mkL x 0 (kdsP [.val (.ag kd2), .ptr kd3]))).u 130) = false ∧ isNan .f32 ((sheetZ3 (mkL x 0 (kdsP [.val (.ag kd2), .ptr kd3]))).u 131) = false := by
  have h' := (show (bif (!((shT0 x).b 16)) then false else (bif (!((shT1 x).b 16)) then false else (!(!((shT2 x).b 16))))) = (sheetZ3 (mkL x 0 (kdsP [.val (.ag kd2), .ptr kd3]))).b 137 from by kernel_rfl).trans h
  obtain ⟨a0, h'⟩ := chN h'
  obtain ⟨a1, h'⟩ := chN h'
  have a2 := nnB h'
  have f0 := shF0 x p0.1 p0.2 a0
  have f1 := shF1 x p1.1 p1.2 a1
  have f2 := shF2 x p2.1 p2.2 a2
  exact ⟨(show (bif (!((shT0 x).b 16)) then 0 else (bif (!((shT1 x).b 16)) then 0 else (bif (!((shT2 x).b 16)) then 0 else 3))) = (sheetZ3 (mkL x 0 (kdsP [.val (.ag kd2), .ptr kd3]))).i 0 from by kernel_rfl).symm.trans ((chI a0).trans ((chI a1).trans ((chI a2).trans rfl))),
    (show (bif (!((shT0 x).b 16)) then 0 else (bif (!((shT1 x).b 16)) then 0 else (bif (!((shT2 x).b 16)) then 0 else ((shT0 x).i 0)))) = (sheetZ3 (mkL x 0 (kdsP [.val (.ag kd2), .ptr kd3]))).i 9 from by kernel_rfl).symm.trans ((chI a0).trans ((chI a1).trans ((chI a2).trans f0.1))),
    (show (bif (!((shT0 x).b 16)) then 0 else (bif (!((shT1 x).b 16)) then 0 else (bif (!((shT2 x).b 16)) then 0 else ((shT1 x).i 0)))) = (sheetZ3 (mkL x 0 (kdsP [.val (.ag kd2), .ptr kd3]))).i 24 from by kernel_rfl).symm.trans ((chI a0).trans ((chI a1).trans ((chI a2).trans f1.1))),
    (show (bif (!((shT0 x).b 16)) then 0 else (bif (!((shT1 x).b 16)) then 0 else (bif (!((shT2 x).b 16)) then 0 else ((shT2 x).i 0)))) = (sheetZ3 (mkL x 0 (kdsP [.val (.ag kd2), .ptr kd3]))).i 39 from by kernel_rfl).symm.trans ((chI a0).trans ((chI a1).trans ((chI a2).trans f2.1))),
    (show (bif (!((shT0 x).b 16)) then 0 else (bif (!((shT1 x).b 16)) then 0 else (bif (!((shT2 x).b 16)) then 0 else (x.i 54)))) = (sheetZ3 (mkL x 0 (kdsP [.val (.ag kd2), .ptr kd3]))).i 54 from by kernel_rfl).symm.trans ((chI a0).trans ((chI a1).trans ((chI a2).trans rfl))),
    (show (bif (!((shT0 x).b 16)) then 0 else (bif (!((shT1 x).b 16)) then 0 else (bif (!((shT2 x).b 16)) then 0 else (x.i 69)))) = (sheetZ3 (mkL x 0 (kdsP [.val (.ag kd2), .ptr kd3]))).i 69 from by kernel_rfl).symm.trans ((chI a0).trans ((chI a1).trans ((chI a2).trans rfl))),
    (show (bif (!((shT0 x).b 16)) then 0 else (bif (!((shT1 x).b 16)) then 0 else (bif (!((shT2 x).b 16)) then 0 else (x.i 84)))) = (sheetZ3 (mkL x 0 (kdsP [.val (.ag kd2), .ptr kd3]))).i 84 from by kernel_rfl).symm.trans ((chI a0).trans ((chI a1).trans ((chI a2).trans rfl))),
    (show (bif (!((shT0 x).b 16)) then 0 else (bif (!((shT1 x).b 16)) then 0 else (bif (!((shT2 x).b 16)) then 0 else (x.i 99)))) = (sheetZ3 (mkL x 0 (kdsP [.val (.ag kd2), .ptr kd3]))).i 99 from by kernel_rfl).symm.trans ((chI a0).trans ((chI a1).trans ((chI a2).trans rfl))),
    (show (bif (!((shT0 x).b 16)) then 0 else (bif (!((shT1 x).b 16)) then 0 else (bif (!((shT2 x).b 16)) then 0 else (x.i 114)))) = (sheetZ3 (mkL x 0 (kdsP [.val (.ag kd2), .ptr kd3]))).i 114 from by kernel_rfl).symm.trans ((chI a0).trans ((chI a1).trans ((chI a2).trans rfl))),
    (congrArg (isNan .f32) ((show (bif (!((shT0 x).b 16)) then 0 else (bif (!((shT1 x).b 16)) then 0 else (bif (!((shT2 x).b 16)) then 0 else ((shT0 x).u 15)))) = (sheetZ3 (mkL x 0 (kdsP [.val (.ag kd2), .ptr kd3]))).u 129 from by kernel_rfl).symm.trans ((chU a0).trans ((chU a1).trans ((chU a2).trans rfl))))).trans f0.2,
    (congrArg (isNan .f32) ((show (bif (!((shT0 x).b 16)) then 0 else (bif (!((shT1 x).b 16)) then 0 else (bif (!((shT2 x).b 16)) then 0 else ((shT1 x).u 15)))) = (sheetZ3 (mkL x 0 (kdsP [.val (.ag kd2), .ptr kd3]))).u 130 from by kernel_rfl).symm.trans ((chU a0).trans ((chU a1).trans ((chU a2).trans rfl))))).trans f1.2,
    (congrArg (isNan .f32) ((show (bif (!((shT0 x).b 16)) then 0 else (bif (!((shT1 x).b 16)) then 0 else (bif (!((shT2 x).b 16)) then 0 else ((shT2 x).u 15)))) = (sheetZ3 (mkL x 0 (kdsP [.val (.ag kd2), .ptr kd3]))).u 131 from by kernel_rfl).symm.trans ((chU a0).trans ((chU a1).trans ((chU a2).trans rfl))))).trans f2.2⟩

set_option maxRecDepth 100000 in
theorem sheet_z4 (x : Vars) (p0 : 2 ≤ x.i 9 ∧ x.i 9 ≤ 12) (p1 : 2 ≤ x.i 24 ∧ x.i 24 ≤ 12) (p2 : 2 ≤ x.i 39 ∧ x.i 39 ≤ 12) (p3 : 2 ≤ x.i 54 ∧ x.i 54 ≤ 12) (h : (sheetZ4 (mkL x 0 (kdsP [.val (.ag kd2), .ptr kd3]))).b 137 = true) : (sheetZ4 (mkL x 0 (kdsP [.val (.ag kd2), .ptr kd3]))).i 0 = 4 ∧ (sheetZ4 (mkL x 0 (kdsP [.val (.ag kd2), .ptr kd3]))).i 9 = x.i 9 ∧ (sheetZ4 (mkL x 0 (kdsP [.val (.ag kd2), .ptr kd3]))).i 24 = x.i 24 ∧ (sheetZ4 (mkL x 0 (kdsP [.val (.ag kd2), .ptr kd3]))).i 39 = x.i 39 ∧ (sheetZ4 (mkL x 0 (kdsP [.val (.ag kd2), .ptr kd3]))).i 54 = x.i 54 ∧ (sheetZ4 (mkL x 0 (kdsP [.val (.ag kd2), .ptr kd3]))).i 69 = x.i 69 ∧ (sheetZ4 (mkL x 0 (kdsP [.val (.ag kd2), .ptr kd3]))).i 84 = x.i 84 ∧ (sheetZ4 (mkL x 0 (kdsP [.val (.ag kd2), .ptr kd3]))).i 99 = x.i 99 ∧ (sheetZ4 (mkL x 0 (kdsP [.val (.ag kd2), .ptr kd3]))).i 114 = x.i 114 ∧ isNan .f32 ((sheetZ4 (mkL x 0 (kdsP [.val (.ag kd2), .ptr kd3]))).u 129) = false ∧ isNan .f32 ((sheetZ4 (mkL x 0 (kdsP [.val (.ag kd2), .ptr kd3]))).u 130) = false ∧ isNan .f32 ((sheetZ4 (mkL x 0 (kdsP [.val (.ag kd2), .ptr kd3]))).u 131) = false ∧ isNan .f32 ((sheetZ4 (mkL x 0 (kdsP [.val (.ag kd2), .ptr kd3]))).u 132) = false := by
  have h' := (show (bif (!((shT0 x).b 16)) then false else (bif (!((shT1 x).b 16)) then false else (bif (!((shT2 x).b 16)) then false else (!(!((shT3 x).b 16)))))) = (sheetZ4 (mkL x 0 (kdsP [.val (.ag kd2), .ptr kd3]))).b 137 from by kernel_rfl).trans h
  obtain ⟨a0, h'⟩ := chN h'
  obtain ⟨a1, h'⟩ := chN h'
  obtain ⟨a2, h'⟩ := chN h'
  have a3 := nnB h'
  have f0 := shF0 x p0.1 p0.2 a0
  have f1 := shF1 x p1.1 p1.2 a1
  have f2 := shF2 x p2.1 p2.2 a2
  have f3 := shF3 x p3.1 p3.2 a3
  exact ⟨(show (bif (!((shT0 x).b 16)) then 0 else (bif (!((shT1 x).b 16)) then 0 else (bif (!((shT2 x).b 16)) then 0 else (bif (!((shT3 x).b 16)) then 0 else 4)))) = (sheetZ4 (mkL x 0 (kdsP [.val (.ag kd2), .ptr kd3]))).i 0 from by kernel_rfl).symm.trans ((chI a0).trans ((chI a1).trans ((chI a2).trans ((chI a3).trans rfl)))),
    (show (bif (!((shT0 x).b 16)) then 0 else (bif (!((shT1 x).b 16)) then 0 else (bif (!((shT2 x).b 16)) then 0 else (bif (!((shT3 x).b 16)) then 0 else ((shT0 x).i 0))))) = (sheetZ4 (mkL x 0 (kdsP [.val (.ag kd2), .ptr kd3]))).i 9 from by kernel_rfl).symm.trans ((chI a0).trans ((chI a1).trans ((chI a2).trans ((chI a3).trans f0.1)))),
    (show (bif (!((shT0 x).b 16)) then 0 else (bif (!((shT1 x).b 16)) then 0 else (bif (!((shT2 x).b 16)) then 0 else (bif (!((shT3 x).b 16)) then 0 else ((shT1 x).i 0))))) = (sheetZ4 (mkL x 0 (kdsP [.val (.ag kd2), .ptr kd3]))).i 24 from by kernel_rfl).symm.trans ((chI a0).trans ((chI a1).trans ((chI a2).trans ((chI a3).trans f1.1)))),
    (show (bif (!((shT0 x).b 16)) then 0 else (bif (!((shT1 x).b 16)) then 0 else (bif (!((shT2 x).b 16)) then 0 else (bif (!((shT3 x).b 16)) then 0 else ((shT2 x).i 0))))) = (sheetZ4 (mkL x 0 (kdsP [.val (.ag kd2), .ptr kd3]))).i 39 from by kernel_rfl).symm.trans ((chI a0).trans ((chI a1).trans ((chI a2).trans ((chI a3).trans f2.1)))),
    (show (bif (!((shT0 x).b 16)) then 0 else (bif (!((shT1 x).b 16)) then 0 else (bif (!((shT2 x).b 16)) then 0 else (bif (!((shT3 x).b 16)) then 0 else ((shT3 x).i 0))))) = (sheetZ4 (mkL x 0 (kdsP [.val (.ag kd2), .ptr kd3]))).i 54 from by kernel_rfl).symm.trans ((chI a0).trans ((chI a1).trans ((chI a2).trans ((chI a3).trans f3.1)))),
    (show (bif (!((shT0 x).b 16)) then 0 else (bif (!((shT1 x).b 16)) then 0 else (bif (!((shT2 x).b 16)) then 0 else (bif (!((shT3 x).b 16)) then 0 else (x.i 69))))) = (sheetZ4 (mkL x 0 (kdsP [.val (.ag kd2), .ptr kd3]))).i 69 from by kernel_rfl).symm.trans ((chI a0).trans ((chI a1).trans ((chI a2).trans ((chI a3).trans rfl)))),
    (show (bif (!((shT0 x).b 16)) then 0 else (bif (!((shT1 x).b 16)) then 0 else (bif (!((shT2 x).b 16)) then 0 else (bif (!((shT3 x).b 16)) then 0 else (x.i 84))))) = (sheetZ4 (mkL x 0 (kdsP [.val (.ag kd2), .ptr kd3]))).i 84 from by kernel_rfl).symm.trans ((chI a0).trans ((chI a1).trans ((chI a2).trans ((chI a3).trans rfl)))),
    (show (bif (!((shT0 x).b 16)) then 0 else (bif (!((shT1 x).b 16)) then 0 else (bif (!((shT2 x).b 16)) then 0 else (bif (!((shT3 x).b 16)) then 0 else (x.i 99))))) = (sheetZ4 (mkL x 0 (kdsP [.val (.ag kd2), .ptr kd3]))).i 99 from by kernel_rfl).symm.trans ((chI a0).trans ((chI a1).trans ((chI a2).trans ((chI a3).trans rfl)))),
    (show (bif (!((shT0 x).b 16)) then 0 else (bif (!((shT1 x).b 16)) then 0 else (bif (!((shT2 x).b 16)) then 0 else (bif (!((shT3 x).b 16)) then 0 else (x.i 114))))) = (sheetZ4 (mkL x 0 (kdsP [.val (.ag kd2), .ptr kd3]))).i 114 from by kernel_rfl).symm.trans ((chI a0).trans ((chI a1).trans ((chI a2).trans ((chI a3).trans rfl)))),
    (congrArg (isNan .f32) ((show (bif (!((shT0 x).b 16)) then 0 else (bif (!((shT1 x).b 16)) then 0 else (bif (!((shT2 x).b 16)) then 0 else (bif (!((shT3 x).b 16)) then 0 else ((shT0 x).u 15))))) = (sheetZ4 (mkL x 0 (kdsP [.val (.ag kd2), .ptr kd3]))).u 129 from by kernel_rfl).symm.trans ((chU a0).trans ((chU a1).trans ((chU a2).trans ((chU a3).trans rfl)))))).trans f0.2,
    (congrArg (isNan .f32) ((show (bif (!((shT0 x).b 16)) then 0 else (bif (!((shT1 x).b 16)) then 0 else (bif (!((shT2 x).b 16)) then 0 else (bif (!((shT3 x).b 16)) then 0 else ((shT1 x).u 15))))) = (sheetZ4 (mkL x 0 (kdsP [.val (.ag kd2), .ptr kd3]))).u 130 from by kernel_rfl).symm.trans ((chU a0).trans ((chU a1).trans ((chU a2).trans ((chU a3).trans rfl)))))).trans f1.2,
    (congrArg (isNan .f32) ((show (bif (!((shT0 x).b 16)) then 0 else (bif (!((shT1 x).b 16)) then 0 else (bif (!((shT2 x).b 16)) then 0 else (bif (!((shT3 x).b 16)) then 0 else ((shT2 x).u 15))))) = (sheetZ4 (mkL x 0 (kdsP [.val (.ag kd2), .ptr kd3]))).u 131 from by kernel_rfl).symm.trans ((chU a0).trans ((chU a1).trans ((chU a2).trans ((chU a3).trans rfl)))))).trans f2.2,
    (congrArg (isNan .f32) ((show (bif (!((shT0 x).b 16)) then 0 else (bif (!((shT1 x).b 16)) then 0 else (bif (!((shT2 x).b 16)) then 0 else (bif (!((shT3 x).b 16)) then 0 else ((shT3 x).u 15))))) = (sheetZ4 (mkL x 0 (kdsP [.val (.ag kd2), .ptr kd3]))).u 132 from by kernel_rfl).symm.trans ((chU a0).trans ((chU a1).trans ((chU a2).trans ((chU a3).trans rfl)))))).trans f3.2⟩

set_option maxRecDepth 100000 in
theorem sheet_z5 (x : Vars) (p0 : 2 ≤ x.i 9 ∧ x.i 9 ≤ 12) (p1 : 2 ≤ x.i 24 ∧ x.i 24 ≤ 12) (p2 : 2 ≤ x.i 39 ∧ x.i 39 ≤ 12) (p3 : 2 ≤ x.i 54 ∧ x.i 54 ≤ 12) (p4 : 2 ≤ x.i 69 ∧ x.i 69 ≤ 12) (h : (sheetZ5 (mkL x 0 (kdsP [.val (.ag kd2), .ptr kd3]))).b 137 = true) : (sheetZ5 (mkL x 0 (kdsP [.val (.ag kd2), .ptr kd3]))).i 0 = 5 ∧ (sheetZ5 (mkL x 0 (kdsP [.val (.ag kd2), .ptr kd3]))).i 9 = x.i 9 ∧ (sheetZ5 (mkL x 0 (kdsP [.val (.ag kd2), .ptr kd3]))).i 24 = x.i 24 ∧ (sheetZ5 (mkL x 0 (kdsP [.val (.ag kd2), .ptr kd3]))).i 39 = x.i 39 ∧ (sheetZ5 (mkL x 0 (kdsP [.val (.ag kd2), .ptr kd3]))).i 54 = x.i 54 ∧ (sheetZ5 (mkL x 0 (kdsP [.val (.ag kd2), .ptr kd3]))).i 69 = x.i 69 ∧ (sheetZ5 (mkL x 0 (kdsP [.val (.ag kd2), .ptr kd3]))).i 84 = x.i 84 ∧ (sheetZ5 (mkL x 0 (kdsP [.val (.ag kd2), .ptr kd3]))).i 99 = x.i 99 ∧ (sheetZ5 (mkL x 0 (kdsP [.val (.ag kd2), .ptr kd3]))).i 114 = x.i 114 ∧ isNan .f32 ((sheetZ5 (mkL x 0 (kdsP [.val (.ag kd2), .ptr kd3]))).u 129) = false ∧ isNan .f32 ((sheetZ5 (mkL x 0 (kdsP [.val (.ag kd2), .ptr kd3]))).u 130) = false ∧ isNan .f32 ((sheetZ5 (mkL x 0 (kdsP [.val (.ag kd2), .ptr kd3]))).u 131) = false ∧ isNan .f32 ((sheetZ5 (mkL x 0 (kdsP [.val (.ag kd2), .ptr kd3]))).u 132) = false ∧ isNan .f32 ((sheetZ5 (mkL x 0 (kdsP [.val (.ag kd2), .ptr kd3]))).u 133) = false := by
  have h' := (show (bif (!((shT0 x).b 16)) then false else (bif (!((shT1 x).b 16)) then false else (bif (!((shT2 x).b 16)) then false else (bif (!((shT3 x).b 16)) then false else (!(!((shT4 x).b 16))))))) = (sheetZ5 (mkL x 0 (kdsP [.val (.ag kd2), .ptr kd3]))).b 137 from by kernel_rfl).trans h
  obtain ⟨a0, h'⟩ := chN h'
  obtain ⟨a1, h'⟩ := chN h'
  obtain ⟨a2, h'⟩ := chN h'
  obtain ⟨a3, h'⟩ := chN h'
  have a4 := nnB h'
  have f0 := shF0 x p0.1 p0.2 a0
  have f1 := shF1 x p1.1 p1.2 a1
  have f2 := shF2 x p2.1 p2.2 a2
  have f3 := shF3 x p3.1 p3.2 a3
  have f4 := shF4 x p4.1 p4.2 a4
  exact ⟨(show (bif (!((shT0 x).b 16)) then 0 else (bif (!((shT1 x).b 16)) then 0 else (bif (!((shT2 x).b 16)) then 0 else (bif (!((shT3 x).b 16)) then 0 else (bif (!((shT4 x).b 16)) then 0 else 5))))) = (sheetZ5 (mkL x 0 (kdsP [.val (.ag kd2), .ptr kd3]))).i 0 from by kernel_rfl).symm.trans ((chI a0).trans ((chI a1).trans ((chI a2).trans ((chI a3).trans ((chI a4).trans rfl))))),
    (show (bif (!((shT0 x).b 16)) then 0 else (bif (!((shT1 x).b 16)) then 0 else (bif (!((shT2 x).b 16)) then 0 else (bif (!((shT3 x).b 16)) then 0 else (bif (!((shT4 x).b 16)) then 0 else ((shT0 x).i 0)))))) = (sheetZ5 (mkL x 0 (kdsP [.val (.ag kd2), .ptr kd3]))).i 9 from by kernel_rfl).symm.trans ((chI a0).trans ((chI a1).trans ((chI a2).trans ((chI a3).trans ((chI a4).trans f0.1))))),
    (show (bif (!((shT0 x).b 16)) then 0 else (bif (!((shT1 x).b 16)) then 0 else (bif (!((shT2 x).b 16)) then 0 else (bif (!((shT3 x).b 16)) then 0 else (bif (!((shT4 x).b 16)) then 0 else ((shT1 x).i 0)))))) = (sheetZ5 (mkL x 0 (kdsP [.val (.ag kd2), .ptr kd3]))).i 24 from by kernel_rfl).symm.trans ((chI a0).trans ((chI a1).trans ((chI a2).trans ((chI a3).trans ((chI a4).trans f1.1))))),
    (show (bif (!((shT0 x).b 16)) then 0 else (bif (!((shT1 x).b 16)) then 0 else (bif (!((shT2 x).b 16)) then 0 else (bif (!((shT3 x).b 16)) then 0 else (bif (!((shT4 x).b 16)) then 0 else ((shT2 x).i 0)))))) = (sheetZ5 (mkL x 0 (kdsP [.val (.ag kd2), .ptr kd3]))).i 39 from by kernel_rfl).symm.trans ((chI a0).trans ((chI a1).trans ((chI a2).trans ((chI a3).trans ((chI a4).trans f2.1))))),
    (show (bif (!((shT0 x).b 16)) then 0 else (bif (!((shT1 x).b 16)) then 0 else (bif (!((shT2 x).b 16)) then 0 else (bif (!((shT3 x).b 16)) then 0 else (bif (!((shT4 x).b 16)) then 0 else ((shT3 x).i 0)))))) = (sheetZ5 (mkL x 0 (kdsP [.val (.ag kd2), .ptr kd3]))).i 54 from by kernel_rfl).symm.trans ((chI a0).trans ((chI a1).trans ((chI a2).trans ((chI a3).trans ((chI a4).trans f3.1))))),
    (show (bif (!((shT0 x).b 16)) then 0 else (bif (!((shT1 x).b 16)) then 0 else (bif (!((shT2 x).b 16)) then 0 else (bif (!((shT3 x).b 16)) then 0 else (bif (!((shT4 x).b 16)) then 0 else ((shT4 x).i 0)))))) = (sheetZ5 (mkL x 0 (kdsP [.val (.ag kd2), .ptr kd3]))).i 69 from by kernel_rfl).symm.trans ((chI a0).trans ((chI a1).trans ((chI a2).trans ((chI a3).trans ((chI a4).trans f4.1))))),
    (show (bif (!((shT0 x).b 16)) then 0 else (bif (!((shT1 x).b 16)) then 0 else (bif (!((shT2 x).b 16)) then 0 else (bif (!((shT3 x).b 16)) then 0 else (bif (!((shT4 x).b 16)) then 0 else (x.i 84)))))) = (sheetZ5 (mkL x 0 (kdsP [.val (.ag kd2), .ptr kd3]))).i 84 from by kernel_rfl).symm.trans ((chI a0).trans ((chI a1).trans ((chI a2).trans ((chI a3).trans ((chI a4).trans rfl))))),
    (show (bif (!((shT0 x).b 16)) then 0 else (bif (!((shT1 x).b 16)) then 0 else (bif (!((shT2 x).b 16)) then 0 else (bif (!((shT3 x).b 16)) then 0 else (bif (!((shT4 x).b 16)) then 0 else (x.i 99)))))) = (sheetZ5 (mkL x 0 (kdsP [.val (.ag kd2), .ptr kd3]))).i 99 from by kernel_rfl).symm.trans ((chI a0).trans ((chI a1).trans ((chI a2).trans ((chI a3).trans ((chI a4).trans rfl))))),
    (show (bif (!((shT0 x).b 16)) then 0 else (bif (!((shT1 x).b 16)) then 0 else (bif (!((shT2 x).b 16)) then 0 else (bif (!((shT3 x).b 16)) then 0 else (bif (!((shT4 x).b 16)) then 0 else (x.i 114)))))) = (sheetZ5 (mkL x 0 (kdsP [.val (.ag kd2), .ptr kd3]))).i 114 from by kernel_rfl).symm.trans ((chI a0).trans ((chI a1).trans ((chI a2).trans ((chI a3).trans ((chI a4).trans rfl))))),
    (congrArg (isNan .f32) ((show (bif (!((shT0 x).b 16)) then 0 else (bif (!((shT1 x).b 16)) then 0 else (bif (!((shT2 x).b 16)) then 0 else (bif (!((shT3 x).b 16)) then 0 else (bif (!((shT4 x).b 16)) then 0 else ((shT0 x).u 15)))))) = (sheetZ5 (mkL x 0 (kdsP [.val (.ag kd2), .ptr kd3]))).u 129 from by kernel_rfl).symm.trans ((chU a0).trans ((chU a1).trans ((chU a2).trans ((chU a3).trans ((chU a4).trans rfl))))))).trans f0.2,
    (congrArg (isNan .f32) ((show (bif (!((shT0 x).b 16)) then 0 else (bif (!((shT1 x).b 16)) then 0 else (bif (!((shT2 x).b 16)) then 0 else (bif (!((shT3 x).b 16)) then 0 else (bif (!((shT4 x).b 16)) then 0 else ((shT1 x).u 15)))))) = (sheetZ5 (mkL x 0 (kdsP [.val (.ag kd2), .ptr kd3]))).u 130 from by kernel_rfl).symm.trans ((chU a0).trans ((chU a1).trans ((chU a2).trans ((chU a3).trans ((chU a4).trans rfl))))))).trans f1.2,
    (congrArg (isNan .f32) ((show (bif (!((shT0 x).b 16)) then 0 else (bif (!((shT1 x).b 16)) then 0 else (bif (!((shT2 x).b 16)) then 0 else (bif (!((shT3 x).b 16)) then 0 else (bif (!((shT4 x).b 16)) then 0 else ((shT2 x).u 15)))))) = (sheetZ5 (mkL x 0 (kdsP [.val (.ag kd2), .ptr kd3]))).u 131 from by kernel_rfl).symm.trans ((chU a0).trans ((chU a1).trans ((chU a2).trans ((chU a3).trans ((chU a4).trans rfl))))))).trans f2.2,
    (congrArg (isNan .f32) ((show (bif (!((shT0 x).b 16)) then 0 else (bif (!((shT1 x).b 16)) then 0 else (bif (!((shT2 x).b 16)) then 0 else (bif (!((shT3 x).b 16)) then 0 else (bif (!((shT4 x).b 16)) then 0 else ((shT3 x).u 15)))))) = (sheetZ5 (mkL x 0 (kdsP [.val (.ag kd2), .ptr kd3]))).u 132 from by kernel_rfl).symm.trans ((chU a0).trans ((chU a1).trans ((chU a2).trans ((chU a3).trans ((chU a4).trans rfl))))))).trans f3.2,
    (congrArg (isNan .f32) ((show (bif (!((shT0 x).b 16)) then 0 else (bif (!((shT1 x).b 16)) then 0 else (bif (!((shT2 x).b 16)) then 0 else (bif (!((shT3 x).b 16)) then 0 else (bif (!((shT4 x).b 16)) then 0 else ((shT4 x).u 15)))))) = (sheetZ5 (mkL x 0 (kdsP [.val (.ag kd2), .ptr kd3]))).u 133 from by kernel_rfl).symm.trans ((chU a0).trans ((chU a1).trans ((chU a2).trans ((chU a3).trans ((chU a4).trans rfl))))))).trans f4.2⟩

set_option maxRecDepth 100000 in
theorem sheet_z6 (x : Vars) (p0 : 2 ≤ x.i 9 ∧ x.i 9 ≤ 12) (p1 : 2 ≤ x.i 24 ∧ x.i 24 ≤ 12) (p2 : 2 ≤ x.i 39 ∧ x.i 39 ≤ 12) (p3 : 2 ≤ x.i 54 ∧ x.i 54 ≤ 12) (p4 : 2 ≤ x.i 69 ∧ x.i 69 ≤ 12) (p5 : 2 ≤ x.i 84 ∧ x.i 84 ≤ 12) (h : (sheetZ6 (mkL x 0 (kdsP [.val (.ag kd2), .ptr kd3]))).b 137 = true) : (sheetZ6 (mkL x 0 (kdsP [.val (.ag kd2), .ptr kd3]))).i 0 = 6 ∧ (sheetZ6 (mkL x 0 (kdsP [.val (.ag kd2), .ptr kd3]))).i 9 = x.i 9 ∧ (sheetZ6 (mkL x 0 (kdsP [.val (.ag kd2), .ptr kd3]))).i 24 = x.i 24 ∧ (sheetZ6 (mkL x 0 (kdsP [.val (.ag kd2), .ptr kd3]))).i 39 = x.i 39 ∧ (sheetZ6 (mkL x 0 (kdsP [.val (.ag kd2), .ptr kd3]))).i 54 = x.i 54 ∧ (sheetZ6 (mkL x 0 (kdsP [.val (.ag kd2), .ptr kd3]))).i 69 = x.i 69 ∧ (sheetZ6 (mkL x 0 (kdsP [.val (.ag kd2), .ptr kd3]))).i 84 = x.i 84 ∧ (sheetZ6 (mkL x 0 (kdsP [.val (.ag kd2), .ptr kd3]))).i 99 = x.i 99 ∧ (sheetZ6 (mkL x 0 (kdsP [.val (.ag kd2), .ptr kd3]))).i 114 = x.i 114 ∧ isNan .f32 ((sheetZ6 (mkL x 0 (kdsP [.val (.ag kd2), .ptr kd3]))).u 129) = false ∧ isNan .f32 ((sheetZ6 (mkL x 0 (kdsP [.val (.ag kd2), .ptr kd3]))).u 130) = false ∧ isNan .f32 ((sheetZ6 (mkL x 0 (kdsP [.val (.ag kd2), .ptr kd3]))).u 131) = false ∧ isNan .f32 ((sheetZ6 (mkL x 0 (kdsP [.val (.ag kd2), .ptr kd3]))).u 132) = false ∧ isNan .f32 ((sheetZ6 (mkL x 0 (kdsP [.val (.ag kd2), .ptr kd3]))).u 133) = false ∧ isNan .f32 ((sheetZ6 (mkL x 0 (kdsP [.val (.ag kd2), .ptr kd3]))).u 134) = false := by
  have h' := (show (bif (!((shT0 x).b 16)) then false else (bif (!((shT1 x).b 16)) then false else (bif (!((shT2 x).b 16)) then false else (bif (!((shT3 x).b 16)) then false else (bif (!((shT4 x).b 16)) then false else (!(!((shT5 x).b 16)))))))) = (sheetZ6 (mkL x 0 (kdsP [.val (.ag kd2), .ptr kd3]))).b 137 from by kernel_rfl).trans h
  obtain ⟨a0, h'⟩ := chN h'
  obtain ⟨a1, h'⟩ := chN h'
  obtain ⟨a2, h'⟩ := chN h'
  obtain ⟨a3, h'⟩ := chN h'
  obtain ⟨a4, h'⟩ := chN h'
  have a5 := nnB h'
  have f0 := shF0 x p0.1 p0.2 a0
  have f1 := shF1 x p1.1 p1.2 a1
  have f2 := shF2 x p2.1 p2.2 a2
  have f3 := shF3 x p3.1 p3.2 a3
  have f4 := shF4 x p4.1 p4.2 a4
  have f5 := shF5 x p5.1 p5.2 a5
  exact ⟨(show (bif (!((shT0 x).b 16)) then 0 else (bif (!((shT1 x).b 16)) then 0 else (bif (!((shT2 x).b 16)) then 0 else (bif (!((shT3 x).b 16)) then 0 else (bif (!((shT4 x).b 16)) then 0 else (bif (!((shT5 x).b 16)) then 0 else 6)))))) = (sheetZ6 (mkL x 0 (kdsP [.val (.ag kd2), .ptr kd3]))).i 0 from by kernel_rfl).symm.trans ((chI a0).trans ((chI a1).trans ((chI a2).trans ((chI a3).trans ((chI a4).trans ((chI a5).trans rfl)))))),
    (show (bif (!((shT0 x).b 16)) then 0 else (bif (!((shT1 x).b 16)) then 0 else (bif (!((shT2 x).b 16)) then 0 else (bif (!((shT3 x).b 16)) then 0 else (bif (!((shT4 x).b 16)) then 0 else (bif (!((shT5 x).b 16)) then 0 else ((shT0 x).i 0))))))) = (sheetZ6 (mkL x 0 (kdsP [.val (.ag kd2), .ptr kd3]))).i 9 from by kernel_rfl).symm.trans ((chI a0).trans ((chI a1).trans ((chI a2).trans ((chI a3).trans ((chI a4).trans ((chI a5).trans f0.1)))))),
    (show (bif (!((shT0 x).b 16)) then 0 else (bif (!((shT1 x).b 16)) then 0 else (bif (!((shT2 x).b 16)) then 0 else (bif (!((shT3 x).b 16)) then 0 else (bif (!((shT4 x).b 16)) then 0 else (bif (!((shT5 x).b 16)) then 0 else ((shT1 x).i 0))))))) = (sheetZ6 (mkL x 0 (kdsP [.val (.ag kd2), .ptr kd3]))).i 24 from by kernel_rfl).symm.trans ((chI a0).trans ((chI a1).trans ((chI a2).trans ((chI a3).trans ((chI a4).trans ((chI a5).trans f1.1)))))),
    (show (bif (!((shT0 x).b 16)) then 0 else (bif (!((shT1 x).b 16)) then 0 else (bif (!((shT2 x).b 16)) then 0 else (bif (!((shT3 x).b 16)) then 0 else (bif (!((shT4 x).b 16)) then 0 else (bif (!((shT5 x).b 16)) then 0 else ((shT2 x).i 0))))))) = (sheetZ6 (mkL x 0 (kdsP [.val (.ag kd2), .ptr kd3]))).i 39 from by kernel_rfl).symm.trans ((chI a0).trans ((chI a1).trans ((chI a2).trans ((chI a3).trans ((chI a4).trans ((chI a5).trans f2.1)))))),
    (show (bif (!((shT0 x).b 16)) then 0 else (bif (!((shT1 x).b 16)) then 0 else (bif (!((shT2 x).b 16)) then 0 else (bif (!((shT3 x).b 16)) then 0 else (bif (!((shT4 x).b 16)) then 0 else (bif (!((shT5 x).b 16)) then 0 else ((shT3 x).i 0))))))) = (sheetZ6 (mkL x 0 (kdsP [.val (.ag kd2), .ptr kd3]))).i 54 from by kernel_rfl).symm.trans ((chI a0).trans ((chI a1).trans ((chI a2).trans ((chI a3).trans ((chI a4).trans ((chI a5).trans f3.1)))))),
    (show (bif (!((shT0 x).b 16)) then 0 else (bif (!((shT1 x).b 16)) then 0 else (bif (!((shT2 x).b 16)) then 0 else (bif (!((shT3 x).b 16)) then 0 else (bif (!((shT4 x).b 16)) then 0 else (bif (!((shT5 x).b 16)) then 0 else ((shT4 x).i 0))))))) = (sheetZ6 (mkL x 0 (kdsP [.val (.ag kd2), .ptr kd3]))).i 69 from by kernel_rfl).symm.trans ((chI a0).trans ((chI a1).trans ((chI a2).trans ((chI a3).trans ((chI a4).trans ((chI a5).trans f4.1)))))),
    (show (bif (!((shT0 x).b 16)) then 0 else (bif (!((shT1 x).b 16)) then 0 else (bif (!((shT2 x).b 16)) then 0 else (bif (!((shT3 x).b 16)) then 0 else (bif (!((shT4 x).b 16)) then 0 else (bif (!((shT5 x).b 16)) then 0 else ((shT5 x).i 0))))))) = (sheetZ6 (mkL x 0 (kdsP [.val (.ag kd2), .ptr kd3]))).i 84 from by kernel_rfl).symm.trans ((chI a0).trans ((chI a1).trans ((chI a2).trans ((chI a3).trans ((chI a4).trans ((chI a5).trans f5.1)))))),
    (show (bif (!((shT0 x).b 16)) then 0 else (bif (!((shT1 x).b 16)) then 0 else (bif (!((shT2 x).b 16)) then 0 else (bif (!((shT3 x).b 16)) then 0 else (bif (!((shT4 x).b 16)) then 0 else (bif (!((shT5 x).b 16)) then 0 else (x.i 99))))))) = (sheetZ6 (mkL x 0 (kdsP [.val (.ag kd2), .ptr kd3]))).i 99 from by kernel_rfl).symm.trans ((chI a0).trans ((chI a1).trans ((chI a2).trans ((chI a3).trans ((chI a4).trans ((chI a5).trans rfl)))))),
    (show (bif (!((shT0 x).b 16)) then 0 else (bif (!((shT1 x).b 16)) then 0 else (bif (!((shT2 x).b 16)) then 0 else (bif (!((shT3 x).b 16)) then 0 else (bif (!((shT4 x).b 16)) then 0 else (bif (!((shT5 x).b 16)) then 0 else (x.i 114))))))) = (sheetZ6 (mkL x 0 (kdsP [.val (.ag kd2), .ptr kd3]))).i 114 from by kernel_rfl).symm.trans ((chI a0).trans ((chI a1).trans ((chI a2).trans ((chI a3).trans ((chI a4).trans ((chI a5).trans rfl)))))),
    (congrArg (isNan .f32) ((show (bif (!((shT0 x).b 16)) then 0 else (bif (!((shT1 x).b 16)) then 0 else (bif (!((shT2 x).b 16)) then 0 else (bif (!((shT3 x).b 16)) then 0 else (bif (!((shT4 x).b 16)) then 0 else (bif (!((shT5 x).b 16)) then 0 else ((shT0 x).u 15))))))) = (sheetZ6 (mkL x 0 (kdsP [.val (.ag kd2), .ptr kd3]))).u 129 from by kernel_rfl).symm.trans ((chU a0).trans ((chU a1).trans ((chU a2).trans ((chU a3).trans ((chU a4).trans ((chU a5).trans rfl)))))))).trans f0.2,
    (congrArg (isNan .f32) ((show (bif (!((shT0 x).b 16)) then 0 else (bif (!((shT1 x).b 16)) then 0 else (bif (!((shT2 x).b 16)) then 0 else (bif (!((shT3 x).b 16)) then 0 else (bif (!((shT4 x).b 16)) then 0 else (bif (!((shT5 x).b 16)) then 0 else ((shT1 x).u 15))))))) = (sheetZ6 (mkL x 0 (kdsP [.val (.ag kd2), .ptr kd3]))).u 130 from by kernel_rfl).symm.trans ((chU a0).trans ((chU a1).trans ((chU a2).trans ((chU a3).trans ((chU a4).trans ((chU a5).trans rfl)))))))).trans f1.2,
    (congrArg (isNan .f32) ((show (bif (!((shT0 x).b 16)) then 0 else (bif (!((shT1 x).b 16)) then 0 else (bif (!((shT2 x).b 16)) then 0 else (bif (!((shT3 x).b 16)) then 0 else (bif (!((shT4 x).b 16)) then 0 else (bif (!((shT5 x).b 16)) then 0 else ((shT2 x).u 15))))))) = (sheetZ6 (mkL x 0 (kdsP [.val (.ag kd2), .ptr kd3]))).u 131 from by kernel_rfl).symm.trans ((chU a0).trans ((chU a1).trans ((chU a2).trans ((chU a3).trans ((chU a4).trans ((chU a5).trans rfl)))))))).trans f2.2,
    (congrArg (isNan .f32) ((show (bif (!((shT0 x).b 16)) then 0 else (bif (!((shT1 x).b 16)) then 0 else (bif (!((shT2 x).b 16)) then 0 else (bif (!((shT3 x).b 16)) then 0 else (bif (!((shT4 x).b 16)) then 0 else (bif (!((shT5 x).b 16)) then 0 else ((shT3 x).u 15))))))) = (sheetZ6 (mkL x 0 (kdsP [.val (.ag kd2), .ptr kd3]))).u 132 from by kernel_rfl).symm.trans ((chU a0).trans ((chU a1).trans ((chU a2).trans ((chU a3).trans ((chU a4).trans ((chU a5).trans rfl)))))))).trans f3.2,
    (congrArg (isNan .f32) ((show (bif (!((shT0 x).b 16)) then 0 else (bif (!((shT1 x).b 16)) then 0 else (bif (!((shT2 x).b 16)) then 0 else (bif (!((shT3 x).b 16)) then 0 else (bif (!((shT4 x).b 16)) then 0 else (bif (!((shT5 x).b 16)) then 0 else ((shT4 x).u 15))))))) = (sheetZ6 (mkL x 0 (kdsP [.val (.ag kd2), .ptr kd3]))).u 133 from by kernel_rfl).symm.trans ((chU a0).trans ((chU a1).trans ((chU a2).trans ((chU a3).trans ((chU a4).trans ((chU a5).trans rfl)))))))).trans f4.2,
    (congrArg (isNan .f32) ((show (bif (!((shT0 x).b 16)) then 0 else (bif (!((shT1 x).b 16)) then 0 else (bif (!((shT2 x).b 16)) then 0 else (bif (!((shT3 x).b 16)) then 0 else (bif (!((shT4 x).b 16)) then 0 else (bif (!((shT5 x).b 16)) then 0 else ((shT5 x).u 15))))))) = (sheetZ6 (mkL x 0 (kdsP [.val (.ag kd2), .ptr kd3]))).u 134 from by kernel_rfl).symm.trans ((chU a0).trans ((chU a1).trans ((chU a2).trans ((chU a3).trans ((chU a4).trans ((chU a5).trans rfl)))))))).trans f5.2⟩

set_option maxRecDepth 100000 in
theorem sheet_z7 (x : Vars) (p0 : 2 ≤ x.i 9 ∧ x.i 9 ≤ 12) (p1 : 2 ≤ x.i 24 ∧ x.i 24 ≤ 12) (p2 : 2 ≤ x.i 39 ∧ x.i 39 ≤ 12) (p3 : 2 ≤ x.i 54 ∧ x.i 54 ≤ 12) (p4 : 2 ≤ x.i 69 ∧ x.i 69 ≤ 12) (p5 : 2 ≤ x.i 84 ∧ x.i 84 ≤ 12) (p6 : 2 ≤ x.i 99 ∧ x.i 99 ≤ 12) (h : (sheetZ7 (mkL x 0 (kdsP [.val (.ag kd2), .ptr kd3]))).b 137 = true) : (sheetZ7 (mkL x 0 (kdsP [.val (.ag kd2), .ptr kd3]))).i 0 = 7 ∧ (sheetZ7 (mkL x 0 (kdsP [.val (.ag kd2), .ptr kd3]))).i 9 = x.i 9 ∧ (sheetZ7 (mkL x 0 (kdsP [.val (.ag kd2), .ptr kd3]))).i 24 = x.i 24 ∧ (sheetZ7 (mkL x 0 (kdsP [.val (.ag kd2), .ptr kd3]))).i 39 = x.i 39 ∧ (sheetZ7 (mkL x 0 (kdsP [.val (.ag kd2), .ptr kd3]))).i 54 = x.i 54 ∧ (sheetZ7 (mkL x 0 (kdsP [.val (.ag kd2), .ptr kd3]))).i 69 = x.i 69 ∧ (sheetZ7 (mkL x 0 (kdsP [.val (.ag kd2), .ptr kd3]))).i 84 = x.i 84 ∧ (sheetZ7 (mkL x 0 (kdsP [.val (.ag kd2), .ptr kd3]))).i 99 = x.i 99 ∧ (sheetZ7 (mkL x 0 (kdsP [.val (.ag kd2), .ptr kd3]))).i 114 = x.i 114 ∧ isNan .f32 ((sheetZ7 (mkL x 0 (kdsP [.val (.ag kd2), .ptr kd3]))).u 129) = false ∧ isNan .f32 ((sheetZ7 (mkL x 0 (kdsP [.val (.ag kd2), .ptr kd3]))).u 130) = false ∧ isNan .f32 ((sheetZ7 (mkL x 0 (kdsP [.val (.ag kd2), .ptr kd3]))).u 131) = false ∧ isNan .f32 ((sheetZ7 (mkL x 0 (kdsP [.val (.ag kd2), .ptr kd3]))).u 132) = false ∧ isNan .f32 ((sheetZ7 (mkL x 0 (kdsP [.val (.ag kd2), .ptr kd3]))).u 133) = false ∧ isNan .f32 ((sheetZ7 (mkL x 0 (kdsP [.val (.ag kd2), .ptr kd3]))).u 134) = false ∧ isNan .f32 ((sheetZ7 (mkL x 0 (kdsP [.val (.ag kd2), .ptr kd3]))).u 135) = false := by
  have h' := (show (bif (!((shT0 x).b 16)) then false else (bif (!((shT1 x).b 16)) then false else (bif (!((shT2 x).b 16)) then false else (bif (!((shT3 x).b 16)) then false else (bif (!((shT4 x).b 16)) then false else (bif (!((shT5 x).b 16)) then false else (!(!((shT6 x).b 16))))))))) = (sheetZ7 (mkL x 0 (kdsP [.val (.ag kd2), .ptr kd3]))).b 137 from by kernel_rfl).trans h
  obtain ⟨a0, h'⟩ := chN h'
  obtain ⟨a1, h'⟩ := chN h'
  obtain ⟨a2, h'⟩ := chN h'
  obtain ⟨a3, h'⟩ := chN h'
  obtain ⟨a4, h'⟩ := chN h'
  obtain ⟨a5, h'⟩ := chN h'
  have a6 := nnB h'
  have f0 := shF0 x p0.1 p0.2 a0
  have f1 := shF1 x p1.1 p1.2 a1
  have f2 := shF2 x p2.1 p2.2 a2
  have f3 := shF3 x p3.1 p3.2 a3
  have f4 := shF4 x p4.1 p4.2 a4
  have f5 := shF5 x p5.1 p5.2 a5
  have f6 := shF6 x p6.1 p6.2 a6
  exact ⟨(show (bif (!((shT0 x).b 16)) then 0 else (bif (!((shT1 x).b 16)) then 0 else (bif (!((shT2 x).b 16)) then 0 else (bif (!((shT3 x).b 16)) then 0 else (bif (!((shT4 x).b 16)) then 0 else (bif (!((shT5 x).b 16)) then 0 else (bif (!((shT6 x).b 16)) then 0 else 7))))))) = (sheetZ7 (mkL x 0 (kdsP [.val (.ag kd2), .ptr kd3]))).i 0 from by kernel_rfl).symm.trans ((chI a0).trans ((chI a1).trans ((chI a2).trans ((chI a3).trans ((chI a4).trans ((chI a5).trans ((chI a6).trans rfl))))))),
    (show (bif (!((shT0 x).b 16)) then 0 else (bif (!((shT1 x).b 16)) then 0 else (bif (!((shT2 x).b 16)) then 0 else (bif (!((shT3 x).b 16)) then 0 else (bif (!((shT4 x).b 16)) then 0 else (bif (!((shT5 x).b 16)) then 0 else (bif (!((shT6 x).b 16)) then 0 else ((shT0 x).i 0)))))))) = (sheetZ7 (mkL x 0 (kdsP [.val (.ag kd2), .ptr kd3]))).i 9 from by kernel_rfl).symm.trans ((chI a0).trans ((chI a1).trans ((chI a2).trans ((chI a3).trans ((chI a4).trans ((chI a5).trans ((chI a6).trans f0.1))))))),
    (show (bif (!((shT0 x).b 16)) then 0 else (bif (!((shT1 x).b 16)) then 0 else (bif (!((shT2 x).b 16)) then 0 else (bif (!((shT3 x).b 16)) then 0 else (bif (!((shT4 x).b 16)) then 0 else (bif (!((shT5 x).b 16)) then 0 else (bif (!((shT6 x).b 16)) then 0 else ((shT1 x).i 0)))))))) = (sheetZ7 (mkL x 0 (kdsP [.val (.ag kd2), .ptr kd3]))).i 24 from by kernel_rfl).symm.trans ((chI a0).trans ((chI a1).trans ((chI a2).trans ((chI a3).trans ((chI a4).trans ((chI a5).trans ((chI a6).trans f1.1))))))),
    (show (bif (!((shT0 x).b 16)) then 0 else (bif (!((shT1 x).b 16)) then 0 else (bif (!((shT2 x).b 16)) then 0 else (bif (!((shT3 x).b 16)) then 0 else (bif (!((shT4 x).b 16)) then 0 else (bif (!((shT5 x).b 16)) then 0 else (bif (!((shT6 x).b 16)) then 0 else ((shT2 x).i 0)))))))) = (sheetZ7 (mkL x 0 (kdsP [.val (.ag kd2), .ptr kd3]))).i 39 from by kernel_rfl).symm.trans ((chI a0).trans ((chI a1).trans ((chI a2).trans ((chI a3).trans ((chI a4).trans ((chI a5).trans ((chI a6).trans f2.1))))))),
    (show (bif (!((shT0 x).b 16)) then 0 else (bif (!((shT1 x).b 16)) then 0 else (bif (!((shT2 x).b 16)) then 0 else (bif (!((shT3 x).b 16)) then 0 else (bif (!((shT4 x).b 16)) then 0 else (bif (!((shT5 x).b 16)) then 0 else (bif (!((shT6 x).b 16)) then 0 else ((shT3 x).i 0)))))))) = (sheetZ7 (mkL x 0 (kdsP [.val (.ag kd2), .ptr kd3]))).i 54 from by kernel_rfl).symm.trans ((chI a0).trans ((chI a1).trans ((chI a2).trans ((chI a3).trans ((chI a4).trans ((chI a5).trans ((chI a6).trans f3.1))))))),
    (show (bif (!((shT0 x).b 16)) then 0 else (bif (!((shT1 x).b 16)) then 0 else (bif (!((shT2 x).b 16)) then 0 else (bif (!((shT3 x).b 16)) then 0 else (bif (!((shT4 x).b 16)) then 0 else (bif (!((shT5 x).b 16)) then 0 else (bif (!((shT6 x).b 16)) then 0 else ((shT4 x).i 0)))))))) = (sheetZ7 (mkL x 0 (kdsP [.val (.ag kd2), .ptr kd3]))).i 69 from by kernel_rfl).symm.trans ((chI a0).trans ((chI a1).trans ((chI a2).trans ((chI a3).trans ((chI a4).trans ((chI a5).trans ((chI a6).trans f4.1))))))),
    (show (bif (!((shT0 x).b 16)) then 0 else (bif (!((shT1 x).b 16)) then 0 else (bif (!((shT2 x).b 16)) then 0 else (bif (!((shT3 x).b 16)) then 0 else (bif (!((shT4 x).b 16)) then 0 else (bif (!((shT5 x).b 16)) then 0 else (bif (!((shT6 x).b 16)) then 0 else ((shT5 x).i 0)))))))) = (sheetZ7 (mkL x 0 (kdsP [.val (.ag kd2), .ptr kd3]))).i 84 from by kernel_rfl).symm.trans ((chI a0).trans ((chI a1).trans ((chI a2).trans ((chI a3).trans ((chI a4).trans ((chI a5).trans ((chI a6).trans f5.1))))))),
    (show (bif (!((shT0 x).b 16)) then 0 else (bif (!((shT1 x).b 16)) then 0 else (bif (!((shT2 x).b 16)) then 0 else (bif (!((shT3 x).b 16)) then 0 else (bif (!((shT4 x).b 16)) then 0 else (bif (!((shT5 x).b 16)) then 0 else (bif (!((shT6 x).b 16)) then 0 else ((shT6 x).i 0)))))))) = (sheetZ7 (mkL x 0 (kdsP [.val (.ag kd2), .ptr kd3]))).i 99 from by kernel_rfl).symm.trans ((chI a0).trans ((chI a1).trans ((chI a2).trans ((chI a3).trans ((chI a4).trans ((chI a5).trans ((chI a6).trans f6.1))))))),
    (show (bif (!((shT0 x).b 16)) then 0 else (bif (!((shT1 x).b 16)) then 0 else (bif (!((shT2 x).b 16)) then 0 else (bif (!((shT3 x).b 16)) then 0 else (bif (!((shT4 x).b 16)) then 0 else (bif (!((shT5 x).b 16)) then 0 else (bif (!((shT6 x).b 16)) then 0 else (x.i 114)))))))) = (sheetZ7 (mkL x 0 (kdsP [.val (.ag kd2), .ptr kd3]))).i 114 from by kernel_rfl).symm.trans ((chI a0).trans ((chI a1).trans ((chI a2).trans ((chI a3).trans ((chI a4).trans ((chI a5).trans ((chI a6).trans rfl))))))),
    (congrArg (isNan .f32) ((show (bif (!((shT0 x).b 16)) then 0 else (bif (!((shT1 x).b 16)) then 0 else (bif (!((shT2 x).b 16)) then 0 else (bif (!((shT3 x).b 16)) then 0 else (bif (!((shT4 x).b 16)) then 0 else (bif (!((shT5 x).b 16)) then 0 else (bif (!((shT6 x).b 16)) then 0 else ((shT0 x).u 15)))))))) = (sheetZ7 (mkL x 0 (kdsP [.val (.ag kd2), .ptr kd3]))).u 129 from by kernel_rfl).symm.trans ((chU a0).trans ((chU a1).trans ((chU a2).trans ((chU a3).trans ((chU a4).trans ((chU a5).trans ((chU a6).trans rfl))))))))).trans f0.2,
    (congrArg (isNan .f32) ((show (bif (!((shT0 x).b 16)) then 0 else (bif (!((shT1 x).b 16)) then 0 else (bif (!((shT2 x).b 16)) then 0 else (bif (!((shT3 x).b 16)) then 0 else (bif (!((shT4 x).b 16)) then 0 else (bif (!((shT5 x).b 16)) then 0 else (bif (!((shT6 x).b 16)) then 0 else ((shT1 x).u 15)))))))) = (sheetZ7 (mkL x 0 (kdsP [.val (.ag kd2), .ptr kd3]))).u 130 from by kernel_rfl).symm.trans ((chU a0).trans ((chU a1).trans ((chU a2).trans ((chU a3).trans ((chU a4).trans ((chU a5).trans ((chU a6).trans rfl))))))))).trans f1.2,
    (congrArg (isNan .f32) ((show (bif (!((shT0 x).b 16)) then 0 else (bif (!((shT1 x).b 16)) then 0 else (bif (!((shT2 x).b 16)) then 0 else (bif (!((shT3 x).b 16)) then 0 else (bif (!((shT4 x).b 16)) then 0 else (bif (!((shT5 x).b 16)) then 0 else (bif (!((shT6 x).b 16)) then 0 else ((shT2 x).u 15)))))))) = (sheetZ7 (mkL x 0 (kdsP [.val (.ag kd2), .ptr kd3]))).u 131 from by kernel_rfl).symm.trans ((chU a0).trans ((chU a1).trans ((chU a2).trans ((chU a3).trans ((chU a4).trans ((chU a5).trans ((chU a6).trans rfl))))))))).trans f2.2,
    (congrArg (isNan .f32) ((show (bif (!((shT0 x).b 16)) then 0 else (bif (!((shT1 x).b 16)) then 0 else (bif (!((shT2 x).b 16)) then 0 else (bif (!((shT3 x).b 16)) then 0 else (bif (!((shT4 x).b 16)) then 0 else (bif (!((shT5 x).b 16)) then 0 else (bif (!((shT6 x).b 16)) then 0 else ((shT3 x).u 15)))))))) = (sheetZ7 (mkL x 0 (kdsP [.val (.ag kd2), .ptr kd3]))).u 132 from by kernel_rfl).symm.trans ((chU a0).trans ((chU a1).trans ((chU a2).trans ((chU a3).trans ((chU a4).trans ((chU a5).trans ((chU a6).trans rfl))))))))).trans f3.2,
    (congrArg (isNan .f32) ((show (bif (!((shT0 x).b 16)) then 0 else (bif (!((shT1 x).b 16)) then 0 else (bif (!((shT2 x).b 16)) then 0 else (bif (!((shT3 x).b 16)) then 0 else (bif (!((shT4 x).b 16)) then 0 else (bif (!((shT5 x).b 16)) then 0 else (bif (!((shT6 x).b 16)) then 0 else ((shT4 x).u 15)))))))) = (sheetZ7 (mkL x 0 (kdsP [.val (.ag kd2), .ptr kd3]))).u 133 from by kernel_rfl).symm.trans ((chU a0).trans ((chU a1).trans ((chU a2).trans ((chU a3).trans ((chU a4).trans ((chU a5).trans ((chU a6).trans rfl))))))))).trans f4.2,
    (congrArg (isNan .f32) ((show (bif (!((shT0 x).b 16)) then 0 else (bif (!((shT1 x).b 16)) then 0 else (bif (!((shT2 x).b 16)) then 0 else (bif (!((shT3 x).b 16)) then 0 else (bif (!((shT4 x).b 16)) then 0 else (bif (!((shT5 x).b 16)) then 0 else (bif (!((shT6 x).b 16)) then 0 else ((shT5 x).u 15)))))))) = (sheetZ7 (mkL x 0 (kdsP [.val (.ag kd2), .ptr kd3]))).u 134 from by kernel_rfl).symm.trans ((chU a0).trans ((chU a1).trans ((chU a2).trans ((chU a3).trans ((chU a4).trans ((chU a5).trans ((chU a6).trans rfl))))))))).trans f5.2,
    (congrArg (isNan .f32) ((show (bif (!((shT0 x).b 16)) then 0 else (bif (!((shT1 x).b 16)) then 0 else (bif (!((shT2 x).b 16)) then 0 else (bif (!((shT3 x).b 16)) then 0 else (bif (!((shT4 x).b 16)) then 0 else (bif (!((shT5 x).b 16)) then 0 else (bif (!((shT6 x).b 16)) then 0 else ((shT6 x).u 15)))))))) = (sheetZ7 (mkL x 0 (kdsP [.val (.ag kd2), .ptr kd3]))).u 135 from by kernel_rfl).symm.trans ((chU a0).trans ((chU a1).trans ((chU a2).trans ((chU a3).trans ((chU a4).trans ((chU a5).trans ((chU a6).trans rfl))))))))).trans f6.2⟩

set_option maxRecDepth 100000 in
theorem sheet_z8 (x : Vars) (p0 : 2 ≤ x.i 9 ∧ x.i 9 ≤ 12) (p1 : 2 ≤ x.i 24 ∧ x.i 24 ≤ 12) (p2 : 2 ≤ x.i 39 ∧ x.i 39 ≤ 12) (p3 : 2 ≤ x.i 54 ∧ x.i 54 ≤ 12) (p4 : 2 ≤ x.i 69 ∧ x.i 69 ≤ 12) (p5 : 2 ≤ x.i 84 ∧ x.i 84 ≤ 12) (p6 : 2 ≤ x.i 99 ∧ x.i 99 ≤ 12) (p7 : 2 ≤ x.i 114 ∧ x.i 114 ≤ 12) (h : (sheetZ8 (mkL x 0 (kdsP [.val (.ag kd2), .ptr kd3]))).b 137 = true) : (sheetZ8 (mkL x 0 (kdsP [.val (.ag kd2), .ptr kd3]))).i 0 = 8 ∧ (sheetZ8 (mkL x 0 (kdsP [.val (.ag kd2), .ptr kd3]))).i 9 = x.i 9 ∧ (sheetZ8 (mkL x 0 (kdsP [.val (.ag kd2), .ptr kd3]))).i 24 = x.i 24 ∧ (sheetZ8 (mkL x 0 (kdsP [.val (.ag kd2), .ptr kd3]))).i 39 = x.i 39 ∧ (sheetZ8 (mkL x 0 (kdsP [.val (.ag kd2), .ptr kd3]))).i 54 = x.i 54 ∧ (sheetZ8 (mkL x 0 (kdsP [.val (.ag kd2), .ptr kd3]))).i 69 = x.i 69 ∧ (sheetZ8 (mkL x 0 (kdsP [.val (.ag kd2), .ptr kd3]))).i 84 = x.i 84 ∧ (sheetZ8 (mkL x 0 (kdsP [.val (.ag kd2), .ptr kd3]))).i 99 = x.i 99 ∧ (sheetZ8 (mkL x 0 (kdsP [.val (.ag kd2), .ptr kd3]))).i 114 = x.i 114 ∧ isNan .f32 ((sheetZ8 (mkL x 0 (kdsP [.val (.ag kd2), .ptr kd3]))).u 129) = false ∧ isNan .f32 ((sheetZ8 (mkL x 0 (kdsP [.val (.ag kd2), .ptr kd3]))).u 130) = false ∧ isNan .f32 ((sheetZ8 (mkL x 0 (kdsP [.val (.ag kd2), .ptr kd3]))).u 131) = false ∧ isNan .f32 ((sheetZ8 (mkL x 0 (kdsP [.val (.ag kd2), .ptr kd3]))).u 132) = false ∧ isNan .f32 ((sheetZ8 (mkL x 0 (kdsP [.val (.ag kd2), .ptr kd3]))).u 133) = false ∧ isNan .f32 ((sheetZ8 (mkL x 0 (kdsP [.val (.ag kd2), .ptr kd3]))).u 134) = false ∧ isNan .f32 ((sheetZ8 (mkL x 0 (kdsP [.val (.ag kd2), .ptr kd3]))).u 135) = false ∧ isNan .f32 ((sheetZ8 (mkL x 0 (kdsP [.val (.ag kd2), .ptr kd3]))).u 136) = false := by
  have h' := (show (bif (!((shT0 x).b 16)) then false else (bif (!((shT1 x).b 16)) then false else (bif (!((shT2 x).b 16)) then false else (bif (!((shT3 x).b 16)) then false else (bif (!((shT4 x).b 16)) then false else (bif (!((shT5 x).b 16)) then false else (bif (!((shT6 x).b 16)) then false else (!(!((shT7 x).b 16)))))))))) = (sheetZ8 (mkL x 0 (kdsP [.val (.ag kd2), .ptr kd3]))).b 137 from by kernel_rfl).trans h
  obtain ⟨a0, h'⟩ := chN h'
  obtain ⟨a1, h'⟩ := chN h'
  obtain ⟨a2, h'⟩ := chN h'
  obtain ⟨a3, h'⟩ := chN h'
  obtain ⟨a4, h'⟩ := chN h'
  obtain ⟨a5, h'⟩ := chN h'
  obtain ⟨a6, h'⟩ := chN h'
  have a7 := nnB h'
  have f0 := shF0 x p0.1 p0.2 a0
  have f1 := shF1 x p1.1 p1.2 a1
  have f2 := shF2 x p2.1 p2.2 a2
  have f3 := shF3 x p3.1 p3.2 a3
  have f4 := shF4 x p4.1 p4.2 a4
  have f5 := shF5 x p5.1 p5.2 a5
  have f6 := shF6 x p6.1 p6.2 a6
  have f7 := shF7 x p7.1 p7.2 a7
  exact ⟨(show (bif (!((shT0 x).b 16)) then 0 else (bif (!((shT1 x).b 16)) then 0 else (bif (!((shT2 x).b 16)) then 0 else (bif (!((shT3 x).b 16)) then 0 else (bif (!((shT4 x).b 16)) then 0 else (bif (!((shT5 x).b 16)) then 0 else (bif (!((shT6 x).b 16)) then 0 else (bif (!((shT7 x).b 16)) then 0 else 8)))))))) = (sheetZ8 (mkL x 0 (kdsP [.val (.ag kd2), .ptr kd3]))).i 0 from by kernel_rfl).symm.trans ((chI a0).trans ((chI a1).trans ((chI a2).trans ((chI a3).trans ((chI a4).trans ((chI a5).trans ((chI a6).trans ((chI a7).trans rfl)))))))),
    (show (bif (!((shT0 x).b 16)) then 0 else (bif (!((shT1 x).b 16)) then 0 else (bif (!((shT2 x).b 16)) then 0 else (bif (!((shT3 x).b 16)) then 0 else (bif (!((shT4 x).b 16)) then 0 else (bif (!((shT5 x).b 16)) then 0 else (bif (!((shT6 x).b 16)) then 0 else (bif (!((shT7 x).b 16)) then 0 else ((shT0 x).i 0))))))))) = (sheetZ8 (mkL x 0 (kdsP [.val (.ag kd2), .ptr kd3]))).i 9 from by kernel_rfl).symm.trans ((chI a0).trans ((chI a1).trans ((chI a2).trans ((chI a3).trans ((chI a4).trans ((chI a5).trans ((chI a6).trans ((chI a7).trans f0.1)))))))),
    (show (bif (!((shT0 x).b 16)) then 0 else (bif (!((shT1 x).b 16)) then 0 else (bif (!((shT2 x).b 16)) then 0 else (bif (!((shT3 x).b 16)) then 0 else (bif (!((shT4 x).b 16)) then 0 else (bif (!((shT5 x).b 16)) then 0 else (bif (!((shT6 x).b 16)) then 0 else (bif (!((shT7 x).b 16)) then 0 else ((shT1 x).i 0))))))))) = (sheetZ8 (mkL x 0 (kdsP [.val (.ag kd2), .ptr kd3]))).i 24 from by kernel_rfl).symm.trans ((chI a0).trans ((chI a1).trans ((chI a2).trans ((chI a3).trans ((chI a4).trans ((chI a5).trans ((chI a6).trans ((chI a7).trans f1.1)))))))),
    (show (bif (!((shT0 x).b 16)) then 0 else (bif (!((shT1 x).b 16)) then 0 else (bif (!((shT2 x).b 16)) then 0 else (bif (!((shT3 x).b 16)) then 0 else (bif (!((shT4 x).b 16)) then 0 else (bif (!((shT5 x).b 16)) then 0 else (bif (!((shT6 x).b 16)) then 0 else (bif (!((shT7 x).b 16)) then 0 else ((shT2 x).i 0))))))))) = (sheetZ8 (mkL x 0 (kdsP [.val (.ag kd2), .ptr kd3]))).i 39 from by kernel_rfl).symm.trans ((chI a0).trans ((chI a1).trans ((chI a2).trans ((chI a3).trans ((chI a4).trans ((chI a5).trans ((chI a6).trans ((chI a7).trans f2.1)))))))),
    (show (bif (!((shT0 x).b 16)) then 0 else (bif (!((shT1 x).b 16)) then 0 else (bif (!((shT2 x).b 16)) then 0 else (bif (!((shT3 x).b 16)) then 0 else (bif (!((shT4 x).b 16)) then 0 else (bif (!((shT5 x).b 16)) then 0 else (bif (!((shT6 x).b 16)) then 0 else (bif (!((shT7 x).b 16)) then 0 else ((shT3 x).i 0))))))))) = (sheetZ8 (mkL x 0 (kdsP [.val (.ag kd2), .ptr kd3]))).i 54 from by kernel_rfl).symm.trans ((chI a0).trans ((chI a1).trans ((chI a2).trans ((chI a3).trans ((chI a4).trans ((chI a5).trans ((chI a6).trans ((chI a7).trans f3.1)))))))),
    (show (bif (!((shT0 x).b 16)) then 0 else (bif (!((shT1 x).b 16)) then 0 else (bif (!((shT2 x).b 16)) then 0 else (bif (!((shT3 x).b 16)) then 0 else (bif (!((shT4 x).b 16)) then 0 else (bif (!((shT5 x).b 16)) then 0 else (bif (!((shT6 x).b 16)) then 0 else (bif (!((shT7 x).b 16)) then 0 else ((shT4 x).i 0))))))))) = (sheetZ8 (mkL x 0 (kdsP [.val (.ag kd2), .ptr kd3]))).i 69 from by kernel_rfl).symm.trans ((chI a0).trans ((chI a1).trans ((chI a2).trans ((chI a3).trans ((chI a4).trans ((chI a5).trans ((chI a6).trans ((chI a7).trans f4.1)))))))),
    (show (bif (!((shT0 x).b 16)) then 0 else (bif (!((shT1 x).b 16)) then 0 else (bif (!((shT2 x).b 16)) then 0 else (bif (!((shT3 x).b 16)) then 0 else (bif (!((shT4 x).b 16)) then 0 else (bif (!((shT5 x).b 16)) then 0 else (bif (!((shT6 x).b 16)) then 0 else (bif (!((shT7 x).b 16)) then 0 else ((shT5 x).i 0))))))))) = (sheetZ8 (mkL x 0 (kdsP [.val (.ag kd2), .ptr kd3]))).i 84 from by kernel_rfl).symm.trans ((chI a0).trans ((chI a1).trans ((chI a2).trans ((chI a3).trans ((chI a4).trans ((chI a5).trans ((chI a6).trans ((chI a7).trans f5.1)))))))),
    (show (bif (!((shT0 x).b 16)) then 0 else (bif (!((shT1 x).b 16)) then 0 else (bif (!((shT2 x).b 16)) then 0 else (bif (!((shT3 x).b 16)) then 0 else (bif (!((shT4 x).b 16)) then 0 else (bif (!((shT5 x).b 16)) then 0 else (bif (!((shT6 x).b 16)) then 0 else (bif (!((shT7 x).b 16)) then 0 else ((shT6 x).i 0))))))))) = (sheetZ8 (mkL x 0 (kdsP [.val (.ag kd2), .ptr kd3]))).i 99 from by kernel_rfl).symm.trans ((chI a0).trans ((chI a1).trans ((chI a2).trans ((chI a3).trans ((chI a4).trans ((chI a5).trans ((chI a6).trans ((chI a7).trans f6.1)))))))),
    (show (bif (!((shT0 x).b 16)) then 0 else (bif (!((shT1 x).b 16)) then 0 else (bif (!((shT2 x).b 16)) then 0 else (bif (!((shT3 x).b 16)) then 0 else (bif (!((shT4 x).b 16)) then 0 else (bif (!((shT5 x).b 16)) then 0 else (bif (!((shT6 x).b 16)) then 0 else (bif (!((shT7 x).b 16)) then 0 else ((shT7 x).i 0))))))))) = (sheetZ8 (mkL x 0 (kdsP [.val (.ag kd2), .ptr kd3]))).i 114 from by kernel_rfl).symm.trans ((chI a0).trans ((chI a1).trans ((chI a2).trans ((chI a3).trans ((chI a4).trans ((chI a5).trans ((chI a6).trans ((chI a7).trans f7.1)))))))),
    (congrArg (isNan .f32) ((show (bif (!((shT0 x).b 16)) then 0 else (bif (!((shT1 x).b 16)) then 0 else (bif (!((shT2 x).b 16)) then 0 else (bif (!((shT3 x).b 16)) then 0 else (bif (!((shT4 x).b 16)) then 0 else (bif (!((shT5 x).b 16)) then 0 else (bif (!((shT6 x).b 16)) then 0 else (bif (!((shT7 x).b 16)) then 0 else ((shT0 x).u 15))))))))) = (sheetZ8 (mkL x 0 (kdsP [.val (.ag kd2), .ptr kd3]))).u 129 from by kernel_rfl).symm.trans ((chU a0).trans ((chU a1).trans ((chU a2).trans ((chU a3).trans ((chU a4).trans ((chU a5).trans ((chU a6).trans ((chU a7).trans rfl)))))))))).trans f0.2,
    (congrArg (isNan .f32) ((show (bif (!((shT0 x).b 16)) then 0 else (bif (!((shT1 x).b 16)) then 0 else (bif (!((shT2 x).b 16)) then 0 else (bif (!((shT3 x).b 16)) then 0 else (bif (!((shT4 x).b 16)) then 0 else (bif (!((shT5 x).b 16)) then 0 else (bif (!((shT6 x).b 16)) then 0 else (bif (!((shT7 x).b 16)) then 0 else ((shT1 x).u 15))))))))) = (sheetZ8 (mkL x 0 (kdsP [.val (.ag kd2), .ptr kd3]))).u 130 from by kernel_rfl).symm.trans ((chU a0).trans ((chU a1).trans ((chU a2).trans ((chU a3).trans ((chU a4).trans ((chU a5).trans ((chU a6).trans ((chU a7).trans rfl)))))))))).trans f1.2,
    (congrArg (isNan .f32) ((show (bif (!((shT0 x).b 16)) then 0 else (bif (!((shT1 x).b 16)) then 0 else (bif (!((shT2 x).b 16)) then 0 else (bif (!((shT3 x).b 16)) then 0 else (bif (!((shT4 x).b 16)) then 0 else (bif (!((shT5 x).b 16)) then 0 else (bif (!((shT6 x).b 16)) then 0 else (bif (!((shT7 x).b 16)) then 0 else ((shT2 x).u 15))))))))) = (sheetZ8 (mkL x 0 (kdsP [.val (.ag kd2), .ptr kd3]))).u 131 from by kernel_rfl).symm.trans ((chU a0).trans ((chU a1).trans ((chU a2).trans ((chU a3).trans ((chU a4).trans ((chU a5).trans ((chU a6).trans ((chU a7).trans rfl)))))))))).trans f2.2,
    (congrArg (isNan .f32) ((show (bif (!((shT0 x).b 16)) then 0 else (bif (!((shT1 x).b 16)) then 0 else (bif (!((shT2 x).b 16)) then 0 else (bif (!((shT3 x).b 16)) then 0 else (bif (!((shT4 x).b 16)) then 0 else (bif (!((shT5 x).b 16)) then 0 else (bif (!((shT6 x).b 16)) then 0 else (bif (!((shT7 x).b 16)) then 0 else ((shT3 x).u 15))))))))) = (sheetZ8 (mkL x 0 (kdsP [.val (.ag kd2), .ptr kd3]))).u 132 from by kernel_rfl).symm.trans ((chU a0).trans ((chU a1).trans ((chU a2).trans ((chU a3).trans ((chU a4).trans ((chU a5).trans ((chU a6).trans ((chU a7).trans rfl)))))))))).trans f3.2,
    (congrArg (isNan .f32) ((show (bif (!((shT0 x).b 16)) then 0 else (bif (!((shT1 x).b 16)) then 0 else (bif (!((shT2 x).b 16)) then 0 else (bif (!((shT3 x).b 16)) then 0 else (bif (!((shT4 x).b 16)) then 0 else (bif (!((shT5 x).b 16)) then 0 else (bif (!((shT6 x).b 16)) then 0 else (bif (!((shT7 x).b 16)) then 0 else ((shT4 x).u 15))))))))) = (sheetZ8 (mkL x 0 (kdsP [.val (.ag kd2), .ptr kd3]))).u 133 from by kernel_rfl).symm.trans ((chU a0).trans ((chU a1).trans ((chU a2).trans ((chU a3).trans ((chU a4).trans ((chU a5).trans ((chU a6).trans ((chU a7).trans rfl)))))))))).trans f4.2,
    (congrArg (isNan .f32) ((show (bif (!((shT0 x).b 16)) then 0 else (bif (!((shT1 x).b 16)) then 0 else (bif (!((shT2 x).b 16)) then 0 else (bif (!((shT3 x).b 16)) then 0 else (bif (!((shT4 x).b 16)) then 0 else (bif (!((shT5 x).b 16)) then 0 else (bif (!((shT6 x).b 16)) then 0 else (bif (!((shT7 x).b 16)) then 0 else ((shT5 x).u 15))))))))) = (sheetZ8 (mkL x 0 (kdsP [.val (.ag kd2), .ptr kd3]))).u 134 from by kernel_rfl).symm.trans ((chU a0).trans ((chU a1).trans ((chU a2).trans ((chU a3).trans ((chU a4).trans ((chU a5).trans ((chU a6).trans ((chU a7).trans rfl)))))))))).trans f5.2,
    (congrArg (isNan .f32) ((show (bif (!((shT0 x).b 16)) then 0 else (bif (!((shT1 x).b 16)) then 0 else (bif (!((shT2 x).b 16)) then 0 else (bif (!((shT3 x).b 16)) then 0 else (bif (!((shT4 x).b 16)) then 0 else (bif (!((shT5 x).b 16)) then 0 else (bif (!((shT6 x).b 16)) then 0 else (bif (!((shT7 x).b 16)) then 0 else ((shT6 x).u 15))))))))) = (sheetZ8 (mkL x 0 (kdsP [.val (.ag kd2), .ptr kd3]))).u 135 from by kernel_rfl).symm.trans ((chU a0).trans ((chU a1).trans ((chU a2).trans ((chU a3).trans ((chU a4).trans ((chU a5).trans ((chU a6).trans ((chU a7).trans rfl)))))))))).trans f6.2,
    (congrArg (isNan .f32) ((show (bif (!((shT0 x).b 16)) then 0 else (bif (!((shT1 x).b 16)) then 0 else (bif (!((shT2 x).b 16)) then 0 else (bif (!((shT3 x).b 16)) then 0 else (bif (!((shT4 x).b 16)) then 0 else (bif (!((shT5 x).b 16)) then 0 else (bif (!((shT6 x).b 16)) then 0 else (bif (!((shT7 x).b 16)) then 0 else ((shT7 x).u 15))))))))) = (sheetZ8 (mkL x 0 (kdsP [.val (.ag kd2), .ptr kd3]))).u 136 from by kernel_rfl).symm.trans ((chU a0).trans ((chU a1).trans ((chU a2).trans ((chU a3).trans ((chU a4).trans ((chU a5).trans ((chU a6).trans ((chU a7).trans rfl)))))))))).trans f7.2⟩

theorem rollIn {n r i : Int} (h : (decide (n ≤ i) || (decide (2 ≤ r) && decide (r ≤ 12))) = true) (hi : i < n) : 2 ≤ r ∧ r ≤ 12 := by
  rw [decide_eq_false (Int.not_le.2 hi)] at h
  obtain ⟨a, b⟩ := Bool.and_eq_true_iff.1 h
  exact ⟨of_decide_eq_true a, of_decide_eq_true b⟩

set_option maxRecDepth 100000 in
theorem sheetFact (x : Vars) (hp : ∀ b ∈ sheetPre (mkL x 0 (kdsP [.val (.ag kd2), .ptr kd3])), b = true) (h : (sheetR (mkL x 0 (kdsP [.val (.ag kd2), .ptr kd3]))).b 137 = true) : (sheetR (mkL x 0 (kdsP [.val (.ag kd2), .ptr kd3]))).i 0 = x.i 0 ∧ (sheetR (mkL x 0 (kdsP [.val (.ag kd2), .ptr kd3]))).i 9 = x.i 9 ∧ (sheetR (mkL x 0 (kdsP [.val (.ag kd2), .ptr kd3]))).i 24 = x.i 24 ∧ (sheetR (mkL x 0 (kdsP [.val (.ag kd2), .ptr kd3]))).i 39 = x.i 39 ∧ (sheetR (mkL x 0 (kdsP [.val (.ag kd2), .ptr kd3]))).i 54 = x.i 54 ∧ (sheetR (mkL x 0 (kdsP [.val (.ag kd2), .ptr kd3]))).i 69 = x.i 69 ∧ (sheetR (mkL x 0 (kdsP [.val (.ag kd2), .ptr kd3]))).i 84 = x.i 84 ∧ (sheetR (mkL x 0 (kdsP [.val (.ag kd2), .ptr kd3]))).i 99 = x.i 99 ∧ (sheetR (mkL x 0 (kdsP [.val (.ag kd2), .ptr kd3]))).i 114 = x.i 114 ∧ (decide (x.i 0 ≤ 0) || (!(isNan .f32 ((sheetR (mkL x 0 (kdsP [.val (.ag kd2), .ptr kd3]))).u 129)))) = true ∧ (decide (x.i 0 ≤ 1) || (!(isNan .f32 ((sheetR (mkL x 0 (kdsP [.val (.ag kd2), .ptr kd3]))).u 130)))) = true ∧ (decide (x.i 0 ≤ 2) || (!(isNan .f32 ((sheetR (mkL x 0 (kdsP [.val (.ag kd2), .ptr kd3]))).u 131)))) = true ∧ (decide (x.i 0 ≤ 3) || (!(isNan .f32 ((sheetR (mkL x 0 (kdsP [.val (.ag kd2), .ptr kd3]))).u 132)))) = true ∧ (decide (x.i 0 ≤ 4) || (!(isNan .f32 ((sheetR (mkL x 0 (kdsP [.val (.ag kd2), .ptr kd3]))).u 133)))) = true ∧ (decide (x.i 0 ≤ 5) || (!(isNan .f32 ((sheetR (mkL x 0 (kdsP [.val (.ag kd2), .ptr kd3]))).u 134)))) = true ∧ (decide (x.i 0 ≤ 6) || (!(isNan .f32 ((sheetR (mkL x 0 (kdsP [.val (.ag kd2), .ptr kd3]))).u 135)))) = true ∧ (decide (x.i 0 ≤ 7) || (!(isNan .f32 ((sheetR (mkL x 0 (kdsP [.val (.ag kd2), .ptr kd3]))).u 136)))) = true := by
  have h1 : 1 ≤ x.i 0 := of_decide_eq_true (hp _ (List.mem_cons_self ..))
  have h2 : x.i 0 ≤ 8 := of_decide_eq_true (hp _ (List.mem_cons_of_mem _ (List.mem_cons_self ..)))
  have r0 : 0 < x.i 0 → 2 ≤ x.i 9 ∧ x.i 9 ≤ 12 := fun hi => rollIn (hp _ (List.mem_cons_of_mem _ (List.mem_cons_of_mem _ (List.mem_cons_self ..)))) hi
  have r1 : 1 < x.i 0 → 2 ≤ x.i 24 ∧ x.i 24 ≤ 12 := fun hi => rollIn (hp _ (List.mem_cons_of_mem _ (List.mem_cons_of_mem _ (List.mem_cons_of_mem _ (List.mem_cons_self ..))))) hi
  have r2 : 2 < x.i 0 → 2 ≤ x.i 39 ∧ x.i 39 ≤ 12 := fun hi => rollIn (hp _ (List.mem_cons_of_mem _ (List.mem_cons_of_mem _ (List.mem_cons_of_mem _ (List.mem_cons_of_mem _ (List.mem_cons_self ..)))))) hi
  have r3 : 3 < x.i 0 → 2 ≤ x.i 54 ∧ x.i 54 ≤ 12 := fun hi => rollIn (hp _ (List.mem_cons_of_mem _ (List.mem_cons_of_mem _ (List.mem_cons_of_mem _ (List.mem_cons_of_mem _ (List.mem_cons_of_mem _ (List.mem_cons_self ..))))))) hi
  have r4 : 4 < x.i 0 → 2 ≤ x.i 69 ∧ x.i 69 ≤ 12 := fun hi => rollIn (hp _ (List.mem_cons_of_mem _ (List.mem_cons_of_mem _ (List.mem_cons_of_mem _ (List.mem_cons_of_mem _ (List.mem_cons_of_mem _ (List.mem_cons_of_mem _ (List.mem_cons_self ..)))))))) hi
  have r5 : 5 < x.i 0 → 2 ≤ x.i 84 ∧ x.i 84 ≤ 12 := fun hi => rollIn (hp _ (List.mem_cons_of_mem _ (List.mem_cons_of_mem _ (List.mem_cons_of_mem _ (List.mem_cons_of_mem _ (List.mem_cons_of_mem _ (List.mem_cons_of_mem _ (List.mem_cons_of_mem _ (List.mem_cons_self ..))))))))) hi
  have r6 : 6 < x.i 0 → 2 ≤ x.i 99 ∧ x.i 99 ≤ 12 := fun hi => rollIn (hp _ (List.mem_cons_of_mem _ (List.mem_cons_of_mem _ (List.mem_cons_of_mem _ (List.mem_cons_of_mem _ (List.mem_cons_of_mem _ (List.mem_cons_of_mem _ (List.mem_cons_of_mem _ (List.mem_cons_of_mem _ (List.mem_cons_self ..)))))))))) hi
  have r7 : 7 < x.i 0 → 2 ≤ x.i 114 ∧ x.i 114 ≤ 12 := fun hi => rollIn (hp _ (List.mem_cons_of_mem _ (List.mem_cons_of_mem _ (List.mem_cons_of_mem _ (List.mem_cons_of_mem _ (List.mem_cons_of_mem _ (List.mem_cons_of_mem _ (List.mem_cons_of_mem _ (List.mem_cons_of_mem _ (List.mem_cons_of_mem _ (List.mem_cons_self ..))))))))))) hi
  have : x.i 0 = 1 ∨ x.i 0 = 2 ∨ x.i 0 = 3 ∨ x.i 0 = 4 ∨ x.i 0 = 5 ∨ x.i 0 = 6 ∨ x.i 0 = 7 ∨ x.i 0 = 8 := by omega
  rcases this with hz | hz | hz | hz | hz | hz | hz | hz
  · have e : sheetR (mkL x 0 (kdsP [.val (.ag kd2), .ptr kd3])) = sheetZ1 (mkL x 0 (kdsP [.val (.ag kd2), .ptr kd3])) := by
      rw [sheetR_eq]
      unfold sheetR0
      have hz : intOf (leafN (mkL x 0 (kdsP [.val (.ag kd2), .ptr kd3])) 0) = 1 := hz
      rw [hz]
      rfl
    rw [e] at h ⊢
    have F := sheet_z1 x (r0 (by omega)) h
    exact ⟨F.1.trans hz.symm, F.2.1, F.2.2.1, F.2.2.2.1, F.2.2.2.2.1, F.2.2.2.2.2.1, F.2.2.2.2.2.2.1, F.2.2.2.2.2.2.2.1, F.2.2.2.2.2.2.2.2.1, orTr (notT F.2.2.2.2.2.2.2.2.2), orTl (decide_eq_true (by omega)), orTl (decide_eq_true (by omega)), orTl (decide_eq_true (by omega)), orTl (decide_eq_true (by omega)), orTl (decide_eq_true (by omega)), orTl (decide_eq_true (by omega)), orTl (decide_eq_true (by omega))⟩
  · have e : sheetR (mkL x 0 (kdsP [.val (.ag kd2), .ptr kd3])) = sheetZ2 (mkL x 0 (kdsP [.val (.ag kd2), .ptr kd3])) := by
      rw [sheetR_eq]
      unfold sheetR0
      have hz : intOf (leafN (mkL x 0 (kdsP [.val (.ag kd2), .ptr kd3])) 0) = 2 := hz
      rw [hz]
      rfl
    rw [e] at h ⊢
    have F := sheet_z2 x (r0 (by omega)) (r1 (by omega)) h
    exact ⟨F.1.trans hz.symm, F.2.1, F.2.2.1, F.2.2.2.1, F.2.2.2.2.1, F.2.2.2.2.2.1, F.2.2.2.2.2.2.1, F.2.2.2.2.2.2.2.1, F.2.2.2.2.2.2.2.2.1, orTr (notT F.2.2.2.2.2.2.2.2.2.1), orTr (notT F.2.2.2.2.2.2.2.2.2.2), orTl (decide_eq_true (by omega)), orTl (decide_eq_true (by omega)), orTl (decide_eq_true (by omega)), orTl (decide_eq_true (by omega)), orTl (decide_eq_true (by omega)), orTl (decide_eq_true (by omega))⟩
  · have e : sheetR (mkL x 0 (kdsP [.val (.ag kd2), .ptr kd3])) = sheetZ3 (mkL x 0 (kdsP [.val (.ag kd2), .ptr kd3])) := by
      rw [sheetR_eq]
      unfold sheetR0
      have hz : intOf (leafN (mkL x 0 (kdsP [.val (.ag kd2), .ptr kd3])) 0) = 3 := hz
      rw [hz]
      rfl
    rw [e] at h ⊢
    have F := sheet_z3 x (r0 (by omega)) (r1 (by omega)) (r2 (by omega)) h
    exact ⟨F.1.trans hz.symm, F.2.1, F.2.2.1, F.2.2.2.1, F.2.2.2.2.1, F.2.2.2.2.2.1, F.2.2.2.2.2.2.1, F.2.2.2.2.2.2.2.1, F.2.2.2.2.2.2.2.2.1, orTr (notT F.2.2.2.2.2.2.2.2.2.1), orTr (notT F.2.2.2.2.2.2.2.2.2.2.1), orTr (notT F.2.2.2.2.2.2.2.2.2.2.2), orTl (decide_eq_true (by omega)), orTl (decide_eq_true (by omega)), orTl (decide_eq_true (by omega)), orTl (decide_eq_true (by omega)), orTl (decide_eq_true (by omega))⟩
  · have e : sheetR (mkL x 0 (kdsP [.val (.ag kd2), .ptr kd3])) = sheetZ4 (mkL x 0 (kdsP [.val (.ag kd2), .ptr kd3])) := by
      rw [sheetR_eq]
      unfold sheetR0
      have hz : intOf (leafN (mkL x 0 (kdsP [.val (.ag kd2), .ptr kd3])) 0) = 4 := hz
      rw [hz]
      rfl
    rw [e] at h ⊢
    have F := sheet_z4 x (r0 (by omega)) (r1 (by omega)) (r2 (by omega)) (r3 (by omega)) h
    exact ⟨F.1.trans hz.symm, F.2.1, F.2.2.1, F.2.2.2.1, F.2.2.2.2.1, F.2.2.2.2.2.1, F.2.2.2.2.2.2.1, F.2.2.2.2.2.2.2.1, F.2.2.2.2.2.2.2.2.1, orTr (notT F.2.2.2.2.2.2.2.2.2.1), orTr (notT F.2.2.2.2.2.2.2.2.2.2.1), orTr (notT F.2.2.2.2.2.2.2.2.2.2.2.1), orTr (notT F.2.2.2.2.2.2.2.2.2.2.2.2), orTl (decide_eq_true (by omega)), orTl (decide_eq_true (by omega)), orTl (decide_eq_true (by omega)), orTl (decide_eq_true (by omega))⟩
  · have e : sheetR (mkL x 0 (kdsP [.val (.ag kd2), .ptr kd3])) = sheetZ5 (mkL x 0 (kdsP [.val (.ag kd2), .ptr kd3])) := by
      rw [sheetR_eq]
      unfold sheetR0
      have hz : intOf (leafN (mkL x 0 (kdsP [.val (.ag kd2), .ptr kd3])) 0) = 5 := hz
      rw [hz]
      rfl
    rw [e] at h ⊢
    have F := sheet_z5 x (r0 (by omega)) (r1 (by omega)) (r2 (by omega)) (r3 (by omega)) (r4 (by omega)) h
    exact ⟨F.1.trans hz.symm, F.2.1, F.2.2.1, F.2.2.2.1, F.2.2.2.2.1, F.2.2.2.2.2.1, F.2.2.2.2.2.2.1, F.2.2.2.2.2.2.2.1, F.2.2.2.2.2.2.2.2.1, orTr (notT F.2.2.2.2.2.2.2.2.2.1), orTr (notT F.2.2.2.2.2.2.2.2.2.2.1), orTr (notT F.2.2.2.2.2.2.2.2.2.2.2.1), orTr (notT F.2.2.2.2.2.2.2.2.2.2.2.2.1), orTr (notT F.2.2.2.2.2.2.2.2.2.2.2.2.2), orTl (decide_eq_true (by omega)), orTl (decide_eq_true (by omega)), orTl (decide_eq_true (by omega))⟩
  · have e : sheetR (mkL x 0 (kdsP [.val (.ag kd2), .ptr kd3])) = sheetZ6 (mkL x 0 (kdsP [.val (.ag kd2), .ptr kd3])) := by
      rw [sheetR_eq]
      unfold sheetR0
      have hz : intOf (leafN (mkL x 0 (kdsP [.val (.ag kd2), .ptr kd3])) 0) = 6 := hz
      rw [hz]
      rfl
    rw [e] at h ⊢
    have F := sheet_z6 x (r0 (by omega)) (r1 (by omega)) (r2 (by omega)) (r3 (by omega)) (r4 (by omega)) (r5 (by omega)) h
    exact ⟨F.1.trans hz.symm, F.2.1, F.2.2.1, F.2.2.2.1, F.2.2.2.2.1, F.2.2.2.2.2.1, F.2.2.2.2.2.2.1, F.2.2.2.2.2.2.2.1, F.2.2.2.2.2.2.2.2.1, orTr (notT F.2.2.2.2.2.2.2.2.2.1), orTr (notT F.2.2.2.2.2.2.2.2.2.2.1), orTr (notT F.2.2.2.2.2.2.2.2.2.2.2.1), orTr (notT F.2.2.2.2.2.2.2.2.2.2.2.2.1), orTr (notT F.2.2.2.2.2.2.2.2.2.2.2.2.2.1), orTr (notT F.2.2.2.2.2.2.2.2.2.2.2.2.2.2), orTl (decide_eq_true (by omega)), orTl (decide_eq_true (by omega))⟩
  · have e : sheetR (mkL x 0 (kdsP [.val (.ag kd2), .ptr kd3])) = sheetZ7 (mkL x 0 (kdsP [.val (.ag kd2), .ptr kd3])) := by
      rw [sheetR_eq]
      unfold sheetR0
      have hz : intOf (leafN (mkL x 0 (kdsP [.val (.ag kd2), .ptr kd3])) 0) = 7 := hz
      rw [hz]
      rfl
    rw [e] at h ⊢
    have F := sheet_z7 x (r0 (by omega)) (r1 (by omega)) (r2 (by omega)) (r3 (by omega)) (r4 (by omega)) (r5 (by omega)) (r6 (by omega)) h
    exact ⟨F.1.trans hz.symm, F.2.1, F.2.2.1, F.2.2.2.1, F.2.2.2.2.1, F.2.2.2.2.2.1, F.2.2.2.2.2.2.1, F.2.2.2.2.2.2.2.1, F.2.2.2.2.2.2.2.2.1, orTr (notT F.2.2.2.2.2.2.2.2.2.1), orTr (notT F.2.2.2.2.2.2.2.2.2.2.1), orTr (notT F.2.2.2.2.2.2.2.2.2.2.2.1), orTr (notT F.2.2.2.2.2.2.2.2.2.2.2.2.1), orTr (notT F.2.2.2.2.2.2.2.2.2.2.2.2.2.1), orTr (notT F.2.2.2.2.2.2.2.2.2.2.2.2.2.2.1), orTr (notT F.2.2.2.2.2.2.2.2.2.2.2.2.2.2.2), orTl (decide_eq_true (by omega))⟩
  · have e : sheetR (mkL x 0 (kdsP [.val (.ag kd2), .ptr kd3])) = sheetZ8 (mkL x 0 (kdsP [.val (.ag kd2), .ptr kd3])) := by
      rw [sheetR_eq]
      unfold sheetR0
      have hz : intOf (leafN (mkL x 0 (kdsP [.val (.ag kd2), .ptr kd3])) 0) = 8 := hz
      rw [hz]
      rfl
    rw [e] at h ⊢
    have F := sheet_z8 x (r0 (by omega)) (r1 (by omega)) (r2 (by omega)) (r3 (by omega)) (r4 (by omega)) (r5 (by omega)) (r6 (by omega)) (r7 (by omega)) h
    exact ⟨F.1.trans hz.symm, F.2.1, F.2.2.1, F.2.2.2.1, F.2.2.2.2.1, F.2.2.2.2.2.1, F.2.2.2.2.2.2.1, F.2.2.2.2.2.2.2.1, F.2.2.2.2.2.2.2.2.1, orTr (notT F.2.2.2.2.2.2.2.2.2.1), orTr (notT F.2.2.2.2.2.2.2.2.2.2.1), orTr (notT F.2.2.2.2.2.2.2.2.2.2.2.1), orTr (notT F.2.2.2.2.2.2.2.2.2.2.2.2.1), orTr (notT F.2.2.2.2.2.2.2.2.2.2.2.2.2.1), orTr (notT F.2.2.2.2.2.2.2.2.2.2.2.2.2.2.1), orTr (notT F.2.2.2.2.2.2.2.2.2.2.2.2.2.2.2.1), orTr (notT F.2.2.2.2.2.2.2.2.2.2.2.2.2.2.2.2)⟩

end Go.Proofs.Ytdagaggpaohmcaa

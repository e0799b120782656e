/-
  Facts of this seat that its laws use; no conditions.
-/
import Derived.Test.YtigcbcaknhhgmaaPlatesSa
namespace Go.Proofs.Ytigcbcaknhhgmaa
open Go.Sim Go.ChangeShapes Go.WideShapes Go.ChangeAt Go.RowKit

set_option maxRecDepth 100000 in
theorem pl_c30_0_3 (x : Vars) (ho : OkV (kdsP pl_P0) x) (h0 : plB0 (mkL x 0 (kdsP pl_P0)) = false) (h1 : plB1 (mkL x 0 (kdsP pl_P0)) = false) (hz : x.i 222 = 0) (hz2 : x.i 223 = 3) : ∀ b ∈ pl_cs30_0_3 x, b = true := by
  have w24 := Bool.and_eq_true_iff.1 (ho 24 _ rfl)
  have w25 := Bool.and_eq_true_iff.1 (ho 25 _ rfl)
  have w1 : (-128 : Int) ≤ x.i 24 := of_decide_eq_true w24.1
  have w2 : x.i 24 ≤ 127 := of_decide_eq_true w24.2
  have w3 : (-128 : Int) ≤ x.i 25 := of_decide_eq_true w25.1
  have w4 : x.i 25 ≤ 127 := of_decide_eq_true w25.2
  have b := plIn x h1
  unfold pl_cs30_0_3
  exact (allC (notT (notF (andT (condT (decide_eq_true (by first | omega | (unfold isub; omega))) rfl) (decide_eq_true (by first | omega | (unfold isub; omega)))))) (allC (notT (notF (notBF ((show (_ : Bool) = plB0 (normL (litL (litL (mkL x 0 (kdsP pl_P0)) 222 0) 223 3)) from by kernel_rfl).trans ((congrArg plB0 (litL_mk2 (litL_mk hz) hz2)).trans h0))))) allN))

theorem pl_f30_0_3 (x : Vars) : (funH Try.prog G26 noLT true 1000 30 (argsP pl_P0 0 (litL (litL (mkL x 0 (kdsP pl_P0)) 222 0) 223 3)) (memP pl_P0 (litL (litL (mkL x 0 (kdsP pl_P0)) 222 0) 223 3)) [false, false]).map (fun r => (normR r.1, untupR r.1 && r.1.flat, r.2)) = some (pl_v0_3 x, true, pl_cs30_0_3 x) := by kernel_rfl


noncomputable def pl_cs30_0_4 (x : Vars) : List Bool := [(!(!((bif (decide (0 < (x.i 24))) then true else false) && (decide (4 < (x.i 25)))))), (!(!(decide (((pl_E0_a0 x).i 0) = 0))))]

set_option maxRecDepth 100000 in
theorem pl_c30_0_4 (x : Vars) (ho : OkV (kdsP pl_P0) x) (h0 : plB0 (mkL x 0 (kdsP pl_P0)) = false) (h1 : plB1 (mkL x 0 (kdsP pl_P0)) = false) (hz : x.i 222 = 0) (hz2 : x.i 223 = 4) : ∀ b ∈ pl_cs30_0_4 x, b = true := by
  have w24 := Bool.and_eq_true_iff.1 (ho 24 _ rfl)
  have w25 := Bool.and_eq_true_iff.1 (ho 25 _ rfl)
  have w1 : (-128 : Int) ≤ x.i 24 := of_decide_eq_true w24.1
  have w2 : x.i 24 ≤ 127 := of_decide_eq_true w24.2
  have w3 : (-128 : Int) ≤ x.i 25 := of_decide_eq_true w25.1
  have w4 : x.i 25 ≤ 127 := of_decide_eq_true w25.2
  have b := plIn x h1
  unfold pl_cs30_0_4
  exact (allC (notT (notF (andT (condT (decide_eq_true (by first | omega | (unfold isub; omega))) rfl) (decide_eq_true (by first | omega | (unfold isub; omega)))))) (allC (notT (notF (notBF ((show (_ : Bool) = plB0 (normL (litL (litL (mkL x 0 (kdsP pl_P0)) 222 0) 223 4)) from by kernel_rfl).trans ((congrArg plB0 (litL_mk2 (litL_mk hz) hz2)).trans h0))))) allN))

theorem pl_f30_0_4 (x : Vars) : (funH Try.prog G26 noLT true 1000 30 (argsP pl_P0 0 (litL (litL (mkL x 0 (kdsP pl_P0)) 222 0) 223 4)) (memP pl_P0 (litL (litL (mkL x 0 (kdsP pl_P0)) 222 0) 223 4)) [false, false]).map (fun r => (normR r.1, untupR r.1 && r.1.flat, r.2)) = some (pl_v0_4 x, true, pl_cs30_0_4 x) := by kernel_rfl


noncomputable def pl_cs30_0_5 (x : Vars) : List Bool := [(!(!((bif (decide (0 < (x.i 24))) then true else false) && (decide (5 < (x.i 25)))))), (!(!(decide (((pl_E0_a0 x).i 0) = 0))))]

set_option maxRecDepth 100000 in
theorem pl_c30_0_5 (x : Vars) (ho : OkV (kdsP pl_P0) x) (h0 : plB0 (mkL x 0 (kdsP pl_P0)) = false) (h1 : plB1 (mkL x 0 (kdsP pl_P0)) = false) (hz : x.i 222 = 0) (hz2 : x.i 223 = 5) : ∀ b ∈ pl_cs30_0_5 x, b = true := by
  have w24 := Bool.and_eq_true_iff.1 (ho 24 _ rfl)
  have w25 := Bool.and_eq_true_iff.1 (ho 25 _ rfl)
  have w1 : (-128 : Int) ≤ x.i 24 := of_decide_eq_true w24.1
  have w2 : x.i 24 ≤ 127 := of_decide_eq_true w24.2
  have w3 : (-128 : Int) ≤ x.i 25 := of_decide_eq_true w25.1
  have w4 : x.i 25 ≤ 127 := of_decide_eq_true w25.2
  have b := plIn x h1
  unfold pl_cs30_0_5
  exact (allC (notT (notF (andT (condT (decide_eq_true (by first | omega | (unfold isub; omega))) rfl) (decide_eq_true (by first | omega | (unfold isub; omega)))))) (allC (notT (notF (notBF ((show (_ : Bool) = plB0 (normL (litL (litL (mkL x 0 (kdsP pl_P0)) 222 0) 223 5)) from by kernel_rfl).trans ((congrArg plB0 (litL_mk2 (litL_mk hz) hz2)).trans h0))))) allN))

theorem pl_f30_0_5 (x : Vars) : (funH Try.prog G26 noLT true 1000 30 (argsP pl_P0 0 (litL (litL (mkL x 0 (kdsP pl_P0)) 222 0) 223 5)) (memP pl_P0 (litL (litL (mkL x 0 (kdsP pl_P0)) 222 0) 223 5)) [false, false]).map (fun r => (normR r.1, untupR r.1 && r.1.flat, r.2)) = some (pl_v0_5 x, true, pl_cs30_0_5 x) := by kernel_rfl


noncomputable def pl_cs30_0_6 (x : Vars) : List Bool := [(!(!((bif (decide (0 < (x.i 24))) then true else false) && (decide (6 < (x.i 25)))))), (!(!(decide (((pl_E0_a0 x).i 0) = 0))))]

set_option maxRecDepth 100000 in
theorem pl_c30_0_6 (x : Vars) (ho : OkV (kdsP pl_P0) x) (h0 : plB0 (mkL x 0 (kdsP pl_P0)) = false) (h1 : plB1 (mkL x 0 (kdsP pl_P0)) = false) (hz : x.i 222 = 0) (hz2 : x.i 223 = 6) : ∀ b ∈ pl_cs30_0_6 x, b = true := by
  have w24 := Bool.and_eq_true_iff.1 (ho 24 _ rfl)
  have w25 := Bool.and_eq_true_iff.1 (ho 25 _ rfl)
  have w1 : (-128 : Int) ≤ x.i 24 := of_decide_eq_true w24.1
  have w2 : x.i 24 ≤ 127 := of_decide_eq_true w24.2
  have w3 : (-128 : Int) ≤ x.i 25 := of_decide_eq_true w25.1
  have w4 : x.i 25 ≤ 127 := of_decide_eq_true w25.2
  have b := plIn x h1
  unfold pl_cs30_0_6
  exact (allC (notT (notF (andT (condT (decide_eq_true (by first | omega | (unfold isub; omega))) rfl) (decide_eq_true (by first | omega | (unfold isub; omega)))))) (allC (notT (notF (notBF ((show (_ : Bool) = plB0 (normL (litL (litL (mkL x 0 (kdsP pl_P0)) 222 0) 223 6)) from by kernel_rfl).trans ((congrArg plB0 (litL_mk2 (litL_mk hz) hz2)).trans h0))))) allN))

theorem pl_f30_0_6 (x : Vars) : (funH Try.prog G26 noLT true 1000 30 (argsP pl_P0 0 (litL (litL (mkL x 0 (kdsP pl_P0)) 222 0) 223 6)) (memP pl_P0 (litL (litL (mkL x 0 (kdsP pl_P0)) 222 0) 223 6)) [false, false]).map (fun r => (normR r.1, untupR r.1 && r.1.flat, r.2)) = some (pl_v0_6 x, true, pl_cs30_0_6 x) := by kernel_rfl


noncomputable def pl_cs30_0_7 (x : Vars) : List Bool := [(!(!((bif (decide (0 < (x.i 24))) then true else false) && (decide (7 < (x.i 25)))))), (!(!(decide (((pl_E0_a0 x).i 0) = 0))))]

set_option maxRecDepth 100000 in
theorem pl_c30_0_7 (x : Vars) (ho : OkV (kdsP pl_P0) x) (h0 : plB0 (mkL x 0 (kdsP pl_P0)) = false) (h1 : plB1 (mkL x 0 (kdsP pl_P0)) = false) (hz : x.i 222 = 0) (hz2 : x.i 223 = 7) : ∀ b ∈ pl_cs30_0_7 x, b = true := by
  have w24 := Bool.and_eq_true_iff.1 (ho 24 _ rfl)
  have w25 := Bool.and_eq_true_iff.1 (ho 25 _ rfl)
  have w1 : (-128 : Int) ≤ x.i 24 := of_decide_eq_true w24.1
  have w2 : x.i 24 ≤ 127 := of_decide_eq_true w24.2
  have w3 : (-128 : Int) ≤ x.i 25 := of_decide_eq_true w25.1
  have w4 : x.i 25 ≤ 127 := of_decide_eq_true w25.2
  have b := plIn x h1
  unfold pl_cs30_0_7
  exact (allC (notT (notF (andT (condT (decide_eq_true (by first | omega | (unfold isub; omega))) rfl) (decide_eq_true (by first | omega | (unfold isub; omega)))))) (allC (notT (notF (notBF ((show (_ : Bool) = plB0 (normL (litL (litL (mkL x 0 (kdsP pl_P0)) 222 0) 223 7)) from by kernel_rfl).trans ((congrArg plB0 (litL_mk2 (litL_mk hz) hz2)).trans h0))))) allN))

theorem pl_f30_0_7 (x : Vars) : (funH Try.prog G26 noLT true 1000 30 (argsP pl_P0 0 (litL (litL (mkL x 0 (kdsP pl_P0)) 222 0) 223 7)) (memP pl_P0 (litL (litL (mkL x 0 (kdsP pl_P0)) 222 0) 223 7)) [false, false]).map (fun r => (normR r.1, untupR r.1 && r.1.flat, r.2)) = some (pl_v0_7 x, true, pl_cs30_0_7 x) := by kernel_rfl


noncomputable def pl_cs30_1_0 (x : Vars) : List Bool := [(!(!((bif (decide (1 < (x.i 24))) then true else false) && (decide (0 < (x.i 25)))))), (!(!(decide (((pl_E0_a0 x).i 0) = 0))))]

set_option maxRecDepth 100000 in
theorem pl_c30_1_0 (x : Vars) (ho : OkV (kdsP pl_P0) x) (h0 : plB0 (mkL x 0 (kdsP pl_P0)) = false) (h1 : plB1 (mkL x 0 (kdsP pl_P0)) = false) (hz : x.i 222 = 1) (hz2 : x.i 223 = 0) : ∀ b ∈ pl_cs30_1_0 x, b = true := by
  have w24 := Bool.and_eq_true_iff.1 (ho 24 _ rfl)
  have w25 := Bool.and_eq_true_iff.1 (ho 25 _ rfl)
  have w1 : (-128 : Int) ≤ x.i 24 := of_decide_eq_true w24.1
  have w2 : x.i 24 ≤ 127 := of_decide_eq_true w24.2
  have w3 : (-128 : Int) ≤ x.i 25 := of_decide_eq_true w25.1
  have w4 : x.i 25 ≤ 127 := of_decide_eq_true w25.2
  have b := plIn x h1
  unfold pl_cs30_1_0
  exact (allC (notT (notF (andT (condT (decide_eq_true (by first | omega | (unfold isub; omega))) rfl) (decide_eq_true (by first | omega | (unfold isub; omega)))))) (allC (notT (notF (notBF ((show (_ : Bool) = plB0 (normL (litL (litL (mkL x 0 (kdsP pl_P0)) 222 1) 223 0)) from by kernel_rfl).trans ((congrArg plB0 (litL_mk2 (litL_mk hz) hz2)).trans h0))))) allN))

theorem pl_f30_1_0 (x : Vars) : (funH Try.prog G26 noLT true 1000 30 (argsP pl_P0 0 (litL (litL (mkL x 0 (kdsP pl_P0)) 222 1) 223 0)) (memP pl_P0 (litL (litL (mkL x 0 (kdsP pl_P0)) 222 1) 223 0)) [false, false]).map (fun r => (normR r.1, untupR r.1 && r.1.flat, r.2)) = some (pl_v1_0 x, true, pl_cs30_1_0 x) := by kernel_rfl


noncomputable def pl_cs30_1_1 (x : Vars) : List Bool := [(!(!((bif (decide (1 < (x.i 24))) then true else false) && (decide (1 < (x.i 25)))))), (!(!(decide (((pl_E0_a0 x).i 0) = 0))))]

set_option maxRecDepth 100000 in
theorem pl_c30_1_1 (x : Vars) (ho : OkV (kdsP pl_P0) x) (h0 : plB0 (mkL x 0 (kdsP pl_P0)) = false) (h1 : plB1 (mkL x 0 (kdsP pl_P0)) = false) (hz : x.i 222 = 1) (hz2 : x.i 223 = 1) : ∀ b ∈ pl_cs30_1_1 x, b = true := by
  have w24 := Bool.and_eq_true_iff.1 (ho 24 _ rfl)
  have w25 := Bool.and_eq_true_iff.1 (ho 25 _ rfl)
  have w1 : (-128 : Int) ≤ x.i 24 := of_decide_eq_true w24.1
  have w2 : x.i 24 ≤ 127 := of_decide_eq_true w24.2
  have w3 : (-128 : Int) ≤ x.i 25 := of_decide_eq_true w25.1
  have w4 : x.i 25 ≤ 127 := of_decide_eq_true w25.2
  have b := plIn x h1
  unfold pl_cs30_1_1
  exact (allC (notT (notF (andT (condT (decide_eq_true (by first | omega | (unfold isub; omega))) rfl) (decide_eq_true (by first | omega | (unfold isub; omega)))))) (allC (notT (notF (notBF ((show (_ : Bool) = plB0 (normL (litL (litL (mkL x 0 (kdsP pl_P0)) 222 1) 223 1)) from by kernel_rfl).trans ((congrArg plB0 (litL_mk2 (litL_mk hz) hz2)).trans h0))))) allN))

theorem pl_f30_1_1 (x : Vars) : (funH Try.prog G26 noLT true 1000 30 (argsP pl_P0 0 (litL (litL (mkL x 0 (kdsP pl_P0)) 222 1) 223 1)) (memP pl_P0 (litL (litL (mkL x 0 (kdsP pl_P0)) 222 1) 223 1)) [false, false]).map (fun r => (normR r.1, untupR r.1 && r.1.flat, r.2)) = some (pl_v1_1 x, true, pl_cs30_1_1 x) := by kernel_rfl


noncomputable def pl_cs30_1_2 (x : Vars) : List Bool := [(!(!((bif (decide (1 < (x.i 24))) then true else false) && (decide (2 < (x.i 25)))))), (!(!(decide (((pl_E0_a0 x).i 0) = 0))))]

set_option maxRecDepth 100000 in
theorem pl_c30_1_2 (x : Vars) (ho : OkV (kdsP pl_P0) x) (h0 : plB0 (mkL x 0 (kdsP pl_P0)) = false) (h1 : plB1 (mkL x 0 (kdsP pl_P0)) = false) (hz : x.i 222 = 1) (hz2 : x.i 223 = 2) : ∀ b ∈ pl_cs30_1_2 x, b = true := by
  have w24 := Bool.and_eq_true_iff.1 (ho 24 _ rfl)
  have w25 := Bool.and_eq_true_iff.1 (ho 25 _ rfl)
  have w1 : (-128 : Int) ≤ x.i 24 := of_decide_eq_true w24.1
  have w2 : x.i 24 ≤ 127 := of_decide_eq_true w24.2
  have w3 : (-128 : Int) ≤ x.i 25 := of_decide_eq_true w25.1
  have w4 : x.i 25 ≤ 127 := of_decide_eq_true w25.2
  have b := plIn x h1
  unfold pl_cs30_1_2
  exact (allC (notT (notF (andT (condT (decide_eq_true (by first | omega | (unfold isub; omega))) rfl) (decide_eq_true (by first | omega | (unfold isub; omega)))))) (allC (notT (notF (notBF ((show (_ : Bool) = plB0 (normL (litL (litL (mkL x 0 (kdsP pl_P0)) 222 1) 223 2)) from by kernel_rfl).trans ((congrArg plB0 (litL_mk2 (litL_mk hz) hz2)).trans h0))))) allN))

theorem pl_f30_1_2 (x : Vars) : (funH Try.prog G26 noLT true 1000 30 (argsP pl_P0 0 (litL (litL (mkL x 0 (kdsP pl_P0)) 222 1) 223 2)) (memP pl_P0 (litL (litL (mkL x 0 (kdsP pl_P0)) 222 1) 223 2)) [false, false]).map (fun r => (normR r.1, untupR r.1 && r.1.flat, r.2)) = some (pl_v1_2 x, true, pl_cs30_1_2 x) := by kernel_rfl


noncomputable def pl_cs30_1_3 (x : Vars) : List Bool := [(!(!((bif (decide (1 < (x.i 24))) then true else false) && (decide (3 < (x.i 25)))))), (!(!(decide (((pl_E0_a0 x).i 0) = 0))))]

set_option maxRecDepth 100000 in
theorem pl_c30_1_3 (x : Vars) (ho : OkV (kdsP pl_P0) x) (h0 : plB0 (mkL x 0 (kdsP pl_P0)) = false) (h1 : plB1 (mkL x 0 (kdsP pl_P0)) = false) (hz : x.i 222 = 1) (hz2 : x.i 223 = 3) : ∀ b ∈ pl_cs30_1_3 x, b = true := by
  have w24 := Bool.and_eq_true_iff.1 (ho 24 _ rfl)
  have w25 := Bool.and_eq_true_iff.1 (ho 25 _ rfl)
  have w1 : (-128 : Int) ≤ x.i 24 := of_decide_eq_true w24.1
  have w2 : x.i 24 ≤ 127 := of_decide_eq_true w24.2
  have w3 : (-128 : Int) ≤ x.i 25 := of_decide_eq_true w25.1
  have w4 : x.i 25 ≤ 127 := of_decide_eq_true w25.2
  have b := plIn x h1
  unfold pl_cs30_1_3
  exact (allC (notT (notF (andT (condT (decide_eq_true (by first | omega | (unfold isub; omega))) rfl) (decide_eq_true (by first | omega | (unfold isub; omega)))))) (allC (notT (notF (notBF ((show (_ : Bool) = plB0 (normL (litL (litL (mkL x 0 (kdsP pl_P0)) 222 1) 223 3)) from by kernel_rfl).trans ((congrArg plB0 (litL_mk2 (litL_mk hz) hz2)).trans h0))))) allN))

theorem pl_f30_1_3 (x : Vars) : (funH Try.prog G26 noLT true 1000 30 (argsP pl_P0 0 (litL (litL (mkL x 0 (kdsP pl_P0)) 222 1) 223 3)) (memP pl_P0 (litL (litL (mkL x 0 (kdsP pl_P0)) 222 1) 223 3)) [false, false]).map (fun r => (normR r.1, untupR r.1 && r.1.flat, r.2)) = some (pl_v1_3 x, true, pl_cs30_1_3 x) := by kernel_rfl


noncomputable def pl_cs30_1_4 (x : Vars) : List Bool := [(!(!((bif (decide (1 < (x.i 24))) then true else false) && (decide (4 < (x.i 25)))))), (!(!(decide (((pl_E0_a0 x).i 0) = 0))))]

set_option maxRecDepth 100000 in
theorem pl_c30_1_4 (x : Vars) (ho : OkV (kdsP pl_P0) x) (h0 : plB0 (mkL x 0 (kdsP pl_P0)) = false) (h1 : plB1 (mkL x 0 (kdsP pl_P0)) = false) (hz : x.i 222 = 1) (hz2 : x.i 223 = 4) : ∀ b ∈ pl_cs30_1_4 x, b = true := by
  have w24 := Bool.and_eq_true_iff.1 (ho 24 _ rfl)
  have w25 := Bool.and_eq_true_iff.1 (ho 25 _ rfl)
  have w1 : (-128 : Int) ≤ x.i 24 := of_decide_eq_true w24.1
  have w2 : x.i 24 ≤ 127 := of_decide_eq_true w24.2
  have w3 : (-128 : Int) ≤ x.i 25 := of_decide_eq_true w25.1
  have w4 : x.i 25 ≤ 127 := of_decide_eq_true w25.2
  have b := plIn x h1
  unfold pl_cs30_1_4
  exact (allC (notT (notF (andT (condT (decide_eq_true (by first | omega | (unfold isub; omega))) rfl) (decide_eq_true (by first | omega | (unfold isub; omega)))))) (allC (notT (notF (notBF ((show (_ : Bool) = plB0 (normL (litL (litL (mkL x 0 (kdsP pl_P0)) 222 1) 223 4)) from by kernel_rfl).trans ((congrArg plB0 (litL_mk2 (litL_mk hz) hz2)).trans h0))))) allN))

theorem pl_f30_1_4 (x : Vars) : (funH Try.prog G26 noLT true 1000 30 (argsP pl_P0 0 (litL (litL (mkL x 0 (kdsP pl_P0)) 222 1) 223 4)) (memP pl_P0 (litL (litL (mkL x 0 (kdsP pl_P0)) 222 1) 223 4)) [false, false]).map (fun r => (normR r.1, untupR r.1 && r.1.flat, r.2)) = some (pl_v1_4 x, true, pl_cs30_1_4 x) := by kernel_rfl


noncomputable def pl_cs30_1_5 (x : Vars) : List Bool := [(!(!((bif (decide (1 < (x.i 24))) then true else false) && (decide (5 < (x.i 25)))))), (!(!(decide (((pl_E0_a0 x).i 0) = 0))))]

set_option maxRecDepth 100000 in
theorem pl_c30_1_5 (x : Vars) (ho : OkV (kdsP pl_P0) x) (h0 : plB0 (mkL x 0 (kdsP pl_P0)) = false) (h1 : plB1 (mkL x 0 (kdsP pl_P0)) = false) (hz : x.i 222 = 1) (hz2 : x.i 223 = 5) : ∀ b ∈ pl_cs30_1_5 x, b = true := by
  have w24 := Bool.and_eq_true_iff.1 (ho 24 _ rfl)
  have w25 := Bool.and_eq_true_iff.1 (ho 25 _ rfl)
  have w1 : (-128 : Int) ≤ x.i 24 := of_decide_eq_true w24.1
  have w2 : x.i 24 ≤ 127 := of_decide_eq_true w24.2
  have w3 : (-128 : Int) ≤ x.i 25 := of_decide_eq_true w25.1
  have w4 : x.i 25 ≤ 127 := of_decide_eq_true w25.2
  have b := plIn x h1
  unfold pl_cs30_1_5
  exact (allC (notT (notF (andT (condT (decide_eq_true (by first | omega | (unfold isub; omega))) rfl) (decide_eq_true (by first | omega | (unfold isub; omega)))))) (allC (notT (notF (notBF ((show (_ : Bool) = plB0 (normL (litL (litL (mkL x 0 (kdsP pl_P0)) 222 1) 223 5)) from by kernel_rfl).trans ((congrArg plB0 (litL_mk2 (litL_mk hz) hz2)).trans h0))))) allN))

theorem pl_f30_1_5 (x : Vars) : (funH Try.prog G26 noLT true 1000 30 (argsP pl_P0 0 (litL (litL (mkL x 0 (kdsP pl_P0)) 222 1) 223 5)) (memP pl_P0 (litL (litL (mkL x 0 (kdsP pl_P0)) 222 1) 223 5)) [false, false]).map (fun r => (normR r.1, untupR r.1 && r.1.flat, r.2)) = some (pl_v1_5 x, true, pl_cs30_1_5 x) := by kernel_rfl


noncomputable def pl_cs30_1_6 (x : Vars) : List Bool := [(!(!((bif (decide (1 < (x.i 24))) then true else false) && (decide (6 < (x.i 25)))))), (!(!(decide (((pl_E0_a0 x).i 0) = 0))))]

set_option maxRecDepth 100000 in
theorem pl_c30_1_6 (x : Vars) (ho : OkV (kdsP pl_P0) x) (h0 : plB0 (mkL x 0 (kdsP pl_P0)) = false) (h1 : plB1 (mkL x 0 (kdsP pl_P0)) = false) (hz : x.i 222 = 1) (hz2 : x.i 223 = 6) : ∀ b ∈ pl_cs30_1_6 x, b = true := by
  have w24 := Bool.and_eq_true_iff.1 (ho 24 _ rfl)
  have w25 := Bool.and_eq_true_iff.1 (ho 25 _ rfl)
  have w1 : (-128 : Int) ≤ x.i 24 := of_decide_eq_true w24.1
  have w2 : x.i 24 ≤ 127 := of_decide_eq_true w24.2
  have w3 : (-128 : Int) ≤ x.i 25 := of_decide_eq_true w25.1
  have w4 : x.i 25 ≤ 127 := of_decide_eq_true w25.2
  have b := plIn x h1
  unfold pl_cs30_1_6
  exact (allC (notT (notF (andT (condT (decide_eq_true (by first | omega | (unfold isub; omega))) rfl) (decide_eq_true (by first | omega | (unfold isub; omega)))))) (allC (notT (notF (notBF ((show (_ : Bool) = plB0 (normL (litL (litL (mkL x 0 (kdsP pl_P0)) 222 1) 223 6)) from by kernel_rfl).trans ((congrArg plB0 (litL_mk2 (litL_mk hz) hz2)).trans h0))))) allN))

theorem pl_f30_1_6 (x : Vars) : (funH Try.prog G26 noLT true 1000 30 (argsP pl_P0 0 (litL (litL (mkL x 0 (kdsP pl_P0)) 222 1) 223 6)) (memP pl_P0 (litL (litL (mkL x 0 (kdsP pl_P0)) 222 1) 223 6)) [false, false]).map (fun r => (normR r.1, untupR r.1 && r.1.flat, r.2)) = some (pl_v1_6 x, true, pl_cs30_1_6 x) := by kernel_rfl


noncomputable def pl_cs30_1_7 (x : Vars) : List Bool := [(!(!((bif (decide (1 < (x.i 24))) then true else false) && (decide (7 < (x.i 25)))))), (!(!(decide (((pl_E0_a0 x).i 0) = 0))))]

set_option maxRecDepth 100000 in
theorem pl_c30_1_7 (x : Vars) (ho : OkV (kdsP pl_P0) x) (h0 : plB0 (mkL x 0 (kdsP pl_P0)) = false) (h1 : plB1 (mkL x 0 (kdsP pl_P0)) = false) (hz : x.i 222 = 1) (hz2 : x.i 223 = 7) : ∀ b ∈ pl_cs30_1_7 x, b = true := by
  have w24 := Bool.and_eq_true_iff.1 (ho 24 _ rfl)
  have w25 := Bool.and_eq_true_iff.1 (ho 25 _ rfl)
  have w1 : (-128 : Int) ≤ x.i 24 := of_decide_eq_true w24.1
  have w2 : x.i 24 ≤ 127 := of_decide_eq_true w24.2
  have w3 : (-128 : Int) ≤ x.i 25 := of_decide_eq_true w25.1
  have w4 : x.i 25 ≤ 127 := of_decide_eq_true w25.2
  have b := plIn x h1
  unfold pl_cs30_1_7
  exact (allC (notT (notF (andT (condT (decide_eq_true (by first | omega | (unfold isub; omega))) rfl) (decide_eq_true (by first | omega | (unfold isub; omega)))))) (allC (notT (notF (notBF ((show (_ : Bool) = plB0 (normL (litL (litL (mkL x 0 (kdsP pl_P0)) 222 1) 223 7)) from by kernel_rfl).trans ((congrArg plB0 (litL_mk2 (litL_mk hz) hz2)).trans h0))))) allN))

theorem pl_f30_1_7 (x : Vars) : (funH Try.prog G26 noLT true 1000 30 (argsP pl_P0 0 (litL (litL (mkL x 0 (kdsP pl_P0)) 222 1) 223 7)) (memP pl_P0 (litL (litL (mkL x 0 (kdsP pl_P0)) 222 1) 223 7)) [false, false]).map (fun r => (normR r.1, untupR r.1 && r.1.flat, r.2)) = some (pl_v1_7 x, true, pl_cs30_1_7 x) := by kernel_rfl


noncomputable def pl_cs30_2_0 (x : Vars) : List Bool := [(!(!((bif (decide (2 < (x.i 24))) then true else false) && (decide (0 < (x.i 25)))))), (!(!(decide (((pl_E0_a0 x).i 0) = 0))))]

set_option maxRecDepth 100000 in
theorem pl_c30_2_0 (x : Vars) (ho : OkV (kdsP pl_P0) x) (h0 : plB0 (mkL x 0 (kdsP pl_P0)) = false) (h1 : plB1 (mkL x 0 (kdsP pl_P0)) = false) (hz : x.i 222 = 2) (hz2 : x.i 223 = 0) : ∀ b ∈ pl_cs30_2_0 x, b = true := by
  have w24 := Bool.and_eq_true_iff.1 (ho 24 _ rfl)
  have w25 := Bool.and_eq_true_iff.1 (ho 25 _ rfl)
  have w1 : (-128 : Int) ≤ x.i 24 := of_decide_eq_true w24.1
  have w2 : x.i 24 ≤ 127 := of_decide_eq_true w24.2
  have w3 : (-128 : Int) ≤ x.i 25 := of_decide_eq_true w25.1
  have w4 : x.i 25 ≤ 127 := of_decide_eq_true w25.2
  have b := plIn x h1
  unfold pl_cs30_2_0
  exact (allC (notT (notF (andT (condT (decide_eq_true (by first | omega | (unfold isub; omega))) rfl) (decide_eq_true (by first | omega | (unfold isub; omega)))))) (allC (notT (notF (notBF ((show (_ : Bool) = plB0 (normL (litL (litL (mkL x 0 (kdsP pl_P0)) 222 2) 223 0)) from by kernel_rfl).trans ((congrArg plB0 (litL_mk2 (litL_mk hz) hz2)).trans h0))))) allN))

theorem pl_f30_2_0 (x : Vars) : (funH Try.prog G26 noLT true 1000 30 (argsP pl_P0 0 (litL (litL (mkL x 0 (kdsP pl_P0)) 222 2) 223 0)) (memP pl_P0 (litL (litL (mkL x 0 (kdsP pl_P0)) 222 2) 223 0)) [false, false]).map (fun r => (normR r.1, untupR r.1 && r.1.flat, r.2)) = some (pl_v2_0 x, true, pl_cs30_2_0 x) := by kernel_rfl


noncomputable def pl_cs30_2_1 (x : Vars) : List Bool := [(!(!((bif (decide (2 < (x.i 24))) then true else false) && (decide (1 < (x.i 25)))))), (!(!(decide (((pl_E0_a0 x).i 0) = 0))))]

set_option maxRecDepth 100000 in
theorem pl_c30_2_1 (x : Vars) (ho : OkV (kdsP pl_P0) x) (h0 : plB0 (mkL x 0 (kdsP pl_P0)) = false) (h1 : plB1 (mkL x 0 (kdsP pl_P0)) = false) (hz : x.i 222 = 2) (hz2 : x.i 223 = 1) : ∀ b ∈ pl_cs30_2_1 x, b = true := by
  have w24 := Bool.and_eq_true_iff.1 (ho 24 _ rfl)
  have w25 := Bool.and_eq_true_iff.1 (ho 25 _ rfl)
  have w1 : (-128 : Int) ≤ x.i 24 := of_decide_eq_true w24.1
  have w2 : x.i 24 ≤ 127 := of_decide_eq_true w24.2
  have w3 : (-128 : Int) ≤ x.i 25 := of_decide_eq_true w25.1
  have w4 : x.i 25 ≤ 127 := of_decide_eq_true w25.2
  have b := plIn x h1
  unfold pl_cs30_2_1
  exact (allC (notT (notF (andT (condT (decide_eq_true (by first | omega | (unfold isub; omega))) rfl) (decide_eq_true (by first | omega | (unfold isub; omega)))))) (allC (notT (notF (notBF ((show (_ : Bool) = plB0 (normL (litL (litL (mkL x 0 (kdsP pl_P0)) 222 2) 223 1)) from by kernel_rfl).trans ((congrArg plB0 (litL_mk2 (litL_mk hz) hz2)).trans h0))))) allN))

theorem pl_f30_2_1 (x : Vars) : (funH Try.prog G26 noLT true 1000 30 (argsP pl_P0 0 (litL (litL (mkL x 0 (kdsP pl_P0)) 222 2) 223 1)) (memP pl_P0 (litL (litL (mkL x 0 (kdsP pl_P0)) 222 2) 223 1)) [false, false]).map (fun r => (normR r.1, untupR r.1 && r.1.flat, r.2)) = some (pl_v2_1 x, true, pl_cs30_2_1 x) := by kernel_rfl


noncomputable def pl_cs30_2_2 (x : Vars) : List Bool := [(!(!((bif (decide (2 < (x.i 24))) then true else false) && (decide (2 < (x.i 25)))))), (!(!(decide (((pl_E0_a0 x).i 0) = 0))))]

set_option maxRecDepth 100000 in
theorem pl_c30_2_2 (x : Vars) (ho : OkV (kdsP pl_P0) x) (h0 : plB0 (mkL x 0 (kdsP pl_P0)) = false) (h1 : plB1 (mkL x 0 (kdsP pl_P0)) = false) (hz : x.i 222 = 2) (hz2 : x.i 223 = 2) : ∀ b ∈ pl_cs30_2_2 x, b = true := by
  have w24 := Bool.and_eq_true_iff.1 (ho 24 _ rfl)
  have w25 := Bool.and_eq_true_iff.1 (ho 25 _ rfl)
  have w1 : (-128 : Int) ≤ x.i 24 := of_decide_eq_true w24.1
  have w2 : x.i 24 ≤ 127 := of_decide_eq_true w24.2
  have w3 : (-128 : Int) ≤ x.i 25 := of_decide_eq_true w25.1
  have w4 : x.i 25 ≤ 127 := of_decide_eq_true w25.2
  have b := plIn x h1
  unfold pl_cs30_2_2
  exact (allC (notT (notF (andT (condT (decide_eq_true (by first | omega | (unfold isub; omega))) rfl) (decide_eq_true (by first | omega | (unfold isub; omega)))))) (allC (notT (notF (notBF ((show (_ : Bool) = plB0 (normL (litL (litL (mkL x 0 (kdsP pl_P0)) 222 2) 223 2)) from by kernel_rfl).trans ((congrArg plB0 (litL_mk2 (litL_mk hz) hz2)).trans h0))))) allN))

theorem pl_f30_2_2 (x : Vars) : (funH Try.prog G26 noLT true 1000 30 (argsP pl_P0 0 (litL (litL (mkL x 0 (kdsP pl_P0)) 222 2) 223 2)) (memP pl_P0 (litL (litL (mkL x 0 (kdsP pl_P0)) 222 2) 223 2)) [false, false]).map (fun r => (normR r.1, untupR r.1 && r.1.flat, r.2)) = some (pl_v2_2 x, true, pl_cs30_2_2 x) := by kernel_rfl


noncomputable def pl_cs30_2_3 (x : Vars) : List Bool := [(!(!((bif (decide (2 < (x.i 24))) then true else false) && (decide (3 < (x.i 25)))))), (!(!(decide (((pl_E0_a0 x).i 0) = 0))))]

set_option maxRecDepth 100000 in
theorem pl_c30_2_3 (x : Vars) (ho : OkV (kdsP pl_P0) x) (h0 : plB0 (mkL x 0 (kdsP pl_P0)) = false) (h1 : plB1 (mkL x 0 (kdsP pl_P0)) = false) (hz : x.i 222 = 2) (hz2 : x.i 223 = 3) : ∀ b ∈ pl_cs30_2_3 x, b = true := by
  have w24 := Bool.and_eq_true_iff.1 (ho 24 _ rfl)
  have w25 := Bool.and_eq_true_iff.1 (ho 25 _ rfl)
  have w1 : (-128 : Int) ≤ x.i 24 := of_decide_eq_true w24.1
  have w2 : x.i 24 ≤ 127 := of_decide_eq_true w24.2
  have w3 : (-128 : Int) ≤ x.i 25 := of_decide_eq_true w25.1
  have w4 : x.i 25 ≤ 127 := of_decide_eq_true w25.2
  have b := plIn x h1
  unfold pl_cs30_2_3
  exact (allC (notT (notF (andT (condT (decide_eq_true (by first | omega | (unfold isub; omega))) rfl) (decide_eq_true (by first | omega | (unfold isub; omega)))))) (allC (notT (notF (notBF ((show (_ : Bool) = plB0 (normL (litL (litL (mkL x 0 (kdsP pl_P0)) 222 2) 223 3)) from by kernel_rfl).trans ((congrArg plB0 (litL_mk2 (litL_mk hz) hz2)).trans h0))))) allN))

theorem pl_f30_2_3 (x : Vars) : (funH Try.prog G26 noLT true 1000 30 (argsP pl_P0 0 (litL (litL (mkL x 0 (kdsP pl_P0)) 222 2) 223 3)) (memP pl_P0 (litL (litL (mkL x 0 (kdsP pl_P0)) 222 2) 223 3)) [false, false]).map (fun r => (normR r.1, untupR r.1 && r.1.flat, r.2)) = some (pl_v2_3 x, true, pl_cs30_2_3 x) := by kernel_rfl


noncomputable def pl_cs30_2_4 (x : Vars) : List Bool := [(!(!((bif (decide (2 < (x.i 24))) then true else false) && (decide (4 < (x.i 25)))))), (!(!(decide (((pl_E0_a0 x).i 0) = 0))))]

set_option maxRecDepth 100000 in
theorem pl_c30_2_4 (x : Vars) (ho : OkV (kdsP pl_P0) x) (h0 : plB0 (mkL x 0 (kdsP pl_P0)) = false) (h1 : plB1 (mkL x 0 (kdsP pl_P0)) = false) (hz : x.i 222 = 2) (hz2 : x.i 223 = 4) : ∀ b ∈ pl_cs30_2_4 x, b = true := by
  have w24 := Bool.and_eq_true_iff.1 (ho 24 _ rfl)
  have w25 := Bool.and_eq_true_iff.1 (ho 25 _ rfl)
  have w1 : (-128 : Int) ≤ x.i 24 := of_decide_eq_true w24.1
  have w2 : x.i 24 ≤ 127 := of_decide_eq_true w24.2
  have w3 : (-128 : Int) ≤ x.i 25 := of_decide_eq_true w25.1
  have w4 : x.i 25 ≤ 127 := of_decide_eq_true w25.2
  have b := plIn x h1
  unfold pl_cs30_2_4
  exact (allC (notT (notF (andT (condT (decide_eq_true (by first | omega | (unfold isub; omega))) rfl) (decide_eq_true (by first | omega | (unfold isub; omega)))))) (allC (notT (notF (notBF ((show (_ : Bool) = plB0 (normL (litL (litL (mkL x 0 (kdsP pl_P0)) 222 2) 223 4)) from by kernel_rfl).trans ((congrArg plB0 (litL_mk2 (litL_mk hz) hz2)).trans h0))))) allN))

theorem pl_f30_2_4 (x : Vars) : (funH Try.prog G26 noLT true 1000 30 (argsP pl_P0 0 (litL (litL (mkL x 0 (kdsP pl_P0)) 222 2) 223 4)) (memP pl_P0 (litL (litL (mkL x 0 (kdsP pl_P0)) 222 2) 223 4)) [false, false]).map (fun r => (normR r.1, untupR r.1 && r.1.flat, r.2)) = some (pl_v2_4 x, true, pl_cs30_2_4 x) := by kernel_rfl


noncomputable def pl_cs30_2_5 (x : Vars) : List Bool := [(!(!((bif (decide (2 < (x.i 24))) then true else false) && (decide (5 < (x.i 25)))))), (!(!(decide (((pl_E0_a0 x).i 0) = 0))))]

set_option maxRecDepth 100000 in
theorem pl_c30_2_5 (x : Vars) (ho : OkV (kdsP pl_P0) x) (h0 : plB0 (mkL x 0 (kdsP pl_P0)) = false) (h1 : plB1 (mkL x 0 (kdsP pl_P0)) = false) (hz : x.i 222 = 2) (hz2 : x.i 223 = 5) : ∀ b ∈ pl_cs30_2_5 x, b = true := by
  have w24 := Bool.and_eq_true_iff.1 (ho 24 _ rfl)
  have w25 := Bool.and_eq_true_iff.1 (ho 25 _ rfl)
  have w1 : (-128 : Int) ≤ x.i 24 := of_decide_eq_true w24.1
  have w2 : x.i 24 ≤ 127 := of_decide_eq_true w24.2
  have w3 : (-128 : Int) ≤ x.i 25 := of_decide_eq_true w25.1
  have w4 : x.i 25 ≤ 127 := of_decide_eq_true w25.2
  have b := plIn x h1
  unfold pl_cs30_2_5
  exact (allC (notT (notF (andT (condT (decide_eq_true (by first | omega | (unfold isub; omega))) rfl) (decide_eq_true (by first | omega | (unfold isub; omega)))))) (allC (notT (notF (notBF ((show (_ : Bool) = plB0 (normL (litL (litL (mkL x 0 (kdsP pl_P0)) 222 2) 223 5)) from by kernel_rfl).trans ((congrArg plB0 (litL_mk2 (litL_mk hz) hz2)).trans h0))))) allN))

theorem pl_f30_2_5 (x : Vars) : (funH Try.prog G26 noLT true 1000 30 (argsP pl_P0 0 (litL (litL (mkL x 0 (kdsP pl_P0)) 222 2) 223 5)) (memP pl_P0 (litL (litL (mkL x 0 (kdsP pl_P0)) 222 2) 223 5)) [false, false]).map (fun r => (normR r.1, untupR r.1 && r.1.flat, r.2)) = some (pl_v2_5 x, true, pl_cs30_2_5 x) := by kernel_rfl


noncomputable def pl_cs30_2_6 (x : Vars) : List Bool := [(!(!((bif (decide (2 < (x.i 24))) then true else false) && (decide (6 < (x.i 25)))))), (!(!(decide (((pl_E0_a0 x).i 0) = 0))))]

set_option maxRecDepth 100000 in
theorem pl_c30_2_6 (x : Vars) (ho : OkV (kdsP pl_P0) x) (h0 : plB0 (mkL x 0 (kdsP pl_P0)) = false) (h1 : plB1 (mkL x 0 (kdsP pl_P0)) = false) (hz : x.i 222 = 2) (hz2 : x.i 223 = 6) : ∀ b ∈ pl_cs30_2_6 x, b = true := by
  have w24 := Bool.and_eq_true_iff.1 (ho 24 _ rfl)
  have w25 := Bool.and_eq_true_iff.1 (ho 25 _ rfl)
  have w1 : (-128 : Int) ≤ x.i 24 := of_decide_eq_true w24.1
  have w2 : x.i 24 ≤ 127 := of_decide_eq_true w24.2
  have w3 : (-128 : Int) ≤ x.i 25 := of_decide_eq_true w25.1
  have w4 : x.i 25 ≤ 127 := of_decide_eq_true w25.2
  have b := plIn x h1
  unfold pl_cs30_2_6
  exact (allC (notT (notF (andT (condT (decide_eq_true (by first | omega | (unfold isub; omega))) rfl) (decide_eq_true (by first | omega | (unfold isub; omega)))))) (allC (notT (notF (notBF ((show (_ : Bool) = plB0 (normL (litL (litL (mkL x 0 (kdsP pl_P0)) 222 2) 223 6)) from by kernel_rfl).trans ((congrArg plB0 (litL_mk2 (litL_mk hz) hz2)).trans h0))))) allN))

theorem pl_f30_2_6 (x : Vars) : (funH Try.prog G26 noLT true 1000 30 (argsP pl_P0 0 (litL (litL (mkL x 0 (kdsP pl_P0)) 222 2) 223 6)) (memP pl_P0 (litL (litL (mkL x 0 (kdsP pl_P0)) 222 2) 223 6)) [false, false]).map (fun r => (normR r.1, untupR r.1 && r.1.flat, r.2)) = some (pl_v2_6 x, true, pl_cs30_2_6 x) := by kernel_rfl


noncomputable def pl_cs30_2_7 (x : Vars) : List Bool := [(!(!((bif (decide (2 < (x.i 24))) then true else false) && (decide (7 < (x.i 25)))))), (!(!(decide (((pl_E0_a0 x).i 0) = 0))))]

set_option maxRecDepth 100000 in
theorem pl_c30_2_7 (x : Vars) (ho : OkV (kdsP pl_P0) x) (h0 : plB0 (mkL x 0 (kdsP pl_P0)) = false) (h1 : plB1 (mkL x 0 (kdsP pl_P0)) = false) (hz : x.i 222 = 2) (hz2 : x.i 223 = 7) : ∀ b ∈ pl_cs30_2_7 x, b = true := by
  have w24 := Bool.and_eq_true_iff.1 (ho 24 _ rfl)
  have w25 := Bool.and_eq_true_iff.1 (ho 25 _ rfl)
  have w1 : (-128 : Int) ≤ x.i 24 := of_decide_eq_true w24.1
  have w2 : x.i 24 ≤ 127 := of_decide_eq_true w24.2
  have w3 : (-128 : Int) ≤ x.i 25 := of_decide_eq_true w25.1
  have w4 : x.i 25 ≤ 127 := of_decide_eq_true w25.2
  have b := plIn x h1
  unfold pl_cs30_2_7
  exact (allC (notT (notF (andT (condT (decide_eq_true (by first | omega | (unfold isub; omega))) rfl) (decide_eq_true (by first | omega | (unfold isub; omega)))))) (allC (notT (notF (notBF ((show (_ : Bool) = plB0 (normL (litL (litL (mkL x 0 (kdsP pl_P0)) 222 2) 223 7)) from by kernel_rfl).trans ((congrArg plB0 (litL_mk2 (litL_mk hz) hz2)).trans h0))))) allN))

theorem pl_f30_2_7 (x : Vars) : (funH Try.prog G26 noLT true 1000 30 (argsP pl_P0 0 (litL (litL (mkL x 0 (kdsP pl_P0)) 222 2) 223 7)) (memP pl_P0 (litL (litL (mkL x 0 (kdsP pl_P0)) 222 2) 223 7)) [false, false]).map (fun r => (normR r.1, untupR r.1 && r.1.flat, r.2)) = some (pl_v2_7 x, true, pl_cs30_2_7 x) := by kernel_rfl


noncomputable def pl_cs30_3_0 (x : Vars) : List Bool := [(!(!((bif (decide (3 < (x.i 24))) then true else false) && (decide (0 < (x.i 25)))))), (!(!(decide (((pl_E0_a0 x).i 0) = 0))))]

set_option maxRecDepth 100000 in
theorem pl_c30_3_0 (x : Vars) (ho : OkV (kdsP pl_P0) x) (h0 : plB0 (mkL x 0 (kdsP pl_P0)) = false) (h1 : plB1 (mkL x 0 (kdsP pl_P0)) = false) (hz : x.i 222 = 3) (hz2 : x.i 223 = 0) : ∀ b ∈ pl_cs30_3_0 x, b = true := by
  have w24 := Bool.and_eq_true_iff.1 (ho 24 _ rfl)
  have w25 := Bool.and_eq_true_iff.1 (ho 25 _ rfl)
  have w1 : (-128 : Int) ≤ x.i 24 := of_decide_eq_true w24.1
  have w2 : x.i 24 ≤ 127 := of_decide_eq_true w24.2
  have w3 : (-128 : Int) ≤ x.i 25 := of_decide_eq_true w25.1
  have w4 : x.i 25 ≤ 127 := of_decide_eq_true w25.2
  have b := plIn x h1
  unfold pl_cs30_3_0
  exact (allC (notT (notF (andT (condT (decide_eq_true (by first | omega | (unfold isub; omega))) rfl) (decide_eq_true (by first | omega | (unfold isub; omega)))))) (allC (notT (notF (notBF ((show (_ : Bool) = plB0 (normL (litL (litL (mkL x 0 (kdsP pl_P0)) 222 3) 223 0)) from by kernel_rfl).trans ((congrArg plB0 (litL_mk2 (litL_mk hz) hz2)).trans h0))))) allN))

theorem pl_f30_3_0 (x : Vars) : (funH Try.prog G26 noLT true 1000 30 (argsP pl_P0 0 (litL (litL (mkL x 0 (kdsP pl_P0)) 222 3) 223 0)) (memP pl_P0 (litL (litL (mkL x 0 (kdsP pl_P0)) 222 3) 223 0)) [false, false]).map (fun r => (normR r.1, untupR r.1 && r.1.flat, r.2)) = some (pl_v3_0 x, true, pl_cs30_3_0 x) := by kernel_rfl


noncomputable def pl_cs30_3_1 (x : Vars) : List Bool := [(!(!((bif (decide (3 < (x.i 24))) then true else false) && (decide (1 < (x.i 25)))))), (!(!(decide (((pl_E0_a0 x).i 0) = 0))))]

set_option maxRecDepth 100000 in
theorem pl_c30_3_1 (x : Vars) (ho : OkV (kdsP pl_P0) x) (h0 : plB0 (mkL x 0 (kdsP pl_P0)) = false) (h1 : plB1 (mkL x 0 (kdsP pl_P0)) = false) (hz : x.i 222 = 3) (hz2 : x.i 223 = 1) : ∀ b ∈ pl_cs30_3_1 x, b = true := by
  have w24 := Bool.and_eq_true_iff.1 (ho 24 _ rfl)
  have w25 := Bool.and_eq_true_iff.1 (ho 25 _ rfl)
  have w1 : (-128 : Int) ≤ x.i 24 := of_decide_eq_true w24.1
  have w2 : x.i 24 ≤ 127 := of_decide_eq_true w24.2
  have w3 : (-128 : Int) ≤ x.i 25 := of_decide_eq_true w25.1
  have w4 : x.i 25 ≤ 127 := of_decide_eq_true w25.2
  have b := plIn x h1
  unfold pl_cs30_3_1
  exact (allC (notT (notF (andT (condT (decide_eq_true (by first | omega | (unfold isub; omega))) rfl) (decide_eq_true (by first | omega | (unfold isub; omega)))))) (allC (notT (notF (notBF ((show (_ : Bool) = plB0 (normL (litL (litL (mkL x 0 (kdsP pl_P0)) 222 3) 223 1)) from by kernel_rfl).trans ((congrArg plB0 (litL_mk2 (litL_mk hz) hz2)).trans h0))))) allN))

theorem pl_f30_3_1 (x : Vars) : (funH Try.prog G26 noLT true 1000 30 (argsP pl_P0 0 (litL (litL (mkL x 0 (kdsP pl_P0)) 222 3) 223 1)) (memP pl_P0 (litL (litL (mkL x 0 (kdsP pl_P0)) 222 3) 223 1)) [false, false]).map (fun r => (normR r.1, untupR r.1 && r.1.flat, r.2)) = some (pl_v3_1 x, true, pl_cs30_3_1 x) := by kernel_rfl


noncomputable def pl_cs30_3_2 (x : Vars) : List Bool := [(!(!((bif (decide (3 < (x.i 24))) then true else false) && (decide (2 < (x.i 25)))))), (!(!(decide (((pl_E0_a0 x).i 0) = 0))))]

set_option maxRecDepth 100000 in
theorem pl_c30_3_2 (x : Vars) (ho : OkV (kdsP pl_P0) x) (h0 : plB0 (mkL x 0 (kdsP pl_P0)) = false) (h1 : plB1 (mkL x 0 (kdsP pl_P0)) = false) (hz : x.i 222 = 3) (hz2 : x.i 223 = 2) : ∀ b ∈ pl_cs30_3_2 x, b = true := by
  have w24 := Bool.and_eq_true_iff.1 (ho 24 _ rfl)
  have w25 := Bool.and_eq_true_iff.1 (ho 25 _ rfl)
  have w1 : (-128 : Int) ≤ x.i 24 := of_decide_eq_true w24.1
  have w2 : x.i 24 ≤ 127 := of_decide_eq_true w24.2
  have w3 : (-128 : Int) ≤ x.i 25 := of_decide_eq_true w25.1
  have w4 : x.i 25 ≤ 127 := of_decide_eq_true w25.2
  have b := plIn x h1
  unfold pl_cs30_3_2
  exact (allC (notT (notF (andT (condT (decide_eq_true (by first | omega | (unfold isub; omega))) rfl) (decide_eq_true (by first | omega | (unfold isub; omega)))))) (allC (notT (notF (notBF ((show (_ : Bool) = plB0 (normL (litL (litL (mkL x 0 (kdsP pl_P0)) 222 3) 223 2)) from by kernel_rfl).trans ((congrArg plB0 (litL_mk2 (litL_mk hz) hz2)).trans h0))))) allN))

theorem pl_f30_3_2 (x : Vars) : (funH Try.prog G26 noLT true 1000 30 (argsP pl_P0 0 (litL (litL (mkL x 0 (kdsP pl_P0)) 222 3) 223 2)) (memP pl_P0 (litL (litL (mkL x 0 (kdsP pl_P0)) 222 3) 223 2)) [false, false]).map (fun r => (normR r.1, untupR r.1 && r.1.flat, r.2)) = some (pl_v3_2 x, true, pl_cs30_3_2 x) := by kernel_rfl


noncomputable def pl_cs30_3_3 (x : Vars) : List Bool := [(!(!((bif (decide (3 < (x.i 24))) then true else false) && (decide (3 < (x.i 25)))))), (!(!(decide (((pl_E0_a0 x).i 0) = 0))))]

set_option maxRecDepth 100000 in
theorem pl_c30_3_3 (x : Vars) (ho : OkV (kdsP pl_P0) x) (h0 : plB0 (mkL x 0 (kdsP pl_P0)) = false) (h1 : plB1 (mkL x 0 (kdsP pl_P0)) = false) (hz : x.i 222 = 3) (hz2 : x.i 223 = 3) : ∀ b ∈ pl_cs30_3_3 x, b = true := by
  have w24 := Bool.and_eq_true_iff.1 (ho 24 _ rfl)
  have w25 := Bool.and_eq_true_iff.1 (ho 25 _ rfl)
  have w1 : (-128 : Int) ≤ x.i 24 := of_decide_eq_true w24.1
  have w2 : x.i 24 ≤ 127 := of_decide_eq_true w24.2
  have w3 : (-128 : Int) ≤ x.i 25 := of_decide_eq_true w25.1
  have w4 : x.i 25 ≤ 127 := of_decide_eq_true w25.2
  have b := plIn x h1
  unfold pl_cs30_3_3
  exact (allC (notT (notF (andT (condT (decide_eq_true (by first | omega | (unfold isub; omega))) rfl) (decide_eq_true (by first | omega | (unfold isub; omega)))))) (allC (notT (notF (notBF ((show (_ : Bool) = plB0 (normL (litL (litL (mkL x 0 (kdsP pl_P0)) 222 3) 223 3)) from by kernel_rfl).trans ((congrArg plB0 (litL_mk2 (litL_mk hz) hz2)).trans h0))))) allN))

theorem pl_f30_3_3 (x : Vars) : (funH Try.prog G26 noLT true 1000 30 (argsP pl_P0 0 (litL (litL (mkL x 0 (kdsP pl_P0)) 222 3) 223 3)) (memP pl_P0 (litL (litL (mkL x 0 (kdsP pl_P0)) 222 3) 223 3)) [false, false]).map (fun r => (normR r.1, untupR r.1 && r.1.flat, r.2)) = some (pl_v3_3 x, true, pl_cs30_3_3 x) := by kernel_rfl


noncomputable def pl_cs30_3_4 (x : Vars) : List Bool := [(!(!((bif (decide (3 < (x.i 24))) then true else false) && (decide (4 < (x.i 25)))))), (!(!(decide (((pl_E0_a0 x).i 0) = 0))))]

set_option maxRecDepth 100000 in
theorem pl_c30_3_4 (x : Vars) (ho : OkV (kdsP pl_P0) x) (h0 : plB0 (mkL x 0 (kdsP pl_P0)) = false) (h1 : plB1 (mkL x 0 (kdsP pl_P0)) = false) (hz : x.i 222 = 3) (hz2 : x.i 223 = 4) : ∀ b ∈ pl_cs30_3_4 x, b = true := by
  have w24 := Bool.and_eq_true_iff.1 (ho 24 _ rfl)
  have w25 := Bool.and_eq_true_iff.1 (ho 25 _ rfl)
  have w1 : (-128 : Int) ≤ x.i 24 := of_decide_eq_true w24.1
  have w2 : x.i 24 ≤ 127 := of_decide_eq_true w24.2
  have w3 : (-128 : Int) ≤ x.i 25 := of_decide_eq_true w25.1
  have w4 : x.i 25 ≤ 127 := of_decide_eq_true w25.2
  have b := plIn x h1
  unfold pl_cs30_3_4
  exact (allC (notT (notF (andT (condT (decide_eq_true (by first | omega | (unfold isub; omega))) rfl) (decide_eq_true (by first | omega | (unfold isub; omega)))))) (allC (notT (notF (notBF ((show (_ : Bool) = plB0 (normL (litL (litL (mkL x 0 (kdsP pl_P0)) 222 3) 223 4)) from by kernel_rfl).trans ((congrArg plB0 (litL_mk2 (litL_mk hz) hz2)).trans h0))))) allN))

theorem pl_f30_3_4 (x : Vars) : (funH Try.prog G26 noLT true 1000 30 (argsP pl_P0 0 (litL (litL (mkL x 0 (kdsP pl_P0)) 222 3) 223 4)) (memP pl_P0 (litL (litL (mkL x 0 (kdsP pl_P0)) 222 3) 223 4)) [false, false]).map (fun r => (normR r.1, untupR r.1 && r.1.flat, r.2)) = some (pl_v3_4 x, true, pl_cs30_3_4 x) := by kernel_rfl


noncomputable def pl_cs30_3_5 (x : Vars) : List Bool := [(!(!((bif (decide (3 < (x.i 24))) then true else false) && (decide (5 < (x.i 25)))))), (!(!(decide (((pl_E0_a0 x).i 0) = 0))))]

set_option maxRecDepth 100000 in
theorem pl_c30_3_5 (x : Vars) (ho : OkV (kdsP pl_P0) x) (h0 : plB0 (mkL x 0 (kdsP pl_P0)) = false) (h1 : plB1 (mkL x 0 (kdsP pl_P0)) = false) (hz : x.i 222 = 3) (hz2 : x.i 223 = 5) : ∀ b ∈ pl_cs30_3_5 x, b = true := by
  have w24 := Bool.and_eq_true_iff.1 (ho 24 _ rfl)
  have w25 := Bool.and_eq_true_iff.1 (ho 25 _ rfl)
  have w1 : (-128 : Int) ≤ x.i 24 := of_decide_eq_true w24.1
  have w2 : x.i 24 ≤ 127 := of_decide_eq_true w24.2
  have w3 : (-128 : Int) ≤ x.i 25 := of_decide_eq_true w25.1
  have w4 : x.i 25 ≤ 127 := of_decide_eq_true w25.2
  have b := plIn x h1
  unfold pl_cs30_3_5
  exact (allC (notT (notF (andT (condT (decide_eq_true (by first | omega | (unfold isub; omega))) rfl) (decide_eq_true (by first | omega | (unfold isub; omega)))))) (allC (notT (notF (notBF ((show (_ : Bool) = plB0 (normL (litL (litL (mkL x 0 (kdsP pl_P0)) 222 3) 223 5)) from by kernel_rfl).trans ((congrArg plB0 (litL_mk2 (litL_mk hz) hz2)).trans h0))))) allN))

theorem pl_f30_3_5 (x : Vars) : (funH Try.prog G26 noLT true 1000 30 (argsP pl_P0 0 (litL (litL (mkL x 0 (kdsP pl_P0)) 222 3) 223 5)) (memP pl_P0 (litL (litL (mkL x 0 (kdsP pl_P0)) 222 3) 223 5)) [false, false]).map (fun r => (normR r.1, untupR r.1 && r.1.flat, r.2)) = some (pl_v3_5 x, true, pl_cs30_3_5 x) := by kernel_rfl


noncomputable def pl_cs30_3_6 (x : Vars) : List Bool := [(!(!((bif (decide (3 < (x.i 24))) then true else false) && (decide (6 < (x.i 25)))))), (!(!(decide (((pl_E0_a0 x).i 0) = 0))))]

set_option maxRecDepth 100000 in
theorem pl_c30_3_6 (x : Vars) (ho : OkV (kdsP pl_P0) x) (h0 : plB0 (mkL x 0 (kdsP pl_P0)) = false) (h1 : plB1 (mkL x 0 (kdsP pl_P0)) = false) (hz : x.i 222 = 3) (hz2 : x.i 223 = 6) : ∀ b ∈ pl_cs30_3_6 x, b = true := by
  have w24 := Bool.and_eq_true_iff.1 (ho 24 _ rfl)
  have w25 := Bool.and_eq_true_iff.1 (ho 25 _ rfl)
  have w1 : (-128 : Int) ≤ x.i 24 := of_decide_eq_true w24.1
  have w2 : x.i 24 ≤ 127 := of_decide_eq_true w24.2
  have w3 : (-128 : Int) ≤ x.i 25 := of_decide_eq_true w25.1
  have w4 : x.i 25 ≤ 127 := of_decide_eq_true w25.2
  have b := plIn x h1
  unfold pl_cs30_3_6
  exact (allC (notT (notF (andT (condT (decide_eq_true (by first | omega | (unfold isub; omega))) rfl) (decide_eq_true (by first | omega | (unfold isub; omega)))))) (allC (notT (notF (notBF ((show (_ : Bool) = plB0 (normL (litL (litL (mkL x 0 (kdsP pl_P0)) 222 3) 223 6)) from by kernel_rfl).trans ((congrArg plB0 (litL_mk2 (litL_mk hz) hz2)).trans h0))))) allN))

theorem pl_f30_3_6 (x : Vars) : (funH Try.prog G26 noLT true 1000 30 (argsP pl_P0 0 (litL (litL (mkL x 0 (kdsP pl_P0)) 222 3) 223 6)) (memP pl_P0 (litL (litL (mkL x 0 (kdsP pl_P0)) 222 3) 223 6)) [false, false]).map (fun r => (normR r.1, untupR r.1 && r.1.flat, r.2)) = some (pl_v3_6 x, true, pl_cs30_3_6 x) := by kernel_rfl


noncomputable def pl_cs30_3_7 (x : Vars) : List Bool := [(!(!((bif (decide (3 < (x.i 24))) then true else false) && (decide (7 < (x.i 25)))))), (!(!(decide (((pl_E0_a0 x).i 0) = 0))))]

set_option maxRecDepth 100000 in
theorem pl_c30_3_7 (x : Vars) (ho : OkV (kdsP pl_P0) x) (h0 : plB0 (mkL x 0 (kdsP pl_P0)) = false) (h1 : plB1 (mkL x 0 (kdsP pl_P0)) = false) (hz : x.i 222 = 3) (hz2 : x.i 223 = 7) : ∀ b ∈ pl_cs30_3_7 x, b = true := by
  have w24 := Bool.and_eq_true_iff.1 (ho 24 _ rfl)
  have w25 := Bool.and_eq_true_iff.1 (ho 25 _ rfl)
  have w1 : (-128 : Int) ≤ x.i 24 := of_decide_eq_true w24.1
  have w2 : x.i 24 ≤ 127 := of_decide_eq_true w24.2
  have w3 : (-128 : Int) ≤ x.i 25 := of_decide_eq_true w25.1
  have w4 : x.i 25 ≤ 127 := of_decide_eq_true w25.2
  have b := plIn x h1
  unfold pl_cs30_3_7
  exact (allC (notT (notF (andT (condT (decide_eq_true (by first | omega | (unfold isub; omega))) rfl) (decide_eq_true (by first | omega | (unfold isub; omega)))))) (allC (notT (notF (notBF ((show (_ : Bool) = plB0 (normL (litL (litL (mkL x 0 (kdsP pl_P0)) 222 3) 223 7)) from by kernel_rfl).trans ((congrArg plB0 (litL_mk2 (litL_mk hz) hz2)).trans h0))))) allN))

theorem pl_f30_3_7 (x : Vars) : (funH Try.prog G26 noLT true 1000 30 (argsP pl_P0 0 (litL (litL (mkL x 0 (kdsP pl_P0)) 222 3) 223 7)) (memP pl_P0 (litL (litL (mkL x 0 (kdsP pl_P0)) 222 3) 223 7)) [false, false]).map (fun r => (normR r.1, untupR r.1 && r.1.flat, r.2)) = some (pl_v3_7 x, true, pl_cs30_3_7 x) := by kernel_rfl


noncomputable def pl_cs30_4_0 (x : Vars) : List Bool := [(!(!((bif (decide (4 < (x.i 24))) then true else false) && (decide (0 < (x.i 25)))))), (!(!(decide (((pl_E0_a0 x).i 0) = 0))))]

set_option maxRecDepth 100000 in
theorem pl_c30_4_0 (x : Vars) (ho : OkV (kdsP pl_P0) x) (h0 : plB0 (mkL x 0 (kdsP pl_P0)) = false) (h1 : plB1 (mkL x 0 (kdsP pl_P0)) = false) (hz : x.i 222 = 4) (hz2 : x.i 223 = 0) : ∀ b ∈ pl_cs30_4_0 x, b = true := by
  have w24 := Bool.and_eq_true_iff.1 (ho 24 _ rfl)
  have w25 := Bool.and_eq_true_iff.1 (ho 25 _ rfl)
  have w1 : (-128 : Int) ≤ x.i 24 := of_decide_eq_true w24.1
  have w2 : x.i 24 ≤ 127 := of_decide_eq_true w24.2
  have w3 : (-128 : Int) ≤ x.i 25 := of_decide_eq_true w25.1
  have w4 : x.i 25 ≤ 127 := of_decide_eq_true w25.2
  have b := plIn x h1
  unfold pl_cs30_4_0
  exact (allC (notT (notF (andT (condT (decide_eq_true (by first | omega | (unfold isub; omega))) rfl) (decide_eq_true (by first | omega | (unfold isub; omega)))))) (allC (notT (notF (notBF ((show (_ : Bool) = plB0 (normL (litL (litL (mkL x 0 (kdsP pl_P0)) 222 4) 223 0)) from by kernel_rfl).trans ((congrArg plB0 (litL_mk2 (litL_mk hz) hz2)).trans h0))))) allN))

theorem pl_f30_4_0 (x : Vars) : (funH Try.prog G26 noLT true 1000 30 (argsP pl_P0 0 (litL (litL (mkL x 0 (kdsP pl_P0)) 222 4) 223 0)) (memP pl_P0 (litL (litL (mkL x 0 (kdsP pl_P0)) 222 4) 223 0)) [false, false]).map (fun r => (normR r.1, untupR r.1 && r.1.flat, r.2)) = some (pl_v4_0 x, true, pl_cs30_4_0 x) := by kernel_rfl


noncomputable def pl_cs30_4_1 (x : Vars) : List Bool := [(!(!((bif (decide (4 < (x.i 24))) then true else false) && (decide (1 < (x.i 25)))))), (!(!(decide (((pl_E0_a0 x).i 0) = 0))))]

set_option maxRecDepth 100000 in
theorem pl_c30_4_1 (x : Vars) (ho : OkV (kdsP pl_P0) x) (h0 : plB0 (mkL x 0 (kdsP pl_P0)) = false) (h1 : plB1 (mkL x 0 (kdsP pl_P0)) = false) (hz : x.i 222 = 4) (hz2 : x.i 223 = 1) : ∀ b ∈ pl_cs30_4_1 x, b = true := by
  have w24 := Bool.and_eq_true_iff.1 (ho 24 _ rfl)
  have w25 := Bool.and_eq_true_iff.1 (ho 25 _ rfl)
  have w1 : (-128 : Int) ≤ x.i 24 := of_decide_eq_true w24.1
  have w2 : x.i 24 ≤ 127 := of_decide_eq_true w24.2
  have w3 : (-128 : Int) ≤ x.i 25 := of_decide_eq_true w25.1
  have w4 : x.i 25 ≤ 127 := of_decide_eq_true w25.2
  have b := plIn x h1
  unfold pl_cs30_4_1
  exact (allC (notT (notF (andT (condT (decide_eq_true (by first | omega | (unfold isub; omega))) rfl) (decide_eq_true (by first | omega | (unfold isub; omega)))))) (allC (notT (notF (notBF ((show (_ : Bool) = plB0 (normL (litL (litL (mkL x 0 (kdsP pl_P0)) 222 4) 223 1)) from by kernel_rfl).trans ((congrArg plB0 (litL_mk2 (litL_mk hz) hz2)).trans h0))))) allN))

theorem pl_f30_4_1 (x : Vars) : (funH Try.prog G26 noLT true 1000 30 (argsP pl_P0 0 (litL (litL (mkL x 0 (kdsP pl_P0)) 222 4) 223 1)) (memP pl_P0 (litL (litL (mkL x 0 (kdsP pl_P0)) 222 4) 223 1)) [false, false]).map (fun r => (normR r.1, untupR r.1 && r.1.flat, r.2)) = some (pl_v4_1 x, true, pl_cs30_4_1 x) := by kernel_rfl


noncomputable def pl_cs30_4_2 (x : Vars) : List Bool := [(!(!((bif (decide (4 < (x.i 24))) then true else false) && (decide (2 < (x.i 25)))))), (!(!(decide (((pl_E0_a0 x).i 0) = 0))))]

set_option maxRecDepth 100000 in
theorem pl_c30_4_2 (x : Vars) (ho : OkV (kdsP pl_P0) x) (h0 : plB0 (mkL x 0 (kdsP pl_P0)) = false) (h1 : plB1 (mkL x 0 (kdsP pl_P0)) = false) (hz : x.i 222 = 4) (hz2 : x.i 223 = 2) : ∀ b ∈ pl_cs30_4_2 x, b = true := by
  have w24 := Bool.and_eq_true_iff.1 (ho 24 _ rfl)
  have w25 := Bool.and_eq_true_iff.1 (ho 25 _ rfl)
  have w1 : (-128 : Int) ≤ x.i 24 := of_decide_eq_true w24.1
  have w2 : x.i 24 ≤ 127 := of_decide_eq_true w24.2
  have w3 : (-128 : Int) ≤ x.i 25 := of_decide_eq_true w25.1
  have w4 : x.i 25 ≤ 127 := of_decide_eq_true w25.2
  have b := plIn x h1
  unfold pl_cs30_4_2
  exact (allC (notT (notF (andT (condT (decide_eq_true (by first | omega | (unfold isub; omega))) rfl) (decide_eq_true (by first | omega | (unfold isub; omega)))))) (allC (notT (notF (notBF ((show (_ : Bool) = plB0 (normL (litL (litL (mkL x 0 (kdsP pl_P0)) 222 4) 223 2)) from by kernel_rfl).trans ((congrArg plB0 (litL_mk2 (litL_mk hz) hz2)).trans h0))))) allN))

theorem pl_f30_4_2 (x : Vars) : (funH Try.prog G26 noLT true 1000 30 (argsP pl_P0 0 (litL (litL (mkL x 0 (kdsP pl_P0)) 222 4) 223 2)) (memP pl_P0 (litL (litL (mkL x 0 (kdsP pl_P0)) 222 4) 223 2)) [false, false]).map (fun r => (normR r.1, untupR r.1 && r.1.flat, r.2)) = some (pl_v4_2 x, true, pl_cs30_4_2 x) := by kernel_rfl


noncomputable def pl_cs30_4_3 (x : Vars) : List Bool := [(!(!((bif (decide (4 < (x.i 24))) then true else false) && (decide (3 < (x.i 25)))))), (!(!(decide (((pl_E0_a0 x).i 0) = 0))))]

set_option maxRecDepth 100000 in
theorem pl_c30_4_3 (x : Vars) (ho : OkV (kdsP pl_P0) x) (h0 : plB0 (mkL x 0 (kdsP pl_P0)) = false) (h1 : plB1 (mkL x 0 (kdsP pl_P0)) = false) (hz : x.i 222 = 4) (hz2 : x.i 223 = 3) : ∀ b ∈ pl_cs30_4_3 x, b = true := by
  have w24 := Bool.and_eq_true_iff.1 (ho 24 _ rfl)
  have w25 := Bool.and_eq_true_iff.1 (ho 25 _ rfl)
  have w1 : (-128 : Int) ≤ x.i 24 := of_decide_eq_true w24.1
  have w2 : x.i 24 ≤ 127 := of_decide_eq_true w24.2
  have w3 : (-128 : Int) ≤ x.i 25 := of_decide_eq_true w25.1
  have w4 : x.i 25 ≤ 127 := of_decide_eq_true w25.2
  have b := plIn x h1
  unfold pl_cs30_4_3
  exact (allC (notT (notF (andT (condT (decide_eq_true (by first | omega | (unfold isub; omega))) rfl) (decide_eq_true (by first | omega | (unfold isub; omega)))))) (allC (notT (notF (notBF ((show (_ : Bool) = plB0 (normL (litL (litL (mkL x 0 (kdsP pl_P0)) 222 4) 223 3)) from by kernel_rfl).trans ((congrArg plB0 (litL_mk2 (litL_mk hz) hz2)).trans h0))))) allN))

theorem pl_f30_4_3 (x : Vars) : (funH Try.prog G26 noLT true 1000 30 (argsP pl_P0 0 (litL (litL (mkL x 0 (kdsP pl_P0)) 222 4) 223 3)) (memP pl_P0 (litL (litL (mkL x 0 (kdsP pl_P0)) 222 4) 223 3)) [false, false]).map (fun r => (normR r.1, untupR r.1 && r.1.flat, r.2)) = some (pl_v4_3 x, true, pl_cs30_4_3 x) := by kernel_rfl


noncomputable def pl_cs30_4_4 (x : Vars) : List Bool := [(!(!((bif (decide (4 < (x.i 24))) then true else false) && (decide (4 < (x.i 25)))))), (!(!(decide (((pl_E0_a0 x).i 0) = 0))))]

set_option maxRecDepth 100000 in
theorem pl_c30_4_4 (x : Vars) (ho : OkV (kdsP pl_P0) x) (h0 : plB0 (mkL x 0 (kdsP pl_P0)) = false) (h1 : plB1 (mkL x 0 (kdsP pl_P0)) = false) (hz : x.i 222 = 4) (hz2 : x.i 223 = 4) : ∀ b ∈ pl_cs30_4_4 x, b = true := by
  have w24 := Bool.and_eq_true_iff.1 (ho 24 _ rfl)
  have w25 := Bool.and_eq_true_iff.1 (ho 25 _ rfl)
  have w1 : (-128 : Int) ≤ x.i 24 := of_decide_eq_true w24.1
  have w2 : x.i 24 ≤ 127 := of_decide_eq_true w24.2
  have w3 : (-128 : Int) ≤ x.i 25 := of_decide_eq_true w25.1
  have w4 : x.i 25 ≤ 127 := of_decide_eq_true w25.2
  have b := plIn x h1
  unfold pl_cs30_4_4
  exact (allC (notT (notF (andT (condT (decide_eq_true (by first | omega | (unfold isub; omega))) rfl) (decide_eq_true (by first | omega | (unfold isub; omega)))))) (allC (notT (notF (notBF ((show (_ : Bool) = plB0 (normL (litL (litL (mkL x 0 (kdsP pl_P0)) 222 4) 223 4)) from by kernel_rfl).trans ((congrArg plB0 (litL_mk2 (litL_mk hz) hz2)).trans h0))))) allN))

theorem pl_f30_4_4 (x : Vars) : (funH Try.prog G26 noLT true 1000 30 (argsP pl_P0 0 (litL (litL (mkL x 0 (kdsP pl_P0)) 222 4) 223 4)) (memP pl_P0 (litL (litL (mkL x 0 (kdsP pl_P0)) 222 4) 223 4)) [false, false]).map (fun r => (normR r.1, untupR r.1 && r.1.flat, r.2)) = some (pl_v4_4 x, true, pl_cs30_4_4 x) := by kernel_rfl


noncomputable def pl_cs30_4_5 (x : Vars) : List Bool := [(!(!((bif (decide (4 < (x.i 24))) then true else false) && (decide (5 < (x.i 25)))))), (!(!(decide (((pl_E0_a0 x).i 0) = 0))))]

set_option maxRecDepth 100000 in
theorem pl_c30_4_5 (x : Vars) (ho : OkV (kdsP pl_P0) x) (h0 : plB0 (mkL x 0 (kdsP pl_P0)) = false) (h1 : plB1 (mkL x 0 (kdsP pl_P0)) = false) (hz : x.i 222 = 4) (hz2 : x.i 223 = 5) : ∀ b ∈ pl_cs30_4_5 x, b = true := by
  have w24 := Bool.and_eq_true_iff.1 (ho 24 _ rfl)
  have w25 := Bool.and_eq_true_iff.1 (ho 25 _ rfl)
  have w1 : (-128 : Int) ≤ x.i 24 := of_decide_eq_true w24.1
  have w2 : x.i 24 ≤ 127 := of_decide_eq_true w24.2
  have w3 : (-128 : Int) ≤ x.i 25 := of_decide_eq_true w25.1
  have w4 : x.i 25 ≤ 127 := of_decide_eq_true w25.2
  have b := plIn x h1
  unfold pl_cs30_4_5
  exact (allC (notT (notF (andT (condT (decide_eq_true (by first | omega | (unfold isub; omega))) rfl) (decide_eq_true (by first | omega | (unfold isub; omega)))))) (allC (notT (notF (notBF ((show (_ : Bool) = plB0 (normL (litL (litL (mkL x 0 (kdsP pl_P0)) 222 4) 223 5)) from by kernel_rfl).trans ((congrArg plB0 (litL_mk2 (litL_mk hz) hz2)).trans h0))))) allN))

theorem pl_f30_4_5 (x : Vars) : (funH Try.prog G26 noLT true 1000 30 (argsP pl_P0 0 (litL (litL (mkL x 0 (kdsP pl_P0)) 222 4) 223 5)) (memP pl_P0 (litL (litL (mkL x 0 (kdsP pl_P0)) 222 4) 223 5)) [false, false]).map (fun r => (normR r.1, untupR r.1 && r.1.flat, r.2)) = some (pl_v4_5 x, true, pl_cs30_4_5 x) := by kernel_rfl


noncomputable def pl_cs30_4_6 (x : Vars) : List Bool := [(!(!((bif (decide (4 < (x.i 24))) then true else false) && (decide (6 < (x.i 25)))))), (!(!(decide (((pl_E0_a0 x).i 0) = 0))))]

set_option maxRecDepth 100000 in
theorem pl_c30_4_6 (x : Vars) (ho : OkV (kdsP pl_P0) x) (h0 : plB0 (mkL x 0 (kdsP pl_P0)) = false) (h1 : plB1 (mkL x 0 (kdsP pl_P0)) = false) (hz : x.i 222 = 4) (hz2 : x.i 223 = 6) : ∀ b ∈ pl_cs30_4_6 x, b = true := by
  have w24 := Bool.and_eq_true_iff.1 (ho 24 _ rfl)
  have w25 := Bool.and_eq_true_iff.1 (ho 25 _ rfl)
  have w1 : (-128 : Int) ≤ x.i 24 := of_decide_eq_true w24.1
  have w2 : x.i 24 ≤ 127 := of_decide_eq_true w24.2
  have w3 : (-128 : Int) ≤ x.i 25 := of_decide_eq_true w25.1
  have w4 : x.i 25 ≤ 127 := of_decide_eq_true w25.2
  have b := plIn x h1
  unfold pl_cs30_4_6
  exact (allC (notT (notF (andT (condT (decide_eq_true (by first | omega | (unfold isub; omega))) rfl) (decide_eq_true (by first | omega | (unfold isub; omega)))))) (allC (notT (notF (notBF ((show (_ : Bool) = plB0 (normL (litL (litL (mkL x 0 (kdsP pl_P0)) 222 4) 223 6)) from by kernel_rfl).trans ((congrArg plB0 (litL_mk2 (litL_mk hz) hz2)).trans h0))))) allN))

theorem pl_f30_4_6 (x : Vars) : (funH Try.prog G26 noLT true 1000 30 (argsP pl_P0 0 (litL (litL (mkL x 0 (kdsP pl_P0)) 222 4) 223 6)) (memP pl_P0 (litL (litL (mkL x 0 (kdsP pl_P0)) 222 4) 223 6)) [false, false]).map (fun r => (normR r.1, untupR r.1 && r.1.flat, r.2)) = some (pl_v4_6 x, true, pl_cs30_4_6 x) := by kernel_rfl


noncomputable def pl_cs30_4_7 (x : Vars) : List Bool := [(!(!((bif (decide (4 < (x.i 24))) then true else false) && (decide (7 < (x.i 25)))))), (!(!(decide (((pl_E0_a0 x).i 0) = 0))))]

set_option maxRecDepth 100000 in
theorem pl_c30_4_7 (x : Vars) (ho : OkV (kdsP pl_P0) x) (h0 : plB0 (mkL x 0 (kdsP pl_P0)) = false) (h1 : plB1 (mkL x 0 (kdsP pl_P0)) = false) (hz : x.i 222 = 4) (hz2 : x.i 223 = 7) : ∀ b ∈ pl_cs30_4_7 x, b = true := by
  have w24 := Bool.and_eq_true_iff.1 (ho 24 _ rfl)
  have w25 := Bool.and_eq_true_iff.1 (ho 25 _ rfl)
  have w1 : (-128 : Int) ≤ x.i 24 := of_decide_eq_true w24.1
  have w2 : x.i 24 ≤ 127 := of_decide_eq_true w24.2
  have w3 : (-128 : Int) ≤ x.i 25 := of_decide_eq_true w25.1
  have w4 : x.i 25 ≤ 127 := of_decide_eq_true w25.2
  have b := plIn x h1
  unfold pl_cs30_4_7
  exact (allC (notT (notF (andT (condT (decide_eq_true (by first | omega | (unfold isub; omega))) rfl) (decide_eq_true (by first | omega | (unfold isub; omega)))))) (allC (notT (notF (notBF ((show (_ : Bool) = plB0 (normL (litL (litL (mkL x 0 (kdsP pl_P0)) 222 4) 223 7)) from by kernel_rfl).trans ((congrArg plB0 (litL_mk2 (litL_mk hz) hz2)).trans h0))))) allN))

theorem pl_f30_4_7 (x : Vars) : (funH Try.prog G26 noLT true 1000 30 (argsP pl_P0 0 (litL (litL (mkL x 0 (kdsP pl_P0)) 222 4) 223 7)) (memP pl_P0 (litL (litL (mkL x 0 (kdsP pl_P0)) 222 4) 223 7)) [false, false]).map (fun r => (normR r.1, untupR r.1 && r.1.flat, r.2)) = some (pl_v4_7 x, true, pl_cs30_4_7 x) := by kernel_rfl


noncomputable def pl_cs30_5_0 (x : Vars) : List Bool := [(!(!((bif (decide (5 < (x.i 24))) then true else false) && (decide (0 < (x.i 25)))))), (!(!(decide (((pl_E0_a0 x).i 0) = 0))))]

set_option maxRecDepth 100000 in
theorem pl_c30_5_0 (x : Vars) (ho : OkV (kdsP pl_P0) x) (h0 : plB0 (mkL x 0 (kdsP pl_P0)) = false) (h1 : plB1 (mkL x 0 (kdsP pl_P0)) = false) (hz : x.i 222 = 5) (hz2 : x.i 223 = 0) : ∀ b ∈ pl_cs30_5_0 x, b = true := by
  have w24 := Bool.and_eq_true_iff.1 (ho 24 _ rfl)
  have w25 := Bool.and_eq_true_iff.1 (ho 25 _ rfl)
  have w1 : (-128 : Int) ≤ x.i 24 := of_decide_eq_true w24.1
  have w2 : x.i 24 ≤ 127 := of_decide_eq_true w24.2
  have w3 : (-128 : Int) ≤ x.i 25 := of_decide_eq_true w25.1
  have w4 : x.i 25 ≤ 127 := of_decide_eq_true w25.2
  have b := plIn x h1
  unfold pl_cs30_5_0
  exact (allC (notT (notF (andT (condT (decide_eq_true (by first | omega | (unfold isub; omega))) rfl) (decide_eq_true (by first | omega | (unfold isub; omega)))))) (allC (notT (notF (notBF ((show (_ : Bool) = plB0 (normL (litL (litL (mkL x 0 (kdsP pl_P0)) 222 5) 223 0)) from by kernel_rfl).trans ((congrArg plB0 (litL_mk2 (litL_mk hz) hz2)).trans h0))))) allN))

theorem pl_f30_5_0 (x : Vars) : (funH Try.prog G26 noLT true 1000 30 (argsP pl_P0 0 (litL (litL (mkL x 0 (kdsP pl_P0)) 222 5) 223 0)) (memP pl_P0 (litL (litL (mkL x 0 (kdsP pl_P0)) 222 5) 223 0)) [false, false]).map (fun r => (normR r.1, untupR r.1 && r.1.flat, r.2)) = some (pl_v5_0 x, true, pl_cs30_5_0 x) := by kernel_rfl


noncomputable def pl_cs30_5_1 (x : Vars) : List Bool := [(!(!((bif (decide (5 < (x.i 24))) then true else false) && (decide (1 < (x.i 25)))))), (!(!(decide (((pl_E0_a0 x).i 0) = 0))))]

set_option maxRecDepth 100000 in
theorem pl_c30_5_1 (x : Vars) (ho : OkV (kdsP pl_P0) x) (h0 : plB0 (mkL x 0 (kdsP pl_P0)) = false) (h1 : plB1 (mkL x 0 (kdsP pl_P0)) = false) (hz : x.i 222 = 5) (hz2 : x.i 223 = 1) : ∀ b ∈ pl_cs30_5_1 x, b = true := by
  have w24 := Bool.and_eq_true_iff.1 (ho 24 _ rfl)
  have w25 := Bool.and_eq_true_iff.1 (ho 25 _ rfl)
  have w1 : (-128 : Int) ≤ x.i 24 := of_decide_eq_true w24.1
  have w2 : x.i 24 ≤ 127 := of_decide_eq_true w24.2
  have w3 : (-128 : Int) ≤ x.i 25 := of_decide_eq_true w25.1
  have w4 : x.i 25 ≤ 127 := of_decide_eq_true w25.2
  have b := plIn x h1
  unfold pl_cs30_5_1
  exact (allC (notT (notF (andT (condT (decide_eq_true (by first | omega | (unfold isub; omega))) rfl) (decide_eq_true (by first | omega | (unfold isub; omega)))))) (allC (notT (notF (notBF ((show (_ : Bool) = plB0 (normL (litL (litL (mkL x 0 (kdsP pl_P0)) 222 5) 223 1)) from by kernel_rfl).trans ((congrArg plB0 (litL_mk2 (litL_mk hz) hz2)).trans h0))))) allN))

theorem pl_f30_5_1 (x : Vars) : (funH Try.prog G26 noLT true 1000 30 (argsP pl_P0 0 (litL (litL (mkL x 0 (kdsP pl_P0)) 222 5) 223 1)) (memP pl_P0 (litL (litL (mkL x 0 (kdsP pl_P0)) 222 5) 223 1)) [false, false]).map (fun r => (normR r.1, untupR r.1 && r.1.flat, r.2)) = some (pl_v5_1 x, true, pl_cs30_5_1 x) := by kernel_rfl


noncomputable def pl_cs30_5_2 (x : Vars) : List Bool := [(!(!((bif (decide (5 < (x.i 24))) then true else false) && (decide (2 < (x.i 25)))))), (!(!(decide (((pl_E0_a0 x).i 0) = 0))))]

set_option maxRecDepth 100000 in
theorem pl_c30_5_2 (x : Vars) (ho : OkV (kdsP pl_P0) x) (h0 : plB0 (mkL x 0 (kdsP pl_P0)) = false) (h1 : plB1 (mkL x 0 (kdsP pl_P0)) = false) (hz : x.i 222 = 5) (hz2 : x.i 223 = 2) : ∀ b ∈ pl_cs30_5_2 x, b = true := by
  have w24 := Bool.and_eq_true_iff.1 (ho 24 _ rfl)
  have w25 := Bool.and_eq_true_iff.1 (ho 25 _ rfl)
  have w1 : (-128 : Int) ≤ x.i 24 := of_decide_eq_true w24.1
  have w2 : x.i 24 ≤ 127 := of_decide_eq_true w24.2
  have w3 : (-128 : Int) ≤ x.i 25 := of_decide_eq_true w25.1
  have w4 : x.i 25 ≤ 127 := of_decide_eq_true w25.2
  have b := plIn x h1
  unfold pl_cs30_5_2
  exact (allC (notT (notF (andT (condT (decide_eq_true (by first | omega | (unfold isub; omega))) rfl) (decide_eq_true (by first | omega | (unfold isub; omega)))))) (allC (notT (notF (notBF ((show (_ : Bool) = plB0 (normL (litL (litL (mkL x 0 (kdsP pl_P0)) 222 5) 223 2)) from by kernel_rfl).trans ((congrArg plB0 (litL_mk2 (litL_mk hz) hz2)).trans h0))))) allN))

theorem pl_f30_5_2 (x : Vars) : (funH Try.prog G26 noLT true 1000 30 (argsP pl_P0 0 (litL (litL (mkL x 0 (kdsP pl_P0)) 222 5) 223 2)) (memP pl_P0 (litL (litL (mkL x 0 (kdsP pl_P0)) 222 5) 223 2)) [false, false]).map (fun r => (normR r.1, untupR r.1 && r.1.flat, r.2)) = some (pl_v5_2 x, true, pl_cs30_5_2 x) := by kernel_rfl


noncomputable def pl_cs30_5_3 (x : Vars) : List Bool := [(!(!((bif (decide (5 < (x.i 24))) then true else false) && (decide (3 < (x.i 25)))))), (!(!(decide (((pl_E0_a0 x).i 0) = 0))))]

set_option maxRecDepth 100000 in
theorem pl_c30_5_3 (x : Vars) (ho : OkV (kdsP pl_P0) x) (h0 : plB0 (mkL x 0 (kdsP pl_P0)) = false) (h1 : plB1 (mkL x 0 (kdsP pl_P0)) = false) (hz : x.i 222 = 5) (hz2 : x.i 223 = 3) : ∀ b ∈ pl_cs30_5_3 x, b = true := by
  have w24 := Bool.and_eq_true_iff.1 (ho 24 _ rfl)
  have w25 := Bool.and_eq_true_iff.1 (ho 25 _ rfl)
  have w1 : (-128 : Int) ≤ x.i 24 := of_decide_eq_true w24.1
  have w2 : x.i 24 ≤ 127 := of_decide_eq_true w24.2
  have w3 : (-128 : Int) ≤ x.i 25 := of_decide_eq_true w25.1
  have w4 : x.i 25 ≤ 127 := of_decide_eq_true w25.2
  have b := plIn x h1
  unfold pl_cs30_5_3
  exact (allC (notT (notF (andT (condT (decide_eq_true (by first | omega | (unfold isub; omega))) rfl) (decide_eq_true (by first | omega | (unfold isub; omega)))))) (allC (notT (notF (notBF ((show (_ : Bool) = plB0 (normL (litL (litL (mkL x 0 (kdsP pl_P0)) 222 5) 223 3)) from by kernel_rfl).trans ((congrArg plB0 (litL_mk2 (litL_mk hz) hz2)).trans h0))))) allN))

theorem pl_f30_5_3 (x : Vars) : (funH Try.prog G26 noLT true 1000 30 (argsP pl_P0 0 (litL (litL (mkL x 0 (kdsP pl_P0)) 222 5) 223 3)) (memP pl_P0 (litL (litL (mkL x 0 (kdsP pl_P0)) 222 5) 223 3)) [false, false]).map (fun r => (normR r.1, untupR r.1 && r.1.flat, r.2)) = some (pl_v5_3 x, true, pl_cs30_5_3 x) := by kernel_rfl


noncomputable def pl_cs30_5_4 (x : Vars) : List Bool := [(!(!((bif (decide (5 < (x.i 24))) then true else false) && (decide (4 < (x.i 25)))))), (!(!(decide (((pl_E0_a0 x).i 0) = 0))))]

set_option maxRecDepth 100000 in
theorem pl_c30_5_4 (x : Vars) (ho : OkV (kdsP pl_P0) x) (h0 : plB0 (mkL x 0 (kdsP pl_P0)) = false) (h1 : plB1 (mkL x 0 (kdsP pl_P0)) = false) (hz : x.i 222 = 5) (hz2 : x.i 223 = 4) : ∀ b ∈ pl_cs30_5_4 x, b = true := by
  have w24 := Bool.and_eq_true_iff.1 (ho 24 _ rfl)
  have w25 := Bool.and_eq_true_iff.1 (ho 25 _ rfl)
  have w1 : (-128 : Int) ≤ x.i 24 := of_decide_eq_true w24.1
  have w2 : x.i 24 ≤ 127 := of_decide_eq_true w24.2
  have w3 : (-128 : Int) ≤ x.i 25 := of_decide_eq_true w25.1
  have w4 : x.i 25 ≤ 127 := of_decide_eq_true w25.2
  have b := plIn x h1
  unfold pl_cs30_5_4
  exact (allC (notT (notF (andT (condT (decide_eq_true (by first | omega | (unfold isub; omega))) rfl) (decide_eq_true (by first | omega | (unfold isub; omega)))))) (allC (notT (notF (notBF ((show (_ : Bool) = plB0 (normL (litL (litL (mkL x 0 (kdsP pl_P0)) 222 5) 223 4)) from by kernel_rfl).trans ((congrArg plB0 (litL_mk2 (litL_mk hz) hz2)).trans h0))))) allN))

theorem pl_f30_5_4 (x : Vars) : (funH Try.prog G26 noLT true 1000 30 (argsP pl_P0 0 (litL (litL (mkL x 0 (kdsP pl_P0)) 222 5) 223 4)) (memP pl_P0 (litL (litL (mkL x 0 (kdsP pl_P0)) 222 5) 223 4)) [false, false]).map (fun r => (normR r.1, untupR r.1 && r.1.flat, r.2)) = some (pl_v5_4 x, true, pl_cs30_5_4 x) := by kernel_rfl


noncomputable def pl_cs30_5_5 (x : Vars) : List Bool := [(!(!((bif (decide (5 < (x.i 24))) then true else false) && (decide (5 < (x.i 25)))))), (!(!(decide (((pl_E0_a0 x).i 0) = 0))))]

set_option maxRecDepth 100000 in
theorem pl_c30_5_5 (x : Vars) (ho : OkV (kdsP pl_P0) x) (h0 : plB0 (mkL x 0 (kdsP pl_P0)) = false) (h1 : plB1 (mkL x 0 (kdsP pl_P0)) = false) (hz : x.i 222 = 5) (hz2 : x.i 223 = 5) : ∀ b ∈ pl_cs30_5_5 x, b = true := by
  have w24 := Bool.and_eq_true_iff.1 (ho 24 _ rfl)
  have w25 := Bool.and_eq_true_iff.1 (ho 25 _ rfl)
  have w1 : (-128 : Int) ≤ x.i 24 := of_decide_eq_true w24.1
  have w2 : x.i 24 ≤ 127 := of_decide_eq_true w24.2
  have w3 : (-128 : Int) ≤ x.i 25 := of_decide_eq_true w25.1
  have w4 : x.i 25 ≤ 127 := of_decide_eq_true w25.2
  have b := plIn x h1
  unfold pl_cs30_5_5
  exact (allC (notT (notF (andT (condT (decide_eq_true (by first | omega | (unfold isub; omega))) rfl) (decide_eq_true (by first | omega | (unfold isub; omega)))))) (allC (notT (notF (notBF ((show (_ : Bool) = plB0 (normL (litL (litL (mkL x 0 (kdsP pl_P0)) 222 5) 223 5)) from by kernel_rfl).trans ((congrArg plB0 (litL_mk2 (litL_mk hz) hz2)).trans h0))))) allN))

theorem pl_f30_5_5 (x : Vars) : (funH Try.prog G26 noLT true 1000 30 (argsP pl_P0 0 (litL (litL (mkL x 0 (kdsP pl_P0)) 222 5) 223 5)) (memP pl_P0 (litL (litL (mkL x 0 (kdsP pl_P0)) 222 5) 223 5)) [false, false]).map (fun r => (normR r.1, untupR r.1 && r.1.flat, r.2)) = some (pl_v5_5 x, true, pl_cs30_5_5 x) := by kernel_rfl


noncomputable def pl_cs30_5_6 (x : Vars) : List Bool := [(!(!((bif (decide (5 < (x.i 24))) then true else false) && (decide (6 < (x.i 25)))))), (!(!(decide (((pl_E0_a0 x).i 0) = 0))))]

set_option maxRecDepth 100000 in
theorem pl_c30_5_6 (x : Vars) (ho : OkV (kdsP pl_P0) x) (h0 : plB0 (mkL x 0 (kdsP pl_P0)) = false) (h1 : plB1 (mkL x 0 (kdsP pl_P0)) = false) (hz : x.i 222 = 5) (hz2 : x.i 223 = 6) : ∀ b ∈ pl_cs30_5_6 x, b = true := by
  have w24 := Bool.and_eq_true_iff.1 (ho 24 _ rfl)
  have w25 := Bool.and_eq_true_iff.1 (ho 25 _ rfl)
  have w1 : (-128 : Int) ≤ x.i 24 := of_decide_eq_true w24.1
  have w2 : x.i 24 ≤ 127 := of_decide_eq_true w24.2
  have w3 : (-128 : Int) ≤ x.i 25 := of_decide_eq_true w25.1
  have w4 : x.i 25 ≤ 127 := of_decide_eq_true w25.2
  have b := plIn x h1
  unfold pl_cs30_5_6
  exact (allC (notT (notF (andT (condT (decide_eq_true (by first | omega | (unfold isub; omega))) rfl) (decide_eq_true (by first | omega | (unfold isub; omega)))))) (allC (notT (notF (notBF ((show (_ : Bool) = plB0 (normL (litL (litL (mkL x 0 (kdsP pl_P0)) 222 5) 223 6)) from by kernel_rfl).trans ((congrArg plB0 (litL_mk2 (litL_mk hz) hz2)).trans h0))))) allN))

theorem pl_f30_5_6 (x : Vars) : (funH Try.prog G26 noLT true 1000 30 (argsP pl_P0 0 (litL (litL (mkL x 0 (kdsP pl_P0)) 222 5) 223 6)) (memP pl_P0 (litL (litL (mkL x 0 (kdsP pl_P0)) 222 5) 223 6)) [false, false]).map (fun r => (normR r.1, untupR r.1 && r.1.flat, r.2)) = some (pl_v5_6 x, true, pl_cs30_5_6 x) := by kernel_rfl


noncomputable def pl_cs30_5_7 (x : Vars) : List Bool := [(!(!((bif (decide (5 < (x.i 24))) then true else false) && (decide (7 < (x.i 25)))))), (!(!(decide (((pl_E0_a0 x).i 0) = 0))))]

set_option maxRecDepth 100000 in
theorem pl_c30_5_7 (x : Vars) (ho : OkV (kdsP pl_P0) x) (h0 : plB0 (mkL x 0 (kdsP pl_P0)) = false) (h1 : plB1 (mkL x 0 (kdsP pl_P0)) = false) (hz : x.i 222 = 5) (hz2 : x.i 223 = 7) : ∀ b ∈ pl_cs30_5_7 x, b = true := by
  have w24 := Bool.and_eq_true_iff.1 (ho 24 _ rfl)
  have w25 := Bool.and_eq_true_iff.1 (ho 25 _ rfl)
  have w1 : (-128 : Int) ≤ x.i 24 := of_decide_eq_true w24.1
  have w2 : x.i 24 ≤ 127 := of_decide_eq_true w24.2
  have w3 : (-128 : Int) ≤ x.i 25 := of_decide_eq_true w25.1
  have w4 : x.i 25 ≤ 127 := of_decide_eq_true w25.2
  have b := plIn x h1
  unfold pl_cs30_5_7
  exact (allC (notT (notF (andT (condT (decide_eq_true (by first | omega | (unfold isub; omega))) rfl) (decide_eq_true (by first | omega | (unfold isub; omega)))))) (allC (notT (notF (notBF ((show (_ : Bool) = plB0 (normL (litL (litL (mkL x 0 (kdsP pl_P0)) 222 5) 223 7)) from by kernel_rfl).trans ((congrArg plB0 (litL_mk2 (litL_mk hz) hz2)).trans h0))))) allN))

theorem pl_f30_5_7 (x : Vars) : (funH Try.prog G26 noLT true 1000 30 (argsP pl_P0 0 (litL (litL (mkL x 0 (kdsP pl_P0)) 222 5) 223 7)) (memP pl_P0 (litL (litL (mkL x 0 (kdsP pl_P0)) 222 5) 223 7)) [false, false]).map (fun r => (normR r.1, untupR r.1 && r.1.flat, r.2)) = some (pl_v5_7 x, true, pl_cs30_5_7 x) := by kernel_rfl


noncomputable def pl_cs30_6_0 (x : Vars) : List Bool := [(!(!((bif (decide (6 < (x.i 24))) then true else false) && (decide (0 < (x.i 25)))))), (!(!(decide (((pl_E0_a0 x).i 0) = 0))))]

set_option maxRecDepth 100000 in
theorem pl_c30_6_0 (x : Vars) (ho : OkV (kdsP pl_P0) x) (h0 : plB0 (mkL x 0 (kdsP pl_P0)) = false) (h1 : plB1 (mkL x 0 (kdsP pl_P0)) = false) (hz : x.i 222 = 6) (hz2 : x.i 223 = 0) : ∀ b ∈ pl_cs30_6_0 x, b = true := by
  have w24 := Bool.and_eq_true_iff.1 (ho 24 _ rfl)
  have w25 := Bool.and_eq_true_iff.1 (ho 25 _ rfl)
  have w1 : (-128 : Int) ≤ x.i 24 := of_decide_eq_true w24.1
  have w2 : x.i 24 ≤ 127 := of_decide_eq_true w24.2
  have w3 : (-128 : Int) ≤ x.i 25 := of_decide_eq_true w25.1
  have w4 : x.i 25 ≤ 127 := of_decide_eq_true w25.2
  have b := plIn x h1
  unfold pl_cs30_6_0
  exact (allC (notT (notF (andT (condT (decide_eq_true (by first | omega | (unfold isub; omega))) rfl) (decide_eq_true (by first | omega | (unfold isub; omega)))))) (allC (notT (notF (notBF ((show (_ : Bool) = plB0 (normL (litL (litL (mkL x 0 (kdsP pl_P0)) 222 6) 223 0)) from by kernel_rfl).trans ((congrArg plB0 (litL_mk2 (litL_mk hz) hz2)).trans h0))))) allN))

theorem pl_f30_6_0 (x : Vars) : (funH Try.prog G26 noLT true 1000 30 (argsP pl_P0 0 (litL (litL (mkL x 0 (kdsP pl_P0)) 222 6) 223 0)) (memP pl_P0 (litL (litL (mkL x 0 (kdsP pl_P0)) 222 6) 223 0)) [false, false]).map (fun r => (normR r.1, untupR r.1 && r.1.flat, r.2)) = some (pl_v6_0 x, true, pl_cs30_6_0 x) := by kernel_rfl


noncomputable def pl_cs30_6_1 (x : Vars) : List Bool := [(!(!((bif (decide (6 < (x.i 24))) then true else false) && (decide (1 < (x.i 25)))))), (!(!(decide (((pl_E0_a0 x).i 0) = 0))))]

set_option maxRecDepth 100000 in
theorem pl_c30_6_1 (x : Vars) (ho : OkV (kdsP pl_P0) x) (h0 : plB0 (mkL x 0 (kdsP pl_P0)) = false) (h1 : plB1 (mkL x 0 (kdsP pl_P0)) = false) (hz : x.i 222 = 6) (hz2 : x.i 223 = 1) : ∀ b ∈ pl_cs30_6_1 x, b = true := by
  have w24 := Bool.and_eq_true_iff.1 (ho 24 _ rfl)
  have w25 := Bool.and_eq_true_iff.1 (ho 25 _ rfl)
  have w1 : (-128 : Int) ≤ x.i 24 := of_decide_eq_true w24.1
  have w2 : x.i 24 ≤ 127 := of_decide_eq_true w24.2
  have w3 : (-128 : Int) ≤ x.i 25 := of_decide_eq_true w25.1
  have w4 : x.i 25 ≤ 127 := of_decide_eq_true w25.2
  have b := plIn x h1
  unfold pl_cs30_6_1
  exact (allC (notT (notF (andT (condT (decide_eq_true (by first | omega | (unfold isub; omega))) rfl) (decide_eq_true (by first | omega | (unfold isub; omega)))))) (allC (notT (notF (notBF ((show (_ : Bool) = plB0 (normL (litL (litL (mkL x 0 (kdsP pl_P0)) 222 6) 223 1)) from by kernel_rfl).trans ((congrArg plB0 (litL_mk2 (litL_mk hz) hz2)).trans h0))))) allN))

theorem pl_f30_6_1 (x : Vars) : (funH Try.prog G26 noLT true 1000 30 (argsP pl_P0 0 (litL (litL (mkL x 0 (kdsP pl_P0)) 222 6) 223 1)) (memP pl_P0 (litL (litL (mkL x 0 (kdsP pl_P0)) 222 6) 223 1)) [false, false]).map (fun r => (normR r.1, untupR r.1 && r.1.flat, r.2)) = some (pl_v6_1 x, true, pl_cs30_6_1 x) := by kernel_rfl


noncomputable def pl_cs30_6_2 (x : Vars) : List Bool := [(!(!((bif (decide (6 < (x.i 24))) then true else false) && (decide (2 < (x.i 25)))))), (!(!(decide (((pl_E0_a0 x).i 0) = 0))))]

set_option maxRecDepth 100000 in
theorem pl_c30_6_2 (x : Vars) (ho : OkV (kdsP pl_P0) x) (h0 : plB0 (mkL x 0 (kdsP pl_P0)) = false) (h1 : plB1 (mkL x 0 (kdsP pl_P0)) = false) (hz : x.i 222 = 6) (hz2 : x.i 223 = 2) : ∀ b ∈ pl_cs30_6_2 x, b = true := by
  have w24 := Bool.and_eq_true_iff.1 (ho 24 _ rfl)
  have w25 := Bool.and_eq_true_iff.1 (ho 25 _ rfl)
  have w1 : (-128 : Int) ≤ x.i 24 := of_decide_eq_true w24.1
  have w2 : x.i 24 ≤ 127 := of_decide_eq_true w24.2
  have w3 : (-128 : Int) ≤ x.i 25 := of_decide_eq_true w25.1
  have w4 : x.i 25 ≤ 127 := of_decide_eq_true w25.2
  have b := plIn x h1
  unfold pl_cs30_6_2
  exact (allC (notT (notF (andT (condT (decide_eq_true (by first | omega | (unfold isub; omega))) rfl) (decide_eq_true (by first | omega | (unfold isub; omega)))))) (allC (notT (notF (notBF ((show (_ : Bool) = plB0 (normL (litL (litL (mkL x 0 (kdsP pl_P0)) 222 6) 223 2)) from by kernel_rfl).trans ((congrArg plB0 (litL_mk2 (litL_mk hz) hz2)).trans h0))))) allN))

theorem pl_f30_6_2 (x : Vars) : (funH Try.prog G26 noLT true 1000 30 (argsP pl_P0 0 (litL (litL (mkL x 0 (kdsP pl_P0)) 222 6) 223 2)) (memP pl_P0 (litL (litL (mkL x 0 (kdsP pl_P0)) 222 6) 223 2)) [false, false]).map (fun r => (normR r.1, untupR r.1 && r.1.flat, r.2)) = some (pl_v6_2 x, true, pl_cs30_6_2 x) := by kernel_rfl


noncomputable def pl_cs30_6_3 (x : Vars) : List Bool := [(!(!((bif (decide (6 < (x.i 24))) then true else false) && (decide (3 < (x.i 25)))))), (!(!(decide (((pl_E0_a0 x).i 0) = 0))))]

set_option maxRecDepth 100000 in
theorem pl_c30_6_3 (x : Vars) (ho : OkV (kdsP pl_P0) x) (h0 : plB0 (mkL x 0 (kdsP pl_P0)) = false) (h1 : plB1 (mkL x 0 (kdsP pl_P0)) = false) (hz : x.i 222 = 6) (hz2 : x.i 223 = 3) : ∀ b ∈ pl_cs30_6_3 x, b = true := by
  have w24 := Bool.and_eq_true_iff.1 (ho 24 _ rfl)
  have w25 := Bool.and_eq_true_iff.1 (ho 25 _ rfl)
  have w1 : (-128 : Int) ≤ x.i 24 := of_decide_eq_true w24.1
  have w2 : x.i 24 ≤ 127 := of_decide_eq_true w24.2
  have w3 : (-128 : Int) ≤ x.i 25 := of_decide_eq_true w25.1
  have w4 : x.i 25 ≤ 127 := of_decide_eq_true w25.2
  have b := plIn x h1
  unfold pl_cs30_6_3
  exact (allC (notT (notF (andT (condT (decide_eq_true (by first | omega | (unfold isub; omega))) rfl) (decide_eq_true (by first | omega | (unfold isub; omega)))))) (allC (notT (notF (notBF ((show (_ : Bool) = plB0 (normL (litL (litL (mkL x 0 (kdsP pl_P0)) 222 6) 223 3)) from by kernel_rfl).trans ((congrArg plB0 (litL_mk2 (litL_mk hz) hz2)).trans h0))))) allN))

theorem pl_f30_6_3 (x : Vars) : (funH Try.prog G26 noLT true 1000 30 (argsP pl_P0 0 (litL (litL (mkL x 0 (kdsP pl_P0)) 222 6) 223 3)) (memP pl_P0 (litL (litL (mkL x 0 (kdsP pl_P0)) 222 6) 223 3)) [false, false]).map (fun r => (normR r.1, untupR r.1 && r.1.flat, r.2)) = some (pl_v6_3 x, true, pl_cs30_6_3 x) := by kernel_rfl


noncomputable def pl_cs30_6_4 (x : Vars) : List Bool := [(!(!((bif (decide (6 < (x.i 24))) then true else false) && (decide (4 < (x.i 25)))))), (!(!(decide (((pl_E0_a0 x).i 0) = 0))))]

set_option maxRecDepth 100000 in
theorem pl_c30_6_4 (x : Vars) (ho : OkV (kdsP pl_P0) x) (h0 : plB0 (mkL x 0 (kdsP pl_P0)) = false) (h1 : plB1 (mkL x 0 (kdsP pl_P0)) = false) (hz : x.i 222 = 6) (hz2 : x.i 223 = 4) : ∀ b ∈ pl_cs30_6_4 x, b = true := by
  have w24 := Bool.and_eq_true_iff.1 (ho 24 _ rfl)
  have w25 := Bool.and_eq_true_iff.1 (ho 25 _ rfl)
  have w1 : (-128 : Int) ≤ x.i 24 := of_decide_eq_true w24.1
  have w2 : x.i 24 ≤ 127 := of_decide_eq_true w24.2
  have w3 : (-128 : Int) ≤ x.i 25 := of_decide_eq_true w25.1
  have w4 : x.i 25 ≤ 127 := of_decide_eq_true w25.2
  have b := plIn x h1
  unfold pl_cs30_6_4
  exact (allC (notT (notF (andT (condT (decide_eq_true (by first | omega | (unfold isub; omega))) rfl) (decide_eq_true (by first | omega | (unfold isub; omega)))))) (allC (notT (notF (notBF ((show (_ : Bool) = plB0 (normL (litL (litL (mkL x 0 (kdsP pl_P0)) 222 6) 223 4)) from by kernel_rfl).trans ((congrArg plB0 (litL_mk2 (litL_mk hz) hz2)).trans h0))))) allN))

theorem pl_f30_6_4 (x : Vars) : (funH Try.prog G26 noLT true 1000 30 (argsP pl_P0 0 (litL (litL (mkL x 0 (kdsP pl_P0)) 222 6) 223 4)) (memP pl_P0 (litL (litL (mkL x 0 (kdsP pl_P0)) 222 6) 223 4)) [false, false]).map (fun r => (normR r.1, untupR r.1 && r.1.flat, r.2)) = some (pl_v6_4 x, true, pl_cs30_6_4 x) := by kernel_rfl


noncomputable def pl_cs30_6_5 (x : Vars) : List Bool := [(!(!((bif (decide (6 < (x.i 24))) then true else false) && (decide (5 < (x.i 25)))))), (!(!(decide (((pl_E0_a0 x).i 0) = 0))))]

set_option maxRecDepth 100000 in
theorem pl_c30_6_5 (x : Vars) (ho : OkV (kdsP pl_P0) x) (h0 : plB0 (mkL x 0 (kdsP pl_P0)) = false) (h1 : plB1 (mkL x 0 (kdsP pl_P0)) = false) (hz : x.i 222 = 6) (hz2 : x.i 223 = 5) : ∀ b ∈ pl_cs30_6_5 x, b = true := by
  have w24 := Bool.and_eq_true_iff.1 (ho 24 _ rfl)
  have w25 := Bool.and_eq_true_iff.1 (ho 25 _ rfl)
  have w1 : (-128 : Int) ≤ x.i 24 := of_decide_eq_true w24.1
  have w2 : x.i 24 ≤ 127 := of_decide_eq_true w24.2
  have w3 : (-128 : Int) ≤ x.i 25 := of_decide_eq_true w25.1
  have w4 : x.i 25 ≤ 127 := of_decide_eq_true w25.2
  have b := plIn x h1
  unfold pl_cs30_6_5
  exact (allC (notT (notF (andT (condT (decide_eq_true (by first | omega | (unfold isub; omega))) rfl) (decide_eq_true (by first | omega | (unfold isub; omega)))))) (allC (notT (notF (notBF ((show (_ : Bool) = plB0 (normL (litL (litL (mkL x 0 (kdsP pl_P0)) 222 6) 223 5)) from by kernel_rfl).trans ((congrArg plB0 (litL_mk2 (litL_mk hz) hz2)).trans h0))))) allN))

theorem pl_f30_6_5 (x : Vars) : (funH Try.prog G26 noLT true 1000 30 (argsP pl_P0 0 (litL (litL (mkL x 0 (kdsP pl_P0)) 222 6) 223 5)) (memP pl_P0 (litL (litL (mkL x 0 (kdsP pl_P0)) 222 6) 223 5)) [false, false]).map (fun r => (normR r.1, untupR r.1 && r.1.flat, r.2)) = some (pl_v6_5 x, true, pl_cs30_6_5 x) := by kernel_rfl


noncomputable def pl_cs30_6_6 (x : Vars) : List Bool := [(!(!((bif (decide (6 < (x.i 24))) then true else false) && (decide (6 < (x.i 25)))))), (!(!(decide (((pl_E0_a0 x).i 0) = 0))))]

set_option maxRecDepth 100000 in
theorem pl_c30_6_6 (x : Vars) (ho : OkV (kdsP pl_P0) x) (h0 : plB0 (mkL x 0 (kdsP pl_P0)) = false) (h1 : plB1 (mkL x 0 (kdsP pl_P0)) = false) (hz : x.i 222 = 6) (hz2 : x.i 223 = 6) : ∀ b ∈ pl_cs30_6_6 x, b = true := by
  have w24 := Bool.and_eq_true_iff.1 (ho 24 _ rfl)
  have w25 := Bool.and_eq_true_iff.1 (ho 25 _ rfl)
  have w1 : (-128 : Int) ≤ x.i 24 := of_decide_eq_true w24.1
  have w2 : x.i 24 ≤ 127 := of_decide_eq_true w24.2
  have w3 : (-128 : Int) ≤ x.i 25 := of_decide_eq_true w25.1
  have w4 : x.i 25 ≤ 127 := of_decide_eq_true w25.2
  have b := plIn x h1
  unfold pl_cs30_6_6
  exact (allC (notT (notF (andT (condT (decide_eq_true (by first | omega | (unfold isub; omega))) rfl) (decide_eq_true (by first | omega | (unfold isub; omega)))))) (allC (notT (notF (notBF ((show (_ : Bool) = plB0 (normL (litL (litL (mkL x 0 (kdsP pl_P0)) 222 6) 223 6)) from by kernel_rfl).trans ((congrArg plB0 (litL_mk2 (litL_mk hz) hz2)).trans h0))))) allN))

theorem pl_f30_6_6 (x : Vars) : (funH Try.prog G26 noLT true 1000 30 (argsP pl_P0 0 (litL (litL (mkL x 0 (kdsP pl_P0)) 222 6) 223 6)) (memP pl_P0 (litL (litL (mkL x 0 (kdsP pl_P0)) 222 6) 223 6)) [false, false]).map (fun r => (normR r.1, untupR r.1 && r.1.flat, r.2)) = some (pl_v6_6 x, true, pl_cs30_6_6 x) := by kernel_rfl


noncomputable def pl_cs30_6_7 (x : Vars) : List Bool := [(!(!((bif (decide (6 < (x.i 24))) then true else false) && (decide (7 < (x.i 25)))))), (!(!(decide (((pl_E0_a0 x).i 0) = 0))))]

set_option maxRecDepth 100000 in
theorem pl_c30_6_7 (x : Vars) (ho : OkV (kdsP pl_P0) x) (h0 : plB0 (mkL x 0 (kdsP pl_P0)) = false) (h1 : plB1 (mkL x 0 (kdsP pl_P0)) = false) (hz : x.i 222 = 6) (hz2 : x.i 223 = 7) : ∀ b ∈ pl_cs30_6_7 x, b = true := by
  have w24 := Bool.and_eq_true_iff.1 (ho 24 _ rfl)
  have w25 := Bool.and_eq_true_iff.1 (ho 25 _ rfl)
  have w1 : (-128 : Int) ≤ x.i 24 := of_decide_eq_true w24.1
  have w2 : x.i 24 ≤ 127 := of_decide_eq_true w24.2
  have w3 : (-128 : Int) ≤ x.i 25 := of_decide_eq_true w25.1
  have w4 : x.i 25 ≤ 127 := of_decide_eq_true w25.2
  have b := plIn x h1
  unfold pl_cs30_6_7
  exact (allC (notT (notF (andT (condT (decide_eq_true (by first | omega | (unfold isub; omega))) rfl) (decide_eq_true (by first | omega | (unfold isub; omega)))))) (allC (notT (notF (notBF ((show (_ : Bool) = plB0 (normL (litL (litL (mkL x 0 (kdsP pl_P0)) 222 6) 223 7)) from by kernel_rfl).trans ((congrArg plB0 (litL_mk2 (litL_mk hz) hz2)).trans h0))))) allN))

theorem pl_f30_6_7 (x : Vars) : (funH Try.prog G26 noLT true 1000 30 (argsP pl_P0 0 (litL (litL (mkL x 0 (kdsP pl_P0)) 222 6) 223 7)) (memP pl_P0 (litL (litL (mkL x 0 (kdsP pl_P0)) 222 6) 223 7)) [false, false]).map (fun r => (normR r.1, untupR r.1 && r.1.flat, r.2)) = some (pl_v6_7 x, true, pl_cs30_6_7 x) := by kernel_rfl


noncomputable def pl_cs30_7_0 (x : Vars) : List Bool := [(!(!((bif (decide (7 < (x.i 24))) then true else false) && (decide (0 < (x.i 25)))))), (!(!(decide (((pl_E0_a0 x).i 0) = 0))))]

set_option maxRecDepth 100000 in
theorem pl_c30_7_0 (x : Vars) (ho : OkV (kdsP pl_P0) x) (h0 : plB0 (mkL x 0 (kdsP pl_P0)) = false) (h1 : plB1 (mkL x 0 (kdsP pl_P0)) = false) (hz : x.i 222 = 7) (hz2 : x.i 223 = 0) : ∀ b ∈ pl_cs30_7_0 x, b = true := by
  have w24 := Bool.and_eq_true_iff.1 (ho 24 _ rfl)
  have w25 := Bool.and_eq_true_iff.1 (ho 25 _ rfl)
  have w1 : (-128 : Int) ≤ x.i 24 := of_decide_eq_true w24.1
  have w2 : x.i 24 ≤ 127 := of_decide_eq_true w24.2
  have w3 : (-128 : Int) ≤ x.i 25 := of_decide_eq_true w25.1
  have w4 : x.i 25 ≤ 127 := of_decide_eq_true w25.2
  have b := plIn x h1
  unfold pl_cs30_7_0
  exact (allC (notT (notF (andT (condT (decide_eq_true (by first | omega | (unfold isub; omega))) rfl) (decide_eq_true (by first | omega | (unfold isub; omega)))))) (allC (notT (notF (notBF ((show (_ : Bool) = plB0 (normL (litL (litL (mkL x 0 (kdsP pl_P0)) 222 7) 223 0)) from by kernel_rfl).trans ((congrArg plB0 (litL_mk2 (litL_mk hz) hz2)).trans h0))))) allN))

theorem pl_f30_7_0 (x : Vars) : (funH Try.prog G26 noLT true 1000 30 (argsP pl_P0 0 (litL (litL (mkL x 0 (kdsP pl_P0)) 222 7) 223 0)) (memP pl_P0 (litL (litL (mkL x 0 (kdsP pl_P0)) 222 7) 223 0)) [false, false]).map (fun r => (normR r.1, untupR r.1 && r.1.flat, r.2)) = some (pl_v7_0 x, true, pl_cs30_7_0 x) := by kernel_rfl


noncomputable def pl_cs30_7_1 (x : Vars) : List Bool := [(!(!((bif (decide (7 < (x.i 24))) then true else false) && (decide (1 < (x.i 25)))))), (!(!(decide (((pl_E0_a0 x).i 0) = 0))))]

set_option maxRecDepth 100000 in
theorem pl_c30_7_1 (x : Vars) (ho : OkV (kdsP pl_P0) x) (h0 : plB0 (mkL x 0 (kdsP pl_P0)) = false) (h1 : plB1 (mkL x 0 (kdsP pl_P0)) = false) (hz : x.i 222 = 7) (hz2 : x.i 223 = 1) : ∀ b ∈ pl_cs30_7_1 x, b = true := by
  have w24 := Bool.and_eq_true_iff.1 (ho 24 _ rfl)
  have w25 := Bool.and_eq_true_iff.1 (ho 25 _ rfl)
  have w1 : (-128 : Int) ≤ x.i 24 := of_decide_eq_true w24.1
  have w2 : x.i 24 ≤ 127 := of_decide_eq_true w24.2
  have w3 : (-128 : Int) ≤ x.i 25 := of_decide_eq_true w25.1
  have w4 : x.i 25 ≤ 127 := of_decide_eq_true w25.2
  have b := plIn x h1
  unfold pl_cs30_7_1
  exact (allC (notT (notF (andT (condT (decide_eq_true (by first | omega | (unfold isub; omega))) rfl) (decide_eq_true (by first | omega | (unfold isub; omega)))))) (allC (notT (notF (notBF ((show (_ : Bool) = plB0 (normL (litL (litL (mkL x 0 (kdsP pl_P0)) 222 7) 223 1)) from by kernel_rfl).trans ((congrArg plB0 (litL_mk2 (litL_mk hz) hz2)).trans h0))))) allN))

theorem pl_f30_7_1 (x : Vars) : (funH Try.prog G26 noLT true 1000 30 (argsP pl_P0 0 (litL (litL (mkL x 0 (kdsP pl_P0)) 222 7) 223 1)) (memP pl_P0 (litL (litL (mkL x 0 (kdsP pl_P0)) 222 7) 223 1)) [false, false]).map (fun r => (normR r.1, untupR r.1 && r.1.flat, r.2)) = some (pl_v7_1 x, true, pl_cs30_7_1 x) := by kernel_rfl


noncomputable def pl_cs30_7_2 (x : Vars) : List Bool := [(!(!((bif (decide (7 < (x.i 24))) then true else false) && (decide (2 < (x.i 25)))))), (!(!(decide (((pl_E0_a0 x).i 0) = 0))))]

set_option maxRecDepth 100000 in
theorem pl_c30_7_2 (x : Vars) (ho : OkV (kdsP pl_P0) x) (h0 : plB0 (mkL x 0 (kdsP pl_P0)) = false) (h1 : plB1 (mkL x 0 (kdsP pl_P0)) = false) (hz : x.i 222 = 7) (hz2 : x.i 223 = 2) : ∀ b ∈ pl_cs30_7_2 x, b = true := by
  have w24 := Bool.and_eq_true_iff.1 (ho 24 _ rfl)
  have w25 := Bool.and_eq_true_iff.1 (ho 25 _ rfl)
  have w1 : (-128 : Int) ≤ x.i 24 := of_decide_eq_true w24.1
  have w2 : x.i 24 ≤ 127 := of_decide_eq_true w24.2
  have w3 : (-128 : Int) ≤ x.i 25 := of_decide_eq_true w25.1
  have w4 : x.i 25 ≤ 127 := of_decide_eq_true w25.2
  have b := plIn x h1
  unfold pl_cs30_7_2
  exact (allC (notT (notF (andT (condT (decide_eq_true (by first | omega | (unfold isub; omega))) rfl) (decide_eq_true (by first | omega | (unfold isub; omega)))))) (allC (notT (notF (notBF ((show (_ : Bool) = plB0 (normL (litL (litL (mkL x 0 (kdsP pl_P0)) 222 7) 223 2)) from by kernel_rfl).trans ((congrArg plB0 (litL_mk2 (litL_mk hz) hz2)).trans h0))))) allN))

theorem pl_f30_7_2 (x : Vars) : (funH Try.prog G26 noLT true 1000 30 (argsP pl_P0 0 (litL (litL (mkL x 0 (kdsP pl_P0)) 222 7) 223 2)) (memP pl_P0 (litL (litL (mkL x 0 (kdsP pl_P0)) 222 7) 223 2)) [false, false]).map (fun r => (normR r.1, untupR r.1 && r.1.flat, r.2)) = some (pl_v7_2 x, true, pl_cs30_7_2 x) := by kernel_rfl


noncomputable def pl_cs30_7_3 (x : Vars) : List Bool := [(!(!((bif (decide (7 < (x.i 24))) then true else false) && (decide (3 < (x.i 25)))))), (!(!(decide (((pl_E0_a0 x).i 0) = 0))))]

set_option maxRecDepth 100000 in
theorem pl_c30_7_3 (x : Vars) (ho : OkV (kdsP pl_P0) x) (h0 : plB0 (mkL x 0 (kdsP pl_P0)) = false) (h1 : plB1 (mkL x 0 (kdsP pl_P0)) = false) (hz : x.i 222 = 7) (hz2 : x.i 223 = 3) : ∀ b ∈ pl_cs30_7_3 x, b = true := by
  have w24 := Bool.and_eq_true_iff.1 (ho 24 _ rfl)
  have w25 := Bool.and_eq_true_iff.1 (ho 25 _ rfl)
  have w1 : (-128 : Int) ≤ x.i 24 := of_decide_eq_true w24.1
  have w2 : x.i 24 ≤ 127 := of_decide_eq_true w24.2
  have w3 : (-128 : Int) ≤ x.i 25 := of_decide_eq_true w25.1
  have w4 : x.i 25 ≤ 127 := of_decide_eq_true w25.2
  have b := plIn x h1
  unfold pl_cs30_7_3
  exact (allC (notT (notF (andT (condT (decide_eq_true (by first | omega | (unfold isub; omega))) rfl) (decide_eq_true (by first | omega | (unfold isub; omega)))))) (allC (notT (notF (notBF ((show (_ : Bool) = plB0 (normL (litL (litL (mkL x 0 (kdsP pl_P0)) 222 7) 223 3)) from by kernel_rfl).trans ((congrArg plB0 (litL_mk2 (litL_mk hz) hz2)).trans h0))))) allN))

theorem pl_f30_7_3 (x : Vars) : (funH Try.prog G26 noLT true 1000 30 (argsP pl_P0 0 (litL (litL (mkL x 0 (kdsP pl_P0)) 222 7) 223 3)) (memP pl_P0 (litL (litL (mkL x 0 (kdsP pl_P0)) 222 7) 223 3)) [false, false]).map (fun r => (normR r.1, untupR r.1 && r.1.flat, r.2)) = some (pl_v7_3 x, true, pl_cs30_7_3 x) := by kernel_rfl


noncomputable def pl_cs30_7_4 (x : Vars) : List Bool := [(!(!((bif (decide (7 < (x.i 24))) then true else false) && (decide (4 < (x.i 25)))))), (!(!(decide (((pl_E0_a0 x).i 0) = 0))))]

set_option maxRecDepth 100000 in
theorem pl_c30_7_4 (x : Vars) (ho : OkV (kdsP pl_P0) x) (h0 : plB0 (mkL x 0 (kdsP pl_P0)) = false) (h1 : plB1 (mkL x 0 (kdsP pl_P0)) = false) (hz : x.i 222 = 7) (hz2 : x.i 223 = 4) : ∀ b ∈ pl_cs30_7_4 x, b = true := by
  have w24 := Bool.and_eq_true_iff.1 (ho 24 _ rfl)
  have w25 := Bool.and_eq_true_iff.1 (ho 25 _ rfl)
  have w1 : (-128 : Int) ≤ x.i 24 := of_decide_eq_true w24.1
  have w2 : x.i 24 ≤ 127 := of_decide_eq_true w24.2
  have w3 : (-128 : Int) ≤ x.i 25 := of_decide_eq_true w25.1
  have w4 : x.i 25 ≤ 127 := of_decide_eq_true w25.2
  have b := plIn x h1
  unfold pl_cs30_7_4
  exact (allC (notT (notF (andT (condT (decide_eq_true (by first | omega | (unfold isub; omega))) rfl) (decide_eq_true (by first | omega | (unfold isub; omega)))))) (allC (notT (notF (notBF ((show (_ : Bool) = plB0 (normL (litL (litL (mkL x 0 (kdsP pl_P0)) 222 7) 223 4)) from by kernel_rfl).trans ((congrArg plB0 (litL_mk2 (litL_mk hz) hz2)).trans h0))))) allN))

theorem pl_f30_7_4 (x : Vars) : (funH Try.prog G26 noLT true 1000 30 (argsP pl_P0 0 (litL (litL (mkL x 0 (kdsP pl_P0)) 222 7) 223 4)) (memP pl_P0 (litL (litL (mkL x 0 (kdsP pl_P0)) 222 7) 223 4)) [false, false]).map (fun r => (normR r.1, untupR r.1 && r.1.flat, r.2)) = some (pl_v7_4 x, true, pl_cs30_7_4 x) := by kernel_rfl


noncomputable def pl_cs30_7_5 (x : Vars) : List Bool := [(!(!((bif (decide (7 < (x.i 24))) then true else false) && (decide (5 < (x.i 25)))))), (!(!(decide (((pl_E0_a0 x).i 0) = 0))))]

set_option maxRecDepth 100000 in
theorem pl_c30_7_5 (x : Vars) (ho : OkV (kdsP pl_P0) x) (h0 : plB0 (mkL x 0 (kdsP pl_P0)) = false) (h1 : plB1 (mkL x 0 (kdsP pl_P0)) = false) (hz : x.i 222 = 7) (hz2 : x.i 223 = 5) : ∀ b ∈ pl_cs30_7_5 x, b = true := by
  have w24 := Bool.and_eq_true_iff.1 (ho 24 _ rfl)
  have w25 := Bool.and_eq_true_iff.1 (ho 25 _ rfl)
  have w1 : (-128 : Int) ≤ x.i 24 := of_decide_eq_true w24.1
  have w2 : x.i 24 ≤ 127 := of_decide_eq_true w24.2
  have w3 : (-128 : Int) ≤ x.i 25 := of_decide_eq_true w25.1
  have w4 : x.i 25 ≤ 127 := of_decide_eq_true w25.2
  have b := plIn x h1
  unfold pl_cs30_7_5
  exact (allC (notT (notF (andT (condT (decide_eq_true (by first | omega | (unfold isub; omega))) rfl) (decide_eq_true (by first | omega | (unfold isub; omega)))))) (allC (notT (notF (notBF ((show (_ : Bool) = plB0 (normL (litL (litL (mkL x 0 (kdsP pl_P0)) 222 7) 223 5)) from by kernel_rfl).trans ((congrArg plB0 (litL_mk2 (litL_mk hz) hz2)).trans h0))))) allN))

theorem pl_f30_7_5 (x : Vars) : (funH Try.prog G26 noLT true 1000 30 (argsP pl_P0 0 (litL (litL (mkL x 0 (kdsP pl_P0)) 222 7) 223 5)) (memP pl_P0 (litL (litL (mkL x 0 (kdsP pl_P0)) 222 7) 223 5)) [false, false]).map (fun r => (normR r.1, untupR r.1 && r.1.flat, r.2)) = some (pl_v7_5 x, true, pl_cs30_7_5 x) := by kernel_rfl


noncomputable def pl_cs30_7_6 (x : Vars) : List Bool := [(!(!((bif (decide (7 < (x.i 24))) then true else false) && (decide (6 < (x.i 25)))))), (!(!(decide (((pl_E0_a0 x).i 0) = 0))))]

set_option maxRecDepth 100000 in
theorem pl_c30_7_6 (x : Vars) (ho : OkV (kdsP pl_P0) x) (h0 : plB0 (mkL x 0 (kdsP pl_P0)) = false) (h1 : plB1 (mkL x 0 (kdsP pl_P0)) = false) (hz : x.i 222 = 7) (hz2 : x.i 223 = 6) : ∀ b ∈ pl_cs30_7_6 x, b = true := by
  have w24 := Bool.and_eq_true_iff.1 (ho 24 _ rfl)
  have w25 := Bool.and_eq_true_iff.1 (ho 25 _ rfl)
  have w1 : (-128 : Int) ≤ x.i 24 := of_decide_eq_true w24.1
  have w2 : x.i 24 ≤ 127 := of_decide_eq_true w24.2
  have w3 : (-128 : Int) ≤ x.i 25 := of_decide_eq_true w25.1
  have w4 : x.i 25 ≤ 127 := of_decide_eq_true w25.2
  have b := plIn x h1
  unfold pl_cs30_7_6
  exact (allC (notT (notF (andT (condT (decide_eq_true (by first | omega | (unfold isub; omega))) rfl) (decide_eq_true (by first | omega | (unfold isub; omega)))))) (allC (notT (notF (notBF ((show (_ : Bool) = plB0 (normL (litL (litL (mkL x 0 (kdsP pl_P0)) 222 7) 223 6)) from by kernel_rfl).trans ((congrArg plB0 (litL_mk2 (litL_mk hz) hz2)).trans h0))))) allN))

theorem pl_f30_7_6 (x : Vars) : (funH Try.prog G26 noLT true 1000 30 (argsP pl_P0 0 (litL (litL (mkL x 0 (kdsP pl_P0)) 222 7) 223 6)) (memP pl_P0 (litL (litL (mkL x 0 (kdsP pl_P0)) 222 7) 223 6)) [false, false]).map (fun r => (normR r.1, untupR r.1 && r.1.flat, r.2)) = some (pl_v7_6 x, true, pl_cs30_7_6 x) := by kernel_rfl


noncomputable def pl_cs30_7_7 (x : Vars) : List Bool := [(!(!((bif (decide (7 < (x.i 24))) then true else false) && (decide (7 < (x.i 25)))))), (!(!(decide (((pl_E0_a0 x).i 0) = 0))))]

set_option maxRecDepth 100000 in
theorem pl_c30_7_7 (x : Vars) (ho : OkV (kdsP pl_P0) x) (h0 : plB0 (mkL x 0 (kdsP pl_P0)) = false) (h1 : plB1 (mkL x 0 (kdsP pl_P0)) = false) (hz : x.i 222 = 7) (hz2 : x.i 223 = 7) : ∀ b ∈ pl_cs30_7_7 x, b = true := by
  have w24 := Bool.and_eq_true_iff.1 (ho 24 _ rfl)
  have w25 := Bool.and_eq_true_iff.1 (ho 25 _ rfl)
  have w1 : (-128 : Int) ≤ x.i 24 := of_decide_eq_true w24.1
  have w2 : x.i 24 ≤ 127 := of_decide_eq_true w24.2
  have w3 : (-128 : Int) ≤ x.i 25 := of_decide_eq_true w25.1
  have w4 : x.i 25 ≤ 127 := of_decide_eq_true w25.2
  have b := plIn x h1
  unfold pl_cs30_7_7
  exact (allC (notT (notF (andT (condT (decide_eq_true (by first | omega | (unfold isub; omega))) rfl) (decide_eq_true (by first | omega | (unfold isub; omega)))))) (allC (notT (notF (notBF ((show (_ : Bool) = plB0 (normL (litL (litL (mkL x 0 (kdsP pl_P0)) 222 7) 223 7)) from by kernel_rfl).trans ((congrArg plB0 (litL_mk2 (litL_mk hz) hz2)).trans h0))))) allN))

theorem pl_f30_7_7 (x : Vars) : (funH Try.prog G26 noLT true 1000 30 (argsP pl_P0 0 (litL (litL (mkL x 0 (kdsP pl_P0)) 222 7) 223 7)) (memP pl_P0 (litL (litL (mkL x 0 (kdsP pl_P0)) 222 7) 223 7)) [false, false]).map (fun r => (normR r.1, untupR r.1 && r.1.flat, r.2)) = some (pl_v7_7 x, true, pl_cs30_7_7 x) := by kernel_rfl

theorem pl_ev30 (x : Vars) (ho : OkV (kdsP pl_P0) x) : EvP Try.prog G26 30 pl_P0 [.ag kd1, .sc (.int .i64)] (mkL x 0 (kdsP pl_P0)) (plR0 (mkL x 0 (kdsP pl_P0))) := by
  cases h0 : plB0 (mkL x 0 (kdsP pl_P0)) with
  | true =>
    have e : plR0 (mkL x 0 (kdsP pl_P0)) = plZE0 (mkL x 0 (kdsP pl_P0)) := by unfold plR0; rw [h0]; rfl
    rw [e]
    exact EvP.ofH (H := noLT) (J := true) (HFun.none Try.prog _ 30) (mkL_norm ..) (by rw [pl_xE0]; exact pl_f30_E0 x) (pl_c30_E0 x ho h0)
  | false =>
  cases h1 : plB1 (mkL x 0 (kdsP pl_P0)) with
  | true =>
    have e : plR0 (mkL x 0 (kdsP pl_P0)) = plZE1 (mkL x 0 (kdsP pl_P0)) := by unfold plR0; rw [h0, h1]; rfl
    rw [e]
    exact EvP.ofH (H := noLT) (J := true) (HFun.none Try.prog _ 30) (mkL_norm ..) (by rw [pl_xE1]; exact pl_f30_E1 x) (pl_c30_E1 x ho h0 h1)
  | false =>
  have hr := plRng x h0 h1
  have c0 : x.i 222 = 0 ∨ x.i 222 = 1 ∨ x.i 222 = 2 ∨ x.i 222 = 3 ∨ x.i 222 = 4 ∨ x.i 222 = 5 ∨ x.i 222 = 6 ∨ x.i 222 = 7 := by omega
  rcases c0 with hz | hz | hz | hz | hz | hz | hz | hz
  · have c1 : x.i 223 = 0 ∨ x.i 223 = 1 ∨ x.i 223 = 2 ∨ x.i 223 = 3 ∨ x.i 223 = 4 ∨ x.i 223 = 5 ∨ x.i 223 = 6 ∨ x.i 223 = 7 := by omega
    rcases c1 with hz2 | hz2 | hz2 | hz2 | hz2 | hz2 | hz2 | hz2
    · have e : plR0 (mkL x 0 (kdsP pl_P0)) = plZ0_0 (mkL x 0 (kdsP pl_P0)) := by
        unfold plR0
        have hz : intOf (leafN (mkL x 0 (kdsP pl_P0)) 222) = 0 := hz
        have hz2 : intOf (leafN (mkL x 0 (kdsP pl_P0)) 223) = 0 := hz2
        rw [h0, h1, hz, hz2]
        rfl
      rw [e]
      exact EvP.ofH (H := noLT) (J := true) (HFun.none Try.prog _ 30) (litL_mk2 (litL_mk hz) hz2) (by rw [pl_x0_0]; exact pl_f30_0_0 x) (pl_c30_0_0 x ho h0 h1 hz hz2)
    · have e : plR0 (mkL x 0 (kdsP pl_P0)) = plZ0_1 (mkL x 0 (kdsP pl_P0)) := by
        unfold plR0
        have hz : intOf (leafN (mkL x 0 (kdsP pl_P0)) 222) = 0 := hz
        have hz2 : intOf (leafN (mkL x 0 (kdsP pl_P0)) 223) = 1 := hz2
        rw [h0, h1, hz, hz2]
        rfl
      rw [e]
      exact EvP.ofH (H := noLT) (J := true) (HFun.none Try.prog _ 30) (litL_mk2 (litL_mk hz) hz2) (by rw [pl_x0_1]; exact pl_f30_0_1 x) (pl_c30_0_1 x ho h0 h1 hz hz2)
    · have e : plR0 (mkL x 0 (kdsP pl_P0)) = plZ0_2 (mkL x 0 (kdsP pl_P0)) := by
        unfold plR0
        have hz : intOf (leafN (mkL x 0 (kdsP pl_P0)) 222) = 0 := hz
        have hz2 : intOf (leafN (mkL x 0 (kdsP pl_P0)) 223) = 2 := hz2
        rw [h0, h1, hz, hz2]
        rfl
      rw [e]
      exact EvP.ofH (H := noLT) (J := true) (HFun.none Try.prog _ 30) (litL_mk2 (litL_mk hz) hz2) (by rw [pl_x0_2]; exact pl_f30_0_2 x) (pl_c30_0_2 x ho h0 h1 hz hz2)
    · have e : plR0 (mkL x 0 (kdsP pl_P0)) = plZ0_3 (mkL x 0 (kdsP pl_P0)) := by
        unfold plR0
        have hz : intOf (leafN (mkL x 0 (kdsP pl_P0)) 222) = 0 := hz
        have hz2 : intOf (leafN (mkL x 0 (kdsP pl_P0)) 223) = 3 := hz2
        rw [h0, h1, hz, hz2]
        rfl
      rw [e]
      exact EvP.ofH (H := noLT) (J := true) (HFun.none Try.prog _ 30) (litL_mk2 (litL_mk hz) hz2) (by rw [pl_x0_3]; exact pl_f30_0_3 x) (pl_c30_0_3 x ho h0 h1 hz hz2)
    · have e : plR0 (mkL x 0 (kdsP pl_P0)) = plZ0_4 (mkL x 0 (kdsP pl_P0)) := by
        unfold plR0
        have hz : intOf (leafN (mkL x 0 (kdsP pl_P0)) 222) = 0 := hz
        have hz2 : intOf (leafN (mkL x 0 (kdsP pl_P0)) 223) = 4 := hz2
        rw [h0, h1, hz, hz2]
        rfl
      rw [e]
      exact EvP.ofH (H := noLT) (J := true) (HFun.none Try.prog _ 30) (litL_mk2 (litL_mk hz) hz2) (by rw [pl_x0_4]; exact pl_f30_0_4 x) (pl_c30_0_4 x ho h0 h1 hz hz2)
    · have e : plR0 (mkL x 0 (kdsP pl_P0)) = plZ0_5 (mkL x 0 (kdsP pl_P0)) := by
        unfold plR0
        have hz : intOf (leafN (mkL x 0 (kdsP pl_P0)) 222) = 0 := hz
        have hz2 : intOf (leafN (mkL x 0 (kdsP pl_P0)) 223) = 5 := hz2
        rw [h0, h1, hz, hz2]
        rfl
      rw [e]
      exact EvP.ofH (H := noLT) (J := true) (HFun.none Try.prog _ 30) (litL_mk2 (litL_mk hz) hz2) (by rw [pl_x0_5]; exact pl_f30_0_5 x) (pl_c30_0_5 x ho h0 h1 hz hz2)
    · have e : plR0 (mkL x 0 (kdsP pl_P0)) = plZ0_6 (mkL x 0 (kdsP pl_P0)) := by
        unfold plR0
        have hz : intOf (leafN (mkL x 0 (kdsP pl_P0)) 222) = 0 := hz
        have hz2 : intOf (leafN (mkL x 0 (kdsP pl_P0)) 223) = 6 := hz2
        rw [h0, h1, hz, hz2]
        rfl
      rw [e]
      exact EvP.ofH (H := noLT) (J := true) (HFun.none Try.prog _ 30) (litL_mk2 (litL_mk hz) hz2) (by rw [pl_x0_6]; exact pl_f30_0_6 x) (pl_c30_0_6 x ho h0 h1 hz hz2)
    · have e : plR0 (mkL x 0 (kdsP pl_P0)) = plZ0_7 (mkL x 0 (kdsP pl_P0)) := by
        unfold plR0
        have hz : intOf (leafN (mkL x 0 (kdsP pl_P0)) 222) = 0 := hz
        have hz2 : intOf (leafN (mkL x 0 (kdsP pl_P0)) 223) = 7 := hz2
        rw [h0, h1, hz, hz2]
        rfl
      rw [e]
      exact EvP.ofH (H := noLT) (J := true) (HFun.none Try.prog _ 30) (litL_mk2 (litL_mk hz) hz2) (by rw [pl_x0_7]; exact pl_f30_0_7 x) (pl_c30_0_7 x ho h0 h1 hz hz2)
  · have c1 : x.i 223 = 0 ∨ x.i 223 = 1 ∨ x.i 223 = 2 ∨ x.i 223 = 3 ∨ x.i 223 = 4 ∨ x.i 223 = 5 ∨ x.i 223 = 6 ∨ x.i 223 = 7 := by omega
    rcases c1 with hz2 | hz2 | hz2 | hz2 | hz2 | hz2 | hz2 | hz2
    · have e : plR0 (mkL x 0 (kdsP pl_P0)) = plZ1_0 (mkL x 0 (kdsP pl_P0)) := by
        unfold plR0
        have hz : intOf (leafN (mkL x 0 (kdsP pl_P0)) 222) = 1 := hz
        have hz2 : intOf (leafN (mkL x 0 (kdsP pl_P0)) 223) = 0 := hz2
        rw [h0, h1, hz, hz2]
        rfl
      rw [e]
      exact EvP.ofH (H := noLT) (J := true) (HFun.none Try.prog _ 30) (litL_mk2 (litL_mk hz) hz2) (by rw [pl_x1_0]; exact pl_f30_1_0 x) (pl_c30_1_0 x ho h0 h1 hz hz2)
    · have e : plR0 (mkL x 0 (kdsP pl_P0)) = plZ1_1 (mkL x 0 (kdsP pl_P0)) := by
        unfold plR0
        have hz : intOf (leafN (mkL x 0 (kdsP pl_P0)) 222) = 1 := hz
        have hz2 : intOf (leafN (mkL x 0 (kdsP pl_P0)) 223) = 1 := hz2
        rw [h0, h1, hz, hz2]
        rfl
      rw [e]
      exact EvP.ofH (H := noLT) (J := true) (HFun.none Try.prog _ 30) (litL_mk2 (litL_mk hz) hz2) (by rw [pl_x1_1]; exact pl_f30_1_1 x) (pl_c30_1_1 x ho h0 h1 hz hz2)
    · have e : plR0 (mkL x 0 (kdsP pl_P0)) = plZ1_2 (mkL x 0 (kdsP pl_P0)) := by
        unfold plR0
        have hz : intOf (leafN (mkL x 0 (kdsP pl_P0)) 222) = 1 := hz
        have hz2 : intOf (leafN (mkL x 0 (kdsP pl_P0)) 223) = 2 := hz2
        rw [h0, h1, hz, hz2]
        rfl
      rw [e]
      exact EvP.ofH (H := noLT) (J := true) (HFun.none Try.prog _ 30) (litL_mk2 (litL_mk hz) hz2) (by rw [pl_x1_2]; exact pl_f30_1_2 x) (pl_c30_1_2 x ho h0 h1 hz hz2)
    · have e : plR0 (mkL x 0 (kdsP pl_P0)) = plZ1_3 (mkL x 0 (kdsP pl_P0)) := by
        unfold plR0
        have hz : intOf (leafN (mkL x 0 (kdsP pl_P0)) 222) = 1 := hz
        have hz2 : intOf (leafN (mkL x 0 (kdsP pl_P0)) 223) = 3 := hz2
        rw [h0, h1, hz, hz2]
        rfl
      rw [e]
      exact EvP.ofH (H := noLT) (J := true) (HFun.none Try.prog _ 30) (litL_mk2 (litL_mk hz) hz2) (by rw [pl_x1_3]; exact pl_f30_1_3 x) (pl_c30_1_3 x ho h0 h1 hz hz2)
    · have e : plR0 (mkL x 0 (kdsP pl_P0)) = plZ1_4 (mkL x 0 (kdsP pl_P0)) := by
        unfold plR0
        have hz : intOf (leafN (mkL x 0 (kdsP pl_P0)) 222) = 1 := hz
        have hz2 : intOf (leafN (mkL x 0 (kdsP pl_P0)) 223) = 4 := hz2
        rw [h0, h1, hz, hz2]
        rfl
      rw [e]
      exact EvP.ofH (H := noLT) (J := true) (HFun.none Try.prog _ 30) (litL_mk2 (litL_mk hz) hz2) (by rw [pl_x1_4]; exact pl_f30_1_4 x) (pl_c30_1_4 x ho h0 h1 hz hz2)
    · have e : plR0 (mkL x 0 (kdsP pl_P0)) = plZ1_5 (mkL x 0 (kdsP pl_P0)) := by
        unfold plR0
        have hz : intOf (leafN (mkL x 0 (kdsP pl_P0)) 222) = 1 := hz
        have hz2 : intOf (leafN (mkL x 0 (kdsP pl_P0)) 223) = 5 := hz2
        rw [h0, h1, hz, hz2]
        rfl
      rw [e]
      exact EvP.ofH (H := noLT) (J := true) (HFun.none Try.prog _ 30) (litL_mk2 (litL_mk hz) hz2) (by rw [pl_x1_5]; exact pl_f30_1_5 x) (pl_c30_1_5 x ho h0 h1 hz hz2)
    · have e : plR0 (mkL x 0 (kdsP pl_P0)) = plZ1_6 (mkL x 0 (kdsP pl_P0)) := by
        unfold plR0
        have hz : intOf (leafN (mkL x 0 (kdsP pl_P0)) 222) = 1 := hz
        have hz2 : intOf (leafN (mkL x 0 (kdsP pl_P0)) 223) = 6 := hz2
        rw [h0, h1, hz, hz2]
        rfl
      rw [e]
      exact EvP.ofH (H := noLT) (J := true) (HFun.none Try.prog _ 30) (litL_mk2 (litL_mk hz) hz2) (by rw [pl_x1_6]; exact pl_f30_1_6 x) (pl_c30_1_6 x ho h0 h1 hz hz2)
    · have e : plR0 (mkL x 0 (kdsP pl_P0)) = plZ1_7 (mkL x 0 (kdsP pl_P0)) := by
        unfold plR0
        have hz : intOf (leafN (mkL x 0 (kdsP pl_P0)) 222) = 1 := hz
        have hz2 : intOf (leafN (mkL x 0 (kdsP pl_P0)) 223) = 7 := hz2
        rw [h0, h1, hz, hz2]
        rfl
      rw [e]
      exact EvP.ofH (H := noLT) (J := true) (HFun.none Try.prog _ 30) (litL_mk2 (litL_mk hz) hz2) (by rw [pl_x1_7]; exact pl_f30_1_7 x) (pl_c30_1_7 x ho h0 h1 hz hz2)
  · have c1 : x.i 223 = 0 ∨ x.i 223 = 1 ∨ x.i 223 = 2 ∨ x.i 223 = 3 ∨ x.i 223 = 4 ∨ x.i 223 = 5 ∨ x.i 223 = 6 ∨ x.i 223 = 7 := by omega
    rcases c1 with hz2 | hz2 | hz2 | hz2 | hz2 | hz2 | hz2 | hz2
    · have e : plR0 (mkL x 0 (kdsP pl_P0)) = plZ2_0 (mkL x 0 (kdsP pl_P0)) := by
        unfold plR0
        have hz : intOf (leafN (mkL x 0 (kdsP pl_P0)) 222) = 2 := hz
        have hz2 : intOf (leafN (mkL x 0 (kdsP pl_P0)) 223) = 0 := hz2
        rw [h0, h1, hz, hz2]
        rfl
      rw [e]
      exact EvP.ofH (H := noLT) (J := true) (HFun.none Try.prog _ 30) (litL_mk2 (litL_mk hz) hz2) (by rw [pl_x2_0]; exact pl_f30_2_0 x) (pl_c30_2_0 x ho h0 h1 hz hz2)
    · have e : plR0 (mkL x 0 (kdsP pl_P0)) = plZ2_1 (mkL x 0 (kdsP pl_P0)) := by
        unfold plR0
        have hz : intOf (leafN (mkL x 0 (kdsP pl_P0)) 222) = 2 := hz
        have hz2 : intOf (leafN (mkL x 0 (kdsP pl_P0)) 223) = 1 := hz2
        rw [h0, h1, hz, hz2]
        rfl
      rw [e]
      exact EvP.ofH (H := noLT) (J := true) (HFun.none Try.prog _ 30) (litL_mk2 (litL_mk hz) hz2) (by rw [pl_x2_1]; exact pl_f30_2_1 x) (pl_c30_2_1 x ho h0 h1 hz hz2)
    · have e : plR0 (mkL x 0 (kdsP pl_P0)) = plZ2_2 (mkL x 0 (kdsP pl_P0)) := by
        unfold plR0
        have hz : intOf (leafN (mkL x 0 (kdsP pl_P0)) 222) = 2 := hz
        have hz2 : intOf (leafN (mkL x 0 (kdsP pl_P0)) 223) = 2 := hz2
        rw [h0, h1, hz, hz2]
        rfl
      rw [e]
      exact EvP.ofH (H := noLT) (J := true) (HFun.none Try.prog _ 30) (litL_mk2 (litL_mk hz) hz2) (by rw [pl_x2_2]; exact pl_f30_2_2 x) (pl_c30_2_2 x ho h0 h1 hz hz2)
    · have e : plR0 (mkL x 0 (kdsP pl_P0)) = plZ2_3 (mkL x 0 (kdsP pl_P0)) := by
        unfold plR0
        have hz : intOf (leafN (mkL x 0 (kdsP pl_P0)) 222) = 2 := hz
        have hz2 : intOf (leafN (mkL x 0 (kdsP pl_P0)) 223) = 3 := hz2
        rw [h0, h1, hz, hz2]
        rfl
      rw [e]
      exact EvP.ofH (H := noLT) (J := true) (HFun.none Try.prog _ 30) (litL_mk2 (litL_mk hz) hz2) (by rw [pl_x2_3]; exact pl_f30_2_3 x) (pl_c30_2_3 x ho h0 h1 hz hz2)
    · have e : plR0 (mkL x 0 (kdsP pl_P0)) = plZ2_4 (mkL x 0 (kdsP pl_P0)) := by
        unfold plR0
        have hz : intOf (leafN (mkL x 0 (kdsP pl_P0)) 222) = 2 := hz
        have hz2 : intOf (leafN (mkL x 0 (kdsP pl_P0)) 223) = 4 := hz2
        rw [h0, h1, hz, hz2]
        rfl
      rw [e]
      exact EvP.ofH (H := noLT) (J := true) (HFun.none Try.prog _ 30) (litL_mk2 (litL_mk hz) hz2) (by rw [pl_x2_4]; exact pl_f30_2_4 x) (pl_c30_2_4 x ho h0 h1 hz hz2)
    · have e : plR0 (mkL x 0 (kdsP pl_P0)) = plZ2_5 (mkL x 0 (kdsP pl_P0)) := by
        unfold plR0
        have hz : intOf (leafN (mkL x 0 (kdsP pl_P0)) 222) = 2 := hz
        have hz2 : intOf (leafN (mkL x 0 (kdsP pl_P0)) 223) = 5 := hz2
        rw [h0, h1, hz, hz2]
        rfl
      rw [e]
      exact EvP.ofH (H := noLT) (J := true) (HFun.none Try.prog _ 30) (litL_mk2 (litL_mk hz) hz2) (by rw [pl_x2_5]; exact pl_f30_2_5 x) (pl_c30_2_5 x ho h0 h1 hz hz2)
    · have e : plR0 (mkL x 0 (kdsP pl_P0)) = plZ2_6 (mkL x 0 (kdsP pl_P0)) := by
        unfold plR0
        have hz : intOf (leafN (mkL x 0 (kdsP pl_P0)) 222) = 2 := hz
        have hz2 : intOf (leafN (mkL x 0 (kdsP pl_P0)) 223) = 6 := hz2
        rw [h0, h1, hz, hz2]
        rfl
      rw [e]
      exact EvP.ofH (H := noLT) (J := true) (HFun.none Try.prog _ 30) (litL_mk2 (litL_mk hz) hz2) (by rw [pl_x2_6]; exact pl_f30_2_6 x) (pl_c30_2_6 x ho h0 h1 hz hz2)
    · have e : plR0 (mkL x 0 (kdsP pl_P0)) = plZ2_7 (mkL x 0 (kdsP pl_P0)) := by
        unfold plR0
        have hz : intOf (leafN (mkL x 0 (kdsP pl_P0)) 222) = 2 := hz
        have hz2 : intOf (leafN (mkL x 0 (kdsP pl_P0)) 223) = 7 := hz2
        rw [h0, h1, hz, hz2]
        rfl
      rw [e]
      exact EvP.ofH (H := noLT) (J := true) (HFun.none Try.prog _ 30) (litL_mk2 (litL_mk hz) hz2) (by rw [pl_x2_7]; exact pl_f30_2_7 x) (pl_c30_2_7 x ho h0 h1 hz hz2)
  · have c1 : x.i 223 = 0 ∨ x.i 223 = 1 ∨ x.i 223 = 2 ∨ x.i 223 = 3 ∨ x.i 223 = 4 ∨ x.i 223 = 5 ∨ x.i 223 = 6 ∨ x.i 223 = 7 := by omega
    rcases c1 with hz2 | hz2 | hz2 | hz2 | hz2 | hz2 | hz2 | hz2
    · have e : plR0 (mkL x 0 (kdsP pl_P0)) = plZ3_0 (mkL x 0 (kdsP pl_P0)) := by
        unfold plR0
        have hz : intOf (leafN (mkL x 0 (kdsP pl_P0)) 222) = 3 := hz
        have hz2 : intOf (leafN (mkL x 0 (kdsP pl_P0)) 223) = 0 := hz2
        rw [h0, h1, hz, hz2]
        rfl
      rw [e]
      exact EvP.ofH (H := noLT) (J := true) (HFun.none Try.prog _ 30) (litL_mk2 (litL_mk hz) hz2) (by rw [pl_x3_0]; exact pl_f30_3_0 x) (pl_c30_3_0 x ho h0 h1 hz hz2)
    · have e : plR0 (mkL x 0 (kdsP pl_P0)) = plZ3_1 (mkL x 0 (kdsP pl_P0)) := by
        unfold plR0
        have hz : intOf (leafN (mkL x 0 (kdsP pl_P0)) 222) = 3 := hz
        have hz2 : intOf (leafN (mkL x 0 (kdsP pl_P0)) 223) = 1 := hz2
        rw [h0, h1, hz, hz2]
        rfl
      rw [e]
      exact EvP.ofH (H := noLT) (J := true) (HFun.none Try.prog _ 30) (litL_mk2 (litL_mk hz) hz2) (by rw [pl_x3_1]; exact pl_f30_3_1 x) (pl_c30_3_1 x ho h0 h1 hz hz2)
    · have e : plR0 (mkL x 0 (kdsP pl_P0)) = plZ3_2 (mkL x 0 (kdsP pl_P0)) := by
        unfold plR0
        have hz : intOf (leafN (mkL x 0 (kdsP pl_P0)) 222) = 3 := hz
        have hz2 : intOf (leafN (mkL x 0 (kdsP pl_P0)) 223) = 2 := hz2
        rw [h0, h1, hz, hz2]
        rfl
      rw [e]
      exact EvP.ofH (H := noLT) (J := true) (HFun.none Try.prog _ 30) (litL_mk2 (litL_mk hz) hz2) (by rw [pl_x3_2]; exact pl_f30_3_2 x) (pl_c30_3_2 x ho h0 h1 hz hz2)
    · have e : plR0 (mkL x 0 (kdsP pl_P0)) = plZ3_3 (mkL x 0 (kdsP pl_P0)) := by
        unfold plR0
        have hz : intOf (leafN (mkL x 0 (kdsP pl_P0)) 222) = 3 := hz
        have hz2 : intOf (leafN (mkL x 0 (kdsP pl_P0)) 223) = 3 := hz2
        rw [h0, h1, hz, hz2]
        rfl
      rw [e]
      exact EvP.ofH (H := noLT) (J := true) (HFun.none Try.prog _ 30) (litL_mk2 (litL_mk hz) hz2) (by rw [pl_x3_3]; exact pl_f30_3_3 x) (pl_c30_3_3 x ho h0 h1 hz hz2)
    · have e : plR0 (mkL x 0 (kdsP pl_P0)) = plZ3_4 (mkL x 0 (kdsP pl_P0)) := by
        unfold plR0
        have hz : intOf (leafN (mkL x 0 (kdsP pl_P0)) 222) = 3 := hz
        have hz2 : intOf (leafN (mkL x 0 (kdsP pl_P0)) 223) = 4 := hz2
        rw [h0, h1, hz, hz2]
        rfl
      rw [e]
      exact EvP.ofH (H := noLT) (J := true) (HFun.none Try.prog _ 30) (litL_mk2 (litL_mk hz) hz2) (by rw [pl_x3_4]; exact pl_f30_3_4 x) (pl_c30_3_4 x ho h0 h1 hz hz2)
    · have e : plR0 (mkL x 0 (kdsP pl_P0)) = plZ3_5 (mkL x 0 (kdsP pl_P0)) := by
        unfold plR0
        have hz : intOf (leafN (mkL x 0 (kdsP pl_P0)) 222) = 3 := hz
        have hz2 : intOf (leafN (mkL x 0 (kdsP pl_P0)) 223) = 5 := hz2
        rw [h0, h1, hz, hz2]
        rfl
      rw [e]
      exact EvP.ofH (H := noLT) (J := true) (HFun.none Try.prog _ 30) (litL_mk2 (litL_mk hz) hz2) (by rw [pl_x3_5]; exact pl_f30_3_5 x) (pl_c30_3_5 x ho h0 h1 hz hz2)
    · have e : plR0 (mkL x 0 (kdsP pl_P0)) = plZ3_6 (mkL x 0 (kdsP pl_P0)) := by
        unfold plR0
        have hz : intOf (leafN (mkL x 0 (kdsP pl_P0)) 222) = 3 := hz
        have hz2 : intOf (leafN (mkL x 0 (kdsP pl_P0)) 223) = 6 := hz2
        rw [h0, h1, hz, hz2]
        rfl
      rw [e]
      exact EvP.ofH (H := noLT) (J := true) (HFun.none Try.prog _ 30) (litL_mk2 (litL_mk hz) hz2) (by rw [pl_x3_6]; exact pl_f30_3_6 x) (pl_c30_3_6 x ho h0 h1 hz hz2)
    · have e : plR0 (mkL x 0 (kdsP pl_P0)) = plZ3_7 (mkL x 0 (kdsP pl_P0)) := by
        unfold plR0
        have hz : intOf (leafN (mkL x 0 (kdsP pl_P0)) 222) = 3 := hz
        have hz2 : intOf (leafN (mkL x 0 (kdsP pl_P0)) 223) = 7 := hz2
        rw [h0, h1, hz, hz2]
        rfl
      rw [e]
      exact EvP.ofH (H := noLT) (J := true) (HFun.none Try.prog _ 30) (litL_mk2 (litL_mk hz) hz2) (by rw [pl_x3_7]; exact pl_f30_3_7 x) (pl_c30_3_7 x ho h0 h1 hz hz2)
  · have c1 : x.i 223 = 0 ∨ x.i 223 = 1 ∨ x.i 223 = 2 ∨ x.i 223 = 3 ∨ x.i 223 = 4 ∨ x.i 223 = 5 ∨ x.i 223 = 6 ∨ x.i 223 = 7 := by omega
    rcases c1 with hz2 | hz2 | hz2 | hz2 | hz2 | hz2 | hz2 | hz2
    · have e : plR0 (mkL x 0 (kdsP pl_P0)) = plZ4_0 (mkL x 0 (kdsP pl_P0)) := by
        unfold plR0
        have hz : intOf (leafN (mkL x 0 (kdsP pl_P0)) 222) = 4 := hz
        have hz2 : intOf (leafN (mkL x 0 (kdsP pl_P0)) 223) = 0 := hz2
        rw [h0, h1, hz, hz2]
        rfl
      rw [e]
      exact EvP.ofH (H := noLT) (J := true) (HFun.none Try.prog _ 30) (litL_mk2 (litL_mk hz) hz2) (by rw [pl_x4_0]; exact pl_f30_4_0 x) (pl_c30_4_0 x ho h0 h1 hz hz2)
    · have e : plR0 (mkL x 0 (kdsP pl_P0)) = plZ4_1 (mkL x 0 (kdsP pl_P0)) := by
        unfold plR0
        have hz : intOf (leafN (mkL x 0 (kdsP pl_P0)) 222) = 4 := hz
        have hz2 : intOf (leafN (mkL x 0 (kdsP pl_P0)) 223) = 1 := hz2
        rw [h0, h1, hz, hz2]
        rfl
      rw [e]
      exact EvP.ofH (H := noLT) (J := true) (HFun.none Try.prog _ 30) (litL_mk2 (litL_mk hz) hz2) (by rw [pl_x4_1]; exact pl_f30_4_1 x) (pl_c30_4_1 x ho h0 h1 hz hz2)
    · have e : plR0 (mkL x 0 (kdsP pl_P0)) = plZ4_2 (mkL x 0 (kdsP pl_P0)) := by
        unfold plR0
        have hz : intOf (leafN (mkL x 0 (kdsP pl_P0)) 222) = 4 := hz
        have hz2 : intOf (leafN (mkL x 0 (kdsP pl_P0)) 223) = 2 := hz2
        rw [h0, h1, hz, hz2]
        rfl
      rw [e]
      exact EvP.ofH (H := noLT) (J := true) (HFun.none Try.prog _ 30) (litL_mk2 (litL_mk hz) hz2) (by rw [pl_x4_2]; exact pl_f30_4_2 x) (pl_c30_4_2 x ho h0 h1 hz hz2)
    · have e : plR0 (mkL x 0 (kdsP pl_P0)) = plZ4_3 (mkL x 0 (kdsP pl_P0)) := by
        unfold plR0
        have hz : intOf (leafN (mkL x 0 (kdsP pl_P0)) 222) = 4 := hz
        have hz2 : intOf (leafN (mkL x 0 (kdsP pl_P0)) 223) = 3 := hz2
        rw [h0, h1, hz, hz2]
        rfl
      rw [e]
      exact EvP.ofH (H := noLT) (J := true) (HFun.none Try.prog _ 30) (litL_mk2 (litL_mk hz) hz2) (by rw [pl_x4_3]; exact pl_f30_4_3 x) (pl_c30_4_3 x ho h0 h1 hz hz2)
    · have e : plR0 (mkL x 0 (kdsP pl_P0)) = plZ4_4 (mkL x 0 (kdsP pl_P0)) := by
        unfold plR0
        have hz : intOf (leafN (mkL x 0 (kdsP pl_P0)) 222) = 4 := hz
        have hz2 : intOf (leafN (mkL x 0 (kdsP pl_P0)) 223) = 4 := hz2
        rw [h0, h1, hz, hz2]
        rfl
      rw [e]
      exact EvP.ofH (H := noLT) (J := true) (HFun.none Try.prog _ 30) (litL_mk2 (litL_mk hz) hz2) (by rw [pl_x4_4]; exact pl_f30_4_4 x) (pl_c30_4_4 x ho h0 h1 hz hz2)
    · have e : plR0 (mkL x 0 (kdsP pl_P0)) = plZ4_5 (mkL x 0 (kdsP pl_P0)) := by
        unfold plR0
        have hz : intOf (leafN (mkL x 0 (kdsP pl_P0)) 222) = 4 := hz
        have hz2 : intOf (leafN (mkL x 0 (kdsP pl_P0)) 223) = 5 := hz2
        rw [h0, h1, hz, hz2]
        rfl
      rw [e]
      exact EvP.ofH (H := noLT) (J := true) (HFun.none Try.prog _ 30) (litL_mk2 (litL_mk hz) hz2) (by rw [pl_x4_5]; exact pl_f30_4_5 x) (pl_c30_4_5 x ho h0 h1 hz hz2)
    · have e : plR0 (mkL x 0 (kdsP pl_P0)) = plZ4_6 (mkL x 0 (kdsP pl_P0)) := by
        unfold plR0
        have hz : intOf (leafN (mkL x 0 (kdsP pl_P0)) 222) = 4 := hz
        have hz2 : intOf (leafN (mkL x 0 (kdsP pl_P0)) 223) = 6 := hz2
        rw [h0, h1, hz, hz2]
        rfl
      rw [e]
      exact EvP.ofH (H := noLT) (J := true) (HFun.none Try.prog _ 30) (litL_mk2 (litL_mk hz) hz2) (by rw [pl_x4_6]; exact pl_f30_4_6 x) (pl_c30_4_6 x ho h0 h1 hz hz2)
    · have e : plR0 (mkL x 0 (kdsP pl_P0)) = plZ4_7 (mkL x 0 (kdsP pl_P0)) := by
        unfold plR0
        have hz : intOf (leafN (mkL x 0 (kdsP pl_P0)) 222) = 4 := hz
        have hz2 : intOf (leafN (mkL x 0 (kdsP pl_P0)) 223) = 7 := hz2
        rw [h0, h1, hz, hz2]
        rfl
      rw [e]
      exact EvP.ofH (H := noLT) (J := true) (HFun.none Try.prog _ 30) (litL_mk2 (litL_mk hz) hz2) (by rw [pl_x4_7]; exact pl_f30_4_7 x) (pl_c30_4_7 x ho h0 h1 hz hz2)
  · have c1 : x.i 223 = 0 ∨ x.i 223 = 1 ∨ x.i 223 = 2 ∨ x.i 223 = 3 ∨ x.i 223 = 4 ∨ x.i 223 = 5 ∨ x.i 223 = 6 ∨ x.i 223 = 7 := by omega
    rcases c1 with hz2 | hz2 | hz2 | hz2 | hz2 | hz2 | hz2 | hz2
    · have e : plR0 (mkL x 0 (kdsP pl_P0)) = plZ5_0 (mkL x 0 (kdsP pl_P0)) := by
        unfold plR0
        have hz : intOf (leafN (mkL x 0 (kdsP pl_P0)) 222) = 5 := hz
        have hz2 : intOf (leafN (mkL x 0 (kdsP pl_P0)) 223) = 0 := hz2
        rw [h0, h1, hz, hz2]
        rfl
      rw [e]
      exact EvP.ofH (H := noLT) (J := true) (HFun.none Try.prog _ 30) (litL_mk2 (litL_mk hz) hz2) (by rw [pl_x5_0]; exact pl_f30_5_0 x) (pl_c30_5_0 x ho h0 h1 hz hz2)
    · have e : plR0 (mkL x 0 (kdsP pl_P0)) = plZ5_1 (mkL x 0 (kdsP pl_P0)) := by
        unfold plR0
        have hz : intOf (leafN (mkL x 0 (kdsP pl_P0)) 222) = 5 := hz
        have hz2 : intOf (leafN (mkL x 0 (kdsP pl_P0)) 223) = 1 := hz2
        rw [h0, h1, hz, hz2]
        rfl
      rw [e]
      exact EvP.ofH (H := noLT) (J := true) (HFun.none Try.prog _ 30) (litL_mk2 (litL_mk hz) hz2) (by rw [pl_x5_1]; exact pl_f30_5_1 x) (pl_c30_5_1 x ho h0 h1 hz hz2)
    · have e : plR0 (mkL x 0 (kdsP pl_P0)) = plZ5_2 (mkL x 0 (kdsP pl_P0)) := by
        unfold plR0
        have hz : intOf (leafN (mkL x 0 (kdsP pl_P0)) 222) = 5 := hz
        have hz2 : intOf (leafN (mkL x 0 (kdsP pl_P0)) 223) = 2 := hz2
        rw [h0, h1, hz, hz2]
        rfl
      rw [e]
      exact EvP.ofH (H := noLT) (J := true) (HFun.none Try.prog _ 30) (litL_mk2 (litL_mk hz) hz2) (by rw [pl_x5_2]; exact pl_f30_5_2 x) (pl_c30_5_2 x ho h0 h1 hz hz2)
    · have e : plR0 (mkL x 0 (kdsP pl_P0)) = plZ5_3 (mkL x 0 (kdsP pl_P0)) := by
        unfold plR0
        have hz : intOf (leafN (mkL x 0 (kdsP pl_P0)) 222) = 5 := hz
        have hz2 : intOf (leafN (mkL x 0 (kdsP pl_P0)) 223) = 3 := hz2
        rw [h0, h1, hz, hz2]
        rfl
      rw [e]
      exact EvP.ofH (H := noLT) (J := true) (HFun.none Try.prog _ 30) (litL_mk2 (litL_mk hz) hz2) (by rw [pl_x5_3]; exact pl_f30_5_3 x) (pl_c30_5_3 x ho h0 h1 hz hz2)
    · have e : plR0 (mkL x 0 (kdsP pl_P0)) = plZ5_4 (mkL x 0 (kdsP pl_P0)) := by
        unfold plR0
        have hz : intOf (leafN (mkL x 0 (kdsP pl_P0)) 222) = 5 := hz
        have hz2 : intOf (leafN (mkL x 0 (kdsP pl_P0)) 223) = 4 := hz2
        rw [h0, h1, hz, hz2]
        rfl
      rw [e]
      exact EvP.ofH (H := noLT) (J := true) (HFun.none Try.prog _ 30) (litL_mk2 (litL_mk hz) hz2) (by rw [pl_x5_4]; exact pl_f30_5_4 x) (pl_c30_5_4 x ho h0 h1 hz hz2)
    · have e : plR0 (mkL x 0 (kdsP pl_P0)) = plZ5_5 (mkL x 0 (kdsP pl_P0)) := by
        unfold plR0
        have hz : intOf (leafN (mkL x 0 (kdsP pl_P0)) 222) = 5 := hz
        have hz2 : intOf (leafN (mkL x 0 (kdsP pl_P0)) 223) = 5 := hz2
        rw [h0, h1, hz, hz2]
        rfl
      rw [e]
      exact EvP.ofH (H := noLT) (J := true) (HFun.none Try.prog _ 30) (litL_mk2 (litL_mk hz) hz2) (by rw [pl_x5_5]; exact pl_f30_5_5 x) (pl_c30_5_5 x ho h0 h1 hz hz2)
    · have e : plR0 (mkL x 0 (kdsP pl_P0)) = plZ5_6 (mkL x 0 (kdsP pl_P0)) := by
        unfold plR0
        have hz : intOf (leafN (mkL x 0 (kdsP pl_P0)) 222) = 5 := hz
        have hz2 : intOf (leafN (mkL x 0 (kdsP pl_P0)) 223) = 6 := hz2
        rw [h0, h1, hz, hz2]
        rfl
      rw [e]
      exact EvP.ofH (H := noLT) (J := true) (HFun.none Try.prog _ 30) (litL_mk2 (litL_mk hz) hz2) (by rw [pl_x5_6]; exact pl_f30_5_6 x) (pl_c30_5_6 x ho h0 h1 hz hz2)
    · have e : plR0 (mkL x 0 (kdsP pl_P0)) = plZ5_7 (mkL x 0 (kdsP pl_P0)) := by
        unfold plR0
        have hz : intOf (leafN (mkL x 0 (kdsP pl_P0)) 222) = 5 := hz
        have hz2 : intOf (leafN (mkL x 0 (kdsP pl_P0)) 223) = 7 := hz2
        rw [h0, h1, hz, hz2]
        rfl
      rw [e]
      exact EvP.ofH (H := noLT) (J := true) (HFun.none Try.prog _ 30) (litL_mk2 (litL_mk hz) hz2) (by rw [pl_x5_7]; exact pl_f30_5_7 x) (pl_c30_5_7 x ho h0 h1 hz hz2)
  · have c1 : x.i 223 = 0 ∨ x.i 223 = 1 ∨ x.i 223 = 2 ∨ x.i 223 = 3 ∨ x.i 223 = 4 ∨ x.i 223 = 5 ∨ x.i 223 = 6 ∨ x.i 223 = 7 := by omega
    rcases c1 with hz2 | hz2 | hz2 | hz2 | hz2 | hz2 | hz2 | hz2
    · have e : plR0 (mkL x 0 (kdsP pl_P0)) = plZ6_0 (mkL x 0 (kdsP pl_P0)) := by
        unfold plR0
        have hz : intOf (leafN (mkL x 0 (kdsP pl_P0)) 222) = 6 := hz
        have hz2 : intOf (leafN (mkL x 0 (kdsP pl_P0)) 223) = 0 := hz2
        rw [h0, h1, hz, hz2]
        rfl
      rw [e]
      exact EvP.ofH (H := noLT) (J := true) (HFun.none Try.prog _ 30) (litL_mk2 (litL_mk hz) hz2) (by rw [pl_x6_0]; exact pl_f30_6_0 x) (pl_c30_6_0 x ho h0 h1 hz hz2)
    · have e : plR0 (mkL x 0 (kdsP pl_P0)) = plZ6_1 (mkL x 0 (kdsP pl_P0)) := by
        unfold plR0
        have hz : intOf (leafN (mkL x 0 (kdsP pl_P0)) 222) = 6 := hz
        have hz2 : intOf (leafN (mkL x 0 (kdsP pl_P0)) 223) = 1 := hz2
        rw [h0, h1, hz, hz2]
        rfl
      rw [e]
      exact EvP.ofH (H := noLT) (J := true) (HFun.none Try.prog _ 30) (litL_mk2 (litL_mk hz) hz2) (by rw [pl_x6_1]; exact pl_f30_6_1 x) (pl_c30_6_1 x ho h0 h1 hz hz2)
    · have e : plR0 (mkL x 0 (kdsP pl_P0)) = plZ6_2 (mkL x 0 (kdsP pl_P0)) := by
        unfold plR0
        have hz : intOf (leafN (mkL x 0 (kdsP pl_P0)) 222) = 6 := hz
        have hz2 : intOf (leafN (mkL x 0 (kdsP pl_P0)) 223) = 2 := hz2
        rw [h0, h1, hz, hz2]
        rfl
      rw [e]
      exact EvP.ofH (H := noLT) (J := true) (HFun.none Try.prog _ 30) (litL_mk2 (litL_mk hz) hz2) (by rw [pl_x6_2]; exact pl_f30_6_2 x) (pl_c30_6_2 x ho h0 h1 hz hz2)
    · have e : plR0 (mkL x 0 (kdsP pl_P0)) = plZ6_3 (mkL x 0 (kdsP pl_P0)) := by
        unfold plR0
        have hz : intOf (leafN (mkL x 0 (kdsP pl_P0)) 222) = 6 := hz
        have hz2 : intOf (leafN (mkL x 0 (kdsP pl_P0)) 223) = 3 := hz2
        rw [h0, h1, hz, hz2]
        rfl
      rw [e]
      exact EvP.ofH (H := noLT) (J := true) (HFun.none Try.prog _ 30) (litL_mk2 (litL_mk hz) hz2) (by rw [pl_x6_3]; exact pl_f30_6_3 x) (pl_c30_6_3 x ho h0 h1 hz hz2)
    · have e : plR0 (mkL x 0 (kdsP pl_P0)) = plZ6_4 (mkL x 0 (kdsP pl_P0)) := by
        unfold plR0
        have hz : intOf (leafN (mkL x 0 (kdsP pl_P0)) 222) = 6 := hz
        have hz2 : intOf (leafN (mkL x 0 (kdsP pl_P0)) 223) = 4 := hz2
        rw [h0, h1, hz, hz2]
        rfl
      rw [e]
      exact EvP.ofH (H := noLT) (J := true) (HFun.none Try.prog _ 30) (litL_mk2 (litL_mk hz) hz2) (by rw [pl_x6_4]; exact pl_f30_6_4 x) (pl_c30_6_4 x ho h0 h1 hz hz2)
    · have e : plR0 (mkL x 0 (kdsP pl_P0)) = plZ6_5 (mkL x 0 (kdsP pl_P0)) := by
        unfold plR0
        have hz : intOf (leafN (mkL x 0 (kdsP pl_P0)) 222) = 6 := hz
        have hz2 : intOf (leafN (mkL x 0 (kdsP pl_P0)) 223) = 5 := hz2
        rw [h0, h1, hz, hz2]
        rfl
      rw [e]
      exact EvP.ofH (H := noLT) (J := true) (HFun.none Try.prog _ 30) (litL_mk2 (litL_mk hz) hz2) (by rw [pl_x6_5]; exact pl_f30_6_5 x) (pl_c30_6_5 x ho h0 h1 hz hz2)
    · have e : plR0 (mkL x 0 (kdsP pl_P0)) = plZ6_6 (mkL x 0 (kdsP pl_P0)) := by
        unfold plR0
        have hz : intOf (leafN (mkL x 0 (kdsP pl_P0)) 222) = 6 := hz
        have hz2 : intOf (leafN (mkL x 0 (kdsP pl_P0)) 223) = 6 := hz2
        rw [h0, h1, hz, hz2]
        rfl
      rw [e]
      exact EvP.ofH (H := noLT) (J := true) (HFun.none Try.prog _ 30) (litL_mk2 (litL_mk hz) hz2) (by rw [pl_x6_6]; exact pl_f30_6_6 x) (pl_c30_6_6 x ho h0 h1 hz hz2)
    · have e : plR0 (mkL x 0 (kdsP pl_P0)) = plZ6_7 (mkL x 0 (kdsP pl_P0)) := by
        unfold plR0
        have hz : intOf (leafN (mkL x 0 (kdsP pl_P0)) 222) = 6 := hz
        have hz2 : intOf (leafN (mkL x 0 (kdsP pl_P0)) 223) = 7 := hz2
        rw [h0, h1, hz, hz2]
        rfl
      rw [e]
      exact EvP.ofH (H := noLT) (J := true) (HFun.none Try.prog _ 30) (litL_mk2 (litL_mk hz) hz2) (by rw [pl_x6_7]; exact pl_f30_6_7 x) (pl_c30_6_7 x ho h0 h1 hz hz2)
  · have c1 : x.i 223 = 0 ∨ x.i 223 = 1 ∨ x.i 223 = 2 ∨ x.i 223 = 3 ∨ x.i 223 = 4 ∨ x.i 223 = 5 ∨ x.i 223 = 6 ∨ x.i 223 = 7 := by omega
    rcases c1 with hz2 | hz2 | hz2 | hz2 | hz2 | hz2 | hz2 | hz2
    · have e : plR0 (mkL x 0 (kdsP pl_P0)) = plZ7_0 (mkL x 0 (kdsP pl_P0)) := by
        unfold plR0
        have hz : intOf (leafN (mkL x 0 (kdsP pl_P0)) 222) = 7 := hz
        have hz2 : intOf (leafN (mkL x 0 (kdsP pl_P0)) 223) = 0 := hz2
        rw [h0, h1, hz, hz2]
        rfl
      rw [e]
      exact EvP.ofH (H := noLT) (J := true) (HFun.none Try.prog _ 30) (litL_mk2 (litL_mk hz) hz2) (by rw [pl_x7_0]; exact pl_f30_7_0 x) (pl_c30_7_0 x ho h0 h1 hz hz2)
    · have e : plR0 (mkL x 0 (kdsP pl_P0)) = plZ7_1 (mkL x 0 (kdsP pl_P0)) := by
        unfold plR0
        have hz : intOf (leafN (mkL x 0 (kdsP pl_P0)) 222) = 7 := hz
        have hz2 : intOf (leafN (mkL x 0 (kdsP pl_P0)) 223) = 1 := hz2
        rw [h0, h1, hz, hz2]
        rfl
      rw [e]
      exact EvP.ofH (H := noLT) (J := true) (HFun.none Try.prog _ 30) (litL_mk2 (litL_mk hz) hz2) (by rw [pl_x7_1]; exact pl_f30_7_1 x) (pl_c30_7_1 x ho h0 h1 hz hz2)
    · have e : plR0 (mkL x 0 (kdsP pl_P0)) = plZ7_2 (mkL x 0 (kdsP pl_P0)) := by
        unfold plR0
        have hz : intOf (leafN (mkL x 0 (kdsP pl_P0)) 222) = 7 := hz
        have hz2 : intOf (leafN (mkL x 0 (kdsP pl_P0)) 223) = 2 := hz2
        rw [h0, h1, hz, hz2]
        rfl
      rw [e]
      exact EvP.ofH (H := noLT) (J := true) (HFun.none Try.prog _ 30) (litL_mk2 (litL_mk hz) hz2) (by rw [pl_x7_2]; exact pl_f30_7_2 x) (pl_c30_7_2 x ho h0 h1 hz hz2)
    · have e : plR0 (mkL x 0 (kdsP pl_P0)) = plZ7_3 (mkL x 0 (kdsP pl_P0)) := by
        unfold plR0
        have hz : intOf (leafN (mkL x 0 (kdsP pl_P0)) 222) = 7 := hz
        have hz2 : intOf (leafN (mkL x 0 (kdsP pl_P0)) 223) = 3 := hz2
        rw [h0, h1, hz, hz2]
        rfl
      rw [e]
      exact EvP.ofH (H := noLT) (J := true) (HFun.none Try.prog _ 30) (litL_mk2 (litL_mk hz) hz2) (by rw [pl_x7_3]; exact pl_f30_7_3 x) (pl_c30_7_3 x ho h0 h1 hz hz2)
    · have e : plR0 (mkL x 0 (kdsP pl_P0)) = plZ7_4 (mkL x 0 (kdsP pl_P0)) := by
        unfold plR0
        have hz : intOf (leafN (mkL x 0 (kdsP pl_P0)) 222) = 7 := hz
        have hz2 : intOf (leafN (mkL x 0 (kdsP pl_P0)) 223) = 4 := hz2
        rw [h0, h1, hz, hz2]
        rfl
      rw [e]
      exact EvP.ofH (H := noLT) (J := true) (HFun.none Try.prog _ 30) (litL_mk2 (litL_mk hz) hz2) (by rw [pl_x7_4]; exact pl_f30_7_4 x) (pl_c30_7_4 x ho h0 h1 hz hz2)
    · have e : plR0 (mkL x 0 (kdsP pl_P0)) = plZ7_5 (mkL x 0 (kdsP pl_P0)) := by
        unfold plR0
        have hz : intOf (leafN (mkL x 0 (kdsP pl_P0)) 222) = 7 := hz
        have hz2 : intOf (leafN (mkL x 0 (kdsP pl_P0)) 223) = 5 := hz2
        rw [h0, h1, hz, hz2]
        rfl
      rw [e]
      exact EvP.ofH (H := noLT) (J := true) (HFun.none Try.prog _ 30) (litL_mk2 (litL_mk hz) hz2) (by rw [pl_x7_5]; exact pl_f30_7_5 x) (pl_c30_7_5 x ho h0 h1 hz hz2)
    · have e : plR0 (mkL x 0 (kdsP pl_P0)) = plZ7_6 (mkL x 0 (kdsP pl_P0)) := by
        unfold plR0
        have hz : intOf (leafN (mkL x 0 (kdsP pl_P0)) 222) = 7 := hz
        have hz2 : intOf (leafN (mkL x 0 (kdsP pl_P0)) 223) = 6 := hz2
        rw [h0, h1, hz, hz2]
        rfl
      rw [e]
      exact EvP.ofH (H := noLT) (J := true) (HFun.none Try.prog _ 30) (litL_mk2 (litL_mk hz) hz2) (by rw [pl_x7_6]; exact pl_f30_7_6 x) (pl_c30_7_6 x ho h0 h1 hz hz2)
    · have e : plR0 (mkL x 0 (kdsP pl_P0)) = plZ7_7 (mkL x 0 (kdsP pl_P0)) := by
        unfold plR0
        have hz : intOf (leafN (mkL x 0 (kdsP pl_P0)) 222) = 7 := hz
        have hz2 : intOf (leafN (mkL x 0 (kdsP pl_P0)) 223) = 7 := hz2
        rw [h0, h1, hz, hz2]
        rfl
      rw [e]
      exact EvP.ofH (H := noLT) (J := true) (HFun.none Try.prog _ 30) (litL_mk2 (litL_mk hz) hz2) (by rw [pl_x7_7]; exact pl_f30_7_7 x) (pl_c30_7_7 x ho h0 h1 hz hz2)

noncomputable def G27 : Summ := addG 28 (sumP [.val (.ag kd2), .val (.ag kd3), .val (.ag kd3), .val (.ag kd3), .val (.sc (.int .i64)), .val (.sc (.int .i64))] [.ag kd1, .sc (.int .i64)] (fun _ => []) plR) G26

theorem G27_ok : SoundG Try.prog G27 := SoundG.sumP G26_ok mixed Try.call28 G26_ok (fun x hx hp => by rw [plR_eq]; exact (fun x ho _ => pl_ev28 x ho) x hx hp)

noncomputable def G28 : Summ := addG 30 (sumP [.val (.ag kd2), .val (.ag kd3), .val (.ag kd3), .val (.ag kd3), .val (.sc (.int .i64)), .val (.sc (.int .i64))] [.ag kd1, .sc (.int .i64)] (fun _ => []) plR) G27

theorem G28_ok : SoundG Try.prog G28 := SoundG.sumP G27_ok mixed Try.call30 G26_ok (fun x hx hp => by rw [plR_eq]; exact (fun x ho _ => pl_ev30 x ho) x hx hp)

end Go.Proofs.Ytigcbcaknhhgmaa

/-
  Facts of this seat that its laws use; no conditions.
-/
import Derived.Test.YtagkkkplmilkhaaShapes
namespace Go.Proofs.Ytagkkkplmilkhaa
open Go.Sim Go.ChangeShapes Go.WideShapes Go.ChangeAt Go.RowKit

theorem sb_inj {a b : Bool} (h : AV.sbool a = AV.sbool b) : a = b := by cases h; rfl

theorem stepT {p a b v : Bool} (h : (p && ((!(a && b)) || (!v))) = false) (hp : p = true) : v = true := by
  subst hp
  revert h
  cases a <;> cases b <;> cases v <;> intro h <;> first | rfl | cases h

theorem firstT {p q : Bool} (h : (!(p && q)) = false) : p = true ∧ q = true := by
  revert h
  cases p <;> cases q <;> intro h <;> first | exact ⟨rfl, rfl⟩ | cases h

theorem validTrain_rng (x : Vars) (h : (validTrainR (mkL x 0 (kdsP [.val (.ag kd1)]))).b 0 = true) : 2 ≤ x.i 0 ∧ x.i 0 ≤ 12 := by
  rw [validTrainR_eq] at h
  have e := sb_inj (validTrain_x x)
  have h' := e.symm.trans h
  obtain ⟨h1, h2⟩ := firstT (condNF h').1
  exact ⟨of_decide_eq_true h1, of_decide_eq_true h2⟩

set_option maxRecDepth 100000 in
theorem validUnit_rng (x : Vars) (h : (validUnitR (mkL x 0 (kdsP [.val (.ag kd2)]))).b 0 = true) : 1 ≤ x.i 0 ∧ x.i 0 ≤ 8 ∧ (0 < x.i 0 → 2 ≤ x.i 9 ∧ x.i 9 ≤ 12) ∧ (1 < x.i 0 → 2 ≤ x.i 24 ∧ x.i 24 ≤ 12) ∧ (2 < x.i 0 → 2 ≤ x.i 39 ∧ x.i 39 ≤ 12) ∧ (3 < x.i 0 → 2 ≤ x.i 54 ∧ x.i 54 ≤ 12) ∧ (4 < x.i 0 → 2 ≤ x.i 69 ∧ x.i 69 ≤ 12) ∧ (5 < x.i 0 → 2 ≤ x.i 84 ∧ x.i 84 ≤ 12) ∧ (6 < x.i 0 → 2 ≤ x.i 99 ∧ x.i 99 ≤ 12) ∧ (7 < x.i 0 → 2 ≤ x.i 114 ∧ x.i 114 ≤ 12) := by
  rw [validUnitR_eq] at h
  have e := sb_inj (validUnit_x x)
  have h' := e.symm.trans h
  obtain ⟨h0, h'⟩ := condNF h'
  obtain ⟨h1, h2⟩ := firstT h0
  obtain ⟨a0, h'⟩ := condNF h'
  obtain ⟨_, h'⟩ := condNF h'
  obtain ⟨a1, h'⟩ := condNF h'
  obtain ⟨_, h'⟩ := condNF h'
  obtain ⟨a2, h'⟩ := condNF h'
  obtain ⟨_, h'⟩ := condNF h'
  obtain ⟨a3, h'⟩ := condNF h'
  obtain ⟨_, h'⟩ := condNF h'
  obtain ⟨a4, h'⟩ := condNF h'
  obtain ⟨_, h'⟩ := condNF h'
  obtain ⟨a5, h'⟩ := condNF h'
  obtain ⟨_, h'⟩ := condNF h'
  obtain ⟨a6, h'⟩ := condNF h'
  obtain ⟨_, h'⟩ := condNF h'
  obtain ⟨a7, h'⟩ := condNF h'
  refine ⟨of_decide_eq_true h1, of_decide_eq_true h2, ?_, ?_, ?_, ?_, ?_, ?_, ?_, ?_⟩
  · intro hi
    have v := stepT a0 (decide_eq_true hi)
    exact validTrain_rng (varsOf [.sint .i8 (x.i 9), .flt .f32 (x.u 10), .flt .f32 (x.u 11), .flt .f32 (x.u 12), .flt .f32 (x.u 13), .flt .f32 (x.u 14), .flt .f32 (x.u 15), .flt .f32 (x.u 16), .flt .f32 (x.u 17), .flt .f32 (x.u 18), .flt .f32 (x.u 19), .flt .f32 (x.u 20), .flt .f32 (x.u 21), .flt .f32 (x.u 22), .flt .f32 (x.u 23)]) v
  · intro hi
    have v := stepT a1 (decide_eq_true hi)
    exact validTrain_rng (varsOf [.sint .i8 (x.i 24), .flt .f32 (x.u 25), .flt .f32 (x.u 26), .flt .f32 (x.u 27), .flt .f32 (x.u 28), .flt .f32 (x.u 29), .flt .f32 (x.u 30), .flt .f32 (x.u 31), .flt .f32 (x.u 32), .flt .f32 (x.u 33), .flt .f32 (x.u 34), .flt .f32 (x.u 35), .flt .f32 (x.u 36), .flt .f32 (x.u 37), .flt .f32 (x.u 38)]) v
  · intro hi
    have v := stepT a2 (decide_eq_true hi)
    exact validTrain_rng (varsOf [.sint .i8 (x.i 39), .flt .f32 (x.u 40), .flt .f32 (x.u 41), .flt .f32 (x.u 42), .flt .f32 (x.u 43), .flt .f32 (x.u 44), .flt .f32 (x.u 45), .flt .f32 (x.u 46), .flt .f32 (x.u 47), .flt .f32 (x.u 48), .flt .f32 (x.u 49), .flt .f32 (x.u 50), .flt .f32 (x.u 51), .flt .f32 (x.u 52), .flt .f32 (x.u 53)]) v
  · intro hi
    have v := stepT a3 (decide_eq_true hi)
    exact validTrain_rng (varsOf [.sint .i8 (x.i 54), .flt .f32 (x.u 55), .flt .f32 (x.u 56), .flt .f32 (x.u 57), .flt .f32 (x.u 58), .flt .f32 (x.u 59), .flt .f32 (x.u 60), .flt .f32 (x.u 61), .flt .f32 (x.u 62), .flt .f32 (x.u 63), .flt .f32 (x.u 64), .flt .f32 (x.u 65), .flt .f32 (x.u 66), .flt .f32 (x.u 67), .flt .f32 (x.u 68)]) v
  · intro hi
    have v := stepT a4 (decide_eq_true hi)
    exact validTrain_rng (varsOf [.sint .i8 (x.i 69), .flt .f32 (x.u 70), .flt .f32 (x.u 71), .flt .f32 (x.u 72), .flt .f32 (x.u 73), .flt .f32 (x.u 74), .flt .f32 (x.u 75), .flt .f32 (x.u 76), .flt .f32 (x.u 77), .flt .f32 (x.u 78), .flt .f32 (x.u 79), .flt .f32 (x.u 80), .flt .f32 (x.u 81), .flt .f32 (x.u 82), .flt .f32 (x.u 83)]) v
  · intro hi
    have v := stepT a5 (decide_eq_true hi)
    exact validTrain_rng (varsOf [.sint .i8 (x.i 84), .flt .f32 (x.u 85), .flt .f32 (x.u 86), .flt .f32 (x.u 87), .flt .f32 (x.u 88), .flt .f32 (x.u 89), .flt .f32 (x.u 90), .flt .f32 (x.u 91), .flt .f32 (x.u 92), .flt .f32 (x.u 93), .flt .f32 (x.u 94), .flt .f32 (x.u 95), .flt .f32 (x.u 96), .flt .f32 (x.u 97), .flt .f32 (x.u 98)]) v
  · intro hi
    have v := stepT a6 (decide_eq_true hi)
    exact validTrain_rng (varsOf [.sint .i8 (x.i 99), .flt .f32 (x.u 100), .flt .f32 (x.u 101), .flt .f32 (x.u 102), .flt .f32 (x.u 103), .flt .f32 (x.u 104), .flt .f32 (x.u 105), .flt .f32 (x.u 106), .flt .f32 (x.u 107), .flt .f32 (x.u 108), .flt .f32 (x.u 109), .flt .f32 (x.u 110), .flt .f32 (x.u 111), .flt .f32 (x.u 112), .flt .f32 (x.u 113)]) v
  · intro hi
    have v := stepT a7 (decide_eq_true hi)
    exact validTrain_rng (varsOf [.sint .i8 (x.i 114), .flt .f32 (x.u 115), .flt .f32 (x.u 116), .flt .f32 (x.u 117), .flt .f32 (x.u 118), .flt .f32 (x.u 119), .flt .f32 (x.u 120), .flt .f32 (x.u 121), .flt .f32 (x.u 122), .flt .f32 (x.u 123), .flt .f32 (x.u 124), .flt .f32 (x.u 125), .flt .f32 (x.u 126), .flt .f32 (x.u 127), .flt .f32 (x.u 128)]) v

end Go.Proofs.Ytagkkkplmilkhaa

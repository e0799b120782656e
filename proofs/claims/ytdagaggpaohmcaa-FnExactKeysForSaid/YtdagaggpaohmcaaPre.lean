/-
  Facts of this seat that its laws use; no conditions.
-/
import Derived.Test.YtdagaggpaohmcaaCover
namespace Go.Proofs.Ytdagaggpaohmcaa
open Go.Sim Go.ChangeShapes Go.WideShapes Go.ChangeAt Go.RowKit

theorem coverV (x : Vars) (h : (coverR (mkL x 0 (kdsP [.ptr kd2, .ptr kd3]))).i 0 = 0) : coverB (mkL x 0 (kdsP [.ptr kd2, .ptr kd3])) = true := by
  cases hv : coverB (mkL x 0 (kdsP [.ptr kd2, .ptr kd3])) with
  | true => rfl
  | false =>
    exfalso
    have e : coverR (mkL x 0 (kdsP [.ptr kd2, .ptr kd3])) = coverZE (mkL x 0 (kdsP [.ptr kd2, .ptr kd3])) := by rw [coverR_eq]; unfold coverR0; rw [hv]; rfl
    rw [e] at h
    have h1 : (coverZE (mkL x 0 (kdsP [.ptr kd2, .ptr kd3]))).i 0 = 1 := by kernel_rfl
    rw [h1] at h
    cases h

theorem sheetOk (x : Vars) (h : (coverR (mkL x 0 (kdsP [.ptr kd2, .ptr kd3]))).i 0 = 0) : decide (1 ≤ x.i 0) = true ∧ decide (x.i 0 ≤ 8) = true ∧ (decide (x.i 0 ≤ 0) || (decide (2 ≤ x.i 9) && decide (x.i 9 ≤ 12))) = true ∧ (decide (x.i 0 ≤ 1) || (decide (2 ≤ x.i 24) && decide (x.i 24 ≤ 12))) = true ∧ (decide (x.i 0 ≤ 2) || (decide (2 ≤ x.i 39) && decide (x.i 39 ≤ 12))) = true ∧ (decide (x.i 0 ≤ 3) || (decide (2 ≤ x.i 54) && decide (x.i 54 ≤ 12))) = true ∧ (decide (x.i 0 ≤ 4) || (decide (2 ≤ x.i 69) && decide (x.i 69 ≤ 12))) = true ∧ (decide (x.i 0 ≤ 5) || (decide (2 ≤ x.i 84) && decide (x.i 84 ≤ 12))) = true ∧ (decide (x.i 0 ≤ 6) || (decide (2 ≤ x.i 99) && decide (x.i 99 ≤ 12))) = true ∧ (decide (x.i 0 ≤ 7) || (decide (2 ≤ x.i 114) && decide (x.i 114 ≤ 12))) = true := by
  have F := validUnit_rng x ((show (validUnitR (mkL x 0 (kdsP [.val (.ag kd2)]))).b 0 = coverB (mkL x 0 (kdsP [.ptr kd2, .ptr kd3])) from by kernel_rfl).trans (coverV x h))
  exact ⟨decide_eq_true F.1, decide_eq_true F.2.1, orE fun h2 => let q := F.2.2.1 (Int.not_le.1 (of_decide_eq_false h2)); andT (decide_eq_true q.1) (decide_eq_true q.2), orE fun h2 => let q := F.2.2.2.1 (Int.not_le.1 (of_decide_eq_false h2)); andT (decide_eq_true q.1) (decide_eq_true q.2), orE fun h2 => let q := F.2.2.2.2.1 (Int.not_le.1 (of_decide_eq_false h2)); andT (decide_eq_true q.1) (decide_eq_true q.2), orE fun h2 => let q := F.2.2.2.2.2.1 (Int.not_le.1 (of_decide_eq_false h2)); andT (decide_eq_true q.1) (decide_eq_true q.2), orE fun h2 => let q := F.2.2.2.2.2.2.1 (Int.not_le.1 (of_decide_eq_false h2)); andT (decide_eq_true q.1) (decide_eq_true q.2), orE fun h2 => let q := F.2.2.2.2.2.2.2.1 (Int.not_le.1 (of_decide_eq_false h2)); andT (decide_eq_true q.1) (decide_eq_true q.2), orE fun h2 => let q := F.2.2.2.2.2.2.2.2.1 (Int.not_le.1 (of_decide_eq_false h2)); andT (decide_eq_true q.1) (decide_eq_true q.2), orE fun h2 => let q := F.2.2.2.2.2.2.2.2.2 (Int.not_le.1 (of_decide_eq_false h2)); andT (decide_eq_true q.1) (decide_eq_true q.2)⟩

theorem sheetMV (x : Vars) : (mkL x 0 (kdsP [.val (.ag kd2), .val (.ag kd3)])) = (mkL x 0 (kdsP [.ptr kd2, .ptr kd3])) := by kernel_rfl

theorem sheetOk2 (x : Vars) (h : (coverR (mkL x 0 (kdsP [.val (.ag kd2), .val (.ag kd3)]))).i 0 = 0) : decide (1 ≤ x.i 0) = true ∧ decide (x.i 0 ≤ 8) = true ∧ (decide (x.i 0 ≤ 0) || (decide (2 ≤ x.i 9) && decide (x.i 9 ≤ 12))) = true ∧ (decide (x.i 0 ≤ 1) || (decide (2 ≤ x.i 24) && decide (x.i 24 ≤ 12))) = true ∧ (decide (x.i 0 ≤ 2) || (decide (2 ≤ x.i 39) && decide (x.i 39 ≤ 12))) = true ∧ (decide (x.i 0 ≤ 3) || (decide (2 ≤ x.i 54) && decide (x.i 54 ≤ 12))) = true ∧ (decide (x.i 0 ≤ 4) || (decide (2 ≤ x.i 69) && decide (x.i 69 ≤ 12))) = true ∧ (decide (x.i 0 ≤ 5) || (decide (2 ≤ x.i 84) && decide (x.i 84 ≤ 12))) = true ∧ (decide (x.i 0 ≤ 6) || (decide (2 ≤ x.i 99) && decide (x.i 99 ≤ 12))) = true ∧ (decide (x.i 0 ≤ 7) || (decide (2 ≤ x.i 114) && decide (x.i 114 ≤ 12))) = true := sheetOk x (by rw [← sheetMV x]; exact h)

theorem notDec {a b : Int} (h : (!(decide (a = b))) = false) : a = b := by
  cases hd : decide (a = b) with
  | true => exact of_decide_eq_true hd
  | false => rw [hd] at h; cases h

end Go.Proofs.Ytdagaggpaohmcaa

/-
  Facts of this seat that its laws use; no conditions.
-/
import Derived.Test.YtdagaggpaohmcaaRun4
namespace Go.Proofs.Ytdagaggpaohmcaa
open Go.Sim Go.ChangeShapes Go.WideShapes Go.ChangeAt Go.RowKit

theorem riTF_all (s : SV) : (riTF s).ok ∧ (ruBad s = true → (riTF s).pick = .out 0 (errI (ruCode s))) ∧ (ruBad s = false → (riTF s).pick = .out 1 (ruOKv (rsF (ruSt s)))) := by
  unfold riTF ruBad ruCode
  cases hc : decide (ruCov s = 0) with
  | false => exact ⟨⟨allN, (fun _ b hb => by cases hb), (fun h => by cases h)⟩, (fun _ => rfl), (fun h => by cases h)⟩
  | true =>
    have hcov : ruCov s = 0 := of_decide_eq_true hc
    cases hr : ruRange s with
    | true =>
      rw [riE2_eq]
      exact ⟨⟨allN, (fun h => by cases h), (fun _ => ⟨allN, (fun _ b hb => by cases hb), (fun h => by cases h)⟩)⟩, (fun _ => rfl), (fun h => by cases h)⟩
    | false =>
      have hI := ruIn s hcov hr
      rw [(rF_alike (ruSt s)).1]
      cases hb : Nat.beq (rsF (ruSt s)).1 0 with
      | true =>
        have h0 : (rsF (ruSt s)).1 = 0 := Nat.eq_of_beq_eq_true hb
        refine ⟨⟨allN, (fun h => by cases h), (fun _ => ⟨allN, (fun h => by cases h), (fun _ => ⟨allC hI allN, (fun _ b hb => by cases hb), (fun h => by cases h)⟩)⟩)⟩, (fun h => by cases h), (fun _ => ?_)⟩
        show Pk.out 1 (ruOKv (riF (ruSt s))) = _
        have e := (rF_alike (ruSt s)).2 h0
        have e1 := (rF_alike (ruSt s)).1
        rw [show riF (ruSt s) = rsF (ruSt s) from Prod.ext e1 e]
      | false =>
        have h0 : (riF (ruSt s)).1 ≠ 0 := fun h => by rw [(rF_alike (ruSt s)).1] at h; rw [h] at hb; cases hb
        rw [riE3_eq _ h0]
        exact ⟨⟨allN, (fun h => by cases h), (fun _ => ⟨allN, (fun h => by cases h), (fun _ => ⟨allC hI allN, (fun h => by cases h), (fun _ b hb => by cases hb)⟩)⟩)⟩, (fun _ => rfl), (fun h => by cases h)⟩

theorem rsTF_all (s : SV) : (rsTF s).ok ∧ (ruBad s = true → (rsTF s).pick = .out 0 (errS (ruCode s))) ∧ (ruBad s = false → (rsTF s).pick = .out 1 (ruOKv (rsF (ruSt s)))) := by
  unfold rsTF ruBad ruCode
  rw [rsCode_eq]
  cases hc : decide (ruCov s = 0) with
  | false =>
    have hd : decide ((bif !false then ruCov s else bif ruRange s then 2 else 0 : Int) = 0) = false := hc
    rw [hd]
    exact ⟨⟨allN, (fun _ b hb => by cases hb), (fun h => by cases h)⟩, (fun _ => rfl), (fun h => by cases h)⟩
  | true =>
    have hcov : ruCov s = 0 := of_decide_eq_true hc
    cases hr : ruRange s with
    | true => exact ⟨⟨allN, (fun _ b hb => by cases hb), (fun h => by cases h)⟩, (fun _ => rfl), (fun h => by cases h)⟩
    | false =>
      have hI := ruIn s hcov hr
      cases hb : Nat.beq (rsF (ruSt s)).1 0 with
      | true => exact ⟨⟨allN, (fun h => by cases h), (fun _ => ⟨allC hI allN, (fun _ b hb => by cases hb), (fun h => by cases h)⟩)⟩, (fun h => by cases h), (fun _ => rfl)⟩
      | false =>
        have h0 : (rsF (ruSt s)).1 ≠ 0 := fun h => by rw [h] at hb; cases hb
        rw [rsE3_eq _ h0]
        exact ⟨⟨allN, (fun h => by cases h), (fun _ => ⟨allC hI allN, (fun h => by cases h), (fun _ b hb => by cases hb)⟩)⟩, (fun _ => rfl), (fun h => by cases h)⟩

end Go.Proofs.Ytdagaggpaohmcaa

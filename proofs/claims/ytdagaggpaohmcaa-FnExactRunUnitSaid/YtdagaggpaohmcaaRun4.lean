/-
  Facts of this seat that its laws use; no conditions.
-/
import Derived.Test.YtdagaggpaohmcaaRun3
namespace Go.Proofs.Ytdagaggpaohmcaa
open Go.Sim Go.ChangeShapes Go.WideShapes Go.ChangeAt Go.RowKit

noncomputable def ruBad (s : SV) : Bool := !(decide (ruCov s = 0)) || ruRange s || !(Nat.beq (rsF (ruSt s)).1 0)
noncomputable def ruCode (s : SV) : Int := bif !(decide (ruCov s = 0)) then ruCov s else bif ruRange s then 2 else 3

theorem ruCov_ok (s : SV) (h : ruCov s = 0) : UnitAt 2 (ruSt s) := by
  have e : (coverR (mkL s.x 0 (kdsP [.val (.ag kd2), .val (.ag kd3)]))).i 0 = 0 := (show (coverR (mkL s.x 0 (kdsP [.val (.ag kd2), .val (.ag kd3)]))).i 0 = ruCov s from by kernel_rfl).trans h
  have F := validUnit_rng s.x (coverOk s.x e)
  have e0 : (ruSt s).x.i 2 = s.x.i 0 := by kernel_rfl
  have e1 : (ruSt s).x.i 11 = s.x.i 9 := by kernel_rfl
  have e2 : (ruSt s).x.i 26 = s.x.i 24 := by kernel_rfl
  have e3 : (ruSt s).x.i 41 = s.x.i 39 := by kernel_rfl
  have e4 : (ruSt s).x.i 56 = s.x.i 54 := by kernel_rfl
  have e5 : (ruSt s).x.i 71 = s.x.i 69 := by kernel_rfl
  have e6 : (ruSt s).x.i 86 = s.x.i 84 := by kernel_rfl
  have e7 : (ruSt s).x.i 101 = s.x.i 99 := by kernel_rfl
  have e8 : (ruSt s).x.i 116 = s.x.i 114 := by kernel_rfl
  refine ⟨by rw [e0]; exact F.1, by rw [e0]; exact F.2.1, eightI (fun hi => by rw [show (2 + 9 + 15 * 0) = 11 from rfl, e1]; rw [e0] at hi; exact F.2.2.1 (by omega)) (fun hi => by rw [show (2 + 9 + 15 * 1) = 26 from rfl, e2]; rw [e0] at hi; exact F.2.2.2.1 (by omega)) (fun hi => by rw [show (2 + 9 + 15 * 2) = 41 from rfl, e3]; rw [e0] at hi; exact F.2.2.2.2.1 (by omega)) (fun hi => by rw [show (2 + 9 + 15 * 3) = 56 from rfl, e4]; rw [e0] at hi; exact F.2.2.2.2.2.1 (by omega)) (fun hi => by rw [show (2 + 9 + 15 * 4) = 71 from rfl, e5]; rw [e0] at hi; exact F.2.2.2.2.2.2.1 (by omega)) (fun hi => by rw [show (2 + 9 + 15 * 5) = 86 from rfl, e6]; rw [e0] at hi; exact F.2.2.2.2.2.2.2.1 (by omega)) (fun hi => by rw [show (2 + 9 + 15 * 6) = 101 from rfl, e7]; rw [e0] at hi; exact F.2.2.2.2.2.2.2.2.1 (by omega)) (fun hi => by rw [show (2 + 9 + 15 * 7) = 116 from rfl, e8]; rw [e0] at hi; exact F.2.2.2.2.2.2.2.2.2 (by omega))⟩

theorem ruIn (s : SV) (h : ruCov s = 0) (hr : ruRange s = false) : rinB (ruSt s) = true := by
  have U := ruCov_ok s h
  unfold ruRange at hr
  rw [Bool.or_eq_false_iff] at hr
  have h1 : ¬ s.x.i 137 < 0 := of_decide_eq_false hr.1
  have h2 : ¬ 1000 < s.x.i 137 := of_decide_eq_false hr.2
  have a0 : (ruSt s).x.i 0 = s.x.i 137 := by kernel_rfl
  have a1 : (ruSt s).x.i 1 = 0 := by kernel_rfl
  have a2 : (ruSt s).len 0 = 0 := by kernel_rfl
  have a3 : (ruSt s).n 3 = 0 := by kernel_rfl
  exact rinB_to ⟨by omega, by omega, by omega, by omega, by omega, U⟩

theorem rsCode_eq (s : SV) : rsCode s = bif !(decide (ruCov s = 0)) then ruCov s else bif ruRange s then 2 else 0 := by
  have hx : (!((decide (0 ≤ s.x.i 137)) && (decide (s.x.i 137 ≤ 1000)))) = ruRange s := by
    unfold ruRange
    by_cases a : s.x.i 137 < 0
    · rw [decide_eq_true a, decide_eq_false (show ¬ 0 ≤ s.x.i 137 by omega)]; rfl
    · by_cases b : 1000 < s.x.i 137
      · rw [decide_eq_true b, decide_eq_false (show ¬ s.x.i 137 ≤ 1000 by omega), Bool.and_false, Bool.or_true]; rfl
      · rw [decide_eq_false a, decide_eq_false b, decide_eq_true (show 0 ≤ s.x.i 137 by omega), decide_eq_true (show s.x.i 137 ≤ 1000 by omega)]; rfl
  unfold rsCode
  rw [hx]
  cases hc : decide (ruCov s = 0) with
  | true =>
    have := of_decide_eq_true hc
    cases ruRange s with
    | true => rfl
    | false => exact this
  | false => rfl

end Go.Proofs.Ytdagaggpaohmcaa

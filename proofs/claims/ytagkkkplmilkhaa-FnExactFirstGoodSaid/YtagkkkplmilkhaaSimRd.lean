/-
  Numbers within bounds, their sums and differences.
-/
import Derived.Test.YtagkkkplmilkhaaSimRc
namespace Go.Sim
open Ieee

theorem within_rung {a c : Nat} (hc : c < 2139095040) (h : (fcmp .geq .f32 a 0 && fcmp .leq .f32 a c) = true) :
    isNan .f32 a = false ∧ a % 2147483648 ≤ c ∧ 0 ≤ k32 a ∧ k32 a ≤ c := by
  obtain ⟨h1, h2⟩ := Bool.and_eq_true_iff.1 h
  have hn := (fcmp_num h1 (by decide)).1
  have hc' : isNan .f32 c = false := notNan_small (by omega)
  have h0 : isNan .f32 0 = false := notNan_small (by omega)
  rw [geq32 hn h0] at h1
  rw [leq32 hn hc'] at h2
  have h1' := of_decide_eq_true h1
  have h2' := of_decide_eq_true h2
  rw [k32_pos (r := 0) (by omega)] at h1'
  rw [k32_pos (r := c) (by omega)] at h2'
  refine ⟨hn, ?_, h1', h2'⟩
  rw [k32_eq] at h1' h2'
  generalize (a / 2147483648 % 2 == 1) = s at *
  cases s
  · have : (bif false then -((a % 2147483648 : Nat) : Int) else ((a % 2147483648 : Nat) : Int)) = ((a % 2147483648 : Nat) : Int) := rfl
    rw [this] at h2'
    omega
  · have : (bif true then -((a % 2147483648 : Nat) : Int) else ((a % 2147483648 : Nat) : Int)) = -((a % 2147483648 : Nat) : Int) := rfl
    rw [this] at h1'
    omega

theorem read_num {x : Nat} (h : x % 2147483648 < 2139095040) : ∃ s m e, single.read x = .number s m e := by
  obtain ⟨s, r, hs, hr, hc⟩ := read_cases x
  rcases hc with hc | hc | hc | hc
  · exact ⟨_, _, _, hc.2⟩
  · exact ⟨_, _, _, hc.2.2⟩
  · omega
  · omega

/-- A number less whatever is no NaN. -/
theorem sub_num {x y : Nat} (hx : x % 2147483648 < 2139095040) (hy : isNan .f32 y = false) : isNan .f32 (farith .sub .f32 x y) = false := by
  obtain ⟨s, m, e, h1⟩ := read_num hx
  have hy' : (single.read y).isNaN = false := hy
  unfold farith
  show isNan .f32 ((((single.read x).sum (single.read y).opposite).map single.write).getD (nanB .f32)) = false
  rw [h1]
  cases hd : single.read y with
  | nan s t => rw [hd] at hy'; cases hy'
  | infinity t => exact isNan_encode .f32 _ rfl
  | number t n j => exact isNan_encode .f32 _ rfl

/-- What is no NaN is of what is none. -/
theorem sub_of {x y : Nat} (h : isNan .f32 (farith .sub .f32 x y) = false) : isNan .f32 x = false ∧ isNan .f32 y = false := by
  have key : (single.read x).sum (single.read y).opposite = none → isNan .f32 (farith .sub .f32 x y) = true := by
    intro hn
    unfold farith
    show isNan .f32 ((((single.read x).sum (single.read y).opposite).map single.write).getD (nanB .f32)) = true
    rw [hn]
    decide +kernel
  constructor
  · cases hx : isNan .f32 x with
    | false => rfl
    | true =>
      exfalso
      have hx' : (single.read x).isNaN = true := hx
      rw [key (by cases hd : single.read x with
        | nan s t => rfl
        | infinity s => rw [hd] at hx'; cases hx'
        | number s m e => rw [hd] at hx'; cases hx')] at h
      cases h
  · cases hx : isNan .f32 y with
    | false => rfl
    | true =>
      exfalso
      have hx' : (single.read y).isNaN = true := hx
      rw [key (by cases hd : single.read y with
        | nan s t => cases single.read x <;> rfl
        | infinity s => rw [hd] at hx'; cases hx'
        | number s m e => rw [hd] at hx'; cases hx')] at h
      cases h

end Go.Sim

/-
  Facts on floats: differences as sums, halves, comparisons that are each other's opposite.
-/
import Derived.Test.YtekilpllicggeaaSimY
namespace Go.Sim
open Ieee

theorem read_flip (f : Format) (b : Nat) : f.read (b ^^^ f.signWeight) = (f.read b).opposite := by
  have hm : (b ^^^ f.signWeight) % f.signWeight = b % f.signWeight := by
    unfold Format.signWeight
    rw [Nat.xor_mod_two_pow]
    simp
  have hs : ((b ^^^ f.signWeight) / f.signWeight % 2 == 1) = !(b / f.signWeight % 2 == 1) := by
    unfold Format.signWeight
    have h1 : ∀ x n : Nat, (x / 2 ^ n % 2 == 1) = x.testBit n := fun x n => by
      rw [Nat.testBit_eq_decide_div_mod_eq]
      rw [Bool.eq_iff_iff]
      simp
    rw [h1, h1, Nat.testBit_xor, Nat.testBit_two_pow_self]
    simp
  unfold Format.read
  simp only [hm, hs]
  split
  · rfl
  · split
    · rfl
    · split
      · rfl
      · rfl

theorem sum_nan_r' {d e : Datum} (h : e.isNaN = true) : d.sum e = none := sum_nan_r h

/-- A difference as a sum. -/
theorem sub_neg (k : FloatKind) (x y : Nat) : farith .sub k x y = farith .add k x (fneg k y) := by
  unfold farith
  congr 1
  have hs : floatBits .sub k x y = ((k.format.read x).sum (k.format.read y).opposite).map k.format.write := rfl
  have ha : floatBits .add k x (fneg k y) = ((k.format.read x).sum (k.format.read (fneg k y))).map k.format.write := rfl
  rw [hs, ha]
  congr 1
  unfold fneg
  cases hn : isNan k y with
  | true =>
    have h1 : (k.format.read y).opposite.isNaN = true := by rw [opposite_isNaN]; exact hn
    have h2 : (k.format.read (nanB k)).isNaN = true := isNan_nanB k
    rw [sum_nan_r h1]
    exact (sum_nan_r h2).symm
  | false =>
    show _ = (k.format.read x).sum (k.format.read (Op.negFloat k y))
    have : Op.negFloat k y = y ^^^ k.format.signWeight := rfl
    rw [this, read_flip]

/-- Not less: greater or equal, where neither is a NaN. -/
theorem not_lss {k : FloatKind} {x y : Nat} (hx : isNan k x = false) (hy : isNan k y = false) : (!(fcmp .lss k x y)) = fcmp .geq k x y := by
  unfold fcmp
  cases ho : k.format.order x y with
  | none =>
    rcases order_none ho with h | h
    · rw [hx] at h; cases h
    · rw [hy] at h; cases h
  | some o => cases o <;> rfl

/-- The half of what is no NaN is none. -/
theorem quo_two {x : Nat} (h : isNan .f32 x = false) : isNan .f32 (farith .quo .f32 x 1073741824) = false := by
  have h2 : FloatKind.f32.format.read 1073741824 = .number false 8388608 (-22) := by decide +kernel
  have hq : ∃ d, (FloatKind.f32.format.read x).quotient (FloatKind.f32.format.fractionBits + 2) (FloatKind.f32.format.read 1073741824) = some d := by
    rw [h2]
    unfold isNan at h
    cases hr : FloatKind.f32.format.read x with
    | nan s t => rw [hr] at h; cases h
    | infinity s => exact ⟨_, rfl⟩
    | number s m e => exact ⟨_, rfl⟩
  obtain ⟨d, hd⟩ := hq
  have hb : floatBits .quo .f32 x 1073741824 = some (FloatKind.f32.format.write d) := by
    show ((FloatKind.f32.format.read x).quotient (FloatKind.f32.format.fractionBits + 2) (FloatKind.f32.format.read 1073741824)).map _ = _
    rw [hd]; rfl
  unfold farith
  rw [hb]
  exact floatBits_notNan hb

end Go.Sim

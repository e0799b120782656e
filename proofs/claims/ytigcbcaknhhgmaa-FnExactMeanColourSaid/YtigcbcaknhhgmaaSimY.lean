/-
  Facts on floats: orders, least and greatest ones.
-/
import Derived.Test.YtigcbcaknhhgmaaSimX
namespace Go.Sim
open Ieee

theorem order_none {k : FloatKind} {x y : Nat} (h : k.format.order x y = none) : isNan k x = true ∨ isNan k y = true := by
  unfold Format.order at h
  unfold isNan
  cases hx : k.format.read x <;> cases hy : k.format.read y <;> rw [hx, hy] at h <;> simp [Datum.order, Datum.isNaN] at h ⊢ <;> (repeat' split at h) <;> simp_all

theorem farith_canon {op : BinOp} {k : FloatKind} {x y : Nat} (h : isNan k (farith op k x y) = true) : farith op k x y = nanB k := by
  unfold farith at *
  cases hf : floatBits op k x y with
  | none => rfl
  | some r => rw [hf] at h; simp only [Option.getD_some] at h; rw [floatBits_notNan hf] at h; cases h

theorem fmin_one (op : BinOp) (x y : Nat) : fmin .f32 (farith op .f32 x y) 1065353216 = (bif fcmp .gtr .f32 (farith op .f32 x y) 1065353216 then 1065353216 else farith op .f32 x y) := by
  have hc := @farith_canon op .f32 x y
  have hb : farith op .f32 x y < 4294967296 := of_decide_eq_true (fltB_farith op .f32 x y)
  generalize farith op .f32 x y = a at *
  unfold fmin fcmp
  cases ho : FloatKind.f32.format.order a 1065353216 with
  | none =>
    rcases order_none ho with h | h
    · simp only [hc h]; rfl
    · exact absurd h (by decide +kernel)
  | some o =>
    cases o with
    | lt => rfl
    | gt => rfl
    | eq =>
      show (if (FloatKind.f32.decode a).neg then a else 1065353216) = a
      split
      · rfl
      · rename_i hn
        exact (eq_of_order hb (by decide) ho (by
          have : (single.read 1065353216).neg = false := by decide +kernel
          rw [this]
          have hn' : (FloatKind.f32.decode a).neg = false := by simpa using hn
          exact hn')).symm

/-- Nothing is less than itself. -/
theorem lss_self (k : FloatKind) (x : Nat) : fcmp .lss k x x = false := by
  unfold fcmp Format.order
  cases k.format.read x with
  | nan s t => rfl
  | infinity s => cases s <;> rfl
  | number s m e => simp [Datum.order]

end Go.Sim

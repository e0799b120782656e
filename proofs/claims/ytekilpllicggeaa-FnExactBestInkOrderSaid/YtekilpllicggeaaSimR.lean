/-
  Floats compared with themselves.
-/
import Derived.Test.YtekilpllicggeaaSimQ
namespace Go.Sim

theorem neq_eql (k : FloatKind) (x y : Nat) : fcmp .neq k x y = !fcmp .eql k x y := by
  unfold fcmp
  simp only [bne]

/-- Alike: both NaN, or equal and of one sign. -/
def sameF (x y : Nat) : Bool :=
  bif (bif fcmp .neq .f64 x x then true else fcmp .neq .f64 y y) then (bif fcmp .neq .f64 x x then fcmp .neq .f64 y y else false)
  else bif (bif fcmp .eql .f64 x 0 then fcmp .eql .f64 y 0 else false) then
    (fcmp .gtr .f64 (farith .quo .f64 4607182418800017408 x) 0 == fcmp .gtr .f64 (farith .quo .f64 4607182418800017408 y) 0)
  else fcmp .eql .f64 x y

theorem sameF_self (x : Nat) : sameF x x = true := by
  unfold sameF
  rw [neq_eql]
  cases h : fcmp .eql .f64 x x <;> cases fcmp .eql .f64 x 0 <;> simp

/-- What is laid on what comes in from outside: three floats. -/
theorem threeF {xs : List AV} (h : AllKd [.flt .f32, .flt .f32, .flt .f32] xs) : ∃ a b c, xs = [.flt .f32 a, .flt .f32 b, .flt .f32 c] := by
  match xs, h with
  | [x, y, z], h =>
    obtain ⟨⟨a, rfl, _⟩, ⟨b, rfl, _⟩, ⟨c, rfl, _⟩, _⟩ := h
    exact ⟨_, _, _, rfl⟩

end Go.Sim

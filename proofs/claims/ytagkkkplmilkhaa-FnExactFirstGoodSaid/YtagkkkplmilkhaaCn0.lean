/-
  Facts of this seat that its laws use; no conditions.
-/
import Derived.Test.YtagkkkplmilkhaaAskS
namespace Go.Proofs.Ytagkkkplmilkhaa
open Go.Sim Go.ChangeShapes Go.WideShapes Go.ChangeAt Go.RowKit

noncomputable def szD (t r : Nat) : Nat := (szR [.flt .f32 (farith .sub .f32 t r)]).u 0

/-- The greatest of some numbers, from 0 on. -/
noncomputable def gM (f : Nat → Nat) : Nat → Nat
  | 0 => 0
  | z + 1 => bif fcmp .gtr .f32 (f z) (gM f z) then f z else gM f z

theorem gM_congr {f g : Nat → Nat} {z : Nat} (h : ∀ i, i < z → f i = g i) : gM f z = gM g z := by
  induction z with
  | zero => rfl
  | succ z ih =>
    simp only [gM]
    rw [h z (Nat.lt_succ_self z), ih fun i hi => h i (Nat.lt_succ_of_lt hi)]

/-- Whether a row is good. -/
noncomputable def goodF (z : Nat) (t : Nat → Nat) (w : Nat) (y : Vars) (k : Nat) : Bool := fcmp .leq .f32 (gM (fun i => szD (t i) (y.u (8 * k + i))) z) w

/-- How many of the numbers from 'a' on. -/
def cntF (g : Nat → Bool) : Nat → Nat → Int
  | _, 0 => 0
  | a, n + 1 => (bif g a then 1 else 0) + cntF g (a + 1) n

theorem cntF_congr {g h : Nat → Bool} : ∀ {n a : Nat}, (∀ j, a ≤ j → j < a + n → g j = h j) → cntF g a n = cntF h a n
  | 0, _, _ => rfl
  | n + 1, a, hh => by
    simp only [cntF]
    rw [hh a (Nat.le_refl _) (by omega), cntF_congr fun j h1 h2 => hh j (by omega) (by omega)]

theorem bif_add (b : Bool) (n : Int) : (bif b then iadd n 1 else n) = n + (bif b then 1 else 0) := by
  cases b with
  | true => rfl
  | false => exact (Int.add_zero n).symm

/-- A loop that counts. -/
theorem cnt_run {T : SV → Tr} {N E : SV → SV} (P : SV → Prop) (gk : Nat → Bool) (L : Nat)
    (hp : ∀ s, P s → s.x.i 0 < L → (T s).pick = .next (N s))
    (hn : ∀ s, P s → (N s).x.i 0 = s.x.i 0 + 1 ∧ (N s).x.i 1 = s.x.i 1 + (bif gk (s.x.i 0).toNat then 1 else 0) ∧ P (N s))
    (he : ∀ s, P s → ¬ s.x.i 0 < L → (T s).pick = .out 0 (E s) ∧ (E s).x.i 0 = s.x.i 1) :
    ∀ n s, P s → 0 ≤ s.x.i 0 → s.x.i 0 ≤ L → ((L : Int) - s.x.i 0).toNat < n →
      (Go.Sim.runT T n s).1 = 0 ∧ (Go.Sim.runT T n s).2.x.i 0 = s.x.i 1 + cntF gk (s.x.i 0).toNat (L - (s.x.i 0).toNat) ∧ ∃ r, P r ∧ (Go.Sim.runT T n s).2 = E r := by
  intro n
  induction n with
  | zero => intro s _ _ _ h; omega
  | succ n ih =>
    intro s hs h0 h1 h2
    simp only [Go.Sim.runT]
    by_cases hlt : s.x.i 0 < L
    · rw [hp s hs hlt]
      obtain ⟨e0, e1, e2⟩ := hn s hs
      obtain ⟨g1, g2, g3⟩ := ih (N s) e2 (by omega) (by omega) (by omega)
      refine ⟨g1, g2.trans ?_, g3⟩
      rw [show L - (s.x.i 0).toNat = (L - ((N s).x.i 0).toNat) + 1 by omega]
      simp only [cntF]
      rw [e1, show ((N s).x.i 0).toNat = (s.x.i 0).toNat + 1 by omega]
      omega
    · obtain ⟨q1, q2⟩ := he s hs hlt
      rw [q1]
      refine ⟨rfl, q2.trans ?_, s, hs, rfl⟩
      rw [show L - (s.x.i 0).toNat = 0 by omega]
      exact (Int.add_zero _).symm

end Go.Proofs.Ytagkkkplmilkhaa

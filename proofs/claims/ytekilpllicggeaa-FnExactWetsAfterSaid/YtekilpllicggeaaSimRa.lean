/-
  Rounding to the nearest word: exact where there is one, and never out of order.
-/
import Derived.Test.YtekilpllicggeaaSimYa
namespace Go.Sim
open Ieee

/-- 'n / 2 ^ d', to the nearest whole number, ties to even. -/
def rne (n d : Nat) : Nat := n / 2 ^ d + (if 2 ^ d < 2 * (n % 2 ^ d) ∨ (2 ^ d = 2 * (n % 2 ^ d) ∧ n / 2 ^ d % 2 = 1) then 1 else 0)

theorem rne_lo (n d : Nat) : n / 2 ^ d ≤ rne n d := Nat.le_add_right ..

theorem rne_hi (n d : Nat) : rne n d ≤ n / 2 ^ d + 1 := by
  unfold rne
  split <;> omega

theorem rne_exact (k d : Nat) : rne (k * 2 ^ d) d = k := by
  have hp : 0 < 2 ^ d := Nat.two_pow_pos d
  unfold rne
  rw [Nat.mul_div_cancel _ hp, Nat.mul_mod_left, if_neg (by omega)]
  rfl

theorem rne_zero (n : Nat) : rne n 0 = n := by
  have := rne_exact n 0
  simpa using this

theorem rne_mono {m n : Nat} (d : Nat) (h : m ≤ n) : rne m d ≤ rne n d := by
  have hp : 0 < 2 ^ d := Nat.two_pow_pos d
  have hq : m / 2 ^ d ≤ n / 2 ^ d := Nat.div_le_div_right h
  rcases Nat.lt_or_ge (m / 2 ^ d) (n / 2 ^ d) with hlt | hge
  · exact Nat.le_trans (rne_hi m d) (Nat.le_trans hlt (rne_lo n d))
  · have he : m / 2 ^ d = n / 2 ^ d := Nat.le_antisymm hq hge
    have hr : m % 2 ^ d ≤ n % 2 ^ d := by
      have h1 := Nat.div_add_mod m (2 ^ d)
      have h2 := Nat.div_add_mod n (2 ^ d)
      rw [he] at h1
      omega
    unfold rne
    rw [he]
    generalize 2 ^ d = g at *
    generalize m % g = r at *
    generalize n % g = s at *
    generalize n / g = q at *
    split <;> split <;> omega

theorem rne_ge {a n d : Nat} (h : a * 2 ^ d ≤ n) : a ≤ rne n d := by
  have := rne_mono d h
  rwa [rne_exact] at this

theorem rne_le {a n d : Nat} (h : n ≤ a * 2 ^ d) : rne n d ≤ a := by
  have := rne_mono d h
  rwa [rne_exact] at this

theorem rne_scale (n d j : Nat) : rne (n * 2 ^ j) (d + j) = rne n d := by
  have hj : 0 < 2 ^ j := Nat.two_pow_pos j
  have hd : n * 2 ^ j / 2 ^ (d + j) = n / 2 ^ d := by
    rw [Nat.pow_add, Nat.mul_div_mul_right _ _ hj]
  have hm : n * 2 ^ j % 2 ^ (d + j) = (n % 2 ^ d) * 2 ^ j := by
    rw [Nat.pow_add, Nat.mul_mod_mul_right]
  unfold rne
  rw [hd, hm, Nat.pow_add]
  have e1 : (2 ^ d * 2 ^ j < 2 * (n % 2 ^ d * 2 ^ j)) ↔ 2 ^ d < 2 * (n % 2 ^ d) := by
    rw [← Nat.mul_assoc]
    exact Nat.mul_lt_mul_right hj
  have e2 : (2 ^ d * 2 ^ j = 2 * (n % 2 ^ d * 2 ^ j)) ↔ 2 ^ d = 2 * (n % 2 ^ d) := by
    rw [← Nat.mul_assoc]
    exact Nat.mul_right_cancel_iff hj
  simp only [e1, e2]

theorem cut_even (neg : Bool) (n d : Nat) : Toward.even.cut neg n d = rne n d := by
  have key : ∀ g : Nat, (Toward.even.cut neg n d) = (let gap := 1 <<< min d (n.log2 + 2); n / gap + (gap < 2 * (n % gap) || (gap == 2 * (n % gap) && n / gap % 2 == 1) : Bool).toNat) := fun _ => rfl
  rw [key 0]
  simp only [Nat.one_shiftLeft]
  have hb : ∀ g q r : Nat, (decide (g < 2 * r) || (g == 2 * r && q % 2 == 1)).toNat = if g < 2 * r ∨ (g = 2 * r ∧ q % 2 = 1) then 1 else 0 := by
    intro g q r
    by_cases h : g < 2 * r ∨ (g = 2 * r ∧ q % 2 = 1)
    · rw [if_pos h]
      have : (decide (g < 2 * r) || (g == 2 * r && q % 2 == 1)) = true := by simpa using h
      rw [this]; rfl
    · rw [if_neg h]
      have : (decide (g < 2 * r) || (g == 2 * r && q % 2 == 1)) = false := by
        rw [← Bool.not_eq_true]
        simpa using h
      rw [this]; rfl
  rw [hb]
  rcases Nat.le_total d (n.log2 + 2) with h | h
  · rw [Nat.min_eq_left h]; rfl
  · rw [Nat.min_eq_right h]
    have hn : n < 2 ^ (n.log2 + 1) := Nat.lt_log2_self
    have h2 : 2 ^ (n.log2 + 2) = 2 * 2 ^ (n.log2 + 1) := by rw [Nat.pow_succ]; omega
    have h3 : 2 ^ (n.log2 + 2) ≤ 2 ^ d := Nat.pow_le_pow_right (by omega) h
    have e1 : n / 2 ^ (n.log2 + 2) = 0 := Nat.div_eq_of_lt (by omega)
    have e2 : n / 2 ^ d = 0 := Nat.div_eq_of_lt (by omega)
    have e3 : n % 2 ^ (n.log2 + 2) = n := Nat.mod_eq_of_lt (by omega)
    have e4 : n % 2 ^ d = n := Nat.mod_eq_of_lt (by omega)
    unfold rne
    rw [e1, e2, e3, e4, if_neg (by omega), if_neg (by omega)]

/-- The rung nearest to 'X' units of '2 ^ -S' rungs' units. -/
def RX (fb S X : Nat) : Nat := (X.log2 - (fb + S)) * 2 ^ fb + rne X (S + (X.log2 - (fb + S)))

theorem RX_mono (fb S : Nat) {X Y : Nat} (h : X ≤ Y) : RX fb S X ≤ RX fb S Y := by
  have hl : X.log2 ≤ Y.log2 := by
    by_cases hx : X = 0
    · subst hx; simp
    · rw [Nat.le_log2 (by omega)]
      exact Nat.le_trans (Nat.log2_self_le hx) h
  unfold RX
  generalize hX : X.log2 - (fb + S) = e
  generalize hY : Y.log2 - (fb + S) = e'
  rcases Nat.lt_or_ge e e' with hlt | hge
  · have h1 : rne X (S + e) ≤ 2 * 2 ^ fb := by
      refine rne_le ?_
      have hx := Nat.lt_log2_self (n := X)
      have hp : X.log2 + 1 ≤ fb + 1 + (S + e) := by omega
      have := Nat.pow_le_pow_right (n := 2) (by omega) hp
      have e1 : (2:Nat) ^ (fb + 1 + (S + e)) = 2 * 2 ^ fb * 2 ^ (S + e) := by
        rw [Nat.pow_add 2 (fb + 1) (S + e), Nat.pow_succ, Nat.mul_comm (2 ^ fb) 2]
      rw [e1] at this
      exact Nat.le_trans (Nat.le_of_lt hx) this
    have h2 : 2 ^ fb ≤ rne Y (S + e') := by
      refine rne_ge ?_
      have hy0 : Y ≠ 0 := by
        intro h0
        subst h0
        simp at hY
        omega
      have hp : fb + (S + e') ≤ Y.log2 := by omega
      have := Nat.pow_le_pow_right (n := 2) (by omega) hp
      rw [Nat.pow_add] at this
      exact Nat.le_trans this (Nat.log2_self_le hy0)
    have h3 : (e + 1) * 2 ^ fb ≤ e' * 2 ^ fb := Nat.mul_le_mul_right _ hlt
    rw [Nat.add_mul] at h3
    omega
  · have he : e = e' := by omega
    subst he
    exact Nat.add_le_add_left (rne_mono _ h) _

/-- A rung's number of units. -/
def V (fb r : Nat) : Nat := if r < 2 ^ fb then r else (2 ^ fb + r % 2 ^ fb) * 2 ^ (r / 2 ^ fb - 1)

theorem log2_of {n k : Nat} (h1 : 2 ^ k ≤ n) (h2 : n < 2 ^ (k + 1)) : n.log2 = k := by
  have hn : n ≠ 0 := by have := Nat.two_pow_pos k; omega
  have a : k ≤ n.log2 := (Nat.le_log2 hn).2 h1
  have b : n.log2 < k + 1 := (Nat.log2_lt hn).2 h2
  omega

theorem RX_exact (fb S r : Nat) : RX fb S (V fb r * 2 ^ S) = r := by
  unfold V
  split
  · rename_i h
    have he : (r * 2 ^ S).log2 - (fb + S) = 0 := by
      by_cases h0 : r = 0
      · subst h0; simp
      · have : (r * 2 ^ S).log2 < fb + S := by
          refine (Nat.log2_lt (by have := Nat.two_pow_pos S; exact Nat.mul_ne_zero h0 (by omega))).2 ?_
          rw [Nat.pow_add]
          exact Nat.mul_lt_mul_of_pos_right h (Nat.two_pow_pos S)
        omega
    unfold RX
    rw [he, Nat.add_zero, rne_exact]
    omega
  · rename_i h
    have hB := Nat.two_pow_pos fb
    generalize hk : r / 2 ^ fb - 1 = k
    have hq : 1 ≤ r / 2 ^ fb := (Nat.one_le_div_iff hB).2 (by omega)
    have hr := Nat.div_add_mod r (2 ^ fb)
    have hm := Nat.mod_lt r hB
    have hX : (2 ^ fb + r % 2 ^ fb) * 2 ^ k * 2 ^ S = (2 ^ fb + r % 2 ^ fb) * 2 ^ (S + k) := by
      rw [Nat.mul_assoc, ← Nat.pow_add, Nat.add_comm k S]
    rw [hX]
    have hl : ((2 ^ fb + r % 2 ^ fb) * 2 ^ (S + k)).log2 = fb + S + k := by
      have hp := Nat.two_pow_pos (S + k)
      refine log2_of ?_ ?_
      · rw [Nat.add_assoc, Nat.pow_add]
        exact Nat.mul_le_mul_right _ (by omega)
      · have e1 : (2:Nat) ^ (fb + S + k + 1) = (2 ^ fb * 2) * 2 ^ (S + k) := by
          rw [show fb + S + k + 1 = (fb + 1) + (S + k) by omega, Nat.pow_add 2 (fb + 1) (S + k), Nat.pow_succ]
        rw [e1]
        refine Nat.mul_lt_mul_of_pos_right ?_ hp
        omega
    unfold RX
    rw [hl, show fb + S + k - (fb + S) = k by omega, rne_exact]
    have : r / 2 ^ fb = k + 1 := by omega
    rw [this] at hr
    rw [Nat.mul_comm, Nat.add_mul, Nat.one_mul] at hr
    omega

/-- Between two rungs, the nearest is. -/
theorem RX_ge {fb S X r : Nat} (h : V fb r * 2 ^ S ≤ X) : r ≤ RX fb S X := by
  have := RX_mono fb S h
  rwa [RX_exact] at this

theorem RX_le {fb S X r : Nat} (h : X ≤ V fb r * 2 ^ S) : RX fb S X ≤ r := by
  have := RX_mono fb S h
  rwa [RX_exact] at this

theorem log2_scale {m : Nat} (h : m ≠ 0) (a : Nat) : (m * 2 ^ a).log2 = m.log2 + a := by
  have hp := Nat.two_pow_pos a
  refine log2_of ?_ ?_
  · rw [Nat.pow_add]
    exact Nat.mul_le_mul_right _ (Nat.log2_self_le h)
  · rw [show m.log2 + a + 1 = (m.log2 + 1) + a by omega, Nat.pow_add]
    exact Nat.mul_lt_mul_of_pos_right Nat.lt_log2_self hp

/-- The nearest word, counted from a place below all. -/
theorem nearest_eq (f : Format) (neg : Bool) (m : Nat) (p b : Int) (a S : Nat) (hp : p = b + a) (hS : f.leastPlace = b + S) :
    f.nearest neg m p = f.word neg (min (RX f.fractionBits S (m * 2 ^ a)) f.infRung) := by
  unfold Format.nearest
  by_cases h0 : m = 0
  · subst h0
    have : RX f.fractionBits S (0 * 2 ^ a) = 0 := by
      rw [Nat.zero_mul]
      have := RX_exact f.fractionBits S 0
      have hv : V f.fractionBits 0 = 0 := by
        unfold V
        rw [if_pos (Nat.two_pow_pos _)]
      rwa [hv, Nat.zero_mul] at this
    rw [if_pos rfl, this, Nat.zero_min]
  · rw [if_neg h0]
    simp only [cut_even, Nat.shiftLeft_eq, hS, hp]
    unfold RX Format.binade
    rw [log2_scale h0]
    generalize hE : m.log2 + a - (f.fractionBits + S) = e
    have hlast : max (b + (a : Int) + (m.log2 : Int) - (f.fractionBits : Int)) (b + (S : Int)) = b + S + e := by omega
    rw [hlast]
    have e1 : (b + (S : Int) + (e : Int) - (b + (S : Int))).toNat = e := by omega
    have e2 : (b + (a : Int) - (b + (S : Int) + (e : Int))).toNat = a - (S + e) := by omega
    have e3 : (b + (S : Int) + (e : Int) - (b + (a : Int))).toNat = S + e - a := by omega
    rw [e1, e2, e3]
    have hk : rne (m * 2 ^ (a - (S + e))) (S + e - a) = rne (m * 2 ^ a) (S + e) := by
      rcases Nat.le_total (S + e) a with h | h
      · rw [show S + e - a = 0 by omega]
        have := rne_scale (m * 2 ^ (a - (S + e))) 0 (S + e)
        rw [Nat.mul_assoc, ← Nat.pow_add, Nat.sub_add_cancel h, Nat.zero_add] at this
        exact this.symm
      · rw [show a - (S + e) = 0 by omega, Nat.pow_zero, Nat.mul_one]
        have := rne_scale m (S + e - a) a
        rw [Nat.sub_add_cancel h] at this
        exact this.symm
    rw [hk]

/-- What a word reads as, counted in units. -/
theorem read_eq (f : Format) (w : Nat) (h : w % f.signWeight < f.infRung) :
    ∃ (m k : Nat), f.read w = .number (w / f.signWeight % 2 == 1) m (f.leastPlace + k) ∧ m * 2 ^ k = V f.fractionBits (w % f.signWeight) := by
  unfold Format.read V
  by_cases h1 : w % f.signWeight < f.binade
  · refine ⟨w % f.signWeight, 0, ?_, ?_⟩
    · simp only [if_pos h1]
      simp
    · rw [if_pos (show w % f.signWeight < 2 ^ f.fractionBits from h1), Nat.pow_zero, Nat.mul_one]
  · refine ⟨2 ^ f.fractionBits + w % f.signWeight % 2 ^ f.fractionBits, w % f.signWeight / 2 ^ f.fractionBits - 1, ?_, ?_⟩
    · simp only [if_neg h1, if_pos h]
      rfl
    · rw [if_neg (show ¬ w % f.signWeight < 2 ^ f.fractionBits from h1)]

/-- The units of the nearest rung, where there is one that fits. -/
theorem V_RX_small {fb X : Nat} (h : X < 2 ^ fb) : V fb (RX fb 0 X) = X := by
  have : V fb X = X := by
    unfold V
    rw [if_pos h]
  have e := RX_exact fb 0 X
  rw [Nat.pow_zero, Nat.mul_one, this] at e
  rw [e, this]

theorem V_RX {fb q e : Nat} (h1 : 2 ^ fb ≤ q) (h2 : q < 2 ^ (fb + 1)) : V fb (RX fb 0 (q * 2 ^ e)) = q * 2 ^ e := by
  have hB := Nat.two_pow_pos fb
  have h2' : q < 2 * 2 ^ fb := by rw [Nat.pow_succ] at h2; omega
  have hV : V fb ((e + 1) * 2 ^ fb + (q - 2 ^ fb)) = q * 2 ^ e := by
    unfold V
    have hd : ((e + 1) * 2 ^ fb + (q - 2 ^ fb)) / 2 ^ fb = e + 1 := by
      rw [Nat.mul_comm, Nat.mul_add_div hB, Nat.div_eq_of_lt (by omega)]
    have hm : ((e + 1) * 2 ^ fb + (q - 2 ^ fb)) % 2 ^ fb = q - 2 ^ fb := by
      rw [Nat.mul_comm, Nat.mul_add_mod, Nat.mod_eq_of_lt (by omega)]
    have hg : ¬ (e + 1) * 2 ^ fb + (q - 2 ^ fb) < 2 ^ fb := by
      rw [Nat.add_mul]
      omega
    rw [if_neg hg, hd, hm]
    congr 1
    omega
  have e1 := RX_exact fb 0 ((e + 1) * 2 ^ fb + (q - 2 ^ fb))
  rw [Nat.pow_zero, Nat.mul_one, hV] at e1
  rw [e1, hV]

/-- A number of few digits fits. -/
theorem V_RX_fit {fb m : Nat} (h : m < 2 ^ (fb + 1)) (j : Nat) : V fb (RX fb 0 (m * 2 ^ j)) = m * 2 ^ j := by
  by_cases h0 : m = 0
  · subst h0
    rw [Nat.zero_mul]
    exact V_RX_small (Nat.two_pow_pos fb)
  · rcases Nat.lt_or_ge (m * 2 ^ j) (2 ^ fb) with hs | hs
    · exact V_RX_small hs
    · have hl : m.log2 ≤ fb := by
        have := (Nat.log2_lt h0).2 h
        omega
      have hL := log2_scale h0 j
      have hj : fb ≤ m.log2 + j := by
        rw [← hL]
        exact (Nat.le_log2 (by have := Nat.two_pow_pos j; exact Nat.mul_ne_zero h0 (by omega))).2 hs
      have hX : m * 2 ^ j = (m * 2 ^ (fb - m.log2)) * 2 ^ (j - (fb - m.log2)) := by
        rw [Nat.mul_assoc, ← Nat.pow_add, show fb - m.log2 + (j - (fb - m.log2)) = j by omega]
      rw [hX]
      refine V_RX ?_ ?_
      · have := Nat.mul_le_mul_right (2 ^ (fb - m.log2)) (Nat.log2_self_le h0)
        rw [← Nat.pow_add, show m.log2 + (fb - m.log2) = fb by omega] at this
        exact this
      · have := Nat.mul_lt_mul_of_pos_right (Nat.lt_log2_self (n := m)) (Nat.two_pow_pos (fb - m.log2))
        rw [← Nat.pow_add, show m.log2 + 1 + (fb - m.log2) = fb + 1 by omega] at this
        exact this

/-- What a narrow rung is in a wider format, and back. -/
theorem narrow_widen (fb gb S r : Nat) (h : fb ≤ gb) : RX fb S (V gb (RX gb 0 (V fb r * 2 ^ S))) = r := by
  have hp : (2:Nat) ^ (fb + 1) ≤ 2 ^ (gb + 1) := Nat.pow_le_pow_right (by omega) (by omega)
  have hf : V gb (RX gb 0 (V fb r * 2 ^ S)) = V fb r * 2 ^ S := by
    unfold V
    split
    · rename_i hr
      refine V_RX_fit (Nat.lt_of_lt_of_le hr (Nat.le_trans ?_ hp)) S
      exact Nat.pow_le_pow_right (by omega) (by omega)
    · rw [Nat.mul_assoc, ← Nat.pow_add]
      refine V_RX_fit (Nat.lt_of_lt_of_le ?_ hp) _
      have := Nat.mod_lt r (Nat.two_pow_pos fb)
      rw [Nat.pow_succ]
      omega
  rw [hf, RX_exact]

end Go.Sim

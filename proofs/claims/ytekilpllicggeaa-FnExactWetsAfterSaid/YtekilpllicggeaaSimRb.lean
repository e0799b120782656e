/-
  A narrow float, widened; its sign taken off; made narrow again.
-/
import Derived.Test.YtekilpllicggeaaSimRa
namespace Go.Sim
open Ieee

theorem V_lt {fb e r : Nat} (h : r < e * 2 ^ fb) : V fb r ≤ 2 ^ (fb + e) := by
  have hB := Nat.two_pow_pos fb
  unfold V
  split
  · rename_i h1
    exact Nat.le_trans (Nat.le_of_lt h1) (Nat.pow_le_pow_right (by omega) (by omega))
  · rename_i h1
    have hm := Nat.mod_lt r hB
    have hq : r / 2 ^ fb < e := (Nat.div_lt_iff_lt_mul hB).2 h
    have hq1 : 1 ≤ r / 2 ^ fb := (Nat.one_le_div_iff hB).2 (by omega)
    have h2 : 2 ^ fb + r % 2 ^ fb ≤ 2 ^ (fb + 1) := by rw [Nat.pow_succ]; omega
    have h3 := Nat.mul_le_mul h2 (Nat.pow_le_pow_right (n := 2) (by omega) (show r / 2 ^ fb - 1 ≤ e - 1 by omega))
    rw [← Nat.pow_add] at h3
    exact Nat.le_trans h3 (Nat.pow_le_pow_right (by omega) (by omega))

theorem V_binade (fb j : Nat) : V fb ((j + 1) * 2 ^ fb) = 2 ^ (fb + j) := by
  have hB := Nat.two_pow_pos fb
  unfold V
  rw [if_neg, Nat.mul_mod_left, Nat.mul_div_cancel _ hB, Nat.add_zero, ← Nat.pow_add]
  · rfl
  · rw [Nat.add_mul]
    omega

theorem RX_under {fb S X j : Nat} (h : X ≤ 2 ^ (fb + j + S)) : RX fb S X ≤ (j + 1) * 2 ^ fb := by
  refine RX_le ?_
  rw [V_binade, ← Nat.pow_add]
  exact h

/-- A number of one format in another. -/
theorem nearest_of (f g : Format) (t : Bool) (m k S T r : Nat) (hS : f.leastPlace + T = g.leastPlace + S) (hm : m * 2 ^ k = V f.fractionBits r) :
    g.nearest t m (f.leastPlace + k) = g.word t (min (RX g.fractionBits T (V f.fractionBits r * 2 ^ S)) g.infRung) := by
  rw [nearest_eq g t m _ (g.leastPlace - T) (k + S) T (by omega) (by omega), ← hm, Nat.mul_assoc, ← Nat.pow_add]

theorem wide_lt {fb gb S e j r I : Nat} (h : r < e * 2 ^ fb) (he : fb + e + S ≤ gb + j) (hI : (j + 1) * 2 ^ gb < I) : RX gb 0 (V fb r * 2 ^ S) < I := by
  have h1 := Nat.mul_le_mul_right (2 ^ S) (V_lt h)
  rw [← Nat.pow_add] at h1
  have h2 : 2 ^ (fb + e + S) ≤ 2 ^ (gb + j + 0) := Nat.pow_le_pow_right (by omega) (by omega)
  exact Nat.lt_of_le_of_lt (RX_under (Nat.le_trans h1 h2)) hI

/-- Of a word of a narrow format 'f': the wide one's word; narrowed under whatever sign. -/
theorem widen_gen (f g : Format) (S : Nat) (hS : f.leastPlace = g.leastPlace + S) (hf : f.fractionBits ≤ g.fractionBits)
    (hw : ∀ r, r < f.infRung → RX g.fractionBits 0 (V f.fractionBits r * 2 ^ S) < g.infRung) (hg : g.infRung ≤ g.signWeight) (x : Nat) (hx : x % f.signWeight < f.infRung) :
    ∃ W m k, W < g.infRung ∧ f.read x = .number (x / f.signWeight % 2 == 1) m (f.leastPlace + k) ∧
      (∀ t, g.nearest t m (f.leastPlace + k) = g.word t W) ∧
      ∃ m' k', (∀ t, f.nearest t m' (g.leastPlace + k') = f.word t (x % f.signWeight)) ∧ ∀ w s, w % g.signWeight = W → (w / g.signWeight % 2 == 1) = s → g.read w = .number s m' (g.leastPlace + k') := by
  obtain ⟨m, k, e1, e2⟩ := read_eq f x hx
  refine ⟨RX g.fractionBits 0 (V f.fractionBits (x % f.signWeight) * 2 ^ S), m, k, hw _ hx, e1, fun t => ?_, ?_⟩
  · rw [nearest_of f g t m k S 0 (x % f.signWeight) (by omega) e2, Nat.min_eq_left (Nat.le_of_lt (hw _ hx))]
  · generalize hW : RX g.fractionBits 0 (V f.fractionBits (x % f.signWeight) * 2 ^ S) = W
    have hlt : W < g.infRung := hW ▸ hw _ hx
    have hm : W % g.signWeight = W := Nat.mod_eq_of_lt (by omega)
    obtain ⟨m', k', a1, a2⟩ := read_eq g W (by omega)
    rw [hm] at a2
    refine ⟨m', k', fun t => ?_, fun w s hw' hs => ?_⟩
    · rw [nearest_of g f t m' k' 0 S W (by omega) a2, Nat.pow_zero, Nat.mul_one, ← hW, narrow_widen _ _ _ _ hf, Nat.min_eq_left (Nat.le_of_lt hx)]
    · have hr : ∀ u v : Nat, u % g.signWeight = v % g.signWeight → ∀ m p, g.read u = .number (u / g.signWeight % 2 == 1) m p → g.read v = .number (v / g.signWeight % 2 == 1) m p := by
        intro u v huv m p h
        unfold Format.read at h ⊢
        rw [huv] at h
        generalize (u / g.signWeight % 2 == 1) = su at h
        generalize (v / g.signWeight % 2 == 1) = sv
        generalize v % g.signWeight = r at h ⊢
        simp only at h ⊢
        split at h
        · rename_i h1
          cases h
          rw [if_pos h1]
        · rename_i h1
          split at h
          · rename_i h2
            cases h
            rw [if_neg h1, if_pos h2]
          · split at h <;> cases h
      have := hr W w (by rw [hm, hw']) m' _ a1
      rw [this, hs]

theorem s_sw : single.signWeight = 2147483648 := by decide
theorem s_inf : single.infRung = 2139095040 := by decide
theorem d_sw : double.signWeight = 9223372036854775808 := by decide
theorem d_inf : double.infRung = 9218868437227405312 := by decide

theorem notNan_rung {x : Nat} (h : isNan .f32 x = false) : x % 2147483648 ≤ 2139095040 := by
  obtain ⟨s, r, hs, hr, hc⟩ := read_cases x
  rcases hc with hc | hc | hc | hc
  · omega
  · omega
  · omega
  · exfalso
    have : isNan .f32 x = true := by
      show (single.read x).isNaN = true
      rw [hc.2]
      rfl
    rw [h] at this
    cases this

/-- The bits below the sign. -/
theorem andNot_sign {w W : Nat} (h : w % 9223372036854775808 = W) : ibitS .andNot .u64 (Int.ofNat w) 9223372036854775808 = Int.ofNat W := by
  unfold ibitS ibit
  simp only [IntKind.bits]
  have h1 : (BitVec.ofInt 64 (Int.ofNat w) &&& ~~~BitVec.ofInt 64 9223372036854775808).toNat = w % 9223372036854775808 := by
    rw [BitVec.toNat_and]
    have e1 : (~~~BitVec.ofInt 64 9223372036854775808).toNat = 2 ^ 63 - 1 := by decide
    have e2 : (BitVec.ofInt 64 (Int.ofNat w)).toNat = w % 2 ^ 64 := by
      rw [BitVec.toNat_ofInt]
      have : (Int.ofNat w) = (w : Int) := rfl
      rw [this]
      omega
    rw [e1, e2, Nat.and_two_pow_sub_one_eq_mod]
    omega
  show ((BitVec.ofInt 64 (Int.ofNat w) &&& ~~~BitVec.ofInt 64 9223372036854775808).toNat : Int) = _
  rw [h1, h]
  rfl

theorem wrap_small {W : Nat} (h : W < 9223372036854775808) : (wrapS .u64 (Int.ofNat W)).toNat = W := by
  unfold wrapS
  simp only [IntKind.wrap, IntKind.signed, IntKind.bits, Bool.false_and, Bool.false_eq_true, if_false, show ((2 : Int) ^ 64) = 18446744073709551616 from rfl]
  have : Int.ofNat W = (W : Int) := rfl
  omega

/-- How far the formats' least places lie apart. -/
def S925 : Nat := 925

theorem bound32 : ∀ r, r < single.infRung → RX double.fractionBits 0 (V single.fractionBits r * 2 ^ S925) < double.infRung := fun r hr => by
  rw [s_inf] at hr
  exact wide_lt (e := 255) (j := 1151) (by show r < 255 * 2 ^ 23; omega) (by decide) (by decide)

/-- Widened, its sign taken off, made narrow. -/
theorem abs_ok {x : Nat} (h : isNan .f32 x = false) :
    fconv .f64 .f32 (canon .f64 (wrapS .u64 (ibitS .andNot .u64 (Int.ofNat (fconv .f32 .f64 x)) 9223372036854775808)).toNat) = x % 2147483648 ∧
    fconvOk .f64 .f32 (canon .f64 (wrapS .u64 (ibitS .andNot .u64 (Int.ofNat (fconv .f32 .f64 x)) 9223372036854775808)).toNat) = true := by
  have hr := notNan_rung h
  rcases Nat.lt_or_ge (x % 2147483648) 2139095040 with h1 | h1
  · obtain ⟨W, m, k, hW, e1, e2, m', k', e3, e4⟩ := widen_gen single double S925 (by decide) (by decide) bound32 (by rw [d_inf, d_sw]; decide) x (by rw [s_sw, s_inf]; exact h1)
    rw [d_inf] at hW
    rw [s_sw] at e1 e3
    have hf : fconv .f32 .f64 x = double.word (x / 2147483648 % 2 == 1) W := by
      rw [← e2]
      unfold fconv
      have e1' : FloatKind.f32.decode x = .number (x / 2147483648 % 2 == 1) m (single.leastPlace + k) := e1
      simp only [e1']
      rfl
    have hw : double.word (x / 2147483648 % 2 == 1) W % 9223372036854775808 = W := by
      unfold Format.word
      rw [d_sw]
      split <;> omega
    rw [hf, andNot_sign hw, wrap_small (by omega)]
    have e5 := e4 W false (by rw [d_sw]; omega) (by rw [d_sw, Nat.div_eq_of_lt (by omega)]; rfl)
    have hn : isNan .f64 W = false := by
      show (double.read W).isNaN = false
      rw [e5]
      rfl
    have hc : canon .f64 W = W := by
      unfold canon
      rw [hn]
      rfl
    have hv : single.word false (x % 2147483648) = x % 2147483648 := rfl
    rw [hc]
    have e5' : FloatKind.f64.decode W = .number false m' (double.leastPlace + k') := e5
    refine ⟨?_, ?_⟩
    · unfold fconv
      simp only [e5']
      exact (e3 false).trans hv
    · unfold fconvOk
      simp only [e5']
      have hi : (single.read (single.nearest false m' (double.leastPlace + k'))).isInfinity = false := by
        rw [e3 false, hv]
        exact read_small single false (x % 2147483648) (by rw [s_inf]; exact h1) (by rw [s_inf, s_sw]; omega)
      have hg : (FloatKind.f32.decode (FloatKind.f32.encode (.number false m' (double.leastPlace + k')))).isInfinity = false := hi
      rw [hg]
      rfl
  · obtain ⟨s, r, hs, hr', hc⟩ := read_cases x
    have hi : single.read x = .infinity s := by
      rcases hc with hc | hc | hc | hc
      · omega
      · omega
      · exact hc.2
      · omega
    have he : x % 2147483648 = 2139095040 := by omega
    have hf : fconv .f32 .f64 x = double.word s double.infRung := by
      unfold fconv
      have e1' : FloatKind.f32.decode x = .infinity s := hi
      simp only [e1']
      rfl
    have hw : double.word s double.infRung % 9223372036854775808 = 9218868437227405312 := by
      unfold Format.word
      rw [d_sw, d_inf]
      split <;> omega
    rw [hf, he, andNot_sign hw, wrap_small (by decide)]
    decide +kernel

end Go.Sim

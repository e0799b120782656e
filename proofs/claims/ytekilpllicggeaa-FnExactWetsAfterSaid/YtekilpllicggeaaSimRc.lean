/-
  Words in their order: by sign and rung.
-/
import Derived.Test.YtekilpllicggeaaSimRb
namespace Go.Sim
open Ieee

theorem cmp_lt {a b : Int} (h : a < b) : compare a b = .lt := by
  rw [Int.compare_eq_lt]; exact h
theorem cmp_gt {a b : Int} (h : b < a) : compare a b = .gt := by
  rw [Int.compare_eq_gt]; exact h
theorem cmp_same (a : Int) : compare a a = .eq := by
  rw [Int.compare_eq_eq]

theorem cmp_of {a b c d : Int} (h1 : a < b ↔ c < d) (h2 : b < a ↔ d < c) : compare a b = compare c d := by
  rcases Int.lt_trichotomy a b with h | h | h
  · rw [cmp_lt h, cmp_lt (h1.1 h)]
  · subst h
    have : c = d := by
      have n1 : ¬ c < d := fun q => Int.lt_irrefl _ (h1.2 q)
      have n2 : ¬ d < c := fun q => Int.lt_irrefl _ (h2.2 q)
      omega
    subst this
    rw [cmp_same, cmp_same]
  · rw [cmp_gt h, cmp_gt (h2.1 h)]

theorem V_zero (fb : Nat) : V fb 0 = 0 := by
  unfold V
  rw [if_pos (Nat.two_pow_pos _)]

theorem V_lt_iff {fb a b : Nat} : V fb a < V fb b ↔ a < b := by
  have key : ∀ a b, V fb a ≤ V fb b → a ≤ b := fun a b h => by
    have := RX_mono fb 0 h
    have e1 := RX_exact fb 0 a
    have e2 := RX_exact fb 0 b
    rw [Nat.pow_zero, Nat.mul_one] at e1 e2
    omega
  constructor
  · intro h
    rcases Nat.lt_or_ge a b with q | q
    · exact q
    · exfalso
      have h2 := key a b (Nat.le_of_lt h)
      have : a = b := by omega
      subst this
      exact Nat.lt_irrefl _ h
  · intro h
    rcases Nat.lt_or_ge (V fb a) (V fb b) with q | q
    · exact q
    · have := key b a q
      omega

theorem V_le_iff {fb a b : Nat} : V fb a ≤ V fb b ↔ a ≤ b := by
  rw [← Nat.not_lt, V_lt_iff, Nat.not_lt]

/-- A word's place among the words. -/
def sgnN (s : Bool) (r : Nat) : Int := if s then -(r : Int) else r
def key (f : Format) (x : Nat) : Int := sgnN (x / f.signWeight % 2 == 1) (x % f.signWeight)

theorem signed_eq (s : Bool) (m u : Nat) : signed s m u = sgnN s (m * 2 ^ u) := by
  unfold signed sgnN
  rw [Nat.shiftLeft_eq]

theorem sgnN_lt {fb : Nat} (s t : Bool) (a b : Nat) : (sgnN s (V fb a) < sgnN t (V fb b)) ↔ (sgnN s a < sgnN t b) := by
  have h1 := @V_lt_iff fb a b
  have h2 := @V_lt_iff fb b a
  have h3 := @V_lt_iff fb 0 a
  have h4 := @V_lt_iff fb 0 b
  rw [V_zero] at h3 h4
  unfold sgnN
  cases s <;> cases t <;> simp only [Bool.false_eq_true, if_false, if_true] <;> omega

theorem sgnN_scale (s t : Bool) (a b p : Nat) (hp : 0 < p) : (sgnN s (a * p) < sgnN t (b * p)) ↔ (sgnN s a < sgnN t b) := by
  have h1 : a * p < b * p ↔ a < b := Nat.mul_lt_mul_right hp
  have h2 : b * p < a * p ↔ b < a := Nat.mul_lt_mul_right hp
  have h3 : 0 < a * p ↔ 0 < a := by
    rw [← Nat.mul_lt_mul_right hp (b := 0) (c := a), Nat.zero_mul]
  have h4 : 0 < b * p ↔ 0 < b := by
    rw [← Nat.mul_lt_mul_right hp (b := 0) (c := b), Nat.zero_mul]
  unfold sgnN
  cases s <;> cases t <;> simp only [Bool.false_eq_true, if_false, if_true] <;> omega

/-- What a word reads as. -/
theorem read_all (f : Format) (hb : f.binade ≤ f.infRung) (x : Nat) (h : (f.read x).isNaN = false) :
    (x % f.signWeight < f.infRung ∧ ∃ m k, f.read x = .number (x / f.signWeight % 2 == 1) m (f.leastPlace + (k : Nat)) ∧ m * 2 ^ k = V f.fractionBits (x % f.signWeight)) ∨
    (x % f.signWeight = f.infRung ∧ f.read x = .infinity (x / f.signWeight % 2 == 1)) := by
  rcases Nat.lt_or_ge (x % f.signWeight) f.infRung with h1 | h1
  · exact .inl ⟨h1, read_eq f x h1⟩
  · right
    have hb : ¬ x % f.signWeight < f.binade := by omega
    unfold Format.read at h ⊢
    simp only [if_neg hb, if_neg (Nat.not_lt.2 h1)] at h ⊢
    split at h
    · rename_i h2
      exact ⟨h2, by rw [if_pos h2]⟩
    · cases h

theorem order_key (f : Format) (hb : f.binade ≤ f.infRung) (hi : 0 < f.infRung) (x y : Nat) (hx : (f.read x).isNaN = false) (hy : (f.read y).isNaN = false) :
    f.order x y = some (compare (key f x) (key f y)) := by
  unfold Format.order key
  rcases read_all f hb x hx with ⟨l1, m, k, e1, e2⟩ | ⟨l1, e1⟩ <;> rcases read_all f hb y hy with ⟨l2, n, j, e3, e4⟩ | ⟨l2, e3⟩
  · rw [e1, e3]
    simp only [Datum.order]
    congr 1
    have b1 : (f.leastPlace + (k : Int) - min (f.leastPlace + (k : Int)) (f.leastPlace + (j : Int))).toNat = k - min k j := by omega
    have b2 : (f.leastPlace + (j : Int) - min (f.leastPlace + (k : Int)) (f.leastPlace + (j : Int))).toNat = j - min k j := by omega
    rw [b1, b2, signed_eq, signed_eq]
    have hp := Nat.two_pow_pos (min k j)
    have c1 : m * 2 ^ (k - min k j) * 2 ^ (min k j) = V f.fractionBits (x % f.signWeight) := by
      rw [Nat.mul_assoc, ← Nat.pow_add, Nat.sub_add_cancel (Nat.min_le_left ..), e2]
    have c2 : n * 2 ^ (j - min k j) * 2 ^ (min k j) = V f.fractionBits (y % f.signWeight) := by
      rw [Nat.mul_assoc, ← Nat.pow_add, Nat.sub_add_cancel (Nat.min_le_right ..), e4]
    refine cmp_of ?_ ?_
    · rw [← sgnN_scale _ _ _ _ _ hp, c1, c2, sgnN_lt]
    · rw [← sgnN_scale _ _ _ _ _ hp, c1, c2, sgnN_lt]
  · rw [e1, e3]
    simp only [Datum.order]
    congr 1
    rw [l2]
    generalize (x / f.signWeight % 2 == 1) = s
    generalize (y / f.signWeight % 2 == 1) = t
    unfold sgnN
    cases s <;> cases t <;> simp only [Bool.false_eq_true, if_false, if_true]
    · rw [cmp_lt]; omega
    · rw [cmp_gt]; omega
    · rw [cmp_lt]; omega
    · rw [cmp_gt]; omega
  · rw [e1, e3]
    simp only [Datum.order]
    congr 1
    rw [l1]
    generalize (x / f.signWeight % 2 == 1) = s
    generalize (y / f.signWeight % 2 == 1) = t
    unfold sgnN
    cases s <;> cases t <;> simp only [Bool.false_eq_true, if_false, if_true]
    · rw [cmp_gt]; omega
    · rw [cmp_gt]; omega
    · rw [cmp_lt]; omega
    · rw [cmp_lt]; omega
  · rw [e1, e3]
    simp only [Datum.order]
    congr 1
    rw [l1, l2]
    generalize (x / f.signWeight % 2 == 1) = s
    generalize (y / f.signWeight % 2 == 1) = t
    unfold sgnN
    cases s <;> cases t <;> simp only [Bool.false_eq_true, if_false, if_true, Bool.toNat_true, Bool.toNat_false]
    · rw [cmp_same]; rfl
    · rw [cmp_gt (by omega)]; rfl
    · rw [cmp_lt (by omega)]; rfl
    · rw [cmp_same]; rfl

/-! ### Narrow words -/

/-- A narrow word's place: -0 and +0 share one. -/
def k32 (x : Nat) : Int := key single x

theorem k32_eq (x : Nat) : k32 x = bif (x / 2147483648 % 2 == 1) then -((x % 2147483648 : Nat) : Int) else ((x % 2147483648 : Nat) : Int) := by
  unfold k32 key sgnN
  rw [s_sw]
  cases (x / 2147483648 % 2 == 1) <;> rfl

theorem order32 {x y : Nat} (hx : isNan .f32 x = false) (hy : isNan .f32 y = false) : FloatKind.f32.format.order x y = some (compare (k32 x) (k32 y)) :=
  order_key single (by decide) (by decide) x y hx hy

theorem lss32 {x y : Nat} (hx : isNan .f32 x = false) (hy : isNan .f32 y = false) : fcmp .lss .f32 x y = decide (k32 x < k32 y) := by
  unfold fcmp
  simp only [order32 hx hy]
  rcases Int.lt_trichotomy (k32 x) (k32 y) with h | h | h
  · rw [cmp_lt h, decide_eq_true h]; rfl
  · rw [h, cmp_same, decide_eq_false (Int.lt_irrefl _)]; rfl
  · rw [cmp_gt h, decide_eq_false (by omega)]; rfl

theorem gtr32 {x y : Nat} (hx : isNan .f32 x = false) (hy : isNan .f32 y = false) : fcmp .gtr .f32 x y = decide (k32 y < k32 x) := by
  unfold fcmp
  simp only [order32 hx hy]
  rcases Int.lt_trichotomy (k32 x) (k32 y) with h | h | h
  · rw [cmp_lt h, decide_eq_false (by omega)]; rfl
  · rw [h, cmp_same, decide_eq_false (Int.lt_irrefl _)]; rfl
  · rw [cmp_gt h, decide_eq_true h]; rfl

theorem leq32 {x y : Nat} (hx : isNan .f32 x = false) (hy : isNan .f32 y = false) : fcmp .leq .f32 x y = decide (k32 x ≤ k32 y) := by
  unfold fcmp
  simp only [order32 hx hy]
  rcases Int.lt_trichotomy (k32 x) (k32 y) with h | h | h
  · rw [cmp_lt h, decide_eq_true (Int.le_of_lt h)]; rfl
  · rw [h, cmp_same, decide_eq_true (Int.le_refl _)]; rfl
  · rw [cmp_gt h, decide_eq_false (by omega)]; rfl

theorem geq32 {x y : Nat} (hx : isNan .f32 x = false) (hy : isNan .f32 y = false) : fcmp .geq .f32 x y = decide (k32 y ≤ k32 x) := by
  unfold fcmp
  simp only [order32 hx hy]
  rcases Int.lt_trichotomy (k32 x) (k32 y) with h | h | h
  · rw [cmp_lt h, decide_eq_false (by omega)]; rfl
  · rw [h, cmp_same, decide_eq_true (Int.le_refl _)]; rfl
  · rw [cmp_gt h, decide_eq_true (by omega)]; rfl

theorem eql32 {x y : Nat} (hx : isNan .f32 x = false) (hy : isNan .f32 y = false) : fcmp .eql .f32 x y = decide (k32 x = k32 y) := by
  unfold fcmp
  simp only [order32 hx hy]
  rcases Int.lt_trichotomy (k32 x) (k32 y) with h | h | h
  · rw [cmp_lt h, decide_eq_false (by omega)]; rfl
  · rw [h, cmp_same, decide_eq_true rfl]; rfl
  · rw [cmp_gt h, decide_eq_false (by omega)]; rfl

/-- A comparison that holds is of numbers. -/
theorem fcmp_num {op : BinOp} {x y : Nat} (h : fcmp op .f32 x y = true) (hop : op ≠ .neq) : isNan .f32 x = false ∧ isNan .f32 y = false := by
  have key : FloatKind.f32.format.order x y = none → fcmp op .f32 x y = false := by
    intro hn
    unfold fcmp
    cases op <;> simp_all
  cases hx : isNan .f32 x with
  | true =>
    exfalso
    have : FloatKind.f32.format.order x y = none := by
      show (single.read x).order (single.read y) = none
      have hx' : (single.read x).isNaN = true := hx
      cases hd : single.read x with
      | nan s t => rfl
      | infinity s => rw [hd] at hx'; cases hx'
      | number s m e => rw [hd] at hx'; cases hx'
    rw [key this] at h
    cases h
  | false =>
    refine ⟨rfl, ?_⟩
    cases hy : isNan .f32 y with
    | false => rfl
    | true =>
      exfalso
      have : FloatKind.f32.format.order x y = none := by
        show (single.read x).order (single.read y) = none
        have hy' : (single.read y).isNaN = true := hy
        cases hd : single.read y with
        | nan s t => cases single.read x <;> rfl
        | infinity s => rw [hd] at hy'; cases hy'
        | number s m e => rw [hd] at hy'; cases hy'
      rw [key this] at h
      cases h

theorem notNan_small {x : Nat} (h : x % 2147483648 ≤ 2139095040) : isNan .f32 x = false := by
  obtain ⟨s, r, hs, hr, hc⟩ := read_cases x
  show (single.read x).isNaN = false
  rcases hc with hc | hc | hc | hc
  · rw [hc.2]; rfl
  · rw [hc.2.2]; rfl
  · rw [hc.2]; rfl
  · omega

/-- The size of a number, as the reference takes it. -/
def szS (a : Nat) : Nat := bif fcmp .lss .f32 a 0 then fneg .f32 a else a

theorem flip_mod (a : Nat) : (a ^^^ 2147483648) % 2147483648 = a % 2147483648 := by
  have := Nat.xor_mod_two_pow (a := a) (b := 2 ^ 31) (n := 31)
  rw [Nat.mod_self, Nat.xor_zero] at this
  exact this

theorem flip_sign (a : Nat) : ((a ^^^ 2147483648) / 2147483648 % 2 == 1) = !(a / 2147483648 % 2 == 1) := by
  have h1 : ∀ x n : Nat, (x / 2 ^ n % 2 == 1) = x.testBit n := fun x n => by
    rw [Nat.testBit_eq_decide_div_mod_eq, Bool.eq_iff_iff]
    simp
  have h2 := h1 (a ^^^ 2147483648) 31
  have h3 := h1 a 31
  rw [show (2147483648 : Nat) = 2 ^ 31 from rfl] at *
  rw [h2, h3, Nat.testBit_xor, Nat.testBit_two_pow_self]
  simp

theorem fneg32 {a : Nat} (hn : isNan .f32 a = false) : fneg .f32 a = a ^^^ 2147483648 := by
  unfold fneg
  rw [hn]
  rfl

theorem flip_lt {a : Nat} (ha : a < 4294967296) : a ^^^ 2147483648 < 4294967296 := Nat.xor_lt_two_pow (n := 32) ha (by decide)

theorem k32_pos {r : Nat} (h : r < 2147483648) : k32 r = r := by
  rw [k32_eq, Nat.div_eq_of_lt h, Nat.mod_eq_of_lt h]
  rfl

theorem szS_cases {a : Nat} (ha : a < 4294967296) (hn : isNan .f32 a = false) : szS a = a % 2147483648 ∨ (a % 2147483648 = 0 ∧ szS a = 2147483648) := by
  unfold szS
  rw [lss32 hn (by decide +kernel), show k32 0 = 0 by decide, fneg32 hn, k32_eq]
  have hs := flip_sign a
  have hm := flip_mod a
  have hl := flip_lt ha
  generalize a ^^^ 2147483648 = b at *
  cases hq : (a / 2147483648 % 2 == 1) with
  | false =>
    have hq' : ¬ (a / 2147483648 % 2 = 1) := by simpa using hq
    left
    rw [show (bif false then -((a % 2147483648 : Nat) : Int) else ((a % 2147483648 : Nat) : Int)) = ((a % 2147483648 : Nat) : Int) from rfl, decide_eq_false (by omega)]
    show a = _
    omega
  | true =>
    rw [hq] at hs
    have hq' : a / 2147483648 % 2 = 1 := by simpa using hq
    have hs' : ¬ (b / 2147483648 % 2 = 1) := by simpa using hs
    rw [show (bif true then -((a % 2147483648 : Nat) : Int) else ((a % 2147483648 : Nat) : Int)) = -((a % 2147483648 : Nat) : Int) from rfl]
    by_cases h0 : a % 2147483648 = 0
    · right
      refine ⟨h0, ?_⟩
      rw [decide_eq_false (by omega)]
      show a = _
      omega
    · left
      rw [decide_eq_true (by omega)]
      show b = _
      omega

/-- The greatest so far, of sizes: the program's and the reference's. -/
theorem fmax_abs {m a : Nat} (hm : m ≤ 2139095040) (ha : a < 4294967296) (hn : isNan .f32 a = false) :
    fmax .f32 m (a % 2147483648) = (bif fcmp .gtr .f32 (szS a) m then szS a else m) ∧ fmax .f32 m (a % 2147483648) ≤ 2139095040 := by
  have hr := notNan_rung hn
  have n1 : isNan .f32 m = false := notNan_small (by omega)
  have n2 : isNan .f32 (a % 2147483648) = false := notNan_small (by omega)
  have n3 : isNan .f32 (szS a) = false := by
    rcases szS_cases ha hn with e | ⟨_, e⟩
    · rw [e]; exact n2
    · rw [e]; decide +kernel
  have k3 : k32 (szS a) = ((a % 2147483648 : Nat) : Int) := by
    rcases szS_cases ha hn with e | ⟨h0, e⟩
    · rw [e]; exact k32_pos (by omega)
    · rw [e, h0]; decide
  rw [gtr32 n3 n1, k3]
  unfold fmax
  rw [order32 n1 n2, k32_pos (r := m) (by omega), k32_pos (r := a % 2147483648) (by omega)]
  rcases Nat.lt_trichotomy m (a % 2147483648) with h | h | h
  · rw [cmp_lt (by omega), decide_eq_true (by omega)]
    refine ⟨?_, hr⟩
    rcases szS_cases ha hn with e | ⟨h0, e⟩
    · exact e.symm
    · omega
  · rw [h, cmp_same, decide_eq_false (by omega)]
    have hg : (FloatKind.f32.decode (a % 2147483648)).neg = false := by
      show (single.read (a % 2147483648)).neg = false
      obtain ⟨s, r, hs, hr', hc⟩ := read_cases (a % 2147483648)
      have : s = false := by
        rw [hs, Nat.div_eq_of_lt (by omega)]
        rfl
      subst this
      rcases hc with hc | hc | hc | hc
      · rw [hc.2]; rfl
      · rw [hc.2.2]; rfl
      · rw [hc.2]; rfl
      · omega
    simp only [hg]
    exact ⟨rfl, hr⟩
  · rw [cmp_gt (by omega), decide_eq_false (by omega)]
    exact ⟨rfl, hm⟩

end Go.Sim

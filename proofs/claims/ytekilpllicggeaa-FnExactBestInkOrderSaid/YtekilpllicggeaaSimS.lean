/-
  Floats: bits and numbers.
-/
import Derived.Test.YtekilpllicggeaaSimR
namespace Go.Sim
open Ieee

theorem read_cases (x : Nat) : ∃ s r, s = (x / 2147483648 % 2 == 1) ∧ r = x % 2147483648 ∧
    ((r < 8388608 ∧ single.read x = .number s r (-149)) ∨ (8388608 ≤ r ∧ r < 2139095040 ∧ single.read x = .number s (8388608 + r % 8388608) (-149 + (r / 8388608 - 1 : Nat))) ∨
     (r = 2139095040 ∧ single.read x = .infinity s) ∨ (2139095040 < r ∧ single.read x = .nan s (r - 2139095040))) := by
  have e1 : single.signWeight = 2147483648 := by decide
  have e2 : single.binade = 8388608 := by decide
  have e3 : single.infRung = 2139095040 := by decide
  have e4 : single.leastPlace = -149 := by decide
  refine ⟨_, _, rfl, rfl, ?_⟩
  unfold Format.read
  simp only [e1, e2, e3, e4]
  by_cases h1 : x % 2147483648 < 8388608
  · exact .inl ⟨h1, by rw [if_pos h1]⟩
  · rw [if_neg h1]
    by_cases h2 : x % 2147483648 < 2139095040
    · exact .inr (.inl ⟨by omega, h2, by rw [if_pos h2]⟩)
    · rw [if_neg h2]
      by_cases h3 : x % 2147483648 = 2139095040
      · exact .inr (.inr (.inl ⟨h3, by rw [if_pos h3]⟩))
      · exact .inr (.inr (.inr ⟨by omega, by rw [if_neg h3]⟩))

theorem signed_inj {s : Bool} {m n a b : Nat} (h : signed s m a = signed s n b) : m * 2 ^ a = n * 2 ^ b := by
  unfold signed at h
  rw [Nat.shiftLeft_eq, Nat.shiftLeft_eq] at h
  cases s
  · simp only [Bool.false_eq_true, if_false] at h
    exact Int.ofNat.inj h
  · simp only [if_true] at h
    exact Int.ofNat.inj (Int.neg_inj.1 h)

theorem scaled_ne {m n : Nat} {k : Nat} (hm : m < 16777216) (hn : 8388608 ≤ n) (hk : 0 < k) : m ≠ n * 2 ^ k := by
  intro h
  have : 2 ≤ 2 ^ k := by
    calc 2 = 2 ^ 1 := rfl
      _ ≤ 2 ^ k := Nat.pow_le_pow_right (by omega) hk
  have h2 : n * 2 ≤ n * 2 ^ k := Nat.mul_le_mul_left n this
  omega

theorem eq_of_order {x y : Nat} (hx : x < 4294967296) (hy : y < 4294967296) (ho : single.order x y = some .eq) (hs : (single.read x).neg = (single.read y).neg) : x = y := by
  obtain ⟨s, r, es, er, hcx⟩ := read_cases x
  obtain ⟨t, q, et, eq, hcy⟩ := read_cases y
  have key : s = t → r = q → x = y := by
    intro h1 h2
    rw [es, et] at h1
    rw [er, eq] at h2
    have : x / 2147483648 % 2 = y / 2147483648 % 2 := by
      have hx2 : x / 2147483648 % 2 < 2 := Nat.mod_lt _ (by omega)
      have hy2 : y / 2147483648 % 2 < 2 := Nat.mod_lt _ (by omega)
      by_cases hb : x / 2147483648 % 2 = 1
      · rw [hb] at h1 ⊢
        have : (y / 2147483648 % 2 == 1) = true := by rw [← h1]; rfl
        exact (by simpa using this : y / 2147483648 % 2 = 1).symm
      · have h0 : x / 2147483648 % 2 = 0 := by omega
        rw [h0] at h1 ⊢
        have : (y / 2147483648 % 2 == 1) = false := by rw [← h1]; rfl
        have : ¬ y / 2147483648 % 2 = 1 := by simpa using this
        omega
    omega
  unfold Format.order at ho
  rcases hcx with ⟨a1, a2⟩ | ⟨a0, a1, a2⟩ | ⟨a1, a2⟩ | ⟨a1, a2⟩ <;> rcases hcy with ⟨b1, b2⟩ | ⟨b0, b1, b2⟩ | ⟨b1, b2⟩ | ⟨b1, b2⟩ <;> rw [a2, b2] at ho <;> rw [a2, b2] at hs <;> simp only [Datum.neg] at hs <;> subst hs
  all_goals first
    | (simp [Datum.order] at ho; done)
    | (simp only [Datum.order, Option.some.injEq] at ho; split at ho <;> cases ho; done)
    | skip
  · simp only [Datum.order, Option.some.injEq, Std.compare_eq_iff_eq, Int.min_self, Int.sub_self, Int.toNat_zero] at ho
    have := signed_inj ho
    exact key rfl (by omega)
  · simp only [Datum.order, Option.some.injEq, Std.compare_eq_iff_eq] at ho
    have hk := signed_inj ho
    by_cases hq : q / 8388608 - 1 = 0
    · rw [hq] at hk
      simp at hk
      omega
    · exfalso
      have e1 : min (-149 : Int) (-149 + ((q / 8388608 - 1 : Nat) : Int)) = -149 := by omega
      rw [e1] at hk
      have e2 : (-149 - -149 : Int).toNat = 0 := by omega
      have e3 : (-149 + ((q / 8388608 - 1 : Nat) : Int) - -149).toNat = q / 8388608 - 1 := by omega
      rw [e2, e3, Nat.pow_zero, Nat.mul_one] at hk
      exact scaled_ne (by omega) (by omega) (by omega) hk
  · simp only [Datum.order, Option.some.injEq, Std.compare_eq_iff_eq] at ho
    have hk := signed_inj ho
    by_cases hq : r / 8388608 - 1 = 0
    · rw [hq] at hk
      simp at hk
      omega
    · exfalso
      have e1 : min (-149 + ((r / 8388608 - 1 : Nat) : Int)) (-149 : Int) = -149 := by omega
      rw [e1] at hk
      have e2 : (-149 - -149 : Int).toNat = 0 := by omega
      have e3 : (-149 + ((r / 8388608 - 1 : Nat) : Int) - -149).toNat = r / 8388608 - 1 := by omega
      rw [e2, e3, Nat.pow_zero, Nat.mul_one] at hk
      exact scaled_ne (by omega) (by omega) (by omega) hk.symm
  · simp only [Datum.order, Option.some.injEq, Std.compare_eq_iff_eq] at ho
    have hk := signed_inj ho
    rcases Nat.lt_trichotomy (r / 8388608) (q / 8388608) with hlt | he | hgt
    · exfalso
      have e1 : min (-149 + ((r / 8388608 - 1 : Nat) : Int)) (-149 + ((q / 8388608 - 1 : Nat) : Int)) = -149 + ((r / 8388608 - 1 : Nat) : Int) := by omega
      rw [e1] at hk
      have e2 : (-149 + ((r / 8388608 - 1 : Nat) : Int) - (-149 + ((r / 8388608 - 1 : Nat) : Int))).toNat = 0 := by omega
      rw [e2, Nat.pow_zero, Nat.mul_one] at hk
      exact scaled_ne (by omega) (by omega) (by omega) hk
    · have e2 : (-149 + ((r / 8388608 - 1 : Nat) : Int) - min (-149 + ((r / 8388608 - 1 : Nat) : Int)) (-149 + ((q / 8388608 - 1 : Nat) : Int))).toNat = 0 := by omega
      have e3 : (-149 + ((q / 8388608 - 1 : Nat) : Int) - min (-149 + ((r / 8388608 - 1 : Nat) : Int)) (-149 + ((q / 8388608 - 1 : Nat) : Int))).toNat = 0 := by omega
      rw [e2, e3] at hk
      exact key rfl (by omega)
    · exfalso
      have e1 : min (-149 + ((r / 8388608 - 1 : Nat) : Int)) (-149 + ((q / 8388608 - 1 : Nat) : Int)) = -149 + ((q / 8388608 - 1 : Nat) : Int) := by omega
      rw [e1] at hk
      have e2 : (-149 + ((q / 8388608 - 1 : Nat) : Int) - (-149 + ((q / 8388608 - 1 : Nat) : Int))).toNat = 0 := by omega
      rw [e2, Nat.pow_zero, Nat.mul_one] at hk
      exact scaled_ne (by omega) (by omega) (by omega) hk.symm
  · exact key rfl (by omega)


theorem nearest_word (t : Bool) (m : Nat) (e : Int) : ∃ r, double.nearest t m e = double.word t r ∧ r ≤ 9218868437227405312 := by
  have d3 : double.infRung = 9218868437227405312 := by decide
  unfold Format.nearest
  split
  · exact ⟨0, rfl, Nat.zero_le _⟩
  · exact ⟨_, rfl, by rw [← d3]; exact Nat.min_le_right ..⟩

theorem wrap_word (t : Bool) (r : Nat) (h : r ≤ 9218868437227405312) : decide (IntKind.i64.wrap (Int.ofNat (double.word t r)) < 0) = t := by
  have d4 : double.signWeight = 9223372036854775808 := by decide
  unfold Format.word
  rw [d4]
  cases t
  · simp only [Bool.false_eq_true, if_false, decide_eq_false_iff_not]
    simp only [IntKind.wrap, IntKind.signed, IntKind.bits, Int.ofNat_eq_natCast, Bool.true_and, decide_eq_true_eq, show ((2 : Int) ^ 64) = 18446744073709551616 from rfl, show ((2 : Int) ^ (64 - 1)) = 9223372036854775808 from rfl]
    split <;> omega
  · simp only [if_true, decide_eq_true_eq]
    simp only [IntKind.wrap, IntKind.signed, IntKind.bits, Int.ofNat_eq_natCast, Bool.true_and, decide_eq_true_eq, show ((2 : Int) ^ 64) = 18446744073709551616 from rfl, show ((2 : Int) ^ (64 - 1)) = 9223372036854775808 from rfl]
    split <;> omega

/-- The sign, read off a wider number's bits. -/
def sgn32 (x : Nat) : Bool := decide (IntKind.i64.wrap (Int.ofNat (fconv .f32 .f64 x)) < 0)

theorem sgn32_ok {x : Nat} (h : isNan .f32 x = false) : sgn32 x = (single.read x).neg := by
  cases hd : FloatKind.f32.decode x with
  | nan s t =>
    have : isNan .f32 x = true := by
      show (FloatKind.f32.decode x).isNaN = true
      rw [hd]
      rfl
    rw [h] at this
    cases this
  | infinity s =>
    have hd' : single.read x = .infinity s := hd
    have hf : fconv .f32 .f64 x = double.word s double.infRung := by
      unfold fconv
      simp only [hd]
      rfl
    unfold sgn32
    rw [hf, hd']
    exact wrap_word s _ (by decide)
  | number t m e =>
    have hd' : single.read x = .number t m e := hd
    have hf : fconv .f32 .f64 x = double.nearest t m e := by
      unfold fconv
      simp only [hd]
      rfl
    obtain ⟨r, h1, h2⟩ := nearest_word t m e
    unfold sgn32
    rw [hf, hd', h1]
    exact wrap_word t r h2

theorem eql_self {k : FloatKind} {x : Nat} (h : fcmp .neq k x x = false) : fcmp .eql k x x = true := by
  rw [neq_eql] at h
  simpa using h

theorem notNan_of {x : Nat} (h : fcmp .neq .f32 x x = false) : isNan .f32 x = false := by
  cases hn : isNan .f32 x
  · rfl
  · exfalso
    have he := eql_self h
    unfold fcmp at he
    simp only at he
    have : FloatKind.f32.format.order x x = none := order_nan_l hn
    rw [this] at he
    cases he

/-- Numbers alike: both NaN, or of the same bits. -/
def sameNum (x y : Nat) : Bool :=
  bif (bif fcmp .neq .f32 x x then true else fcmp .neq .f32 y y) then (bif fcmp .neq .f32 x x then fcmp .neq .f32 y y else false)
  else decide ((Int.ofNat x) = (Int.ofNat y))

/-- .. or equal, and of one sign. -/
def sameNum' (x y : Nat) : Bool :=
  bif (bif fcmp .neq .f32 x x then true else fcmp .neq .f32 y y) then (bif fcmp .neq .f32 x x then fcmp .neq .f32 y y else false)
  else bif fcmp .eql .f32 x y then sgn32 x == sgn32 y else false

theorem sameNum_eq {x y : Nat} (hx : x < 4294967296) (hy : y < 4294967296) : sameNum' x y = sameNum x y := by
  unfold sameNum sameNum'
  cases h1 : fcmp .neq .f32 x x with
  | true => rfl
  | false =>
    cases h2 : fcmp .neq .f32 y y with
    | true => rfl
    | false =>
      simp only [cond_false]
      have n1 := notNan_of h1
      have n2 := notNan_of h2
      by_cases he : x = y
      · subst he
        rw [eql_self h1]
        simp
      · have hne : ¬ (Int.ofNat x = Int.ofNat y) := fun h => he (Int.ofNat.inj h)
        rw [decide_eq_false hne]
        cases h3 : fcmp .eql .f32 x y with
        | false => rfl
        | true =>
          simp only [cond_true]
          cases h4 : sgn32 x == sgn32 y with
          | false => rfl
          | true =>
            exfalso
            refine he (eq_of_order hx hy ?_ ?_)
            · unfold fcmp at h3
              have h3 : FloatKind.f32.format.order x y = some .eq := by simpa using h3
              exact h3
            · rw [← sgn32_ok n1, ← sgn32_ok n2]
              simpa using h4


theorem notNan_wide {x : Nat} (h : isNan .f32 x = false) : isNan .f64 (fconv .f32 .f64 x) = false := by
  cases hd : FloatKind.f32.decode x with
  | nan s t =>
    have : isNan .f32 x = true := by
      show (FloatKind.f32.decode x).isNaN = true
      rw [hd]
      rfl
    rw [h] at this
    cases this
  | infinity s =>
    have hf : fconv .f32 .f64 x = FloatKind.f64.encode (.infinity s) := by
      unfold fconv
      simp only [hd]
    rw [hf]
    exact isNan_encode .f64 _ rfl
  | number t m e =>
    have hf : fconv .f32 .f64 x = FloatKind.f64.encode (.number t m e) := by
      unfold fconv
      simp only [hd]
    rw [hf]
    exact isNan_encode .f64 _ rfl

theorem SoundG.addBits32 {P : Program} {G : Summ} (hG : SoundG P G) {f : Nat} (h : ∀ (b : Nat) (w : World), (callFunc f #[.float .f32 b]).run P w = .ok (.value (.int .u32 b)) w) : SoundG P (addG f bits32 G) := by
  refine hG.add fun xs m r hr hcs S w₀ β w cargs hW _ hv => ?_
  unfold bits32 at hr
  split at hr
  · cases hr
    have hn := hcs _ (List.mem_cons_self ..)
    cases hv with | cons _ _ _ _ hv hs =>
    cases hs
    cases hv with | sc _ _ hv =>
    cases hv with | flt _ _ b hb hb' =>
    subst hb
    rw [isNan_canon] at hn
    have hn : isNan .f32 b = false := by simpa using hn
    rw [canon_of hn] at hb' ⊢
    refine .inr ⟨_, w, h b w, Qt.refl w, .sc _ _ (.sint _ _ ?_)⟩
    have hb' := of_decide_eq_true hb'
    simp only [inI, IntKind.min, IntKind.max, IntKind.signed, IntKind.bits, Bool.false_eq_true, if_false, Bool.and_eq_true, decide_eq_true_eq]
    have : Int.ofNat b = (b : Int) := rfl
    omega
  · cases hr

theorem SoundG.addBits64 {P : Program} {G : Summ} (hG : SoundG P G) {f : Nat} (h : ∀ (b : Nat) (w : World), (callFunc f #[.float .f64 b]).run P w = .ok (.value (.int .u64 b)) w) : SoundG P (addG f bits64 G) := by
  refine hG.add fun xs m r hr hcs S w₀ β w cargs hW _ hv => ?_
  unfold bits64 at hr
  split at hr
  · cases hr
    have hn := hcs _ (List.mem_cons_self ..)
    cases hv with | cons _ _ _ _ hv hs =>
    cases hs
    cases hv with | sc _ _ hv =>
    cases hv with | flt _ _ b hb hb' =>
    subst hb
    rw [isNan_canon] at hn
    have hn : isNan .f64 b = false := by simpa using hn
    rw [canon_of hn] at hb' ⊢
    refine .inr ⟨_, w, h b w, Qt.refl w, .sc _ _ (.sint _ _ ?_)⟩
    have hb' := of_decide_eq_true hb'
    simp only [inI, IntKind.min, IntKind.max, IntKind.signed, IntKind.bits, Bool.false_eq_true, if_false, Bool.and_eq_true, decide_eq_true_eq]
    have : Int.ofNat b = (b : Int) := rfl
    omega
  · cases hr

theorem canon_lt {b : Nat} (h : b < 2 ^ 32) : canon .f32 b < 4294967296 := by
  cases hn : isNan .f32 b with
  | true => rw [canon_nan hn]; decide
  | false => rw [canon_of hn]; exact h

theorem canon_lt64 {b : Nat} (h : b < 2 ^ 64) : canon .f64 b < 18446744073709551616 := by
  cases hn : isNan .f64 b with
  | true => rw [canon_nan hn]; decide
  | false => rw [canon_of hn]; exact h

theorem SoundG.addUnbits32 {P : Program} {G : Summ} (hG : SoundG P G) {f : Nat} (h : ∀ (n : Int) (w : World), (callFunc f #[.int .u32 n]).run P w = .ok (.value (.float .f32 n.toNat)) w) : SoundG P (addG f unbits32 G) := by
  refine hG.add fun xs m r hr hcs S w₀ β w cargs hW _ hv => ?_
  unfold unbits32 at hr
  split at hr
  · rename_i _ n
    cases hr
    cases hv with | cons _ _ _ _ hv hs =>
    cases hs
    cases hv with | sc _ _ hv =>
    cases hv with | sint _ _ hn =>
    simp only [inI, IntKind.min, IntKind.max, IntKind.signed, IntKind.bits, Bool.false_eq_true, if_false, Bool.and_eq_true, decide_eq_true_eq] at hn
    exact .inr ⟨_, w, h n w, Qt.refl w, .sc _ _ (.flt _ _ _ rfl (decide_eq_true (canon_lt (by omega))))⟩
  · cases hr

theorem SoundG.addUnbits64 {P : Program} {G : Summ} (hG : SoundG P G) {f : Nat} (h : ∀ (n : Int) (w : World), (callFunc f #[.int .u64 n]).run P w = .ok (.value (.float .f64 n.toNat)) w) : SoundG P (addG f unbits64 G) := by
  refine hG.add fun xs m r hr hcs S w₀ β w cargs hW _ hv => ?_
  unfold unbits64 at hr
  split at hr
  · rename_i _ n
    cases hr
    cases hv with | cons _ _ _ _ hv hs =>
    cases hs
    cases hv with | sc _ _ hv =>
    cases hv with | sint _ _ hn =>
    simp only [inI, IntKind.min, IntKind.max, IntKind.signed, IntKind.bits, Bool.false_eq_true, if_false, Bool.and_eq_true, decide_eq_true_eq] at hn
    exact .inr ⟨_, w, h n w, Qt.refl w, .sc _ _ (.flt _ _ _ rfl (decide_eq_true (canon_lt64 (by omega))))⟩
  · cases hr

end Go.Sim

/-
  Floats whose NaN payloads are not looked at: what the model's operations give, up to these.
-/
import Derived.Test.YtekilpllicggeaaSimB
namespace Go.Sim
open Ieee

theorem isNan_def (k : FloatKind) (b : Nat) : isNan k b = (k.format.read b).isNaN := rfl

theorem isNan_nanB (k : FloatKind) : isNan k (nanB k) = true := by cases k <;> decide +kernel

theorem isNan_canon (k : FloatKind) (b : Nat) : isNan k (canon k b) = isNan k b := by
  unfold canon
  cases h : isNan k b
  · simp [h]
  · simp [isNan_nanB]

theorem canon_canon (k : FloatKind) (b : Nat) : canon k (canon k b) = canon k b := by
  unfold canon
  cases h : isNan k b
  · simp [h]
  · simp [isNan_nanB]

theorem canon_of {k : FloatKind} {b : Nat} (h : isNan k b = false) : canon k b = b := by simp [canon, h]

theorem canon_nan {k : FloatKind} {b : Nat} (h : isNan k b = true) : canon k b = nanB k := by simp [canon, h]

/-- A word's rung up to infinity's is no NaN. -/
theorem read_word (f : Format) (neg : Bool) (rung : Nat) (h : rung ≤ f.infRung) : (f.read (f.word neg rung)).isNaN = false := by
  have hs := f.infRung_lt
  have h1 : f.word neg rung % f.signWeight = rung := by
    unfold Format.word
    cases neg
    · simp; exact Nat.mod_eq_of_lt (by omega)
    · simp; exact Nat.mod_eq_of_lt (by omega)
  unfold Format.read
  simp only [h1]
  split
  · rfl
  · split
    · rfl
    · split
      · rfl
      · omega

theorem write_notNan (f : Format) (d : Datum) (h : d.isNaN = false) : (f.read (f.write d)).isNaN = false := by
  cases d with
  | nan s t => simp [Datum.isNaN] at h
  | infinity s => exact read_word f s _ (Nat.le_refl _)
  | number s m e =>
    unfold Format.write Format.nearest
    dsimp only
    split
    · exact read_word f s 0 (Nat.zero_le _)
    · exact read_word f s _ (Nat.min_le_right ..)

theorem isNan_encode (k : FloatKind) (d : Datum) (h : d.isNaN = false) : isNan k (k.encode d) = false := write_notNan _ d h

/-- Two data that an operation cannot tell apart. -/
theorem read_canon (k : FloatKind) (b : Nat) : k.format.read (canon k b) = k.format.read b ∨ ((k.format.read (canon k b)).isNaN = true ∧ (k.format.read b).isNaN = true) := by
  cases h : isNan k b
  · left; rw [canon_of h]
  · right; rw [canon_nan h]; exact ⟨isNan_nanB k, h⟩

theorem isNaN_cases {d : Datum} (h : d.isNaN = true) : ∃ s t, d = .nan s t := by
  cases d <;> simp [Datum.isNaN] at h
  exact ⟨_, _, rfl⟩

theorem opposite_isNaN (d : Datum) : d.opposite.isNaN = d.isNaN := by cases d <;> rfl

theorem sum_nan_l {d e : Datum} (h : d.isNaN = true) : d.sum e = none := by obtain ⟨s, t, rfl⟩ := isNaN_cases h; cases e <;> rfl
theorem sum_nan_r {d e : Datum} (h : e.isNaN = true) : d.sum e = none := by obtain ⟨s, t, rfl⟩ := isNaN_cases h; cases d <;> rfl
theorem product_nan_l {d e : Datum} (h : d.isNaN = true) : d.product e = none := by obtain ⟨s, t, rfl⟩ := isNaN_cases h; cases e <;> rfl
theorem product_nan_r {d e : Datum} (h : e.isNaN = true) : d.product e = none := by obtain ⟨s, t, rfl⟩ := isNaN_cases h; cases d <;> rfl
theorem quotient_nan_l {n : Nat} {d e : Datum} (h : d.isNaN = true) : d.quotient n e = none := by obtain ⟨s, t, rfl⟩ := isNaN_cases h; cases e <;> rfl
theorem quotient_nan_r {n : Nat} {d e : Datum} (h : e.isNaN = true) : d.quotient n e = none := by obtain ⟨s, t, rfl⟩ := isNaN_cases h; cases d <;> rfl
theorem order_nan_l {d e : Datum} (h : d.isNaN = true) : d.order e = none := by obtain ⟨s, t, rfl⟩ := isNaN_cases h; cases e <;> rfl
theorem order_nan_r {d e : Datum} (h : e.isNaN = true) : d.order e = none := by obtain ⟨s, t, rfl⟩ := isNaN_cases h; cases d <;> rfl

theorem floatBits_canon (op : BinOp) (k : FloatKind) (x y : Nat) : floatBits op k (canon k x) (canon k y) = floatBits op k x y := by
  have key : ∀ (F : Datum → Datum → Option Nat), (∀ d e, d.isNaN = true → F d e = none) → (∀ d e, e.isNaN = true → F d e = none) →
      F (k.format.read (canon k x)) (k.format.read (canon k y)) = F (k.format.read x) (k.format.read y) := by
    intro F h1 h2
    rcases read_canon k x with hx | ⟨hx, hx'⟩
    · rcases read_canon k y with hy | ⟨hy, hy'⟩
      · rw [hx, hy]
      · rw [h2 _ _ hy, h2 _ _ hy']
    · rw [h1 _ _ hx, h1 _ _ hx']
  cases op <;> try rfl
  · exact key (fun d e => (d.sum e).map k.format.write) (fun d e h => by simp [sum_nan_l h]) (fun d e h => by simp [sum_nan_r h])
  · exact key (fun d e => (d.sum e.opposite).map k.format.write) (fun d e h => by simp [sum_nan_l h]) (fun d e h => by rw [sum_nan_r (by rw [opposite_isNaN]; exact h)]; rfl)
  · exact key (fun d e => (d.product e).map k.format.write) (fun d e h => by simp [product_nan_l h]) (fun d e h => by simp [product_nan_r h])
  · exact key (fun d e => (d.quotient (k.format.fractionBits + 2) e).map k.format.write) (fun d e h => by simp [quotient_nan_l h]) (fun d e h => by simp [quotient_nan_r h])

theorem order_canon (k : FloatKind) (x y : Nat) : k.format.order (canon k x) (canon k y) = k.format.order x y := by
  unfold Format.order
  rcases read_canon k x with hx | ⟨hx, hx'⟩
  · rcases read_canon k y with hy | ⟨hy, hy'⟩
    · rw [hx, hy]
    · rw [order_nan_r hy, order_nan_r hy']
  · rw [order_nan_l hx, order_nan_l hx']

theorem fcmp_canon (op : BinOp) (k : FloatKind) (x y : Nat) : fcmp op k (canon k x) (canon k y) = fcmp op k x y := by
  cases op <;> simp only [fcmp, order_canon]

theorem sum_notNan {d e r : Datum} (h : d.sum e = some r) : r.isNaN = false := by
  cases d <;> cases e <;> simp [Datum.sum] at h
  · subst h; rfl
  · subst h; rfl
  · subst h; rfl
  · obtain ⟨_, h⟩ := h; subst h; rfl

theorem product_notNan {d e r : Datum} (h : d.product e = some r) : r.isNaN = false := by
  cases d <;> cases e <;> simp [Datum.product] at h
  · subst h; rfl
  · obtain ⟨_, h⟩ := h; subst h; rfl
  · obtain ⟨_, h⟩ := h; subst h; rfl
  · subst h; rfl

theorem quotient_notNan {n : Nat} {d e r : Datum} (h : d.quotient n e = some r) : r.isNaN = false := by
  cases d <;> cases e <;> simp [Datum.quotient] at h
  · split at h
    · simp at h; obtain ⟨_, h⟩ := h; subst h; rfl
    · simp at h; subst h; rfl
  · subst h; rfl
  · subst h; rfl

theorem floatBits_notNan {op : BinOp} {k : FloatKind} {x y r : Nat} (h : floatBits op k x y = some r) : isNan k r = false := by
  have key : ∀ (d : Option Datum), (∀ e, d = some e → e.isNaN = false) → d.map k.format.write = some r → isNan k r = false := by
    intro d hd hr
    cases d with
    | none => simp at hr
    | some e => simp at hr; subst hr; exact write_notNan _ e (hd e rfl)
  cases op <;> simp only [floatBits] at h <;> try (cases h; done)
  · exact key _ (fun e he => sum_notNan he) h
  · exact key _ (fun e he => sum_notNan he) h
  · exact key _ (fun e he => product_notNan he) h
  · exact key _ (fun e he => quotient_notNan he) h

/-! ### The tape's NaNs -/

theorem nan_rung32 (b r : Nat) (h : b % 2147483648 = 2139095041 + r) (_hr : r < 8388607) : isNan .f32 b = true := by
  unfold isNan FloatKind.format Format.read
  have e1 : single.signWeight = 2147483648 := by decide +kernel
  have e2 : single.binade = 8388608 := by decide +kernel
  have e3 : single.infRung = 2139095040 := by decide +kernel
  simp only [e1, e2, e3, h]
  rw [if_neg (by omega), if_neg (by omega), if_neg (by omega)]
  rfl

theorem nan_rung64 (b r : Nat) (h : b % 9223372036854775808 = 9218868437227405313 + r) (_hr : r < 4503599627370495) : isNan .f64 b = true := by
  unfold isNan FloatKind.format Format.read
  have e1 : double.signWeight = 9223372036854775808 := by decide +kernel
  have e2 : double.binade = 4503599627370496 := by decide +kernel
  have e3 : double.infRung = 9218868437227405312 := by decide +kernel
  simp only [e1, e2, e3, h]
  rw [if_neg (by omega), if_neg (by omega), if_neg (by omega)]
  rfl

theorem nan_cut32 (t : Nat) : isNan .f32 ((t % 2) * 2 ^ 31 + 0x7f800000 + 1 + (t / 2) % (2 ^ 23 - 1)) = true :=
  nan_rung32 _ ((t / 2) % 8388607) (by omega) (by omega)

theorem nan_cut64 (t : Nat) : isNan .f64 ((t % 2) * 2 ^ 63 + 0x7ff0000000000000 + 1 + (t / 2) % (2 ^ 52 - 1)) = true :=
  nan_rung64 _ ((t / 2) % 4503599627370495) (by omega) (by omega)

theorem nan_nanBits (k : FloatKind) (x y t : Nat) : isNan k ((Question.nanBits k x y).cut t) = true := by
  cases k
  · exact nan_cut32 t
  · exact nan_cut64 t
theorem nan_nanConv (k : FloatKind) (x t : Nat) : isNan k ((Question.nanConv k x).cut t) = true := by
  cases k
  · exact nan_cut32 t
  · exact nan_cut64 t
theorem nan_nanMinMax (k : FloatKind) (m : Bool) (x y t : Nat) : isNan k ((Question.nanMinMax k m x y).cut t) = true := by
  cases k
  · exact nan_cut32 t
  · exact nan_cut64 t

/-! ### The model's runs -/

section
variable {P : Program} (w : World)

theorem run_choose_free (q : Question) (h : q.forced = false) : (choose q).run P w = .ok (q.cut (w.tape w.drawn q)) (w.drewN 1) := by
  rw [run_choose, if_neg (by rw [h]; exact Bool.false_ne_true)]
  rfl

theorem floatArith_sound (op : BinOp) (k : FloatKind) (x y : Nat) (ha : isArith op = true) :
    ∃ r n, (Op.floatArith op k x y).run P w = .ok (.float k r) (w.drewN n) ∧ canon k r = farith op k (canon k x) (canon k y) := by
  unfold farith
  rw [floatBits_canon]
  cases h : floatBits op k x y with
  | some r =>
    refine ⟨r, 0, ?_, ?_⟩
    · cases op <;> simp [isArith] at ha <;> simp only [floatBits] at h <;> simp [Op.floatArith, h, World.drewN]
    · rw [canon_of (floatBits_notNan h)]; rfl
  | none =>
    refine ⟨(Question.nanBits k x y).cut (w.tape w.drawn (.nanBits k x y)), 1, ?_, ?_⟩
    · cases op <;> simp [isArith] at ha <;> simp only [floatBits] at h <;> simp only [Op.floatArith, h, Sem.run_bind, Sem.run_pure, Result.andThen_ok, run_choose_free w (.nanBits k x y) rfl]
    · rw [canon_nan (nan_nanBits k x y _)]; rfl

theorem floatCmp_sound (op : BinOp) (k : FloatKind) (x y : Nat) (ha : isCmp op = true) :
    (Op.floatCmp op k x y).run P w = .ok (.bool (fcmp op k (canon k x) (canon k y))) w := by
  rw [fcmp_canon]
  cases op <;> simp [isCmp] at ha <;> rfl

theorem negFloat_nan (k : FloatKind) (b : Nat) : isNan k (Op.negFloat k b) = isNan k b := by
  have key : ∀ (f : Format), (f.read (b ^^^ f.signWeight)).isNaN = (f.read b).isNaN := by
    intro f
    have hm : (b ^^^ f.signWeight) % f.signWeight = b % f.signWeight := by
      unfold Format.signWeight
      rw [Nat.xor_mod_two_pow]
      simp
    unfold Format.read
    simp only [hm]
    split
    · rfl
    · split
      · rfl
      · split
        · rfl
        · rfl
  exact key k.format

theorem fneg_sound (k : FloatKind) (b : Nat) : canon k (Op.negFloat k b) = fneg k (canon k b) := by
  unfold fneg
  rw [isNan_canon]
  cases h : isNan k b
  · simp [canon, h, negFloat_nan]
  · simp [canon, h, negFloat_nan]

theorem floatToFloat_sound (s d : FloatKind) (b : Nat) (hok : fconvOk s d (canon s b) = true) :
    ∃ r n, (Conv.floatToFloat s b d).run P w = .ok (.float d r) (w.drewN n) ∧ canon d r = fconv s d (canon s b) := by
  by_cases hsd : s = d
  · subst hsd
    refine ⟨b, 0, by simp [Conv.floatToFloat, World.drewN], ?_⟩
    cases s <;> rfl
  · have e1 : fconv s d (canon s b) = match s.decode (canon s b) with
        | .nan _ _ => nanB d
        | .infinity t => d.encode (.infinity t)
        | .number t m e => d.encode (.number t m e) := by cases s <;> cases d <;> first | rfl | (exact absurd rfl hsd)
    have e2 : fconvOk s d (canon s b) = match s.decode (canon s b) with
        | .number t m e => !(d.decode (d.encode (.number t m e))).isInfinity
        | _ => true := by cases s <;> cases d <;> first | rfl | (exact absurd rfl hsd)
    rw [e2] at hok
    rw [e1]
    cases h : isNan s b with
    | true =>
      obtain ⟨q, t, hq⟩ := isNaN_cases h
      obtain ⟨q', t', hq'⟩ := isNaN_cases (isNan_nanB s)
      refine ⟨(Question.nanConv d b).cut (w.tape w.drawn (.nanConv d b)), 1, ?_, ?_⟩
      · have hd : s.decode b = .nan q t := hq
        simp only [Conv.floatToFloat, if_neg hsd, hd, Sem.run_bind, run_choose_free w (.nanConv d b) rfl, Result.andThen_ok, Sem.run_pure]
      · have hd : s.decode (canon s b) = .nan q' t' := by rw [canon_nan h]; exact hq'
        rw [canon_nan (nan_nanConv d b _), hd]
    | false =>
      rw [canon_of h] at hok ⊢
      cases hd : s.decode b with
      | nan q t => have : isNan s b = true := by show (s.decode b).isNaN = true; rw [hd]; rfl
                   rw [h] at this; cases this
      | infinity t =>
        exact ⟨d.encode (.infinity t), 0, by simp [Conv.floatToFloat, hsd, hd, World.drewN], canon_of (isNan_encode d _ rfl)⟩
      | number t m e =>
        simp only [hd] at hok
        refine ⟨d.encode (.number t m e), 0, ?_, canon_of (isNan_encode d _ rfl)⟩
        have hok' : (d.decode (d.encode (.number t m e))).isInfinity = false := by simpa using hok
        simp [Conv.floatToFloat, hsd, hd, hok', World.drewN]

theorem order_none_of_nan {k : FloatKind} {x y : Nat} {o : Ordering} (h : k.format.order x y = some o) : isNan k x = false ∧ isNan k y = false := by
  unfold Format.order at h
  constructor
  · cases hx : isNan k x
    · rfl
    · rw [order_nan_l hx] at h; cases h
  · cases hy : isNan k y
    · rfl
    · rw [order_nan_r hy] at h; cases h

theorem max2_sound (k : FloatKind) (x y : Nat) : ∃ r n, (Builtin.max2 (.float k x) (.float k y)).run P w = .ok (.float k r) (w.drewN n) ∧ canon k r = fmax k (canon k x) (canon k y) := by
  unfold fmax
  rw [order_canon]
  cases h : k.format.order x y with
  | none =>
    refine ⟨(Question.nanMinMax k true x y).cut (w.tape w.drawn (.nanMinMax k true x y)), 1, ?_, canon_nan (nan_nanMinMax k true x y _)⟩
    simp only [Builtin.max2, h, Sem.run_bind, run_choose_free w (.nanMinMax k true x y) rfl, Result.andThen_ok, Sem.run_pure]
  | some o =>
    obtain ⟨hx, hy⟩ := order_none_of_nan h
    rw [canon_of hx, canon_of hy]
    cases o with
    | lt => exact ⟨y, 0, by simp [Builtin.max2, h, World.drewN], canon_of hy⟩
    | gt => exact ⟨x, 0, by simp [Builtin.max2, h, World.drewN], canon_of hx⟩
    | eq =>
      refine ⟨if (k.decode x).neg then y else x, 0, by simp [Builtin.max2, h, World.drewN], ?_⟩
      simp only []
      split <;> first | exact canon_of hy | exact canon_of hx

theorem min2_sound (k : FloatKind) (x y : Nat) : ∃ r n, (Builtin.min2 (.float k x) (.float k y)).run P w = .ok (.float k r) (w.drewN n) ∧ canon k r = fmin k (canon k x) (canon k y) := by
  unfold fmin
  rw [order_canon]
  cases h : k.format.order x y with
  | none =>
    refine ⟨(Question.nanMinMax k false x y).cut (w.tape w.drawn (.nanMinMax k false x y)), 1, ?_, canon_nan (nan_nanMinMax k false x y _)⟩
    simp only [Builtin.min2, h, Sem.run_bind, run_choose_free w (.nanMinMax k false x y) rfl, Result.andThen_ok, Sem.run_pure]
  | some o =>
    obtain ⟨hx, hy⟩ := order_none_of_nan h
    rw [canon_of hx, canon_of hy]
    cases o with
    | lt => exact ⟨x, 0, by simp [Builtin.min2, h, World.drewN], canon_of hx⟩
    | gt => exact ⟨y, 0, by simp [Builtin.min2, h, World.drewN], canon_of hy⟩
    | eq =>
      refine ⟨if (k.decode x).neg then x else y, 0, by simp [Builtin.min2, h, World.drewN], ?_⟩
      simp only []
      split <;> first | exact canon_of hx | exact canon_of hy

end

section
open Ieee

theorem read_small (f : Format) (neg : Bool) (rung : Nat) (h : rung < f.infRung) (hs : f.infRung ≤ f.signWeight) : (f.read (f.word neg rung)).isInfinity = false := by
  have hlt : rung < f.signWeight := Nat.lt_of_lt_of_le h hs
  have hm : f.word neg rung % f.signWeight = rung := by
    unfold Format.word
    cases neg
    · simp [Nat.mod_eq_of_lt hlt]
    · simp [Nat.mod_eq_of_lt hlt]
  unfold Format.read
  simp only [hm]
  split
  · rfl
  · rfl

theorem cut_nought (way : Toward) (neg : Bool) (n : Nat) (hw : way = .even) : way.cut neg n 0 = n := by
  subst hw
  unfold Toward.cut
  simp [Nat.mod_one]

theorem fconvOk_widen (x : Nat) : fconvOk .f32 .f64 x = true := by
  unfold fconvOk
  simp only
  split
  · rename_i t m e hd
    have key : (0 < m → (-149 : Int) ≤ e ∧ e ≤ 104 ∧ m < 2 ^ 24) := by
      intro _
      have hd : Format.read single x = .number t m e := hd
      unfold Format.read at hd
      have e1 : single.signWeight = 2147483648 := by decide
      have e2 : single.binade = 8388608 := by decide
      have e3 : single.infRung = 2139095040 := by decide
      have e4 : single.leastPlace = -149 := by decide
      simp only [e1, e2, e3, e4] at hd
      split at hd
      · cases hd
        omega
      · split at hd
        · simp only [Datum.number.injEq] at hd
          obtain ⟨_, h1, h2⟩ := hd
          omega
        · split at hd <;> cases hd
    have hinf : (double.read (double.nearest t m e)).isInfinity = false := by
      unfold Format.nearest
      have d1 : double.leastPlace = -1074 := by decide
      have d2 : double.binade = 4503599627370496 := by decide
      have d3 : double.infRung = 9218868437227405312 := by decide
      have d4 : double.signWeight = 9223372036854775808 := by decide
      have hsw : double.infRung ≤ double.signWeight := by rw [d3, d4]; omega
      split
      · exact read_small _ _ _ (by rw [d3]; omega) hsw
      · rename_i hm
        obtain ⟨h1, h2, h3⟩ := key (by omega)
        have hlog : m.log2 < 24 := (Nat.log2_lt hm).2 h3
        have hlast : max (e + m.log2 - double.fractionBits) double.leastPlace = e + m.log2 - 52 := by
          rw [d1]
          have : (double.fractionBits : Int) = 52 := by decide
          rw [this]
          omega
        simp only [hlast]
        have hs0 : (e + m.log2 - 52 - e).toNat = 0 := by omega
        rw [hs0, cut_nought _ _ _ rfl, d1, d2, d3]
        refine read_small _ _ _ ?_ hsw
        rw [d3]
        have hsh : (e - (e + m.log2 - 52)).toNat = 52 - m.log2 := by omega
        rw [hsh, Nat.shiftLeft_eq]
        have hk : m * 2 ^ (52 - m.log2) < 2 ^ 53 := by
          have hm2 : m < 2 ^ (m.log2 + 1) := Nat.lt_log2_self
          calc m * 2 ^ (52 - m.log2) < 2 ^ (m.log2 + 1) * 2 ^ (52 - m.log2) := Nat.mul_lt_mul_of_pos_right hm2 (Nat.two_pow_pos _)
            _ = 2 ^ 53 := by rw [← Nat.pow_add]; congr 1; omega
        have h53 : (2 : Nat) ^ 53 = 9007199254740992 := by decide
        rw [h53] at hk
        have hl : (e + (m.log2 : Int) - 52 - -1074).toNat ≤ 1149 := by omega
        generalize m * 2 ^ (52 - m.log2) = q at hk
        generalize (e + (m.log2 : Int) - 52 - -1074).toNat = u at hl
        have h1 : u * 4503599627370496 ≤ 1149 * 4503599627370496 := Nat.mul_le_mul_right _ hl
        refine Nat.lt_of_le_of_lt (Nat.min_le_left ..) ?_
        refine Nat.lt_of_lt_of_le (Nat.add_lt_add_of_le_of_lt h1 hk) ?_
        decide
    have hgoal : (FloatKind.f64.decode (FloatKind.f64.encode (.number t m e))).isInfinity = false := hinf
    rw [hgoal, Bool.not_false]
  · rfl

theorem fconvOk_cs {s k : FloatKind} {x : Nat} (h : ∀ b ∈ convCs s k x, b = true) : fconvOk s k x = true := by
  unfold convCs at h
  split at h
  · exact fconvOk_widen x
  · exact h _ (List.mem_cons_self ..)

/-! ### Words -/

theorem fltB_has {k : FloatKind} {b : Nat} (h : k.has b) : fltB k (canon k b) = true := by
  cases hn : isNan k b with
  | true => rw [canon_nan hn]; cases k <;> rfl
  | false => rw [canon_of hn]; cases k <;> exact decide_eq_true h

theorem fltB_nanB (k : FloatKind) : fltB k (nanB k) = true := by cases k <;> rfl

theorem fltB_write (k : FloatKind) (d : Datum) : fltB k (k.format.write d) = true := by
  have hw : ∀ (f : Format) (neg : Bool) (r B : Nat), f.signWeight + r < B → f.word neg r < B := by
    intro f neg r B h
    unfold Format.word
    split <;> omega
  have key : ∀ (f : Format) (B : Nat), f.signWeight + (f.infRung + f.binade) ≤ B → f.write d < B := by
    intro f B h
    have hb : 0 < f.binade := Nat.two_pow_pos _
    cases d with
    | infinity s => exact hw _ _ _ _ (by omega)
    | nan s t =>
      refine hw _ _ _ _ ?_
      have : t % f.binade < f.binade := Nat.mod_lt _ (Nat.two_pow_pos _)
      omega
    | number s m e =>
      show f.nearest s m e < B
      unfold Format.nearest
      split
      · exact hw _ _ _ _ (by omega)
      · simp only []
        refine hw _ _ _ _ ?_
        have : ∀ a : Nat, min a f.infRung ≤ f.infRung := fun a => Nat.min_le_right _ _
        have := this ((max (e + m.log2 - f.fractionBits) f.leastPlace - f.leastPlace).toNat * f.binade + Toward.even.cut s (m <<< (e - max (e + m.log2 - f.fractionBits) f.leastPlace).toNat) (max (e + m.log2 - f.fractionBits) f.leastPlace - e).toNat)
        omega
  cases k
  · exact decide_eq_true (key single _ (by decide))
  · exact decide_eq_true (key double _ (by decide))

theorem fltB_farith (op : BinOp) (k : FloatKind) (x y : Nat) : fltB k (farith op k x y) = true := by
  unfold farith
  have key : ∀ (d : Option Datum), fltB k ((d.map k.format.write).getD (nanB k)) = true := by
    intro d
    cases d with
    | none => exact fltB_nanB k
    | some e => exact fltB_write k e
  cases op <;> simp only [floatBits] <;> first | exact key _ | exact fltB_nanB k

theorem fltB_fmax {k : FloatKind} {x y : Nat} (hx : fltB k x = true) (hy : fltB k y = true) : fltB k (fmax k x y) = true := by
  unfold fmax
  split
  · exact fltB_nanB k
  · exact hy
  · exact hx
  · split
    · exact hy
    · exact hx

theorem fltB_fmin {k : FloatKind} {x y : Nat} (hx : fltB k x = true) (hy : fltB k y = true) : fltB k (fmin k x y) = true := by
  unfold fmin
  split
  · exact fltB_nanB k
  · exact hx
  · exact hy
  · split
    · exact hx
    · exact hy

theorem fltB_fneg {k : FloatKind} {x : Nat} (hx : fltB k x = true) : fltB k (fneg k x) = true := by
  unfold fneg
  cases isNan k x
  · show fltB k (Op.negFloat k x) = true
    unfold Op.negFloat
    cases k
    · exact decide_eq_true (Nat.xor_lt_two_pow (n := 32) (of_decide_eq_true hx) (by decide))
    · exact decide_eq_true (Nat.xor_lt_two_pow (n := 64) (of_decide_eq_true hx) (by decide))
  · exact fltB_nanB k

theorem fltB_fconv {s d : FloatKind} {x : Nat} (hx : fltB s x = true) : fltB d (fconv s d x) = true := by
  unfold fconv
  split
  · exact hx
  · exact hx
  · split
    · exact fltB_nanB _
    · exact fltB_write _ _
    · exact fltB_write _ _

end
end Go.Sim

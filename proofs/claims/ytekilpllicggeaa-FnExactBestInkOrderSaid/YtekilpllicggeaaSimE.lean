/-
  Single operations, the second part: arithmetic, slices, calls of builtins; every operation.
-/
import Derived.Test.YtekilpllicggeaaSimD
namespace Go.Sim

section
variable {P : Program} {S : Nat → Prop} {w₀ w : World} {β : BM} {m : Mem}

/-! ### Integers -/

theorem wrap_in (k : IntKind) (hk : k.signed = true) (z : Int) (h : inI k z = true) : k.wrap z = z := by
  unfold inI at h
  simp only [Bool.and_eq_true, decide_eq_true_eq] at h
  obtain ⟨h1, h2⟩ := h
  cases k <;> simp [IntKind.signed] at hk <;> simp only [IntKind.min, IntKind.max, IntKind.signed, IntKind.bits, if_true] at h1 h2 <;> unfold IntKind.wrap <;> simp only [IntKind.signed, IntKind.bits, Bool.true_and] <;> split <;> rename_i hc <;> simp at hc <;> omega

theorem inI_wrap (k : IntKind) (z : Int) : inI k (k.wrap z) = true := by
  unfold inI IntKind.wrap IntKind.min IntKind.max
  cases k <;> simp only [IntKind.signed, IntKind.bits, Bool.true_and, Bool.false_and, if_true, if_false, Bool.false_eq_true, Bool.and_eq_true, decide_eq_true_eq] <;> (try split) <;> (try simp only [decide_eq_true_eq, ge_iff_le] at *) <;> omega

theorem inI_sub {k k' : IntKind} {n : Int} (hs : subI k' k = true) (h : inI k' n = true) : inI k n = true := by
  unfold subI at hs
  unfold inI at *
  simp only [Bool.and_eq_true, decide_eq_true_eq] at *
  omega

theorem wrap_id {k : IntKind} {n : Int} (h : inI k n = true) : k.wrap n = n := by
  unfold inI IntKind.min IntKind.max at h
  unfold IntKind.wrap
  cases k <;> simp only [IntKind.signed, IntKind.bits, Bool.true_and, Bool.false_and, if_true, if_false, Bool.false_eq_true, Bool.and_eq_true, decide_eq_true_eq, ge_iff_le] at * <;> (try split) <;> omega

theorem wrap_sub {k k' : IntKind} {n : Int} (hs : subI k' k = true) (h : inI k' n = true) : k.wrap n = n := wrap_id (inI_sub hs h)

theorem inI_between {k : IntKind} {x z : Int} (h : inI k x = true) (hz : (0 ≤ z ∧ z ≤ x) ∨ (x ≤ z ∧ z ≤ 0)) : inI k z = true := by
  unfold inI IntKind.min IntKind.max at *
  cases k <;> simp only [IntKind.signed, IntKind.bits, if_true, if_false, Bool.false_eq_true, Bool.and_eq_true, decide_eq_true_eq] at * <;> omega

theorem inI_tmod {k : IntKind} {x y : Int} (h : inI k x = true) : inI k (x.tmod y) = true := by
  refine inI_between h ?_
  rcases Int.le_total 0 x with hx | hx
  · left
    refine ⟨Int.tmod_nonneg y hx, ?_⟩
    have := Int.tmod_eq_emod_of_nonneg (b := y) hx
    rcases Decidable.em (y = 0) with rfl | hy
    · simp
    · have h1 : x.tmod y = (x.natAbs % y.natAbs : Nat) := by
        obtain ⟨a, rfl⟩ := Int.eq_ofNat_of_zero_le hx
        rcases Int.le_total 0 y with hy' | hy'
        · obtain ⟨b, rfl⟩ := Int.eq_ofNat_of_zero_le hy'; rfl
        · obtain ⟨b, hb⟩ := Int.eq_ofNat_of_zero_le (a := -y) (by omega)
          have : y = -(b : Int) := by omega
          subst this
          rw [Int.tmod_neg]
          simp
          rfl
      rw [h1]
      have := Nat.mod_le x.natAbs y.natAbs
      omega
  · right
    have e : x = -(-x) := by omega
    have h1 : x.tmod y = -((-x).tmod y) := by rw [← Int.neg_tmod, ← e]
    have h2 := Int.tmod_nonneg y (a := -x) (by omega)
    have h3 : (-x).tmod y ≤ -x := by
      rw [Int.tmod_eq_emod_of_nonneg (by omega)]
      rcases Decidable.em (y = 0) with rfl | hy
      · simp
      · have := Int.emod_lt_of_pos (-x) (b := y.natAbs) (by omega)
        have h4 : (-x) % y ≤ -x := by
          have h5 := Int.mul_ediv_add_emod (-x) y
          have h6 : 0 ≤ y * ((-x) / y) := by
            rcases Int.le_total 0 y with hy' | hy'
            · exact Int.mul_nonneg hy' (Int.ediv_nonneg (by omega) hy')
            · skip
              have h7 : (-x) / y = -((-x) / (-y)) := by rw [Int.ediv_neg, Int.neg_neg]
              rw [h7]
              have := Int.mul_nonneg (a := -y) (b := (-x) / (-y)) (by omega) (Int.ediv_nonneg (by omega) (by omega))
              rw [Int.mul_neg, ← Int.neg_mul]
              exact this
          omega
        exact h4
    rw [h1]
    omega

theorem inI_fdiv {k : IntKind} {x : Int} {n : Nat} (h : inI k x = true) : inI k (x.fdiv (2 ^ n)) = true := by
  have hp : (0 : Int) < 2 ^ n := by exact_mod_cast Nat.two_pow_pos n
  refine inI_between h ?_
  rw [Int.fdiv_eq_ediv_of_nonneg _ (by omega)]
  rcases Int.le_total 0 x with hx | hx
  · left
    refine ⟨Int.ediv_nonneg hx (by omega), Int.ediv_le_self _ hx⟩
  · right
    refine ⟨?_, ?_⟩
    · refine (Int.le_ediv_iff_mul_le hp).2 ?_
      have : (1 : Int) ≤ 2 ^ n := hp
      have h1 : x * 2 ^ n ≤ x * 1 := Int.mul_le_mul_of_nonpos_left hx this
      omega
    · have h1 : x / 2 ^ n < 0 ∨ x / 2 ^ n = 0 ∨ 0 < x / 2 ^ n := by omega
      rcases h1 with h1 | h1 | h1
      · omega
      · omega
      · have h2 := Int.mul_ediv_add_emod x (2 ^ n)
        have h3 := Int.emod_nonneg x (b := 2 ^ n) (by omega)
        have h4 : 0 < (2 ^ n : Int) * (x / 2 ^ n) := Int.mul_pos hp h1
        omega

theorem intOps_ok (op : BinOp) (k : IntKind) (x y : Int) (lit : Bool) (hx : inI k x = true) {r : OR} (h : intA op k x y lit = some r) (hcs : ∀ b ∈ r.cs, b = true) :
    (r.m = none ∧ r.nw = none) ∧ ∃ v, (match op with
      | .add | .sub | .mul => Op.intArith op k x y
      | .quo | .rem => Op.intDiv op k x y
      | .and | .or | .xor | .andNot => Op.intBits op k x y
      | _ => Op.intCmp op x y : Sem Value).run P w = .ok v w ∧ SR β r.v v := by
  cases op <;> simp only [intA, iarith, iarithS] at h
  case add =>
    cases lit
    · simp only at h
      cases hs : k.signed
      · simp only [hs] at h; cases h; exact ⟨⟨rfl, rfl⟩, _, rfl, .sint _ _ (inI_wrap ..)⟩
      · simp only [hs] at h; cases h
        refine ⟨⟨rfl, rfl⟩, _, rfl, ?_⟩
        have e : k.wrap (x + y) = x + y := wrap_in k hs _ (hcs _ (List.mem_singleton.2 rfl))
        rw [e]; exact .sint _ _ (hcs _ (List.mem_singleton.2 rfl))
    · cases h; exact ⟨⟨rfl, rfl⟩, _, rfl, .int _ _ (inI_wrap ..)⟩
  case sub =>
    cases lit
    · simp only at h
      cases hs : k.signed
      · simp only [hs] at h; cases h; exact ⟨⟨rfl, rfl⟩, _, rfl, .sint _ _ (inI_wrap ..)⟩
      · simp only [hs] at h; cases h
        refine ⟨⟨rfl, rfl⟩, _, rfl, ?_⟩
        have e : k.wrap (x - y) = x - y := wrap_in k hs _ (hcs _ (List.mem_singleton.2 rfl))
        rw [e]; exact .sint _ _ (hcs _ (List.mem_singleton.2 rfl))
    · cases h; exact ⟨⟨rfl, rfl⟩, _, rfl, .int _ _ (inI_wrap ..)⟩
  case mul =>
    cases lit
    · simp only at h
      cases hs : k.signed
      · simp only [hs] at h; cases h; exact ⟨⟨rfl, rfl⟩, _, rfl, .sint _ _ (inI_wrap ..)⟩
      · simp only [hs] at h; cases h
        refine ⟨⟨rfl, rfl⟩, _, rfl, ?_⟩
        have e : k.wrap (x * y) = x * y := wrap_in k hs _ (hcs _ (List.mem_singleton.2 rfl))
        rw [e]; exact .sint _ _ (hcs _ (List.mem_singleton.2 rfl))
    · cases h; exact ⟨⟨rfl, rfl⟩, _, rfl, .int _ _ (inI_wrap ..)⟩
  case quo =>
    cases lit
    · cases h
      have := hcs _ (List.mem_singleton.2 rfl)
      have hy : ¬ y = 0 := by simpa using this
      exact ⟨⟨rfl, rfl⟩, _, by simp [Op.intDiv, hy, wrapS, iquo], .sint _ _ (inI_wrap ..)⟩
    · simp only at h
      split at h
      · cases h
      · rename_i hy
        cases h
        have hy : ¬ y = 0 := by simpa using hy
        exact ⟨⟨rfl, rfl⟩, _, by simp [Op.intDiv, hy], .int _ _ (inI_wrap ..)⟩
  case rem =>
    cases lit
    · cases h
      have := hcs _ (List.mem_singleton.2 rfl)
      have hy : ¬ y = 0 := by simpa using this
      exact ⟨⟨rfl, rfl⟩, _, by simp [Op.intDiv, hy, irem], .sint _ _ (inI_tmod hx)⟩
    · simp only at h
      split at h
      · cases h
      · rename_i hy
        cases h
        have hy : ¬ y = 0 := by simpa using hy
        exact ⟨⟨rfl, rfl⟩, _, by simp [Op.intDiv, hy], .int _ _ (inI_tmod hx)⟩
  case and => cases lit <;> cases h <;> refine ⟨⟨rfl, rfl⟩, _, rfl, ?_⟩ <;> constructor <;> exact inI_wrap ..
  case or => cases lit <;> cases h <;> refine ⟨⟨rfl, rfl⟩, _, rfl, ?_⟩ <;> constructor <;> exact inI_wrap ..
  case xor => cases lit <;> cases h <;> refine ⟨⟨rfl, rfl⟩, _, rfl, ?_⟩ <;> constructor <;> exact inI_wrap ..
  case andNot => cases lit <;> cases h <;> refine ⟨⟨rfl, rfl⟩, _, rfl, ?_⟩ <;> constructor <;> exact inI_wrap ..
  case eql => cases lit <;> cases h <;> refine ⟨⟨rfl, rfl⟩, _, rfl, ?_⟩ <;> constructor
  case neq => cases lit <;> cases h <;> refine ⟨⟨rfl, rfl⟩, _, rfl, ?_⟩ <;> constructor
  case lss => cases lit <;> cases h <;> refine ⟨⟨rfl, rfl⟩, _, rfl, ?_⟩ <;> constructor
  case leq => cases lit <;> cases h <;> refine ⟨⟨rfl, rfl⟩, _, rfl, ?_⟩ <;> constructor
  case gtr => cases lit <;> cases h <;> refine ⟨⟨rfl, rfl⟩, _, rfl, ?_⟩ <;> constructor
  case geq => cases lit <;> cases h <;> refine ⟨⟨rfl, rfl⟩, _, rfl, ?_⟩ <;> constructor
  all_goals cases h

theorem shift_ok (op : BinOp) (k k' : IntKind) (x y : Int) (lit : Bool) (hx : inI k x = true) {r : OR} (h : shiftA op k x y lit = some r) (hcs : ∀ b ∈ r.cs, b = true) :
    (r.m = none ∧ r.nw = none) ∧ ∃ v, (Op.shift op k x k' y).run P w = .ok v w ∧ SR β r.v v := by
  cases op <;> simp only [shiftA] at h
  case shl =>
    cases lit
    · cases h
      have := hcs _ (List.mem_singleton.2 rfl)
      have hy : ¬ y < 0 := by simpa using this
      exact ⟨⟨rfl, rfl⟩, _, by simp only [Op.shift, if_neg hy]; rfl, .sint _ _ (inI_wrap ..)⟩
    · simp only at h
      split at h
      · cases h
      · rename_i hy
        cases h
        have hy : ¬ y < 0 := by simpa using hy
        exact ⟨⟨rfl, rfl⟩, _, by simp only [Op.shift, if_neg hy]; rfl, .int _ _ (inI_wrap ..)⟩
  case shr =>
    cases lit
    · cases h
      have := hcs _ (List.mem_singleton.2 rfl)
      have hy : ¬ y < 0 := by simpa using this
      exact ⟨⟨rfl, rfl⟩, _, by simp only [Op.shift, if_neg hy]; rfl, .sint _ _ (inI_fdiv hx)⟩
    · simp only at h
      split at h
      · cases h
      · rename_i hy
        cases h
        have hy : ¬ y < 0 := by simpa using hy
        exact ⟨⟨rfl, rfl⟩, _, by simp only [Op.shift, if_neg hy]; rfl, .int _ _ (inI_fdiv hx)⟩
  all_goals cases h

theorem drewN_zero (w : World) : w.drewN 0 = w := rfl

theorem eqGuard_ok (op : BinOp) (t : TypeId) (x y : Operand) {a b : Value} (h : a.oneCell' = true) (hi : ∀ u v, a ≠ .iface u v) (hn : a ≠ .nilIface) : (eqGuard op t x y a b).run P w = .ok () w := by
  unfold eqGuard
  cases op <;> first
    | rfl
    | (cases a <;> simp [Value.oneCell'] at h <;> first | rfl | exact absurd rfl hn)

theorem binA_ok {op : BinOp} {t : TypeId} {x y : AV} {r : OR} (h : binA P t op x y = some r) (hcs : ∀ b ∈ r.cs, b = true) (ox oy : Operand) {a b : Value} (hx : VR β x a) (hy : VR β y b) :
    (r.m = none ∧ r.nw = none) ∧ ∃ v n, (do eqGuard op t ox oy a b; binOp op t a b : Sem Value).run P w = .ok v (w.drewN n) ∧ VR β r.v v := by
  have key : ∀ (v : Value) (n : Nat), a.oneCell' = true → (∀ u v, a ≠ .iface u v) → a ≠ .nilIface → (binOp op t a b).run P w = .ok v (w.drewN n) → (do eqGuard op t ox oy a b; binOp op t a b : Sem Value).run P w = .ok v (w.drewN n) := by
    intro v n h1 h2 h3 h4
    rw [Sem.run_bind, eqGuard_ok op t ox oy h1 h2 h3]
    exact h4
  have hint : ∀ (k k' : IntKind) (p q : Int) (lit : Bool), inI k p = true → a = .int k p → b = .int k' q → (match isShift op with
      | true => shiftA op k p q lit
      | false => match decide (k = k') with
        | true => intA op k p q lit
        | false => none) = some r → (r.m = none ∧ r.nw = none) ∧ ∃ v n, (do eqGuard op t ox oy a b; binOp op t a b : Sem Value).run P w = .ok v (w.drewN n) ∧ VR β r.v v := by
    intro k k' p q lit hin ha hb h
    subst ha hb
    split at h
    · rename_i hs
      obtain ⟨h1, v, h2, h3⟩ := shift_ok (P := P) (w := w) (β := β) op k k' p q lit hin h hcs
      refine ⟨h1, v, 0, key v 0 rfl (by simp) (by simp) ?_, .sc _ _ h3⟩
      rw [drewN_zero, ← h2]
      cases op <;> simp [isShift] at hs <;> rfl
    · rename_i hs
      split at h
      · rename_i hk
        have hk : k = k' := of_decide_eq_true hk
        subst hk
        obtain ⟨h1, v, h2, h3⟩ := intOps_ok (P := P) (w := w) (β := β) op k p q lit hin h hcs
        refine ⟨h1, v, 0, key v 0 rfl (by simp) (by simp) ?_, .sc _ _ h3⟩
        rw [drewN_zero, ← h2]
        cases op <;> simp [isShift] at hs <;> simp [binOp]
      · cases h
  have hflt : ∀ (k k' : FloatKind) (p q x y : Nat), x = canon k p → y = canon k' q → a = .float k p → b = .float k' q → (match decide (k = k') with
      | false => none
      | true => match isArith op with
        | true => some ({ v := .flt k (farith op k x y) } : OR)
        | false => match isCmp op with
          | true => some { v := .sbool (fcmp op k x y) }
          | false => none) = some r → (r.m = none ∧ r.nw = none) ∧ ∃ v n, (do eqGuard op t ox oy a b; binOp op t a b : Sem Value).run P w = .ok v (w.drewN n) ∧ VR β r.v v := by
    intro k k' p q x y hp hq ha hb h
    subst ha hb
    split at h
    · cases h
    · rename_i hk
      have hk := of_decide_eq_true hk
      subst hk hp hq
      split at h
      · rename_i ha
        cases h
        obtain ⟨r, n, h1, h2⟩ := floatArith_sound (P := P) w op k p q ha
        refine ⟨⟨rfl, rfl⟩, _, n, key _ n rfl (by simp) (by simp) ?_, .sc _ _ (.flt _ _ r h2.symm (fltB_farith ..))⟩
        rw [← h1]
        cases op <;> simp [isArith] at ha <;> simp [binOp]
      · split at h
        · rename_i ha
          cases h
          have h1 := floatCmp_sound (P := P) w op k p q ha
          refine ⟨⟨rfl, rfl⟩, _, 0, key _ 0 rfl (by simp) (by simp) ?_, .sc _ _ (.sbool _)⟩
          rw [drewN_zero, ← h1]
          cases op <;> simp [isCmp] at ha <;> simp [binOp]
        · cases h
  have hbool : ∀ (p q : Bool) (f : Bool → AV), (∀ c, SR β (f c) (.bool c)) → a = .bool p → b = .bool q → (match boolA op p q, isBoolT P t with
      | some c, true => some ({ v := f c } : OR)
      | _, _ => none) = some r → (r.m = none ∧ r.nw = none) ∧ ∃ v n, (do eqGuard op t ox oy a b; binOp op t a b : Sem Value).run P w = .ok v (w.drewN n) ∧ VR β r.v v := by
    intro p q f hf ha hb h
    subst ha hb
    split at h
    · rename_i c hc ht
      cases h
      have hu : P.underlying t = some .bool := by
        unfold isBoolT at ht
        split at ht
        · assumption
        · cases ht
      refine ⟨⟨rfl, rfl⟩, .bool c, 0, key _ 0 rfl (by simp) (by simp) ?_, .sc _ _ (hf c)⟩
      rw [drewN_zero]
      have he : (Op.equal t (.bool p) (.bool q)).run P w = .ok (p == q) w := by
        unfold Op.equal Op.maxDepth Op.equalIn
        rw [Sem.run_bind, run_underlying hu]
        rfl
      cases op <;> simp only [boolA] at hc <;> (try cases hc) <;> simp [binOp, he]
    · cases h
  have hnil : ∀ (c0 : Bool), (∃ v, a = v ∧ b = .slice none 0 0) → a.oneCell' = true → (∀ u v, a ≠ .iface u v) → a ≠ .nilIface → (isSliceT P t = true → (Op.equal t a b).run P w = .ok c0 w) → (∀ q, op = .eql ∨ op = .neq → (binOp op t a b).run P w = q → True) → (match boolA op true c0, isSliceT P t with
      | some c, true => some ({ v := .bool c } : OR)
      | _, _ => none) = some r → (binOp .eql t a b = (do pure (.bool (← Op.equal t a b)) : Sem Value)) → (binOp .neq t a b = (do pure (.bool (!(← Op.equal t a b))) : Sem Value)) → (r.m = none ∧ r.nw = none) ∧ ∃ v n, (do eqGuard op t ox oy a b; binOp op t a b : Sem Value).run P w = .ok v (w.drewN n) ∧ VR β r.v v := by
    intro c0 _ h1 h2 h3 he _ h e1 e2
    split at h
    · rename_i c hc ht
      cases h
      refine ⟨⟨rfl, rfl⟩, .bool c, 0, key _ 0 h1 h2 h3 ?_, .sc _ _ (.bool c)⟩
      rw [drewN_zero]
      cases op <;> simp only [boolA] at hc <;> cases hc
      · rw [e1]; cases c0 <;> simp [he ht]
      · rw [e2]; cases c0 <;> simp [he ht]
    · cases h
  have hsl : ∀ {e : TypeDesc}, isSliceT P t = true → ∃ u, P.underlying t = some (.slice u) := by
    intro _ ht
    unfold isSliceT at ht
    split at ht
    · exact ⟨_, by assumption⟩
    · cases ht
  unfold binA at h
  split at h
  · cases hx with | sc _ _ hx => cases hx with | int _ _ hi => cases hy with | sc _ _ hy => cases hy; exact hint _ _ _ _ true hi rfl rfl h
  · cases hx with | sc _ _ hx => cases hx with | int _ _ hi => cases hy with | sc _ _ hy => cases hy; exact hint _ _ _ _ false hi rfl rfl h
  · cases hx with | sc _ _ hx => cases hx with | sint _ _ hi => cases hy with | sc _ _ hy => cases hy; exact hint _ _ _ _ false hi rfl rfl h
  · cases hx with | sc _ _ hx => cases hx with | sint _ _ hi => cases hy with | sc _ _ hy => cases hy; exact hint _ _ _ _ false hi rfl rfl h
  · cases hx with | sc _ _ hx => cases hx with | flt _ _ p hp hb => cases hy with | sc _ _ hy => cases hy with | flt _ _ q hq hb' => exact hflt _ _ p q _ _ hp hq rfl rfl h
  · cases hx with | sc _ _ hx => cases hx; cases hy with | sc _ _ hy => cases hy; exact hbool _ _ _ (fun c => .bool c) rfl rfl h
  · cases hx with | sc _ _ hx => cases hx; cases hy with | sc _ _ hy => cases hy; exact hbool _ _ _ (fun c => .sbool c) rfl rfl h
  · cases hx with | sc _ _ hx => cases hx; cases hy with | sc _ _ hy => cases hy; exact hbool _ _ _ (fun c => .sbool c) rfl rfl h
  · cases hx with | sc _ _ hx => cases hx; cases hy with | sc _ _ hy => cases hy; exact hbool _ _ _ (fun c => .sbool c) rfl rfl h
  · cases hx with | sc _ _ hx => cases hx; cases hy with | sc _ _ hy => cases hy; exact hnil true ⟨_, rfl, rfl⟩ rfl (by simp) (by simp) (fun ht => by obtain ⟨u, hu⟩ := hsl (e := .bool) ht; unfold Op.equal Op.maxDepth Op.equalIn; rw [Sem.run_bind, run_underlying hu]; rfl) (fun _ _ _ => trivial) h rfl rfl
  · cases hx with | sc _ _ hx => cases hx; cases hy with | sc _ _ hy => cases hy; exact hnil false ⟨_, rfl, rfl⟩ rfl (by simp) (by simp) (fun ht => by obtain ⟨u, hu⟩ := hsl (e := .bool) ht; unfold Op.equal Op.maxDepth Op.equalIn; rw [Sem.run_bind, run_underlying hu]; rfl) (fun _ _ _ => trivial) h rfl rfl
  · cases hx with | sc _ _ hx => cases hx; cases hy with | sc _ _ hy => cases hy; exact hnil false ⟨_, rfl, rfl⟩ rfl (by simp) (by simp) (fun ht => by obtain ⟨u, hu⟩ := hsl (e := .bool) ht; unfold Op.equal Op.maxDepth Op.equalIn; rw [Sem.run_bind, run_underlying hu]; rfl) (fun _ _ _ => trivial) h rfl rfl
  · cases hx with | sc _ _ hx => cases hx with | str p => cases hy with | sc _ _ hy => cases hy with | str q =>
    cases op <;> simp only at h <;> cases h
    · have hb := of_decide_eq_true (hcs _ (List.mem_singleton.2 rfl))
      refine ⟨⟨rfl, rfl⟩, .string (_ ++ _), 0, key _ 0 rfl (by simp) (by simp) ?_, .sc _ _ (.str _)⟩
      simp only [drewN_zero, binOp, Op.stringOp, Sem.run_ite]
      rw [if_neg]
      · rfl
      · simp only [IntKind.max, IntKind.signed, IntKind.bits, if_true]
        omega
    · exact ⟨⟨rfl, rfl⟩, _, 0, key _ 0 rfl (by simp) (by simp) (by rw [drewN_zero]; rfl), .sc _ _ (.sbool _)⟩
    · exact ⟨⟨rfl, rfl⟩, _, 0, key _ 0 rfl (by simp) (by simp) (by rw [drewN_zero]; rfl), .sc _ _ (.sbool _)⟩
  · cases h

theorem unA_ok {op : UnOp} {x : AV} {r : OR} (h : unA op x = some r) {a : Value} (hx : VR β x a) :
    (r.m = none ∧ r.nw = none) ∧ r.cs = [] ∧ ∃ v, (Op.unary op a).run P w = .ok v w ∧ VR β r.v v := by
  unfold unA at h
  split at h
  · cases h; cases hx with | sc _ _ hx => cases hx; exact ⟨⟨rfl, rfl⟩, rfl, _, rfl, .sc _ _ (.bool _)⟩
  · cases h; cases hx with | sc _ _ hx => cases hx; exact ⟨⟨rfl, rfl⟩, rfl, _, rfl, .sc _ _ (.sbool _)⟩
  · cases h; cases hx with | sc _ _ hx => cases hx with | flt _ _ p hp hb => subst hp; exact ⟨⟨rfl, rfl⟩, rfl, _, rfl, .sc _ _ (.flt _ _ _ (fneg_sound _ p).symm (fltB_fneg hb))⟩
  · cases h; cases hx with | sc _ _ hx => cases hx; exact ⟨⟨rfl, rfl⟩, rfl, _, rfl, .sc _ _ (.int _ _ (inI_wrap ..))⟩
  · cases h

theorem fltB_nearest (k : FloatKind) (n : Int) : fltB k (k.nearest n) = true := fltB_write k (.number (n < 0) n.natAbs 0)

theorem encode_nearest (k : FloatKind) (n : Int) : canon k (k.nearest n) = k.nearest n := canon_of (isNan_encode k _ rfl)

theorem convA_ok {s d : TypeId} {x : AV} {r : OR} (h : convA P s d x = some r) (hcs : ∀ b ∈ r.cs, b = true) {a : Value} (hx : VR β x a) :
    (r.m = none ∧ r.nw = none) ∧ ∃ v n, (convert s d a).run P w = .ok v (w.drewN n) ∧ VR β r.v v := by
  unfold convA at h
  split at h
  · rename_i u k _ n hs hd
    cases h; cases hx with | sc _ _ hx => cases hx; refine ⟨⟨rfl, rfl⟩, .int k (k.wrap n), 0, ?_, .sc _ _ (.int _ _ (inI_wrap ..))⟩; cases u <;> simp [convert, run_underlying hs, run_underlying hd, Conv.intToInt, drewN_zero]
  · rename_i u k k' n hs hd
    cases h; cases hx with | sc _ _ hx => cases hx with | sint _ _ hi =>
    refine ⟨⟨rfl, rfl⟩, .int k (k.wrap n), 0, by cases u <;> simp [convert, run_underlying hs, run_underlying hd, Conv.intToInt, drewN_zero], .sc _ _ ?_⟩
    cases hsub : subI k' k with
    | true =>
      show SR β (.sint k n) (.int k (k.wrap n))
      rw [wrap_sub hsub hi]
      exact .sint _ _ (inI_sub hsub hi)
    | false => exact .sint _ _ (inI_wrap ..)
  · rename_i u k _ n hs hd
    cases h; cases hx with | sc _ _ hx => cases hx; refine ⟨⟨rfl, rfl⟩, .float k (k.nearest n), 0, ?_, .sc _ _ (.flt _ _ _ (encode_nearest k n).symm (fltB_nearest ..))⟩; cases u <;> simp [convert, run_underlying hs, run_underlying hd, Conv.intToFloat, drewN_zero]
  · rename_i u k _ n hs hd
    cases h; cases hx with | sc _ _ hx => cases hx; refine ⟨⟨rfl, rfl⟩, .float k (k.nearest n), 0, ?_, .sc _ _ (.flt _ _ _ (encode_nearest k n).symm (fltB_nearest ..))⟩; cases u <;> simp [convert, run_underlying hs, run_underlying hd, Conv.intToFloat, drewN_zero]
  · rename_i u k s' b hs hd
    cases h; cases hx with | sc _ _ hx => cases hx with | flt _ _ p hp hb =>
    subst hp
    obtain ⟨r, n, h1, h2⟩ := floatToFloat_sound (P := P) w s' k p (fconvOk_cs hcs)
    refine ⟨⟨rfl, rfl⟩, .float k r, n, ?_, .sc _ _ (.flt _ _ r h2.symm (fltB_fconv hb))⟩
    rw [← h1]
    cases u <;> simp [convert, run_underlying hs, run_underlying hd]
  · cases h

end
end Go.Sim

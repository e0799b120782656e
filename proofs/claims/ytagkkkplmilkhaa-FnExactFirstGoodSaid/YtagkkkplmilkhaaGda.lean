/-
  Facts of this seat that its laws use; no conditions.
-/
import Derived.Test.YtagkkkplmilkhaaCn0
import Derived.Test.YtagkkkplmilkhaaSimRd
namespace Go.Proofs.Ytagkkkplmilkhaa
open Go.Sim Go.ChangeShapes Go.WideShapes Go.ChangeAt Go.RowKit

theorem notDec {a b : Int} (h : (!(decide (a = b))) = false) : a = b := by
  cases hd : decide (a = b) with
  | true => exact of_decide_eq_true hd
  | false => rw [hd] at h; cases h

theorem chain2 {a : Bool} {r : Int} (h : (bif (!a) then 2 else r) = 0) : a = true ∧ r = 0 := by
  cases a with
  | true => exact ⟨rfl, h⟩
  | false => cases h

theorem isFilm_in {v : Nat} (h : (isFilmR [.flt .f32 v]).b 0 = true) : isNan .f32 v = false ∧ v % 2147483648 ≤ 1233125376 := by
  rw [isFilmR_eq] at h
  have e := sb_inj (isFilm_x ⟨fun _ => v, fun _ => 0, fun _ => false, fun _ => .empty⟩)
  have w := within_rung (c := 1233125376) (by decide) (e.symm.trans h)
  exact ⟨w.1, w.2.1⟩

theorem isKey_in {v : Nat} (h : (isKeyR [.flt .f32 v]).b 0 = true) : isNan .f32 v = false ∧ v % 2147483648 ≤ 1098907648 := by
  rw [isKeyR_eq] at h
  have e := sb_inj (isKey_x ⟨fun _ => v, fun _ => 0, fun _ => false, fun _ => .empty⟩)
  have w := within_rung (c := 1098907648) (by decide) (e.symm.trans h)
  exact ⟨w.1, w.2.1⟩

theorem setStep {p k r : Bool} (h : (bif ((!p) || (!k)) then false else r) = true) : k = true ∧ r = true := by
  revert h
  cases p <;> cases k <;> intro h <;> first | exact ⟨rfl, h⟩ | cases h

set_option maxRecDepth 100000 in
theorem validSetting_key (x : Vars) (h : (validSettingR (mkL x 0 (kdsP [.val (.ag kd4)]))).b 0 = true) : (isKeyR [.flt .f32 (x.u 8)]).b 0 = true ∧ (isKeyR [.flt .f32 (x.u 9)]).b 0 = true ∧ (isKeyR [.flt .f32 (x.u 10)]).b 0 = true ∧ (isKeyR [.flt .f32 (x.u 11)]).b 0 = true ∧ (isKeyR [.flt .f32 (x.u 12)]).b 0 = true ∧ (isKeyR [.flt .f32 (x.u 13)]).b 0 = true ∧ (isKeyR [.flt .f32 (x.u 14)]).b 0 = true ∧ (isKeyR [.flt .f32 (x.u 15)]).b 0 = true := by
  rw [validSettingR_eq] at h
  have e := sb_inj (validSetting_x x)
  have h' := e.symm.trans h
  obtain ⟨a0, h'⟩ := setStep h'
  obtain ⟨a1, h'⟩ := setStep h'
  obtain ⟨a2, h'⟩ := setStep h'
  obtain ⟨a3, h'⟩ := setStep h'
  obtain ⟨a4, h'⟩ := setStep h'
  obtain ⟨a5, h'⟩ := setStep h'
  obtain ⟨a6, h'⟩ := setStep h'
  obtain ⟨a7, h'⟩ := setStep h'
  exact ⟨a0, a1, a2, a3, a4, a5, a6, a7⟩

theorem rowOk_get {z : Nat} {y : Vars} {k : Nat} (h : rowOk z y k = true) {i : Nat} (hi : i < z) : (isFilmR [.flt .f32 (y.u (8 * k + i))]).b 0 = true := by
  unfold rowOk at h
  rw [List.all_eq_true] at h
  exact h i (List.mem_range.2 hi)

theorem push_lt {y : Vars} {c j : Nat} {g : Bool} (h : j < c) : (pushV y 0 (pmul c 1) [.sbool g]).b j = y.b j := by
  show (bif Nat.blt j (pmul c 1) then y.b (0 + j) else _) = _
  have : Nat.blt j (pmul c 1) = true := by unfold pmul; rw [Nat.mul_one, Nat.blt_eq]; exact h
  rw [this, Nat.zero_add]
  rfl

theorem push_at {y : Vars} {c : Nat} {g : Bool} : (pushV y 0 (pmul c 1) [.sbool g]).b c = g := by
  show (bif Nat.blt c (pmul c 1) then _ else boolOf (leafN [.sbool g] (c - pmul c 1))) = _
  have : Nat.blt c (pmul c 1) = false := by unfold pmul; rw [Nat.mul_one, ← Bool.not_eq_true, Nat.blt_eq]; omega
  rw [this, show c - pmul c 1 = 0 by unfold pmul; omega]
  rfl

/-- A loop that lays what is true. -/
theorem gd_run {T : SV → Tr} {N E : SV → SV} (P : SV → Prop) (gk : Nat → Bool) (L : Nat)
    (hp : ∀ s, P s → s.x.i 0 < L → (T s).pick = .next (N s))
    (hn : ∀ s, P s → s.x.i 0 < L → (N s).x.i 0 = s.x.i 0 + 1 ∧ (N s).len 1 = s.len 1 + 1 ∧ (N s).y 3 = pushV (s.y 3) 0 (pmul (s.len 1) 1) [.sbool (gk (s.x.i 0).toNat)] ∧ P (N s))
    (he : ∀ s, P s → ¬ s.x.i 0 < L → (T s).pick = .out 0 (E s) ∧ (E s).len 0 = s.len 1 ∧ (E s).y 1 = s.y 3) :
    ∀ n s, P s → 0 ≤ s.x.i 0 → s.x.i 0 ≤ L → (s.len 1 : Int) = s.x.i 0 → ((L : Int) - s.x.i 0).toNat < n → (∀ j, j < s.len 1 → (s.y 3).b j = gk j) →
      (Go.Sim.runT T n s).1 = 0 ∧ (Go.Sim.runT T n s).2.len 0 = L ∧ (∀ j, j < L → ((Go.Sim.runT T n s).2.y 1).b j = gk j) ∧ ∃ r, P r ∧ (Go.Sim.runT T n s).2 = E r ∧ r.len 1 = L := by
  intro n
  induction n with
  | zero => intro s _ _ _ _ h; omega
  | succ n ih =>
    intro s hs h0 h1 hl h2 hy
    simp only [Go.Sim.runT]
    by_cases hlt : s.x.i 0 < L
    · rw [hp s hs hlt]
      obtain ⟨e0, e1, e2, e3⟩ := hn s hs hlt
      refine ih (N s) e3 (by omega) (by omega) (by omega) (by omega) fun j hj => ?_
      rw [e2]
      by_cases hjl : j < s.len 1
      · rw [push_lt hjl]
        exact hy j hjl
      · have : j = s.len 1 := by omega
        rw [this, push_at, show s.len 1 = (s.x.i 0).toNat by omega]
    · obtain ⟨q1, q2, q3⟩ := he s hs hlt
      rw [q1]
      refine ⟨rfl, q2.trans (by omega), fun j hj => ?_, s, hs, rfl, by omega⟩
      show ((E s).y 1).b j = _
      rw [q3]
      exact hy j (by omega)


noncomputable def gdI1_v_0 (s : SV) : Vars := (offR (apl [(.sint .i8 1)] (apl (fl s.x 2 8) (apl [(.sint .i8 (s.x.i 10))] (apl (fl s.x 11 14) (apl [(.sint .i8 (s.x.i 25))] (apl (fl s.x 26 14) (apl [(.sint .i8 (s.x.i 40))] (apl (fl s.x 41 14) (apl [(.sint .i8 (s.x.i 55))] (apl (fl s.x 56 14) (apl [(.sint .i8 (s.x.i 70))] (apl (fl s.x 71 14) (apl [(.sint .i8 (s.x.i 85))] (apl (fl s.x 86 14) (apl [(.sint .i8 (s.x.i 100))] (apl (fl s.x 101 14) (apl [(.sint .i8 (s.x.i 115))] (apl (fl s.x 116 32) ([(.sint .i16 (s.x.i 148)), (.flt .f32 ((s.y 0).u (padd (padd 0 (pmul (itn (s.x.i 0)) 8)) 0))), (.flt .f32 ((s.y 0).u (padd (padd 0 (pmul (itn (s.x.i 0)) 8)) 1))), (.flt .f32 ((s.y 0).u (padd (padd 0 (pmul (itn (s.x.i 0)) 8)) 2))), (.flt .f32 ((s.y 0).u (padd (padd 0 (pmul (itn (s.x.i 0)) 8)) 3))), (.flt .f32 ((s.y 0).u (padd (padd 0 (pmul (itn (s.x.i 0)) 8)) 4))), (.flt .f32 ((s.y 0).u (padd (padd 0 (pmul (itn (s.x.i 0)) 8)) 5))), (.flt .f32 ((s.y 0).u (padd (padd 0 (pmul (itn (s.x.i 0)) 8)) 6))), (.flt .f32 ((s.y 0).u (padd (padd 0 (pmul (itn (s.x.i 0)) 8)) 7)))]))))))))))))))))))))

noncomputable def gdI1G (s : SV) : Bool := (fcmp .leq .f32 ((gdI1_v_0 s).u 8) (s.x.u 146))

noncomputable def gdI1N (s : SV) : SV := (mkSV (apl [(.sint .i64 (iadd (s.x.i 0) 1)), (.sint .i64 (s.x.i 1))] (apl (fl s.x 2 8) (apl [(.sint .i8 (s.x.i 10))] (apl (fl s.x 11 14) (apl [(.sint .i8 (s.x.i 25))] (apl (fl s.x 26 14) (apl [(.sint .i8 (s.x.i 40))] (apl (fl s.x 41 14) (apl [(.sint .i8 (s.x.i 55))] (apl (fl s.x 56 14) (apl [(.sint .i8 (s.x.i 70))] (apl (fl s.x 71 14) (apl [(.sint .i8 (s.x.i 85))] (apl (fl s.x 86 14) (apl [(.sint .i8 (s.x.i 100))] (apl (fl s.x 101 14) (apl [(.sint .i8 (s.x.i 115))] (apl (fl s.x 116 32) ([(.sint .i16 (s.x.i 148))]))))))))))))))))))) [(s.len 0), (padd (s.len 1) 1)] [(s.n 0), 0, 0, (pmul (padd (s.len 1) 1) 1)] [(s.y 0), zeroV, zeroV, (pushV (s.y 3) 0 (pmul (s.len 1) 1) [(.sbool (gdI1G s))])])
noncomputable def gdI1E (s : SV) : SV := (mkSV [] [(s.len 1)] [(s.n 0), (s.n 3)] [(s.y 0), (s.y 3)])

noncomputable def gdI1T (s : SV) : Tr := .node [] (decide ((s.x.i 0) < (s.x.i 1))) (.next (gdI1N s) [((decide ((-(9223372036854775807 + 1)) ≤ (iadd (s.x.i 0) 1))) && (decide ((iadd (s.x.i 0) 1) ≤ 9223372036854775807))), (decide ((padd 0 (pmul (s.len 1) 1)) ≤ (s.n 3))), (decide ((padd (s.len 1) 1) ≤ 16777216)), true, true, (!(isNan .f32 (farith .sub .f32 (s.x.u 138) ((s.y 0).u (padd (padd 0 (pmul (itn (s.x.i 0)) 8)) 0))))), true, true, true, true, true, true, true, (decide ((padd (padd 0 (pmul (itn (s.x.i 0)) 8)) 8) ≤ (s.n 0))), (decide (0 ≤ (s.x.i 0))), (decide ((s.x.i 0) < (s.len 0)))]) (.out 0 (gdI1E s) [])

theorem gdI1_t (s : SV) : Go.Sim.stepT Try.prog GAasI (ntOf Try.prog 57) noLT true 1000 gdI1L (loopOf Try.prog 57 0) s = some (gdI1T s) := by kernel_rfl

def gdI1P (s : SV) : Prop := 0 ≤ s.x.i 0 ∧ s.x.i 0 ≤ s.len 0 ∧ s.len 0 ≤ 1048576 ∧ s.n 0 = 8 * s.len 0 ∧ s.x.i 1 = s.len 0 ∧ (s.len 1 : Int) = s.x.i 0 ∧ s.n 3 = s.len 1 ∧ (∀ j : Nat, j < s.len 0 → rowOk 1 (s.y 0) j = true) ∧ ∀ i, i < 8 → s.x.u (138 + i) % 2147483648 ≤ 1098907648

noncomputable def gdI1B (s : SV) : Bool := @decide (gdI1P s) (Classical.propDecidable _)
theorem gdI1B_of {s : SV} (h : gdI1B s = true) : gdI1P s := @of_decide_eq_true _ (Classical.propDecidable _) h
theorem gdI1B_to {s : SV} (h : gdI1P s) : gdI1B s = true := @decide_eq_true _ (Classical.propDecidable _) h

theorem gdI1N_k (s : SV) : (gdI1N s).x.i 0 = iadd (s.x.i 0) 1 ∧ (gdI1N s).x.i 1 = s.x.i 1 ∧ (gdI1N s).len 0 = s.len 0 ∧ (gdI1N s).len 1 = padd (s.len 1) 1 ∧ (gdI1N s).n 0 = s.n 0 ∧ (gdI1N s).n 3 = pmul (padd (s.len 1) 1) 1 ∧ (gdI1N s).y 0 = s.y 0 ∧ (gdI1N s).y 3 = pushV (s.y 3) 0 (pmul (s.len 1) 1) [.sbool (gdI1G s)] ∧ (gdI1N s).x.u 146 = s.x.u 146 ∧ (gdI1N s).x.u (138 + 0) = s.x.u (138 + 0) ∧ (gdI1N s).x.u (138 + 1) = s.x.u (138 + 1) ∧ (gdI1N s).x.u (138 + 2) = s.x.u (138 + 2) ∧ (gdI1N s).x.u (138 + 3) = s.x.u (138 + 3) ∧ (gdI1N s).x.u (138 + 4) = s.x.u (138 + 4) ∧ (gdI1N s).x.u (138 + 5) = s.x.u (138 + 5) ∧ (gdI1N s).x.u (138 + 6) = s.x.u (138 + 6) ∧ (gdI1N s).x.u (138 + 7) = s.x.u (138 + 7) := ⟨by kernel_rfl, by kernel_rfl, by kernel_rfl, by kernel_rfl, by kernel_rfl, by kernel_rfl, by kernel_rfl, by kernel_rfl, by kernel_rfl, by kernel_rfl, by kernel_rfl, by kernel_rfl, by kernel_rfl, by kernel_rfl, by kernel_rfl, by kernel_rfl, by kernel_rfl⟩

def gdI1Mu (s : SV) : Nat := ((s.len 0 : Int) - s.x.i 0).toNat

theorem gdI1_go (s : SV) (hp : ∀ b ∈ [gdI1B s], b = true) :
    (gdI1T s).ok ∧ (∀ k s', (gdI1T s).pick = .out k s' → k < 1) ∧ ∀ s', (gdI1T s).pick = .next s' → (∀ b ∈ [gdI1B s'], b = true) ∧ gdI1Mu s' < gdI1Mu s := by
  have hP := gdI1B_of (hp _ (List.mem_cons_self ..))
  have hP' := hP
  obtain ⟨i1, i2, i3, i4, i5, i6, i7, i8, i9⟩ := hP
  cases hc : (decide ((s.x.i 0) < (s.x.i 1))) with
  | false =>
    have hk : (gdI1T s).pick = .out 0 (gdI1E s) := by unfold gdI1T; rw [hc]; rfl
    refine ⟨?_, fun k s' h => ?_, fun s' h => ?_⟩
    · unfold gdI1T
      exact ⟨allN, (fun h => by rw [hc] at h; cases h), (fun _ b hb => by cases hb)⟩
    · rw [hk] at h; cases h; decide
    · rw [hk] at h; cases h
  | true =>
    have hlt := of_decide_eq_true hc
    (try unfold ofN at hlt)
    have ro := i8 (s.x.i 0).toNat (by omega)
    have nan0 : isNan .f32 (farith .sub .f32 (s.x.u 138) ((s.y 0).u (padd (padd 0 (pmul (itn (s.x.i 0)) 8)) 0))) = false := by
      rw [idxI]
      exact sub_num (Nat.lt_of_le_of_lt (i9 0 (by decide)) (by decide)) (isFilm_in (rowOk_get ro (show 0 < 1 by decide))).1
    have hk : (gdI1T s).pick = .next (gdI1N s) := by unfold gdI1T; rw [hc]; rfl
    refine ⟨?_, fun k s' h => ?_, fun s' h => ?_⟩
    · unfold gdI1T
      exact ⟨allN, (fun _ => (allC (andT (decide_eq_true (by unfold iadd; omega)) (decide_eq_true (by unfold iadd; omega))) (allC (decide_eq_true (by unfold padd pmul; omega)) (allC (decide_eq_true (by unfold padd; omega)) (allC rfl (allC rfl (allC (notT nan0) (allC rfl (allC rfl (allC rfl (allC rfl (allC rfl (allC rfl (allC rfl (allC (decide_eq_true (by unfold padd pmul itn; omega)) (allC (decide_eq_true (by omega)) (allC (decide_eq_true (by omega)) allN))))))))))))))))), (fun h => by rw [hc] at h; cases h)⟩
    · rw [hk] at h; cases h
    · rw [hk] at h
      cases h
      refine ⟨fun b hb => ?_, ?_⟩
      · rw [List.mem_singleton.1 hb]
        refine gdI1B_to ?_
        obtain ⟨e0, e1, l0, l1, n0, n3, y0, _, _, u0, u1, u2, u3, u4, u5, u6, u7⟩ := gdI1N_k s
        unfold iadd at e0
        unfold padd at l1
        unfold pmul padd at n3
        refine ⟨by omega, by omega, by omega, by omega, by omega, by omega, by omega, ?_, ?_⟩
        · rw [y0, l0]
          exact i8
        · intro i hi
          rw [eightI (P := fun i => (gdI1N s).x.u (138 + i) = s.x.u (138 + i)) u0 u1 u2 u3 u4 u5 u6 u7 i hi]
          exact i9 i hi
      · obtain ⟨e0, e1, l0, _⟩ := gdI1N_k s
        unfold iadd at e0
        unfold gdI1Mu
        omega

noncomputable def gdI1F0 (s : SV) : Nat × SV := Go.Sim.runT gdI1T (gdI1Mu s + 1) s

noncomputable def gdI1F : SV → Nat × SV := Classical.choose (⟨gdI1F0, rfl⟩ : ∃ f, f = gdI1F0)

theorem gdI1F_eq : gdI1F = gdI1F0 := Classical.choose_spec (⟨gdI1F0, rfl⟩ : ∃ f, f = gdI1F0)

noncomputable def gdI1Pre (s : SV) : List Bool := [gdI1B s]

noncomputable def HgdI1 : LTab := hookL 0 gdI1L gdI1Pre gdI1F noLT

theorem HgdI1_ok : HFun Try.prog 1 HgdI1 57 := by
  unfold HgdI1
  rw [gdI1F_eq]
  exact HFun.loop GAasI_ok mixed (J := true) (n := 1000) (L := gdI1L) (T := gdI1T) (pre := gdI1Pre) (μ := gdI1Mu) (HFun.none Try.prog 1 57) (by kernel_rfl) (by decide) (by decide) gdI1_t gdI1_go

def gdI1Ls (s : SV) : List AV := (apl [(.sint .i8 1)] (apl (fl s.x 2 8) (apl [(.sint .i8 (s.x.i 10))] (apl (fl s.x 11 14) (apl [(.sint .i8 (s.x.i 25))] (apl (fl s.x 26 14) (apl [(.sint .i8 (s.x.i 40))] (apl (fl s.x 41 14) (apl [(.sint .i8 (s.x.i 55))] (apl (fl s.x 56 14) (apl [(.sint .i8 (s.x.i 70))] (apl (fl s.x 71 14) (apl [(.sint .i8 (s.x.i 85))] (apl (fl s.x 86 14) (apl [(.sint .i8 (s.x.i 100))] (apl (fl s.x 101 14) (apl [(.sint .i8 (s.x.i 115))] (apl (fl s.x 116 32) ([(.sint .i16 (s.x.i 148)), (.flt .f32 ((s.y 0).u (padd (padd 0 (pmul (itn (s.x.i 0)) 8)) 0))), (.flt .f32 ((s.y 0).u (padd (padd 0 (pmul (itn (s.x.i 0)) 8)) 1))), (.flt .f32 ((s.y 0).u (padd (padd 0 (pmul (itn (s.x.i 0)) 8)) 2))), (.flt .f32 ((s.y 0).u (padd (padd 0 (pmul (itn (s.x.i 0)) 8)) 3))), (.flt .f32 ((s.y 0).u (padd (padd 0 (pmul (itn (s.x.i 0)) 8)) 4))), (.flt .f32 ((s.y 0).u (padd (padd 0 (pmul (itn (s.x.i 0)) 8)) 5))), (.flt .f32 ((s.y 0).u (padd (padd 0 (pmul (itn (s.x.i 0)) 8)) 6))), (.flt .f32 ((s.y 0).u (padd (padd 0 (pmul (itn (s.x.i 0)) 8)) 7)))])))))))))))))))))))

theorem gdI1G_eq (s : SV) (hlt : s.x.i 0 < s.len 0) (hP : gdI1P s) : gdI1G s = goodF 1 (fun i => s.x.u (138 + i)) (s.x.u 146) (s.y 0) (s.x.i 0).toNat := by
  obtain ⟨i1, i2, i3, i4, i5, i6, i7, i8, i9⟩ := hP
  have ro := i8 (s.x.i 0).toNat (by omega)
  have nan0 : isNan .f32 (farith .sub .f32 (s.x.u 138) ((s.y 0).u (padd (padd 0 (pmul (itn (s.x.i 0)) 8)) 0))) = false := by
    rw [idxI]
    exact sub_num (Nat.lt_of_le_of_lt (i9 0 (by decide)) (by decide)) (isFilm_in (rowOk_get ro (show 0 < 1 by decide))).1
  have e1 : (gdI1_v_0 s).u 8 = off_m0 (varsOf (gdI1Ls s)) := by
    show (offR (gdI1Ls s)).u 8 = _
    rw [offR_eq]
    kernel_rfl
  have e2 := (off_b0 (varsOf (gdI1Ls s)) ((show isNan .f32 (farith .sub .f32 ((varsOf (gdI1Ls s)).u 137) ((varsOf (gdI1Ls s)).u 148)) = isNan .f32 (farith .sub .f32 (s.x.u 138) ((s.y 0).u (padd (padd 0 (pmul (itn (s.x.i 0)) 8)) 0))) from by kernel_rfl).trans nan0)).1
  have e3 : off_r0 (varsOf (gdI1Ls s)) = gM (fun i => szD (s.x.u (138 + i)) ((s.y 0).u (padd (padd 0 (pmul (itn (s.x.i 0)) 8)) i))) 1 := by kernel_rfl
  unfold gdI1G goodF
  rw [e1, e2, e3]
  rw [gM_congr (z := 1) (f := fun i => szD (s.x.u (138 + i)) ((s.y 0).u (padd (padd 0 (pmul (itn (s.x.i 0)) 8)) i))) (g := fun i => szD (s.x.u (138 + i)) ((s.y 0).u (8 * (s.x.i 0).toNat + i))) fun i _ => by rw [idxI]]

theorem gdI1_yes (s : SV) (hP : gdI1P s) (h0 : s.x.i 0 = 0) (hl : s.len 1 = 0) :
    (gdI1F s).1 = 0 ∧ (gdI1F s).2.len 0 = s.len 0 ∧ (∀ j, j < s.len 0 → ((gdI1F s).2.y 1).b j = goodF 1 (fun i => s.x.u (138 + i)) (s.x.u 146) (s.y 0) j) ∧ (gdI1F s).2.n 1 = s.len 0 ∧ (gdI1F s).2.n 0 = s.n 0 ∧ (gdI1F s).2.y 0 = s.y 0 := by
  rw [gdI1F_eq]
  let P : SV → Prop := fun r => gdI1P r ∧ r.len 0 = s.len 0 ∧ r.n 0 = s.n 0 ∧ r.y 0 = s.y 0 ∧ r.x.u 146 = s.x.u 146 ∧ ∀ i, i < 8 → r.x.u (138 + i) = s.x.u (138 + i)
  have k1 : ∀ r, P r → r.x.i 0 < s.len 0 → (gdI1T r).pick = .next (gdI1N r) := fun r hr hlt => by
    have h5 := hr.1.2.2.2.2.1
    unfold gdI1T
    rw [decide_eq_true (show r.x.i 0 < r.x.i 1 by have := hr.2.1; omega)]
    rfl
  have k2 : ∀ r, P r → r.x.i 0 < s.len 0 → (gdI1N r).x.i 0 = r.x.i 0 + 1 ∧ (gdI1N r).len 1 = r.len 1 + 1 ∧ (gdI1N r).y 3 = pushV (r.y 3) 0 (pmul (r.len 1) 1) [.sbool (goodF 1 (fun i => s.x.u (138 + i)) (s.x.u 146) (s.y 0) (r.x.i 0).toNat)] ∧ P (gdI1N r) := fun r hr hlt => by
    have hpk := k1 r hr hlt
    obtain ⟨hr1, q0, qn, q1, q2, q3⟩ := hr
    obtain ⟨e0, e1, l0, l1, n0, n3, y0, y3, w0, u0, u1, u2, u3, u4, u5, u6, u7⟩ := gdI1N_k r
    rw [gdI1G_eq r (by omega) hr1, q1, q2] at y3
    have eg : goodF 1 (fun i => r.x.u (138 + i)) (s.x.u 146) (s.y 0) (r.x.i 0).toNat = goodF 1 (fun i => s.x.u (138 + i)) (s.x.u 146) (s.y 0) (r.x.i 0).toNat := by
      unfold goodF
      rw [gM_congr (z := 1) (f := fun i => szD (r.x.u (138 + i)) ((s.y 0).u (8 * (r.x.i 0).toNat + i))) (g := fun i => szD (s.x.u (138 + i)) ((s.y 0).u (8 * (r.x.i 0).toNat + i))) fun i hi => by rw [q3 i (by omega)]]
    rw [eg] at y3
    have hB : gdI1B (gdI1N r) = true := ((gdI1_go r (allC (gdI1B_to hr1) allN)).2.2 _ hpk).1 _ (List.mem_cons_self ..)
    exact ⟨e0, l1, y3, gdI1B_of hB, l0.trans q0, n0.trans qn, y0.trans q1, w0.trans q2, fun i hi => (eightI (P := fun i => (gdI1N r).x.u (138 + i) = r.x.u (138 + i)) u0 u1 u2 u3 u4 u5 u6 u7 i hi).trans (q3 i hi)⟩
  have k3 : ∀ r, P r → ¬ r.x.i 0 < s.len 0 → (gdI1T r).pick = .out 0 (gdI1E r) ∧ (gdI1E r).len 0 = r.len 1 ∧ (gdI1E r).y 1 = r.y 3 := fun r hr hlt => by
    have h5 := hr.1.2.2.2.2.1
    refine ⟨?_, by kernel_rfl, by kernel_rfl⟩
    unfold gdI1T
    rw [decide_eq_false (show ¬ r.x.i 0 < r.x.i 1 by have := hr.2.1; omega)]
    rfl
  obtain ⟨a, b, c, r, hr, e, el⟩ := gd_run (T := gdI1T) (N := gdI1N) (E := gdI1E) P (goodF 1 (fun i => s.x.u (138 + i)) (s.x.u 146) (s.y 0)) (s.len 0) k1 k2 k3 (gdI1Mu s + 1) s ⟨hP, rfl, rfl, rfl, rfl, fun _ _ => rfl⟩ (by omega) (by omega) (by omega) (Nat.lt_succ_self _) (fun j hj => by omega)
  refine ⟨a, b, c, ?_, ?_, ?_⟩
  · show (Go.Sim.runT gdI1T (gdI1Mu s + 1) s).2.n 1 = _
    rw [e]
    have h7 := hr.1.2.2.2.2.2.2.1
    exact (show (gdI1E r).n 1 = r.n 3 from by kernel_rfl).trans (h7.trans el)
  · show (Go.Sim.runT gdI1T (gdI1Mu s + 1) s).2.n 0 = _
    rw [e]
    exact (show (gdI1E r).n 0 = r.n 0 from by kernel_rfl).trans hr.2.2.1
  · show (Go.Sim.runT gdI1T (gdI1Mu s + 1) s).2.y 0 = _
    rw [e]
    exact (show (gdI1E r).y 0 = r.y 0 from by kernel_rfl).trans hr.2.2.2.1


noncomputable def gdI2_v_0 (s : SV) : Vars := (offR (apl [(.sint .i8 2)] (apl (fl s.x 2 8) (apl [(.sint .i8 (s.x.i 10))] (apl (fl s.x 11 14) (apl [(.sint .i8 (s.x.i 25))] (apl (fl s.x 26 14) (apl [(.sint .i8 (s.x.i 40))] (apl (fl s.x 41 14) (apl [(.sint .i8 (s.x.i 55))] (apl (fl s.x 56 14) (apl [(.sint .i8 (s.x.i 70))] (apl (fl s.x 71 14) (apl [(.sint .i8 (s.x.i 85))] (apl (fl s.x 86 14) (apl [(.sint .i8 (s.x.i 100))] (apl (fl s.x 101 14) (apl [(.sint .i8 (s.x.i 115))] (apl (fl s.x 116 32) ([(.sint .i16 (s.x.i 148)), (.flt .f32 ((s.y 0).u (padd (padd 0 (pmul (itn (s.x.i 0)) 8)) 0))), (.flt .f32 ((s.y 0).u (padd (padd 0 (pmul (itn (s.x.i 0)) 8)) 1))), (.flt .f32 ((s.y 0).u (padd (padd 0 (pmul (itn (s.x.i 0)) 8)) 2))), (.flt .f32 ((s.y 0).u (padd (padd 0 (pmul (itn (s.x.i 0)) 8)) 3))), (.flt .f32 ((s.y 0).u (padd (padd 0 (pmul (itn (s.x.i 0)) 8)) 4))), (.flt .f32 ((s.y 0).u (padd (padd 0 (pmul (itn (s.x.i 0)) 8)) 5))), (.flt .f32 ((s.y 0).u (padd (padd 0 (pmul (itn (s.x.i 0)) 8)) 6))), (.flt .f32 ((s.y 0).u (padd (padd 0 (pmul (itn (s.x.i 0)) 8)) 7)))]))))))))))))))))))))

noncomputable def gdI2G (s : SV) : Bool := (fcmp .leq .f32 ((gdI2_v_0 s).u 8) (s.x.u 146))

noncomputable def gdI2N (s : SV) : SV := (mkSV (apl [(.sint .i64 (iadd (s.x.i 0) 1)), (.sint .i64 (s.x.i 1))] (apl (fl s.x 2 8) (apl [(.sint .i8 (s.x.i 10))] (apl (fl s.x 11 14) (apl [(.sint .i8 (s.x.i 25))] (apl (fl s.x 26 14) (apl [(.sint .i8 (s.x.i 40))] (apl (fl s.x 41 14) (apl [(.sint .i8 (s.x.i 55))] (apl (fl s.x 56 14) (apl [(.sint .i8 (s.x.i 70))] (apl (fl s.x 71 14) (apl [(.sint .i8 (s.x.i 85))] (apl (fl s.x 86 14) (apl [(.sint .i8 (s.x.i 100))] (apl (fl s.x 101 14) (apl [(.sint .i8 (s.x.i 115))] (apl (fl s.x 116 32) ([(.sint .i16 (s.x.i 148))]))))))))))))))))))) [(s.len 0), (padd (s.len 1) 1)] [(s.n 0), 0, 0, (pmul (padd (s.len 1) 1) 1)] [(s.y 0), zeroV, zeroV, (pushV (s.y 3) 0 (pmul (s.len 1) 1) [(.sbool (gdI2G s))])])
noncomputable def gdI2E (s : SV) : SV := (mkSV [] [(s.len 1)] [(s.n 0), (s.n 3)] [(s.y 0), (s.y 3)])

noncomputable def gdI2T (s : SV) : Tr := .node [] (decide ((s.x.i 0) < (s.x.i 1))) (.next (gdI2N s) [((decide ((-(9223372036854775807 + 1)) ≤ (iadd (s.x.i 0) 1))) && (decide ((iadd (s.x.i 0) 1) ≤ 9223372036854775807))), (decide ((padd 0 (pmul (s.len 1) 1)) ≤ (s.n 3))), (decide ((padd (s.len 1) 1) ≤ 16777216)), true, true, (!(isNan .f32 (farith .sub .f32 (s.x.u 138) ((s.y 0).u (padd (padd 0 (pmul (itn (s.x.i 0)) 8)) 0))))), (!(isNan .f32 (farith .sub .f32 (s.x.u 139) ((s.y 0).u (padd (padd 0 (pmul (itn (s.x.i 0)) 8)) 1))))), true, true, true, true, true, true, (decide ((padd (padd 0 (pmul (itn (s.x.i 0)) 8)) 8) ≤ (s.n 0))), (decide (0 ≤ (s.x.i 0))), (decide ((s.x.i 0) < (s.len 0)))]) (.out 0 (gdI2E s) [])

theorem gdI2_t (s : SV) : Go.Sim.stepT Try.prog GAasI (ntOf Try.prog 57) noLT true 1000 gdI2L (loopOf Try.prog 57 0) s = some (gdI2T s) := by kernel_rfl

def gdI2P (s : SV) : Prop := 0 ≤ s.x.i 0 ∧ s.x.i 0 ≤ s.len 0 ∧ s.len 0 ≤ 1048576 ∧ s.n 0 = 8 * s.len 0 ∧ s.x.i 1 = s.len 0 ∧ (s.len 1 : Int) = s.x.i 0 ∧ s.n 3 = s.len 1 ∧ (∀ j : Nat, j < s.len 0 → rowOk 2 (s.y 0) j = true) ∧ ∀ i, i < 8 → s.x.u (138 + i) % 2147483648 ≤ 1098907648

noncomputable def gdI2B (s : SV) : Bool := @decide (gdI2P s) (Classical.propDecidable _)
theorem gdI2B_of {s : SV} (h : gdI2B s = true) : gdI2P s := @of_decide_eq_true _ (Classical.propDecidable _) h
theorem gdI2B_to {s : SV} (h : gdI2P s) : gdI2B s = true := @decide_eq_true _ (Classical.propDecidable _) h

theorem gdI2N_k (s : SV) : (gdI2N s).x.i 0 = iadd (s.x.i 0) 1 ∧ (gdI2N s).x.i 1 = s.x.i 1 ∧ (gdI2N s).len 0 = s.len 0 ∧ (gdI2N s).len 1 = padd (s.len 1) 1 ∧ (gdI2N s).n 0 = s.n 0 ∧ (gdI2N s).n 3 = pmul (padd (s.len 1) 1) 1 ∧ (gdI2N s).y 0 = s.y 0 ∧ (gdI2N s).y 3 = pushV (s.y 3) 0 (pmul (s.len 1) 1) [.sbool (gdI2G s)] ∧ (gdI2N s).x.u 146 = s.x.u 146 ∧ (gdI2N s).x.u (138 + 0) = s.x.u (138 + 0) ∧ (gdI2N s).x.u (138 + 1) = s.x.u (138 + 1) ∧ (gdI2N s).x.u (138 + 2) = s.x.u (138 + 2) ∧ (gdI2N s).x.u (138 + 3) = s.x.u (138 + 3) ∧ (gdI2N s).x.u (138 + 4) = s.x.u (138 + 4) ∧ (gdI2N s).x.u (138 + 5) = s.x.u (138 + 5) ∧ (gdI2N s).x.u (138 + 6) = s.x.u (138 + 6) ∧ (gdI2N s).x.u (138 + 7) = s.x.u (138 + 7) := ⟨by kernel_rfl, by kernel_rfl, by kernel_rfl, by kernel_rfl, by kernel_rfl, by kernel_rfl, by kernel_rfl, by kernel_rfl, by kernel_rfl, by kernel_rfl, by kernel_rfl, by kernel_rfl, by kernel_rfl, by kernel_rfl, by kernel_rfl, by kernel_rfl, by kernel_rfl⟩

def gdI2Mu (s : SV) : Nat := ((s.len 0 : Int) - s.x.i 0).toNat

theorem gdI2_go (s : SV) (hp : ∀ b ∈ [gdI2B s], b = true) :
    (gdI2T s).ok ∧ (∀ k s', (gdI2T s).pick = .out k s' → k < 1) ∧ ∀ s', (gdI2T s).pick = .next s' → (∀ b ∈ [gdI2B s'], b = true) ∧ gdI2Mu s' < gdI2Mu s := by
  have hP := gdI2B_of (hp _ (List.mem_cons_self ..))
  have hP' := hP
  obtain ⟨i1, i2, i3, i4, i5, i6, i7, i8, i9⟩ := hP
  cases hc : (decide ((s.x.i 0) < (s.x.i 1))) with
  | false =>
    have hk : (gdI2T s).pick = .out 0 (gdI2E s) := by unfold gdI2T; rw [hc]; rfl
    refine ⟨?_, fun k s' h => ?_, fun s' h => ?_⟩
    · unfold gdI2T
      exact ⟨allN, (fun h => by rw [hc] at h; cases h), (fun _ b hb => by cases hb)⟩
    · rw [hk] at h; cases h; decide
    · rw [hk] at h; cases h
  | true =>
    have hlt := of_decide_eq_true hc
    (try unfold ofN at hlt)
    have ro := i8 (s.x.i 0).toNat (by omega)
    have nan0 : isNan .f32 (farith .sub .f32 (s.x.u 138) ((s.y 0).u (padd (padd 0 (pmul (itn (s.x.i 0)) 8)) 0))) = false := by
      rw [idxI]
      exact sub_num (Nat.lt_of_le_of_lt (i9 0 (by decide)) (by decide)) (isFilm_in (rowOk_get ro (show 0 < 2 by decide))).1
    have nan1 : isNan .f32 (farith .sub .f32 (s.x.u 139) ((s.y 0).u (padd (padd 0 (pmul (itn (s.x.i 0)) 8)) 1))) = false := by
      rw [idxI]
      exact sub_num (Nat.lt_of_le_of_lt (i9 1 (by decide)) (by decide)) (isFilm_in (rowOk_get ro (show 1 < 2 by decide))).1
    have hk : (gdI2T s).pick = .next (gdI2N s) := by unfold gdI2T; rw [hc]; rfl
    refine ⟨?_, fun k s' h => ?_, fun s' h => ?_⟩
    · unfold gdI2T
      exact ⟨allN, (fun _ => (allC (andT (decide_eq_true (by unfold iadd; omega)) (decide_eq_true (by unfold iadd; omega))) (allC (decide_eq_true (by unfold padd pmul; omega)) (allC (decide_eq_true (by unfold padd; omega)) (allC rfl (allC rfl (allC (notT nan0) (allC (notT nan1) (allC rfl (allC rfl (allC rfl (allC rfl (allC rfl (allC rfl (allC (decide_eq_true (by unfold padd pmul itn; omega)) (allC (decide_eq_true (by omega)) (allC (decide_eq_true (by omega)) allN))))))))))))))))), (fun h => by rw [hc] at h; cases h)⟩
    · rw [hk] at h; cases h
    · rw [hk] at h
      cases h
      refine ⟨fun b hb => ?_, ?_⟩
      · rw [List.mem_singleton.1 hb]
        refine gdI2B_to ?_
        obtain ⟨e0, e1, l0, l1, n0, n3, y0, _, _, u0, u1, u2, u3, u4, u5, u6, u7⟩ := gdI2N_k s
        unfold iadd at e0
        unfold padd at l1
        unfold pmul padd at n3
        refine ⟨by omega, by omega, by omega, by omega, by omega, by omega, by omega, ?_, ?_⟩
        · rw [y0, l0]
          exact i8
        · intro i hi
          rw [eightI (P := fun i => (gdI2N s).x.u (138 + i) = s.x.u (138 + i)) u0 u1 u2 u3 u4 u5 u6 u7 i hi]
          exact i9 i hi
      · obtain ⟨e0, e1, l0, _⟩ := gdI2N_k s
        unfold iadd at e0
        unfold gdI2Mu
        omega

noncomputable def gdI2F0 (s : SV) : Nat × SV := Go.Sim.runT gdI2T (gdI2Mu s + 1) s

noncomputable def gdI2F : SV → Nat × SV := Classical.choose (⟨gdI2F0, rfl⟩ : ∃ f, f = gdI2F0)

theorem gdI2F_eq : gdI2F = gdI2F0 := Classical.choose_spec (⟨gdI2F0, rfl⟩ : ∃ f, f = gdI2F0)

noncomputable def gdI2Pre (s : SV) : List Bool := [gdI2B s]

noncomputable def HgdI2 : LTab := hookL 0 gdI2L gdI2Pre gdI2F noLT

theorem HgdI2_ok : HFun Try.prog 1 HgdI2 57 := by
  unfold HgdI2
  rw [gdI2F_eq]
  exact HFun.loop GAasI_ok mixed (J := true) (n := 1000) (L := gdI2L) (T := gdI2T) (pre := gdI2Pre) (μ := gdI2Mu) (HFun.none Try.prog 1 57) (by kernel_rfl) (by decide) (by decide) gdI2_t gdI2_go

def gdI2Ls (s : SV) : List AV := (apl [(.sint .i8 2)] (apl (fl s.x 2 8) (apl [(.sint .i8 (s.x.i 10))] (apl (fl s.x 11 14) (apl [(.sint .i8 (s.x.i 25))] (apl (fl s.x 26 14) (apl [(.sint .i8 (s.x.i 40))] (apl (fl s.x 41 14) (apl [(.sint .i8 (s.x.i 55))] (apl (fl s.x 56 14) (apl [(.sint .i8 (s.x.i 70))] (apl (fl s.x 71 14) (apl [(.sint .i8 (s.x.i 85))] (apl (fl s.x 86 14) (apl [(.sint .i8 (s.x.i 100))] (apl (fl s.x 101 14) (apl [(.sint .i8 (s.x.i 115))] (apl (fl s.x 116 32) ([(.sint .i16 (s.x.i 148)), (.flt .f32 ((s.y 0).u (padd (padd 0 (pmul (itn (s.x.i 0)) 8)) 0))), (.flt .f32 ((s.y 0).u (padd (padd 0 (pmul (itn (s.x.i 0)) 8)) 1))), (.flt .f32 ((s.y 0).u (padd (padd 0 (pmul (itn (s.x.i 0)) 8)) 2))), (.flt .f32 ((s.y 0).u (padd (padd 0 (pmul (itn (s.x.i 0)) 8)) 3))), (.flt .f32 ((s.y 0).u (padd (padd 0 (pmul (itn (s.x.i 0)) 8)) 4))), (.flt .f32 ((s.y 0).u (padd (padd 0 (pmul (itn (s.x.i 0)) 8)) 5))), (.flt .f32 ((s.y 0).u (padd (padd 0 (pmul (itn (s.x.i 0)) 8)) 6))), (.flt .f32 ((s.y 0).u (padd (padd 0 (pmul (itn (s.x.i 0)) 8)) 7)))])))))))))))))))))))

theorem gdI2G_eq (s : SV) (hlt : s.x.i 0 < s.len 0) (hP : gdI2P s) : gdI2G s = goodF 2 (fun i => s.x.u (138 + i)) (s.x.u 146) (s.y 0) (s.x.i 0).toNat := by
  obtain ⟨i1, i2, i3, i4, i5, i6, i7, i8, i9⟩ := hP
  have ro := i8 (s.x.i 0).toNat (by omega)
  have nan0 : isNan .f32 (farith .sub .f32 (s.x.u 138) ((s.y 0).u (padd (padd 0 (pmul (itn (s.x.i 0)) 8)) 0))) = false := by
    rw [idxI]
    exact sub_num (Nat.lt_of_le_of_lt (i9 0 (by decide)) (by decide)) (isFilm_in (rowOk_get ro (show 0 < 2 by decide))).1
  have nan1 : isNan .f32 (farith .sub .f32 (s.x.u 139) ((s.y 0).u (padd (padd 0 (pmul (itn (s.x.i 0)) 8)) 1))) = false := by
    rw [idxI]
    exact sub_num (Nat.lt_of_le_of_lt (i9 1 (by decide)) (by decide)) (isFilm_in (rowOk_get ro (show 1 < 2 by decide))).1
  have e1 : (gdI2_v_0 s).u 8 = off_m1 (varsOf (gdI2Ls s)) := by
    show (offR (gdI2Ls s)).u 8 = _
    rw [offR_eq]
    kernel_rfl
  have e2 := (off_b1 (varsOf (gdI2Ls s)) ((show isNan .f32 (farith .sub .f32 ((varsOf (gdI2Ls s)).u 137) ((varsOf (gdI2Ls s)).u 148)) = isNan .f32 (farith .sub .f32 (s.x.u 138) ((s.y 0).u (padd (padd 0 (pmul (itn (s.x.i 0)) 8)) 0))) from by kernel_rfl).trans nan0) ((show isNan .f32 (farith .sub .f32 ((varsOf (gdI2Ls s)).u 138) ((varsOf (gdI2Ls s)).u 149)) = isNan .f32 (farith .sub .f32 (s.x.u 139) ((s.y 0).u (padd (padd 0 (pmul (itn (s.x.i 0)) 8)) 1))) from by kernel_rfl).trans nan1)).1
  have e3 : off_r1 (varsOf (gdI2Ls s)) = gM (fun i => szD (s.x.u (138 + i)) ((s.y 0).u (padd (padd 0 (pmul (itn (s.x.i 0)) 8)) i))) 2 := by kernel_rfl
  unfold gdI2G goodF
  rw [e1, e2, e3]
  rw [gM_congr (z := 2) (f := fun i => szD (s.x.u (138 + i)) ((s.y 0).u (padd (padd 0 (pmul (itn (s.x.i 0)) 8)) i))) (g := fun i => szD (s.x.u (138 + i)) ((s.y 0).u (8 * (s.x.i 0).toNat + i))) fun i _ => by rw [idxI]]

theorem gdI2_yes (s : SV) (hP : gdI2P s) (h0 : s.x.i 0 = 0) (hl : s.len 1 = 0) :
    (gdI2F s).1 = 0 ∧ (gdI2F s).2.len 0 = s.len 0 ∧ (∀ j, j < s.len 0 → ((gdI2F s).2.y 1).b j = goodF 2 (fun i => s.x.u (138 + i)) (s.x.u 146) (s.y 0) j) ∧ (gdI2F s).2.n 1 = s.len 0 ∧ (gdI2F s).2.n 0 = s.n 0 ∧ (gdI2F s).2.y 0 = s.y 0 := by
  rw [gdI2F_eq]
  let P : SV → Prop := fun r => gdI2P r ∧ r.len 0 = s.len 0 ∧ r.n 0 = s.n 0 ∧ r.y 0 = s.y 0 ∧ r.x.u 146 = s.x.u 146 ∧ ∀ i, i < 8 → r.x.u (138 + i) = s.x.u (138 + i)
  have k1 : ∀ r, P r → r.x.i 0 < s.len 0 → (gdI2T r).pick = .next (gdI2N r) := fun r hr hlt => by
    have h5 := hr.1.2.2.2.2.1
    unfold gdI2T
    rw [decide_eq_true (show r.x.i 0 < r.x.i 1 by have := hr.2.1; omega)]
    rfl
  have k2 : ∀ r, P r → r.x.i 0 < s.len 0 → (gdI2N r).x.i 0 = r.x.i 0 + 1 ∧ (gdI2N r).len 1 = r.len 1 + 1 ∧ (gdI2N r).y 3 = pushV (r.y 3) 0 (pmul (r.len 1) 1) [.sbool (goodF 2 (fun i => s.x.u (138 + i)) (s.x.u 146) (s.y 0) (r.x.i 0).toNat)] ∧ P (gdI2N r) := fun r hr hlt => by
    have hpk := k1 r hr hlt
    obtain ⟨hr1, q0, qn, q1, q2, q3⟩ := hr
    obtain ⟨e0, e1, l0, l1, n0, n3, y0, y3, w0, u0, u1, u2, u3, u4, u5, u6, u7⟩ := gdI2N_k r
    rw [gdI2G_eq r (by omega) hr1, q1, q2] at y3
    have eg : goodF 2 (fun i => r.x.u (138 + i)) (s.x.u 146) (s.y 0) (r.x.i 0).toNat = goodF 2 (fun i => s.x.u (138 + i)) (s.x.u 146) (s.y 0) (r.x.i 0).toNat := by
      unfold goodF
      rw [gM_congr (z := 2) (f := fun i => szD (r.x.u (138 + i)) ((s.y 0).u (8 * (r.x.i 0).toNat + i))) (g := fun i => szD (s.x.u (138 + i)) ((s.y 0).u (8 * (r.x.i 0).toNat + i))) fun i hi => by rw [q3 i (by omega)]]
    rw [eg] at y3
    have hB : gdI2B (gdI2N r) = true := ((gdI2_go r (allC (gdI2B_to hr1) allN)).2.2 _ hpk).1 _ (List.mem_cons_self ..)
    exact ⟨e0, l1, y3, gdI2B_of hB, l0.trans q0, n0.trans qn, y0.trans q1, w0.trans q2, fun i hi => (eightI (P := fun i => (gdI2N r).x.u (138 + i) = r.x.u (138 + i)) u0 u1 u2 u3 u4 u5 u6 u7 i hi).trans (q3 i hi)⟩
  have k3 : ∀ r, P r → ¬ r.x.i 0 < s.len 0 → (gdI2T r).pick = .out 0 (gdI2E r) ∧ (gdI2E r).len 0 = r.len 1 ∧ (gdI2E r).y 1 = r.y 3 := fun r hr hlt => by
    have h5 := hr.1.2.2.2.2.1
    refine ⟨?_, by kernel_rfl, by kernel_rfl⟩
    unfold gdI2T
    rw [decide_eq_false (show ¬ r.x.i 0 < r.x.i 1 by have := hr.2.1; omega)]
    rfl
  obtain ⟨a, b, c, r, hr, e, el⟩ := gd_run (T := gdI2T) (N := gdI2N) (E := gdI2E) P (goodF 2 (fun i => s.x.u (138 + i)) (s.x.u 146) (s.y 0)) (s.len 0) k1 k2 k3 (gdI2Mu s + 1) s ⟨hP, rfl, rfl, rfl, rfl, fun _ _ => rfl⟩ (by omega) (by omega) (by omega) (Nat.lt_succ_self _) (fun j hj => by omega)
  refine ⟨a, b, c, ?_, ?_, ?_⟩
  · show (Go.Sim.runT gdI2T (gdI2Mu s + 1) s).2.n 1 = _
    rw [e]
    have h7 := hr.1.2.2.2.2.2.2.1
    exact (show (gdI2E r).n 1 = r.n 3 from by kernel_rfl).trans (h7.trans el)
  · show (Go.Sim.runT gdI2T (gdI2Mu s + 1) s).2.n 0 = _
    rw [e]
    exact (show (gdI2E r).n 0 = r.n 0 from by kernel_rfl).trans hr.2.2.1
  · show (Go.Sim.runT gdI2T (gdI2Mu s + 1) s).2.y 0 = _
    rw [e]
    exact (show (gdI2E r).y 0 = r.y 0 from by kernel_rfl).trans hr.2.2.2.1


noncomputable def gdI3_v_0 (s : SV) : Vars := (offR (apl [(.sint .i8 3)] (apl (fl s.x 2 8) (apl [(.sint .i8 (s.x.i 10))] (apl (fl s.x 11 14) (apl [(.sint .i8 (s.x.i 25))] (apl (fl s.x 26 14) (apl [(.sint .i8 (s.x.i 40))] (apl (fl s.x 41 14) (apl [(.sint .i8 (s.x.i 55))] (apl (fl s.x 56 14) (apl [(.sint .i8 (s.x.i 70))] (apl (fl s.x 71 14) (apl [(.sint .i8 (s.x.i 85))] (apl (fl s.x 86 14) (apl [(.sint .i8 (s.x.i 100))] (apl (fl s.x 101 14) (apl [(.sint .i8 (s.x.i 115))] (apl (fl s.x 116 32) ([(.sint .i16 (s.x.i 148)), (.flt .f32 ((s.y 0).u (padd (padd 0 (pmul (itn (s.x.i 0)) 8)) 0))), (.flt .f32 ((s.y 0).u (padd (padd 0 (pmul (itn (s.x.i 0)) 8)) 1))), (.flt .f32 ((s.y 0).u (padd (padd 0 (pmul (itn (s.x.i 0)) 8)) 2))), (.flt .f32 ((s.y 0).u (padd (padd 0 (pmul (itn (s.x.i 0)) 8)) 3))), (.flt .f32 ((s.y 0).u (padd (padd 0 (pmul (itn (s.x.i 0)) 8)) 4))), (.flt .f32 ((s.y 0).u (padd (padd 0 (pmul (itn (s.x.i 0)) 8)) 5))), (.flt .f32 ((s.y 0).u (padd (padd 0 (pmul (itn (s.x.i 0)) 8)) 6))), (.flt .f32 ((s.y 0).u (padd (padd 0 (pmul (itn (s.x.i 0)) 8)) 7)))]))))))))))))))))))))

noncomputable def gdI3G (s : SV) : Bool := (fcmp .leq .f32 ((gdI3_v_0 s).u 8) (s.x.u 146))

noncomputable def gdI3N (s : SV) : SV := (mkSV (apl [(.sint .i64 (iadd (s.x.i 0) 1)), (.sint .i64 (s.x.i 1))] (apl (fl s.x 2 8) (apl [(.sint .i8 (s.x.i 10))] (apl (fl s.x 11 14) (apl [(.sint .i8 (s.x.i 25))] (apl (fl s.x 26 14) (apl [(.sint .i8 (s.x.i 40))] (apl (fl s.x 41 14) (apl [(.sint .i8 (s.x.i 55))] (apl (fl s.x 56 14) (apl [(.sint .i8 (s.x.i 70))] (apl (fl s.x 71 14) (apl [(.sint .i8 (s.x.i 85))] (apl (fl s.x 86 14) (apl [(.sint .i8 (s.x.i 100))] (apl (fl s.x 101 14) (apl [(.sint .i8 (s.x.i 115))] (apl (fl s.x 116 32) ([(.sint .i16 (s.x.i 148))]))))))))))))))))))) [(s.len 0), (padd (s.len 1) 1)] [(s.n 0), 0, 0, (pmul (padd (s.len 1) 1) 1)] [(s.y 0), zeroV, zeroV, (pushV (s.y 3) 0 (pmul (s.len 1) 1) [(.sbool (gdI3G s))])])
noncomputable def gdI3E (s : SV) : SV := (mkSV [] [(s.len 1)] [(s.n 0), (s.n 3)] [(s.y 0), (s.y 3)])

noncomputable def gdI3T (s : SV) : Tr := .node [] (decide ((s.x.i 0) < (s.x.i 1))) (.next (gdI3N s) [((decide ((-(9223372036854775807 + 1)) ≤ (iadd (s.x.i 0) 1))) && (decide ((iadd (s.x.i 0) 1) ≤ 9223372036854775807))), (decide ((padd 0 (pmul (s.len 1) 1)) ≤ (s.n 3))), (decide ((padd (s.len 1) 1) ≤ 16777216)), true, true, (!(isNan .f32 (farith .sub .f32 (s.x.u 138) ((s.y 0).u (padd (padd 0 (pmul (itn (s.x.i 0)) 8)) 0))))), (!(isNan .f32 (farith .sub .f32 (s.x.u 139) ((s.y 0).u (padd (padd 0 (pmul (itn (s.x.i 0)) 8)) 1))))), (!(isNan .f32 (farith .sub .f32 (s.x.u 140) ((s.y 0).u (padd (padd 0 (pmul (itn (s.x.i 0)) 8)) 2))))), true, true, true, true, true, (decide ((padd (padd 0 (pmul (itn (s.x.i 0)) 8)) 8) ≤ (s.n 0))), (decide (0 ≤ (s.x.i 0))), (decide ((s.x.i 0) < (s.len 0)))]) (.out 0 (gdI3E s) [])

theorem gdI3_t (s : SV) : Go.Sim.stepT Try.prog GAasI (ntOf Try.prog 57) noLT true 1000 gdI3L (loopOf Try.prog 57 0) s = some (gdI3T s) := by kernel_rfl

def gdI3P (s : SV) : Prop := 0 ≤ s.x.i 0 ∧ s.x.i 0 ≤ s.len 0 ∧ s.len 0 ≤ 1048576 ∧ s.n 0 = 8 * s.len 0 ∧ s.x.i 1 = s.len 0 ∧ (s.len 1 : Int) = s.x.i 0 ∧ s.n 3 = s.len 1 ∧ (∀ j : Nat, j < s.len 0 → rowOk 3 (s.y 0) j = true) ∧ ∀ i, i < 8 → s.x.u (138 + i) % 2147483648 ≤ 1098907648

noncomputable def gdI3B (s : SV) : Bool := @decide (gdI3P s) (Classical.propDecidable _)
theorem gdI3B_of {s : SV} (h : gdI3B s = true) : gdI3P s := @of_decide_eq_true _ (Classical.propDecidable _) h
theorem gdI3B_to {s : SV} (h : gdI3P s) : gdI3B s = true := @decide_eq_true _ (Classical.propDecidable _) h

theorem gdI3N_k (s : SV) : (gdI3N s).x.i 0 = iadd (s.x.i 0) 1 ∧ (gdI3N s).x.i 1 = s.x.i 1 ∧ (gdI3N s).len 0 = s.len 0 ∧ (gdI3N s).len 1 = padd (s.len 1) 1 ∧ (gdI3N s).n 0 = s.n 0 ∧ (gdI3N s).n 3 = pmul (padd (s.len 1) 1) 1 ∧ (gdI3N s).y 0 = s.y 0 ∧ (gdI3N s).y 3 = pushV (s.y 3) 0 (pmul (s.len 1) 1) [.sbool (gdI3G s)] ∧ (gdI3N s).x.u 146 = s.x.u 146 ∧ (gdI3N s).x.u (138 + 0) = s.x.u (138 + 0) ∧ (gdI3N s).x.u (138 + 1) = s.x.u (138 + 1) ∧ (gdI3N s).x.u (138 + 2) = s.x.u (138 + 2) ∧ (gdI3N s).x.u (138 + 3) = s.x.u (138 + 3) ∧ (gdI3N s).x.u (138 + 4) = s.x.u (138 + 4) ∧ (gdI3N s).x.u (138 + 5) = s.x.u (138 + 5) ∧ (gdI3N s).x.u (138 + 6) = s.x.u (138 + 6) ∧ (gdI3N s).x.u (138 + 7) = s.x.u (138 + 7) := ⟨by kernel_rfl, by kernel_rfl, by kernel_rfl, by kernel_rfl, by kernel_rfl, by kernel_rfl, by kernel_rfl, by kernel_rfl, by kernel_rfl, by kernel_rfl, by kernel_rfl, by kernel_rfl, by kernel_rfl, by kernel_rfl, by kernel_rfl, by kernel_rfl, by kernel_rfl⟩

def gdI3Mu (s : SV) : Nat := ((s.len 0 : Int) - s.x.i 0).toNat

theorem gdI3_go (s : SV) (hp : ∀ b ∈ [gdI3B s], b = true) :
    (gdI3T s).ok ∧ (∀ k s', (gdI3T s).pick = .out k s' → k < 1) ∧ ∀ s', (gdI3T s).pick = .next s' → (∀ b ∈ [gdI3B s'], b = true) ∧ gdI3Mu s' < gdI3Mu s := by
  have hP := gdI3B_of (hp _ (List.mem_cons_self ..))
  have hP' := hP
  obtain ⟨i1, i2, i3, i4, i5, i6, i7, i8, i9⟩ := hP
  cases hc : (decide ((s.x.i 0) < (s.x.i 1))) with
  | false =>
    have hk : (gdI3T s).pick = .out 0 (gdI3E s) := by unfold gdI3T; rw [hc]; rfl
    refine ⟨?_, fun k s' h => ?_, fun s' h => ?_⟩
    · unfold gdI3T
      exact ⟨allN, (fun h => by rw [hc] at h; cases h), (fun _ b hb => by cases hb)⟩
    · rw [hk] at h; cases h; decide
    · rw [hk] at h; cases h
  | true =>
    have hlt := of_decide_eq_true hc
    (try unfold ofN at hlt)
    have ro := i8 (s.x.i 0).toNat (by omega)
    have nan0 : isNan .f32 (farith .sub .f32 (s.x.u 138) ((s.y 0).u (padd (padd 0 (pmul (itn (s.x.i 0)) 8)) 0))) = false := by
      rw [idxI]
      exact sub_num (Nat.lt_of_le_of_lt (i9 0 (by decide)) (by decide)) (isFilm_in (rowOk_get ro (show 0 < 3 by decide))).1
    have nan1 : isNan .f32 (farith .sub .f32 (s.x.u 139) ((s.y 0).u (padd (padd 0 (pmul (itn (s.x.i 0)) 8)) 1))) = false := by
      rw [idxI]
      exact sub_num (Nat.lt_of_le_of_lt (i9 1 (by decide)) (by decide)) (isFilm_in (rowOk_get ro (show 1 < 3 by decide))).1
    have nan2 : isNan .f32 (farith .sub .f32 (s.x.u 140) ((s.y 0).u (padd (padd 0 (pmul (itn (s.x.i 0)) 8)) 2))) = false := by
      rw [idxI]
      exact sub_num (Nat.lt_of_le_of_lt (i9 2 (by decide)) (by decide)) (isFilm_in (rowOk_get ro (show 2 < 3 by decide))).1
    have hk : (gdI3T s).pick = .next (gdI3N s) := by unfold gdI3T; rw [hc]; rfl
    refine ⟨?_, fun k s' h => ?_, fun s' h => ?_⟩
    · unfold gdI3T
      exact ⟨allN, (fun _ => (allC (andT (decide_eq_true (by unfold iadd; omega)) (decide_eq_true (by unfold iadd; omega))) (allC (decide_eq_true (by unfold padd pmul; omega)) (allC (decide_eq_true (by unfold padd; omega)) (allC rfl (allC rfl (allC (notT nan0) (allC (notT nan1) (allC (notT nan2) (allC rfl (allC rfl (allC rfl (allC rfl (allC rfl (allC (decide_eq_true (by unfold padd pmul itn; omega)) (allC (decide_eq_true (by omega)) (allC (decide_eq_true (by omega)) allN))))))))))))))))), (fun h => by rw [hc] at h; cases h)⟩
    · rw [hk] at h; cases h
    · rw [hk] at h
      cases h
      refine ⟨fun b hb => ?_, ?_⟩
      · rw [List.mem_singleton.1 hb]
        refine gdI3B_to ?_
        obtain ⟨e0, e1, l0, l1, n0, n3, y0, _, _, u0, u1, u2, u3, u4, u5, u6, u7⟩ := gdI3N_k s
        unfold iadd at e0
        unfold padd at l1
        unfold pmul padd at n3
        refine ⟨by omega, by omega, by omega, by omega, by omega, by omega, by omega, ?_, ?_⟩
        · rw [y0, l0]
          exact i8
        · intro i hi
          rw [eightI (P := fun i => (gdI3N s).x.u (138 + i) = s.x.u (138 + i)) u0 u1 u2 u3 u4 u5 u6 u7 i hi]
          exact i9 i hi
      · obtain ⟨e0, e1, l0, _⟩ := gdI3N_k s
        unfold iadd at e0
        unfold gdI3Mu
        omega

noncomputable def gdI3F0 (s : SV) : Nat × SV := Go.Sim.runT gdI3T (gdI3Mu s + 1) s

noncomputable def gdI3F : SV → Nat × SV := Classical.choose (⟨gdI3F0, rfl⟩ : ∃ f, f = gdI3F0)

theorem gdI3F_eq : gdI3F = gdI3F0 := Classical.choose_spec (⟨gdI3F0, rfl⟩ : ∃ f, f = gdI3F0)

noncomputable def gdI3Pre (s : SV) : List Bool := [gdI3B s]

noncomputable def HgdI3 : LTab := hookL 0 gdI3L gdI3Pre gdI3F noLT

theorem HgdI3_ok : HFun Try.prog 1 HgdI3 57 := by
  unfold HgdI3
  rw [gdI3F_eq]
  exact HFun.loop GAasI_ok mixed (J := true) (n := 1000) (L := gdI3L) (T := gdI3T) (pre := gdI3Pre) (μ := gdI3Mu) (HFun.none Try.prog 1 57) (by kernel_rfl) (by decide) (by decide) gdI3_t gdI3_go

def gdI3Ls (s : SV) : List AV := (apl [(.sint .i8 3)] (apl (fl s.x 2 8) (apl [(.sint .i8 (s.x.i 10))] (apl (fl s.x 11 14) (apl [(.sint .i8 (s.x.i 25))] (apl (fl s.x 26 14) (apl [(.sint .i8 (s.x.i 40))] (apl (fl s.x 41 14) (apl [(.sint .i8 (s.x.i 55))] (apl (fl s.x 56 14) (apl [(.sint .i8 (s.x.i 70))] (apl (fl s.x 71 14) (apl [(.sint .i8 (s.x.i 85))] (apl (fl s.x 86 14) (apl [(.sint .i8 (s.x.i 100))] (apl (fl s.x 101 14) (apl [(.sint .i8 (s.x.i 115))] (apl (fl s.x 116 32) ([(.sint .i16 (s.x.i 148)), (.flt .f32 ((s.y 0).u (padd (padd 0 (pmul (itn (s.x.i 0)) 8)) 0))), (.flt .f32 ((s.y 0).u (padd (padd 0 (pmul (itn (s.x.i 0)) 8)) 1))), (.flt .f32 ((s.y 0).u (padd (padd 0 (pmul (itn (s.x.i 0)) 8)) 2))), (.flt .f32 ((s.y 0).u (padd (padd 0 (pmul (itn (s.x.i 0)) 8)) 3))), (.flt .f32 ((s.y 0).u (padd (padd 0 (pmul (itn (s.x.i 0)) 8)) 4))), (.flt .f32 ((s.y 0).u (padd (padd 0 (pmul (itn (s.x.i 0)) 8)) 5))), (.flt .f32 ((s.y 0).u (padd (padd 0 (pmul (itn (s.x.i 0)) 8)) 6))), (.flt .f32 ((s.y 0).u (padd (padd 0 (pmul (itn (s.x.i 0)) 8)) 7)))])))))))))))))))))))

theorem gdI3G_eq (s : SV) (hlt : s.x.i 0 < s.len 0) (hP : gdI3P s) : gdI3G s = goodF 3 (fun i => s.x.u (138 + i)) (s.x.u 146) (s.y 0) (s.x.i 0).toNat := by
  obtain ⟨i1, i2, i3, i4, i5, i6, i7, i8, i9⟩ := hP
  have ro := i8 (s.x.i 0).toNat (by omega)
  have nan0 : isNan .f32 (farith .sub .f32 (s.x.u 138) ((s.y 0).u (padd (padd 0 (pmul (itn (s.x.i 0)) 8)) 0))) = false := by
    rw [idxI]
    exact sub_num (Nat.lt_of_le_of_lt (i9 0 (by decide)) (by decide)) (isFilm_in (rowOk_get ro (show 0 < 3 by decide))).1
  have nan1 : isNan .f32 (farith .sub .f32 (s.x.u 139) ((s.y 0).u (padd (padd 0 (pmul (itn (s.x.i 0)) 8)) 1))) = false := by
    rw [idxI]
    exact sub_num (Nat.lt_of_le_of_lt (i9 1 (by decide)) (by decide)) (isFilm_in (rowOk_get ro (show 1 < 3 by decide))).1
  have nan2 : isNan .f32 (farith .sub .f32 (s.x.u 140) ((s.y 0).u (padd (padd 0 (pmul (itn (s.x.i 0)) 8)) 2))) = false := by
    rw [idxI]
    exact sub_num (Nat.lt_of_le_of_lt (i9 2 (by decide)) (by decide)) (isFilm_in (rowOk_get ro (show 2 < 3 by decide))).1
  have e1 : (gdI3_v_0 s).u 8 = off_m2 (varsOf (gdI3Ls s)) := by
    show (offR (gdI3Ls s)).u 8 = _
    rw [offR_eq]
    kernel_rfl
  have e2 := (off_b2 (varsOf (gdI3Ls s)) ((show isNan .f32 (farith .sub .f32 ((varsOf (gdI3Ls s)).u 137) ((varsOf (gdI3Ls s)).u 148)) = isNan .f32 (farith .sub .f32 (s.x.u 138) ((s.y 0).u (padd (padd 0 (pmul (itn (s.x.i 0)) 8)) 0))) from by kernel_rfl).trans nan0) ((show isNan .f32 (farith .sub .f32 ((varsOf (gdI3Ls s)).u 138) ((varsOf (gdI3Ls s)).u 149)) = isNan .f32 (farith .sub .f32 (s.x.u 139) ((s.y 0).u (padd (padd 0 (pmul (itn (s.x.i 0)) 8)) 1))) from by kernel_rfl).trans nan1) ((show isNan .f32 (farith .sub .f32 ((varsOf (gdI3Ls s)).u 139) ((varsOf (gdI3Ls s)).u 150)) = isNan .f32 (farith .sub .f32 (s.x.u 140) ((s.y 0).u (padd (padd 0 (pmul (itn (s.x.i 0)) 8)) 2))) from by kernel_rfl).trans nan2)).1
  have e3 : off_r2 (varsOf (gdI3Ls s)) = gM (fun i => szD (s.x.u (138 + i)) ((s.y 0).u (padd (padd 0 (pmul (itn (s.x.i 0)) 8)) i))) 3 := by kernel_rfl
  unfold gdI3G goodF
  rw [e1, e2, e3]
  rw [gM_congr (z := 3) (f := fun i => szD (s.x.u (138 + i)) ((s.y 0).u (padd (padd 0 (pmul (itn (s.x.i 0)) 8)) i))) (g := fun i => szD (s.x.u (138 + i)) ((s.y 0).u (8 * (s.x.i 0).toNat + i))) fun i _ => by rw [idxI]]

theorem gdI3_yes (s : SV) (hP : gdI3P s) (h0 : s.x.i 0 = 0) (hl : s.len 1 = 0) :
    (gdI3F s).1 = 0 ∧ (gdI3F s).2.len 0 = s.len 0 ∧ (∀ j, j < s.len 0 → ((gdI3F s).2.y 1).b j = goodF 3 (fun i => s.x.u (138 + i)) (s.x.u 146) (s.y 0) j) ∧ (gdI3F s).2.n 1 = s.len 0 ∧ (gdI3F s).2.n 0 = s.n 0 ∧ (gdI3F s).2.y 0 = s.y 0 := by
  rw [gdI3F_eq]
  let P : SV → Prop := fun r => gdI3P r ∧ r.len 0 = s.len 0 ∧ r.n 0 = s.n 0 ∧ r.y 0 = s.y 0 ∧ r.x.u 146 = s.x.u 146 ∧ ∀ i, i < 8 → r.x.u (138 + i) = s.x.u (138 + i)
  have k1 : ∀ r, P r → r.x.i 0 < s.len 0 → (gdI3T r).pick = .next (gdI3N r) := fun r hr hlt => by
    have h5 := hr.1.2.2.2.2.1
    unfold gdI3T
    rw [decide_eq_true (show r.x.i 0 < r.x.i 1 by have := hr.2.1; omega)]
    rfl
  have k2 : ∀ r, P r → r.x.i 0 < s.len 0 → (gdI3N r).x.i 0 = r.x.i 0 + 1 ∧ (gdI3N r).len 1 = r.len 1 + 1 ∧ (gdI3N r).y 3 = pushV (r.y 3) 0 (pmul (r.len 1) 1) [.sbool (goodF 3 (fun i => s.x.u (138 + i)) (s.x.u 146) (s.y 0) (r.x.i 0).toNat)] ∧ P (gdI3N r) := fun r hr hlt => by
    have hpk := k1 r hr hlt
    obtain ⟨hr1, q0, qn, q1, q2, q3⟩ := hr
    obtain ⟨e0, e1, l0, l1, n0, n3, y0, y3, w0, u0, u1, u2, u3, u4, u5, u6, u7⟩ := gdI3N_k r
    rw [gdI3G_eq r (by omega) hr1, q1, q2] at y3
    have eg : goodF 3 (fun i => r.x.u (138 + i)) (s.x.u 146) (s.y 0) (r.x.i 0).toNat = goodF 3 (fun i => s.x.u (138 + i)) (s.x.u 146) (s.y 0) (r.x.i 0).toNat := by
      unfold goodF
      rw [gM_congr (z := 3) (f := fun i => szD (r.x.u (138 + i)) ((s.y 0).u (8 * (r.x.i 0).toNat + i))) (g := fun i => szD (s.x.u (138 + i)) ((s.y 0).u (8 * (r.x.i 0).toNat + i))) fun i hi => by rw [q3 i (by omega)]]
    rw [eg] at y3
    have hB : gdI3B (gdI3N r) = true := ((gdI3_go r (allC (gdI3B_to hr1) allN)).2.2 _ hpk).1 _ (List.mem_cons_self ..)
    exact ⟨e0, l1, y3, gdI3B_of hB, l0.trans q0, n0.trans qn, y0.trans q1, w0.trans q2, fun i hi => (eightI (P := fun i => (gdI3N r).x.u (138 + i) = r.x.u (138 + i)) u0 u1 u2 u3 u4 u5 u6 u7 i hi).trans (q3 i hi)⟩
  have k3 : ∀ r, P r → ¬ r.x.i 0 < s.len 0 → (gdI3T r).pick = .out 0 (gdI3E r) ∧ (gdI3E r).len 0 = r.len 1 ∧ (gdI3E r).y 1 = r.y 3 := fun r hr hlt => by
    have h5 := hr.1.2.2.2.2.1
    refine ⟨?_, by kernel_rfl, by kernel_rfl⟩
    unfold gdI3T
    rw [decide_eq_false (show ¬ r.x.i 0 < r.x.i 1 by have := hr.2.1; omega)]
    rfl
  obtain ⟨a, b, c, r, hr, e, el⟩ := gd_run (T := gdI3T) (N := gdI3N) (E := gdI3E) P (goodF 3 (fun i => s.x.u (138 + i)) (s.x.u 146) (s.y 0)) (s.len 0) k1 k2 k3 (gdI3Mu s + 1) s ⟨hP, rfl, rfl, rfl, rfl, fun _ _ => rfl⟩ (by omega) (by omega) (by omega) (Nat.lt_succ_self _) (fun j hj => by omega)
  refine ⟨a, b, c, ?_, ?_, ?_⟩
  · show (Go.Sim.runT gdI3T (gdI3Mu s + 1) s).2.n 1 = _
    rw [e]
    have h7 := hr.1.2.2.2.2.2.2.1
    exact (show (gdI3E r).n 1 = r.n 3 from by kernel_rfl).trans (h7.trans el)
  · show (Go.Sim.runT gdI3T (gdI3Mu s + 1) s).2.n 0 = _
    rw [e]
    exact (show (gdI3E r).n 0 = r.n 0 from by kernel_rfl).trans hr.2.2.1
  · show (Go.Sim.runT gdI3T (gdI3Mu s + 1) s).2.y 0 = _
    rw [e]
    exact (show (gdI3E r).y 0 = r.y 0 from by kernel_rfl).trans hr.2.2.2.1


noncomputable def gdI4_v_0 (s : SV) : Vars := (offR (apl [(.sint .i8 4)] (apl (fl s.x 2 8) (apl [(.sint .i8 (s.x.i 10))] (apl (fl s.x 11 14) (apl [(.sint .i8 (s.x.i 25))] (apl (fl s.x 26 14) (apl [(.sint .i8 (s.x.i 40))] (apl (fl s.x 41 14) (apl [(.sint .i8 (s.x.i 55))] (apl (fl s.x 56 14) (apl [(.sint .i8 (s.x.i 70))] (apl (fl s.x 71 14) (apl [(.sint .i8 (s.x.i 85))] (apl (fl s.x 86 14) (apl [(.sint .i8 (s.x.i 100))] (apl (fl s.x 101 14) (apl [(.sint .i8 (s.x.i 115))] (apl (fl s.x 116 32) ([(.sint .i16 (s.x.i 148)), (.flt .f32 ((s.y 0).u (padd (padd 0 (pmul (itn (s.x.i 0)) 8)) 0))), (.flt .f32 ((s.y 0).u (padd (padd 0 (pmul (itn (s.x.i 0)) 8)) 1))), (.flt .f32 ((s.y 0).u (padd (padd 0 (pmul (itn (s.x.i 0)) 8)) 2))), (.flt .f32 ((s.y 0).u (padd (padd 0 (pmul (itn (s.x.i 0)) 8)) 3))), (.flt .f32 ((s.y 0).u (padd (padd 0 (pmul (itn (s.x.i 0)) 8)) 4))), (.flt .f32 ((s.y 0).u (padd (padd 0 (pmul (itn (s.x.i 0)) 8)) 5))), (.flt .f32 ((s.y 0).u (padd (padd 0 (pmul (itn (s.x.i 0)) 8)) 6))), (.flt .f32 ((s.y 0).u (padd (padd 0 (pmul (itn (s.x.i 0)) 8)) 7)))]))))))))))))))))))))

noncomputable def gdI4G (s : SV) : Bool := (fcmp .leq .f32 ((gdI4_v_0 s).u 8) (s.x.u 146))

noncomputable def gdI4N (s : SV) : SV := (mkSV (apl [(.sint .i64 (iadd (s.x.i 0) 1)), (.sint .i64 (s.x.i 1))] (apl (fl s.x 2 8) (apl [(.sint .i8 (s.x.i 10))] (apl (fl s.x 11 14) (apl [(.sint .i8 (s.x.i 25))] (apl (fl s.x 26 14) (apl [(.sint .i8 (s.x.i 40))] (apl (fl s.x 41 14) (apl [(.sint .i8 (s.x.i 55))] (apl (fl s.x 56 14) (apl [(.sint .i8 (s.x.i 70))] (apl (fl s.x 71 14) (apl [(.sint .i8 (s.x.i 85))] (apl (fl s.x 86 14) (apl [(.sint .i8 (s.x.i 100))] (apl (fl s.x 101 14) (apl [(.sint .i8 (s.x.i 115))] (apl (fl s.x 116 32) ([(.sint .i16 (s.x.i 148))]))))))))))))))))))) [(s.len 0), (padd (s.len 1) 1)] [(s.n 0), 0, 0, (pmul (padd (s.len 1) 1) 1)] [(s.y 0), zeroV, zeroV, (pushV (s.y 3) 0 (pmul (s.len 1) 1) [(.sbool (gdI4G s))])])
noncomputable def gdI4E (s : SV) : SV := (mkSV [] [(s.len 1)] [(s.n 0), (s.n 3)] [(s.y 0), (s.y 3)])

noncomputable def gdI4T (s : SV) : Tr := .node [] (decide ((s.x.i 0) < (s.x.i 1))) (.next (gdI4N s) [((decide ((-(9223372036854775807 + 1)) ≤ (iadd (s.x.i 0) 1))) && (decide ((iadd (s.x.i 0) 1) ≤ 9223372036854775807))), (decide ((padd 0 (pmul (s.len 1) 1)) ≤ (s.n 3))), (decide ((padd (s.len 1) 1) ≤ 16777216)), true, true, (!(isNan .f32 (farith .sub .f32 (s.x.u 138) ((s.y 0).u (padd (padd 0 (pmul (itn (s.x.i 0)) 8)) 0))))), (!(isNan .f32 (farith .sub .f32 (s.x.u 139) ((s.y 0).u (padd (padd 0 (pmul (itn (s.x.i 0)) 8)) 1))))), (!(isNan .f32 (farith .sub .f32 (s.x.u 140) ((s.y 0).u (padd (padd 0 (pmul (itn (s.x.i 0)) 8)) 2))))), (!(isNan .f32 (farith .sub .f32 (s.x.u 141) ((s.y 0).u (padd (padd 0 (pmul (itn (s.x.i 0)) 8)) 3))))), true, true, true, true, (decide ((padd (padd 0 (pmul (itn (s.x.i 0)) 8)) 8) ≤ (s.n 0))), (decide (0 ≤ (s.x.i 0))), (decide ((s.x.i 0) < (s.len 0)))]) (.out 0 (gdI4E s) [])

theorem gdI4_t (s : SV) : Go.Sim.stepT Try.prog GAasI (ntOf Try.prog 57) noLT true 1000 gdI4L (loopOf Try.prog 57 0) s = some (gdI4T s) := by kernel_rfl

def gdI4P (s : SV) : Prop := 0 ≤ s.x.i 0 ∧ s.x.i 0 ≤ s.len 0 ∧ s.len 0 ≤ 1048576 ∧ s.n 0 = 8 * s.len 0 ∧ s.x.i 1 = s.len 0 ∧ (s.len 1 : Int) = s.x.i 0 ∧ s.n 3 = s.len 1 ∧ (∀ j : Nat, j < s.len 0 → rowOk 4 (s.y 0) j = true) ∧ ∀ i, i < 8 → s.x.u (138 + i) % 2147483648 ≤ 1098907648

noncomputable def gdI4B (s : SV) : Bool := @decide (gdI4P s) (Classical.propDecidable _)
theorem gdI4B_of {s : SV} (h : gdI4B s = true) : gdI4P s := @of_decide_eq_true _ (Classical.propDecidable _) h
theorem gdI4B_to {s : SV} (h : gdI4P s) : gdI4B s = true := @decide_eq_true _ (Classical.propDecidable _) h

theorem gdI4N_k (s : SV) : (gdI4N s).x.i 0 = iadd (s.x.i 0) 1 ∧ (gdI4N s).x.i 1 = s.x.i 1 ∧ (gdI4N s).len 0 = s.len 0 ∧ (gdI4N s).len 1 = padd (s.len 1) 1 ∧ (gdI4N s).n 0 = s.n 0 ∧ (gdI4N s).n 3 = pmul (padd (s.len 1) 1) 1 ∧ (gdI4N s).y 0 = s.y 0 ∧ (gdI4N s).y 3 = pushV (s.y 3) 0 (pmul (s.len 1) 1) [.sbool (gdI4G s)] ∧ (gdI4N s).x.u 146 = s.x.u 146 ∧ (gdI4N s).x.u (138 + 0) = s.x.u (138 + 0) ∧ (gdI4N s).x.u (138 + 1) = s.x.u (138 + 1) ∧ (gdI4N s).x.u (138 + 2) = s.x.u (138 + 2) ∧ (gdI4N s).x.u (138 + 3) = s.x.u (138 + 3) ∧ (gdI4N s).x.u (138 + 4) = s.x.u (138 + 4) ∧ (gdI4N s).x.u (138 + 5) = s.x.u (138 + 5) ∧ (gdI4N s).x.u (138 + 6) = s.x.u (138 + 6) ∧ (gdI4N s).x.u (138 + 7) = s.x.u (138 + 7) := ⟨by kernel_rfl, by kernel_rfl, by kernel_rfl, by kernel_rfl, by kernel_rfl, by kernel_rfl, by kernel_rfl, by kernel_rfl, by kernel_rfl, by kernel_rfl, by kernel_rfl, by kernel_rfl, by kernel_rfl, by kernel_rfl, by kernel_rfl, by kernel_rfl, by kernel_rfl⟩

def gdI4Mu (s : SV) : Nat := ((s.len 0 : Int) - s.x.i 0).toNat

theorem gdI4_go (s : SV) (hp : ∀ b ∈ [gdI4B s], b = true) :
    (gdI4T s).ok ∧ (∀ k s', (gdI4T s).pick = .out k s' → k < 1) ∧ ∀ s', (gdI4T s).pick = .next s' → (∀ b ∈ [gdI4B s'], b = true) ∧ gdI4Mu s' < gdI4Mu s := by
  have hP := gdI4B_of (hp _ (List.mem_cons_self ..))
  have hP' := hP
  obtain ⟨i1, i2, i3, i4, i5, i6, i7, i8, i9⟩ := hP
  cases hc : (decide ((s.x.i 0) < (s.x.i 1))) with
  | false =>
    have hk : (gdI4T s).pick = .out 0 (gdI4E s) := by unfold gdI4T; rw [hc]; rfl
    refine ⟨?_, fun k s' h => ?_, fun s' h => ?_⟩
    · unfold gdI4T
      exact ⟨allN, (fun h => by rw [hc] at h; cases h), (fun _ b hb => by cases hb)⟩
    · rw [hk] at h; cases h; decide
    · rw [hk] at h; cases h
  | true =>
    have hlt := of_decide_eq_true hc
    (try unfold ofN at hlt)
    have ro := i8 (s.x.i 0).toNat (by omega)
    have nan0 : isNan .f32 (farith .sub .f32 (s.x.u 138) ((s.y 0).u (padd (padd 0 (pmul (itn (s.x.i 0)) 8)) 0))) = false := by
      rw [idxI]
      exact sub_num (Nat.lt_of_le_of_lt (i9 0 (by decide)) (by decide)) (isFilm_in (rowOk_get ro (show 0 < 4 by decide))).1
    have nan1 : isNan .f32 (farith .sub .f32 (s.x.u 139) ((s.y 0).u (padd (padd 0 (pmul (itn (s.x.i 0)) 8)) 1))) = false := by
      rw [idxI]
      exact sub_num (Nat.lt_of_le_of_lt (i9 1 (by decide)) (by decide)) (isFilm_in (rowOk_get ro (show 1 < 4 by decide))).1
    have nan2 : isNan .f32 (farith .sub .f32 (s.x.u 140) ((s.y 0).u (padd (padd 0 (pmul (itn (s.x.i 0)) 8)) 2))) = false := by
      rw [idxI]
      exact sub_num (Nat.lt_of_le_of_lt (i9 2 (by decide)) (by decide)) (isFilm_in (rowOk_get ro (show 2 < 4 by decide))).1
    have nan3 : isNan .f32 (farith .sub .f32 (s.x.u 141) ((s.y 0).u (padd (padd 0 (pmul (itn (s.x.i 0)) 8)) 3))) = false := by
      rw [idxI]
      exact sub_num (Nat.lt_of_le_of_lt (i9 3 (by decide)) (by decide)) (isFilm_in (rowOk_get ro (show 3 < 4 by decide))).1
    have hk : (gdI4T s).pick = .next (gdI4N s) := by unfold gdI4T; rw [hc]; rfl
    refine ⟨?_, fun k s' h => ?_, fun s' h => ?_⟩
    · unfold gdI4T
      exact ⟨allN, (fun _ => (allC (andT (decide_eq_true (by unfold iadd; omega)) (decide_eq_true (by unfold iadd; omega))) (allC (decide_eq_true (by unfold padd pmul; omega)) (allC (decide_eq_true (by unfold padd; omega)) (allC rfl (allC rfl (allC (notT nan0) (allC (notT nan1) (allC (notT nan2) (allC (notT nan3) (allC rfl (allC rfl (allC rfl (allC rfl (allC (decide_eq_true (by unfold padd pmul itn; omega)) (allC (decide_eq_true (by omega)) (allC (decide_eq_true (by omega)) allN))))))))))))))))), (fun h => by rw [hc] at h; cases h)⟩
    · rw [hk] at h; cases h
    · rw [hk] at h
      cases h
      refine ⟨fun b hb => ?_, ?_⟩
      · rw [List.mem_singleton.1 hb]
        refine gdI4B_to ?_
        obtain ⟨e0, e1, l0, l1, n0, n3, y0, _, _, u0, u1, u2, u3, u4, u5, u6, u7⟩ := gdI4N_k s
        unfold iadd at e0
        unfold padd at l1
        unfold pmul padd at n3
        refine ⟨by omega, by omega, by omega, by omega, by omega, by omega, by omega, ?_, ?_⟩
        · rw [y0, l0]
          exact i8
        · intro i hi
          rw [eightI (P := fun i => (gdI4N s).x.u (138 + i) = s.x.u (138 + i)) u0 u1 u2 u3 u4 u5 u6 u7 i hi]
          exact i9 i hi
      · obtain ⟨e0, e1, l0, _⟩ := gdI4N_k s
        unfold iadd at e0
        unfold gdI4Mu
        omega

noncomputable def gdI4F0 (s : SV) : Nat × SV := Go.Sim.runT gdI4T (gdI4Mu s + 1) s

noncomputable def gdI4F : SV → Nat × SV := Classical.choose (⟨gdI4F0, rfl⟩ : ∃ f, f = gdI4F0)

theorem gdI4F_eq : gdI4F = gdI4F0 := Classical.choose_spec (⟨gdI4F0, rfl⟩ : ∃ f, f = gdI4F0)

noncomputable def gdI4Pre (s : SV) : List Bool := [gdI4B s]

noncomputable def HgdI4 : LTab := hookL 0 gdI4L gdI4Pre gdI4F noLT

theorem HgdI4_ok : HFun Try.prog 1 HgdI4 57 := by
  unfold HgdI4
  rw [gdI4F_eq]
  exact HFun.loop GAasI_ok mixed (J := true) (n := 1000) (L := gdI4L) (T := gdI4T) (pre := gdI4Pre) (μ := gdI4Mu) (HFun.none Try.prog 1 57) (by kernel_rfl) (by decide) (by decide) gdI4_t gdI4_go

def gdI4Ls (s : SV) : List AV := (apl [(.sint .i8 4)] (apl (fl s.x 2 8) (apl [(.sint .i8 (s.x.i 10))] (apl (fl s.x 11 14) (apl [(.sint .i8 (s.x.i 25))] (apl (fl s.x 26 14) (apl [(.sint .i8 (s.x.i 40))] (apl (fl s.x 41 14) (apl [(.sint .i8 (s.x.i 55))] (apl (fl s.x 56 14) (apl [(.sint .i8 (s.x.i 70))] (apl (fl s.x 71 14) (apl [(.sint .i8 (s.x.i 85))] (apl (fl s.x 86 14) (apl [(.sint .i8 (s.x.i 100))] (apl (fl s.x 101 14) (apl [(.sint .i8 (s.x.i 115))] (apl (fl s.x 116 32) ([(.sint .i16 (s.x.i 148)), (.flt .f32 ((s.y 0).u (padd (padd 0 (pmul (itn (s.x.i 0)) 8)) 0))), (.flt .f32 ((s.y 0).u (padd (padd 0 (pmul (itn (s.x.i 0)) 8)) 1))), (.flt .f32 ((s.y 0).u (padd (padd 0 (pmul (itn (s.x.i 0)) 8)) 2))), (.flt .f32 ((s.y 0).u (padd (padd 0 (pmul (itn (s.x.i 0)) 8)) 3))), (.flt .f32 ((s.y 0).u (padd (padd 0 (pmul (itn (s.x.i 0)) 8)) 4))), (.flt .f32 ((s.y 0).u (padd (padd 0 (pmul (itn (s.x.i 0)) 8)) 5))), (.flt .f32 ((s.y 0).u (padd (padd 0 (pmul (itn (s.x.i 0)) 8)) 6))), (.flt .f32 ((s.y 0).u (padd (padd 0 (pmul (itn (s.x.i 0)) 8)) 7)))])))))))))))))))))))

theorem gdI4G_eq (s : SV) (hlt : s.x.i 0 < s.len 0) (hP : gdI4P s) : gdI4G s = goodF 4 (fun i => s.x.u (138 + i)) (s.x.u 146) (s.y 0) (s.x.i 0).toNat := by
  obtain ⟨i1, i2, i3, i4, i5, i6, i7, i8, i9⟩ := hP
  have ro := i8 (s.x.i 0).toNat (by omega)
  have nan0 : isNan .f32 (farith .sub .f32 (s.x.u 138) ((s.y 0).u (padd (padd 0 (pmul (itn (s.x.i 0)) 8)) 0))) = false := by
    rw [idxI]
    exact sub_num (Nat.lt_of_le_of_lt (i9 0 (by decide)) (by decide)) (isFilm_in (rowOk_get ro (show 0 < 4 by decide))).1
  have nan1 : isNan .f32 (farith .sub .f32 (s.x.u 139) ((s.y 0).u (padd (padd 0 (pmul (itn (s.x.i 0)) 8)) 1))) = false := by
    rw [idxI]
    exact sub_num (Nat.lt_of_le_of_lt (i9 1 (by decide)) (by decide)) (isFilm_in (rowOk_get ro (show 1 < 4 by decide))).1
  have nan2 : isNan .f32 (farith .sub .f32 (s.x.u 140) ((s.y 0).u (padd (padd 0 (pmul (itn (s.x.i 0)) 8)) 2))) = false := by
    rw [idxI]
    exact sub_num (Nat.lt_of_le_of_lt (i9 2 (by decide)) (by decide)) (isFilm_in (rowOk_get ro (show 2 < 4 by decide))).1
  have nan3 : isNan .f32 (farith .sub .f32 (s.x.u 141) ((s.y 0).u (padd (padd 0 (pmul (itn (s.x.i 0)) 8)) 3))) = false := by
    rw [idxI]
    exact sub_num (Nat.lt_of_le_of_lt (i9 3 (by decide)) (by decide)) (isFilm_in (rowOk_get ro (show 3 < 4 by decide))).1
  have e1 : (gdI4_v_0 s).u 8 = off_m3 (varsOf (gdI4Ls s)) := by
    show (offR (gdI4Ls s)).u 8 = _
    rw [offR_eq]
    kernel_rfl
  have e2 := (off_b3 (varsOf (gdI4Ls s)) ((show isNan .f32 (farith .sub .f32 ((varsOf (gdI4Ls s)).u 137) ((varsOf (gdI4Ls s)).u 148)) = isNan .f32 (farith .sub .f32 (s.x.u 138) ((s.y 0).u (padd (padd 0 (pmul (itn (s.x.i 0)) 8)) 0))) from by kernel_rfl).trans nan0) ((show isNan .f32 (farith .sub .f32 ((varsOf (gdI4Ls s)).u 138) ((varsOf (gdI4Ls s)).u 149)) = isNan .f32 (farith .sub .f32 (s.x.u 139) ((s.y 0).u (padd (padd 0 (pmul (itn (s.x.i 0)) 8)) 1))) from by kernel_rfl).trans nan1) ((show isNan .f32 (farith .sub .f32 ((varsOf (gdI4Ls s)).u 139) ((varsOf (gdI4Ls s)).u 150)) = isNan .f32 (farith .sub .f32 (s.x.u 140) ((s.y 0).u (padd (padd 0 (pmul (itn (s.x.i 0)) 8)) 2))) from by kernel_rfl).trans nan2) ((show isNan .f32 (farith .sub .f32 ((varsOf (gdI4Ls s)).u 140) ((varsOf (gdI4Ls s)).u 151)) = isNan .f32 (farith .sub .f32 (s.x.u 141) ((s.y 0).u (padd (padd 0 (pmul (itn (s.x.i 0)) 8)) 3))) from by kernel_rfl).trans nan3)).1
  have e3 : off_r3 (varsOf (gdI4Ls s)) = gM (fun i => szD (s.x.u (138 + i)) ((s.y 0).u (padd (padd 0 (pmul (itn (s.x.i 0)) 8)) i))) 4 := by kernel_rfl
  unfold gdI4G goodF
  rw [e1, e2, e3]
  rw [gM_congr (z := 4) (f := fun i => szD (s.x.u (138 + i)) ((s.y 0).u (padd (padd 0 (pmul (itn (s.x.i 0)) 8)) i))) (g := fun i => szD (s.x.u (138 + i)) ((s.y 0).u (8 * (s.x.i 0).toNat + i))) fun i _ => by rw [idxI]]

theorem gdI4_yes (s : SV) (hP : gdI4P s) (h0 : s.x.i 0 = 0) (hl : s.len 1 = 0) :
    (gdI4F s).1 = 0 ∧ (gdI4F s).2.len 0 = s.len 0 ∧ (∀ j, j < s.len 0 → ((gdI4F s).2.y 1).b j = goodF 4 (fun i => s.x.u (138 + i)) (s.x.u 146) (s.y 0) j) ∧ (gdI4F s).2.n 1 = s.len 0 ∧ (gdI4F s).2.n 0 = s.n 0 ∧ (gdI4F s).2.y 0 = s.y 0 := by
  rw [gdI4F_eq]
  let P : SV → Prop := fun r => gdI4P r ∧ r.len 0 = s.len 0 ∧ r.n 0 = s.n 0 ∧ r.y 0 = s.y 0 ∧ r.x.u 146 = s.x.u 146 ∧ ∀ i, i < 8 → r.x.u (138 + i) = s.x.u (138 + i)
  have k1 : ∀ r, P r → r.x.i 0 < s.len 0 → (gdI4T r).pick = .next (gdI4N r) := fun r hr hlt => by
    have h5 := hr.1.2.2.2.2.1
    unfold gdI4T
    rw [decide_eq_true (show r.x.i 0 < r.x.i 1 by have := hr.2.1; omega)]
    rfl
  have k2 : ∀ r, P r → r.x.i 0 < s.len 0 → (gdI4N r).x.i 0 = r.x.i 0 + 1 ∧ (gdI4N r).len 1 = r.len 1 + 1 ∧ (gdI4N r).y 3 = pushV (r.y 3) 0 (pmul (r.len 1) 1) [.sbool (goodF 4 (fun i => s.x.u (138 + i)) (s.x.u 146) (s.y 0) (r.x.i 0).toNat)] ∧ P (gdI4N r) := fun r hr hlt => by
    have hpk := k1 r hr hlt
    obtain ⟨hr1, q0, qn, q1, q2, q3⟩ := hr
    obtain ⟨e0, e1, l0, l1, n0, n3, y0, y3, w0, u0, u1, u2, u3, u4, u5, u6, u7⟩ := gdI4N_k r
    rw [gdI4G_eq r (by omega) hr1, q1, q2] at y3
    have eg : goodF 4 (fun i => r.x.u (138 + i)) (s.x.u 146) (s.y 0) (r.x.i 0).toNat = goodF 4 (fun i => s.x.u (138 + i)) (s.x.u 146) (s.y 0) (r.x.i 0).toNat := by
      unfold goodF
      rw [gM_congr (z := 4) (f := fun i => szD (r.x.u (138 + i)) ((s.y 0).u (8 * (r.x.i 0).toNat + i))) (g := fun i => szD (s.x.u (138 + i)) ((s.y 0).u (8 * (r.x.i 0).toNat + i))) fun i hi => by rw [q3 i (by omega)]]
    rw [eg] at y3
    have hB : gdI4B (gdI4N r) = true := ((gdI4_go r (allC (gdI4B_to hr1) allN)).2.2 _ hpk).1 _ (List.mem_cons_self ..)
    exact ⟨e0, l1, y3, gdI4B_of hB, l0.trans q0, n0.trans qn, y0.trans q1, w0.trans q2, fun i hi => (eightI (P := fun i => (gdI4N r).x.u (138 + i) = r.x.u (138 + i)) u0 u1 u2 u3 u4 u5 u6 u7 i hi).trans (q3 i hi)⟩
  have k3 : ∀ r, P r → ¬ r.x.i 0 < s.len 0 → (gdI4T r).pick = .out 0 (gdI4E r) ∧ (gdI4E r).len 0 = r.len 1 ∧ (gdI4E r).y 1 = r.y 3 := fun r hr hlt => by
    have h5 := hr.1.2.2.2.2.1
    refine ⟨?_, by kernel_rfl, by kernel_rfl⟩
    unfold gdI4T
    rw [decide_eq_false (show ¬ r.x.i 0 < r.x.i 1 by have := hr.2.1; omega)]
    rfl
  obtain ⟨a, b, c, r, hr, e, el⟩ := gd_run (T := gdI4T) (N := gdI4N) (E := gdI4E) P (goodF 4 (fun i => s.x.u (138 + i)) (s.x.u 146) (s.y 0)) (s.len 0) k1 k2 k3 (gdI4Mu s + 1) s ⟨hP, rfl, rfl, rfl, rfl, fun _ _ => rfl⟩ (by omega) (by omega) (by omega) (Nat.lt_succ_self _) (fun j hj => by omega)
  refine ⟨a, b, c, ?_, ?_, ?_⟩
  · show (Go.Sim.runT gdI4T (gdI4Mu s + 1) s).2.n 1 = _
    rw [e]
    have h7 := hr.1.2.2.2.2.2.2.1
    exact (show (gdI4E r).n 1 = r.n 3 from by kernel_rfl).trans (h7.trans el)
  · show (Go.Sim.runT gdI4T (gdI4Mu s + 1) s).2.n 0 = _
    rw [e]
    exact (show (gdI4E r).n 0 = r.n 0 from by kernel_rfl).trans hr.2.2.1
  · show (Go.Sim.runT gdI4T (gdI4Mu s + 1) s).2.y 0 = _
    rw [e]
    exact (show (gdI4E r).y 0 = r.y 0 from by kernel_rfl).trans hr.2.2.2.1


noncomputable def gdI5_v_0 (s : SV) : Vars := (offR (apl [(.sint .i8 5)] (apl (fl s.x 2 8) (apl [(.sint .i8 (s.x.i 10))] (apl (fl s.x 11 14) (apl [(.sint .i8 (s.x.i 25))] (apl (fl s.x 26 14) (apl [(.sint .i8 (s.x.i 40))] (apl (fl s.x 41 14) (apl [(.sint .i8 (s.x.i 55))] (apl (fl s.x 56 14) (apl [(.sint .i8 (s.x.i 70))] (apl (fl s.x 71 14) (apl [(.sint .i8 (s.x.i 85))] (apl (fl s.x 86 14) (apl [(.sint .i8 (s.x.i 100))] (apl (fl s.x 101 14) (apl [(.sint .i8 (s.x.i 115))] (apl (fl s.x 116 32) ([(.sint .i16 (s.x.i 148)), (.flt .f32 ((s.y 0).u (padd (padd 0 (pmul (itn (s.x.i 0)) 8)) 0))), (.flt .f32 ((s.y 0).u (padd (padd 0 (pmul (itn (s.x.i 0)) 8)) 1))), (.flt .f32 ((s.y 0).u (padd (padd 0 (pmul (itn (s.x.i 0)) 8)) 2))), (.flt .f32 ((s.y 0).u (padd (padd 0 (pmul (itn (s.x.i 0)) 8)) 3))), (.flt .f32 ((s.y 0).u (padd (padd 0 (pmul (itn (s.x.i 0)) 8)) 4))), (.flt .f32 ((s.y 0).u (padd (padd 0 (pmul (itn (s.x.i 0)) 8)) 5))), (.flt .f32 ((s.y 0).u (padd (padd 0 (pmul (itn (s.x.i 0)) 8)) 6))), (.flt .f32 ((s.y 0).u (padd (padd 0 (pmul (itn (s.x.i 0)) 8)) 7)))]))))))))))))))))))))

noncomputable def gdI5G (s : SV) : Bool := (fcmp .leq .f32 ((gdI5_v_0 s).u 8) (s.x.u 146))

noncomputable def gdI5N (s : SV) : SV := (mkSV (apl [(.sint .i64 (iadd (s.x.i 0) 1)), (.sint .i64 (s.x.i 1))] (apl (fl s.x 2 8) (apl [(.sint .i8 (s.x.i 10))] (apl (fl s.x 11 14) (apl [(.sint .i8 (s.x.i 25))] (apl (fl s.x 26 14) (apl [(.sint .i8 (s.x.i 40))] (apl (fl s.x 41 14) (apl [(.sint .i8 (s.x.i 55))] (apl (fl s.x 56 14) (apl [(.sint .i8 (s.x.i 70))] (apl (fl s.x 71 14) (apl [(.sint .i8 (s.x.i 85))] (apl (fl s.x 86 14) (apl [(.sint .i8 (s.x.i 100))] (apl (fl s.x 101 14) (apl [(.sint .i8 (s.x.i 115))] (apl (fl s.x 116 32) ([(.sint .i16 (s.x.i 148))]))))))))))))))))))) [(s.len 0), (padd (s.len 1) 1)] [(s.n 0), 0, 0, (pmul (padd (s.len 1) 1) 1)] [(s.y 0), zeroV, zeroV, (pushV (s.y 3) 0 (pmul (s.len 1) 1) [(.sbool (gdI5G s))])])
noncomputable def gdI5E (s : SV) : SV := (mkSV [] [(s.len 1)] [(s.n 0), (s.n 3)] [(s.y 0), (s.y 3)])

noncomputable def gdI5T (s : SV) : Tr := .node [] (decide ((s.x.i 0) < (s.x.i 1))) (.next (gdI5N s) [((decide ((-(9223372036854775807 + 1)) ≤ (iadd (s.x.i 0) 1))) && (decide ((iadd (s.x.i 0) 1) ≤ 9223372036854775807))), (decide ((padd 0 (pmul (s.len 1) 1)) ≤ (s.n 3))), (decide ((padd (s.len 1) 1) ≤ 16777216)), true, true, (!(isNan .f32 (farith .sub .f32 (s.x.u 138) ((s.y 0).u (padd (padd 0 (pmul (itn (s.x.i 0)) 8)) 0))))), (!(isNan .f32 (farith .sub .f32 (s.x.u 139) ((s.y 0).u (padd (padd 0 (pmul (itn (s.x.i 0)) 8)) 1))))), (!(isNan .f32 (farith .sub .f32 (s.x.u 140) ((s.y 0).u (padd (padd 0 (pmul (itn (s.x.i 0)) 8)) 2))))), (!(isNan .f32 (farith .sub .f32 (s.x.u 141) ((s.y 0).u (padd (padd 0 (pmul (itn (s.x.i 0)) 8)) 3))))), (!(isNan .f32 (farith .sub .f32 (s.x.u 142) ((s.y 0).u (padd (padd 0 (pmul (itn (s.x.i 0)) 8)) 4))))), true, true, true, (decide ((padd (padd 0 (pmul (itn (s.x.i 0)) 8)) 8) ≤ (s.n 0))), (decide (0 ≤ (s.x.i 0))), (decide ((s.x.i 0) < (s.len 0)))]) (.out 0 (gdI5E s) [])

theorem gdI5_t (s : SV) : Go.Sim.stepT Try.prog GAasI (ntOf Try.prog 57) noLT true 1000 gdI5L (loopOf Try.prog 57 0) s = some (gdI5T s) := by kernel_rfl

def gdI5P (s : SV) : Prop := 0 ≤ s.x.i 0 ∧ s.x.i 0 ≤ s.len 0 ∧ s.len 0 ≤ 1048576 ∧ s.n 0 = 8 * s.len 0 ∧ s.x.i 1 = s.len 0 ∧ (s.len 1 : Int) = s.x.i 0 ∧ s.n 3 = s.len 1 ∧ (∀ j : Nat, j < s.len 0 → rowOk 5 (s.y 0) j = true) ∧ ∀ i, i < 8 → s.x.u (138 + i) % 2147483648 ≤ 1098907648

noncomputable def gdI5B (s : SV) : Bool := @decide (gdI5P s) (Classical.propDecidable _)
theorem gdI5B_of {s : SV} (h : gdI5B s = true) : gdI5P s := @of_decide_eq_true _ (Classical.propDecidable _) h
theorem gdI5B_to {s : SV} (h : gdI5P s) : gdI5B s = true := @decide_eq_true _ (Classical.propDecidable _) h

theorem gdI5N_k (s : SV) : (gdI5N s).x.i 0 = iadd (s.x.i 0) 1 ∧ (gdI5N s).x.i 1 = s.x.i 1 ∧ (gdI5N s).len 0 = s.len 0 ∧ (gdI5N s).len 1 = padd (s.len 1) 1 ∧ (gdI5N s).n 0 = s.n 0 ∧ (gdI5N s).n 3 = pmul (padd (s.len 1) 1) 1 ∧ (gdI5N s).y 0 = s.y 0 ∧ (gdI5N s).y 3 = pushV (s.y 3) 0 (pmul (s.len 1) 1) [.sbool (gdI5G s)] ∧ (gdI5N s).x.u 146 = s.x.u 146 ∧ (gdI5N s).x.u (138 + 0) = s.x.u (138 + 0) ∧ (gdI5N s).x.u (138 + 1) = s.x.u (138 + 1) ∧ (gdI5N s).x.u (138 + 2) = s.x.u (138 + 2) ∧ (gdI5N s).x.u (138 + 3) = s.x.u (138 + 3) ∧ (gdI5N s).x.u (138 + 4) = s.x.u (138 + 4) ∧ (gdI5N s).x.u (138 + 5) = s.x.u (138 + 5) ∧ (gdI5N s).x.u (138 + 6) = s.x.u (138 + 6) ∧ (gdI5N s).x.u (138 + 7) = s.x.u (138 + 7) := ⟨by kernel_rfl, by kernel_rfl, by kernel_rfl, by kernel_rfl, by kernel_rfl, by kernel_rfl, by kernel_rfl, by kernel_rfl, by kernel_rfl, by kernel_rfl, by kernel_rfl, by kernel_rfl, by kernel_rfl, by kernel_rfl, by kernel_rfl, by kernel_rfl, by kernel_rfl⟩

def gdI5Mu (s : SV) : Nat := ((s.len 0 : Int) - s.x.i 0).toNat

theorem gdI5_go (s : SV) (hp : ∀ b ∈ [gdI5B s], b = true) :
    (gdI5T s).ok ∧ (∀ k s', (gdI5T s).pick = .out k s' → k < 1) ∧ ∀ s', (gdI5T s).pick = .next s' → (∀ b ∈ [gdI5B s'], b = true) ∧ gdI5Mu s' < gdI5Mu s := by
  have hP := gdI5B_of (hp _ (List.mem_cons_self ..))
  have hP' := hP
  obtain ⟨i1, i2, i3, i4, i5, i6, i7, i8, i9⟩ := hP
  cases hc : (decide ((s.x.i 0) < (s.x.i 1))) with
  | false =>
    have hk : (gdI5T s).pick = .out 0 (gdI5E s) := by unfold gdI5T; rw [hc]; rfl
    refine ⟨?_, fun k s' h => ?_, fun s' h => ?_⟩
    · unfold gdI5T
      exact ⟨allN, (fun h => by rw [hc] at h; cases h), (fun _ b hb => by cases hb)⟩
    · rw [hk] at h; cases h; decide
    · rw [hk] at h; cases h
  | true =>
    have hlt := of_decide_eq_true hc
    (try unfold ofN at hlt)
    have ro := i8 (s.x.i 0).toNat (by omega)
    have nan0 : isNan .f32 (farith .sub .f32 (s.x.u 138) ((s.y 0).u (padd (padd 0 (pmul (itn (s.x.i 0)) 8)) 0))) = false := by
      rw [idxI]
      exact sub_num (Nat.lt_of_le_of_lt (i9 0 (by decide)) (by decide)) (isFilm_in (rowOk_get ro (show 0 < 5 by decide))).1
    have nan1 : isNan .f32 (farith .sub .f32 (s.x.u 139) ((s.y 0).u (padd (padd 0 (pmul (itn (s.x.i 0)) 8)) 1))) = false := by
      rw [idxI]
      exact sub_num (Nat.lt_of_le_of_lt (i9 1 (by decide)) (by decide)) (isFilm_in (rowOk_get ro (show 1 < 5 by decide))).1
    have nan2 : isNan .f32 (farith .sub .f32 (s.x.u 140) ((s.y 0).u (padd (padd 0 (pmul (itn (s.x.i 0)) 8)) 2))) = false := by
      rw [idxI]
      exact sub_num (Nat.lt_of_le_of_lt (i9 2 (by decide)) (by decide)) (isFilm_in (rowOk_get ro (show 2 < 5 by decide))).1
    have nan3 : isNan .f32 (farith .sub .f32 (s.x.u 141) ((s.y 0).u (padd (padd 0 (pmul (itn (s.x.i 0)) 8)) 3))) = false := by
      rw [idxI]
      exact sub_num (Nat.lt_of_le_of_lt (i9 3 (by decide)) (by decide)) (isFilm_in (rowOk_get ro (show 3 < 5 by decide))).1
    have nan4 : isNan .f32 (farith .sub .f32 (s.x.u 142) ((s.y 0).u (padd (padd 0 (pmul (itn (s.x.i 0)) 8)) 4))) = false := by
      rw [idxI]
      exact sub_num (Nat.lt_of_le_of_lt (i9 4 (by decide)) (by decide)) (isFilm_in (rowOk_get ro (show 4 < 5 by decide))).1
    have hk : (gdI5T s).pick = .next (gdI5N s) := by unfold gdI5T; rw [hc]; rfl
    refine ⟨?_, fun k s' h => ?_, fun s' h => ?_⟩
    · unfold gdI5T
      exact ⟨allN, (fun _ => (allC (andT (decide_eq_true (by unfold iadd; omega)) (decide_eq_true (by unfold iadd; omega))) (allC (decide_eq_true (by unfold padd pmul; omega)) (allC (decide_eq_true (by unfold padd; omega)) (allC rfl (allC rfl (allC (notT nan0) (allC (notT nan1) (allC (notT nan2) (allC (notT nan3) (allC (notT nan4) (allC rfl (allC rfl (allC rfl (allC (decide_eq_true (by unfold padd pmul itn; omega)) (allC (decide_eq_true (by omega)) (allC (decide_eq_true (by omega)) allN))))))))))))))))), (fun h => by rw [hc] at h; cases h)⟩
    · rw [hk] at h; cases h
    · rw [hk] at h
      cases h
      refine ⟨fun b hb => ?_, ?_⟩
      · rw [List.mem_singleton.1 hb]
        refine gdI5B_to ?_
        obtain ⟨e0, e1, l0, l1, n0, n3, y0, _, _, u0, u1, u2, u3, u4, u5, u6, u7⟩ := gdI5N_k s
        unfold iadd at e0
        unfold padd at l1
        unfold pmul padd at n3
        refine ⟨by omega, by omega, by omega, by omega, by omega, by omega, by omega, ?_, ?_⟩
        · rw [y0, l0]
          exact i8
        · intro i hi
          rw [eightI (P := fun i => (gdI5N s).x.u (138 + i) = s.x.u (138 + i)) u0 u1 u2 u3 u4 u5 u6 u7 i hi]
          exact i9 i hi
      · obtain ⟨e0, e1, l0, _⟩ := gdI5N_k s
        unfold iadd at e0
        unfold gdI5Mu
        omega

noncomputable def gdI5F0 (s : SV) : Nat × SV := Go.Sim.runT gdI5T (gdI5Mu s + 1) s

noncomputable def gdI5F : SV → Nat × SV := Classical.choose (⟨gdI5F0, rfl⟩ : ∃ f, f = gdI5F0)

theorem gdI5F_eq : gdI5F = gdI5F0 := Classical.choose_spec (⟨gdI5F0, rfl⟩ : ∃ f, f = gdI5F0)

noncomputable def gdI5Pre (s : SV) : List Bool := [gdI5B s]

noncomputable def HgdI5 : LTab := hookL 0 gdI5L gdI5Pre gdI5F noLT

theorem HgdI5_ok : HFun Try.prog 1 HgdI5 57 := by
  unfold HgdI5
  rw [gdI5F_eq]
  exact HFun.loop GAasI_ok mixed (J := true) (n := 1000) (L := gdI5L) (T := gdI5T) (pre := gdI5Pre) (μ := gdI5Mu) (HFun.none Try.prog 1 57) (by kernel_rfl) (by decide) (by decide) gdI5_t gdI5_go

def gdI5Ls (s : SV) : List AV := (apl [(.sint .i8 5)] (apl (fl s.x 2 8) (apl [(.sint .i8 (s.x.i 10))] (apl (fl s.x 11 14) (apl [(.sint .i8 (s.x.i 25))] (apl (fl s.x 26 14) (apl [(.sint .i8 (s.x.i 40))] (apl (fl s.x 41 14) (apl [(.sint .i8 (s.x.i 55))] (apl (fl s.x 56 14) (apl [(.sint .i8 (s.x.i 70))] (apl (fl s.x 71 14) (apl [(.sint .i8 (s.x.i 85))] (apl (fl s.x 86 14) (apl [(.sint .i8 (s.x.i 100))] (apl (fl s.x 101 14) (apl [(.sint .i8 (s.x.i 115))] (apl (fl s.x 116 32) ([(.sint .i16 (s.x.i 148)), (.flt .f32 ((s.y 0).u (padd (padd 0 (pmul (itn (s.x.i 0)) 8)) 0))), (.flt .f32 ((s.y 0).u (padd (padd 0 (pmul (itn (s.x.i 0)) 8)) 1))), (.flt .f32 ((s.y 0).u (padd (padd 0 (pmul (itn (s.x.i 0)) 8)) 2))), (.flt .f32 ((s.y 0).u (padd (padd 0 (pmul (itn (s.x.i 0)) 8)) 3))), (.flt .f32 ((s.y 0).u (padd (padd 0 (pmul (itn (s.x.i 0)) 8)) 4))), (.flt .f32 ((s.y 0).u (padd (padd 0 (pmul (itn (s.x.i 0)) 8)) 5))), (.flt .f32 ((s.y 0).u (padd (padd 0 (pmul (itn (s.x.i 0)) 8)) 6))), (.flt .f32 ((s.y 0).u (padd (padd 0 (pmul (itn (s.x.i 0)) 8)) 7)))])))))))))))))))))))

theorem gdI5G_eq (s : SV) (hlt : s.x.i 0 < s.len 0) (hP : gdI5P s) : gdI5G s = goodF 5 (fun i => s.x.u (138 + i)) (s.x.u 146) (s.y 0) (s.x.i 0).toNat := by
  obtain ⟨i1, i2, i3, i4, i5, i6, i7, i8, i9⟩ := hP
  have ro := i8 (s.x.i 0).toNat (by omega)
  have nan0 : isNan .f32 (farith .sub .f32 (s.x.u 138) ((s.y 0).u (padd (padd 0 (pmul (itn (s.x.i 0)) 8)) 0))) = false := by
    rw [idxI]
    exact sub_num (Nat.lt_of_le_of_lt (i9 0 (by decide)) (by decide)) (isFilm_in (rowOk_get ro (show 0 < 5 by decide))).1
  have nan1 : isNan .f32 (farith .sub .f32 (s.x.u 139) ((s.y 0).u (padd (padd 0 (pmul (itn (s.x.i 0)) 8)) 1))) = false := by
    rw [idxI]
    exact sub_num (Nat.lt_of_le_of_lt (i9 1 (by decide)) (by decide)) (isFilm_in (rowOk_get ro (show 1 < 5 by decide))).1
  have nan2 : isNan .f32 (farith .sub .f32 (s.x.u 140) ((s.y 0).u (padd (padd 0 (pmul (itn (s.x.i 0)) 8)) 2))) = false := by
    rw [idxI]
    exact sub_num (Nat.lt_of_le_of_lt (i9 2 (by decide)) (by decide)) (isFilm_in (rowOk_get ro (show 2 < 5 by decide))).1
  have nan3 : isNan .f32 (farith .sub .f32 (s.x.u 141) ((s.y 0).u (padd (padd 0 (pmul (itn (s.x.i 0)) 8)) 3))) = false := by
    rw [idxI]
    exact sub_num (Nat.lt_of_le_of_lt (i9 3 (by decide)) (by decide)) (isFilm_in (rowOk_get ro (show 3 < 5 by decide))).1
  have nan4 : isNan .f32 (farith .sub .f32 (s.x.u 142) ((s.y 0).u (padd (padd 0 (pmul (itn (s.x.i 0)) 8)) 4))) = false := by
    rw [idxI]
    exact sub_num (Nat.lt_of_le_of_lt (i9 4 (by decide)) (by decide)) (isFilm_in (rowOk_get ro (show 4 < 5 by decide))).1
  have e1 : (gdI5_v_0 s).u 8 = off_m4 (varsOf (gdI5Ls s)) := by
    show (offR (gdI5Ls s)).u 8 = _
    rw [offR_eq]
    kernel_rfl
  have e2 := (off_b4 (varsOf (gdI5Ls s)) ((show isNan .f32 (farith .sub .f32 ((varsOf (gdI5Ls s)).u 137) ((varsOf (gdI5Ls s)).u 148)) = isNan .f32 (farith .sub .f32 (s.x.u 138) ((s.y 0).u (padd (padd 0 (pmul (itn (s.x.i 0)) 8)) 0))) from by kernel_rfl).trans nan0) ((show isNan .f32 (farith .sub .f32 ((varsOf (gdI5Ls s)).u 138) ((varsOf (gdI5Ls s)).u 149)) = isNan .f32 (farith .sub .f32 (s.x.u 139) ((s.y 0).u (padd (padd 0 (pmul (itn (s.x.i 0)) 8)) 1))) from by kernel_rfl).trans nan1) ((show isNan .f32 (farith .sub .f32 ((varsOf (gdI5Ls s)).u 139) ((varsOf (gdI5Ls s)).u 150)) = isNan .f32 (farith .sub .f32 (s.x.u 140) ((s.y 0).u (padd (padd 0 (pmul (itn (s.x.i 0)) 8)) 2))) from by kernel_rfl).trans nan2) ((show isNan .f32 (farith .sub .f32 ((varsOf (gdI5Ls s)).u 140) ((varsOf (gdI5Ls s)).u 151)) = isNan .f32 (farith .sub .f32 (s.x.u 141) ((s.y 0).u (padd (padd 0 (pmul (itn (s.x.i 0)) 8)) 3))) from by kernel_rfl).trans nan3) ((show isNan .f32 (farith .sub .f32 ((varsOf (gdI5Ls s)).u 141) ((varsOf (gdI5Ls s)).u 152)) = isNan .f32 (farith .sub .f32 (s.x.u 142) ((s.y 0).u (padd (padd 0 (pmul (itn (s.x.i 0)) 8)) 4))) from by kernel_rfl).trans nan4)).1
  have e3 : off_r4 (varsOf (gdI5Ls s)) = gM (fun i => szD (s.x.u (138 + i)) ((s.y 0).u (padd (padd 0 (pmul (itn (s.x.i 0)) 8)) i))) 5 := by kernel_rfl
  unfold gdI5G goodF
  rw [e1, e2, e3]
  rw [gM_congr (z := 5) (f := fun i => szD (s.x.u (138 + i)) ((s.y 0).u (padd (padd 0 (pmul (itn (s.x.i 0)) 8)) i))) (g := fun i => szD (s.x.u (138 + i)) ((s.y 0).u (8 * (s.x.i 0).toNat + i))) fun i _ => by rw [idxI]]

theorem gdI5_yes (s : SV) (hP : gdI5P s) (h0 : s.x.i 0 = 0) (hl : s.len 1 = 0) :
    (gdI5F s).1 = 0 ∧ (gdI5F s).2.len 0 = s.len 0 ∧ (∀ j, j < s.len 0 → ((gdI5F s).2.y 1).b j = goodF 5 (fun i => s.x.u (138 + i)) (s.x.u 146) (s.y 0) j) ∧ (gdI5F s).2.n 1 = s.len 0 ∧ (gdI5F s).2.n 0 = s.n 0 ∧ (gdI5F s).2.y 0 = s.y 0 := by
  rw [gdI5F_eq]
  let P : SV → Prop := fun r => gdI5P r ∧ r.len 0 = s.len 0 ∧ r.n 0 = s.n 0 ∧ r.y 0 = s.y 0 ∧ r.x.u 146 = s.x.u 146 ∧ ∀ i, i < 8 → r.x.u (138 + i) = s.x.u (138 + i)
  have k1 : ∀ r, P r → r.x.i 0 < s.len 0 → (gdI5T r).pick = .next (gdI5N r) := fun r hr hlt => by
    have h5 := hr.1.2.2.2.2.1
    unfold gdI5T
    rw [decide_eq_true (show r.x.i 0 < r.x.i 1 by have := hr.2.1; omega)]
    rfl
  have k2 : ∀ r, P r → r.x.i 0 < s.len 0 → (gdI5N r).x.i 0 = r.x.i 0 + 1 ∧ (gdI5N r).len 1 = r.len 1 + 1 ∧ (gdI5N r).y 3 = pushV (r.y 3) 0 (pmul (r.len 1) 1) [.sbool (goodF 5 (fun i => s.x.u (138 + i)) (s.x.u 146) (s.y 0) (r.x.i 0).toNat)] ∧ P (gdI5N r) := fun r hr hlt => by
    have hpk := k1 r hr hlt
    obtain ⟨hr1, q0, qn, q1, q2, q3⟩ := hr
    obtain ⟨e0, e1, l0, l1, n0, n3, y0, y3, w0, u0, u1, u2, u3, u4, u5, u6, u7⟩ := gdI5N_k r
    rw [gdI5G_eq r (by omega) hr1, q1, q2] at y3
    have eg : goodF 5 (fun i => r.x.u (138 + i)) (s.x.u 146) (s.y 0) (r.x.i 0).toNat = goodF 5 (fun i => s.x.u (138 + i)) (s.x.u 146) (s.y 0) (r.x.i 0).toNat := by
      unfold goodF
      rw [gM_congr (z := 5) (f := fun i => szD (r.x.u (138 + i)) ((s.y 0).u (8 * (r.x.i 0).toNat + i))) (g := fun i => szD (s.x.u (138 + i)) ((s.y 0).u (8 * (r.x.i 0).toNat + i))) fun i hi => by rw [q3 i (by omega)]]
    rw [eg] at y3
    have hB : gdI5B (gdI5N r) = true := ((gdI5_go r (allC (gdI5B_to hr1) allN)).2.2 _ hpk).1 _ (List.mem_cons_self ..)
    exact ⟨e0, l1, y3, gdI5B_of hB, l0.trans q0, n0.trans qn, y0.trans q1, w0.trans q2, fun i hi => (eightI (P := fun i => (gdI5N r).x.u (138 + i) = r.x.u (138 + i)) u0 u1 u2 u3 u4 u5 u6 u7 i hi).trans (q3 i hi)⟩
  have k3 : ∀ r, P r → ¬ r.x.i 0 < s.len 0 → (gdI5T r).pick = .out 0 (gdI5E r) ∧ (gdI5E r).len 0 = r.len 1 ∧ (gdI5E r).y 1 = r.y 3 := fun r hr hlt => by
    have h5 := hr.1.2.2.2.2.1
    refine ⟨?_, by kernel_rfl, by kernel_rfl⟩
    unfold gdI5T
    rw [decide_eq_false (show ¬ r.x.i 0 < r.x.i 1 by have := hr.2.1; omega)]
    rfl
  obtain ⟨a, b, c, r, hr, e, el⟩ := gd_run (T := gdI5T) (N := gdI5N) (E := gdI5E) P (goodF 5 (fun i => s.x.u (138 + i)) (s.x.u 146) (s.y 0)) (s.len 0) k1 k2 k3 (gdI5Mu s + 1) s ⟨hP, rfl, rfl, rfl, rfl, fun _ _ => rfl⟩ (by omega) (by omega) (by omega) (Nat.lt_succ_self _) (fun j hj => by omega)
  refine ⟨a, b, c, ?_, ?_, ?_⟩
  · show (Go.Sim.runT gdI5T (gdI5Mu s + 1) s).2.n 1 = _
    rw [e]
    have h7 := hr.1.2.2.2.2.2.2.1
    exact (show (gdI5E r).n 1 = r.n 3 from by kernel_rfl).trans (h7.trans el)
  · show (Go.Sim.runT gdI5T (gdI5Mu s + 1) s).2.n 0 = _
    rw [e]
    exact (show (gdI5E r).n 0 = r.n 0 from by kernel_rfl).trans hr.2.2.1
  · show (Go.Sim.runT gdI5T (gdI5Mu s + 1) s).2.y 0 = _
    rw [e]
    exact (show (gdI5E r).y 0 = r.y 0 from by kernel_rfl).trans hr.2.2.2.1


noncomputable def gdI6_v_0 (s : SV) : Vars := (offR (apl [(.sint .i8 6)] (apl (fl s.x 2 8) (apl [(.sint .i8 (s.x.i 10))] (apl (fl s.x 11 14) (apl [(.sint .i8 (s.x.i 25))] (apl (fl s.x 26 14) (apl [(.sint .i8 (s.x.i 40))] (apl (fl s.x 41 14) (apl [(.sint .i8 (s.x.i 55))] (apl (fl s.x 56 14) (apl [(.sint .i8 (s.x.i 70))] (apl (fl s.x 71 14) (apl [(.sint .i8 (s.x.i 85))] (apl (fl s.x 86 14) (apl [(.sint .i8 (s.x.i 100))] (apl (fl s.x 101 14) (apl [(.sint .i8 (s.x.i 115))] (apl (fl s.x 116 32) ([(.sint .i16 (s.x.i 148)), (.flt .f32 ((s.y 0).u (padd (padd 0 (pmul (itn (s.x.i 0)) 8)) 0))), (.flt .f32 ((s.y 0).u (padd (padd 0 (pmul (itn (s.x.i 0)) 8)) 1))), (.flt .f32 ((s.y 0).u (padd (padd 0 (pmul (itn (s.x.i 0)) 8)) 2))), (.flt .f32 ((s.y 0).u (padd (padd 0 (pmul (itn (s.x.i 0)) 8)) 3))), (.flt .f32 ((s.y 0).u (padd (padd 0 (pmul (itn (s.x.i 0)) 8)) 4))), (.flt .f32 ((s.y 0).u (padd (padd 0 (pmul (itn (s.x.i 0)) 8)) 5))), (.flt .f32 ((s.y 0).u (padd (padd 0 (pmul (itn (s.x.i 0)) 8)) 6))), (.flt .f32 ((s.y 0).u (padd (padd 0 (pmul (itn (s.x.i 0)) 8)) 7)))]))))))))))))))))))))

noncomputable def gdI6G (s : SV) : Bool := (fcmp .leq .f32 ((gdI6_v_0 s).u 8) (s.x.u 146))

noncomputable def gdI6N (s : SV) : SV := (mkSV (apl [(.sint .i64 (iadd (s.x.i 0) 1)), (.sint .i64 (s.x.i 1))] (apl (fl s.x 2 8) (apl [(.sint .i8 (s.x.i 10))] (apl (fl s.x 11 14) (apl [(.sint .i8 (s.x.i 25))] (apl (fl s.x 26 14) (apl [(.sint .i8 (s.x.i 40))] (apl (fl s.x 41 14) (apl [(.sint .i8 (s.x.i 55))] (apl (fl s.x 56 14) (apl [(.sint .i8 (s.x.i 70))] (apl (fl s.x 71 14) (apl [(.sint .i8 (s.x.i 85))] (apl (fl s.x 86 14) (apl [(.sint .i8 (s.x.i 100))] (apl (fl s.x 101 14) (apl [(.sint .i8 (s.x.i 115))] (apl (fl s.x 116 32) ([(.sint .i16 (s.x.i 148))]))))))))))))))))))) [(s.len 0), (padd (s.len 1) 1)] [(s.n 0), 0, 0, (pmul (padd (s.len 1) 1) 1)] [(s.y 0), zeroV, zeroV, (pushV (s.y 3) 0 (pmul (s.len 1) 1) [(.sbool (gdI6G s))])])
noncomputable def gdI6E (s : SV) : SV := (mkSV [] [(s.len 1)] [(s.n 0), (s.n 3)] [(s.y 0), (s.y 3)])

noncomputable def gdI6T (s : SV) : Tr := .node [] (decide ((s.x.i 0) < (s.x.i 1))) (.next (gdI6N s) [((decide ((-(9223372036854775807 + 1)) ≤ (iadd (s.x.i 0) 1))) && (decide ((iadd (s.x.i 0) 1) ≤ 9223372036854775807))), (decide ((padd 0 (pmul (s.len 1) 1)) ≤ (s.n 3))), (decide ((padd (s.len 1) 1) ≤ 16777216)), true, true, (!(isNan .f32 (farith .sub .f32 (s.x.u 138) ((s.y 0).u (padd (padd 0 (pmul (itn (s.x.i 0)) 8)) 0))))), (!(isNan .f32 (farith .sub .f32 (s.x.u 139) ((s.y 0).u (padd (padd 0 (pmul (itn (s.x.i 0)) 8)) 1))))), (!(isNan .f32 (farith .sub .f32 (s.x.u 140) ((s.y 0).u (padd (padd 0 (pmul (itn (s.x.i 0)) 8)) 2))))), (!(isNan .f32 (farith .sub .f32 (s.x.u 141) ((s.y 0).u (padd (padd 0 (pmul (itn (s.x.i 0)) 8)) 3))))), (!(isNan .f32 (farith .sub .f32 (s.x.u 142) ((s.y 0).u (padd (padd 0 (pmul (itn (s.x.i 0)) 8)) 4))))), (!(isNan .f32 (farith .sub .f32 (s.x.u 143) ((s.y 0).u (padd (padd 0 (pmul (itn (s.x.i 0)) 8)) 5))))), true, true, (decide ((padd (padd 0 (pmul (itn (s.x.i 0)) 8)) 8) ≤ (s.n 0))), (decide (0 ≤ (s.x.i 0))), (decide ((s.x.i 0) < (s.len 0)))]) (.out 0 (gdI6E s) [])

theorem gdI6_t (s : SV) : Go.Sim.stepT Try.prog GAasI (ntOf Try.prog 57) noLT true 1000 gdI6L (loopOf Try.prog 57 0) s = some (gdI6T s) := by kernel_rfl

def gdI6P (s : SV) : Prop := 0 ≤ s.x.i 0 ∧ s.x.i 0 ≤ s.len 0 ∧ s.len 0 ≤ 1048576 ∧ s.n 0 = 8 * s.len 0 ∧ s.x.i 1 = s.len 0 ∧ (s.len 1 : Int) = s.x.i 0 ∧ s.n 3 = s.len 1 ∧ (∀ j : Nat, j < s.len 0 → rowOk 6 (s.y 0) j = true) ∧ ∀ i, i < 8 → s.x.u (138 + i) % 2147483648 ≤ 1098907648

noncomputable def gdI6B (s : SV) : Bool := @decide (gdI6P s) (Classical.propDecidable _)
theorem gdI6B_of {s : SV} (h : gdI6B s = true) : gdI6P s := @of_decide_eq_true _ (Classical.propDecidable _) h
theorem gdI6B_to {s : SV} (h : gdI6P s) : gdI6B s = true := @decide_eq_true _ (Classical.propDecidable _) h

theorem gdI6N_k (s : SV) : (gdI6N s).x.i 0 = iadd (s.x.i 0) 1 ∧ (gdI6N s).x.i 1 = s.x.i 1 ∧ (gdI6N s).len 0 = s.len 0 ∧ (gdI6N s).len 1 = padd (s.len 1) 1 ∧ (gdI6N s).n 0 = s.n 0 ∧ (gdI6N s).n 3 = pmul (padd (s.len 1) 1) 1 ∧ (gdI6N s).y 0 = s.y 0 ∧ (gdI6N s).y 3 = pushV (s.y 3) 0 (pmul (s.len 1) 1) [.sbool (gdI6G s)] ∧ (gdI6N s).x.u 146 = s.x.u 146 ∧ (gdI6N s).x.u (138 + 0) = s.x.u (138 + 0) ∧ (gdI6N s).x.u (138 + 1) = s.x.u (138 + 1) ∧ (gdI6N s).x.u (138 + 2) = s.x.u (138 + 2) ∧ (gdI6N s).x.u (138 + 3) = s.x.u (138 + 3) ∧ (gdI6N s).x.u (138 + 4) = s.x.u (138 + 4) ∧ (gdI6N s).x.u (138 + 5) = s.x.u (138 + 5) ∧ (gdI6N s).x.u (138 + 6) = s.x.u (138 + 6) ∧ (gdI6N s).x.u (138 + 7) = s.x.u (138 + 7) := ⟨by kernel_rfl, by kernel_rfl, by kernel_rfl, by kernel_rfl, by kernel_rfl, by kernel_rfl, by kernel_rfl, by kernel_rfl, by kernel_rfl, by kernel_rfl, by kernel_rfl, by kernel_rfl, by kernel_rfl, by kernel_rfl, by kernel_rfl, by kernel_rfl, by kernel_rfl⟩

def gdI6Mu (s : SV) : Nat := ((s.len 0 : Int) - s.x.i 0).toNat

theorem gdI6_go (s : SV) (hp : ∀ b ∈ [gdI6B s], b = true) :
    (gdI6T s).ok ∧ (∀ k s', (gdI6T s).pick = .out k s' → k < 1) ∧ ∀ s', (gdI6T s).pick = .next s' → (∀ b ∈ [gdI6B s'], b = true) ∧ gdI6Mu s' < gdI6Mu s := by
  have hP := gdI6B_of (hp _ (List.mem_cons_self ..))
  have hP' := hP
  obtain ⟨i1, i2, i3, i4, i5, i6, i7, i8, i9⟩ := hP
  cases hc : (decide ((s.x.i 0) < (s.x.i 1))) with
  | false =>
    have hk : (gdI6T s).pick = .out 0 (gdI6E s) := by unfold gdI6T; rw [hc]; rfl
    refine ⟨?_, fun k s' h => ?_, fun s' h => ?_⟩
    · unfold gdI6T
      exact ⟨allN, (fun h => by rw [hc] at h; cases h), (fun _ b hb => by cases hb)⟩
    · rw [hk] at h; cases h; decide
    · rw [hk] at h; cases h
  | true =>
    have hlt := of_decide_eq_true hc
    (try unfold ofN at hlt)
    have ro := i8 (s.x.i 0).toNat (by omega)
    have nan0 : isNan .f32 (farith .sub .f32 (s.x.u 138) ((s.y 0).u (padd (padd 0 (pmul (itn (s.x.i 0)) 8)) 0))) = false := by
      rw [idxI]
      exact sub_num (Nat.lt_of_le_of_lt (i9 0 (by decide)) (by decide)) (isFilm_in (rowOk_get ro (show 0 < 6 by decide))).1
    have nan1 : isNan .f32 (farith .sub .f32 (s.x.u 139) ((s.y 0).u (padd (padd 0 (pmul (itn (s.x.i 0)) 8)) 1))) = false := by
      rw [idxI]
      exact sub_num (Nat.lt_of_le_of_lt (i9 1 (by decide)) (by decide)) (isFilm_in (rowOk_get ro (show 1 < 6 by decide))).1
    have nan2 : isNan .f32 (farith .sub .f32 (s.x.u 140) ((s.y 0).u (padd (padd 0 (pmul (itn (s.x.i 0)) 8)) 2))) = false := by
      rw [idxI]
      exact sub_num (Nat.lt_of_le_of_lt (i9 2 (by decide)) (by decide)) (isFilm_in (rowOk_get ro (show 2 < 6 by decide))).1
    have nan3 : isNan .f32 (farith .sub .f32 (s.x.u 141) ((s.y 0).u (padd (padd 0 (pmul (itn (s.x.i 0)) 8)) 3))) = false := by
      rw [idxI]
      exact sub_num (Nat.lt_of_le_of_lt (i9 3 (by decide)) (by decide)) (isFilm_in (rowOk_get ro (show 3 < 6 by decide))).1
    have nan4 : isNan .f32 (farith .sub .f32 (s.x.u 142) ((s.y 0).u (padd (padd 0 (pmul (itn (s.x.i 0)) 8)) 4))) = false := by
      rw [idxI]
      exact sub_num (Nat.lt_of_le_of_lt (i9 4 (by decide)) (by decide)) (isFilm_in (rowOk_get ro (show 4 < 6 by decide))).1
    have nan5 : isNan .f32 (farith .sub .f32 (s.x.u 143) ((s.y 0).u (padd (padd 0 (pmul (itn (s.x.i 0)) 8)) 5))) = false := by
      rw [idxI]
      exact sub_num (Nat.lt_of_le_of_lt (i9 5 (by decide)) (by decide)) (isFilm_in (rowOk_get ro (show 5 < 6 by decide))).1
    have hk : (gdI6T s).pick = .next (gdI6N s) := by unfold gdI6T; rw [hc]; rfl
    refine ⟨?_, fun k s' h => ?_, fun s' h => ?_⟩
    · unfold gdI6T
      exact ⟨allN, (fun _ => (allC (andT (decide_eq_true (by unfold iadd; omega)) (decide_eq_true (by unfold iadd; omega))) (allC (decide_eq_true (by unfold padd pmul; omega)) (allC (decide_eq_true (by unfold padd; omega)) (allC rfl (allC rfl (allC (notT nan0) (allC (notT nan1) (allC (notT nan2) (allC (notT nan3) (allC (notT nan4) (allC (notT nan5) (allC rfl (allC rfl (allC (decide_eq_true (by unfold padd pmul itn; omega)) (allC (decide_eq_true (by omega)) (allC (decide_eq_true (by omega)) allN))))))))))))))))), (fun h => by rw [hc] at h; cases h)⟩
    · rw [hk] at h; cases h
    · rw [hk] at h
      cases h
      refine ⟨fun b hb => ?_, ?_⟩
      · rw [List.mem_singleton.1 hb]
        refine gdI6B_to ?_
        obtain ⟨e0, e1, l0, l1, n0, n3, y0, _, _, u0, u1, u2, u3, u4, u5, u6, u7⟩ := gdI6N_k s
        unfold iadd at e0
        unfold padd at l1
        unfold pmul padd at n3
        refine ⟨by omega, by omega, by omega, by omega, by omega, by omega, by omega, ?_, ?_⟩
        · rw [y0, l0]
          exact i8
        · intro i hi
          rw [eightI (P := fun i => (gdI6N s).x.u (138 + i) = s.x.u (138 + i)) u0 u1 u2 u3 u4 u5 u6 u7 i hi]
          exact i9 i hi
      · obtain ⟨e0, e1, l0, _⟩ := gdI6N_k s
        unfold iadd at e0
        unfold gdI6Mu
        omega

noncomputable def gdI6F0 (s : SV) : Nat × SV := Go.Sim.runT gdI6T (gdI6Mu s + 1) s

noncomputable def gdI6F : SV → Nat × SV := Classical.choose (⟨gdI6F0, rfl⟩ : ∃ f, f = gdI6F0)

theorem gdI6F_eq : gdI6F = gdI6F0 := Classical.choose_spec (⟨gdI6F0, rfl⟩ : ∃ f, f = gdI6F0)

noncomputable def gdI6Pre (s : SV) : List Bool := [gdI6B s]

noncomputable def HgdI6 : LTab := hookL 0 gdI6L gdI6Pre gdI6F noLT

theorem HgdI6_ok : HFun Try.prog 1 HgdI6 57 := by
  unfold HgdI6
  rw [gdI6F_eq]
  exact HFun.loop GAasI_ok mixed (J := true) (n := 1000) (L := gdI6L) (T := gdI6T) (pre := gdI6Pre) (μ := gdI6Mu) (HFun.none Try.prog 1 57) (by kernel_rfl) (by decide) (by decide) gdI6_t gdI6_go

def gdI6Ls (s : SV) : List AV := (apl [(.sint .i8 6)] (apl (fl s.x 2 8) (apl [(.sint .i8 (s.x.i 10))] (apl (fl s.x 11 14) (apl [(.sint .i8 (s.x.i 25))] (apl (fl s.x 26 14) (apl [(.sint .i8 (s.x.i 40))] (apl (fl s.x 41 14) (apl [(.sint .i8 (s.x.i 55))] (apl (fl s.x 56 14) (apl [(.sint .i8 (s.x.i 70))] (apl (fl s.x 71 14) (apl [(.sint .i8 (s.x.i 85))] (apl (fl s.x 86 14) (apl [(.sint .i8 (s.x.i 100))] (apl (fl s.x 101 14) (apl [(.sint .i8 (s.x.i 115))] (apl (fl s.x 116 32) ([(.sint .i16 (s.x.i 148)), (.flt .f32 ((s.y 0).u (padd (padd 0 (pmul (itn (s.x.i 0)) 8)) 0))), (.flt .f32 ((s.y 0).u (padd (padd 0 (pmul (itn (s.x.i 0)) 8)) 1))), (.flt .f32 ((s.y 0).u (padd (padd 0 (pmul (itn (s.x.i 0)) 8)) 2))), (.flt .f32 ((s.y 0).u (padd (padd 0 (pmul (itn (s.x.i 0)) 8)) 3))), (.flt .f32 ((s.y 0).u (padd (padd 0 (pmul (itn (s.x.i 0)) 8)) 4))), (.flt .f32 ((s.y 0).u (padd (padd 0 (pmul (itn (s.x.i 0)) 8)) 5))), (.flt .f32 ((s.y 0).u (padd (padd 0 (pmul (itn (s.x.i 0)) 8)) 6))), (.flt .f32 ((s.y 0).u (padd (padd 0 (pmul (itn (s.x.i 0)) 8)) 7)))])))))))))))))))))))

theorem gdI6G_eq (s : SV) (hlt : s.x.i 0 < s.len 0) (hP : gdI6P s) : gdI6G s = goodF 6 (fun i => s.x.u (138 + i)) (s.x.u 146) (s.y 0) (s.x.i 0).toNat := by
  obtain ⟨i1, i2, i3, i4, i5, i6, i7, i8, i9⟩ := hP
  have ro := i8 (s.x.i 0).toNat (by omega)
  have nan0 : isNan .f32 (farith .sub .f32 (s.x.u 138) ((s.y 0).u (padd (padd 0 (pmul (itn (s.x.i 0)) 8)) 0))) = false := by
    rw [idxI]
    exact sub_num (Nat.lt_of_le_of_lt (i9 0 (by decide)) (by decide)) (isFilm_in (rowOk_get ro (show 0 < 6 by decide))).1
  have nan1 : isNan .f32 (farith .sub .f32 (s.x.u 139) ((s.y 0).u (padd (padd 0 (pmul (itn (s.x.i 0)) 8)) 1))) = false := by
    rw [idxI]
    exact sub_num (Nat.lt_of_le_of_lt (i9 1 (by decide)) (by decide)) (isFilm_in (rowOk_get ro (show 1 < 6 by decide))).1
  have nan2 : isNan .f32 (farith .sub .f32 (s.x.u 140) ((s.y 0).u (padd (padd 0 (pmul (itn (s.x.i 0)) 8)) 2))) = false := by
    rw [idxI]
    exact sub_num (Nat.lt_of_le_of_lt (i9 2 (by decide)) (by decide)) (isFilm_in (rowOk_get ro (show 2 < 6 by decide))).1
  have nan3 : isNan .f32 (farith .sub .f32 (s.x.u 141) ((s.y 0).u (padd (padd 0 (pmul (itn (s.x.i 0)) 8)) 3))) = false := by
    rw [idxI]
    exact sub_num (Nat.lt_of_le_of_lt (i9 3 (by decide)) (by decide)) (isFilm_in (rowOk_get ro (show 3 < 6 by decide))).1
  have nan4 : isNan .f32 (farith .sub .f32 (s.x.u 142) ((s.y 0).u (padd (padd 0 (pmul (itn (s.x.i 0)) 8)) 4))) = false := by
    rw [idxI]
    exact sub_num (Nat.lt_of_le_of_lt (i9 4 (by decide)) (by decide)) (isFilm_in (rowOk_get ro (show 4 < 6 by decide))).1
  have nan5 : isNan .f32 (farith .sub .f32 (s.x.u 143) ((s.y 0).u (padd (padd 0 (pmul (itn (s.x.i 0)) 8)) 5))) = false := by
    rw [idxI]
    exact sub_num (Nat.lt_of_le_of_lt (i9 5 (by decide)) (by decide)) (isFilm_in (rowOk_get ro (show 5 < 6 by decide))).1
  have e1 : (gdI6_v_0 s).u 8 = off_m5 (varsOf (gdI6Ls s)) := by
    show (offR (gdI6Ls s)).u 8 = _
    rw [offR_eq]
    kernel_rfl
  have e2 := (off_b5 (varsOf (gdI6Ls s)) ((show isNan .f32 (farith .sub .f32 ((varsOf (gdI6Ls s)).u 137) ((varsOf (gdI6Ls s)).u 148)) = isNan .f32 (farith .sub .f32 (s.x.u 138) ((s.y 0).u (padd (padd 0 (pmul (itn (s.x.i 0)) 8)) 0))) from by kernel_rfl).trans nan0) ((show isNan .f32 (farith .sub .f32 ((varsOf (gdI6Ls s)).u 138) ((varsOf (gdI6Ls s)).u 149)) = isNan .f32 (farith .sub .f32 (s.x.u 139) ((s.y 0).u (padd (padd 0 (pmul (itn (s.x.i 0)) 8)) 1))) from by kernel_rfl).trans nan1) ((show isNan .f32 (farith .sub .f32 ((varsOf (gdI6Ls s)).u 139) ((varsOf (gdI6Ls s)).u 150)) = isNan .f32 (farith .sub .f32 (s.x.u 140) ((s.y 0).u (padd (padd 0 (pmul (itn (s.x.i 0)) 8)) 2))) from by kernel_rfl).trans nan2) ((show isNan .f32 (farith .sub .f32 ((varsOf (gdI6Ls s)).u 140) ((varsOf (gdI6Ls s)).u 151)) = isNan .f32 (farith .sub .f32 (s.x.u 141) ((s.y 0).u (padd (padd 0 (pmul (itn (s.x.i 0)) 8)) 3))) from by kernel_rfl).trans nan3) ((show isNan .f32 (farith .sub .f32 ((varsOf (gdI6Ls s)).u 141) ((varsOf (gdI6Ls s)).u 152)) = isNan .f32 (farith .sub .f32 (s.x.u 142) ((s.y 0).u (padd (padd 0 (pmul (itn (s.x.i 0)) 8)) 4))) from by kernel_rfl).trans nan4) ((show isNan .f32 (farith .sub .f32 ((varsOf (gdI6Ls s)).u 142) ((varsOf (gdI6Ls s)).u 153)) = isNan .f32 (farith .sub .f32 (s.x.u 143) ((s.y 0).u (padd (padd 0 (pmul (itn (s.x.i 0)) 8)) 5))) from by kernel_rfl).trans nan5)).1
  have e3 : off_r5 (varsOf (gdI6Ls s)) = gM (fun i => szD (s.x.u (138 + i)) ((s.y 0).u (padd (padd 0 (pmul (itn (s.x.i 0)) 8)) i))) 6 := by kernel_rfl
  unfold gdI6G goodF
  rw [e1, e2, e3]
  rw [gM_congr (z := 6) (f := fun i => szD (s.x.u (138 + i)) ((s.y 0).u (padd (padd 0 (pmul (itn (s.x.i 0)) 8)) i))) (g := fun i => szD (s.x.u (138 + i)) ((s.y 0).u (8 * (s.x.i 0).toNat + i))) fun i _ => by rw [idxI]]

theorem gdI6_yes (s : SV) (hP : gdI6P s) (h0 : s.x.i 0 = 0) (hl : s.len 1 = 0) :
    (gdI6F s).1 = 0 ∧ (gdI6F s).2.len 0 = s.len 0 ∧ (∀ j, j < s.len 0 → ((gdI6F s).2.y 1).b j = goodF 6 (fun i => s.x.u (138 + i)) (s.x.u 146) (s.y 0) j) ∧ (gdI6F s).2.n 1 = s.len 0 ∧ (gdI6F s).2.n 0 = s.n 0 ∧ (gdI6F s).2.y 0 = s.y 0 := by
  rw [gdI6F_eq]
  let P : SV → Prop := fun r => gdI6P r ∧ r.len 0 = s.len 0 ∧ r.n 0 = s.n 0 ∧ r.y 0 = s.y 0 ∧ r.x.u 146 = s.x.u 146 ∧ ∀ i, i < 8 → r.x.u (138 + i) = s.x.u (138 + i)
  have k1 : ∀ r, P r → r.x.i 0 < s.len 0 → (gdI6T r).pick = .next (gdI6N r) := fun r hr hlt => by
    have h5 := hr.1.2.2.2.2.1
    unfold gdI6T
    rw [decide_eq_true (show r.x.i 0 < r.x.i 1 by have := hr.2.1; omega)]
    rfl
  have k2 : ∀ r, P r → r.x.i 0 < s.len 0 → (gdI6N r).x.i 0 = r.x.i 0 + 1 ∧ (gdI6N r).len 1 = r.len 1 + 1 ∧ (gdI6N r).y 3 = pushV (r.y 3) 0 (pmul (r.len 1) 1) [.sbool (goodF 6 (fun i => s.x.u (138 + i)) (s.x.u 146) (s.y 0) (r.x.i 0).toNat)] ∧ P (gdI6N r) := fun r hr hlt => by
    have hpk := k1 r hr hlt
    obtain ⟨hr1, q0, qn, q1, q2, q3⟩ := hr
    obtain ⟨e0, e1, l0, l1, n0, n3, y0, y3, w0, u0, u1, u2, u3, u4, u5, u6, u7⟩ := gdI6N_k r
    rw [gdI6G_eq r (by omega) hr1, q1, q2] at y3
    have eg : goodF 6 (fun i => r.x.u (138 + i)) (s.x.u 146) (s.y 0) (r.x.i 0).toNat = goodF 6 (fun i => s.x.u (138 + i)) (s.x.u 146) (s.y 0) (r.x.i 0).toNat := by
      unfold goodF
      rw [gM_congr (z := 6) (f := fun i => szD (r.x.u (138 + i)) ((s.y 0).u (8 * (r.x.i 0).toNat + i))) (g := fun i => szD (s.x.u (138 + i)) ((s.y 0).u (8 * (r.x.i 0).toNat + i))) fun i hi => by rw [q3 i (by omega)]]
    rw [eg] at y3
    have hB : gdI6B (gdI6N r) = true := ((gdI6_go r (allC (gdI6B_to hr1) allN)).2.2 _ hpk).1 _ (List.mem_cons_self ..)
    exact ⟨e0, l1, y3, gdI6B_of hB, l0.trans q0, n0.trans qn, y0.trans q1, w0.trans q2, fun i hi => (eightI (P := fun i => (gdI6N r).x.u (138 + i) = r.x.u (138 + i)) u0 u1 u2 u3 u4 u5 u6 u7 i hi).trans (q3 i hi)⟩
  have k3 : ∀ r, P r → ¬ r.x.i 0 < s.len 0 → (gdI6T r).pick = .out 0 (gdI6E r) ∧ (gdI6E r).len 0 = r.len 1 ∧ (gdI6E r).y 1 = r.y 3 := fun r hr hlt => by
    have h5 := hr.1.2.2.2.2.1
    refine ⟨?_, by kernel_rfl, by kernel_rfl⟩
    unfold gdI6T
    rw [decide_eq_false (show ¬ r.x.i 0 < r.x.i 1 by have := hr.2.1; omega)]
    rfl
  obtain ⟨a, b, c, r, hr, e, el⟩ := gd_run (T := gdI6T) (N := gdI6N) (E := gdI6E) P (goodF 6 (fun i => s.x.u (138 + i)) (s.x.u 146) (s.y 0)) (s.len 0) k1 k2 k3 (gdI6Mu s + 1) s ⟨hP, rfl, rfl, rfl, rfl, fun _ _ => rfl⟩ (by omega) (by omega) (by omega) (Nat.lt_succ_self _) (fun j hj => by omega)
  refine ⟨a, b, c, ?_, ?_, ?_⟩
  · show (Go.Sim.runT gdI6T (gdI6Mu s + 1) s).2.n 1 = _
    rw [e]
    have h7 := hr.1.2.2.2.2.2.2.1
    exact (show (gdI6E r).n 1 = r.n 3 from by kernel_rfl).trans (h7.trans el)
  · show (Go.Sim.runT gdI6T (gdI6Mu s + 1) s).2.n 0 = _
    rw [e]
    exact (show (gdI6E r).n 0 = r.n 0 from by kernel_rfl).trans hr.2.2.1
  · show (Go.Sim.runT gdI6T (gdI6Mu s + 1) s).2.y 0 = _
    rw [e]
    exact (show (gdI6E r).y 0 = r.y 0 from by kernel_rfl).trans hr.2.2.2.1


noncomputable def gdI7_v_0 (s : SV) : Vars := (offR (apl [(.sint .i8 7)] (apl (fl s.x 2 8) (apl [(.sint .i8 (s.x.i 10))] (apl (fl s.x 11 14) (apl [(.sint .i8 (s.x.i 25))] (apl (fl s.x 26 14) (apl [(.sint .i8 (s.x.i 40))] (apl (fl s.x 41 14) (apl [(.sint .i8 (s.x.i 55))] (apl (fl s.x 56 14) (apl [(.sint .i8 (s.x.i 70))] (apl (fl s.x 71 14) (apl [(.sint .i8 (s.x.i 85))] (apl (fl s.x 86 14) (apl [(.sint .i8 (s.x.i 100))] (apl (fl s.x 101 14) (apl [(.sint .i8 (s.x.i 115))] (apl (fl s.x 116 32) ([(.sint .i16 (s.x.i 148)), (.flt .f32 ((s.y 0).u (padd (padd 0 (pmul (itn (s.x.i 0)) 8)) 0))), (.flt .f32 ((s.y 0).u (padd (padd 0 (pmul (itn (s.x.i 0)) 8)) 1))), (.flt .f32 ((s.y 0).u (padd (padd 0 (pmul (itn (s.x.i 0)) 8)) 2))), (.flt .f32 ((s.y 0).u (padd (padd 0 (pmul (itn (s.x.i 0)) 8)) 3))), (.flt .f32 ((s.y 0).u (padd (padd 0 (pmul (itn (s.x.i 0)) 8)) 4))), (.flt .f32 ((s.y 0).u (padd (padd 0 (pmul (itn (s.x.i 0)) 8)) 5))), (.flt .f32 ((s.y 0).u (padd (padd 0 (pmul (itn (s.x.i 0)) 8)) 6))), (.flt .f32 ((s.y 0).u (padd (padd 0 (pmul (itn (s.x.i 0)) 8)) 7)))]))))))))))))))))))))

noncomputable def gdI7G (s : SV) : Bool := (fcmp .leq .f32 ((gdI7_v_0 s).u 8) (s.x.u 146))

noncomputable def gdI7N (s : SV) : SV := (mkSV (apl [(.sint .i64 (iadd (s.x.i 0) 1)), (.sint .i64 (s.x.i 1))] (apl (fl s.x 2 8) (apl [(.sint .i8 (s.x.i 10))] (apl (fl s.x 11 14) (apl [(.sint .i8 (s.x.i 25))] (apl (fl s.x 26 14) (apl [(.sint .i8 (s.x.i 40))] (apl (fl s.x 41 14) (apl [(.sint .i8 (s.x.i 55))] (apl (fl s.x 56 14) (apl [(.sint .i8 (s.x.i 70))] (apl (fl s.x 71 14) (apl [(.sint .i8 (s.x.i 85))] (apl (fl s.x 86 14) (apl [(.sint .i8 (s.x.i 100))] (apl (fl s.x 101 14) (apl [(.sint .i8 (s.x.i 115))] (apl (fl s.x 116 32) ([(.sint .i16 (s.x.i 148))]))))))))))))))))))) [(s.len 0), (padd (s.len 1) 1)] [(s.n 0), 0, 0, (pmul (padd (s.len 1) 1) 1)] [(s.y 0), zeroV, zeroV, (pushV (s.y 3) 0 (pmul (s.len 1) 1) [(.sbool (gdI7G s))])])
noncomputable def gdI7E (s : SV) : SV := (mkSV [] [(s.len 1)] [(s.n 0), (s.n 3)] [(s.y 0), (s.y 3)])

noncomputable def gdI7T (s : SV) : Tr := .node [] (decide ((s.x.i 0) < (s.x.i 1))) (.next (gdI7N s) [((decide ((-(9223372036854775807 + 1)) ≤ (iadd (s.x.i 0) 1))) && (decide ((iadd (s.x.i 0) 1) ≤ 9223372036854775807))), (decide ((padd 0 (pmul (s.len 1) 1)) ≤ (s.n 3))), (decide ((padd (s.len 1) 1) ≤ 16777216)), true, true, (!(isNan .f32 (farith .sub .f32 (s.x.u 138) ((s.y 0).u (padd (padd 0 (pmul (itn (s.x.i 0)) 8)) 0))))), (!(isNan .f32 (farith .sub .f32 (s.x.u 139) ((s.y 0).u (padd (padd 0 (pmul (itn (s.x.i 0)) 8)) 1))))), (!(isNan .f32 (farith .sub .f32 (s.x.u 140) ((s.y 0).u (padd (padd 0 (pmul (itn (s.x.i 0)) 8)) 2))))), (!(isNan .f32 (farith .sub .f32 (s.x.u 141) ((s.y 0).u (padd (padd 0 (pmul (itn (s.x.i 0)) 8)) 3))))), (!(isNan .f32 (farith .sub .f32 (s.x.u 142) ((s.y 0).u (padd (padd 0 (pmul (itn (s.x.i 0)) 8)) 4))))), (!(isNan .f32 (farith .sub .f32 (s.x.u 143) ((s.y 0).u (padd (padd 0 (pmul (itn (s.x.i 0)) 8)) 5))))), (!(isNan .f32 (farith .sub .f32 (s.x.u 144) ((s.y 0).u (padd (padd 0 (pmul (itn (s.x.i 0)) 8)) 6))))), true, (decide ((padd (padd 0 (pmul (itn (s.x.i 0)) 8)) 8) ≤ (s.n 0))), (decide (0 ≤ (s.x.i 0))), (decide ((s.x.i 0) < (s.len 0)))]) (.out 0 (gdI7E s) [])

theorem gdI7_t (s : SV) : Go.Sim.stepT Try.prog GAasI (ntOf Try.prog 57) noLT true 1000 gdI7L (loopOf Try.prog 57 0) s = some (gdI7T s) := by kernel_rfl

def gdI7P (s : SV) : Prop := 0 ≤ s.x.i 0 ∧ s.x.i 0 ≤ s.len 0 ∧ s.len 0 ≤ 1048576 ∧ s.n 0 = 8 * s.len 0 ∧ s.x.i 1 = s.len 0 ∧ (s.len 1 : Int) = s.x.i 0 ∧ s.n 3 = s.len 1 ∧ (∀ j : Nat, j < s.len 0 → rowOk 7 (s.y 0) j = true) ∧ ∀ i, i < 8 → s.x.u (138 + i) % 2147483648 ≤ 1098907648

noncomputable def gdI7B (s : SV) : Bool := @decide (gdI7P s) (Classical.propDecidable _)
theorem gdI7B_of {s : SV} (h : gdI7B s = true) : gdI7P s := @of_decide_eq_true _ (Classical.propDecidable _) h
theorem gdI7B_to {s : SV} (h : gdI7P s) : gdI7B s = true := @decide_eq_true _ (Classical.propDecidable _) h

theorem gdI7N_k (s : SV) : (gdI7N s).x.i 0 = iadd (s.x.i 0) 1 ∧ (gdI7N s).x.i 1 = s.x.i 1 ∧ (gdI7N s).len 0 = s.len 0 ∧ (gdI7N s).len 1 = padd (s.len 1) 1 ∧ (gdI7N s).n 0 = s.n 0 ∧ (gdI7N s).n 3 = pmul (padd (s.len 1) 1) 1 ∧ (gdI7N s).y 0 = s.y 0 ∧ (gdI7N s).y 3 = pushV (s.y 3) 0 (pmul (s.len 1) 1) [.sbool (gdI7G s)] ∧ (gdI7N s).x.u 146 = s.x.u 146 ∧ (gdI7N s).x.u (138 + 0) = s.x.u (138 + 0) ∧ (gdI7N s).x.u (138 + 1) = s.x.u (138 + 1) ∧ (gdI7N s).x.u (138 + 2) = s.x.u (138 + 2) ∧ (gdI7N s).x.u (138 + 3) = s.x.u (138 + 3) ∧ (gdI7N s).x.u (138 + 4) = s.x.u (138 + 4) ∧ (gdI7N s).x.u (138 + 5) = s.x.u (138 + 5) ∧ (gdI7N s).x.u (138 + 6) = s.x.u (138 + 6) ∧ (gdI7N s).x.u (138 + 7) = s.x.u (138 + 7) := ⟨by kernel_rfl, by kernel_rfl, by kernel_rfl, by kernel_rfl, by kernel_rfl, by kernel_rfl, by kernel_rfl, by kernel_rfl, by kernel_rfl, by kernel_rfl, by kernel_rfl, by kernel_rfl, by kernel_rfl, by kernel_rfl, by kernel_rfl, by kernel_rfl, by kernel_rfl⟩

def gdI7Mu (s : SV) : Nat := ((s.len 0 : Int) - s.x.i 0).toNat

theorem gdI7_go (s : SV) (hp : ∀ b ∈ [gdI7B s], b = true) :
    (gdI7T s).ok ∧ (∀ k s', (gdI7T s).pick = .out k s' → k < 1) ∧ ∀ s', (gdI7T s).pick = .next s' → (∀ b ∈ [gdI7B s'], b = true) ∧ gdI7Mu s' < gdI7Mu s := by
  have hP := gdI7B_of (hp _ (List.mem_cons_self ..))
  have hP' := hP
  obtain ⟨i1, i2, i3, i4, i5, i6, i7, i8, i9⟩ := hP
  cases hc : (decide ((s.x.i 0) < (s.x.i 1))) with
  | false =>
    have hk : (gdI7T s).pick = .out 0 (gdI7E s) := by unfold gdI7T; rw [hc]; rfl
    refine ⟨?_, fun k s' h => ?_, fun s' h => ?_⟩
    · unfold gdI7T
      exact ⟨allN, (fun h => by rw [hc] at h; cases h), (fun _ b hb => by cases hb)⟩
    · rw [hk] at h; cases h; decide
    · rw [hk] at h; cases h
  | true =>
    have hlt := of_decide_eq_true hc
    (try unfold ofN at hlt)
    have ro := i8 (s.x.i 0).toNat (by omega)
    have nan0 : isNan .f32 (farith .sub .f32 (s.x.u 138) ((s.y 0).u (padd (padd 0 (pmul (itn (s.x.i 0)) 8)) 0))) = false := by
      rw [idxI]
      exact sub_num (Nat.lt_of_le_of_lt (i9 0 (by decide)) (by decide)) (isFilm_in (rowOk_get ro (show 0 < 7 by decide))).1
    have nan1 : isNan .f32 (farith .sub .f32 (s.x.u 139) ((s.y 0).u (padd (padd 0 (pmul (itn (s.x.i 0)) 8)) 1))) = false := by
      rw [idxI]
      exact sub_num (Nat.lt_of_le_of_lt (i9 1 (by decide)) (by decide)) (isFilm_in (rowOk_get ro (show 1 < 7 by decide))).1
    have nan2 : isNan .f32 (farith .sub .f32 (s.x.u 140) ((s.y 0).u (padd (padd 0 (pmul (itn (s.x.i 0)) 8)) 2))) = false := by
      rw [idxI]
      exact sub_num (Nat.lt_of_le_of_lt (i9 2 (by decide)) (by decide)) (isFilm_in (rowOk_get ro (show 2 < 7 by decide))).1
    have nan3 : isNan .f32 (farith .sub .f32 (s.x.u 141) ((s.y 0).u (padd (padd 0 (pmul (itn (s.x.i 0)) 8)) 3))) = false := by
      rw [idxI]
      exact sub_num (Nat.lt_of_le_of_lt (i9 3 (by decide)) (by decide)) (isFilm_in (rowOk_get ro (show 3 < 7 by decide))).1
    have nan4 : isNan .f32 (farith .sub .f32 (s.x.u 142) ((s.y 0).u (padd (padd 0 (pmul (itn (s.x.i 0)) 8)) 4))) = false := by
      rw [idxI]
      exact sub_num (Nat.lt_of_le_of_lt (i9 4 (by decide)) (by decide)) (isFilm_in (rowOk_get ro (show 4 < 7 by decide))).1
    have nan5 : isNan .f32 (farith .sub .f32 (s.x.u 143) ((s.y 0).u (padd (padd 0 (pmul (itn (s.x.i 0)) 8)) 5))) = false := by
      rw [idxI]
      exact sub_num (Nat.lt_of_le_of_lt (i9 5 (by decide)) (by decide)) (isFilm_in (rowOk_get ro (show 5 < 7 by decide))).1
    have nan6 : isNan .f32 (farith .sub .f32 (s.x.u 144) ((s.y 0).u (padd (padd 0 (pmul (itn (s.x.i 0)) 8)) 6))) = false := by
      rw [idxI]
      exact sub_num (Nat.lt_of_le_of_lt (i9 6 (by decide)) (by decide)) (isFilm_in (rowOk_get ro (show 6 < 7 by decide))).1
    have hk : (gdI7T s).pick = .next (gdI7N s) := by unfold gdI7T; rw [hc]; rfl
    refine ⟨?_, fun k s' h => ?_, fun s' h => ?_⟩
    · unfold gdI7T
      exact ⟨allN, (fun _ => (allC (andT (decide_eq_true (by unfold iadd; omega)) (decide_eq_true (by unfold iadd; omega))) (allC (decide_eq_true (by unfold padd pmul; omega)) (allC (decide_eq_true (by unfold padd; omega)) (allC rfl (allC rfl (allC (notT nan0) (allC (notT nan1) (allC (notT nan2) (allC (notT nan3) (allC (notT nan4) (allC (notT nan5) (allC (notT nan6) (allC rfl (allC (decide_eq_true (by unfold padd pmul itn; omega)) (allC (decide_eq_true (by omega)) (allC (decide_eq_true (by omega)) allN))))))))))))))))), (fun h => by rw [hc] at h; cases h)⟩
    · rw [hk] at h; cases h
    · rw [hk] at h
      cases h
      refine ⟨fun b hb => ?_, ?_⟩
      · rw [List.mem_singleton.1 hb]
        refine gdI7B_to ?_
        obtain ⟨e0, e1, l0, l1, n0, n3, y0, _, _, u0, u1, u2, u3, u4, u5, u6, u7⟩ := gdI7N_k s
        unfold iadd at e0
        unfold padd at l1
        unfold pmul padd at n3
        refine ⟨by omega, by omega, by omega, by omega, by omega, by omega, by omega, ?_, ?_⟩
        · rw [y0, l0]
          exact i8
        · intro i hi
          rw [eightI (P := fun i => (gdI7N s).x.u (138 + i) = s.x.u (138 + i)) u0 u1 u2 u3 u4 u5 u6 u7 i hi]
          exact i9 i hi
      · obtain ⟨e0, e1, l0, _⟩ := gdI7N_k s
        unfold iadd at e0
        unfold gdI7Mu
        omega

noncomputable def gdI7F0 (s : SV) : Nat × SV := Go.Sim.runT gdI7T (gdI7Mu s + 1) s

noncomputable def gdI7F : SV → Nat × SV := Classical.choose (⟨gdI7F0, rfl⟩ : ∃ f, f = gdI7F0)

theorem gdI7F_eq : gdI7F = gdI7F0 := Classical.choose_spec (⟨gdI7F0, rfl⟩ : ∃ f, f = gdI7F0)

noncomputable def gdI7Pre (s : SV) : List Bool := [gdI7B s]

noncomputable def HgdI7 : LTab := hookL 0 gdI7L gdI7Pre gdI7F noLT

theorem HgdI7_ok : HFun Try.prog 1 HgdI7 57 := by
  unfold HgdI7
  rw [gdI7F_eq]
  exact HFun.loop GAasI_ok mixed (J := true) (n := 1000) (L := gdI7L) (T := gdI7T) (pre := gdI7Pre) (μ := gdI7Mu) (HFun.none Try.prog 1 57) (by kernel_rfl) (by decide) (by decide) gdI7_t gdI7_go

def gdI7Ls (s : SV) : List AV := (apl [(.sint .i8 7)] (apl (fl s.x 2 8) (apl [(.sint .i8 (s.x.i 10))] (apl (fl s.x 11 14) (apl [(.sint .i8 (s.x.i 25))] (apl (fl s.x 26 14) (apl [(.sint .i8 (s.x.i 40))] (apl (fl s.x 41 14) (apl [(.sint .i8 (s.x.i 55))] (apl (fl s.x 56 14) (apl [(.sint .i8 (s.x.i 70))] (apl (fl s.x 71 14) (apl [(.sint .i8 (s.x.i 85))] (apl (fl s.x 86 14) (apl [(.sint .i8 (s.x.i 100))] (apl (fl s.x 101 14) (apl [(.sint .i8 (s.x.i 115))] (apl (fl s.x 116 32) ([(.sint .i16 (s.x.i 148)), (.flt .f32 ((s.y 0).u (padd (padd 0 (pmul (itn (s.x.i 0)) 8)) 0))), (.flt .f32 ((s.y 0).u (padd (padd 0 (pmul (itn (s.x.i 0)) 8)) 1))), (.flt .f32 ((s.y 0).u (padd (padd 0 (pmul (itn (s.x.i 0)) 8)) 2))), (.flt .f32 ((s.y 0).u (padd (padd 0 (pmul (itn (s.x.i 0)) 8)) 3))), (.flt .f32 ((s.y 0).u (padd (padd 0 (pmul (itn (s.x.i 0)) 8)) 4))), (.flt .f32 ((s.y 0).u (padd (padd 0 (pmul (itn (s.x.i 0)) 8)) 5))), (.flt .f32 ((s.y 0).u (padd (padd 0 (pmul (itn (s.x.i 0)) 8)) 6))), (.flt .f32 ((s.y 0).u (padd (padd 0 (pmul (itn (s.x.i 0)) 8)) 7)))])))))))))))))))))))

theorem gdI7G_eq (s : SV) (hlt : s.x.i 0 < s.len 0) (hP : gdI7P s) : gdI7G s = goodF 7 (fun i => s.x.u (138 + i)) (s.x.u 146) (s.y 0) (s.x.i 0).toNat := by
  obtain ⟨i1, i2, i3, i4, i5, i6, i7, i8, i9⟩ := hP
  have ro := i8 (s.x.i 0).toNat (by omega)
  have nan0 : isNan .f32 (farith .sub .f32 (s.x.u 138) ((s.y 0).u (padd (padd 0 (pmul (itn (s.x.i 0)) 8)) 0))) = false := by
    rw [idxI]
    exact sub_num (Nat.lt_of_le_of_lt (i9 0 (by decide)) (by decide)) (isFilm_in (rowOk_get ro (show 0 < 7 by decide))).1
  have nan1 : isNan .f32 (farith .sub .f32 (s.x.u 139) ((s.y 0).u (padd (padd 0 (pmul (itn (s.x.i 0)) 8)) 1))) = false := by
    rw [idxI]
    exact sub_num (Nat.lt_of_le_of_lt (i9 1 (by decide)) (by decide)) (isFilm_in (rowOk_get ro (show 1 < 7 by decide))).1
  have nan2 : isNan .f32 (farith .sub .f32 (s.x.u 140) ((s.y 0).u (padd (padd 0 (pmul (itn (s.x.i 0)) 8)) 2))) = false := by
    rw [idxI]
    exact sub_num (Nat.lt_of_le_of_lt (i9 2 (by decide)) (by decide)) (isFilm_in (rowOk_get ro (show 2 < 7 by decide))).1
  have nan3 : isNan .f32 (farith .sub .f32 (s.x.u 141) ((s.y 0).u (padd (padd 0 (pmul (itn (s.x.i 0)) 8)) 3))) = false := by
    rw [idxI]
    exact sub_num (Nat.lt_of_le_of_lt (i9 3 (by decide)) (by decide)) (isFilm_in (rowOk_get ro (show 3 < 7 by decide))).1
  have nan4 : isNan .f32 (farith .sub .f32 (s.x.u 142) ((s.y 0).u (padd (padd 0 (pmul (itn (s.x.i 0)) 8)) 4))) = false := by
    rw [idxI]
    exact sub_num (Nat.lt_of_le_of_lt (i9 4 (by decide)) (by decide)) (isFilm_in (rowOk_get ro (show 4 < 7 by decide))).1
  have nan5 : isNan .f32 (farith .sub .f32 (s.x.u 143) ((s.y 0).u (padd (padd 0 (pmul (itn (s.x.i 0)) 8)) 5))) = false := by
    rw [idxI]
    exact sub_num (Nat.lt_of_le_of_lt (i9 5 (by decide)) (by decide)) (isFilm_in (rowOk_get ro (show 5 < 7 by decide))).1
  have nan6 : isNan .f32 (farith .sub .f32 (s.x.u 144) ((s.y 0).u (padd (padd 0 (pmul (itn (s.x.i 0)) 8)) 6))) = false := by
    rw [idxI]
    exact sub_num (Nat.lt_of_le_of_lt (i9 6 (by decide)) (by decide)) (isFilm_in (rowOk_get ro (show 6 < 7 by decide))).1
  have e1 : (gdI7_v_0 s).u 8 = off_m6 (varsOf (gdI7Ls s)) := by
    show (offR (gdI7Ls s)).u 8 = _
    rw [offR_eq]
    kernel_rfl
  have e2 := (off_b6 (varsOf (gdI7Ls s)) ((show isNan .f32 (farith .sub .f32 ((varsOf (gdI7Ls s)).u 137) ((varsOf (gdI7Ls s)).u 148)) = isNan .f32 (farith .sub .f32 (s.x.u 138) ((s.y 0).u (padd (padd 0 (pmul (itn (s.x.i 0)) 8)) 0))) from by kernel_rfl).trans nan0) ((show isNan .f32 (farith .sub .f32 ((varsOf (gdI7Ls s)).u 138) ((varsOf (gdI7Ls s)).u 149)) = isNan .f32 (farith .sub .f32 (s.x.u 139) ((s.y 0).u (padd (padd 0 (pmul (itn (s.x.i 0)) 8)) 1))) from by kernel_rfl).trans nan1) ((show isNan .f32 (farith .sub .f32 ((varsOf (gdI7Ls s)).u 139) ((varsOf (gdI7Ls s)).u 150)) = isNan .f32 (farith .sub .f32 (s.x.u 140) ((s.y 0).u (padd (padd 0 (pmul (itn (s.x.i 0)) 8)) 2))) from by kernel_rfl).trans nan2) ((show isNan .f32 (farith .sub .f32 ((varsOf (gdI7Ls s)).u 140) ((varsOf (gdI7Ls s)).u 151)) = isNan .f32 (farith .sub .f32 (s.x.u 141) ((s.y 0).u (padd (padd 0 (pmul (itn (s.x.i 0)) 8)) 3))) from by kernel_rfl).trans nan3) ((show isNan .f32 (farith .sub .f32 ((varsOf (gdI7Ls s)).u 141) ((varsOf (gdI7Ls s)).u 152)) = isNan .f32 (farith .sub .f32 (s.x.u 142) ((s.y 0).u (padd (padd 0 (pmul (itn (s.x.i 0)) 8)) 4))) from by kernel_rfl).trans nan4) ((show isNan .f32 (farith .sub .f32 ((varsOf (gdI7Ls s)).u 142) ((varsOf (gdI7Ls s)).u 153)) = isNan .f32 (farith .sub .f32 (s.x.u 143) ((s.y 0).u (padd (padd 0 (pmul (itn (s.x.i 0)) 8)) 5))) from by kernel_rfl).trans nan5) ((show isNan .f32 (farith .sub .f32 ((varsOf (gdI7Ls s)).u 143) ((varsOf (gdI7Ls s)).u 154)) = isNan .f32 (farith .sub .f32 (s.x.u 144) ((s.y 0).u (padd (padd 0 (pmul (itn (s.x.i 0)) 8)) 6))) from by kernel_rfl).trans nan6)).1
  have e3 : off_r6 (varsOf (gdI7Ls s)) = gM (fun i => szD (s.x.u (138 + i)) ((s.y 0).u (padd (padd 0 (pmul (itn (s.x.i 0)) 8)) i))) 7 := by kernel_rfl
  unfold gdI7G goodF
  rw [e1, e2, e3]
  rw [gM_congr (z := 7) (f := fun i => szD (s.x.u (138 + i)) ((s.y 0).u (padd (padd 0 (pmul (itn (s.x.i 0)) 8)) i))) (g := fun i => szD (s.x.u (138 + i)) ((s.y 0).u (8 * (s.x.i 0).toNat + i))) fun i _ => by rw [idxI]]

theorem gdI7_yes (s : SV) (hP : gdI7P s) (h0 : s.x.i 0 = 0) (hl : s.len 1 = 0) :
    (gdI7F s).1 = 0 ∧ (gdI7F s).2.len 0 = s.len 0 ∧ (∀ j, j < s.len 0 → ((gdI7F s).2.y 1).b j = goodF 7 (fun i => s.x.u (138 + i)) (s.x.u 146) (s.y 0) j) ∧ (gdI7F s).2.n 1 = s.len 0 ∧ (gdI7F s).2.n 0 = s.n 0 ∧ (gdI7F s).2.y 0 = s.y 0 := by
  rw [gdI7F_eq]
  let P : SV → Prop := fun r => gdI7P r ∧ r.len 0 = s.len 0 ∧ r.n 0 = s.n 0 ∧ r.y 0 = s.y 0 ∧ r.x.u 146 = s.x.u 146 ∧ ∀ i, i < 8 → r.x.u (138 + i) = s.x.u (138 + i)
  have k1 : ∀ r, P r → r.x.i 0 < s.len 0 → (gdI7T r).pick = .next (gdI7N r) := fun r hr hlt => by
    have h5 := hr.1.2.2.2.2.1
    unfold gdI7T
    rw [decide_eq_true (show r.x.i 0 < r.x.i 1 by have := hr.2.1; omega)]
    rfl
  have k2 : ∀ r, P r → r.x.i 0 < s.len 0 → (gdI7N r).x.i 0 = r.x.i 0 + 1 ∧ (gdI7N r).len 1 = r.len 1 + 1 ∧ (gdI7N r).y 3 = pushV (r.y 3) 0 (pmul (r.len 1) 1) [.sbool (goodF 7 (fun i => s.x.u (138 + i)) (s.x.u 146) (s.y 0) (r.x.i 0).toNat)] ∧ P (gdI7N r) := fun r hr hlt => by
    have hpk := k1 r hr hlt
    obtain ⟨hr1, q0, qn, q1, q2, q3⟩ := hr
    obtain ⟨e0, e1, l0, l1, n0, n3, y0, y3, w0, u0, u1, u2, u3, u4, u5, u6, u7⟩ := gdI7N_k r
    rw [gdI7G_eq r (by omega) hr1, q1, q2] at y3
    have eg : goodF 7 (fun i => r.x.u (138 + i)) (s.x.u 146) (s.y 0) (r.x.i 0).toNat = goodF 7 (fun i => s.x.u (138 + i)) (s.x.u 146) (s.y 0) (r.x.i 0).toNat := by
      unfold goodF
      rw [gM_congr (z := 7) (f := fun i => szD (r.x.u (138 + i)) ((s.y 0).u (8 * (r.x.i 0).toNat + i))) (g := fun i => szD (s.x.u (138 + i)) ((s.y 0).u (8 * (r.x.i 0).toNat + i))) fun i hi => by rw [q3 i (by omega)]]
    rw [eg] at y3
    have hB : gdI7B (gdI7N r) = true := ((gdI7_go r (allC (gdI7B_to hr1) allN)).2.2 _ hpk).1 _ (List.mem_cons_self ..)
    exact ⟨e0, l1, y3, gdI7B_of hB, l0.trans q0, n0.trans qn, y0.trans q1, w0.trans q2, fun i hi => (eightI (P := fun i => (gdI7N r).x.u (138 + i) = r.x.u (138 + i)) u0 u1 u2 u3 u4 u5 u6 u7 i hi).trans (q3 i hi)⟩
  have k3 : ∀ r, P r → ¬ r.x.i 0 < s.len 0 → (gdI7T r).pick = .out 0 (gdI7E r) ∧ (gdI7E r).len 0 = r.len 1 ∧ (gdI7E r).y 1 = r.y 3 := fun r hr hlt => by
    have h5 := hr.1.2.2.2.2.1
    refine ⟨?_, by kernel_rfl, by kernel_rfl⟩
    unfold gdI7T
    rw [decide_eq_false (show ¬ r.x.i 0 < r.x.i 1 by have := hr.2.1; omega)]
    rfl
  obtain ⟨a, b, c, r, hr, e, el⟩ := gd_run (T := gdI7T) (N := gdI7N) (E := gdI7E) P (goodF 7 (fun i => s.x.u (138 + i)) (s.x.u 146) (s.y 0)) (s.len 0) k1 k2 k3 (gdI7Mu s + 1) s ⟨hP, rfl, rfl, rfl, rfl, fun _ _ => rfl⟩ (by omega) (by omega) (by omega) (Nat.lt_succ_self _) (fun j hj => by omega)
  refine ⟨a, b, c, ?_, ?_, ?_⟩
  · show (Go.Sim.runT gdI7T (gdI7Mu s + 1) s).2.n 1 = _
    rw [e]
    have h7 := hr.1.2.2.2.2.2.2.1
    exact (show (gdI7E r).n 1 = r.n 3 from by kernel_rfl).trans (h7.trans el)
  · show (Go.Sim.runT gdI7T (gdI7Mu s + 1) s).2.n 0 = _
    rw [e]
    exact (show (gdI7E r).n 0 = r.n 0 from by kernel_rfl).trans hr.2.2.1
  · show (Go.Sim.runT gdI7T (gdI7Mu s + 1) s).2.y 0 = _
    rw [e]
    exact (show (gdI7E r).y 0 = r.y 0 from by kernel_rfl).trans hr.2.2.2.1


noncomputable def gdI8_v_0 (s : SV) : Vars := (offR (apl [(.sint .i8 8)] (apl (fl s.x 2 8) (apl [(.sint .i8 (s.x.i 10))] (apl (fl s.x 11 14) (apl [(.sint .i8 (s.x.i 25))] (apl (fl s.x 26 14) (apl [(.sint .i8 (s.x.i 40))] (apl (fl s.x 41 14) (apl [(.sint .i8 (s.x.i 55))] (apl (fl s.x 56 14) (apl [(.sint .i8 (s.x.i 70))] (apl (fl s.x 71 14) (apl [(.sint .i8 (s.x.i 85))] (apl (fl s.x 86 14) (apl [(.sint .i8 (s.x.i 100))] (apl (fl s.x 101 14) (apl [(.sint .i8 (s.x.i 115))] (apl (fl s.x 116 32) ([(.sint .i16 (s.x.i 148)), (.flt .f32 ((s.y 0).u (padd (padd 0 (pmul (itn (s.x.i 0)) 8)) 0))), (.flt .f32 ((s.y 0).u (padd (padd 0 (pmul (itn (s.x.i 0)) 8)) 1))), (.flt .f32 ((s.y 0).u (padd (padd 0 (pmul (itn (s.x.i 0)) 8)) 2))), (.flt .f32 ((s.y 0).u (padd (padd 0 (pmul (itn (s.x.i 0)) 8)) 3))), (.flt .f32 ((s.y 0).u (padd (padd 0 (pmul (itn (s.x.i 0)) 8)) 4))), (.flt .f32 ((s.y 0).u (padd (padd 0 (pmul (itn (s.x.i 0)) 8)) 5))), (.flt .f32 ((s.y 0).u (padd (padd 0 (pmul (itn (s.x.i 0)) 8)) 6))), (.flt .f32 ((s.y 0).u (padd (padd 0 (pmul (itn (s.x.i 0)) 8)) 7)))]))))))))))))))))))))

noncomputable def gdI8G (s : SV) : Bool := (fcmp .leq .f32 ((gdI8_v_0 s).u 8) (s.x.u 146))

noncomputable def gdI8N (s : SV) : SV := (mkSV (apl [(.sint .i64 (iadd (s.x.i 0) 1)), (.sint .i64 (s.x.i 1))] (apl (fl s.x 2 8) (apl [(.sint .i8 (s.x.i 10))] (apl (fl s.x 11 14) (apl [(.sint .i8 (s.x.i 25))] (apl (fl s.x 26 14) (apl [(.sint .i8 (s.x.i 40))] (apl (fl s.x 41 14) (apl [(.sint .i8 (s.x.i 55))] (apl (fl s.x 56 14) (apl [(.sint .i8 (s.x.i 70))] (apl (fl s.x 71 14) (apl [(.sint .i8 (s.x.i 85))] (apl (fl s.x 86 14) (apl [(.sint .i8 (s.x.i 100))] (apl (fl s.x 101 14) (apl [(.sint .i8 (s.x.i 115))] (apl (fl s.x 116 32) ([(.sint .i16 (s.x.i 148))]))))))))))))))))))) [(s.len 0), (padd (s.len 1) 1)] [(s.n 0), 0, 0, (pmul (padd (s.len 1) 1) 1)] [(s.y 0), zeroV, zeroV, (pushV (s.y 3) 0 (pmul (s.len 1) 1) [(.sbool (gdI8G s))])])
noncomputable def gdI8E (s : SV) : SV := (mkSV [] [(s.len 1)] [(s.n 0), (s.n 3)] [(s.y 0), (s.y 3)])

noncomputable def gdI8T (s : SV) : Tr := .node [] (decide ((s.x.i 0) < (s.x.i 1))) (.next (gdI8N s) [((decide ((-(9223372036854775807 + 1)) ≤ (iadd (s.x.i 0) 1))) && (decide ((iadd (s.x.i 0) 1) ≤ 9223372036854775807))), (decide ((padd 0 (pmul (s.len 1) 1)) ≤ (s.n 3))), (decide ((padd (s.len 1) 1) ≤ 16777216)), true, true, (!(isNan .f32 (farith .sub .f32 (s.x.u 138) ((s.y 0).u (padd (padd 0 (pmul (itn (s.x.i 0)) 8)) 0))))), (!(isNan .f32 (farith .sub .f32 (s.x.u 139) ((s.y 0).u (padd (padd 0 (pmul (itn (s.x.i 0)) 8)) 1))))), (!(isNan .f32 (farith .sub .f32 (s.x.u 140) ((s.y 0).u (padd (padd 0 (pmul (itn (s.x.i 0)) 8)) 2))))), (!(isNan .f32 (farith .sub .f32 (s.x.u 141) ((s.y 0).u (padd (padd 0 (pmul (itn (s.x.i 0)) 8)) 3))))), (!(isNan .f32 (farith .sub .f32 (s.x.u 142) ((s.y 0).u (padd (padd 0 (pmul (itn (s.x.i 0)) 8)) 4))))), (!(isNan .f32 (farith .sub .f32 (s.x.u 143) ((s.y 0).u (padd (padd 0 (pmul (itn (s.x.i 0)) 8)) 5))))), (!(isNan .f32 (farith .sub .f32 (s.x.u 144) ((s.y 0).u (padd (padd 0 (pmul (itn (s.x.i 0)) 8)) 6))))), (!(isNan .f32 (farith .sub .f32 (s.x.u 145) ((s.y 0).u (padd (padd 0 (pmul (itn (s.x.i 0)) 8)) 7))))), (decide ((padd (padd 0 (pmul (itn (s.x.i 0)) 8)) 8) ≤ (s.n 0))), (decide (0 ≤ (s.x.i 0))), (decide ((s.x.i 0) < (s.len 0)))]) (.out 0 (gdI8E s) [])

theorem gdI8_t (s : SV) : Go.Sim.stepT Try.prog GAasI (ntOf Try.prog 57) noLT true 1000 gdI8L (loopOf Try.prog 57 0) s = some (gdI8T s) := by kernel_rfl

def gdI8P (s : SV) : Prop := 0 ≤ s.x.i 0 ∧ s.x.i 0 ≤ s.len 0 ∧ s.len 0 ≤ 1048576 ∧ s.n 0 = 8 * s.len 0 ∧ s.x.i 1 = s.len 0 ∧ (s.len 1 : Int) = s.x.i 0 ∧ s.n 3 = s.len 1 ∧ (∀ j : Nat, j < s.len 0 → rowOk 8 (s.y 0) j = true) ∧ ∀ i, i < 8 → s.x.u (138 + i) % 2147483648 ≤ 1098907648

noncomputable def gdI8B (s : SV) : Bool := @decide (gdI8P s) (Classical.propDecidable _)
theorem gdI8B_of {s : SV} (h : gdI8B s = true) : gdI8P s := @of_decide_eq_true _ (Classical.propDecidable _) h
theorem gdI8B_to {s : SV} (h : gdI8P s) : gdI8B s = true := @decide_eq_true _ (Classical.propDecidable _) h

theorem gdI8N_k (s : SV) : (gdI8N s).x.i 0 = iadd (s.x.i 0) 1 ∧ (gdI8N s).x.i 1 = s.x.i 1 ∧ (gdI8N s).len 0 = s.len 0 ∧ (gdI8N s).len 1 = padd (s.len 1) 1 ∧ (gdI8N s).n 0 = s.n 0 ∧ (gdI8N s).n 3 = pmul (padd (s.len 1) 1) 1 ∧ (gdI8N s).y 0 = s.y 0 ∧ (gdI8N s).y 3 = pushV (s.y 3) 0 (pmul (s.len 1) 1) [.sbool (gdI8G s)] ∧ (gdI8N s).x.u 146 = s.x.u 146 ∧ (gdI8N s).x.u (138 + 0) = s.x.u (138 + 0) ∧ (gdI8N s).x.u (138 + 1) = s.x.u (138 + 1) ∧ (gdI8N s).x.u (138 + 2) = s.x.u (138 + 2) ∧ (gdI8N s).x.u (138 + 3) = s.x.u (138 + 3) ∧ (gdI8N s).x.u (138 + 4) = s.x.u (138 + 4) ∧ (gdI8N s).x.u (138 + 5) = s.x.u (138 + 5) ∧ (gdI8N s).x.u (138 + 6) = s.x.u (138 + 6) ∧ (gdI8N s).x.u (138 + 7) = s.x.u (138 + 7) := ⟨by kernel_rfl, by kernel_rfl, by kernel_rfl, by kernel_rfl, by kernel_rfl, by kernel_rfl, by kernel_rfl, by kernel_rfl, by kernel_rfl, by kernel_rfl, by kernel_rfl, by kernel_rfl, by kernel_rfl, by kernel_rfl, by kernel_rfl, by kernel_rfl, by kernel_rfl⟩

def gdI8Mu (s : SV) : Nat := ((s.len 0 : Int) - s.x.i 0).toNat

theorem gdI8_go (s : SV) (hp : ∀ b ∈ [gdI8B s], b = true) :
    (gdI8T s).ok ∧ (∀ k s', (gdI8T s).pick = .out k s' → k < 1) ∧ ∀ s', (gdI8T s).pick = .next s' → (∀ b ∈ [gdI8B s'], b = true) ∧ gdI8Mu s' < gdI8Mu s := by
  have hP := gdI8B_of (hp _ (List.mem_cons_self ..))
  have hP' := hP
  obtain ⟨i1, i2, i3, i4, i5, i6, i7, i8, i9⟩ := hP
  cases hc : (decide ((s.x.i 0) < (s.x.i 1))) with
  | false =>
    have hk : (gdI8T s).pick = .out 0 (gdI8E s) := by unfold gdI8T; rw [hc]; rfl
    refine ⟨?_, fun k s' h => ?_, fun s' h => ?_⟩
    · unfold gdI8T
      exact ⟨allN, (fun h => by rw [hc] at h; cases h), (fun _ b hb => by cases hb)⟩
    · rw [hk] at h; cases h; decide
    · rw [hk] at h; cases h
  | true =>
    have hlt := of_decide_eq_true hc
    (try unfold ofN at hlt)
    have ro := i8 (s.x.i 0).toNat (by omega)
    have nan0 : isNan .f32 (farith .sub .f32 (s.x.u 138) ((s.y 0).u (padd (padd 0 (pmul (itn (s.x.i 0)) 8)) 0))) = false := by
      rw [idxI]
      exact sub_num (Nat.lt_of_le_of_lt (i9 0 (by decide)) (by decide)) (isFilm_in (rowOk_get ro (show 0 < 8 by decide))).1
    have nan1 : isNan .f32 (farith .sub .f32 (s.x.u 139) ((s.y 0).u (padd (padd 0 (pmul (itn (s.x.i 0)) 8)) 1))) = false := by
      rw [idxI]
      exact sub_num (Nat.lt_of_le_of_lt (i9 1 (by decide)) (by decide)) (isFilm_in (rowOk_get ro (show 1 < 8 by decide))).1
    have nan2 : isNan .f32 (farith .sub .f32 (s.x.u 140) ((s.y 0).u (padd (padd 0 (pmul (itn (s.x.i 0)) 8)) 2))) = false := by
      rw [idxI]
      exact sub_num (Nat.lt_of_le_of_lt (i9 2 (by decide)) (by decide)) (isFilm_in (rowOk_get ro (show 2 < 8 by decide))).1
    have nan3 : isNan .f32 (farith .sub .f32 (s.x.u 141) ((s.y 0).u (padd (padd 0 (pmul (itn (s.x.i 0)) 8)) 3))) = false := by
      rw [idxI]
      exact sub_num (Nat.lt_of_le_of_lt (i9 3 (by decide)) (by decide)) (isFilm_in (rowOk_get ro (show 3 < 8 by decide))).1
    have nan4 : isNan .f32 (farith .sub .f32 (s.x.u 142) ((s.y 0).u (padd (padd 0 (pmul (itn (s.x.i 0)) 8)) 4))) = false := by
      rw [idxI]
      exact sub_num (Nat.lt_of_le_of_lt (i9 4 (by decide)) (by decide)) (isFilm_in (rowOk_get ro (show 4 < 8 by decide))).1
    have nan5 : isNan .f32 (farith .sub .f32 (s.x.u 143) ((s.y 0).u (padd (padd 0 (pmul (itn (s.x.i 0)) 8)) 5))) = false := by
      rw [idxI]
      exact sub_num (Nat.lt_of_le_of_lt (i9 5 (by decide)) (by decide)) (isFilm_in (rowOk_get ro (show 5 < 8 by decide))).1
    have nan6 : isNan .f32 (farith .sub .f32 (s.x.u 144) ((s.y 0).u (padd (padd 0 (pmul (itn (s.x.i 0)) 8)) 6))) = false := by
      rw [idxI]
      exact sub_num (Nat.lt_of_le_of_lt (i9 6 (by decide)) (by decide)) (isFilm_in (rowOk_get ro (show 6 < 8 by decide))).1
    have nan7 : isNan .f32 (farith .sub .f32 (s.x.u 145) ((s.y 0).u (padd (padd 0 (pmul (itn (s.x.i 0)) 8)) 7))) = false := by
      rw [idxI]
      exact sub_num (Nat.lt_of_le_of_lt (i9 7 (by decide)) (by decide)) (isFilm_in (rowOk_get ro (show 7 < 8 by decide))).1
    have hk : (gdI8T s).pick = .next (gdI8N s) := by unfold gdI8T; rw [hc]; rfl
    refine ⟨?_, fun k s' h => ?_, fun s' h => ?_⟩
    · unfold gdI8T
      exact ⟨allN, (fun _ => (allC (andT (decide_eq_true (by unfold iadd; omega)) (decide_eq_true (by unfold iadd; omega))) (allC (decide_eq_true (by unfold padd pmul; omega)) (allC (decide_eq_true (by unfold padd; omega)) (allC rfl (allC rfl (allC (notT nan0) (allC (notT nan1) (allC (notT nan2) (allC (notT nan3) (allC (notT nan4) (allC (notT nan5) (allC (notT nan6) (allC (notT nan7) (allC (decide_eq_true (by unfold padd pmul itn; omega)) (allC (decide_eq_true (by omega)) (allC (decide_eq_true (by omega)) allN))))))))))))))))), (fun h => by rw [hc] at h; cases h)⟩
    · rw [hk] at h; cases h
    · rw [hk] at h
      cases h
      refine ⟨fun b hb => ?_, ?_⟩
      · rw [List.mem_singleton.1 hb]
        refine gdI8B_to ?_
        obtain ⟨e0, e1, l0, l1, n0, n3, y0, _, _, u0, u1, u2, u3, u4, u5, u6, u7⟩ := gdI8N_k s
        unfold iadd at e0
        unfold padd at l1
        unfold pmul padd at n3
        refine ⟨by omega, by omega, by omega, by omega, by omega, by omega, by omega, ?_, ?_⟩
        · rw [y0, l0]
          exact i8
        · intro i hi
          rw [eightI (P := fun i => (gdI8N s).x.u (138 + i) = s.x.u (138 + i)) u0 u1 u2 u3 u4 u5 u6 u7 i hi]
          exact i9 i hi
      · obtain ⟨e0, e1, l0, _⟩ := gdI8N_k s
        unfold iadd at e0
        unfold gdI8Mu
        omega

noncomputable def gdI8F0 (s : SV) : Nat × SV := Go.Sim.runT gdI8T (gdI8Mu s + 1) s

noncomputable def gdI8F : SV → Nat × SV := Classical.choose (⟨gdI8F0, rfl⟩ : ∃ f, f = gdI8F0)

theorem gdI8F_eq : gdI8F = gdI8F0 := Classical.choose_spec (⟨gdI8F0, rfl⟩ : ∃ f, f = gdI8F0)

noncomputable def gdI8Pre (s : SV) : List Bool := [gdI8B s]

noncomputable def HgdI8 : LTab := hookL 0 gdI8L gdI8Pre gdI8F noLT

theorem HgdI8_ok : HFun Try.prog 1 HgdI8 57 := by
  unfold HgdI8
  rw [gdI8F_eq]
  exact HFun.loop GAasI_ok mixed (J := true) (n := 1000) (L := gdI8L) (T := gdI8T) (pre := gdI8Pre) (μ := gdI8Mu) (HFun.none Try.prog 1 57) (by kernel_rfl) (by decide) (by decide) gdI8_t gdI8_go

end Go.Proofs.Ytagkkkplmilkhaa

/-
  Facts of this seat that its laws use; no conditions.
-/
import Derived.Test.YtagkkkplmilkhaaAskS
namespace Go.Proofs.Ytagkkkplmilkhaa
open Go.Sim Go.ChangeShapes Go.WideShapes Go.ChangeAt Go.RowKit

noncomputable def szD (t r : Nat) : Nat := (szR [.flt .f32 (farith .sub .f32 t r)]).u 0

/-- The greatest of some numbers, from 0 on. -/
noncomputable def gM (f : Nat → Nat) : Nat → Nat
  | 0 => 0
  | z + 1 => bif fcmp .gtr .f32 (f z) (gM f z) then f z else gM f z

theorem gM_congr {f g : Nat → Nat} {z : Nat} (h : ∀ i, i < z → f i = g i) : gM f z = gM g z := by
  induction z with
  | zero => rfl
  | succ z ih =>
    simp only [gM]
    rw [h z (Nat.lt_succ_self z), ih fun i hi => h i (Nat.lt_succ_of_lt hi)]

/-- Whether a row is good. -/
noncomputable def goodF (z : Nat) (t : Nat → Nat) (w : Nat) (y : Vars) (k : Nat) : Bool := fcmp .leq .f32 (gM (fun i => szD (t i) (y.u (8 * k + i))) z) w

/-- How many of the numbers from 'a' on. -/
def cntF (g : Nat → Bool) : Nat → Nat → Int
  | _, 0 => 0
  | a, n + 1 => (bif g a then 1 else 0) + cntF g (a + 1) n

theorem cntF_congr {g h : Nat → Bool} : ∀ {n a : Nat}, (∀ j, a ≤ j → j < a + n → g j = h j) → cntF g a n = cntF h a n
  | 0, _, _ => rfl
  | n + 1, a, hh => by
    simp only [cntF]
    rw [hh a (Nat.le_refl _) (by omega), cntF_congr fun j h1 h2 => hh j (by omega) (by omega)]

theorem bif_add (b : Bool) (n : Int) : (bif b then iadd n 1 else n) = n + (bif b then 1 else 0) := by
  cases b with
  | true => rfl
  | false => exact (Int.add_zero n).symm

/-- A loop that counts. -/
theorem cnt_run {T : SV → Tr} {N E : SV → SV} (P : SV → Prop) (gk : Nat → Bool) (L : Nat)
    (hp : ∀ s, P s → s.x.i 0 < L → (T s).pick = .next (N s))
    (hn : ∀ s, P s → (N s).x.i 0 = s.x.i 0 + 1 ∧ (N s).x.i 1 = s.x.i 1 + (bif gk (s.x.i 0).toNat then 1 else 0) ∧ P (N s))
    (he : ∀ s, P s → ¬ s.x.i 0 < L → (T s).pick = .out 0 (E s) ∧ (E s).x.i 0 = s.x.i 1) :
    ∀ n s, P s → 0 ≤ s.x.i 0 → s.x.i 0 ≤ L → ((L : Int) - s.x.i 0).toNat < n →
      (Go.Sim.runT T n s).1 = 0 ∧ (Go.Sim.runT T n s).2.x.i 0 = s.x.i 1 + cntF gk (s.x.i 0).toNat (L - (s.x.i 0).toNat) ∧ ∃ r, P r ∧ (Go.Sim.runT T n s).2 = E r := by
  intro n
  induction n with
  | zero => intro s _ _ _ h; omega
  | succ n ih =>
    intro s hs h0 h1 h2
    simp only [Go.Sim.runT]
    by_cases hlt : s.x.i 0 < L
    · rw [hp s hs hlt]
      obtain ⟨e0, e1, e2⟩ := hn s hs
      obtain ⟨g1, g2, g3⟩ := ih (N s) e2 (by omega) (by omega) (by omega)
      refine ⟨g1, g2.trans ?_, g3⟩
      rw [show L - (s.x.i 0).toNat = (L - ((N s).x.i 0).toNat) + 1 by omega]
      simp only [cntF]
      rw [e1, show ((N s).x.i 0).toNat = (s.x.i 0).toNat + 1 by omega]
      omega
    · obtain ⟨q1, q2⟩ := he s hs hlt
      rw [q1]
      refine ⟨rfl, q2.trans ?_, s, hs, rfl⟩
      rw [show L - (s.x.i 0).toNat = 0 by omega]
      exact (Int.add_zero _).symm

noncomputable def ciL : LP := { A := 1, ts := [22, 10, 20, 21, 9], F := ⟨[.sc (.int .i64), .sc (.int .i64), .ssl 1 0 1, .sc (.int .i64), .sc (.int .i64)], [.sym (.flt .f32) false, .sym .bool false]⟩, xs := [(.exit 0, [10, 9], ⟨[.sc (.int .i64), .sc (.int .i64)], [.sym (.flt .f32) false]⟩)] }

noncomputable def ciN (s : SV) : SV := (mkSV [(.sint .i64 (iadd (s.x.i 0) 1)), (.sint .i64 (bif ((s.y 1).b (padd 0 (pmul (itn (s.x.i 0)) 1))) then (iadd (s.x.i 1) 1) else (s.x.i 1))), (.sint .i64 (s.x.i 2)), (.sint .i64 (s.x.i 3))] [(s.len 0)] [(s.n 0), (s.n 1)] [(s.y 0), (s.y 1)])
noncomputable def ciE (s : SV) : SV := (mkSV [(.sint .i64 (s.x.i 1)), (.sint .i64 (s.x.i 3))] [] [(s.n 0)] [(s.y 0)])

noncomputable def ciT (s : SV) : Tr := .node [] (decide ((s.x.i 0) < (s.x.i 2))) (.next (ciN s) [((decide ((-(9223372036854775807 + 1)) ≤ (iadd (s.x.i 0) 1))) && (decide ((iadd (s.x.i 0) 1) ≤ 9223372036854775807))), ((!((s.y 1).b (padd 0 (pmul (itn (s.x.i 0)) 1)))) || ((decide ((-(9223372036854775807 + 1)) ≤ (iadd (s.x.i 1) 1))) && (decide ((iadd (s.x.i 1) 1) ≤ 9223372036854775807)))), (decide ((padd 0 (pmul (itn (s.x.i 0)) 1)) < (s.n 1))), (decide (0 ≤ (s.x.i 0))), (decide ((s.x.i 0) < (s.len 0)))]) (.out 0 (ciE s) [])

theorem ci_t (s : SV) : Go.Sim.stepT Try.prog GAasI (ntOf Try.prog 13) noLT true 1000 ciL (loopOf Try.prog 13 0) s = some (ciT s) := by kernel_rfl

def ciP (s : SV) : Prop := 0 ≤ s.x.i 0 ∧ s.x.i 0 ≤ s.len 0 ∧ s.len 0 ≤ 1048576 ∧ s.x.i 2 = s.len 0 ∧ s.n 1 = s.len 0 ∧ 0 ≤ s.x.i 1 ∧ s.x.i 1 ≤ s.x.i 0

noncomputable def ciB (s : SV) : Bool := @decide (ciP s) (Classical.propDecidable _)
theorem ciB_of {s : SV} (h : ciB s = true) : ciP s := @of_decide_eq_true _ (Classical.propDecidable _) h
theorem ciB_to {s : SV} (h : ciP s) : ciB s = true := @decide_eq_true _ (Classical.propDecidable _) h

theorem ciN_k (s : SV) : (ciN s).x.i 0 = iadd (s.x.i 0) 1 ∧ (ciN s).x.i 1 = (bif ((s.y 1).b (padd 0 (pmul (itn (s.x.i 0)) 1))) then (iadd (s.x.i 1) 1) else (s.x.i 1)) ∧ (ciN s).x.i 2 = s.x.i 2 ∧ (ciN s).x.i 3 = s.x.i 3 ∧ (ciN s).len 0 = s.len 0 ∧ (ciN s).n 1 = s.n 1 ∧ (ciN s).y 1 = s.y 1 := ⟨by kernel_rfl, by kernel_rfl, by kernel_rfl, by kernel_rfl, by kernel_rfl, by kernel_rfl, by kernel_rfl⟩

def ciMu (s : SV) : Nat := ((s.len 0 : Int) - s.x.i 0).toNat

theorem ci_go (s : SV) (hp : ∀ b ∈ [ciB s], b = true) :
    (ciT s).ok ∧ (∀ k s', (ciT s).pick = .out k s' → k < 1) ∧ ∀ s', (ciT s).pick = .next s' → (∀ b ∈ [ciB s'], b = true) ∧ ciMu s' < ciMu s := by
  have hP := ciB_of (hp _ (List.mem_cons_self ..))
  have hP' := hP
  obtain ⟨i1, i2, i3, i4, i5, i6, i7⟩ := hP
  cases hc : (decide ((s.x.i 0) < (s.x.i 2))) with
  | false =>
    have hk : (ciT s).pick = .out 0 (ciE s) := by unfold ciT; rw [hc]; rfl
    refine ⟨?_, fun k s' h => ?_, fun s' h => ?_⟩
    · unfold ciT
      exact ⟨allN, (fun h => by rw [hc] at h; cases h), (fun _ b hb => by cases hb)⟩
    · rw [hk] at h; cases h; decide
    · rw [hk] at h; cases h
  | true =>
    have hlt := of_decide_eq_true hc
    (try unfold ofN at hlt)
    have hk : (ciT s).pick = .next (ciN s) := by unfold ciT; rw [hc]; rfl
    refine ⟨?_, fun k s' h => ?_, fun s' h => ?_⟩
    · unfold ciT
      exact ⟨allN, (fun _ => (allC (andT (decide_eq_true (by unfold iadd; omega)) (decide_eq_true (by unfold iadd; omega))) (allC (orTr (andT (decide_eq_true (by unfold iadd; omega)) (decide_eq_true (by unfold iadd; omega)))) (allC (decide_eq_true (by unfold padd pmul itn; omega)) (allC (decide_eq_true (by omega)) (allC (decide_eq_true (by omega)) allN)))))), (fun h => by rw [hc] at h; cases h)⟩
    · rw [hk] at h; cases h
    · rw [hk] at h
      cases h
      refine ⟨fun b hb => ?_, ?_⟩
      · rw [List.mem_singleton.1 hb]
        refine ciB_to ?_
        obtain ⟨e0, e1, e2, _, l0, n1, _⟩ := ciN_k s
        rw [bif_add] at e1
        unfold iadd at e0
        cases hb : (s.y 1).b (padd 0 (pmul (itn (s.x.i 0)) 1)) with
        | true =>
          rw [hb] at e1
          have e1 : (ciN s).x.i 1 = s.x.i 1 + 1 := e1
          exact ⟨by omega, by omega, by omega, by omega, by omega, by omega, by omega⟩
        | false =>
          rw [hb] at e1
          have e1 : (ciN s).x.i 1 = s.x.i 1 + 0 := e1
          exact ⟨by omega, by omega, by omega, by omega, by omega, by omega, by omega⟩
      · obtain ⟨e0, e1, e2, _, l0, n1, _⟩ := ciN_k s
        unfold iadd at e0
        unfold ciMu
        omega

noncomputable def ciF0 (s : SV) : Nat × SV := Go.Sim.runT ciT (ciMu s + 1) s

noncomputable def ciF : SV → Nat × SV := Classical.choose (⟨ciF0, rfl⟩ : ∃ f, f = ciF0)

theorem ciF_eq : ciF = ciF0 := Classical.choose_spec (⟨ciF0, rfl⟩ : ∃ f, f = ciF0)

noncomputable def ciPre (s : SV) : List Bool := [ciB s]

noncomputable def Hci : LTab := hookL 0 ciL ciPre ciF noLT

theorem Hci_ok : HFun Try.prog 1 Hci 13 := by
  unfold Hci
  rw [ciF_eq]
  exact HFun.loop GAasI_ok mixed (J := true) (n := 1000) (L := ciL) (T := ciT) (pre := ciPre) (μ := ciMu) (HFun.none Try.prog 1 13) (by kernel_rfl) (by decide) (by decide) ci_t ci_go

theorem ci_yes (s : SV) (h0 : 0 ≤ s.x.i 0) (h1 : s.x.i 0 ≤ s.len 0) (h2 : s.x.i 2 = s.len 0) :
    (ciF s).1 = 0 ∧ (ciF s).2.x.i 0 = s.x.i 1 + cntF (fun j => (s.y 1).b j) (s.x.i 0).toNat (s.len 0 - (s.x.i 0).toNat) ∧ (ciF s).2.x.i 1 = s.x.i 3 := by
  rw [ciF_eq]
  let P : SV → Prop := fun r => r.x.i 2 = s.len 0 ∧ r.y 1 = s.y 1 ∧ r.x.i 3 = s.x.i 3
  have k1 : ∀ r, P r → r.x.i 0 < s.len 0 → (ciT r).pick = .next (ciN r) := fun r hr hlt => by
    unfold ciT
    rw [decide_eq_true (show r.x.i 0 < r.x.i 2 by have := hr.1; omega)]
    rfl
  have k2 : ∀ r, P r → (ciN r).x.i 0 = r.x.i 0 + 1 ∧ (ciN r).x.i 1 = r.x.i 1 + (bif (s.y 1).b (r.x.i 0).toNat then 1 else 0) ∧ P (ciN r) := fun r hr => by
    obtain ⟨e0, e1, e2, e3, _, _, y1⟩ := ciN_k r
    rw [bif_add] at e1
    have hi : padd 0 (pmul (itn (r.x.i 0)) 1) = (r.x.i 0).toNat := by unfold padd pmul itn; omega
    rw [hi, hr.2.1] at e1
    exact ⟨e0, e1, e2.trans hr.1, y1.trans hr.2.1, e3.trans hr.2.2⟩
  have k3 : ∀ r, P r → ¬ r.x.i 0 < s.len 0 → (ciT r).pick = .out 0 (ciE r) ∧ (ciE r).x.i 0 = r.x.i 1 := fun r hr hlt => by
    refine ⟨?_, by kernel_rfl⟩
    unfold ciT
    rw [decide_eq_false (show ¬ r.x.i 0 < r.x.i 2 by have := hr.1; omega)]
    rfl
  obtain ⟨a, b, r, hr, e⟩ := cnt_run (T := ciT) (N := ciN) (E := ciE) P (fun j => (s.y 1).b j) (s.len 0) k1 k2 k3 (ciMu s + 1) s ⟨h2, rfl, rfl⟩ h0 h1 (Nat.lt_succ_self _)
  refine ⟨a, b, ?_⟩
  show (Go.Sim.runT ciT (ciMu s + 1) s).2.x.i 1 = _
  rw [e]
  exact (show (ciE r).x.i 1 = r.x.i 3 from by kernel_rfl).trans hr.2.2

noncomputable def cnS1G (s : SV) : Bool := fcmp .leq .f32 (gM (fun i => szD (s.x.u (138 + i)) ((s.y 0).u (padd i (pmul (itn (s.x.i 0)) 8)))) 1) (s.x.u 146)

noncomputable def cnS1N (s : SV) : SV := (mkSV (apl [(.sint .i64 (iadd (s.x.i 0) 1)), (.sint .i64 (bif (cnS1G s) then (iadd (s.x.i 1) 1) else (s.x.i 1)))] (apl (fl s.x 2 8) (apl [(.sint .i8 (s.x.i 10))] (apl (fl s.x 11 14) (apl [(.sint .i8 (s.x.i 25))] (apl (fl s.x 26 14) (apl [(.sint .i8 (s.x.i 40))] (apl (fl s.x 41 14) (apl [(.sint .i8 (s.x.i 55))] (apl (fl s.x 56 14) (apl [(.sint .i8 (s.x.i 70))] (apl (fl s.x 71 14) (apl [(.sint .i8 (s.x.i 85))] (apl (fl s.x 86 14) (apl [(.sint .i8 (s.x.i 100))] (apl (fl s.x 101 14) (apl [(.sint .i8 (s.x.i 115))] (apl (fl s.x 116 32) ([(.sint .i16 (s.x.i 148))]))))))))))))))))))) [(s.len 0)] [(s.n 0), 0, 0] [(s.y 0), zeroV, zeroV])
noncomputable def cnS1E (s : SV) : SV := (mkSV [(.sint .i64 (s.x.i 1))] [] [(s.n 0)] [(s.y 0)])

noncomputable def cnS1T (s : SV) : Tr := .node [((decide ((-(9223372036854775807 + 1)) ≤ (ofN (s.len 0)))) && (decide ((ofN (s.len 0)) ≤ 9223372036854775807)))] (decide ((s.x.i 0) < (ofN (s.len 0)))) (.next (cnS1N s) [((decide ((-(9223372036854775807 + 1)) ≤ (iadd (s.x.i 0) 1))) && (decide ((iadd (s.x.i 0) 1) ≤ 9223372036854775807))), ((!(cnS1G s)) || ((decide ((-(9223372036854775807 + 1)) ≤ (iadd (s.x.i 1) 1))) && (decide ((iadd (s.x.i 1) 1) ≤ 9223372036854775807)))), (decide ((padd 0 (pmul (itn (s.x.i 0)) 8)) < (s.n 0))), (decide (0 ≤ (s.x.i 0))), (decide ((s.x.i 0) < (s.len 0)))]) (.out 0 (cnS1E s) [])

theorem cnS1_t (s : SV) : Go.Sim.stepT Try.prog GAasI (ntOf Try.prog 9) noLT true 1000 cnS1L (loopOf Try.prog 9 0) s = some (cnS1T s) := by kernel_rfl

def cnS1P (s : SV) : Prop := 0 ≤ s.x.i 0 ∧ s.x.i 0 ≤ s.len 0 ∧ s.len 0 ≤ 1048576 ∧ s.n 0 = 8 * s.len 0 ∧ 0 ≤ s.x.i 1 ∧ s.x.i 1 ≤ s.x.i 0

noncomputable def cnS1B (s : SV) : Bool := @decide (cnS1P s) (Classical.propDecidable _)
theorem cnS1B_of {s : SV} (h : cnS1B s = true) : cnS1P s := @of_decide_eq_true _ (Classical.propDecidable _) h
theorem cnS1B_to {s : SV} (h : cnS1P s) : cnS1B s = true := @decide_eq_true _ (Classical.propDecidable _) h

theorem cnS1N_k (s : SV) : (cnS1N s).x.i 0 = iadd (s.x.i 0) 1 ∧ (cnS1N s).x.i 1 = (bif (cnS1G s) then (iadd (s.x.i 1) 1) else (s.x.i 1)) ∧ (cnS1N s).len 0 = s.len 0 ∧ (cnS1N s).n 0 = s.n 0 ∧ (cnS1N s).y 0 = s.y 0 ∧ (cnS1N s).x.u 146 = s.x.u 146 ∧ (cnS1N s).x.u (138 + 0) = s.x.u (138 + 0) ∧ (cnS1N s).x.u (138 + 1) = s.x.u (138 + 1) ∧ (cnS1N s).x.u (138 + 2) = s.x.u (138 + 2) ∧ (cnS1N s).x.u (138 + 3) = s.x.u (138 + 3) ∧ (cnS1N s).x.u (138 + 4) = s.x.u (138 + 4) ∧ (cnS1N s).x.u (138 + 5) = s.x.u (138 + 5) ∧ (cnS1N s).x.u (138 + 6) = s.x.u (138 + 6) ∧ (cnS1N s).x.u (138 + 7) = s.x.u (138 + 7) := ⟨by kernel_rfl, by kernel_rfl, by kernel_rfl, by kernel_rfl, by kernel_rfl, by kernel_rfl, by kernel_rfl, by kernel_rfl, by kernel_rfl, by kernel_rfl, by kernel_rfl, by kernel_rfl, by kernel_rfl, by kernel_rfl⟩

def cnS1Mu (s : SV) : Nat := ((s.len 0 : Int) - s.x.i 0).toNat

theorem cnS1_go (s : SV) (hp : ∀ b ∈ [cnS1B s], b = true) :
    (cnS1T s).ok ∧ (∀ k s', (cnS1T s).pick = .out k s' → k < 1) ∧ ∀ s', (cnS1T s).pick = .next s' → (∀ b ∈ [cnS1B s'], b = true) ∧ cnS1Mu s' < cnS1Mu s := by
  have hP := cnS1B_of (hp _ (List.mem_cons_self ..))
  have hP' := hP
  obtain ⟨i1, i2, i3, i4, i5, i6⟩ := hP
  cases hc : (decide ((s.x.i 0) < (ofN (s.len 0)))) with
  | false =>
    have hk : (cnS1T s).pick = .out 0 (cnS1E s) := by unfold cnS1T; rw [hc]; rfl
    refine ⟨?_, fun k s' h => ?_, fun s' h => ?_⟩
    · unfold cnS1T
      exact ⟨(allC (andT (decide_eq_true (by unfold ofN; omega)) (decide_eq_true (by unfold ofN; omega))) allN), (fun h => by rw [hc] at h; cases h), (fun _ b hb => by cases hb)⟩
    · rw [hk] at h; cases h; decide
    · rw [hk] at h; cases h
  | true =>
    have hlt := of_decide_eq_true hc
    (try unfold ofN at hlt)
    have hk : (cnS1T s).pick = .next (cnS1N s) := by unfold cnS1T; rw [hc]; rfl
    refine ⟨?_, fun k s' h => ?_, fun s' h => ?_⟩
    · unfold cnS1T
      exact ⟨(allC (andT (decide_eq_true (by unfold ofN; omega)) (decide_eq_true (by unfold ofN; omega))) allN), (fun _ => (allC (andT (decide_eq_true (by unfold iadd; omega)) (decide_eq_true (by unfold iadd; omega))) (allC (orTr (andT (decide_eq_true (by unfold iadd; omega)) (decide_eq_true (by unfold iadd; omega)))) (allC (decide_eq_true (by unfold padd pmul itn; omega)) (allC (decide_eq_true (by omega)) (allC (decide_eq_true (by omega)) allN)))))), (fun h => by rw [hc] at h; cases h)⟩
    · rw [hk] at h; cases h
    · rw [hk] at h
      cases h
      refine ⟨fun b hb => ?_, ?_⟩
      · rw [List.mem_singleton.1 hb]
        refine cnS1B_to ?_
        obtain ⟨e0, e1, l0, n0, _⟩ := cnS1N_k s
        rw [bif_add] at e1
        unfold iadd at e0
        cases hb : cnS1G s with
        | true =>
          rw [hb] at e1
          have e1 : (cnS1N s).x.i 1 = s.x.i 1 + 1 := e1
          exact ⟨by omega, by omega, by omega, by omega, by omega, by omega⟩
        | false =>
          rw [hb] at e1
          have e1 : (cnS1N s).x.i 1 = s.x.i 1 + 0 := e1
          exact ⟨by omega, by omega, by omega, by omega, by omega, by omega⟩
      · obtain ⟨e0, e1, l0, n0, _⟩ := cnS1N_k s
        unfold iadd at e0
        unfold cnS1Mu
        omega

noncomputable def cnS1F0 (s : SV) : Nat × SV := Go.Sim.runT cnS1T (cnS1Mu s + 1) s

noncomputable def cnS1F : SV → Nat × SV := Classical.choose (⟨cnS1F0, rfl⟩ : ∃ f, f = cnS1F0)

theorem cnS1F_eq : cnS1F = cnS1F0 := Classical.choose_spec (⟨cnS1F0, rfl⟩ : ∃ f, f = cnS1F0)

noncomputable def cnS1Pre (s : SV) : List Bool := [cnS1B s]

noncomputable def HcnS1 : LTab := hookL 0 cnS1L cnS1Pre cnS1F noLT

theorem HcnS1_ok : HFun Try.prog 1 HcnS1 9 := by
  unfold HcnS1
  rw [cnS1F_eq]
  exact HFun.loop GAasI_ok mixed (J := true) (n := 1000) (L := cnS1L) (T := cnS1T) (pre := cnS1Pre) (μ := cnS1Mu) (HFun.none Try.prog 1 9) (by kernel_rfl) (by decide) (by decide) cnS1_t cnS1_go

theorem cnS1G_eq (s : SV) : cnS1G s = goodF 1 (fun i => s.x.u (138 + i)) (s.x.u 146) (s.y 0) (s.x.i 0).toNat := by
  have e : cnS1G s = fcmp .leq .f32 (gM (fun i => szD (s.x.u (138 + i)) ((s.y 0).u (padd i (pmul (itn (s.x.i 0)) 8)))) 1) (s.x.u 146) := by kernel_rfl
  rw [e]
  unfold goodF
  rw [gM_congr (z := 1) (f := fun i => szD (s.x.u (138 + i)) ((s.y 0).u (padd i (pmul (itn (s.x.i 0)) 8)))) (g := fun i => szD (s.x.u (138 + i)) ((s.y 0).u (8 * (s.x.i 0).toNat + i))) fun i _ => by rw [idxS]]

theorem cnS1_yes (s : SV) (h0 : 0 ≤ s.x.i 0) (h1 : s.x.i 0 ≤ s.len 0) :
    (cnS1F s).1 = 0 ∧ (cnS1F s).2.x.i 0 = s.x.i 1 + cntF (goodF 1 (fun i => s.x.u (138 + i)) (s.x.u 146) (s.y 0)) (s.x.i 0).toNat (s.len 0 - (s.x.i 0).toNat) := by
  rw [cnS1F_eq]
  let P : SV → Prop := fun r => r.len 0 = s.len 0 ∧ r.y 0 = s.y 0 ∧ r.x.u 146 = s.x.u 146 ∧ ∀ i, i < 8 → r.x.u (138 + i) = s.x.u (138 + i)
  have k1 : ∀ r, P r → r.x.i 0 < s.len 0 → (cnS1T r).pick = .next (cnS1N r) := fun r hr hlt => by
    unfold cnS1T
    rw [decide_eq_true (show r.x.i 0 < ofN (r.len 0) by unfold ofN; have := hr.1; omega)]
    rfl
  have k2 : ∀ r, P r → (cnS1N r).x.i 0 = r.x.i 0 + 1 ∧ (cnS1N r).x.i 1 = r.x.i 1 + (bif goodF 1 (fun i => s.x.u (138 + i)) (s.x.u 146) (s.y 0) (r.x.i 0).toNat then 1 else 0) ∧ P (cnS1N r) := fun r hr => by
    obtain ⟨e0, e1, l0, _, y0, w0, u0, u1, u2, u3, u4, u5, u6, u7⟩ := cnS1N_k r
    obtain ⟨q0, q1, q2, q3⟩ := hr
    rw [bif_add, cnS1G_eq, q1, q2] at e1
    have eg : goodF 1 (fun i => r.x.u (138 + i)) (s.x.u 146) (s.y 0) (r.x.i 0).toNat = goodF 1 (fun i => s.x.u (138 + i)) (s.x.u 146) (s.y 0) (r.x.i 0).toNat := by
      unfold goodF
      rw [gM_congr (z := 1) (f := fun i => szD (r.x.u (138 + i)) ((s.y 0).u (8 * (r.x.i 0).toNat + i))) (g := fun i => szD (s.x.u (138 + i)) ((s.y 0).u (8 * (r.x.i 0).toNat + i))) fun i hi => by rw [q3 i (by omega)]]
    rw [eg] at e1
    exact ⟨e0, e1, l0.trans q0, y0.trans q1, w0.trans q2, fun i hi => (eightI (P := fun i => (cnS1N r).x.u (138 + i) = r.x.u (138 + i)) u0 u1 u2 u3 u4 u5 u6 u7 i hi).trans (q3 i hi)⟩
  have k3 : ∀ r, P r → ¬ r.x.i 0 < s.len 0 → (cnS1T r).pick = .out 0 (cnS1E r) ∧ (cnS1E r).x.i 0 = r.x.i 1 := fun r hr hlt => by
    refine ⟨?_, by kernel_rfl⟩
    unfold cnS1T
    rw [decide_eq_false (show ¬ r.x.i 0 < ofN (r.len 0) by unfold ofN; have := hr.1; omega)]
    rfl
  obtain ⟨a, b, _⟩ := cnt_run (T := cnS1T) (N := cnS1N) (E := cnS1E) P (goodF 1 (fun i => s.x.u (138 + i)) (s.x.u 146) (s.y 0)) (s.len 0) k1 k2 k3 (cnS1Mu s + 1) s ⟨rfl, rfl, rfl, fun _ _ => rfl⟩ h0 h1 (Nat.lt_succ_self _)
  exact ⟨a, b⟩

noncomputable def cnS2G (s : SV) : Bool := fcmp .leq .f32 (gM (fun i => szD (s.x.u (138 + i)) ((s.y 0).u (padd i (pmul (itn (s.x.i 0)) 8)))) 2) (s.x.u 146)

noncomputable def cnS2N (s : SV) : SV := (mkSV (apl [(.sint .i64 (iadd (s.x.i 0) 1)), (.sint .i64 (bif (cnS2G s) then (iadd (s.x.i 1) 1) else (s.x.i 1)))] (apl (fl s.x 2 8) (apl [(.sint .i8 (s.x.i 10))] (apl (fl s.x 11 14) (apl [(.sint .i8 (s.x.i 25))] (apl (fl s.x 26 14) (apl [(.sint .i8 (s.x.i 40))] (apl (fl s.x 41 14) (apl [(.sint .i8 (s.x.i 55))] (apl (fl s.x 56 14) (apl [(.sint .i8 (s.x.i 70))] (apl (fl s.x 71 14) (apl [(.sint .i8 (s.x.i 85))] (apl (fl s.x 86 14) (apl [(.sint .i8 (s.x.i 100))] (apl (fl s.x 101 14) (apl [(.sint .i8 (s.x.i 115))] (apl (fl s.x 116 32) ([(.sint .i16 (s.x.i 148))]))))))))))))))))))) [(s.len 0)] [(s.n 0), 0, 0] [(s.y 0), zeroV, zeroV])
noncomputable def cnS2E (s : SV) : SV := (mkSV [(.sint .i64 (s.x.i 1))] [] [(s.n 0)] [(s.y 0)])

noncomputable def cnS2T (s : SV) : Tr := .node [((decide ((-(9223372036854775807 + 1)) ≤ (ofN (s.len 0)))) && (decide ((ofN (s.len 0)) ≤ 9223372036854775807)))] (decide ((s.x.i 0) < (ofN (s.len 0)))) (.next (cnS2N s) [((decide ((-(9223372036854775807 + 1)) ≤ (iadd (s.x.i 0) 1))) && (decide ((iadd (s.x.i 0) 1) ≤ 9223372036854775807))), ((!(cnS2G s)) || ((decide ((-(9223372036854775807 + 1)) ≤ (iadd (s.x.i 1) 1))) && (decide ((iadd (s.x.i 1) 1) ≤ 9223372036854775807)))), (decide ((padd 1 (pmul (itn (s.x.i 0)) 8)) < (s.n 0))), (decide ((padd 0 (pmul (itn (s.x.i 0)) 8)) < (s.n 0))), (decide (0 ≤ (s.x.i 0))), (decide ((s.x.i 0) < (s.len 0)))]) (.out 0 (cnS2E s) [])

theorem cnS2_t (s : SV) : Go.Sim.stepT Try.prog GAasI (ntOf Try.prog 9) noLT true 1000 cnS2L (loopOf Try.prog 9 0) s = some (cnS2T s) := by kernel_rfl

def cnS2P (s : SV) : Prop := 0 ≤ s.x.i 0 ∧ s.x.i 0 ≤ s.len 0 ∧ s.len 0 ≤ 1048576 ∧ s.n 0 = 8 * s.len 0 ∧ 0 ≤ s.x.i 1 ∧ s.x.i 1 ≤ s.x.i 0

noncomputable def cnS2B (s : SV) : Bool := @decide (cnS2P s) (Classical.propDecidable _)
theorem cnS2B_of {s : SV} (h : cnS2B s = true) : cnS2P s := @of_decide_eq_true _ (Classical.propDecidable _) h
theorem cnS2B_to {s : SV} (h : cnS2P s) : cnS2B s = true := @decide_eq_true _ (Classical.propDecidable _) h

theorem cnS2N_k (s : SV) : (cnS2N s).x.i 0 = iadd (s.x.i 0) 1 ∧ (cnS2N s).x.i 1 = (bif (cnS2G s) then (iadd (s.x.i 1) 1) else (s.x.i 1)) ∧ (cnS2N s).len 0 = s.len 0 ∧ (cnS2N s).n 0 = s.n 0 ∧ (cnS2N s).y 0 = s.y 0 ∧ (cnS2N s).x.u 146 = s.x.u 146 ∧ (cnS2N s).x.u (138 + 0) = s.x.u (138 + 0) ∧ (cnS2N s).x.u (138 + 1) = s.x.u (138 + 1) ∧ (cnS2N s).x.u (138 + 2) = s.x.u (138 + 2) ∧ (cnS2N s).x.u (138 + 3) = s.x.u (138 + 3) ∧ (cnS2N s).x.u (138 + 4) = s.x.u (138 + 4) ∧ (cnS2N s).x.u (138 + 5) = s.x.u (138 + 5) ∧ (cnS2N s).x.u (138 + 6) = s.x.u (138 + 6) ∧ (cnS2N s).x.u (138 + 7) = s.x.u (138 + 7) := ⟨by kernel_rfl, by kernel_rfl, by kernel_rfl, by kernel_rfl, by kernel_rfl, by kernel_rfl, by kernel_rfl, by kernel_rfl, by kernel_rfl, by kernel_rfl, by kernel_rfl, by kernel_rfl, by kernel_rfl, by kernel_rfl⟩

def cnS2Mu (s : SV) : Nat := ((s.len 0 : Int) - s.x.i 0).toNat

theorem cnS2_go (s : SV) (hp : ∀ b ∈ [cnS2B s], b = true) :
    (cnS2T s).ok ∧ (∀ k s', (cnS2T s).pick = .out k s' → k < 1) ∧ ∀ s', (cnS2T s).pick = .next s' → (∀ b ∈ [cnS2B s'], b = true) ∧ cnS2Mu s' < cnS2Mu s := by
  have hP := cnS2B_of (hp _ (List.mem_cons_self ..))
  have hP' := hP
  obtain ⟨i1, i2, i3, i4, i5, i6⟩ := hP
  cases hc : (decide ((s.x.i 0) < (ofN (s.len 0)))) with
  | false =>
    have hk : (cnS2T s).pick = .out 0 (cnS2E s) := by unfold cnS2T; rw [hc]; rfl
    refine ⟨?_, fun k s' h => ?_, fun s' h => ?_⟩
    · unfold cnS2T
      exact ⟨(allC (andT (decide_eq_true (by unfold ofN; omega)) (decide_eq_true (by unfold ofN; omega))) allN), (fun h => by rw [hc] at h; cases h), (fun _ b hb => by cases hb)⟩
    · rw [hk] at h; cases h; decide
    · rw [hk] at h; cases h
  | true =>
    have hlt := of_decide_eq_true hc
    (try unfold ofN at hlt)
    have hk : (cnS2T s).pick = .next (cnS2N s) := by unfold cnS2T; rw [hc]; rfl
    refine ⟨?_, fun k s' h => ?_, fun s' h => ?_⟩
    · unfold cnS2T
      exact ⟨(allC (andT (decide_eq_true (by unfold ofN; omega)) (decide_eq_true (by unfold ofN; omega))) allN), (fun _ => (allC (andT (decide_eq_true (by unfold iadd; omega)) (decide_eq_true (by unfold iadd; omega))) (allC (orTr (andT (decide_eq_true (by unfold iadd; omega)) (decide_eq_true (by unfold iadd; omega)))) (allC (decide_eq_true (by unfold padd pmul itn; omega)) (allC (decide_eq_true (by unfold padd pmul itn; omega)) (allC (decide_eq_true (by omega)) (allC (decide_eq_true (by omega)) allN))))))), (fun h => by rw [hc] at h; cases h)⟩
    · rw [hk] at h; cases h
    · rw [hk] at h
      cases h
      refine ⟨fun b hb => ?_, ?_⟩
      · rw [List.mem_singleton.1 hb]
        refine cnS2B_to ?_
        obtain ⟨e0, e1, l0, n0, _⟩ := cnS2N_k s
        rw [bif_add] at e1
        unfold iadd at e0
        cases hb : cnS2G s with
        | true =>
          rw [hb] at e1
          have e1 : (cnS2N s).x.i 1 = s.x.i 1 + 1 := e1
          exact ⟨by omega, by omega, by omega, by omega, by omega, by omega⟩
        | false =>
          rw [hb] at e1
          have e1 : (cnS2N s).x.i 1 = s.x.i 1 + 0 := e1
          exact ⟨by omega, by omega, by omega, by omega, by omega, by omega⟩
      · obtain ⟨e0, e1, l0, n0, _⟩ := cnS2N_k s
        unfold iadd at e0
        unfold cnS2Mu
        omega

noncomputable def cnS2F0 (s : SV) : Nat × SV := Go.Sim.runT cnS2T (cnS2Mu s + 1) s

noncomputable def cnS2F : SV → Nat × SV := Classical.choose (⟨cnS2F0, rfl⟩ : ∃ f, f = cnS2F0)

theorem cnS2F_eq : cnS2F = cnS2F0 := Classical.choose_spec (⟨cnS2F0, rfl⟩ : ∃ f, f = cnS2F0)

noncomputable def cnS2Pre (s : SV) : List Bool := [cnS2B s]

noncomputable def HcnS2 : LTab := hookL 0 cnS2L cnS2Pre cnS2F noLT

theorem HcnS2_ok : HFun Try.prog 1 HcnS2 9 := by
  unfold HcnS2
  rw [cnS2F_eq]
  exact HFun.loop GAasI_ok mixed (J := true) (n := 1000) (L := cnS2L) (T := cnS2T) (pre := cnS2Pre) (μ := cnS2Mu) (HFun.none Try.prog 1 9) (by kernel_rfl) (by decide) (by decide) cnS2_t cnS2_go

theorem cnS2G_eq (s : SV) : cnS2G s = goodF 2 (fun i => s.x.u (138 + i)) (s.x.u 146) (s.y 0) (s.x.i 0).toNat := by
  have e : cnS2G s = fcmp .leq .f32 (gM (fun i => szD (s.x.u (138 + i)) ((s.y 0).u (padd i (pmul (itn (s.x.i 0)) 8)))) 2) (s.x.u 146) := by kernel_rfl
  rw [e]
  unfold goodF
  rw [gM_congr (z := 2) (f := fun i => szD (s.x.u (138 + i)) ((s.y 0).u (padd i (pmul (itn (s.x.i 0)) 8)))) (g := fun i => szD (s.x.u (138 + i)) ((s.y 0).u (8 * (s.x.i 0).toNat + i))) fun i _ => by rw [idxS]]

theorem cnS2_yes (s : SV) (h0 : 0 ≤ s.x.i 0) (h1 : s.x.i 0 ≤ s.len 0) :
    (cnS2F s).1 = 0 ∧ (cnS2F s).2.x.i 0 = s.x.i 1 + cntF (goodF 2 (fun i => s.x.u (138 + i)) (s.x.u 146) (s.y 0)) (s.x.i 0).toNat (s.len 0 - (s.x.i 0).toNat) := by
  rw [cnS2F_eq]
  let P : SV → Prop := fun r => r.len 0 = s.len 0 ∧ r.y 0 = s.y 0 ∧ r.x.u 146 = s.x.u 146 ∧ ∀ i, i < 8 → r.x.u (138 + i) = s.x.u (138 + i)
  have k1 : ∀ r, P r → r.x.i 0 < s.len 0 → (cnS2T r).pick = .next (cnS2N r) := fun r hr hlt => by
    unfold cnS2T
    rw [decide_eq_true (show r.x.i 0 < ofN (r.len 0) by unfold ofN; have := hr.1; omega)]
    rfl
  have k2 : ∀ r, P r → (cnS2N r).x.i 0 = r.x.i 0 + 1 ∧ (cnS2N r).x.i 1 = r.x.i 1 + (bif goodF 2 (fun i => s.x.u (138 + i)) (s.x.u 146) (s.y 0) (r.x.i 0).toNat then 1 else 0) ∧ P (cnS2N r) := fun r hr => by
    obtain ⟨e0, e1, l0, _, y0, w0, u0, u1, u2, u3, u4, u5, u6, u7⟩ := cnS2N_k r
    obtain ⟨q0, q1, q2, q3⟩ := hr
    rw [bif_add, cnS2G_eq, q1, q2] at e1
    have eg : goodF 2 (fun i => r.x.u (138 + i)) (s.x.u 146) (s.y 0) (r.x.i 0).toNat = goodF 2 (fun i => s.x.u (138 + i)) (s.x.u 146) (s.y 0) (r.x.i 0).toNat := by
      unfold goodF
      rw [gM_congr (z := 2) (f := fun i => szD (r.x.u (138 + i)) ((s.y 0).u (8 * (r.x.i 0).toNat + i))) (g := fun i => szD (s.x.u (138 + i)) ((s.y 0).u (8 * (r.x.i 0).toNat + i))) fun i hi => by rw [q3 i (by omega)]]
    rw [eg] at e1
    exact ⟨e0, e1, l0.trans q0, y0.trans q1, w0.trans q2, fun i hi => (eightI (P := fun i => (cnS2N r).x.u (138 + i) = r.x.u (138 + i)) u0 u1 u2 u3 u4 u5 u6 u7 i hi).trans (q3 i hi)⟩
  have k3 : ∀ r, P r → ¬ r.x.i 0 < s.len 0 → (cnS2T r).pick = .out 0 (cnS2E r) ∧ (cnS2E r).x.i 0 = r.x.i 1 := fun r hr hlt => by
    refine ⟨?_, by kernel_rfl⟩
    unfold cnS2T
    rw [decide_eq_false (show ¬ r.x.i 0 < ofN (r.len 0) by unfold ofN; have := hr.1; omega)]
    rfl
  obtain ⟨a, b, _⟩ := cnt_run (T := cnS2T) (N := cnS2N) (E := cnS2E) P (goodF 2 (fun i => s.x.u (138 + i)) (s.x.u 146) (s.y 0)) (s.len 0) k1 k2 k3 (cnS2Mu s + 1) s ⟨rfl, rfl, rfl, fun _ _ => rfl⟩ h0 h1 (Nat.lt_succ_self _)
  exact ⟨a, b⟩

noncomputable def cnS3G (s : SV) : Bool := fcmp .leq .f32 (gM (fun i => szD (s.x.u (138 + i)) ((s.y 0).u (padd i (pmul (itn (s.x.i 0)) 8)))) 3) (s.x.u 146)

noncomputable def cnS3N (s : SV) : SV := (mkSV (apl [(.sint .i64 (iadd (s.x.i 0) 1)), (.sint .i64 (bif (cnS3G s) then (iadd (s.x.i 1) 1) else (s.x.i 1)))] (apl (fl s.x 2 8) (apl [(.sint .i8 (s.x.i 10))] (apl (fl s.x 11 14) (apl [(.sint .i8 (s.x.i 25))] (apl (fl s.x 26 14) (apl [(.sint .i8 (s.x.i 40))] (apl (fl s.x 41 14) (apl [(.sint .i8 (s.x.i 55))] (apl (fl s.x 56 14) (apl [(.sint .i8 (s.x.i 70))] (apl (fl s.x 71 14) (apl [(.sint .i8 (s.x.i 85))] (apl (fl s.x 86 14) (apl [(.sint .i8 (s.x.i 100))] (apl (fl s.x 101 14) (apl [(.sint .i8 (s.x.i 115))] (apl (fl s.x 116 32) ([(.sint .i16 (s.x.i 148))]))))))))))))))))))) [(s.len 0)] [(s.n 0), 0, 0] [(s.y 0), zeroV, zeroV])
noncomputable def cnS3E (s : SV) : SV := (mkSV [(.sint .i64 (s.x.i 1))] [] [(s.n 0)] [(s.y 0)])

noncomputable def cnS3T (s : SV) : Tr := .node [((decide ((-(9223372036854775807 + 1)) ≤ (ofN (s.len 0)))) && (decide ((ofN (s.len 0)) ≤ 9223372036854775807)))] (decide ((s.x.i 0) < (ofN (s.len 0)))) (.next (cnS3N s) [((decide ((-(9223372036854775807 + 1)) ≤ (iadd (s.x.i 0) 1))) && (decide ((iadd (s.x.i 0) 1) ≤ 9223372036854775807))), ((!(cnS3G s)) || ((decide ((-(9223372036854775807 + 1)) ≤ (iadd (s.x.i 1) 1))) && (decide ((iadd (s.x.i 1) 1) ≤ 9223372036854775807)))), (decide ((padd 2 (pmul (itn (s.x.i 0)) 8)) < (s.n 0))), (decide ((padd 1 (pmul (itn (s.x.i 0)) 8)) < (s.n 0))), (decide ((padd 0 (pmul (itn (s.x.i 0)) 8)) < (s.n 0))), (decide (0 ≤ (s.x.i 0))), (decide ((s.x.i 0) < (s.len 0)))]) (.out 0 (cnS3E s) [])

theorem cnS3_t (s : SV) : Go.Sim.stepT Try.prog GAasI (ntOf Try.prog 9) noLT true 1000 cnS3L (loopOf Try.prog 9 0) s = some (cnS3T s) := by kernel_rfl

def cnS3P (s : SV) : Prop := 0 ≤ s.x.i 0 ∧ s.x.i 0 ≤ s.len 0 ∧ s.len 0 ≤ 1048576 ∧ s.n 0 = 8 * s.len 0 ∧ 0 ≤ s.x.i 1 ∧ s.x.i 1 ≤ s.x.i 0

noncomputable def cnS3B (s : SV) : Bool := @decide (cnS3P s) (Classical.propDecidable _)
theorem cnS3B_of {s : SV} (h : cnS3B s = true) : cnS3P s := @of_decide_eq_true _ (Classical.propDecidable _) h
theorem cnS3B_to {s : SV} (h : cnS3P s) : cnS3B s = true := @decide_eq_true _ (Classical.propDecidable _) h

theorem cnS3N_k (s : SV) : (cnS3N s).x.i 0 = iadd (s.x.i 0) 1 ∧ (cnS3N s).x.i 1 = (bif (cnS3G s) then (iadd (s.x.i 1) 1) else (s.x.i 1)) ∧ (cnS3N s).len 0 = s.len 0 ∧ (cnS3N s).n 0 = s.n 0 ∧ (cnS3N s).y 0 = s.y 0 ∧ (cnS3N s).x.u 146 = s.x.u 146 ∧ (cnS3N s).x.u (138 + 0) = s.x.u (138 + 0) ∧ (cnS3N s).x.u (138 + 1) = s.x.u (138 + 1) ∧ (cnS3N s).x.u (138 + 2) = s.x.u (138 + 2) ∧ (cnS3N s).x.u (138 + 3) = s.x.u (138 + 3) ∧ (cnS3N s).x.u (138 + 4) = s.x.u (138 + 4) ∧ (cnS3N s).x.u (138 + 5) = s.x.u (138 + 5) ∧ (cnS3N s).x.u (138 + 6) = s.x.u (138 + 6) ∧ (cnS3N s).x.u (138 + 7) = s.x.u (138 + 7) := ⟨by kernel_rfl, by kernel_rfl, by kernel_rfl, by kernel_rfl, by kernel_rfl, by kernel_rfl, by kernel_rfl, by kernel_rfl, by kernel_rfl, by kernel_rfl, by kernel_rfl, by kernel_rfl, by kernel_rfl, by kernel_rfl⟩

def cnS3Mu (s : SV) : Nat := ((s.len 0 : Int) - s.x.i 0).toNat

theorem cnS3_go (s : SV) (hp : ∀ b ∈ [cnS3B s], b = true) :
    (cnS3T s).ok ∧ (∀ k s', (cnS3T s).pick = .out k s' → k < 1) ∧ ∀ s', (cnS3T s).pick = .next s' → (∀ b ∈ [cnS3B s'], b = true) ∧ cnS3Mu s' < cnS3Mu s := by
  have hP := cnS3B_of (hp _ (List.mem_cons_self ..))
  have hP' := hP
  obtain ⟨i1, i2, i3, i4, i5, i6⟩ := hP
  cases hc : (decide ((s.x.i 0) < (ofN (s.len 0)))) with
  | false =>
    have hk : (cnS3T s).pick = .out 0 (cnS3E s) := by unfold cnS3T; rw [hc]; rfl
    refine ⟨?_, fun k s' h => ?_, fun s' h => ?_⟩
    · unfold cnS3T
      exact ⟨(allC (andT (decide_eq_true (by unfold ofN; omega)) (decide_eq_true (by unfold ofN; omega))) allN), (fun h => by rw [hc] at h; cases h), (fun _ b hb => by cases hb)⟩
    · rw [hk] at h; cases h; decide
    · rw [hk] at h; cases h
  | true =>
    have hlt := of_decide_eq_true hc
    (try unfold ofN at hlt)
    have hk : (cnS3T s).pick = .next (cnS3N s) := by unfold cnS3T; rw [hc]; rfl
    refine ⟨?_, fun k s' h => ?_, fun s' h => ?_⟩
    · unfold cnS3T
      exact ⟨(allC (andT (decide_eq_true (by unfold ofN; omega)) (decide_eq_true (by unfold ofN; omega))) allN), (fun _ => (allC (andT (decide_eq_true (by unfold iadd; omega)) (decide_eq_true (by unfold iadd; omega))) (allC (orTr (andT (decide_eq_true (by unfold iadd; omega)) (decide_eq_true (by unfold iadd; omega)))) (allC (decide_eq_true (by unfold padd pmul itn; omega)) (allC (decide_eq_true (by unfold padd pmul itn; omega)) (allC (decide_eq_true (by unfold padd pmul itn; omega)) (allC (decide_eq_true (by omega)) (allC (decide_eq_true (by omega)) allN)))))))), (fun h => by rw [hc] at h; cases h)⟩
    · rw [hk] at h; cases h
    · rw [hk] at h
      cases h
      refine ⟨fun b hb => ?_, ?_⟩
      · rw [List.mem_singleton.1 hb]
        refine cnS3B_to ?_
        obtain ⟨e0, e1, l0, n0, _⟩ := cnS3N_k s
        rw [bif_add] at e1
        unfold iadd at e0
        cases hb : cnS3G s with
        | true =>
          rw [hb] at e1
          have e1 : (cnS3N s).x.i 1 = s.x.i 1 + 1 := e1
          exact ⟨by omega, by omega, by omega, by omega, by omega, by omega⟩
        | false =>
          rw [hb] at e1
          have e1 : (cnS3N s).x.i 1 = s.x.i 1 + 0 := e1
          exact ⟨by omega, by omega, by omega, by omega, by omega, by omega⟩
      · obtain ⟨e0, e1, l0, n0, _⟩ := cnS3N_k s
        unfold iadd at e0
        unfold cnS3Mu
        omega

noncomputable def cnS3F0 (s : SV) : Nat × SV := Go.Sim.runT cnS3T (cnS3Mu s + 1) s

noncomputable def cnS3F : SV → Nat × SV := Classical.choose (⟨cnS3F0, rfl⟩ : ∃ f, f = cnS3F0)

theorem cnS3F_eq : cnS3F = cnS3F0 := Classical.choose_spec (⟨cnS3F0, rfl⟩ : ∃ f, f = cnS3F0)

noncomputable def cnS3Pre (s : SV) : List Bool := [cnS3B s]

noncomputable def HcnS3 : LTab := hookL 0 cnS3L cnS3Pre cnS3F noLT

theorem HcnS3_ok : HFun Try.prog 1 HcnS3 9 := by
  unfold HcnS3
  rw [cnS3F_eq]
  exact HFun.loop GAasI_ok mixed (J := true) (n := 1000) (L := cnS3L) (T := cnS3T) (pre := cnS3Pre) (μ := cnS3Mu) (HFun.none Try.prog 1 9) (by kernel_rfl) (by decide) (by decide) cnS3_t cnS3_go

theorem cnS3G_eq (s : SV) : cnS3G s = goodF 3 (fun i => s.x.u (138 + i)) (s.x.u 146) (s.y 0) (s.x.i 0).toNat := by
  have e : cnS3G s = fcmp .leq .f32 (gM (fun i => szD (s.x.u (138 + i)) ((s.y 0).u (padd i (pmul (itn (s.x.i 0)) 8)))) 3) (s.x.u 146) := by kernel_rfl
  rw [e]
  unfold goodF
  rw [gM_congr (z := 3) (f := fun i => szD (s.x.u (138 + i)) ((s.y 0).u (padd i (pmul (itn (s.x.i 0)) 8)))) (g := fun i => szD (s.x.u (138 + i)) ((s.y 0).u (8 * (s.x.i 0).toNat + i))) fun i _ => by rw [idxS]]

theorem cnS3_yes (s : SV) (h0 : 0 ≤ s.x.i 0) (h1 : s.x.i 0 ≤ s.len 0) :
    (cnS3F s).1 = 0 ∧ (cnS3F s).2.x.i 0 = s.x.i 1 + cntF (goodF 3 (fun i => s.x.u (138 + i)) (s.x.u 146) (s.y 0)) (s.x.i 0).toNat (s.len 0 - (s.x.i 0).toNat) := by
  rw [cnS3F_eq]
  let P : SV → Prop := fun r => r.len 0 = s.len 0 ∧ r.y 0 = s.y 0 ∧ r.x.u 146 = s.x.u 146 ∧ ∀ i, i < 8 → r.x.u (138 + i) = s.x.u (138 + i)
  have k1 : ∀ r, P r → r.x.i 0 < s.len 0 → (cnS3T r).pick = .next (cnS3N r) := fun r hr hlt => by
    unfold cnS3T
    rw [decide_eq_true (show r.x.i 0 < ofN (r.len 0) by unfold ofN; have := hr.1; omega)]
    rfl
  have k2 : ∀ r, P r → (cnS3N r).x.i 0 = r.x.i 0 + 1 ∧ (cnS3N r).x.i 1 = r.x.i 1 + (bif goodF 3 (fun i => s.x.u (138 + i)) (s.x.u 146) (s.y 0) (r.x.i 0).toNat then 1 else 0) ∧ P (cnS3N r) := fun r hr => by
    obtain ⟨e0, e1, l0, _, y0, w0, u0, u1, u2, u3, u4, u5, u6, u7⟩ := cnS3N_k r
    obtain ⟨q0, q1, q2, q3⟩ := hr
    rw [bif_add, cnS3G_eq, q1, q2] at e1
    have eg : goodF 3 (fun i => r.x.u (138 + i)) (s.x.u 146) (s.y 0) (r.x.i 0).toNat = goodF 3 (fun i => s.x.u (138 + i)) (s.x.u 146) (s.y 0) (r.x.i 0).toNat := by
      unfold goodF
      rw [gM_congr (z := 3) (f := fun i => szD (r.x.u (138 + i)) ((s.y 0).u (8 * (r.x.i 0).toNat + i))) (g := fun i => szD (s.x.u (138 + i)) ((s.y 0).u (8 * (r.x.i 0).toNat + i))) fun i hi => by rw [q3 i (by omega)]]
    rw [eg] at e1
    exact ⟨e0, e1, l0.trans q0, y0.trans q1, w0.trans q2, fun i hi => (eightI (P := fun i => (cnS3N r).x.u (138 + i) = r.x.u (138 + i)) u0 u1 u2 u3 u4 u5 u6 u7 i hi).trans (q3 i hi)⟩
  have k3 : ∀ r, P r → ¬ r.x.i 0 < s.len 0 → (cnS3T r).pick = .out 0 (cnS3E r) ∧ (cnS3E r).x.i 0 = r.x.i 1 := fun r hr hlt => by
    refine ⟨?_, by kernel_rfl⟩
    unfold cnS3T
    rw [decide_eq_false (show ¬ r.x.i 0 < ofN (r.len 0) by unfold ofN; have := hr.1; omega)]
    rfl
  obtain ⟨a, b, _⟩ := cnt_run (T := cnS3T) (N := cnS3N) (E := cnS3E) P (goodF 3 (fun i => s.x.u (138 + i)) (s.x.u 146) (s.y 0)) (s.len 0) k1 k2 k3 (cnS3Mu s + 1) s ⟨rfl, rfl, rfl, fun _ _ => rfl⟩ h0 h1 (Nat.lt_succ_self _)
  exact ⟨a, b⟩

noncomputable def cnS4G (s : SV) : Bool := fcmp .leq .f32 (gM (fun i => szD (s.x.u (138 + i)) ((s.y 0).u (padd i (pmul (itn (s.x.i 0)) 8)))) 4) (s.x.u 146)

noncomputable def cnS4N (s : SV) : SV := (mkSV (apl [(.sint .i64 (iadd (s.x.i 0) 1)), (.sint .i64 (bif (cnS4G s) then (iadd (s.x.i 1) 1) else (s.x.i 1)))] (apl (fl s.x 2 8) (apl [(.sint .i8 (s.x.i 10))] (apl (fl s.x 11 14) (apl [(.sint .i8 (s.x.i 25))] (apl (fl s.x 26 14) (apl [(.sint .i8 (s.x.i 40))] (apl (fl s.x 41 14) (apl [(.sint .i8 (s.x.i 55))] (apl (fl s.x 56 14) (apl [(.sint .i8 (s.x.i 70))] (apl (fl s.x 71 14) (apl [(.sint .i8 (s.x.i 85))] (apl (fl s.x 86 14) (apl [(.sint .i8 (s.x.i 100))] (apl (fl s.x 101 14) (apl [(.sint .i8 (s.x.i 115))] (apl (fl s.x 116 32) ([(.sint .i16 (s.x.i 148))]))))))))))))))))))) [(s.len 0)] [(s.n 0), 0, 0] [(s.y 0), zeroV, zeroV])
noncomputable def cnS4E (s : SV) : SV := (mkSV [(.sint .i64 (s.x.i 1))] [] [(s.n 0)] [(s.y 0)])

noncomputable def cnS4T (s : SV) : Tr := .node [((decide ((-(9223372036854775807 + 1)) ≤ (ofN (s.len 0)))) && (decide ((ofN (s.len 0)) ≤ 9223372036854775807)))] (decide ((s.x.i 0) < (ofN (s.len 0)))) (.next (cnS4N s) [((decide ((-(9223372036854775807 + 1)) ≤ (iadd (s.x.i 0) 1))) && (decide ((iadd (s.x.i 0) 1) ≤ 9223372036854775807))), ((!(cnS4G s)) || ((decide ((-(9223372036854775807 + 1)) ≤ (iadd (s.x.i 1) 1))) && (decide ((iadd (s.x.i 1) 1) ≤ 9223372036854775807)))), (decide ((padd 3 (pmul (itn (s.x.i 0)) 8)) < (s.n 0))), (decide ((padd 2 (pmul (itn (s.x.i 0)) 8)) < (s.n 0))), (decide ((padd 1 (pmul (itn (s.x.i 0)) 8)) < (s.n 0))), (decide ((padd 0 (pmul (itn (s.x.i 0)) 8)) < (s.n 0))), (decide (0 ≤ (s.x.i 0))), (decide ((s.x.i 0) < (s.len 0)))]) (.out 0 (cnS4E s) [])

theorem cnS4_t (s : SV) : Go.Sim.stepT Try.prog GAasI (ntOf Try.prog 9) noLT true 1000 cnS4L (loopOf Try.prog 9 0) s = some (cnS4T s) := by kernel_rfl

def cnS4P (s : SV) : Prop := 0 ≤ s.x.i 0 ∧ s.x.i 0 ≤ s.len 0 ∧ s.len 0 ≤ 1048576 ∧ s.n 0 = 8 * s.len 0 ∧ 0 ≤ s.x.i 1 ∧ s.x.i 1 ≤ s.x.i 0

noncomputable def cnS4B (s : SV) : Bool := @decide (cnS4P s) (Classical.propDecidable _)
theorem cnS4B_of {s : SV} (h : cnS4B s = true) : cnS4P s := @of_decide_eq_true _ (Classical.propDecidable _) h
theorem cnS4B_to {s : SV} (h : cnS4P s) : cnS4B s = true := @decide_eq_true _ (Classical.propDecidable _) h

theorem cnS4N_k (s : SV) : (cnS4N s).x.i 0 = iadd (s.x.i 0) 1 ∧ (cnS4N s).x.i 1 = (bif (cnS4G s) then (iadd (s.x.i 1) 1) else (s.x.i 1)) ∧ (cnS4N s).len 0 = s.len 0 ∧ (cnS4N s).n 0 = s.n 0 ∧ (cnS4N s).y 0 = s.y 0 ∧ (cnS4N s).x.u 146 = s.x.u 146 ∧ (cnS4N s).x.u (138 + 0) = s.x.u (138 + 0) ∧ (cnS4N s).x.u (138 + 1) = s.x.u (138 + 1) ∧ (cnS4N s).x.u (138 + 2) = s.x.u (138 + 2) ∧ (cnS4N s).x.u (138 + 3) = s.x.u (138 + 3) ∧ (cnS4N s).x.u (138 + 4) = s.x.u (138 + 4) ∧ (cnS4N s).x.u (138 + 5) = s.x.u (138 + 5) ∧ (cnS4N s).x.u (138 + 6) = s.x.u (138 + 6) ∧ (cnS4N s).x.u (138 + 7) = s.x.u (138 + 7) := ⟨by kernel_rfl, by kernel_rfl, by kernel_rfl, by kernel_rfl, by kernel_rfl, by kernel_rfl, by kernel_rfl, by kernel_rfl, by kernel_rfl, by kernel_rfl, by kernel_rfl, by kernel_rfl, by kernel_rfl, by kernel_rfl⟩

def cnS4Mu (s : SV) : Nat := ((s.len 0 : Int) - s.x.i 0).toNat

theorem cnS4_go (s : SV) (hp : ∀ b ∈ [cnS4B s], b = true) :
    (cnS4T s).ok ∧ (∀ k s', (cnS4T s).pick = .out k s' → k < 1) ∧ ∀ s', (cnS4T s).pick = .next s' → (∀ b ∈ [cnS4B s'], b = true) ∧ cnS4Mu s' < cnS4Mu s := by
  have hP := cnS4B_of (hp _ (List.mem_cons_self ..))
  have hP' := hP
  obtain ⟨i1, i2, i3, i4, i5, i6⟩ := hP
  cases hc : (decide ((s.x.i 0) < (ofN (s.len 0)))) with
  | false =>
    have hk : (cnS4T s).pick = .out 0 (cnS4E s) := by unfold cnS4T; rw [hc]; rfl
    refine ⟨?_, fun k s' h => ?_, fun s' h => ?_⟩
    · unfold cnS4T
      exact ⟨(allC (andT (decide_eq_true (by unfold ofN; omega)) (decide_eq_true (by unfold ofN; omega))) allN), (fun h => by rw [hc] at h; cases h), (fun _ b hb => by cases hb)⟩
    · rw [hk] at h; cases h; decide
    · rw [hk] at h; cases h
  | true =>
    have hlt := of_decide_eq_true hc
    (try unfold ofN at hlt)
    have hk : (cnS4T s).pick = .next (cnS4N s) := by unfold cnS4T; rw [hc]; rfl
    refine ⟨?_, fun k s' h => ?_, fun s' h => ?_⟩
    · unfold cnS4T
      exact ⟨(allC (andT (decide_eq_true (by unfold ofN; omega)) (decide_eq_true (by unfold ofN; omega))) allN), (fun _ => (allC (andT (decide_eq_true (by unfold iadd; omega)) (decide_eq_true (by unfold iadd; omega))) (allC (orTr (andT (decide_eq_true (by unfold iadd; omega)) (decide_eq_true (by unfold iadd; omega)))) (allC (decide_eq_true (by unfold padd pmul itn; omega)) (allC (decide_eq_true (by unfold padd pmul itn; omega)) (allC (decide_eq_true (by unfold padd pmul itn; omega)) (allC (decide_eq_true (by unfold padd pmul itn; omega)) (allC (decide_eq_true (by omega)) (allC (decide_eq_true (by omega)) allN))))))))), (fun h => by rw [hc] at h; cases h)⟩
    · rw [hk] at h; cases h
    · rw [hk] at h
      cases h
      refine ⟨fun b hb => ?_, ?_⟩
      · rw [List.mem_singleton.1 hb]
        refine cnS4B_to ?_
        obtain ⟨e0, e1, l0, n0, _⟩ := cnS4N_k s
        rw [bif_add] at e1
        unfold iadd at e0
        cases hb : cnS4G s with
        | true =>
          rw [hb] at e1
          have e1 : (cnS4N s).x.i 1 = s.x.i 1 + 1 := e1
          exact ⟨by omega, by omega, by omega, by omega, by omega, by omega⟩
        | false =>
          rw [hb] at e1
          have e1 : (cnS4N s).x.i 1 = s.x.i 1 + 0 := e1
          exact ⟨by omega, by omega, by omega, by omega, by omega, by omega⟩
      · obtain ⟨e0, e1, l0, n0, _⟩ := cnS4N_k s
        unfold iadd at e0
        unfold cnS4Mu
        omega

noncomputable def cnS4F0 (s : SV) : Nat × SV := Go.Sim.runT cnS4T (cnS4Mu s + 1) s

noncomputable def cnS4F : SV → Nat × SV := Classical.choose (⟨cnS4F0, rfl⟩ : ∃ f, f = cnS4F0)

theorem cnS4F_eq : cnS4F = cnS4F0 := Classical.choose_spec (⟨cnS4F0, rfl⟩ : ∃ f, f = cnS4F0)

noncomputable def cnS4Pre (s : SV) : List Bool := [cnS4B s]

noncomputable def HcnS4 : LTab := hookL 0 cnS4L cnS4Pre cnS4F noLT

theorem HcnS4_ok : HFun Try.prog 1 HcnS4 9 := by
  unfold HcnS4
  rw [cnS4F_eq]
  exact HFun.loop GAasI_ok mixed (J := true) (n := 1000) (L := cnS4L) (T := cnS4T) (pre := cnS4Pre) (μ := cnS4Mu) (HFun.none Try.prog 1 9) (by kernel_rfl) (by decide) (by decide) cnS4_t cnS4_go

theorem cnS4G_eq (s : SV) : cnS4G s = goodF 4 (fun i => s.x.u (138 + i)) (s.x.u 146) (s.y 0) (s.x.i 0).toNat := by
  have e : cnS4G s = fcmp .leq .f32 (gM (fun i => szD (s.x.u (138 + i)) ((s.y 0).u (padd i (pmul (itn (s.x.i 0)) 8)))) 4) (s.x.u 146) := by kernel_rfl
  rw [e]
  unfold goodF
  rw [gM_congr (z := 4) (f := fun i => szD (s.x.u (138 + i)) ((s.y 0).u (padd i (pmul (itn (s.x.i 0)) 8)))) (g := fun i => szD (s.x.u (138 + i)) ((s.y 0).u (8 * (s.x.i 0).toNat + i))) fun i _ => by rw [idxS]]

theorem cnS4_yes (s : SV) (h0 : 0 ≤ s.x.i 0) (h1 : s.x.i 0 ≤ s.len 0) :
    (cnS4F s).1 = 0 ∧ (cnS4F s).2.x.i 0 = s.x.i 1 + cntF (goodF 4 (fun i => s.x.u (138 + i)) (s.x.u 146) (s.y 0)) (s.x.i 0).toNat (s.len 0 - (s.x.i 0).toNat) := by
  rw [cnS4F_eq]
  let P : SV → Prop := fun r => r.len 0 = s.len 0 ∧ r.y 0 = s.y 0 ∧ r.x.u 146 = s.x.u 146 ∧ ∀ i, i < 8 → r.x.u (138 + i) = s.x.u (138 + i)
  have k1 : ∀ r, P r → r.x.i 0 < s.len 0 → (cnS4T r).pick = .next (cnS4N r) := fun r hr hlt => by
    unfold cnS4T
    rw [decide_eq_true (show r.x.i 0 < ofN (r.len 0) by unfold ofN; have := hr.1; omega)]
    rfl
  have k2 : ∀ r, P r → (cnS4N r).x.i 0 = r.x.i 0 + 1 ∧ (cnS4N r).x.i 1 = r.x.i 1 + (bif goodF 4 (fun i => s.x.u (138 + i)) (s.x.u 146) (s.y 0) (r.x.i 0).toNat then 1 else 0) ∧ P (cnS4N r) := fun r hr => by
    obtain ⟨e0, e1, l0, _, y0, w0, u0, u1, u2, u3, u4, u5, u6, u7⟩ := cnS4N_k r
    obtain ⟨q0, q1, q2, q3⟩ := hr
    rw [bif_add, cnS4G_eq, q1, q2] at e1
    have eg : goodF 4 (fun i => r.x.u (138 + i)) (s.x.u 146) (s.y 0) (r.x.i 0).toNat = goodF 4 (fun i => s.x.u (138 + i)) (s.x.u 146) (s.y 0) (r.x.i 0).toNat := by
      unfold goodF
      rw [gM_congr (z := 4) (f := fun i => szD (r.x.u (138 + i)) ((s.y 0).u (8 * (r.x.i 0).toNat + i))) (g := fun i => szD (s.x.u (138 + i)) ((s.y 0).u (8 * (r.x.i 0).toNat + i))) fun i hi => by rw [q3 i (by omega)]]
    rw [eg] at e1
    exact ⟨e0, e1, l0.trans q0, y0.trans q1, w0.trans q2, fun i hi => (eightI (P := fun i => (cnS4N r).x.u (138 + i) = r.x.u (138 + i)) u0 u1 u2 u3 u4 u5 u6 u7 i hi).trans (q3 i hi)⟩
  have k3 : ∀ r, P r → ¬ r.x.i 0 < s.len 0 → (cnS4T r).pick = .out 0 (cnS4E r) ∧ (cnS4E r).x.i 0 = r.x.i 1 := fun r hr hlt => by
    refine ⟨?_, by kernel_rfl⟩
    unfold cnS4T
    rw [decide_eq_false (show ¬ r.x.i 0 < ofN (r.len 0) by unfold ofN; have := hr.1; omega)]
    rfl
  obtain ⟨a, b, _⟩ := cnt_run (T := cnS4T) (N := cnS4N) (E := cnS4E) P (goodF 4 (fun i => s.x.u (138 + i)) (s.x.u 146) (s.y 0)) (s.len 0) k1 k2 k3 (cnS4Mu s + 1) s ⟨rfl, rfl, rfl, fun _ _ => rfl⟩ h0 h1 (Nat.lt_succ_self _)
  exact ⟨a, b⟩

noncomputable def cnS5G (s : SV) : Bool := fcmp .leq .f32 (gM (fun i => szD (s.x.u (138 + i)) ((s.y 0).u (padd i (pmul (itn (s.x.i 0)) 8)))) 5) (s.x.u 146)

noncomputable def cnS5N (s : SV) : SV := (mkSV (apl [(.sint .i64 (iadd (s.x.i 0) 1)), (.sint .i64 (bif (cnS5G s) then (iadd (s.x.i 1) 1) else (s.x.i 1)))] (apl (fl s.x 2 8) (apl [(.sint .i8 (s.x.i 10))] (apl (fl s.x 11 14) (apl [(.sint .i8 (s.x.i 25))] (apl (fl s.x 26 14) (apl [(.sint .i8 (s.x.i 40))] (apl (fl s.x 41 14) (apl [(.sint .i8 (s.x.i 55))] (apl (fl s.x 56 14) (apl [(.sint .i8 (s.x.i 70))] (apl (fl s.x 71 14) (apl [(.sint .i8 (s.x.i 85))] (apl (fl s.x 86 14) (apl [(.sint .i8 (s.x.i 100))] (apl (fl s.x 101 14) (apl [(.sint .i8 (s.x.i 115))] (apl (fl s.x 116 32) ([(.sint .i16 (s.x.i 148))]))))))))))))))))))) [(s.len 0)] [(s.n 0), 0, 0] [(s.y 0), zeroV, zeroV])
noncomputable def cnS5E (s : SV) : SV := (mkSV [(.sint .i64 (s.x.i 1))] [] [(s.n 0)] [(s.y 0)])

noncomputable def cnS5T (s : SV) : Tr := .node [((decide ((-(9223372036854775807 + 1)) ≤ (ofN (s.len 0)))) && (decide ((ofN (s.len 0)) ≤ 9223372036854775807)))] (decide ((s.x.i 0) < (ofN (s.len 0)))) (.next (cnS5N s) [((decide ((-(9223372036854775807 + 1)) ≤ (iadd (s.x.i 0) 1))) && (decide ((iadd (s.x.i 0) 1) ≤ 9223372036854775807))), ((!(cnS5G s)) || ((decide ((-(9223372036854775807 + 1)) ≤ (iadd (s.x.i 1) 1))) && (decide ((iadd (s.x.i 1) 1) ≤ 9223372036854775807)))), (decide ((padd 4 (pmul (itn (s.x.i 0)) 8)) < (s.n 0))), (decide ((padd 3 (pmul (itn (s.x.i 0)) 8)) < (s.n 0))), (decide ((padd 2 (pmul (itn (s.x.i 0)) 8)) < (s.n 0))), (decide ((padd 1 (pmul (itn (s.x.i 0)) 8)) < (s.n 0))), (decide ((padd 0 (pmul (itn (s.x.i 0)) 8)) < (s.n 0))), (decide (0 ≤ (s.x.i 0))), (decide ((s.x.i 0) < (s.len 0)))]) (.out 0 (cnS5E s) [])

theorem cnS5_t (s : SV) : Go.Sim.stepT Try.prog GAasI (ntOf Try.prog 9) noLT true 1000 cnS5L (loopOf Try.prog 9 0) s = some (cnS5T s) := by kernel_rfl

def cnS5P (s : SV) : Prop := 0 ≤ s.x.i 0 ∧ s.x.i 0 ≤ s.len 0 ∧ s.len 0 ≤ 1048576 ∧ s.n 0 = 8 * s.len 0 ∧ 0 ≤ s.x.i 1 ∧ s.x.i 1 ≤ s.x.i 0

noncomputable def cnS5B (s : SV) : Bool := @decide (cnS5P s) (Classical.propDecidable _)
theorem cnS5B_of {s : SV} (h : cnS5B s = true) : cnS5P s := @of_decide_eq_true _ (Classical.propDecidable _) h
theorem cnS5B_to {s : SV} (h : cnS5P s) : cnS5B s = true := @decide_eq_true _ (Classical.propDecidable _) h

theorem cnS5N_k (s : SV) : (cnS5N s).x.i 0 = iadd (s.x.i 0) 1 ∧ (cnS5N s).x.i 1 = (bif (cnS5G s) then (iadd (s.x.i 1) 1) else (s.x.i 1)) ∧ (cnS5N s).len 0 = s.len 0 ∧ (cnS5N s).n 0 = s.n 0 ∧ (cnS5N s).y 0 = s.y 0 ∧ (cnS5N s).x.u 146 = s.x.u 146 ∧ (cnS5N s).x.u (138 + 0) = s.x.u (138 + 0) ∧ (cnS5N s).x.u (138 + 1) = s.x.u (138 + 1) ∧ (cnS5N s).x.u (138 + 2) = s.x.u (138 + 2) ∧ (cnS5N s).x.u (138 + 3) = s.x.u (138 + 3) ∧ (cnS5N s).x.u (138 + 4) = s.x.u (138 + 4) ∧ (cnS5N s).x.u (138 + 5) = s.x.u (138 + 5) ∧ (cnS5N s).x.u (138 + 6) = s.x.u (138 + 6) ∧ (cnS5N s).x.u (138 + 7) = s.x.u (138 + 7) := ⟨by kernel_rfl, by kernel_rfl, by kernel_rfl, by kernel_rfl, by kernel_rfl, by kernel_rfl, by kernel_rfl, by kernel_rfl, by kernel_rfl, by kernel_rfl, by kernel_rfl, by kernel_rfl, by kernel_rfl, by kernel_rfl⟩

def cnS5Mu (s : SV) : Nat := ((s.len 0 : Int) - s.x.i 0).toNat

theorem cnS5_go (s : SV) (hp : ∀ b ∈ [cnS5B s], b = true) :
    (cnS5T s).ok ∧ (∀ k s', (cnS5T s).pick = .out k s' → k < 1) ∧ ∀ s', (cnS5T s).pick = .next s' → (∀ b ∈ [cnS5B s'], b = true) ∧ cnS5Mu s' < cnS5Mu s := by
  have hP := cnS5B_of (hp _ (List.mem_cons_self ..))
  have hP' := hP
  obtain ⟨i1, i2, i3, i4, i5, i6⟩ := hP
  cases hc : (decide ((s.x.i 0) < (ofN (s.len 0)))) with
  | false =>
    have hk : (cnS5T s).pick = .out 0 (cnS5E s) := by unfold cnS5T; rw [hc]; rfl
    refine ⟨?_, fun k s' h => ?_, fun s' h => ?_⟩
    · unfold cnS5T
      exact ⟨(allC (andT (decide_eq_true (by unfold ofN; omega)) (decide_eq_true (by unfold ofN; omega))) allN), (fun h => by rw [hc] at h; cases h), (fun _ b hb => by cases hb)⟩
    · rw [hk] at h; cases h; decide
    · rw [hk] at h; cases h
  | true =>
    have hlt := of_decide_eq_true hc
    (try unfold ofN at hlt)
    have hk : (cnS5T s).pick = .next (cnS5N s) := by unfold cnS5T; rw [hc]; rfl
    refine ⟨?_, fun k s' h => ?_, fun s' h => ?_⟩
    · unfold cnS5T
      exact ⟨(allC (andT (decide_eq_true (by unfold ofN; omega)) (decide_eq_true (by unfold ofN; omega))) allN), (fun _ => (allC (andT (decide_eq_true (by unfold iadd; omega)) (decide_eq_true (by unfold iadd; omega))) (allC (orTr (andT (decide_eq_true (by unfold iadd; omega)) (decide_eq_true (by unfold iadd; omega)))) (allC (decide_eq_true (by unfold padd pmul itn; omega)) (allC (decide_eq_true (by unfold padd pmul itn; omega)) (allC (decide_eq_true (by unfold padd pmul itn; omega)) (allC (decide_eq_true (by unfold padd pmul itn; omega)) (allC (decide_eq_true (by unfold padd pmul itn; omega)) (allC (decide_eq_true (by omega)) (allC (decide_eq_true (by omega)) allN)))))))))), (fun h => by rw [hc] at h; cases h)⟩
    · rw [hk] at h; cases h
    · rw [hk] at h
      cases h
      refine ⟨fun b hb => ?_, ?_⟩
      · rw [List.mem_singleton.1 hb]
        refine cnS5B_to ?_
        obtain ⟨e0, e1, l0, n0, _⟩ := cnS5N_k s
        rw [bif_add] at e1
        unfold iadd at e0
        cases hb : cnS5G s with
        | true =>
          rw [hb] at e1
          have e1 : (cnS5N s).x.i 1 = s.x.i 1 + 1 := e1
          exact ⟨by omega, by omega, by omega, by omega, by omega, by omega⟩
        | false =>
          rw [hb] at e1
          have e1 : (cnS5N s).x.i 1 = s.x.i 1 + 0 := e1
          exact ⟨by omega, by omega, by omega, by omega, by omega, by omega⟩
      · obtain ⟨e0, e1, l0, n0, _⟩ := cnS5N_k s
        unfold iadd at e0
        unfold cnS5Mu
        omega

noncomputable def cnS5F0 (s : SV) : Nat × SV := Go.Sim.runT cnS5T (cnS5Mu s + 1) s

noncomputable def cnS5F : SV → Nat × SV := Classical.choose (⟨cnS5F0, rfl⟩ : ∃ f, f = cnS5F0)

theorem cnS5F_eq : cnS5F = cnS5F0 := Classical.choose_spec (⟨cnS5F0, rfl⟩ : ∃ f, f = cnS5F0)

noncomputable def cnS5Pre (s : SV) : List Bool := [cnS5B s]

noncomputable def HcnS5 : LTab := hookL 0 cnS5L cnS5Pre cnS5F noLT

theorem HcnS5_ok : HFun Try.prog 1 HcnS5 9 := by
  unfold HcnS5
  rw [cnS5F_eq]
  exact HFun.loop GAasI_ok mixed (J := true) (n := 1000) (L := cnS5L) (T := cnS5T) (pre := cnS5Pre) (μ := cnS5Mu) (HFun.none Try.prog 1 9) (by kernel_rfl) (by decide) (by decide) cnS5_t cnS5_go

theorem cnS5G_eq (s : SV) : cnS5G s = goodF 5 (fun i => s.x.u (138 + i)) (s.x.u 146) (s.y 0) (s.x.i 0).toNat := by
  have e : cnS5G s = fcmp .leq .f32 (gM (fun i => szD (s.x.u (138 + i)) ((s.y 0).u (padd i (pmul (itn (s.x.i 0)) 8)))) 5) (s.x.u 146) := by kernel_rfl
  rw [e]
  unfold goodF
  rw [gM_congr (z := 5) (f := fun i => szD (s.x.u (138 + i)) ((s.y 0).u (padd i (pmul (itn (s.x.i 0)) 8)))) (g := fun i => szD (s.x.u (138 + i)) ((s.y 0).u (8 * (s.x.i 0).toNat + i))) fun i _ => by rw [idxS]]

theorem cnS5_yes (s : SV) (h0 : 0 ≤ s.x.i 0) (h1 : s.x.i 0 ≤ s.len 0) :
    (cnS5F s).1 = 0 ∧ (cnS5F s).2.x.i 0 = s.x.i 1 + cntF (goodF 5 (fun i => s.x.u (138 + i)) (s.x.u 146) (s.y 0)) (s.x.i 0).toNat (s.len 0 - (s.x.i 0).toNat) := by
  rw [cnS5F_eq]
  let P : SV → Prop := fun r => r.len 0 = s.len 0 ∧ r.y 0 = s.y 0 ∧ r.x.u 146 = s.x.u 146 ∧ ∀ i, i < 8 → r.x.u (138 + i) = s.x.u (138 + i)
  have k1 : ∀ r, P r → r.x.i 0 < s.len 0 → (cnS5T r).pick = .next (cnS5N r) := fun r hr hlt => by
    unfold cnS5T
    rw [decide_eq_true (show r.x.i 0 < ofN (r.len 0) by unfold ofN; have := hr.1; omega)]
    rfl
  have k2 : ∀ r, P r → (cnS5N r).x.i 0 = r.x.i 0 + 1 ∧ (cnS5N r).x.i 1 = r.x.i 1 + (bif goodF 5 (fun i => s.x.u (138 + i)) (s.x.u 146) (s.y 0) (r.x.i 0).toNat then 1 else 0) ∧ P (cnS5N r) := fun r hr => by
    obtain ⟨e0, e1, l0, _, y0, w0, u0, u1, u2, u3, u4, u5, u6, u7⟩ := cnS5N_k r
    obtain ⟨q0, q1, q2, q3⟩ := hr
    rw [bif_add, cnS5G_eq, q1, q2] at e1
    have eg : goodF 5 (fun i => r.x.u (138 + i)) (s.x.u 146) (s.y 0) (r.x.i 0).toNat = goodF 5 (fun i => s.x.u (138 + i)) (s.x.u 146) (s.y 0) (r.x.i 0).toNat := by
      unfold goodF
      rw [gM_congr (z := 5) (f := fun i => szD (r.x.u (138 + i)) ((s.y 0).u (8 * (r.x.i 0).toNat + i))) (g := fun i => szD (s.x.u (138 + i)) ((s.y 0).u (8 * (r.x.i 0).toNat + i))) fun i hi => by rw [q3 i (by omega)]]
    rw [eg] at e1
    exact ⟨e0, e1, l0.trans q0, y0.trans q1, w0.trans q2, fun i hi => (eightI (P := fun i => (cnS5N r).x.u (138 + i) = r.x.u (138 + i)) u0 u1 u2 u3 u4 u5 u6 u7 i hi).trans (q3 i hi)⟩
  have k3 : ∀ r, P r → ¬ r.x.i 0 < s.len 0 → (cnS5T r).pick = .out 0 (cnS5E r) ∧ (cnS5E r).x.i 0 = r.x.i 1 := fun r hr hlt => by
    refine ⟨?_, by kernel_rfl⟩
    unfold cnS5T
    rw [decide_eq_false (show ¬ r.x.i 0 < ofN (r.len 0) by unfold ofN; have := hr.1; omega)]
    rfl
  obtain ⟨a, b, _⟩ := cnt_run (T := cnS5T) (N := cnS5N) (E := cnS5E) P (goodF 5 (fun i => s.x.u (138 + i)) (s.x.u 146) (s.y 0)) (s.len 0) k1 k2 k3 (cnS5Mu s + 1) s ⟨rfl, rfl, rfl, fun _ _ => rfl⟩ h0 h1 (Nat.lt_succ_self _)
  exact ⟨a, b⟩

noncomputable def cnS6G (s : SV) : Bool := fcmp .leq .f32 (gM (fun i => szD (s.x.u (138 + i)) ((s.y 0).u (padd i (pmul (itn (s.x.i 0)) 8)))) 6) (s.x.u 146)

noncomputable def cnS6N (s : SV) : SV := (mkSV (apl [(.sint .i64 (iadd (s.x.i 0) 1)), (.sint .i64 (bif (cnS6G s) then (iadd (s.x.i 1) 1) else (s.x.i 1)))] (apl (fl s.x 2 8) (apl [(.sint .i8 (s.x.i 10))] (apl (fl s.x 11 14) (apl [(.sint .i8 (s.x.i 25))] (apl (fl s.x 26 14) (apl [(.sint .i8 (s.x.i 40))] (apl (fl s.x 41 14) (apl [(.sint .i8 (s.x.i 55))] (apl (fl s.x 56 14) (apl [(.sint .i8 (s.x.i 70))] (apl (fl s.x 71 14) (apl [(.sint .i8 (s.x.i 85))] (apl (fl s.x 86 14) (apl [(.sint .i8 (s.x.i 100))] (apl (fl s.x 101 14) (apl [(.sint .i8 (s.x.i 115))] (apl (fl s.x 116 32) ([(.sint .i16 (s.x.i 148))]))))))))))))))))))) [(s.len 0)] [(s.n 0), 0, 0] [(s.y 0), zeroV, zeroV])
noncomputable def cnS6E (s : SV) : SV := (mkSV [(.sint .i64 (s.x.i 1))] [] [(s.n 0)] [(s.y 0)])

noncomputable def cnS6T (s : SV) : Tr := .node [((decide ((-(9223372036854775807 + 1)) ≤ (ofN (s.len 0)))) && (decide ((ofN (s.len 0)) ≤ 9223372036854775807)))] (decide ((s.x.i 0) < (ofN (s.len 0)))) (.next (cnS6N s) [((decide ((-(9223372036854775807 + 1)) ≤ (iadd (s.x.i 0) 1))) && (decide ((iadd (s.x.i 0) 1) ≤ 9223372036854775807))), ((!(cnS6G s)) || ((decide ((-(9223372036854775807 + 1)) ≤ (iadd (s.x.i 1) 1))) && (decide ((iadd (s.x.i 1) 1) ≤ 9223372036854775807)))), (decide ((padd 5 (pmul (itn (s.x.i 0)) 8)) < (s.n 0))), (decide ((padd 4 (pmul (itn (s.x.i 0)) 8)) < (s.n 0))), (decide ((padd 3 (pmul (itn (s.x.i 0)) 8)) < (s.n 0))), (decide ((padd 2 (pmul (itn (s.x.i 0)) 8)) < (s.n 0))), (decide ((padd 1 (pmul (itn (s.x.i 0)) 8)) < (s.n 0))), (decide ((padd 0 (pmul (itn (s.x.i 0)) 8)) < (s.n 0))), (decide (0 ≤ (s.x.i 0))), (decide ((s.x.i 0) < (s.len 0)))]) (.out 0 (cnS6E s) [])

theorem cnS6_t (s : SV) : Go.Sim.stepT Try.prog GAasI (ntOf Try.prog 9) noLT true 1000 cnS6L (loopOf Try.prog 9 0) s = some (cnS6T s) := by kernel_rfl

def cnS6P (s : SV) : Prop := 0 ≤ s.x.i 0 ∧ s.x.i 0 ≤ s.len 0 ∧ s.len 0 ≤ 1048576 ∧ s.n 0 = 8 * s.len 0 ∧ 0 ≤ s.x.i 1 ∧ s.x.i 1 ≤ s.x.i 0

noncomputable def cnS6B (s : SV) : Bool := @decide (cnS6P s) (Classical.propDecidable _)
theorem cnS6B_of {s : SV} (h : cnS6B s = true) : cnS6P s := @of_decide_eq_true _ (Classical.propDecidable _) h
theorem cnS6B_to {s : SV} (h : cnS6P s) : cnS6B s = true := @decide_eq_true _ (Classical.propDecidable _) h

theorem cnS6N_k (s : SV) : (cnS6N s).x.i 0 = iadd (s.x.i 0) 1 ∧ (cnS6N s).x.i 1 = (bif (cnS6G s) then (iadd (s.x.i 1) 1) else (s.x.i 1)) ∧ (cnS6N s).len 0 = s.len 0 ∧ (cnS6N s).n 0 = s.n 0 ∧ (cnS6N s).y 0 = s.y 0 ∧ (cnS6N s).x.u 146 = s.x.u 146 ∧ (cnS6N s).x.u (138 + 0) = s.x.u (138 + 0) ∧ (cnS6N s).x.u (138 + 1) = s.x.u (138 + 1) ∧ (cnS6N s).x.u (138 + 2) = s.x.u (138 + 2) ∧ (cnS6N s).x.u (138 + 3) = s.x.u (138 + 3) ∧ (cnS6N s).x.u (138 + 4) = s.x.u (138 + 4) ∧ (cnS6N s).x.u (138 + 5) = s.x.u (138 + 5) ∧ (cnS6N s).x.u (138 + 6) = s.x.u (138 + 6) ∧ (cnS6N s).x.u (138 + 7) = s.x.u (138 + 7) := ⟨by kernel_rfl, by kernel_rfl, by kernel_rfl, by kernel_rfl, by kernel_rfl, by kernel_rfl, by kernel_rfl, by kernel_rfl, by kernel_rfl, by kernel_rfl, by kernel_rfl, by kernel_rfl, by kernel_rfl, by kernel_rfl⟩

def cnS6Mu (s : SV) : Nat := ((s.len 0 : Int) - s.x.i 0).toNat

theorem cnS6_go (s : SV) (hp : ∀ b ∈ [cnS6B s], b = true) :
    (cnS6T s).ok ∧ (∀ k s', (cnS6T s).pick = .out k s' → k < 1) ∧ ∀ s', (cnS6T s).pick = .next s' → (∀ b ∈ [cnS6B s'], b = true) ∧ cnS6Mu s' < cnS6Mu s := by
  have hP := cnS6B_of (hp _ (List.mem_cons_self ..))
  have hP' := hP
  obtain ⟨i1, i2, i3, i4, i5, i6⟩ := hP
  cases hc : (decide ((s.x.i 0) < (ofN (s.len 0)))) with
  | false =>
    have hk : (cnS6T s).pick = .out 0 (cnS6E s) := by unfold cnS6T; rw [hc]; rfl
    refine ⟨?_, fun k s' h => ?_, fun s' h => ?_⟩
    · unfold cnS6T
      exact ⟨(allC (andT (decide_eq_true (by unfold ofN; omega)) (decide_eq_true (by unfold ofN; omega))) allN), (fun h => by rw [hc] at h; cases h), (fun _ b hb => by cases hb)⟩
    · rw [hk] at h; cases h; decide
    · rw [hk] at h; cases h
  | true =>
    have hlt := of_decide_eq_true hc
    (try unfold ofN at hlt)
    have hk : (cnS6T s).pick = .next (cnS6N s) := by unfold cnS6T; rw [hc]; rfl
    refine ⟨?_, fun k s' h => ?_, fun s' h => ?_⟩
    · unfold cnS6T
      exact ⟨(allC (andT (decide_eq_true (by unfold ofN; omega)) (decide_eq_true (by unfold ofN; omega))) allN), (fun _ => (allC (andT (decide_eq_true (by unfold iadd; omega)) (decide_eq_true (by unfold iadd; omega))) (allC (orTr (andT (decide_eq_true (by unfold iadd; omega)) (decide_eq_true (by unfold iadd; omega)))) (allC (decide_eq_true (by unfold padd pmul itn; omega)) (allC (decide_eq_true (by unfold padd pmul itn; omega)) (allC (decide_eq_true (by unfold padd pmul itn; omega)) (allC (decide_eq_true (by unfold padd pmul itn; omega)) (allC (decide_eq_true (by unfold padd pmul itn; omega)) (allC (decide_eq_true (by unfold padd pmul itn; omega)) (allC (decide_eq_true (by omega)) (allC (decide_eq_true (by omega)) allN))))))))))), (fun h => by rw [hc] at h; cases h)⟩
    · rw [hk] at h; cases h
    · rw [hk] at h
      cases h
      refine ⟨fun b hb => ?_, ?_⟩
      · rw [List.mem_singleton.1 hb]
        refine cnS6B_to ?_
        obtain ⟨e0, e1, l0, n0, _⟩ := cnS6N_k s
        rw [bif_add] at e1
        unfold iadd at e0
        cases hb : cnS6G s with
        | true =>
          rw [hb] at e1
          have e1 : (cnS6N s).x.i 1 = s.x.i 1 + 1 := e1
          exact ⟨by omega, by omega, by omega, by omega, by omega, by omega⟩
        | false =>
          rw [hb] at e1
          have e1 : (cnS6N s).x.i 1 = s.x.i 1 + 0 := e1
          exact ⟨by omega, by omega, by omega, by omega, by omega, by omega⟩
      · obtain ⟨e0, e1, l0, n0, _⟩ := cnS6N_k s
        unfold iadd at e0
        unfold cnS6Mu
        omega

noncomputable def cnS6F0 (s : SV) : Nat × SV := Go.Sim.runT cnS6T (cnS6Mu s + 1) s

noncomputable def cnS6F : SV → Nat × SV := Classical.choose (⟨cnS6F0, rfl⟩ : ∃ f, f = cnS6F0)

theorem cnS6F_eq : cnS6F = cnS6F0 := Classical.choose_spec (⟨cnS6F0, rfl⟩ : ∃ f, f = cnS6F0)

noncomputable def cnS6Pre (s : SV) : List Bool := [cnS6B s]

noncomputable def HcnS6 : LTab := hookL 0 cnS6L cnS6Pre cnS6F noLT

theorem HcnS6_ok : HFun Try.prog 1 HcnS6 9 := by
  unfold HcnS6
  rw [cnS6F_eq]
  exact HFun.loop GAasI_ok mixed (J := true) (n := 1000) (L := cnS6L) (T := cnS6T) (pre := cnS6Pre) (μ := cnS6Mu) (HFun.none Try.prog 1 9) (by kernel_rfl) (by decide) (by decide) cnS6_t cnS6_go

theorem cnS6G_eq (s : SV) : cnS6G s = goodF 6 (fun i => s.x.u (138 + i)) (s.x.u 146) (s.y 0) (s.x.i 0).toNat := by
  have e : cnS6G s = fcmp .leq .f32 (gM (fun i => szD (s.x.u (138 + i)) ((s.y 0).u (padd i (pmul (itn (s.x.i 0)) 8)))) 6) (s.x.u 146) := by kernel_rfl
  rw [e]
  unfold goodF
  rw [gM_congr (z := 6) (f := fun i => szD (s.x.u (138 + i)) ((s.y 0).u (padd i (pmul (itn (s.x.i 0)) 8)))) (g := fun i => szD (s.x.u (138 + i)) ((s.y 0).u (8 * (s.x.i 0).toNat + i))) fun i _ => by rw [idxS]]

theorem cnS6_yes (s : SV) (h0 : 0 ≤ s.x.i 0) (h1 : s.x.i 0 ≤ s.len 0) :
    (cnS6F s).1 = 0 ∧ (cnS6F s).2.x.i 0 = s.x.i 1 + cntF (goodF 6 (fun i => s.x.u (138 + i)) (s.x.u 146) (s.y 0)) (s.x.i 0).toNat (s.len 0 - (s.x.i 0).toNat) := by
  rw [cnS6F_eq]
  let P : SV → Prop := fun r => r.len 0 = s.len 0 ∧ r.y 0 = s.y 0 ∧ r.x.u 146 = s.x.u 146 ∧ ∀ i, i < 8 → r.x.u (138 + i) = s.x.u (138 + i)
  have k1 : ∀ r, P r → r.x.i 0 < s.len 0 → (cnS6T r).pick = .next (cnS6N r) := fun r hr hlt => by
    unfold cnS6T
    rw [decide_eq_true (show r.x.i 0 < ofN (r.len 0) by unfold ofN; have := hr.1; omega)]
    rfl
  have k2 : ∀ r, P r → (cnS6N r).x.i 0 = r.x.i 0 + 1 ∧ (cnS6N r).x.i 1 = r.x.i 1 + (bif goodF 6 (fun i => s.x.u (138 + i)) (s.x.u 146) (s.y 0) (r.x.i 0).toNat then 1 else 0) ∧ P (cnS6N r) := fun r hr => by
    obtain ⟨e0, e1, l0, _, y0, w0, u0, u1, u2, u3, u4, u5, u6, u7⟩ := cnS6N_k r
    obtain ⟨q0, q1, q2, q3⟩ := hr
    rw [bif_add, cnS6G_eq, q1, q2] at e1
    have eg : goodF 6 (fun i => r.x.u (138 + i)) (s.x.u 146) (s.y 0) (r.x.i 0).toNat = goodF 6 (fun i => s.x.u (138 + i)) (s.x.u 146) (s.y 0) (r.x.i 0).toNat := by
      unfold goodF
      rw [gM_congr (z := 6) (f := fun i => szD (r.x.u (138 + i)) ((s.y 0).u (8 * (r.x.i 0).toNat + i))) (g := fun i => szD (s.x.u (138 + i)) ((s.y 0).u (8 * (r.x.i 0).toNat + i))) fun i hi => by rw [q3 i (by omega)]]
    rw [eg] at e1
    exact ⟨e0, e1, l0.trans q0, y0.trans q1, w0.trans q2, fun i hi => (eightI (P := fun i => (cnS6N r).x.u (138 + i) = r.x.u (138 + i)) u0 u1 u2 u3 u4 u5 u6 u7 i hi).trans (q3 i hi)⟩
  have k3 : ∀ r, P r → ¬ r.x.i 0 < s.len 0 → (cnS6T r).pick = .out 0 (cnS6E r) ∧ (cnS6E r).x.i 0 = r.x.i 1 := fun r hr hlt => by
    refine ⟨?_, by kernel_rfl⟩
    unfold cnS6T
    rw [decide_eq_false (show ¬ r.x.i 0 < ofN (r.len 0) by unfold ofN; have := hr.1; omega)]
    rfl
  obtain ⟨a, b, _⟩ := cnt_run (T := cnS6T) (N := cnS6N) (E := cnS6E) P (goodF 6 (fun i => s.x.u (138 + i)) (s.x.u 146) (s.y 0)) (s.len 0) k1 k2 k3 (cnS6Mu s + 1) s ⟨rfl, rfl, rfl, fun _ _ => rfl⟩ h0 h1 (Nat.lt_succ_self _)
  exact ⟨a, b⟩

noncomputable def cnS7G (s : SV) : Bool := fcmp .leq .f32 (gM (fun i => szD (s.x.u (138 + i)) ((s.y 0).u (padd i (pmul (itn (s.x.i 0)) 8)))) 7) (s.x.u 146)

noncomputable def cnS7N (s : SV) : SV := (mkSV (apl [(.sint .i64 (iadd (s.x.i 0) 1)), (.sint .i64 (bif (cnS7G s) then (iadd (s.x.i 1) 1) else (s.x.i 1)))] (apl (fl s.x 2 8) (apl [(.sint .i8 (s.x.i 10))] (apl (fl s.x 11 14) (apl [(.sint .i8 (s.x.i 25))] (apl (fl s.x 26 14) (apl [(.sint .i8 (s.x.i 40))] (apl (fl s.x 41 14) (apl [(.sint .i8 (s.x.i 55))] (apl (fl s.x 56 14) (apl [(.sint .i8 (s.x.i 70))] (apl (fl s.x 71 14) (apl [(.sint .i8 (s.x.i 85))] (apl (fl s.x 86 14) (apl [(.sint .i8 (s.x.i 100))] (apl (fl s.x 101 14) (apl [(.sint .i8 (s.x.i 115))] (apl (fl s.x 116 32) ([(.sint .i16 (s.x.i 148))]))))))))))))))))))) [(s.len 0)] [(s.n 0), 0, 0] [(s.y 0), zeroV, zeroV])
noncomputable def cnS7E (s : SV) : SV := (mkSV [(.sint .i64 (s.x.i 1))] [] [(s.n 0)] [(s.y 0)])

noncomputable def cnS7T (s : SV) : Tr := .node [((decide ((-(9223372036854775807 + 1)) ≤ (ofN (s.len 0)))) && (decide ((ofN (s.len 0)) ≤ 9223372036854775807)))] (decide ((s.x.i 0) < (ofN (s.len 0)))) (.next (cnS7N s) [((decide ((-(9223372036854775807 + 1)) ≤ (iadd (s.x.i 0) 1))) && (decide ((iadd (s.x.i 0) 1) ≤ 9223372036854775807))), ((!(cnS7G s)) || ((decide ((-(9223372036854775807 + 1)) ≤ (iadd (s.x.i 1) 1))) && (decide ((iadd (s.x.i 1) 1) ≤ 9223372036854775807)))), (decide ((padd 6 (pmul (itn (s.x.i 0)) 8)) < (s.n 0))), (decide ((padd 5 (pmul (itn (s.x.i 0)) 8)) < (s.n 0))), (decide ((padd 4 (pmul (itn (s.x.i 0)) 8)) < (s.n 0))), (decide ((padd 3 (pmul (itn (s.x.i 0)) 8)) < (s.n 0))), (decide ((padd 2 (pmul (itn (s.x.i 0)) 8)) < (s.n 0))), (decide ((padd 1 (pmul (itn (s.x.i 0)) 8)) < (s.n 0))), (decide ((padd 0 (pmul (itn (s.x.i 0)) 8)) < (s.n 0))), (decide (0 ≤ (s.x.i 0))), (decide ((s.x.i 0) < (s.len 0)))]) (.out 0 (cnS7E s) [])

theorem cnS7_t (s : SV) : Go.Sim.stepT Try.prog GAasI (ntOf Try.prog 9) noLT true 1000 cnS7L (loopOf Try.prog 9 0) s = some (cnS7T s) := by kernel_rfl

def cnS7P (s : SV) : Prop := 0 ≤ s.x.i 0 ∧ s.x.i 0 ≤ s.len 0 ∧ s.len 0 ≤ 1048576 ∧ s.n 0 = 8 * s.len 0 ∧ 0 ≤ s.x.i 1 ∧ s.x.i 1 ≤ s.x.i 0

noncomputable def cnS7B (s : SV) : Bool := @decide (cnS7P s) (Classical.propDecidable _)
theorem cnS7B_of {s : SV} (h : cnS7B s = true) : cnS7P s := @of_decide_eq_true _ (Classical.propDecidable _) h
theorem cnS7B_to {s : SV} (h : cnS7P s) : cnS7B s = true := @decide_eq_true _ (Classical.propDecidable _) h

theorem cnS7N_k (s : SV) : (cnS7N s).x.i 0 = iadd (s.x.i 0) 1 ∧ (cnS7N s).x.i 1 = (bif (cnS7G s) then (iadd (s.x.i 1) 1) else (s.x.i 1)) ∧ (cnS7N s).len 0 = s.len 0 ∧ (cnS7N s).n 0 = s.n 0 ∧ (cnS7N s).y 0 = s.y 0 ∧ (cnS7N s).x.u 146 = s.x.u 146 ∧ (cnS7N s).x.u (138 + 0) = s.x.u (138 + 0) ∧ (cnS7N s).x.u (138 + 1) = s.x.u (138 + 1) ∧ (cnS7N s).x.u (138 + 2) = s.x.u (138 + 2) ∧ (cnS7N s).x.u (138 + 3) = s.x.u (138 + 3) ∧ (cnS7N s).x.u (138 + 4) = s.x.u (138 + 4) ∧ (cnS7N s).x.u (138 + 5) = s.x.u (138 + 5) ∧ (cnS7N s).x.u (138 + 6) = s.x.u (138 + 6) ∧ (cnS7N s).x.u (138 + 7) = s.x.u (138 + 7) := ⟨by kernel_rfl, by kernel_rfl, by kernel_rfl, by kernel_rfl, by kernel_rfl, by kernel_rfl, by kernel_rfl, by kernel_rfl, by kernel_rfl, by kernel_rfl, by kernel_rfl, by kernel_rfl, by kernel_rfl, by kernel_rfl⟩

def cnS7Mu (s : SV) : Nat := ((s.len 0 : Int) - s.x.i 0).toNat

theorem cnS7_go (s : SV) (hp : ∀ b ∈ [cnS7B s], b = true) :
    (cnS7T s).ok ∧ (∀ k s', (cnS7T s).pick = .out k s' → k < 1) ∧ ∀ s', (cnS7T s).pick = .next s' → (∀ b ∈ [cnS7B s'], b = true) ∧ cnS7Mu s' < cnS7Mu s := by
  have hP := cnS7B_of (hp _ (List.mem_cons_self ..))
  have hP' := hP
  obtain ⟨i1, i2, i3, i4, i5, i6⟩ := hP
  cases hc : (decide ((s.x.i 0) < (ofN (s.len 0)))) with
  | false =>
    have hk : (cnS7T s).pick = .out 0 (cnS7E s) := by unfold cnS7T; rw [hc]; rfl
    refine ⟨?_, fun k s' h => ?_, fun s' h => ?_⟩
    · unfold cnS7T
      exact ⟨(allC (andT (decide_eq_true (by unfold ofN; omega)) (decide_eq_true (by unfold ofN; omega))) allN), (fun h => by rw [hc] at h; cases h), (fun _ b hb => by cases hb)⟩
    · rw [hk] at h; cases h; decide
    · rw [hk] at h; cases h
  | true =>
    have hlt := of_decide_eq_true hc
    (try unfold ofN at hlt)
    have hk : (cnS7T s).pick = .next (cnS7N s) := by unfold cnS7T; rw [hc]; rfl
    refine ⟨?_, fun k s' h => ?_, fun s' h => ?_⟩
    · unfold cnS7T
      exact ⟨(allC (andT (decide_eq_true (by unfold ofN; omega)) (decide_eq_true (by unfold ofN; omega))) allN), (fun _ => (allC (andT (decide_eq_true (by unfold iadd; omega)) (decide_eq_true (by unfold iadd; omega))) (allC (orTr (andT (decide_eq_true (by unfold iadd; omega)) (decide_eq_true (by unfold iadd; omega)))) (allC (decide_eq_true (by unfold padd pmul itn; omega)) (allC (decide_eq_true (by unfold padd pmul itn; omega)) (allC (decide_eq_true (by unfold padd pmul itn; omega)) (allC (decide_eq_true (by unfold padd pmul itn; omega)) (allC (decide_eq_true (by unfold padd pmul itn; omega)) (allC (decide_eq_true (by unfold padd pmul itn; omega)) (allC (decide_eq_true (by unfold padd pmul itn; omega)) (allC (decide_eq_true (by omega)) (allC (decide_eq_true (by omega)) allN)))))))))))), (fun h => by rw [hc] at h; cases h)⟩
    · rw [hk] at h; cases h
    · rw [hk] at h
      cases h
      refine ⟨fun b hb => ?_, ?_⟩
      · rw [List.mem_singleton.1 hb]
        refine cnS7B_to ?_
        obtain ⟨e0, e1, l0, n0, _⟩ := cnS7N_k s
        rw [bif_add] at e1
        unfold iadd at e0
        cases hb : cnS7G s with
        | true =>
          rw [hb] at e1
          have e1 : (cnS7N s).x.i 1 = s.x.i 1 + 1 := e1
          exact ⟨by omega, by omega, by omega, by omega, by omega, by omega⟩
        | false =>
          rw [hb] at e1
          have e1 : (cnS7N s).x.i 1 = s.x.i 1 + 0 := e1
          exact ⟨by omega, by omega, by omega, by omega, by omega, by omega⟩
      · obtain ⟨e0, e1, l0, n0, _⟩ := cnS7N_k s
        unfold iadd at e0
        unfold cnS7Mu
        omega

noncomputable def cnS7F0 (s : SV) : Nat × SV := Go.Sim.runT cnS7T (cnS7Mu s + 1) s

noncomputable def cnS7F : SV → Nat × SV := Classical.choose (⟨cnS7F0, rfl⟩ : ∃ f, f = cnS7F0)

theorem cnS7F_eq : cnS7F = cnS7F0 := Classical.choose_spec (⟨cnS7F0, rfl⟩ : ∃ f, f = cnS7F0)

noncomputable def cnS7Pre (s : SV) : List Bool := [cnS7B s]

noncomputable def HcnS7 : LTab := hookL 0 cnS7L cnS7Pre cnS7F noLT

theorem HcnS7_ok : HFun Try.prog 1 HcnS7 9 := by
  unfold HcnS7
  rw [cnS7F_eq]
  exact HFun.loop GAasI_ok mixed (J := true) (n := 1000) (L := cnS7L) (T := cnS7T) (pre := cnS7Pre) (μ := cnS7Mu) (HFun.none Try.prog 1 9) (by kernel_rfl) (by decide) (by decide) cnS7_t cnS7_go

theorem cnS7G_eq (s : SV) : cnS7G s = goodF 7 (fun i => s.x.u (138 + i)) (s.x.u 146) (s.y 0) (s.x.i 0).toNat := by
  have e : cnS7G s = fcmp .leq .f32 (gM (fun i => szD (s.x.u (138 + i)) ((s.y 0).u (padd i (pmul (itn (s.x.i 0)) 8)))) 7) (s.x.u 146) := by kernel_rfl
  rw [e]
  unfold goodF
  rw [gM_congr (z := 7) (f := fun i => szD (s.x.u (138 + i)) ((s.y 0).u (padd i (pmul (itn (s.x.i 0)) 8)))) (g := fun i => szD (s.x.u (138 + i)) ((s.y 0).u (8 * (s.x.i 0).toNat + i))) fun i _ => by rw [idxS]]

theorem cnS7_yes (s : SV) (h0 : 0 ≤ s.x.i 0) (h1 : s.x.i 0 ≤ s.len 0) :
    (cnS7F s).1 = 0 ∧ (cnS7F s).2.x.i 0 = s.x.i 1 + cntF (goodF 7 (fun i => s.x.u (138 + i)) (s.x.u 146) (s.y 0)) (s.x.i 0).toNat (s.len 0 - (s.x.i 0).toNat) := by
  rw [cnS7F_eq]
  let P : SV → Prop := fun r => r.len 0 = s.len 0 ∧ r.y 0 = s.y 0 ∧ r.x.u 146 = s.x.u 146 ∧ ∀ i, i < 8 → r.x.u (138 + i) = s.x.u (138 + i)
  have k1 : ∀ r, P r → r.x.i 0 < s.len 0 → (cnS7T r).pick = .next (cnS7N r) := fun r hr hlt => by
    unfold cnS7T
    rw [decide_eq_true (show r.x.i 0 < ofN (r.len 0) by unfold ofN; have := hr.1; omega)]
    rfl
  have k2 : ∀ r, P r → (cnS7N r).x.i 0 = r.x.i 0 + 1 ∧ (cnS7N r).x.i 1 = r.x.i 1 + (bif goodF 7 (fun i => s.x.u (138 + i)) (s.x.u 146) (s.y 0) (r.x.i 0).toNat then 1 else 0) ∧ P (cnS7N r) := fun r hr => by
    obtain ⟨e0, e1, l0, _, y0, w0, u0, u1, u2, u3, u4, u5, u6, u7⟩ := cnS7N_k r
    obtain ⟨q0, q1, q2, q3⟩ := hr
    rw [bif_add, cnS7G_eq, q1, q2] at e1
    have eg : goodF 7 (fun i => r.x.u (138 + i)) (s.x.u 146) (s.y 0) (r.x.i 0).toNat = goodF 7 (fun i => s.x.u (138 + i)) (s.x.u 146) (s.y 0) (r.x.i 0).toNat := by
      unfold goodF
      rw [gM_congr (z := 7) (f := fun i => szD (r.x.u (138 + i)) ((s.y 0).u (8 * (r.x.i 0).toNat + i))) (g := fun i => szD (s.x.u (138 + i)) ((s.y 0).u (8 * (r.x.i 0).toNat + i))) fun i hi => by rw [q3 i (by omega)]]
    rw [eg] at e1
    exact ⟨e0, e1, l0.trans q0, y0.trans q1, w0.trans q2, fun i hi => (eightI (P := fun i => (cnS7N r).x.u (138 + i) = r.x.u (138 + i)) u0 u1 u2 u3 u4 u5 u6 u7 i hi).trans (q3 i hi)⟩
  have k3 : ∀ r, P r → ¬ r.x.i 0 < s.len 0 → (cnS7T r).pick = .out 0 (cnS7E r) ∧ (cnS7E r).x.i 0 = r.x.i 1 := fun r hr hlt => by
    refine ⟨?_, by kernel_rfl⟩
    unfold cnS7T
    rw [decide_eq_false (show ¬ r.x.i 0 < ofN (r.len 0) by unfold ofN; have := hr.1; omega)]
    rfl
  obtain ⟨a, b, _⟩ := cnt_run (T := cnS7T) (N := cnS7N) (E := cnS7E) P (goodF 7 (fun i => s.x.u (138 + i)) (s.x.u 146) (s.y 0)) (s.len 0) k1 k2 k3 (cnS7Mu s + 1) s ⟨rfl, rfl, rfl, fun _ _ => rfl⟩ h0 h1 (Nat.lt_succ_self _)
  exact ⟨a, b⟩

noncomputable def cnS8G (s : SV) : Bool := fcmp .leq .f32 (gM (fun i => szD (s.x.u (138 + i)) ((s.y 0).u (padd i (pmul (itn (s.x.i 0)) 8)))) 8) (s.x.u 146)

noncomputable def cnS8N (s : SV) : SV := (mkSV (apl [(.sint .i64 (iadd (s.x.i 0) 1)), (.sint .i64 (bif (cnS8G s) then (iadd (s.x.i 1) 1) else (s.x.i 1)))] (apl (fl s.x 2 8) (apl [(.sint .i8 (s.x.i 10))] (apl (fl s.x 11 14) (apl [(.sint .i8 (s.x.i 25))] (apl (fl s.x 26 14) (apl [(.sint .i8 (s.x.i 40))] (apl (fl s.x 41 14) (apl [(.sint .i8 (s.x.i 55))] (apl (fl s.x 56 14) (apl [(.sint .i8 (s.x.i 70))] (apl (fl s.x 71 14) (apl [(.sint .i8 (s.x.i 85))] (apl (fl s.x 86 14) (apl [(.sint .i8 (s.x.i 100))] (apl (fl s.x 101 14) (apl [(.sint .i8 (s.x.i 115))] (apl (fl s.x 116 32) ([(.sint .i16 (s.x.i 148))]))))))))))))))))))) [(s.len 0)] [(s.n 0), 0, 0] [(s.y 0), zeroV, zeroV])
noncomputable def cnS8E (s : SV) : SV := (mkSV [(.sint .i64 (s.x.i 1))] [] [(s.n 0)] [(s.y 0)])

noncomputable def cnS8T (s : SV) : Tr := .node [((decide ((-(9223372036854775807 + 1)) ≤ (ofN (s.len 0)))) && (decide ((ofN (s.len 0)) ≤ 9223372036854775807)))] (decide ((s.x.i 0) < (ofN (s.len 0)))) (.next (cnS8N s) [((decide ((-(9223372036854775807 + 1)) ≤ (iadd (s.x.i 0) 1))) && (decide ((iadd (s.x.i 0) 1) ≤ 9223372036854775807))), ((!(cnS8G s)) || ((decide ((-(9223372036854775807 + 1)) ≤ (iadd (s.x.i 1) 1))) && (decide ((iadd (s.x.i 1) 1) ≤ 9223372036854775807)))), (decide ((padd 7 (pmul (itn (s.x.i 0)) 8)) < (s.n 0))), (decide ((padd 6 (pmul (itn (s.x.i 0)) 8)) < (s.n 0))), (decide ((padd 5 (pmul (itn (s.x.i 0)) 8)) < (s.n 0))), (decide ((padd 4 (pmul (itn (s.x.i 0)) 8)) < (s.n 0))), (decide ((padd 3 (pmul (itn (s.x.i 0)) 8)) < (s.n 0))), (decide ((padd 2 (pmul (itn (s.x.i 0)) 8)) < (s.n 0))), (decide ((padd 1 (pmul (itn (s.x.i 0)) 8)) < (s.n 0))), (decide ((padd 0 (pmul (itn (s.x.i 0)) 8)) < (s.n 0))), (decide (0 ≤ (s.x.i 0))), (decide ((s.x.i 0) < (s.len 0)))]) (.out 0 (cnS8E s) [])

theorem cnS8_t (s : SV) : Go.Sim.stepT Try.prog GAasI (ntOf Try.prog 9) noLT true 1000 cnS8L (loopOf Try.prog 9 0) s = some (cnS8T s) := by kernel_rfl

def cnS8P (s : SV) : Prop := 0 ≤ s.x.i 0 ∧ s.x.i 0 ≤ s.len 0 ∧ s.len 0 ≤ 1048576 ∧ s.n 0 = 8 * s.len 0 ∧ 0 ≤ s.x.i 1 ∧ s.x.i 1 ≤ s.x.i 0

noncomputable def cnS8B (s : SV) : Bool := @decide (cnS8P s) (Classical.propDecidable _)
theorem cnS8B_of {s : SV} (h : cnS8B s = true) : cnS8P s := @of_decide_eq_true _ (Classical.propDecidable _) h
theorem cnS8B_to {s : SV} (h : cnS8P s) : cnS8B s = true := @decide_eq_true _ (Classical.propDecidable _) h

theorem cnS8N_k (s : SV) : (cnS8N s).x.i 0 = iadd (s.x.i 0) 1 ∧ (cnS8N s).x.i 1 = (bif (cnS8G s) then (iadd (s.x.i 1) 1) else (s.x.i 1)) ∧ (cnS8N s).len 0 = s.len 0 ∧ (cnS8N s).n 0 = s.n 0 ∧ (cnS8N s).y 0 = s.y 0 ∧ (cnS8N s).x.u 146 = s.x.u 146 ∧ (cnS8N s).x.u (138 + 0) = s.x.u (138 + 0) ∧ (cnS8N s).x.u (138 + 1) = s.x.u (138 + 1) ∧ (cnS8N s).x.u (138 + 2) = s.x.u (138 + 2) ∧ (cnS8N s).x.u (138 + 3) = s.x.u (138 + 3) ∧ (cnS8N s).x.u (138 + 4) = s.x.u (138 + 4) ∧ (cnS8N s).x.u (138 + 5) = s.x.u (138 + 5) ∧ (cnS8N s).x.u (138 + 6) = s.x.u (138 + 6) ∧ (cnS8N s).x.u (138 + 7) = s.x.u (138 + 7) := ⟨by kernel_rfl, by kernel_rfl, by kernel_rfl, by kernel_rfl, by kernel_rfl, by kernel_rfl, by kernel_rfl, by kernel_rfl, by kernel_rfl, by kernel_rfl, by kernel_rfl, by kernel_rfl, by kernel_rfl, by kernel_rfl⟩

def cnS8Mu (s : SV) : Nat := ((s.len 0 : Int) - s.x.i 0).toNat

theorem cnS8_go (s : SV) (hp : ∀ b ∈ [cnS8B s], b = true) :
    (cnS8T s).ok ∧ (∀ k s', (cnS8T s).pick = .out k s' → k < 1) ∧ ∀ s', (cnS8T s).pick = .next s' → (∀ b ∈ [cnS8B s'], b = true) ∧ cnS8Mu s' < cnS8Mu s := by
  have hP := cnS8B_of (hp _ (List.mem_cons_self ..))
  have hP' := hP
  obtain ⟨i1, i2, i3, i4, i5, i6⟩ := hP
  cases hc : (decide ((s.x.i 0) < (ofN (s.len 0)))) with
  | false =>
    have hk : (cnS8T s).pick = .out 0 (cnS8E s) := by unfold cnS8T; rw [hc]; rfl
    refine ⟨?_, fun k s' h => ?_, fun s' h => ?_⟩
    · unfold cnS8T
      exact ⟨(allC (andT (decide_eq_true (by unfold ofN; omega)) (decide_eq_true (by unfold ofN; omega))) allN), (fun h => by rw [hc] at h; cases h), (fun _ b hb => by cases hb)⟩
    · rw [hk] at h; cases h; decide
    · rw [hk] at h; cases h
  | true =>
    have hlt := of_decide_eq_true hc
    (try unfold ofN at hlt)
    have hk : (cnS8T s).pick = .next (cnS8N s) := by unfold cnS8T; rw [hc]; rfl
    refine ⟨?_, fun k s' h => ?_, fun s' h => ?_⟩
    · unfold cnS8T
      exact ⟨(allC (andT (decide_eq_true (by unfold ofN; omega)) (decide_eq_true (by unfold ofN; omega))) allN), (fun _ => (allC (andT (decide_eq_true (by unfold iadd; omega)) (decide_eq_true (by unfold iadd; omega))) (allC (orTr (andT (decide_eq_true (by unfold iadd; omega)) (decide_eq_true (by unfold iadd; omega)))) (allC (decide_eq_true (by unfold padd pmul itn; omega)) (allC (decide_eq_true (by unfold padd pmul itn; omega)) (allC (decide_eq_true (by unfold padd pmul itn; omega)) (allC (decide_eq_true (by unfold padd pmul itn; omega)) (allC (decide_eq_true (by unfold padd pmul itn; omega)) (allC (decide_eq_true (by unfold padd pmul itn; omega)) (allC (decide_eq_true (by unfold padd pmul itn; omega)) (allC (decide_eq_true (by unfold padd pmul itn; omega)) (allC (decide_eq_true (by omega)) (allC (decide_eq_true (by omega)) allN))))))))))))), (fun h => by rw [hc] at h; cases h)⟩
    · rw [hk] at h; cases h
    · rw [hk] at h
      cases h
      refine ⟨fun b hb => ?_, ?_⟩
      · rw [List.mem_singleton.1 hb]
        refine cnS8B_to ?_
        obtain ⟨e0, e1, l0, n0, _⟩ := cnS8N_k s
        rw [bif_add] at e1
        unfold iadd at e0
        cases hb : cnS8G s with
        | true =>
          rw [hb] at e1
          have e1 : (cnS8N s).x.i 1 = s.x.i 1 + 1 := e1
          exact ⟨by omega, by omega, by omega, by omega, by omega, by omega⟩
        | false =>
          rw [hb] at e1
          have e1 : (cnS8N s).x.i 1 = s.x.i 1 + 0 := e1
          exact ⟨by omega, by omega, by omega, by omega, by omega, by omega⟩
      · obtain ⟨e0, e1, l0, n0, _⟩ := cnS8N_k s
        unfold iadd at e0
        unfold cnS8Mu
        omega

noncomputable def cnS8F0 (s : SV) : Nat × SV := Go.Sim.runT cnS8T (cnS8Mu s + 1) s

noncomputable def cnS8F : SV → Nat × SV := Classical.choose (⟨cnS8F0, rfl⟩ : ∃ f, f = cnS8F0)

theorem cnS8F_eq : cnS8F = cnS8F0 := Classical.choose_spec (⟨cnS8F0, rfl⟩ : ∃ f, f = cnS8F0)

noncomputable def cnS8Pre (s : SV) : List Bool := [cnS8B s]

noncomputable def HcnS8 : LTab := hookL 0 cnS8L cnS8Pre cnS8F noLT

theorem HcnS8_ok : HFun Try.prog 1 HcnS8 9 := by
  unfold HcnS8
  rw [cnS8F_eq]
  exact HFun.loop GAasI_ok mixed (J := true) (n := 1000) (L := cnS8L) (T := cnS8T) (pre := cnS8Pre) (μ := cnS8Mu) (HFun.none Try.prog 1 9) (by kernel_rfl) (by decide) (by decide) cnS8_t cnS8_go

theorem cnS8G_eq (s : SV) : cnS8G s = goodF 8 (fun i => s.x.u (138 + i)) (s.x.u 146) (s.y 0) (s.x.i 0).toNat := by
  have e : cnS8G s = fcmp .leq .f32 (gM (fun i => szD (s.x.u (138 + i)) ((s.y 0).u (padd i (pmul (itn (s.x.i 0)) 8)))) 8) (s.x.u 146) := by kernel_rfl
  rw [e]
  unfold goodF
  rw [gM_congr (z := 8) (f := fun i => szD (s.x.u (138 + i)) ((s.y 0).u (padd i (pmul (itn (s.x.i 0)) 8)))) (g := fun i => szD (s.x.u (138 + i)) ((s.y 0).u (8 * (s.x.i 0).toNat + i))) fun i _ => by rw [idxS]]

theorem cnS8_yes (s : SV) (h0 : 0 ≤ s.x.i 0) (h1 : s.x.i 0 ≤ s.len 0) :
    (cnS8F s).1 = 0 ∧ (cnS8F s).2.x.i 0 = s.x.i 1 + cntF (goodF 8 (fun i => s.x.u (138 + i)) (s.x.u 146) (s.y 0)) (s.x.i 0).toNat (s.len 0 - (s.x.i 0).toNat) := by
  rw [cnS8F_eq]
  let P : SV → Prop := fun r => r.len 0 = s.len 0 ∧ r.y 0 = s.y 0 ∧ r.x.u 146 = s.x.u 146 ∧ ∀ i, i < 8 → r.x.u (138 + i) = s.x.u (138 + i)
  have k1 : ∀ r, P r → r.x.i 0 < s.len 0 → (cnS8T r).pick = .next (cnS8N r) := fun r hr hlt => by
    unfold cnS8T
    rw [decide_eq_true (show r.x.i 0 < ofN (r.len 0) by unfold ofN; have := hr.1; omega)]
    rfl
  have k2 : ∀ r, P r → (cnS8N r).x.i 0 = r.x.i 0 + 1 ∧ (cnS8N r).x.i 1 = r.x.i 1 + (bif goodF 8 (fun i => s.x.u (138 + i)) (s.x.u 146) (s.y 0) (r.x.i 0).toNat then 1 else 0) ∧ P (cnS8N r) := fun r hr => by
    obtain ⟨e0, e1, l0, _, y0, w0, u0, u1, u2, u3, u4, u5, u6, u7⟩ := cnS8N_k r
    obtain ⟨q0, q1, q2, q3⟩ := hr
    rw [bif_add, cnS8G_eq, q1, q2] at e1
    have eg : goodF 8 (fun i => r.x.u (138 + i)) (s.x.u 146) (s.y 0) (r.x.i 0).toNat = goodF 8 (fun i => s.x.u (138 + i)) (s.x.u 146) (s.y 0) (r.x.i 0).toNat := by
      unfold goodF
      rw [gM_congr (z := 8) (f := fun i => szD (r.x.u (138 + i)) ((s.y 0).u (8 * (r.x.i 0).toNat + i))) (g := fun i => szD (s.x.u (138 + i)) ((s.y 0).u (8 * (r.x.i 0).toNat + i))) fun i hi => by rw [q3 i (by omega)]]
    rw [eg] at e1
    exact ⟨e0, e1, l0.trans q0, y0.trans q1, w0.trans q2, fun i hi => (eightI (P := fun i => (cnS8N r).x.u (138 + i) = r.x.u (138 + i)) u0 u1 u2 u3 u4 u5 u6 u7 i hi).trans (q3 i hi)⟩
  have k3 : ∀ r, P r → ¬ r.x.i 0 < s.len 0 → (cnS8T r).pick = .out 0 (cnS8E r) ∧ (cnS8E r).x.i 0 = r.x.i 1 := fun r hr hlt => by
    refine ⟨?_, by kernel_rfl⟩
    unfold cnS8T
    rw [decide_eq_false (show ¬ r.x.i 0 < ofN (r.len 0) by unfold ofN; have := hr.1; omega)]
    rfl
  obtain ⟨a, b, _⟩ := cnt_run (T := cnS8T) (N := cnS8N) (E := cnS8E) P (goodF 8 (fun i => s.x.u (138 + i)) (s.x.u 146) (s.y 0)) (s.len 0) k1 k2 k3 (cnS8Mu s + 1) s ⟨rfl, rfl, rfl, fun _ _ => rfl⟩ h0 h1 (Nat.lt_succ_self _)
  exact ⟨a, b⟩

end Go.Proofs.Ytagkkkplmilkhaa

/-
  Facts of this seat that its laws use; no conditions.
-/
import Derived.Test.YtagkkkplmilkhaaGood
namespace Go.Proofs.Ytagkkkplmilkhaa
open Go.Sim Go.ChangeShapes Go.WideShapes Go.ChangeAt Go.RowKit

/-- From where on all are good. -/
def fstF (g : Nat → Bool) : Nat → Int
  | 0 => 0
  | n + 1 => bif g n then fstF g n else ((n + 1 : Nat) : Int)

theorem fstF_congr {g h : Nat → Bool} : ∀ {n : Nat}, (∀ j, j < n → g j = h j) → fstF g n = fstF h n
  | 0, _ => rfl
  | n + 1, hh => by
    simp only [fstF]
    rw [hh n (Nat.lt_succ_self n), fstF_congr fun j hj => hh j (Nat.lt_succ_of_lt hj)]

theorem fst_run {T : SV → Tr} {N E : SV → SV} (P : SV → Prop) (g : Nat → Bool)
    (hp : ∀ s, P s → 0 < s.x.i 0 → g (s.x.i 0 - 1).toNat = true → (T s).pick = .next (N s))
    (hn : ∀ s, P s → 0 < s.x.i 0 → (N s).x.i 0 = s.x.i 0 - 1 ∧ P (N s))
    (h1 : ∀ s, P s → 0 < s.x.i 0 → g (s.x.i 0 - 1).toNat = false → (T s).pick = .out 0 (E s))
    (h0 : ∀ s, P s → ¬ 0 < s.x.i 0 → (T s).pick = .out 0 (E s)) :
    ∀ n s, P s → 0 ≤ s.x.i 0 → (s.x.i 0).toNat < n → (Go.Sim.runT T n s).1 = 0 ∧ ∃ r, P r ∧ (Go.Sim.runT T n s).2 = E r ∧ r.x.i 0 = fstF g (s.x.i 0).toNat := by
  intro n
  induction n with
  | zero => intro s _ _ h; omega
  | succ n ih =>
    intro s hs hk h2
    simp only [Go.Sim.runT]
    by_cases hlt : 0 < s.x.i 0
    · have e : (s.x.i 0).toNat = (s.x.i 0 - 1).toNat + 1 := by omega
      cases hg : g (s.x.i 0 - 1).toNat with
      | true =>
        rw [hp s hs hlt hg]
        obtain ⟨e0, e1⟩ := hn s hs hlt
        obtain ⟨a, r, r1, r2, r3⟩ := ih (N s) e1 (by omega) (by omega)
        refine ⟨a, r, r1, r2, ?_⟩
        rw [r3, e, e0]
        simp only [fstF]
        rw [hg]
        rfl
      | false =>
        rw [h1 s hs hlt hg]
        refine ⟨rfl, s, hs, rfl, ?_⟩
        rw [e]
        simp only [fstF]
        rw [hg]
        show s.x.i 0 = (((s.x.i 0 - 1).toNat + 1 : Nat) : Int)
        omega
    · rw [h0 s hs hlt]
      refine ⟨rfl, s, hs, rfl, ?_⟩
      rw [show (s.x.i 0).toNat = 0 by omega]
      show s.x.i 0 = 0
      omega

noncomputable def fgIL : LP := { A := 1, ts := [10, 8], F := ⟨[.sc (.int .i64), .ssl 1 0 1], [.sym (.flt .f32) false, .sym .bool false]⟩, xs := [(.exit 0, [10, 8], ⟨[.sc (.int .i64), .ssl 1 0 1], [.sym (.flt .f32) false, .sym .bool false]⟩)] }

noncomputable def fgS1L : LP := { A := 1, ts := [9, 2, 3, 4], F := ⟨[.sc (.int .i64), .ssl 0 0 8, .ptr 1 0, .ptr 2 0], [.sym (.flt .f32) false, .lit (.cst (.int .i8 1) :: uT) false, .lit sC false]⟩, xs := [(.exit 0, [9, 2], ⟨[.sc (.int .i64), .ssl 0 0 8], [.sym (.flt .f32) false]⟩)] }

noncomputable def fgS2L : LP := { A := 1, ts := [9, 2, 3, 4], F := ⟨[.sc (.int .i64), .ssl 0 0 8, .ptr 1 0, .ptr 2 0], [.sym (.flt .f32) false, .lit (.cst (.int .i8 2) :: uT) false, .lit sC false]⟩, xs := [(.exit 0, [9, 2], ⟨[.sc (.int .i64), .ssl 0 0 8], [.sym (.flt .f32) false]⟩)] }

noncomputable def fgS3L : LP := { A := 1, ts := [9, 2, 3, 4], F := ⟨[.sc (.int .i64), .ssl 0 0 8, .ptr 1 0, .ptr 2 0], [.sym (.flt .f32) false, .lit (.cst (.int .i8 3) :: uT) false, .lit sC false]⟩, xs := [(.exit 0, [9, 2], ⟨[.sc (.int .i64), .ssl 0 0 8], [.sym (.flt .f32) false]⟩)] }

noncomputable def fgS4L : LP := { A := 1, ts := [9, 2, 3, 4], F := ⟨[.sc (.int .i64), .ssl 0 0 8, .ptr 1 0, .ptr 2 0], [.sym (.flt .f32) false, .lit (.cst (.int .i8 4) :: uT) false, .lit sC false]⟩, xs := [(.exit 0, [9, 2], ⟨[.sc (.int .i64), .ssl 0 0 8], [.sym (.flt .f32) false]⟩)] }

noncomputable def fgS5L : LP := { A := 1, ts := [9, 2, 3, 4], F := ⟨[.sc (.int .i64), .ssl 0 0 8, .ptr 1 0, .ptr 2 0], [.sym (.flt .f32) false, .lit (.cst (.int .i8 5) :: uT) false, .lit sC false]⟩, xs := [(.exit 0, [9, 2], ⟨[.sc (.int .i64), .ssl 0 0 8], [.sym (.flt .f32) false]⟩)] }

noncomputable def fgS6L : LP := { A := 1, ts := [9, 2, 3, 4], F := ⟨[.sc (.int .i64), .ssl 0 0 8, .ptr 1 0, .ptr 2 0], [.sym (.flt .f32) false, .lit (.cst (.int .i8 6) :: uT) false, .lit sC false]⟩, xs := [(.exit 0, [9, 2], ⟨[.sc (.int .i64), .ssl 0 0 8], [.sym (.flt .f32) false]⟩)] }

noncomputable def fgS7L : LP := { A := 1, ts := [9, 2, 3, 4], F := ⟨[.sc (.int .i64), .ssl 0 0 8, .ptr 1 0, .ptr 2 0], [.sym (.flt .f32) false, .lit (.cst (.int .i8 7) :: uT) false, .lit sC false]⟩, xs := [(.exit 0, [9, 2], ⟨[.sc (.int .i64), .ssl 0 0 8], [.sym (.flt .f32) false]⟩)] }

noncomputable def fgS8L : LP := { A := 1, ts := [9, 2, 3, 4], F := ⟨[.sc (.int .i64), .ssl 0 0 8, .ptr 1 0, .ptr 2 0], [.sym (.flt .f32) false, .lit (.cst (.int .i8 8) :: uT) false, .lit sC false]⟩, xs := [(.exit 0, [9, 2], ⟨[.sc (.int .i64), .ssl 0 0 8], [.sym (.flt .f32) false]⟩)] }

noncomputable def fgIG (s : SV) : Bool := ((s.y 1).b (padd 0 (pmul (itn (isub (s.x.i 0) 1)) 1)))

noncomputable def fgIN (s : SV) : SV := (mkSV [(.sint .i64 (isub (s.x.i 0) 1))] [(s.len 0)] [(s.n 0), (s.n 1)] [(s.y 0), (s.y 1)])
noncomputable def fgIE (s : SV) : SV := (mkSV [(.sint .i64 (s.x.i 0))] [(s.len 0)] [(s.n 0), (s.n 1)] [(s.y 0), (s.y 1)])

noncomputable def fgIT (s : SV) : Tr := .node [] (decide (0 < (s.x.i 0))) (.node [(decide ((padd 0 (pmul (itn (isub (s.x.i 0) 1)) 1)) < (s.n 1))), (decide (0 ≤ (isub (s.x.i 0) 1))), (decide ((isub (s.x.i 0) 1) < (s.len 0))), ((decide ((-(9223372036854775807 + 1)) ≤ (isub (s.x.i 0) 1))) && (decide ((isub (s.x.i 0) 1) ≤ 9223372036854775807)))] (fgIG s) (.next (fgIN s) [((decide ((-(9223372036854775807 + 1)) ≤ (isub (s.x.i 0) 1))) && (decide ((isub (s.x.i 0) 1) ≤ 9223372036854775807)))]) (.out 0 (fgIE s) [])) (.out 0 (fgIE s) [])

theorem fgI_t (s : SV) : Go.Sim.stepT Try.prog GAasI (ntOf Try.prog 16) noLT true 1000 fgIL (loopOf Try.prog 16 0) s = some (fgIT s) := by kernel_rfl

def fgIP (s : SV) : Prop := 0 ≤ s.x.i 0 ∧ s.x.i 0 ≤ s.len 0 ∧ s.len 0 ≤ 1048576 ∧ s.n 1 = s.len 0

noncomputable def fgIB (s : SV) : Bool := @decide (fgIP s) (Classical.propDecidable _)
theorem fgIB_of {s : SV} (h : fgIB s = true) : fgIP s := @of_decide_eq_true _ (Classical.propDecidable _) h
theorem fgIB_to {s : SV} (h : fgIP s) : fgIB s = true := @decide_eq_true _ (Classical.propDecidable _) h

theorem fgIN_k (s : SV) : (fgIN s).x.i 0 = isub (s.x.i 0) 1 ∧ (fgIN s).len 0 = s.len 0 ∧ (fgIN s).n 1 = s.n 1 ∧ (fgIN s).y 1 = s.y 1 := ⟨by kernel_rfl, by kernel_rfl, by kernel_rfl, by kernel_rfl⟩

def fgIMu (s : SV) : Nat := (s.x.i 0).toNat

theorem fgI_go (s : SV) (hp : ∀ b ∈ [fgIB s], b = true) :
    (fgIT s).ok ∧ (∀ k s', (fgIT s).pick = .out k s' → k < 1) ∧ ∀ s', (fgIT s).pick = .next s' → (∀ b ∈ [fgIB s'], b = true) ∧ fgIMu s' < fgIMu s := by
  obtain ⟨i1, i2, i3, i4⟩ := fgIB_of (hp _ (List.mem_cons_self ..))
  cases hc : (decide (0 < (s.x.i 0))) with
  | false =>
    have hk : (fgIT s).pick = .out 0 (fgIE s) := by unfold fgIT; rw [hc]; rfl
    refine ⟨?_, fun k s' h => ?_, fun s' h => ?_⟩
    · unfold fgIT
      exact ⟨allN, (fun h => by rw [hc] at h; cases h), (fun _ b hb => by cases hb)⟩
    · rw [hk] at h; cases h; decide
    · rw [hk] at h; cases h
  | true =>
    have hlt := of_decide_eq_true hc
    have hok : (fgIT s).ok := by
      unfold fgIT
      exact ⟨allN, (fun _ => ⟨(allC (decide_eq_true (by unfold padd pmul itn isub; omega)) (allC (decide_eq_true (by unfold isub; omega)) (allC (decide_eq_true (by unfold isub; omega)) (allC (andT (decide_eq_true (by unfold isub; omega)) (decide_eq_true (by unfold isub; omega))) allN)))), (fun _ => (allC (andT (decide_eq_true (by unfold isub; omega)) (decide_eq_true (by unfold isub; omega))) allN)), (fun _ b hb => by cases hb)⟩), (fun h => by rw [hc] at h; cases h)⟩
    cases hg : fgIG s with
    | false =>
      have hk : (fgIT s).pick = .out 0 (fgIE s) := by unfold fgIT; rw [hc, hg]; rfl
      refine ⟨hok, fun k s' h => ?_, fun s' h => ?_⟩
      · rw [hk] at h; cases h; decide
      · rw [hk] at h; cases h
    | true =>
      have hk : (fgIT s).pick = .next (fgIN s) := by unfold fgIT; rw [hc, hg]; rfl
      refine ⟨hok, fun k s' h => ?_, fun s' h => ?_⟩
      · rw [hk] at h; cases h
      · rw [hk] at h
        cases h
        obtain ⟨e0, l0, n0, _⟩ := fgIN_k s
        unfold isub at e0
        refine ⟨fun b hb => ?_, by unfold fgIMu; omega⟩
        rw [List.mem_singleton.1 hb]
        exact fgIB_to ⟨by omega, by omega, by omega, by omega⟩

noncomputable def fgIF0 (s : SV) : Nat × SV := Go.Sim.runT fgIT (fgIMu s + 1) s

noncomputable def fgIF : SV → Nat × SV := Classical.choose (⟨fgIF0, rfl⟩ : ∃ f, f = fgIF0)

theorem fgIF_eq : fgIF = fgIF0 := Classical.choose_spec (⟨fgIF0, rfl⟩ : ∃ f, f = fgIF0)

noncomputable def fgIPre (s : SV) : List Bool := [fgIB s]

noncomputable def HfgI : LTab := hookL 0 fgIL fgIPre fgIF noLT

theorem HfgI_ok : HFun Try.prog 1 HfgI 16 := by
  unfold HfgI
  rw [fgIF_eq]
  exact HFun.loop GAasI_ok mixed (J := true) (n := 1000) (L := fgIL) (T := fgIT) (pre := fgIPre) (μ := fgIMu) (HFun.none Try.prog 1 16) (by kernel_rfl) (by decide) (by decide) fgI_t fgI_go

theorem fgI_yes (s : SV) (h0 : 0 ≤ s.x.i 0) : (fgIF s).1 = 0 ∧ (fgIF s).2.x.i 0 = fstF (fun j => (s.y 1).b j) (s.x.i 0).toNat ∧ (fgIF s).2.len 0 = s.len 0 := by
  rw [fgIF_eq]
  let P : SV → Prop := fun r => r.y 1 = s.y 1 ∧ r.len 0 = s.len 0
  have hg : ∀ r, P r → 0 < r.x.i 0 → fgIG r = (s.y 1).b (r.x.i 0 - 1).toNat := fun r hr hlt => by
    have hi : padd 0 (pmul (itn (isub (r.x.i 0) 1)) 1) = (r.x.i 0 - 1).toNat := by unfold padd pmul itn isub; omega
    show (r.y 1).b (padd 0 (pmul (itn (isub (r.x.i 0) 1)) 1)) = _
    rw [hi, hr.1]
  have k1 : ∀ r, P r → 0 < r.x.i 0 → (s.y 1).b (r.x.i 0 - 1).toNat = true → (fgIT r).pick = .next (fgIN r) := fun r hr hlt h => by
    unfold fgIT
    rw [decide_eq_true hlt, hg r hr hlt, h]
    rfl
  have k2 : ∀ r, P r → 0 < r.x.i 0 → (fgIN r).x.i 0 = r.x.i 0 - 1 ∧ P (fgIN r) := fun r hr _ => by
    obtain ⟨e0, l0, _, y0⟩ := fgIN_k r
    exact ⟨e0, y0.trans hr.1, l0.trans hr.2⟩
  have k3 : ∀ r, P r → 0 < r.x.i 0 → (s.y 1).b (r.x.i 0 - 1).toNat = false → (fgIT r).pick = .out 0 (fgIE r) := fun r hr hlt h => by
    unfold fgIT
    rw [decide_eq_true hlt, hg r hr hlt, h]
    rfl
  have k4 : ∀ r, P r → ¬ 0 < r.x.i 0 → (fgIT r).pick = .out 0 (fgIE r) := fun r _ hlt => by
    unfold fgIT
    rw [decide_eq_false hlt]
    rfl
  obtain ⟨a, r, hr, e, f⟩ := fst_run (T := fgIT) (N := fgIN) (E := fgIE) P (fun j => (s.y 1).b j) k1 k2 k3 k4 (fgIMu s + 1) s ⟨rfl, rfl⟩ h0 (Nat.lt_succ_self _)
  have e' : (fgIF0 s).2 = fgIE r := e
  refine ⟨a, ?_, ?_⟩
  · rw [e']
    exact (show (fgIE r).x.i 0 = r.x.i 0 from by kernel_rfl).trans f
  · rw [e']
    exact (show (fgIE r).len 0 = r.len 0 from by kernel_rfl).trans hr.2

noncomputable def fgS1G (s : SV) : Bool := fcmp .leq .f32 (gM (fun i => szD (s.x.u (137 + i)) ((s.y 0).u (padd i (pmul (itn (isub (s.x.i 0) 1)) 8)))) 1) (s.x.u 145)

noncomputable def fgS1N (s : SV) : SV := (mkSV (apl [(.sint .i64 (isub (s.x.i 0) 1))] (apl (fl s.x 1 8) (apl [(.sint .i8 (s.x.i 9))] (apl (fl s.x 10 14) (apl [(.sint .i8 (s.x.i 24))] (apl (fl s.x 25 14) (apl [(.sint .i8 (s.x.i 39))] (apl (fl s.x 40 14) (apl [(.sint .i8 (s.x.i 54))] (apl (fl s.x 55 14) (apl [(.sint .i8 (s.x.i 69))] (apl (fl s.x 70 14) (apl [(.sint .i8 (s.x.i 84))] (apl (fl s.x 85 14) (apl [(.sint .i8 (s.x.i 99))] (apl (fl s.x 100 14) (apl [(.sint .i8 (s.x.i 114))] (apl (fl s.x 115 32) ([(.sint .i16 (s.x.i 147))]))))))))))))))))))) [(s.len 0)] [(s.n 0), 0, 0] [(s.y 0), zeroV, zeroV])
noncomputable def fgS1E (s : SV) : SV := (mkSV [(.sint .i64 (s.x.i 0))] [(s.len 0)] [(s.n 0)] [(s.y 0)])

noncomputable def fgS1T (s : SV) : Tr := .node [] (decide (0 < (s.x.i 0))) (.node [(decide ((padd 0 (pmul (itn (isub (s.x.i 0) 1)) 8)) < (s.n 0))), (decide (0 ≤ (isub (s.x.i 0) 1))), (decide ((isub (s.x.i 0) 1) < (s.len 0))), ((decide ((-(9223372036854775807 + 1)) ≤ (isub (s.x.i 0) 1))) && (decide ((isub (s.x.i 0) 1) ≤ 9223372036854775807)))] (fgS1G s) (.next (fgS1N s) [((decide ((-(9223372036854775807 + 1)) ≤ (isub (s.x.i 0) 1))) && (decide ((isub (s.x.i 0) 1) ≤ 9223372036854775807)))]) (.out 0 (fgS1E s) [])) (.out 0 (fgS1E s) [])

theorem fgS1_t (s : SV) : Go.Sim.stepT Try.prog GAasI (ntOf Try.prog 15) noLT true 1000 fgS1L (loopOf Try.prog 15 0) s = some (fgS1T s) := by kernel_rfl

def fgS1P (s : SV) : Prop := 0 ≤ s.x.i 0 ∧ s.x.i 0 ≤ s.len 0 ∧ s.len 0 ≤ 1048576 ∧ s.n 0 = 8 * s.len 0

noncomputable def fgS1B (s : SV) : Bool := @decide (fgS1P s) (Classical.propDecidable _)
theorem fgS1B_of {s : SV} (h : fgS1B s = true) : fgS1P s := @of_decide_eq_true _ (Classical.propDecidable _) h
theorem fgS1B_to {s : SV} (h : fgS1P s) : fgS1B s = true := @decide_eq_true _ (Classical.propDecidable _) h

theorem fgS1N_k (s : SV) : (fgS1N s).x.i 0 = isub (s.x.i 0) 1 ∧ (fgS1N s).len 0 = s.len 0 ∧ (fgS1N s).n 0 = s.n 0 ∧ (fgS1N s).y 0 = s.y 0 ∧ (fgS1N s).x.u 145 = s.x.u 145 ∧ (fgS1N s).x.u (137 + 0) = s.x.u (137 + 0) ∧ (fgS1N s).x.u (137 + 1) = s.x.u (137 + 1) ∧ (fgS1N s).x.u (137 + 2) = s.x.u (137 + 2) ∧ (fgS1N s).x.u (137 + 3) = s.x.u (137 + 3) ∧ (fgS1N s).x.u (137 + 4) = s.x.u (137 + 4) ∧ (fgS1N s).x.u (137 + 5) = s.x.u (137 + 5) ∧ (fgS1N s).x.u (137 + 6) = s.x.u (137 + 6) ∧ (fgS1N s).x.u (137 + 7) = s.x.u (137 + 7) := ⟨by kernel_rfl, by kernel_rfl, by kernel_rfl, by kernel_rfl, by kernel_rfl, by kernel_rfl, by kernel_rfl, by kernel_rfl, by kernel_rfl, by kernel_rfl, by kernel_rfl, by kernel_rfl, by kernel_rfl⟩

def fgS1Mu (s : SV) : Nat := (s.x.i 0).toNat

theorem fgS1_go (s : SV) (hp : ∀ b ∈ [fgS1B s], b = true) :
    (fgS1T s).ok ∧ (∀ k s', (fgS1T s).pick = .out k s' → k < 1) ∧ ∀ s', (fgS1T s).pick = .next s' → (∀ b ∈ [fgS1B s'], b = true) ∧ fgS1Mu s' < fgS1Mu s := by
  obtain ⟨i1, i2, i3, i4⟩ := fgS1B_of (hp _ (List.mem_cons_self ..))
  cases hc : (decide (0 < (s.x.i 0))) with
  | false =>
    have hk : (fgS1T s).pick = .out 0 (fgS1E s) := by unfold fgS1T; rw [hc]; rfl
    refine ⟨?_, fun k s' h => ?_, fun s' h => ?_⟩
    · unfold fgS1T
      exact ⟨allN, (fun h => by rw [hc] at h; cases h), (fun _ b hb => by cases hb)⟩
    · rw [hk] at h; cases h; decide
    · rw [hk] at h; cases h
  | true =>
    have hlt := of_decide_eq_true hc
    have hok : (fgS1T s).ok := by
      unfold fgS1T
      exact ⟨allN, (fun _ => ⟨(allC (decide_eq_true (by unfold padd pmul itn isub; omega)) (allC (decide_eq_true (by unfold isub; omega)) (allC (decide_eq_true (by unfold isub; omega)) (allC (andT (decide_eq_true (by unfold isub; omega)) (decide_eq_true (by unfold isub; omega))) allN)))), (fun _ => (allC (andT (decide_eq_true (by unfold isub; omega)) (decide_eq_true (by unfold isub; omega))) allN)), (fun _ b hb => by cases hb)⟩), (fun h => by rw [hc] at h; cases h)⟩
    cases hg : fgS1G s with
    | false =>
      have hk : (fgS1T s).pick = .out 0 (fgS1E s) := by unfold fgS1T; rw [hc, hg]; rfl
      refine ⟨hok, fun k s' h => ?_, fun s' h => ?_⟩
      · rw [hk] at h; cases h; decide
      · rw [hk] at h; cases h
    | true =>
      have hk : (fgS1T s).pick = .next (fgS1N s) := by unfold fgS1T; rw [hc, hg]; rfl
      refine ⟨hok, fun k s' h => ?_, fun s' h => ?_⟩
      · rw [hk] at h; cases h
      · rw [hk] at h
        cases h
        obtain ⟨e0, l0, n0, _⟩ := fgS1N_k s
        unfold isub at e0
        refine ⟨fun b hb => ?_, by unfold fgS1Mu; omega⟩
        rw [List.mem_singleton.1 hb]
        exact fgS1B_to ⟨by omega, by omega, by omega, by omega⟩

noncomputable def fgS1F0 (s : SV) : Nat × SV := Go.Sim.runT fgS1T (fgS1Mu s + 1) s

noncomputable def fgS1F : SV → Nat × SV := Classical.choose (⟨fgS1F0, rfl⟩ : ∃ f, f = fgS1F0)

theorem fgS1F_eq : fgS1F = fgS1F0 := Classical.choose_spec (⟨fgS1F0, rfl⟩ : ∃ f, f = fgS1F0)

noncomputable def fgS1Pre (s : SV) : List Bool := [fgS1B s]

noncomputable def HfgS1 : LTab := hookL 0 fgS1L fgS1Pre fgS1F noLT

theorem HfgS1_ok : HFun Try.prog 1 HfgS1 15 := by
  unfold HfgS1
  rw [fgS1F_eq]
  exact HFun.loop GAasI_ok mixed (J := true) (n := 1000) (L := fgS1L) (T := fgS1T) (pre := fgS1Pre) (μ := fgS1Mu) (HFun.none Try.prog 1 15) (by kernel_rfl) (by decide) (by decide) fgS1_t fgS1_go

theorem fgS1_yes (s : SV) (h0 : 0 ≤ s.x.i 0) : (fgS1F s).1 = 0 ∧ (fgS1F s).2.x.i 0 = fstF (goodF 1 (fun i => s.x.u (137 + i)) (s.x.u 145) (s.y 0)) (s.x.i 0).toNat ∧ (fgS1F s).2.len 0 = s.len 0 := by
  rw [fgS1F_eq]
  let P : SV → Prop := fun r => r.y 0 = s.y 0 ∧ r.len 0 = s.len 0 ∧ r.x.u 145 = s.x.u 145 ∧ ∀ i, i < 8 → r.x.u (137 + i) = s.x.u (137 + i)
  have hg : ∀ r, P r → 0 < r.x.i 0 → fgS1G r = goodF 1 (fun i => s.x.u (137 + i)) (s.x.u 145) (s.y 0) (r.x.i 0 - 1).toNat := fun r hr hlt => by
    obtain ⟨q1, _, q2, q3⟩ := hr
    unfold fgS1G goodF
    rw [q1, q2]
    rw [gM_congr (z := 1) (f := fun i => szD (r.x.u (137 + i)) ((s.y 0).u (padd i (pmul (itn (isub (r.x.i 0) 1)) 8)))) (g := fun i => szD (s.x.u (137 + i)) ((s.y 0).u (8 * (r.x.i 0 - 1).toNat + i))) fun i hi => by rw [q3 i (by omega), show padd i (pmul (itn (isub (r.x.i 0) 1)) 8) = 8 * (r.x.i 0 - 1).toNat + i by unfold padd pmul itn isub; omega]]
  have k1 : ∀ r, P r → 0 < r.x.i 0 → goodF 1 (fun i => s.x.u (137 + i)) (s.x.u 145) (s.y 0) (r.x.i 0 - 1).toNat = true → (fgS1T r).pick = .next (fgS1N r) := fun r hr hlt h => by
    unfold fgS1T
    rw [decide_eq_true hlt, hg r hr hlt, h]
    rfl
  have k2 : ∀ r, P r → 0 < r.x.i 0 → (fgS1N r).x.i 0 = r.x.i 0 - 1 ∧ P (fgS1N r) := fun r hr _ => by
    obtain ⟨e0, l0, _, y0, w0, u0, u1, u2, u3, u4, u5, u6, u7⟩ := fgS1N_k r
    exact ⟨e0, y0.trans hr.1, l0.trans hr.2.1, w0.trans hr.2.2.1, fun i hi => (eightI (P := fun i => (fgS1N r).x.u (137 + i) = r.x.u (137 + i)) u0 u1 u2 u3 u4 u5 u6 u7 i hi).trans (hr.2.2.2 i hi)⟩
  have k3 : ∀ r, P r → 0 < r.x.i 0 → goodF 1 (fun i => s.x.u (137 + i)) (s.x.u 145) (s.y 0) (r.x.i 0 - 1).toNat = false → (fgS1T r).pick = .out 0 (fgS1E r) := fun r hr hlt h => by
    unfold fgS1T
    rw [decide_eq_true hlt, hg r hr hlt, h]
    rfl
  have k4 : ∀ r, P r → ¬ 0 < r.x.i 0 → (fgS1T r).pick = .out 0 (fgS1E r) := fun r _ hlt => by
    unfold fgS1T
    rw [decide_eq_false hlt]
    rfl
  obtain ⟨a, r, hr, e, f⟩ := fst_run (T := fgS1T) (N := fgS1N) (E := fgS1E) P (goodF 1 (fun i => s.x.u (137 + i)) (s.x.u 145) (s.y 0)) k1 k2 k3 k4 (fgS1Mu s + 1) s ⟨rfl, rfl, rfl, fun _ _ => rfl⟩ h0 (Nat.lt_succ_self _)
  have e' : (fgS1F0 s).2 = fgS1E r := e
  refine ⟨a, ?_, ?_⟩
  · rw [e']
    exact (show (fgS1E r).x.i 0 = r.x.i 0 from by kernel_rfl).trans f
  · rw [e']
    exact (show (fgS1E r).len 0 = r.len 0 from by kernel_rfl).trans hr.2.1

noncomputable def fgS2G (s : SV) : Bool := fcmp .leq .f32 (gM (fun i => szD (s.x.u (137 + i)) ((s.y 0).u (padd i (pmul (itn (isub (s.x.i 0) 1)) 8)))) 2) (s.x.u 145)

noncomputable def fgS2N (s : SV) : SV := (mkSV (apl [(.sint .i64 (isub (s.x.i 0) 1))] (apl (fl s.x 1 8) (apl [(.sint .i8 (s.x.i 9))] (apl (fl s.x 10 14) (apl [(.sint .i8 (s.x.i 24))] (apl (fl s.x 25 14) (apl [(.sint .i8 (s.x.i 39))] (apl (fl s.x 40 14) (apl [(.sint .i8 (s.x.i 54))] (apl (fl s.x 55 14) (apl [(.sint .i8 (s.x.i 69))] (apl (fl s.x 70 14) (apl [(.sint .i8 (s.x.i 84))] (apl (fl s.x 85 14) (apl [(.sint .i8 (s.x.i 99))] (apl (fl s.x 100 14) (apl [(.sint .i8 (s.x.i 114))] (apl (fl s.x 115 32) ([(.sint .i16 (s.x.i 147))]))))))))))))))))))) [(s.len 0)] [(s.n 0), 0, 0] [(s.y 0), zeroV, zeroV])
noncomputable def fgS2E (s : SV) : SV := (mkSV [(.sint .i64 (s.x.i 0))] [(s.len 0)] [(s.n 0)] [(s.y 0)])

noncomputable def fgS2T (s : SV) : Tr := .node [] (decide (0 < (s.x.i 0))) (.node [(decide ((padd 1 (pmul (itn (isub (s.x.i 0) 1)) 8)) < (s.n 0))), (decide ((padd 0 (pmul (itn (isub (s.x.i 0) 1)) 8)) < (s.n 0))), (decide (0 ≤ (isub (s.x.i 0) 1))), (decide ((isub (s.x.i 0) 1) < (s.len 0))), ((decide ((-(9223372036854775807 + 1)) ≤ (isub (s.x.i 0) 1))) && (decide ((isub (s.x.i 0) 1) ≤ 9223372036854775807)))] (fgS2G s) (.next (fgS2N s) [((decide ((-(9223372036854775807 + 1)) ≤ (isub (s.x.i 0) 1))) && (decide ((isub (s.x.i 0) 1) ≤ 9223372036854775807)))]) (.out 0 (fgS2E s) [])) (.out 0 (fgS2E s) [])

theorem fgS2_t (s : SV) : Go.Sim.stepT Try.prog GAasI (ntOf Try.prog 15) noLT true 1000 fgS2L (loopOf Try.prog 15 0) s = some (fgS2T s) := by kernel_rfl

def fgS2P (s : SV) : Prop := 0 ≤ s.x.i 0 ∧ s.x.i 0 ≤ s.len 0 ∧ s.len 0 ≤ 1048576 ∧ s.n 0 = 8 * s.len 0

noncomputable def fgS2B (s : SV) : Bool := @decide (fgS2P s) (Classical.propDecidable _)
theorem fgS2B_of {s : SV} (h : fgS2B s = true) : fgS2P s := @of_decide_eq_true _ (Classical.propDecidable _) h
theorem fgS2B_to {s : SV} (h : fgS2P s) : fgS2B s = true := @decide_eq_true _ (Classical.propDecidable _) h

theorem fgS2N_k (s : SV) : (fgS2N s).x.i 0 = isub (s.x.i 0) 1 ∧ (fgS2N s).len 0 = s.len 0 ∧ (fgS2N s).n 0 = s.n 0 ∧ (fgS2N s).y 0 = s.y 0 ∧ (fgS2N s).x.u 145 = s.x.u 145 ∧ (fgS2N s).x.u (137 + 0) = s.x.u (137 + 0) ∧ (fgS2N s).x.u (137 + 1) = s.x.u (137 + 1) ∧ (fgS2N s).x.u (137 + 2) = s.x.u (137 + 2) ∧ (fgS2N s).x.u (137 + 3) = s.x.u (137 + 3) ∧ (fgS2N s).x.u (137 + 4) = s.x.u (137 + 4) ∧ (fgS2N s).x.u (137 + 5) = s.x.u (137 + 5) ∧ (fgS2N s).x.u (137 + 6) = s.x.u (137 + 6) ∧ (fgS2N s).x.u (137 + 7) = s.x.u (137 + 7) := ⟨by kernel_rfl, by kernel_rfl, by kernel_rfl, by kernel_rfl, by kernel_rfl, by kernel_rfl, by kernel_rfl, by kernel_rfl, by kernel_rfl, by kernel_rfl, by kernel_rfl, by kernel_rfl, by kernel_rfl⟩

def fgS2Mu (s : SV) : Nat := (s.x.i 0).toNat

theorem fgS2_go (s : SV) (hp : ∀ b ∈ [fgS2B s], b = true) :
    (fgS2T s).ok ∧ (∀ k s', (fgS2T s).pick = .out k s' → k < 1) ∧ ∀ s', (fgS2T s).pick = .next s' → (∀ b ∈ [fgS2B s'], b = true) ∧ fgS2Mu s' < fgS2Mu s := by
  obtain ⟨i1, i2, i3, i4⟩ := fgS2B_of (hp _ (List.mem_cons_self ..))
  cases hc : (decide (0 < (s.x.i 0))) with
  | false =>
    have hk : (fgS2T s).pick = .out 0 (fgS2E s) := by unfold fgS2T; rw [hc]; rfl
    refine ⟨?_, fun k s' h => ?_, fun s' h => ?_⟩
    · unfold fgS2T
      exact ⟨allN, (fun h => by rw [hc] at h; cases h), (fun _ b hb => by cases hb)⟩
    · rw [hk] at h; cases h; decide
    · rw [hk] at h; cases h
  | true =>
    have hlt := of_decide_eq_true hc
    have hok : (fgS2T s).ok := by
      unfold fgS2T
      exact ⟨allN, (fun _ => ⟨(allC (decide_eq_true (by unfold padd pmul itn isub; omega)) (allC (decide_eq_true (by unfold padd pmul itn isub; omega)) (allC (decide_eq_true (by unfold isub; omega)) (allC (decide_eq_true (by unfold isub; omega)) (allC (andT (decide_eq_true (by unfold isub; omega)) (decide_eq_true (by unfold isub; omega))) allN))))), (fun _ => (allC (andT (decide_eq_true (by unfold isub; omega)) (decide_eq_true (by unfold isub; omega))) allN)), (fun _ b hb => by cases hb)⟩), (fun h => by rw [hc] at h; cases h)⟩
    cases hg : fgS2G s with
    | false =>
      have hk : (fgS2T s).pick = .out 0 (fgS2E s) := by unfold fgS2T; rw [hc, hg]; rfl
      refine ⟨hok, fun k s' h => ?_, fun s' h => ?_⟩
      · rw [hk] at h; cases h; decide
      · rw [hk] at h; cases h
    | true =>
      have hk : (fgS2T s).pick = .next (fgS2N s) := by unfold fgS2T; rw [hc, hg]; rfl
      refine ⟨hok, fun k s' h => ?_, fun s' h => ?_⟩
      · rw [hk] at h; cases h
      · rw [hk] at h
        cases h
        obtain ⟨e0, l0, n0, _⟩ := fgS2N_k s
        unfold isub at e0
        refine ⟨fun b hb => ?_, by unfold fgS2Mu; omega⟩
        rw [List.mem_singleton.1 hb]
        exact fgS2B_to ⟨by omega, by omega, by omega, by omega⟩

noncomputable def fgS2F0 (s : SV) : Nat × SV := Go.Sim.runT fgS2T (fgS2Mu s + 1) s

noncomputable def fgS2F : SV → Nat × SV := Classical.choose (⟨fgS2F0, rfl⟩ : ∃ f, f = fgS2F0)

theorem fgS2F_eq : fgS2F = fgS2F0 := Classical.choose_spec (⟨fgS2F0, rfl⟩ : ∃ f, f = fgS2F0)

noncomputable def fgS2Pre (s : SV) : List Bool := [fgS2B s]

noncomputable def HfgS2 : LTab := hookL 0 fgS2L fgS2Pre fgS2F noLT

theorem HfgS2_ok : HFun Try.prog 1 HfgS2 15 := by
  unfold HfgS2
  rw [fgS2F_eq]
  exact HFun.loop GAasI_ok mixed (J := true) (n := 1000) (L := fgS2L) (T := fgS2T) (pre := fgS2Pre) (μ := fgS2Mu) (HFun.none Try.prog 1 15) (by kernel_rfl) (by decide) (by decide) fgS2_t fgS2_go

theorem fgS2_yes (s : SV) (h0 : 0 ≤ s.x.i 0) : (fgS2F s).1 = 0 ∧ (fgS2F s).2.x.i 0 = fstF (goodF 2 (fun i => s.x.u (137 + i)) (s.x.u 145) (s.y 0)) (s.x.i 0).toNat ∧ (fgS2F s).2.len 0 = s.len 0 := by
  rw [fgS2F_eq]
  let P : SV → Prop := fun r => r.y 0 = s.y 0 ∧ r.len 0 = s.len 0 ∧ r.x.u 145 = s.x.u 145 ∧ ∀ i, i < 8 → r.x.u (137 + i) = s.x.u (137 + i)
  have hg : ∀ r, P r → 0 < r.x.i 0 → fgS2G r = goodF 2 (fun i => s.x.u (137 + i)) (s.x.u 145) (s.y 0) (r.x.i 0 - 1).toNat := fun r hr hlt => by
    obtain ⟨q1, _, q2, q3⟩ := hr
    unfold fgS2G goodF
    rw [q1, q2]
    rw [gM_congr (z := 2) (f := fun i => szD (r.x.u (137 + i)) ((s.y 0).u (padd i (pmul (itn (isub (r.x.i 0) 1)) 8)))) (g := fun i => szD (s.x.u (137 + i)) ((s.y 0).u (8 * (r.x.i 0 - 1).toNat + i))) fun i hi => by rw [q3 i (by omega), show padd i (pmul (itn (isub (r.x.i 0) 1)) 8) = 8 * (r.x.i 0 - 1).toNat + i by unfold padd pmul itn isub; omega]]
  have k1 : ∀ r, P r → 0 < r.x.i 0 → goodF 2 (fun i => s.x.u (137 + i)) (s.x.u 145) (s.y 0) (r.x.i 0 - 1).toNat = true → (fgS2T r).pick = .next (fgS2N r) := fun r hr hlt h => by
    unfold fgS2T
    rw [decide_eq_true hlt, hg r hr hlt, h]
    rfl
  have k2 : ∀ r, P r → 0 < r.x.i 0 → (fgS2N r).x.i 0 = r.x.i 0 - 1 ∧ P (fgS2N r) := fun r hr _ => by
    obtain ⟨e0, l0, _, y0, w0, u0, u1, u2, u3, u4, u5, u6, u7⟩ := fgS2N_k r
    exact ⟨e0, y0.trans hr.1, l0.trans hr.2.1, w0.trans hr.2.2.1, fun i hi => (eightI (P := fun i => (fgS2N r).x.u (137 + i) = r.x.u (137 + i)) u0 u1 u2 u3 u4 u5 u6 u7 i hi).trans (hr.2.2.2 i hi)⟩
  have k3 : ∀ r, P r → 0 < r.x.i 0 → goodF 2 (fun i => s.x.u (137 + i)) (s.x.u 145) (s.y 0) (r.x.i 0 - 1).toNat = false → (fgS2T r).pick = .out 0 (fgS2E r) := fun r hr hlt h => by
    unfold fgS2T
    rw [decide_eq_true hlt, hg r hr hlt, h]
    rfl
  have k4 : ∀ r, P r → ¬ 0 < r.x.i 0 → (fgS2T r).pick = .out 0 (fgS2E r) := fun r _ hlt => by
    unfold fgS2T
    rw [decide_eq_false hlt]
    rfl
  obtain ⟨a, r, hr, e, f⟩ := fst_run (T := fgS2T) (N := fgS2N) (E := fgS2E) P (goodF 2 (fun i => s.x.u (137 + i)) (s.x.u 145) (s.y 0)) k1 k2 k3 k4 (fgS2Mu s + 1) s ⟨rfl, rfl, rfl, fun _ _ => rfl⟩ h0 (Nat.lt_succ_self _)
  have e' : (fgS2F0 s).2 = fgS2E r := e
  refine ⟨a, ?_, ?_⟩
  · rw [e']
    exact (show (fgS2E r).x.i 0 = r.x.i 0 from by kernel_rfl).trans f
  · rw [e']
    exact (show (fgS2E r).len 0 = r.len 0 from by kernel_rfl).trans hr.2.1

noncomputable def fgS3G (s : SV) : Bool := fcmp .leq .f32 (gM (fun i => szD (s.x.u (137 + i)) ((s.y 0).u (padd i (pmul (itn (isub (s.x.i 0) 1)) 8)))) 3) (s.x.u 145)

noncomputable def fgS3N (s : SV) : SV := (mkSV (apl [(.sint .i64 (isub (s.x.i 0) 1))] (apl (fl s.x 1 8) (apl [(.sint .i8 (s.x.i 9))] (apl (fl s.x 10 14) (apl [(.sint .i8 (s.x.i 24))] (apl (fl s.x 25 14) (apl [(.sint .i8 (s.x.i 39))] (apl (fl s.x 40 14) (apl [(.sint .i8 (s.x.i 54))] (apl (fl s.x 55 14) (apl [(.sint .i8 (s.x.i 69))] (apl (fl s.x 70 14) (apl [(.sint .i8 (s.x.i 84))] (apl (fl s.x 85 14) (apl [(.sint .i8 (s.x.i 99))] (apl (fl s.x 100 14) (apl [(.sint .i8 (s.x.i 114))] (apl (fl s.x 115 32) ([(.sint .i16 (s.x.i 147))]))))))))))))))))))) [(s.len 0)] [(s.n 0), 0, 0] [(s.y 0), zeroV, zeroV])
noncomputable def fgS3E (s : SV) : SV := (mkSV [(.sint .i64 (s.x.i 0))] [(s.len 0)] [(s.n 0)] [(s.y 0)])

noncomputable def fgS3T (s : SV) : Tr := .node [] (decide (0 < (s.x.i 0))) (.node [(decide ((padd 2 (pmul (itn (isub (s.x.i 0) 1)) 8)) < (s.n 0))), (decide ((padd 1 (pmul (itn (isub (s.x.i 0) 1)) 8)) < (s.n 0))), (decide ((padd 0 (pmul (itn (isub (s.x.i 0) 1)) 8)) < (s.n 0))), (decide (0 ≤ (isub (s.x.i 0) 1))), (decide ((isub (s.x.i 0) 1) < (s.len 0))), ((decide ((-(9223372036854775807 + 1)) ≤ (isub (s.x.i 0) 1))) && (decide ((isub (s.x.i 0) 1) ≤ 9223372036854775807)))] (fgS3G s) (.next (fgS3N s) [((decide ((-(9223372036854775807 + 1)) ≤ (isub (s.x.i 0) 1))) && (decide ((isub (s.x.i 0) 1) ≤ 9223372036854775807)))]) (.out 0 (fgS3E s) [])) (.out 0 (fgS3E s) [])

theorem fgS3_t (s : SV) : Go.Sim.stepT Try.prog GAasI (ntOf Try.prog 15) noLT true 1000 fgS3L (loopOf Try.prog 15 0) s = some (fgS3T s) := by kernel_rfl

def fgS3P (s : SV) : Prop := 0 ≤ s.x.i 0 ∧ s.x.i 0 ≤ s.len 0 ∧ s.len 0 ≤ 1048576 ∧ s.n 0 = 8 * s.len 0

noncomputable def fgS3B (s : SV) : Bool := @decide (fgS3P s) (Classical.propDecidable _)
theorem fgS3B_of {s : SV} (h : fgS3B s = true) : fgS3P s := @of_decide_eq_true _ (Classical.propDecidable _) h
theorem fgS3B_to {s : SV} (h : fgS3P s) : fgS3B s = true := @decide_eq_true _ (Classical.propDecidable _) h

theorem fgS3N_k (s : SV) : (fgS3N s).x.i 0 = isub (s.x.i 0) 1 ∧ (fgS3N s).len 0 = s.len 0 ∧ (fgS3N s).n 0 = s.n 0 ∧ (fgS3N s).y 0 = s.y 0 ∧ (fgS3N s).x.u 145 = s.x.u 145 ∧ (fgS3N s).x.u (137 + 0) = s.x.u (137 + 0) ∧ (fgS3N s).x.u (137 + 1) = s.x.u (137 + 1) ∧ (fgS3N s).x.u (137 + 2) = s.x.u (137 + 2) ∧ (fgS3N s).x.u (137 + 3) = s.x.u (137 + 3) ∧ (fgS3N s).x.u (137 + 4) = s.x.u (137 + 4) ∧ (fgS3N s).x.u (137 + 5) = s.x.u (137 + 5) ∧ (fgS3N s).x.u (137 + 6) = s.x.u (137 + 6) ∧ (fgS3N s).x.u (137 + 7) = s.x.u (137 + 7) := ⟨by kernel_rfl, by kernel_rfl, by kernel_rfl, by kernel_rfl, by kernel_rfl, by kernel_rfl, by kernel_rfl, by kernel_rfl, by kernel_rfl, by kernel_rfl, by kernel_rfl, by kernel_rfl, by kernel_rfl⟩

def fgS3Mu (s : SV) : Nat := (s.x.i 0).toNat

theorem fgS3_go (s : SV) (hp : ∀ b ∈ [fgS3B s], b = true) :
    (fgS3T s).ok ∧ (∀ k s', (fgS3T s).pick = .out k s' → k < 1) ∧ ∀ s', (fgS3T s).pick = .next s' → (∀ b ∈ [fgS3B s'], b = true) ∧ fgS3Mu s' < fgS3Mu s := by
  obtain ⟨i1, i2, i3, i4⟩ := fgS3B_of (hp _ (List.mem_cons_self ..))
  cases hc : (decide (0 < (s.x.i 0))) with
  | false =>
    have hk : (fgS3T s).pick = .out 0 (fgS3E s) := by unfold fgS3T; rw [hc]; rfl
    refine ⟨?_, fun k s' h => ?_, fun s' h => ?_⟩
    · unfold fgS3T
      exact ⟨allN, (fun h => by rw [hc] at h; cases h), (fun _ b hb => by cases hb)⟩
    · rw [hk] at h; cases h; decide
    · rw [hk] at h; cases h
  | true =>
    have hlt := of_decide_eq_true hc
    have hok : (fgS3T s).ok := by
      unfold fgS3T
      exact ⟨allN, (fun _ => ⟨(allC (decide_eq_true (by unfold padd pmul itn isub; omega)) (allC (decide_eq_true (by unfold padd pmul itn isub; omega)) (allC (decide_eq_true (by unfold padd pmul itn isub; omega)) (allC (decide_eq_true (by unfold isub; omega)) (allC (decide_eq_true (by unfold isub; omega)) (allC (andT (decide_eq_true (by unfold isub; omega)) (decide_eq_true (by unfold isub; omega))) allN)))))), (fun _ => (allC (andT (decide_eq_true (by unfold isub; omega)) (decide_eq_true (by unfold isub; omega))) allN)), (fun _ b hb => by cases hb)⟩), (fun h => by rw [hc] at h; cases h)⟩
    cases hg : fgS3G s with
    | false =>
      have hk : (fgS3T s).pick = .out 0 (fgS3E s) := by unfold fgS3T; rw [hc, hg]; rfl
      refine ⟨hok, fun k s' h => ?_, fun s' h => ?_⟩
      · rw [hk] at h; cases h; decide
      · rw [hk] at h; cases h
    | true =>
      have hk : (fgS3T s).pick = .next (fgS3N s) := by unfold fgS3T; rw [hc, hg]; rfl
      refine ⟨hok, fun k s' h => ?_, fun s' h => ?_⟩
      · rw [hk] at h; cases h
      · rw [hk] at h
        cases h
        obtain ⟨e0, l0, n0, _⟩ := fgS3N_k s
        unfold isub at e0
        refine ⟨fun b hb => ?_, by unfold fgS3Mu; omega⟩
        rw [List.mem_singleton.1 hb]
        exact fgS3B_to ⟨by omega, by omega, by omega, by omega⟩

noncomputable def fgS3F0 (s : SV) : Nat × SV := Go.Sim.runT fgS3T (fgS3Mu s + 1) s

noncomputable def fgS3F : SV → Nat × SV := Classical.choose (⟨fgS3F0, rfl⟩ : ∃ f, f = fgS3F0)

theorem fgS3F_eq : fgS3F = fgS3F0 := Classical.choose_spec (⟨fgS3F0, rfl⟩ : ∃ f, f = fgS3F0)

noncomputable def fgS3Pre (s : SV) : List Bool := [fgS3B s]

noncomputable def HfgS3 : LTab := hookL 0 fgS3L fgS3Pre fgS3F noLT

theorem HfgS3_ok : HFun Try.prog 1 HfgS3 15 := by
  unfold HfgS3
  rw [fgS3F_eq]
  exact HFun.loop GAasI_ok mixed (J := true) (n := 1000) (L := fgS3L) (T := fgS3T) (pre := fgS3Pre) (μ := fgS3Mu) (HFun.none Try.prog 1 15) (by kernel_rfl) (by decide) (by decide) fgS3_t fgS3_go

theorem fgS3_yes (s : SV) (h0 : 0 ≤ s.x.i 0) : (fgS3F s).1 = 0 ∧ (fgS3F s).2.x.i 0 = fstF (goodF 3 (fun i => s.x.u (137 + i)) (s.x.u 145) (s.y 0)) (s.x.i 0).toNat ∧ (fgS3F s).2.len 0 = s.len 0 := by
  rw [fgS3F_eq]
  let P : SV → Prop := fun r => r.y 0 = s.y 0 ∧ r.len 0 = s.len 0 ∧ r.x.u 145 = s.x.u 145 ∧ ∀ i, i < 8 → r.x.u (137 + i) = s.x.u (137 + i)
  have hg : ∀ r, P r → 0 < r.x.i 0 → fgS3G r = goodF 3 (fun i => s.x.u (137 + i)) (s.x.u 145) (s.y 0) (r.x.i 0 - 1).toNat := fun r hr hlt => by
    obtain ⟨q1, _, q2, q3⟩ := hr
    unfold fgS3G goodF
    rw [q1, q2]
    rw [gM_congr (z := 3) (f := fun i => szD (r.x.u (137 + i)) ((s.y 0).u (padd i (pmul (itn (isub (r.x.i 0) 1)) 8)))) (g := fun i => szD (s.x.u (137 + i)) ((s.y 0).u (8 * (r.x.i 0 - 1).toNat + i))) fun i hi => by rw [q3 i (by omega), show padd i (pmul (itn (isub (r.x.i 0) 1)) 8) = 8 * (r.x.i 0 - 1).toNat + i by unfold padd pmul itn isub; omega]]
  have k1 : ∀ r, P r → 0 < r.x.i 0 → goodF 3 (fun i => s.x.u (137 + i)) (s.x.u 145) (s.y 0) (r.x.i 0 - 1).toNat = true → (fgS3T r).pick = .next (fgS3N r) := fun r hr hlt h => by
    unfold fgS3T
    rw [decide_eq_true hlt, hg r hr hlt, h]
    rfl
  have k2 : ∀ r, P r → 0 < r.x.i 0 → (fgS3N r).x.i 0 = r.x.i 0 - 1 ∧ P (fgS3N r) := fun r hr _ => by
    obtain ⟨e0, l0, _, y0, w0, u0, u1, u2, u3, u4, u5, u6, u7⟩ := fgS3N_k r
    exact ⟨e0, y0.trans hr.1, l0.trans hr.2.1, w0.trans hr.2.2.1, fun i hi => (eightI (P := fun i => (fgS3N r).x.u (137 + i) = r.x.u (137 + i)) u0 u1 u2 u3 u4 u5 u6 u7 i hi).trans (hr.2.2.2 i hi)⟩
  have k3 : ∀ r, P r → 0 < r.x.i 0 → goodF 3 (fun i => s.x.u (137 + i)) (s.x.u 145) (s.y 0) (r.x.i 0 - 1).toNat = false → (fgS3T r).pick = .out 0 (fgS3E r) := fun r hr hlt h => by
    unfold fgS3T
    rw [decide_eq_true hlt, hg r hr hlt, h]
    rfl
  have k4 : ∀ r, P r → ¬ 0 < r.x.i 0 → (fgS3T r).pick = .out 0 (fgS3E r) := fun r _ hlt => by
    unfold fgS3T
    rw [decide_eq_false hlt]
    rfl
  obtain ⟨a, r, hr, e, f⟩ := fst_run (T := fgS3T) (N := fgS3N) (E := fgS3E) P (goodF 3 (fun i => s.x.u (137 + i)) (s.x.u 145) (s.y 0)) k1 k2 k3 k4 (fgS3Mu s + 1) s ⟨rfl, rfl, rfl, fun _ _ => rfl⟩ h0 (Nat.lt_succ_self _)
  have e' : (fgS3F0 s).2 = fgS3E r := e
  refine ⟨a, ?_, ?_⟩
  · rw [e']
    exact (show (fgS3E r).x.i 0 = r.x.i 0 from by kernel_rfl).trans f
  · rw [e']
    exact (show (fgS3E r).len 0 = r.len 0 from by kernel_rfl).trans hr.2.1

noncomputable def fgS4G (s : SV) : Bool := fcmp .leq .f32 (gM (fun i => szD (s.x.u (137 + i)) ((s.y 0).u (padd i (pmul (itn (isub (s.x.i 0) 1)) 8)))) 4) (s.x.u 145)

noncomputable def fgS4N (s : SV) : SV := (mkSV (apl [(.sint .i64 (isub (s.x.i 0) 1))] (apl (fl s.x 1 8) (apl [(.sint .i8 (s.x.i 9))] (apl (fl s.x 10 14) (apl [(.sint .i8 (s.x.i 24))] (apl (fl s.x 25 14) (apl [(.sint .i8 (s.x.i 39))] (apl (fl s.x 40 14) (apl [(.sint .i8 (s.x.i 54))] (apl (fl s.x 55 14) (apl [(.sint .i8 (s.x.i 69))] (apl (fl s.x 70 14) (apl [(.sint .i8 (s.x.i 84))] (apl (fl s.x 85 14) (apl [(.sint .i8 (s.x.i 99))] (apl (fl s.x 100 14) (apl [(.sint .i8 (s.x.i 114))] (apl (fl s.x 115 32) ([(.sint .i16 (s.x.i 147))]))))))))))))))))))) [(s.len 0)] [(s.n 0), 0, 0] [(s.y 0), zeroV, zeroV])
noncomputable def fgS4E (s : SV) : SV := (mkSV [(.sint .i64 (s.x.i 0))] [(s.len 0)] [(s.n 0)] [(s.y 0)])

noncomputable def fgS4T (s : SV) : Tr := .node [] (decide (0 < (s.x.i 0))) (.node [(decide ((padd 3 (pmul (itn (isub (s.x.i 0) 1)) 8)) < (s.n 0))), (decide ((padd 2 (pmul (itn (isub (s.x.i 0) 1)) 8)) < (s.n 0))), (decide ((padd 1 (pmul (itn (isub (s.x.i 0) 1)) 8)) < (s.n 0))), (decide ((padd 0 (pmul (itn (isub (s.x.i 0) 1)) 8)) < (s.n 0))), (decide (0 ≤ (isub (s.x.i 0) 1))), (decide ((isub (s.x.i 0) 1) < (s.len 0))), ((decide ((-(9223372036854775807 + 1)) ≤ (isub (s.x.i 0) 1))) && (decide ((isub (s.x.i 0) 1) ≤ 9223372036854775807)))] (fgS4G s) (.next (fgS4N s) [((decide ((-(9223372036854775807 + 1)) ≤ (isub (s.x.i 0) 1))) && (decide ((isub (s.x.i 0) 1) ≤ 9223372036854775807)))]) (.out 0 (fgS4E s) [])) (.out 0 (fgS4E s) [])

theorem fgS4_t (s : SV) : Go.Sim.stepT Try.prog GAasI (ntOf Try.prog 15) noLT true 1000 fgS4L (loopOf Try.prog 15 0) s = some (fgS4T s) := by kernel_rfl

def fgS4P (s : SV) : Prop := 0 ≤ s.x.i 0 ∧ s.x.i 0 ≤ s.len 0 ∧ s.len 0 ≤ 1048576 ∧ s.n 0 = 8 * s.len 0

noncomputable def fgS4B (s : SV) : Bool := @decide (fgS4P s) (Classical.propDecidable _)
theorem fgS4B_of {s : SV} (h : fgS4B s = true) : fgS4P s := @of_decide_eq_true _ (Classical.propDecidable _) h
theorem fgS4B_to {s : SV} (h : fgS4P s) : fgS4B s = true := @decide_eq_true _ (Classical.propDecidable _) h

theorem fgS4N_k (s : SV) : (fgS4N s).x.i 0 = isub (s.x.i 0) 1 ∧ (fgS4N s).len 0 = s.len 0 ∧ (fgS4N s).n 0 = s.n 0 ∧ (fgS4N s).y 0 = s.y 0 ∧ (fgS4N s).x.u 145 = s.x.u 145 ∧ (fgS4N s).x.u (137 + 0) = s.x.u (137 + 0) ∧ (fgS4N s).x.u (137 + 1) = s.x.u (137 + 1) ∧ (fgS4N s).x.u (137 + 2) = s.x.u (137 + 2) ∧ (fgS4N s).x.u (137 + 3) = s.x.u (137 + 3) ∧ (fgS4N s).x.u (137 + 4) = s.x.u (137 + 4) ∧ (fgS4N s).x.u (137 + 5) = s.x.u (137 + 5) ∧ (fgS4N s).x.u (137 + 6) = s.x.u (137 + 6) ∧ (fgS4N s).x.u (137 + 7) = s.x.u (137 + 7) := ⟨by kernel_rfl, by kernel_rfl, by kernel_rfl, by kernel_rfl, by kernel_rfl, by kernel_rfl, by kernel_rfl, by kernel_rfl, by kernel_rfl, by kernel_rfl, by kernel_rfl, by kernel_rfl, by kernel_rfl⟩

def fgS4Mu (s : SV) : Nat := (s.x.i 0).toNat

theorem fgS4_go (s : SV) (hp : ∀ b ∈ [fgS4B s], b = true) :
    (fgS4T s).ok ∧ (∀ k s', (fgS4T s).pick = .out k s' → k < 1) ∧ ∀ s', (fgS4T s).pick = .next s' → (∀ b ∈ [fgS4B s'], b = true) ∧ fgS4Mu s' < fgS4Mu s := by
  obtain ⟨i1, i2, i3, i4⟩ := fgS4B_of (hp _ (List.mem_cons_self ..))
  cases hc : (decide (0 < (s.x.i 0))) with
  | false =>
    have hk : (fgS4T s).pick = .out 0 (fgS4E s) := by unfold fgS4T; rw [hc]; rfl
    refine ⟨?_, fun k s' h => ?_, fun s' h => ?_⟩
    · unfold fgS4T
      exact ⟨allN, (fun h => by rw [hc] at h; cases h), (fun _ b hb => by cases hb)⟩
    · rw [hk] at h; cases h; decide
    · rw [hk] at h; cases h
  | true =>
    have hlt := of_decide_eq_true hc
    have hok : (fgS4T s).ok := by
      unfold fgS4T
      exact ⟨allN, (fun _ => ⟨(allC (decide_eq_true (by unfold padd pmul itn isub; omega)) (allC (decide_eq_true (by unfold padd pmul itn isub; omega)) (allC (decide_eq_true (by unfold padd pmul itn isub; omega)) (allC (decide_eq_true (by unfold padd pmul itn isub; omega)) (allC (decide_eq_true (by unfold isub; omega)) (allC (decide_eq_true (by unfold isub; omega)) (allC (andT (decide_eq_true (by unfold isub; omega)) (decide_eq_true (by unfold isub; omega))) allN))))))), (fun _ => (allC (andT (decide_eq_true (by unfold isub; omega)) (decide_eq_true (by unfold isub; omega))) allN)), (fun _ b hb => by cases hb)⟩), (fun h => by rw [hc] at h; cases h)⟩
    cases hg : fgS4G s with
    | false =>
      have hk : (fgS4T s).pick = .out 0 (fgS4E s) := by unfold fgS4T; rw [hc, hg]; rfl
      refine ⟨hok, fun k s' h => ?_, fun s' h => ?_⟩
      · rw [hk] at h; cases h; decide
      · rw [hk] at h; cases h
    | true =>
      have hk : (fgS4T s).pick = .next (fgS4N s) := by unfold fgS4T; rw [hc, hg]; rfl
      refine ⟨hok, fun k s' h => ?_, fun s' h => ?_⟩
      · rw [hk] at h; cases h
      · rw [hk] at h
        cases h
        obtain ⟨e0, l0, n0, _⟩ := fgS4N_k s
        unfold isub at e0
        refine ⟨fun b hb => ?_, by unfold fgS4Mu; omega⟩
        rw [List.mem_singleton.1 hb]
        exact fgS4B_to ⟨by omega, by omega, by omega, by omega⟩

noncomputable def fgS4F0 (s : SV) : Nat × SV := Go.Sim.runT fgS4T (fgS4Mu s + 1) s

noncomputable def fgS4F : SV → Nat × SV := Classical.choose (⟨fgS4F0, rfl⟩ : ∃ f, f = fgS4F0)

theorem fgS4F_eq : fgS4F = fgS4F0 := Classical.choose_spec (⟨fgS4F0, rfl⟩ : ∃ f, f = fgS4F0)

noncomputable def fgS4Pre (s : SV) : List Bool := [fgS4B s]

noncomputable def HfgS4 : LTab := hookL 0 fgS4L fgS4Pre fgS4F noLT

theorem HfgS4_ok : HFun Try.prog 1 HfgS4 15 := by
  unfold HfgS4
  rw [fgS4F_eq]
  exact HFun.loop GAasI_ok mixed (J := true) (n := 1000) (L := fgS4L) (T := fgS4T) (pre := fgS4Pre) (μ := fgS4Mu) (HFun.none Try.prog 1 15) (by kernel_rfl) (by decide) (by decide) fgS4_t fgS4_go

theorem fgS4_yes (s : SV) (h0 : 0 ≤ s.x.i 0) : (fgS4F s).1 = 0 ∧ (fgS4F s).2.x.i 0 = fstF (goodF 4 (fun i => s.x.u (137 + i)) (s.x.u 145) (s.y 0)) (s.x.i 0).toNat ∧ (fgS4F s).2.len 0 = s.len 0 := by
  rw [fgS4F_eq]
  let P : SV → Prop := fun r => r.y 0 = s.y 0 ∧ r.len 0 = s.len 0 ∧ r.x.u 145 = s.x.u 145 ∧ ∀ i, i < 8 → r.x.u (137 + i) = s.x.u (137 + i)
  have hg : ∀ r, P r → 0 < r.x.i 0 → fgS4G r = goodF 4 (fun i => s.x.u (137 + i)) (s.x.u 145) (s.y 0) (r.x.i 0 - 1).toNat := fun r hr hlt => by
    obtain ⟨q1, _, q2, q3⟩ := hr
    unfold fgS4G goodF
    rw [q1, q2]
    rw [gM_congr (z := 4) (f := fun i => szD (r.x.u (137 + i)) ((s.y 0).u (padd i (pmul (itn (isub (r.x.i 0) 1)) 8)))) (g := fun i => szD (s.x.u (137 + i)) ((s.y 0).u (8 * (r.x.i 0 - 1).toNat + i))) fun i hi => by rw [q3 i (by omega), show padd i (pmul (itn (isub (r.x.i 0) 1)) 8) = 8 * (r.x.i 0 - 1).toNat + i by unfold padd pmul itn isub; omega]]
  have k1 : ∀ r, P r → 0 < r.x.i 0 → goodF 4 (fun i => s.x.u (137 + i)) (s.x.u 145) (s.y 0) (r.x.i 0 - 1).toNat = true → (fgS4T r).pick = .next (fgS4N r) := fun r hr hlt h => by
    unfold fgS4T
    rw [decide_eq_true hlt, hg r hr hlt, h]
    rfl
  have k2 : ∀ r, P r → 0 < r.x.i 0 → (fgS4N r).x.i 0 = r.x.i 0 - 1 ∧ P (fgS4N r) := fun r hr _ => by
    obtain ⟨e0, l0, _, y0, w0, u0, u1, u2, u3, u4, u5, u6, u7⟩ := fgS4N_k r
    exact ⟨e0, y0.trans hr.1, l0.trans hr.2.1, w0.trans hr.2.2.1, fun i hi => (eightI (P := fun i => (fgS4N r).x.u (137 + i) = r.x.u (137 + i)) u0 u1 u2 u3 u4 u5 u6 u7 i hi).trans (hr.2.2.2 i hi)⟩
  have k3 : ∀ r, P r → 0 < r.x.i 0 → goodF 4 (fun i => s.x.u (137 + i)) (s.x.u 145) (s.y 0) (r.x.i 0 - 1).toNat = false → (fgS4T r).pick = .out 0 (fgS4E r) := fun r hr hlt h => by
    unfold fgS4T
    rw [decide_eq_true hlt, hg r hr hlt, h]
    rfl
  have k4 : ∀ r, P r → ¬ 0 < r.x.i 0 → (fgS4T r).pick = .out 0 (fgS4E r) := fun r _ hlt => by
    unfold fgS4T
    rw [decide_eq_false hlt]
    rfl
  obtain ⟨a, r, hr, e, f⟩ := fst_run (T := fgS4T) (N := fgS4N) (E := fgS4E) P (goodF 4 (fun i => s.x.u (137 + i)) (s.x.u 145) (s.y 0)) k1 k2 k3 k4 (fgS4Mu s + 1) s ⟨rfl, rfl, rfl, fun _ _ => rfl⟩ h0 (Nat.lt_succ_self _)
  have e' : (fgS4F0 s).2 = fgS4E r := e
  refine ⟨a, ?_, ?_⟩
  · rw [e']
    exact (show (fgS4E r).x.i 0 = r.x.i 0 from by kernel_rfl).trans f
  · rw [e']
    exact (show (fgS4E r).len 0 = r.len 0 from by kernel_rfl).trans hr.2.1

noncomputable def fgS5G (s : SV) : Bool := fcmp .leq .f32 (gM (fun i => szD (s.x.u (137 + i)) ((s.y 0).u (padd i (pmul (itn (isub (s.x.i 0) 1)) 8)))) 5) (s.x.u 145)

noncomputable def fgS5N (s : SV) : SV := (mkSV (apl [(.sint .i64 (isub (s.x.i 0) 1))] (apl (fl s.x 1 8) (apl [(.sint .i8 (s.x.i 9))] (apl (fl s.x 10 14) (apl [(.sint .i8 (s.x.i 24))] (apl (fl s.x 25 14) (apl [(.sint .i8 (s.x.i 39))] (apl (fl s.x 40 14) (apl [(.sint .i8 (s.x.i 54))] (apl (fl s.x 55 14) (apl [(.sint .i8 (s.x.i 69))] (apl (fl s.x 70 14) (apl [(.sint .i8 (s.x.i 84))] (apl (fl s.x 85 14) (apl [(.sint .i8 (s.x.i 99))] (apl (fl s.x 100 14) (apl [(.sint .i8 (s.x.i 114))] (apl (fl s.x 115 32) ([(.sint .i16 (s.x.i 147))]))))))))))))))))))) [(s.len 0)] [(s.n 0), 0, 0] [(s.y 0), zeroV, zeroV])
noncomputable def fgS5E (s : SV) : SV := (mkSV [(.sint .i64 (s.x.i 0))] [(s.len 0)] [(s.n 0)] [(s.y 0)])

noncomputable def fgS5T (s : SV) : Tr := .node [] (decide (0 < (s.x.i 0))) (.node [(decide ((padd 4 (pmul (itn (isub (s.x.i 0) 1)) 8)) < (s.n 0))), (decide ((padd 3 (pmul (itn (isub (s.x.i 0) 1)) 8)) < (s.n 0))), (decide ((padd 2 (pmul (itn (isub (s.x.i 0) 1)) 8)) < (s.n 0))), (decide ((padd 1 (pmul (itn (isub (s.x.i 0) 1)) 8)) < (s.n 0))), (decide ((padd 0 (pmul (itn (isub (s.x.i 0) 1)) 8)) < (s.n 0))), (decide (0 ≤ (isub (s.x.i 0) 1))), (decide ((isub (s.x.i 0) 1) < (s.len 0))), ((decide ((-(9223372036854775807 + 1)) ≤ (isub (s.x.i 0) 1))) && (decide ((isub (s.x.i 0) 1) ≤ 9223372036854775807)))] (fgS5G s) (.next (fgS5N s) [((decide ((-(9223372036854775807 + 1)) ≤ (isub (s.x.i 0) 1))) && (decide ((isub (s.x.i 0) 1) ≤ 9223372036854775807)))]) (.out 0 (fgS5E s) [])) (.out 0 (fgS5E s) [])

theorem fgS5_t (s : SV) : Go.Sim.stepT Try.prog GAasI (ntOf Try.prog 15) noLT true 1000 fgS5L (loopOf Try.prog 15 0) s = some (fgS5T s) := by kernel_rfl

def fgS5P (s : SV) : Prop := 0 ≤ s.x.i 0 ∧ s.x.i 0 ≤ s.len 0 ∧ s.len 0 ≤ 1048576 ∧ s.n 0 = 8 * s.len 0

noncomputable def fgS5B (s : SV) : Bool := @decide (fgS5P s) (Classical.propDecidable _)
theorem fgS5B_of {s : SV} (h : fgS5B s = true) : fgS5P s := @of_decide_eq_true _ (Classical.propDecidable _) h
theorem fgS5B_to {s : SV} (h : fgS5P s) : fgS5B s = true := @decide_eq_true _ (Classical.propDecidable _) h

theorem fgS5N_k (s : SV) : (fgS5N s).x.i 0 = isub (s.x.i 0) 1 ∧ (fgS5N s).len 0 = s.len 0 ∧ (fgS5N s).n 0 = s.n 0 ∧ (fgS5N s).y 0 = s.y 0 ∧ (fgS5N s).x.u 145 = s.x.u 145 ∧ (fgS5N s).x.u (137 + 0) = s.x.u (137 + 0) ∧ (fgS5N s).x.u (137 + 1) = s.x.u (137 + 1) ∧ (fgS5N s).x.u (137 + 2) = s.x.u (137 + 2) ∧ (fgS5N s).x.u (137 + 3) = s.x.u (137 + 3) ∧ (fgS5N s).x.u (137 + 4) = s.x.u (137 + 4) ∧ (fgS5N s).x.u (137 + 5) = s.x.u (137 + 5) ∧ (fgS5N s).x.u (137 + 6) = s.x.u (137 + 6) ∧ (fgS5N s).x.u (137 + 7) = s.x.u (137 + 7) := ⟨by kernel_rfl, by kernel_rfl, by kernel_rfl, by kernel_rfl, by kernel_rfl, by kernel_rfl, by kernel_rfl, by kernel_rfl, by kernel_rfl, by kernel_rfl, by kernel_rfl, by kernel_rfl, by kernel_rfl⟩

def fgS5Mu (s : SV) : Nat := (s.x.i 0).toNat

theorem fgS5_go (s : SV) (hp : ∀ b ∈ [fgS5B s], b = true) :
    (fgS5T s).ok ∧ (∀ k s', (fgS5T s).pick = .out k s' → k < 1) ∧ ∀ s', (fgS5T s).pick = .next s' → (∀ b ∈ [fgS5B s'], b = true) ∧ fgS5Mu s' < fgS5Mu s := by
  obtain ⟨i1, i2, i3, i4⟩ := fgS5B_of (hp _ (List.mem_cons_self ..))
  cases hc : (decide (0 < (s.x.i 0))) with
  | false =>
    have hk : (fgS5T s).pick = .out 0 (fgS5E s) := by unfold fgS5T; rw [hc]; rfl
    refine ⟨?_, fun k s' h => ?_, fun s' h => ?_⟩
    · unfold fgS5T
      exact ⟨allN, (fun h => by rw [hc] at h; cases h), (fun _ b hb => by cases hb)⟩
    · rw [hk] at h; cases h; decide
    · rw [hk] at h; cases h
  | true =>
    have hlt := of_decide_eq_true hc
    have hok : (fgS5T s).ok := by
      unfold fgS5T
      exact ⟨allN, (fun _ => ⟨(allC (decide_eq_true (by unfold padd pmul itn isub; omega)) (allC (decide_eq_true (by unfold padd pmul itn isub; omega)) (allC (decide_eq_true (by unfold padd pmul itn isub; omega)) (allC (decide_eq_true (by unfold padd pmul itn isub; omega)) (allC (decide_eq_true (by unfold padd pmul itn isub; omega)) (allC (decide_eq_true (by unfold isub; omega)) (allC (decide_eq_true (by unfold isub; omega)) (allC (andT (decide_eq_true (by unfold isub; omega)) (decide_eq_true (by unfold isub; omega))) allN)))))))), (fun _ => (allC (andT (decide_eq_true (by unfold isub; omega)) (decide_eq_true (by unfold isub; omega))) allN)), (fun _ b hb => by cases hb)⟩), (fun h => by rw [hc] at h; cases h)⟩
    cases hg : fgS5G s with
    | false =>
      have hk : (fgS5T s).pick = .out 0 (fgS5E s) := by unfold fgS5T; rw [hc, hg]; rfl
      refine ⟨hok, fun k s' h => ?_, fun s' h => ?_⟩
      · rw [hk] at h; cases h; decide
      · rw [hk] at h; cases h
    | true =>
      have hk : (fgS5T s).pick = .next (fgS5N s) := by unfold fgS5T; rw [hc, hg]; rfl
      refine ⟨hok, fun k s' h => ?_, fun s' h => ?_⟩
      · rw [hk] at h; cases h
      · rw [hk] at h
        cases h
        obtain ⟨e0, l0, n0, _⟩ := fgS5N_k s
        unfold isub at e0
        refine ⟨fun b hb => ?_, by unfold fgS5Mu; omega⟩
        rw [List.mem_singleton.1 hb]
        exact fgS5B_to ⟨by omega, by omega, by omega, by omega⟩

noncomputable def fgS5F0 (s : SV) : Nat × SV := Go.Sim.runT fgS5T (fgS5Mu s + 1) s

noncomputable def fgS5F : SV → Nat × SV := Classical.choose (⟨fgS5F0, rfl⟩ : ∃ f, f = fgS5F0)

theorem fgS5F_eq : fgS5F = fgS5F0 := Classical.choose_spec (⟨fgS5F0, rfl⟩ : ∃ f, f = fgS5F0)

noncomputable def fgS5Pre (s : SV) : List Bool := [fgS5B s]

noncomputable def HfgS5 : LTab := hookL 0 fgS5L fgS5Pre fgS5F noLT

theorem HfgS5_ok : HFun Try.prog 1 HfgS5 15 := by
  unfold HfgS5
  rw [fgS5F_eq]
  exact HFun.loop GAasI_ok mixed (J := true) (n := 1000) (L := fgS5L) (T := fgS5T) (pre := fgS5Pre) (μ := fgS5Mu) (HFun.none Try.prog 1 15) (by kernel_rfl) (by decide) (by decide) fgS5_t fgS5_go

theorem fgS5_yes (s : SV) (h0 : 0 ≤ s.x.i 0) : (fgS5F s).1 = 0 ∧ (fgS5F s).2.x.i 0 = fstF (goodF 5 (fun i => s.x.u (137 + i)) (s.x.u 145) (s.y 0)) (s.x.i 0).toNat ∧ (fgS5F s).2.len 0 = s.len 0 := by
  rw [fgS5F_eq]
  let P : SV → Prop := fun r => r.y 0 = s.y 0 ∧ r.len 0 = s.len 0 ∧ r.x.u 145 = s.x.u 145 ∧ ∀ i, i < 8 → r.x.u (137 + i) = s.x.u (137 + i)
  have hg : ∀ r, P r → 0 < r.x.i 0 → fgS5G r = goodF 5 (fun i => s.x.u (137 + i)) (s.x.u 145) (s.y 0) (r.x.i 0 - 1).toNat := fun r hr hlt => by
    obtain ⟨q1, _, q2, q3⟩ := hr
    unfold fgS5G goodF
    rw [q1, q2]
    rw [gM_congr (z := 5) (f := fun i => szD (r.x.u (137 + i)) ((s.y 0).u (padd i (pmul (itn (isub (r.x.i 0) 1)) 8)))) (g := fun i => szD (s.x.u (137 + i)) ((s.y 0).u (8 * (r.x.i 0 - 1).toNat + i))) fun i hi => by rw [q3 i (by omega), show padd i (pmul (itn (isub (r.x.i 0) 1)) 8) = 8 * (r.x.i 0 - 1).toNat + i by unfold padd pmul itn isub; omega]]
  have k1 : ∀ r, P r → 0 < r.x.i 0 → goodF 5 (fun i => s.x.u (137 + i)) (s.x.u 145) (s.y 0) (r.x.i 0 - 1).toNat = true → (fgS5T r).pick = .next (fgS5N r) := fun r hr hlt h => by
    unfold fgS5T
    rw [decide_eq_true hlt, hg r hr hlt, h]
    rfl
  have k2 : ∀ r, P r → 0 < r.x.i 0 → (fgS5N r).x.i 0 = r.x.i 0 - 1 ∧ P (fgS5N r) := fun r hr _ => by
    obtain ⟨e0, l0, _, y0, w0, u0, u1, u2, u3, u4, u5, u6, u7⟩ := fgS5N_k r
    exact ⟨e0, y0.trans hr.1, l0.trans hr.2.1, w0.trans hr.2.2.1, fun i hi => (eightI (P := fun i => (fgS5N r).x.u (137 + i) = r.x.u (137 + i)) u0 u1 u2 u3 u4 u5 u6 u7 i hi).trans (hr.2.2.2 i hi)⟩
  have k3 : ∀ r, P r → 0 < r.x.i 0 → goodF 5 (fun i => s.x.u (137 + i)) (s.x.u 145) (s.y 0) (r.x.i 0 - 1).toNat = false → (fgS5T r).pick = .out 0 (fgS5E r) := fun r hr hlt h => by
    unfold fgS5T
    rw [decide_eq_true hlt, hg r hr hlt, h]
    rfl
  have k4 : ∀ r, P r → ¬ 0 < r.x.i 0 → (fgS5T r).pick = .out 0 (fgS5E r) := fun r _ hlt => by
    unfold fgS5T
    rw [decide_eq_false hlt]
    rfl
  obtain ⟨a, r, hr, e, f⟩ := fst_run (T := fgS5T) (N := fgS5N) (E := fgS5E) P (goodF 5 (fun i => s.x.u (137 + i)) (s.x.u 145) (s.y 0)) k1 k2 k3 k4 (fgS5Mu s + 1) s ⟨rfl, rfl, rfl, fun _ _ => rfl⟩ h0 (Nat.lt_succ_self _)
  have e' : (fgS5F0 s).2 = fgS5E r := e
  refine ⟨a, ?_, ?_⟩
  · rw [e']
    exact (show (fgS5E r).x.i 0 = r.x.i 0 from by kernel_rfl).trans f
  · rw [e']
    exact (show (fgS5E r).len 0 = r.len 0 from by kernel_rfl).trans hr.2.1

noncomputable def fgS6G (s : SV) : Bool := fcmp .leq .f32 (gM (fun i => szD (s.x.u (137 + i)) ((s.y 0).u (padd i (pmul (itn (isub (s.x.i 0) 1)) 8)))) 6) (s.x.u 145)

noncomputable def fgS6N (s : SV) : SV := (mkSV (apl [(.sint .i64 (isub (s.x.i 0) 1))] (apl (fl s.x 1 8) (apl [(.sint .i8 (s.x.i 9))] (apl (fl s.x 10 14) (apl [(.sint .i8 (s.x.i 24))] (apl (fl s.x 25 14) (apl [(.sint .i8 (s.x.i 39))] (apl (fl s.x 40 14) (apl [(.sint .i8 (s.x.i 54))] (apl (fl s.x 55 14) (apl [(.sint .i8 (s.x.i 69))] (apl (fl s.x 70 14) (apl [(.sint .i8 (s.x.i 84))] (apl (fl s.x 85 14) (apl [(.sint .i8 (s.x.i 99))] (apl (fl s.x 100 14) (apl [(.sint .i8 (s.x.i 114))] (apl (fl s.x 115 32) ([(.sint .i16 (s.x.i 147))]))))))))))))))))))) [(s.len 0)] [(s.n 0), 0, 0] [(s.y 0), zeroV, zeroV])
noncomputable def fgS6E (s : SV) : SV := (mkSV [(.sint .i64 (s.x.i 0))] [(s.len 0)] [(s.n 0)] [(s.y 0)])

noncomputable def fgS6T (s : SV) : Tr := .node [] (decide (0 < (s.x.i 0))) (.node [(decide ((padd 5 (pmul (itn (isub (s.x.i 0) 1)) 8)) < (s.n 0))), (decide ((padd 4 (pmul (itn (isub (s.x.i 0) 1)) 8)) < (s.n 0))), (decide ((padd 3 (pmul (itn (isub (s.x.i 0) 1)) 8)) < (s.n 0))), (decide ((padd 2 (pmul (itn (isub (s.x.i 0) 1)) 8)) < (s.n 0))), (decide ((padd 1 (pmul (itn (isub (s.x.i 0) 1)) 8)) < (s.n 0))), (decide ((padd 0 (pmul (itn (isub (s.x.i 0) 1)) 8)) < (s.n 0))), (decide (0 ≤ (isub (s.x.i 0) 1))), (decide ((isub (s.x.i 0) 1) < (s.len 0))), ((decide ((-(9223372036854775807 + 1)) ≤ (isub (s.x.i 0) 1))) && (decide ((isub (s.x.i 0) 1) ≤ 9223372036854775807)))] (fgS6G s) (.next (fgS6N s) [((decide ((-(9223372036854775807 + 1)) ≤ (isub (s.x.i 0) 1))) && (decide ((isub (s.x.i 0) 1) ≤ 9223372036854775807)))]) (.out 0 (fgS6E s) [])) (.out 0 (fgS6E s) [])

theorem fgS6_t (s : SV) : Go.Sim.stepT Try.prog GAasI (ntOf Try.prog 15) noLT true 1000 fgS6L (loopOf Try.prog 15 0) s = some (fgS6T s) := by kernel_rfl

def fgS6P (s : SV) : Prop := 0 ≤ s.x.i 0 ∧ s.x.i 0 ≤ s.len 0 ∧ s.len 0 ≤ 1048576 ∧ s.n 0 = 8 * s.len 0

noncomputable def fgS6B (s : SV) : Bool := @decide (fgS6P s) (Classical.propDecidable _)
theorem fgS6B_of {s : SV} (h : fgS6B s = true) : fgS6P s := @of_decide_eq_true _ (Classical.propDecidable _) h
theorem fgS6B_to {s : SV} (h : fgS6P s) : fgS6B s = true := @decide_eq_true _ (Classical.propDecidable _) h

theorem fgS6N_k (s : SV) : (fgS6N s).x.i 0 = isub (s.x.i 0) 1 ∧ (fgS6N s).len 0 = s.len 0 ∧ (fgS6N s).n 0 = s.n 0 ∧ (fgS6N s).y 0 = s.y 0 ∧ (fgS6N s).x.u 145 = s.x.u 145 ∧ (fgS6N s).x.u (137 + 0) = s.x.u (137 + 0) ∧ (fgS6N s).x.u (137 + 1) = s.x.u (137 + 1) ∧ (fgS6N s).x.u (137 + 2) = s.x.u (137 + 2) ∧ (fgS6N s).x.u (137 + 3) = s.x.u (137 + 3) ∧ (fgS6N s).x.u (137 + 4) = s.x.u (137 + 4) ∧ (fgS6N s).x.u (137 + 5) = s.x.u (137 + 5) ∧ (fgS6N s).x.u (137 + 6) = s.x.u (137 + 6) ∧ (fgS6N s).x.u (137 + 7) = s.x.u (137 + 7) := ⟨by kernel_rfl, by kernel_rfl, by kernel_rfl, by kernel_rfl, by kernel_rfl, by kernel_rfl, by kernel_rfl, by kernel_rfl, by kernel_rfl, by kernel_rfl, by kernel_rfl, by kernel_rfl, by kernel_rfl⟩

def fgS6Mu (s : SV) : Nat := (s.x.i 0).toNat

theorem fgS6_go (s : SV) (hp : ∀ b ∈ [fgS6B s], b = true) :
    (fgS6T s).ok ∧ (∀ k s', (fgS6T s).pick = .out k s' → k < 1) ∧ ∀ s', (fgS6T s).pick = .next s' → (∀ b ∈ [fgS6B s'], b = true) ∧ fgS6Mu s' < fgS6Mu s := by
  obtain ⟨i1, i2, i3, i4⟩ := fgS6B_of (hp _ (List.mem_cons_self ..))
  cases hc : (decide (0 < (s.x.i 0))) with
  | false =>
    have hk : (fgS6T s).pick = .out 0 (fgS6E s) := by unfold fgS6T; rw [hc]; rfl
    refine ⟨?_, fun k s' h => ?_, fun s' h => ?_⟩
    · unfold fgS6T
      exact ⟨allN, (fun h => by rw [hc] at h; cases h), (fun _ b hb => by cases hb)⟩
    · rw [hk] at h; cases h; decide
    · rw [hk] at h; cases h
  | true =>
    have hlt := of_decide_eq_true hc
    have hok : (fgS6T s).ok := by
      unfold fgS6T
      exact ⟨allN, (fun _ => ⟨(allC (decide_eq_true (by unfold padd pmul itn isub; omega)) (allC (decide_eq_true (by unfold padd pmul itn isub; omega)) (allC (decide_eq_true (by unfold padd pmul itn isub; omega)) (allC (decide_eq_true (by unfold padd pmul itn isub; omega)) (allC (decide_eq_true (by unfold padd pmul itn isub; omega)) (allC (decide_eq_true (by unfold padd pmul itn isub; omega)) (allC (decide_eq_true (by unfold isub; omega)) (allC (decide_eq_true (by unfold isub; omega)) (allC (andT (decide_eq_true (by unfold isub; omega)) (decide_eq_true (by unfold isub; omega))) allN))))))))), (fun _ => (allC (andT (decide_eq_true (by unfold isub; omega)) (decide_eq_true (by unfold isub; omega))) allN)), (fun _ b hb => by cases hb)⟩), (fun h => by rw [hc] at h; cases h)⟩
    cases hg : fgS6G s with
    | false =>
      have hk : (fgS6T s).pick = .out 0 (fgS6E s) := by unfold fgS6T; rw [hc, hg]; rfl
      refine ⟨hok, fun k s' h => ?_, fun s' h => ?_⟩
      · rw [hk] at h; cases h; decide
      · rw [hk] at h; cases h
    | true =>
      have hk : (fgS6T s).pick = .next (fgS6N s) := by unfold fgS6T; rw [hc, hg]; rfl
      refine ⟨hok, fun k s' h => ?_, fun s' h => ?_⟩
      · rw [hk] at h; cases h
      · rw [hk] at h
        cases h
        obtain ⟨e0, l0, n0, _⟩ := fgS6N_k s
        unfold isub at e0
        refine ⟨fun b hb => ?_, by unfold fgS6Mu; omega⟩
        rw [List.mem_singleton.1 hb]
        exact fgS6B_to ⟨by omega, by omega, by omega, by omega⟩

noncomputable def fgS6F0 (s : SV) : Nat × SV := Go.Sim.runT fgS6T (fgS6Mu s + 1) s

noncomputable def fgS6F : SV → Nat × SV := Classical.choose (⟨fgS6F0, rfl⟩ : ∃ f, f = fgS6F0)

theorem fgS6F_eq : fgS6F = fgS6F0 := Classical.choose_spec (⟨fgS6F0, rfl⟩ : ∃ f, f = fgS6F0)

noncomputable def fgS6Pre (s : SV) : List Bool := [fgS6B s]

noncomputable def HfgS6 : LTab := hookL 0 fgS6L fgS6Pre fgS6F noLT

theorem HfgS6_ok : HFun Try.prog 1 HfgS6 15 := by
  unfold HfgS6
  rw [fgS6F_eq]
  exact HFun.loop GAasI_ok mixed (J := true) (n := 1000) (L := fgS6L) (T := fgS6T) (pre := fgS6Pre) (μ := fgS6Mu) (HFun.none Try.prog 1 15) (by kernel_rfl) (by decide) (by decide) fgS6_t fgS6_go

theorem fgS6_yes (s : SV) (h0 : 0 ≤ s.x.i 0) : (fgS6F s).1 = 0 ∧ (fgS6F s).2.x.i 0 = fstF (goodF 6 (fun i => s.x.u (137 + i)) (s.x.u 145) (s.y 0)) (s.x.i 0).toNat ∧ (fgS6F s).2.len 0 = s.len 0 := by
  rw [fgS6F_eq]
  let P : SV → Prop := fun r => r.y 0 = s.y 0 ∧ r.len 0 = s.len 0 ∧ r.x.u 145 = s.x.u 145 ∧ ∀ i, i < 8 → r.x.u (137 + i) = s.x.u (137 + i)
  have hg : ∀ r, P r → 0 < r.x.i 0 → fgS6G r = goodF 6 (fun i => s.x.u (137 + i)) (s.x.u 145) (s.y 0) (r.x.i 0 - 1).toNat := fun r hr hlt => by
    obtain ⟨q1, _, q2, q3⟩ := hr
    unfold fgS6G goodF
    rw [q1, q2]
    rw [gM_congr (z := 6) (f := fun i => szD (r.x.u (137 + i)) ((s.y 0).u (padd i (pmul (itn (isub (r.x.i 0) 1)) 8)))) (g := fun i => szD (s.x.u (137 + i)) ((s.y 0).u (8 * (r.x.i 0 - 1).toNat + i))) fun i hi => by rw [q3 i (by omega), show padd i (pmul (itn (isub (r.x.i 0) 1)) 8) = 8 * (r.x.i 0 - 1).toNat + i by unfold padd pmul itn isub; omega]]
  have k1 : ∀ r, P r → 0 < r.x.i 0 → goodF 6 (fun i => s.x.u (137 + i)) (s.x.u 145) (s.y 0) (r.x.i 0 - 1).toNat = true → (fgS6T r).pick = .next (fgS6N r) := fun r hr hlt h => by
    unfold fgS6T
    rw [decide_eq_true hlt, hg r hr hlt, h]
    rfl
  have k2 : ∀ r, P r → 0 < r.x.i 0 → (fgS6N r).x.i 0 = r.x.i 0 - 1 ∧ P (fgS6N r) := fun r hr _ => by
    obtain ⟨e0, l0, _, y0, w0, u0, u1, u2, u3, u4, u5, u6, u7⟩ := fgS6N_k r
    exact ⟨e0, y0.trans hr.1, l0.trans hr.2.1, w0.trans hr.2.2.1, fun i hi => (eightI (P := fun i => (fgS6N r).x.u (137 + i) = r.x.u (137 + i)) u0 u1 u2 u3 u4 u5 u6 u7 i hi).trans (hr.2.2.2 i hi)⟩
  have k3 : ∀ r, P r → 0 < r.x.i 0 → goodF 6 (fun i => s.x.u (137 + i)) (s.x.u 145) (s.y 0) (r.x.i 0 - 1).toNat = false → (fgS6T r).pick = .out 0 (fgS6E r) := fun r hr hlt h => by
    unfold fgS6T
    rw [decide_eq_true hlt, hg r hr hlt, h]
    rfl
  have k4 : ∀ r, P r → ¬ 0 < r.x.i 0 → (fgS6T r).pick = .out 0 (fgS6E r) := fun r _ hlt => by
    unfold fgS6T
    rw [decide_eq_false hlt]
    rfl
  obtain ⟨a, r, hr, e, f⟩ := fst_run (T := fgS6T) (N := fgS6N) (E := fgS6E) P (goodF 6 (fun i => s.x.u (137 + i)) (s.x.u 145) (s.y 0)) k1 k2 k3 k4 (fgS6Mu s + 1) s ⟨rfl, rfl, rfl, fun _ _ => rfl⟩ h0 (Nat.lt_succ_self _)
  have e' : (fgS6F0 s).2 = fgS6E r := e
  refine ⟨a, ?_, ?_⟩
  · rw [e']
    exact (show (fgS6E r).x.i 0 = r.x.i 0 from by kernel_rfl).trans f
  · rw [e']
    exact (show (fgS6E r).len 0 = r.len 0 from by kernel_rfl).trans hr.2.1

noncomputable def fgS7G (s : SV) : Bool := fcmp .leq .f32 (gM (fun i => szD (s.x.u (137 + i)) ((s.y 0).u (padd i (pmul (itn (isub (s.x.i 0) 1)) 8)))) 7) (s.x.u 145)

noncomputable def fgS7N (s : SV) : SV := (mkSV (apl [(.sint .i64 (isub (s.x.i 0) 1))] (apl (fl s.x 1 8) (apl [(.sint .i8 (s.x.i 9))] (apl (fl s.x 10 14) (apl [(.sint .i8 (s.x.i 24))] (apl (fl s.x 25 14) (apl [(.sint .i8 (s.x.i 39))] (apl (fl s.x 40 14) (apl [(.sint .i8 (s.x.i 54))] (apl (fl s.x 55 14) (apl [(.sint .i8 (s.x.i 69))] (apl (fl s.x 70 14) (apl [(.sint .i8 (s.x.i 84))] (apl (fl s.x 85 14) (apl [(.sint .i8 (s.x.i 99))] (apl (fl s.x 100 14) (apl [(.sint .i8 (s.x.i 114))] (apl (fl s.x 115 32) ([(.sint .i16 (s.x.i 147))]))))))))))))))))))) [(s.len 0)] [(s.n 0), 0, 0] [(s.y 0), zeroV, zeroV])
noncomputable def fgS7E (s : SV) : SV := (mkSV [(.sint .i64 (s.x.i 0))] [(s.len 0)] [(s.n 0)] [(s.y 0)])

noncomputable def fgS7T (s : SV) : Tr := .node [] (decide (0 < (s.x.i 0))) (.node [(decide ((padd 6 (pmul (itn (isub (s.x.i 0) 1)) 8)) < (s.n 0))), (decide ((padd 5 (pmul (itn (isub (s.x.i 0) 1)) 8)) < (s.n 0))), (decide ((padd 4 (pmul (itn (isub (s.x.i 0) 1)) 8)) < (s.n 0))), (decide ((padd 3 (pmul (itn (isub (s.x.i 0) 1)) 8)) < (s.n 0))), (decide ((padd 2 (pmul (itn (isub (s.x.i 0) 1)) 8)) < (s.n 0))), (decide ((padd 1 (pmul (itn (isub (s.x.i 0) 1)) 8)) < (s.n 0))), (decide ((padd 0 (pmul (itn (isub (s.x.i 0) 1)) 8)) < (s.n 0))), (decide (0 ≤ (isub (s.x.i 0) 1))), (decide ((isub (s.x.i 0) 1) < (s.len 0))), ((decide ((-(9223372036854775807 + 1)) ≤ (isub (s.x.i 0) 1))) && (decide ((isub (s.x.i 0) 1) ≤ 9223372036854775807)))] (fgS7G s) (.next (fgS7N s) [((decide ((-(9223372036854775807 + 1)) ≤ (isub (s.x.i 0) 1))) && (decide ((isub (s.x.i 0) 1) ≤ 9223372036854775807)))]) (.out 0 (fgS7E s) [])) (.out 0 (fgS7E s) [])

theorem fgS7_t (s : SV) : Go.Sim.stepT Try.prog GAasI (ntOf Try.prog 15) noLT true 1000 fgS7L (loopOf Try.prog 15 0) s = some (fgS7T s) := by kernel_rfl

def fgS7P (s : SV) : Prop := 0 ≤ s.x.i 0 ∧ s.x.i 0 ≤ s.len 0 ∧ s.len 0 ≤ 1048576 ∧ s.n 0 = 8 * s.len 0

noncomputable def fgS7B (s : SV) : Bool := @decide (fgS7P s) (Classical.propDecidable _)
theorem fgS7B_of {s : SV} (h : fgS7B s = true) : fgS7P s := @of_decide_eq_true _ (Classical.propDecidable _) h
theorem fgS7B_to {s : SV} (h : fgS7P s) : fgS7B s = true := @decide_eq_true _ (Classical.propDecidable _) h

theorem fgS7N_k (s : SV) : (fgS7N s).x.i 0 = isub (s.x.i 0) 1 ∧ (fgS7N s).len 0 = s.len 0 ∧ (fgS7N s).n 0 = s.n 0 ∧ (fgS7N s).y 0 = s.y 0 ∧ (fgS7N s).x.u 145 = s.x.u 145 ∧ (fgS7N s).x.u (137 + 0) = s.x.u (137 + 0) ∧ (fgS7N s).x.u (137 + 1) = s.x.u (137 + 1) ∧ (fgS7N s).x.u (137 + 2) = s.x.u (137 + 2) ∧ (fgS7N s).x.u (137 + 3) = s.x.u (137 + 3) ∧ (fgS7N s).x.u (137 + 4) = s.x.u (137 + 4) ∧ (fgS7N s).x.u (137 + 5) = s.x.u (137 + 5) ∧ (fgS7N s).x.u (137 + 6) = s.x.u (137 + 6) ∧ (fgS7N s).x.u (137 + 7) = s.x.u (137 + 7) := ⟨by kernel_rfl, by kernel_rfl, by kernel_rfl, by kernel_rfl, by kernel_rfl, by kernel_rfl, by kernel_rfl, by kernel_rfl, by kernel_rfl, by kernel_rfl, by kernel_rfl, by kernel_rfl, by kernel_rfl⟩

def fgS7Mu (s : SV) : Nat := (s.x.i 0).toNat

theorem fgS7_go (s : SV) (hp : ∀ b ∈ [fgS7B s], b = true) :
    (fgS7T s).ok ∧ (∀ k s', (fgS7T s).pick = .out k s' → k < 1) ∧ ∀ s', (fgS7T s).pick = .next s' → (∀ b ∈ [fgS7B s'], b = true) ∧ fgS7Mu s' < fgS7Mu s := by
  obtain ⟨i1, i2, i3, i4⟩ := fgS7B_of (hp _ (List.mem_cons_self ..))
  cases hc : (decide (0 < (s.x.i 0))) with
  | false =>
    have hk : (fgS7T s).pick = .out 0 (fgS7E s) := by unfold fgS7T; rw [hc]; rfl
    refine ⟨?_, fun k s' h => ?_, fun s' h => ?_⟩
    · unfold fgS7T
      exact ⟨allN, (fun h => by rw [hc] at h; cases h), (fun _ b hb => by cases hb)⟩
    · rw [hk] at h; cases h; decide
    · rw [hk] at h; cases h
  | true =>
    have hlt := of_decide_eq_true hc
    have hok : (fgS7T s).ok := by
      unfold fgS7T
      exact ⟨allN, (fun _ => ⟨(allC (decide_eq_true (by unfold padd pmul itn isub; omega)) (allC (decide_eq_true (by unfold padd pmul itn isub; omega)) (allC (decide_eq_true (by unfold padd pmul itn isub; omega)) (allC (decide_eq_true (by unfold padd pmul itn isub; omega)) (allC (decide_eq_true (by unfold padd pmul itn isub; omega)) (allC (decide_eq_true (by unfold padd pmul itn isub; omega)) (allC (decide_eq_true (by unfold padd pmul itn isub; omega)) (allC (decide_eq_true (by unfold isub; omega)) (allC (decide_eq_true (by unfold isub; omega)) (allC (andT (decide_eq_true (by unfold isub; omega)) (decide_eq_true (by unfold isub; omega))) allN)))))))))), (fun _ => (allC (andT (decide_eq_true (by unfold isub; omega)) (decide_eq_true (by unfold isub; omega))) allN)), (fun _ b hb => by cases hb)⟩), (fun h => by rw [hc] at h; cases h)⟩
    cases hg : fgS7G s with
    | false =>
      have hk : (fgS7T s).pick = .out 0 (fgS7E s) := by unfold fgS7T; rw [hc, hg]; rfl
      refine ⟨hok, fun k s' h => ?_, fun s' h => ?_⟩
      · rw [hk] at h; cases h; decide
      · rw [hk] at h; cases h
    | true =>
      have hk : (fgS7T s).pick = .next (fgS7N s) := by unfold fgS7T; rw [hc, hg]; rfl
      refine ⟨hok, fun k s' h => ?_, fun s' h => ?_⟩
      · rw [hk] at h; cases h
      · rw [hk] at h
        cases h
        obtain ⟨e0, l0, n0, _⟩ := fgS7N_k s
        unfold isub at e0
        refine ⟨fun b hb => ?_, by unfold fgS7Mu; omega⟩
        rw [List.mem_singleton.1 hb]
        exact fgS7B_to ⟨by omega, by omega, by omega, by omega⟩

noncomputable def fgS7F0 (s : SV) : Nat × SV := Go.Sim.runT fgS7T (fgS7Mu s + 1) s

noncomputable def fgS7F : SV → Nat × SV := Classical.choose (⟨fgS7F0, rfl⟩ : ∃ f, f = fgS7F0)

theorem fgS7F_eq : fgS7F = fgS7F0 := Classical.choose_spec (⟨fgS7F0, rfl⟩ : ∃ f, f = fgS7F0)

noncomputable def fgS7Pre (s : SV) : List Bool := [fgS7B s]

noncomputable def HfgS7 : LTab := hookL 0 fgS7L fgS7Pre fgS7F noLT

theorem HfgS7_ok : HFun Try.prog 1 HfgS7 15 := by
  unfold HfgS7
  rw [fgS7F_eq]
  exact HFun.loop GAasI_ok mixed (J := true) (n := 1000) (L := fgS7L) (T := fgS7T) (pre := fgS7Pre) (μ := fgS7Mu) (HFun.none Try.prog 1 15) (by kernel_rfl) (by decide) (by decide) fgS7_t fgS7_go

theorem fgS7_yes (s : SV) (h0 : 0 ≤ s.x.i 0) : (fgS7F s).1 = 0 ∧ (fgS7F s).2.x.i 0 = fstF (goodF 7 (fun i => s.x.u (137 + i)) (s.x.u 145) (s.y 0)) (s.x.i 0).toNat ∧ (fgS7F s).2.len 0 = s.len 0 := by
  rw [fgS7F_eq]
  let P : SV → Prop := fun r => r.y 0 = s.y 0 ∧ r.len 0 = s.len 0 ∧ r.x.u 145 = s.x.u 145 ∧ ∀ i, i < 8 → r.x.u (137 + i) = s.x.u (137 + i)
  have hg : ∀ r, P r → 0 < r.x.i 0 → fgS7G r = goodF 7 (fun i => s.x.u (137 + i)) (s.x.u 145) (s.y 0) (r.x.i 0 - 1).toNat := fun r hr hlt => by
    obtain ⟨q1, _, q2, q3⟩ := hr
    unfold fgS7G goodF
    rw [q1, q2]
    rw [gM_congr (z := 7) (f := fun i => szD (r.x.u (137 + i)) ((s.y 0).u (padd i (pmul (itn (isub (r.x.i 0) 1)) 8)))) (g := fun i => szD (s.x.u (137 + i)) ((s.y 0).u (8 * (r.x.i 0 - 1).toNat + i))) fun i hi => by rw [q3 i (by omega), show padd i (pmul (itn (isub (r.x.i 0) 1)) 8) = 8 * (r.x.i 0 - 1).toNat + i by unfold padd pmul itn isub; omega]]
  have k1 : ∀ r, P r → 0 < r.x.i 0 → goodF 7 (fun i => s.x.u (137 + i)) (s.x.u 145) (s.y 0) (r.x.i 0 - 1).toNat = true → (fgS7T r).pick = .next (fgS7N r) := fun r hr hlt h => by
    unfold fgS7T
    rw [decide_eq_true hlt, hg r hr hlt, h]
    rfl
  have k2 : ∀ r, P r → 0 < r.x.i 0 → (fgS7N r).x.i 0 = r.x.i 0 - 1 ∧ P (fgS7N r) := fun r hr _ => by
    obtain ⟨e0, l0, _, y0, w0, u0, u1, u2, u3, u4, u5, u6, u7⟩ := fgS7N_k r
    exact ⟨e0, y0.trans hr.1, l0.trans hr.2.1, w0.trans hr.2.2.1, fun i hi => (eightI (P := fun i => (fgS7N r).x.u (137 + i) = r.x.u (137 + i)) u0 u1 u2 u3 u4 u5 u6 u7 i hi).trans (hr.2.2.2 i hi)⟩
  have k3 : ∀ r, P r → 0 < r.x.i 0 → goodF 7 (fun i => s.x.u (137 + i)) (s.x.u 145) (s.y 0) (r.x.i 0 - 1).toNat = false → (fgS7T r).pick = .out 0 (fgS7E r) := fun r hr hlt h => by
    unfold fgS7T
    rw [decide_eq_true hlt, hg r hr hlt, h]
    rfl
  have k4 : ∀ r, P r → ¬ 0 < r.x.i 0 → (fgS7T r).pick = .out 0 (fgS7E r) := fun r _ hlt => by
    unfold fgS7T
    rw [decide_eq_false hlt]
    rfl
  obtain ⟨a, r, hr, e, f⟩ := fst_run (T := fgS7T) (N := fgS7N) (E := fgS7E) P (goodF 7 (fun i => s.x.u (137 + i)) (s.x.u 145) (s.y 0)) k1 k2 k3 k4 (fgS7Mu s + 1) s ⟨rfl, rfl, rfl, fun _ _ => rfl⟩ h0 (Nat.lt_succ_self _)
  have e' : (fgS7F0 s).2 = fgS7E r := e
  refine ⟨a, ?_, ?_⟩
  · rw [e']
    exact (show (fgS7E r).x.i 0 = r.x.i 0 from by kernel_rfl).trans f
  · rw [e']
    exact (show (fgS7E r).len 0 = r.len 0 from by kernel_rfl).trans hr.2.1

noncomputable def fgS8G (s : SV) : Bool := fcmp .leq .f32 (gM (fun i => szD (s.x.u (137 + i)) ((s.y 0).u (padd i (pmul (itn (isub (s.x.i 0) 1)) 8)))) 8) (s.x.u 145)

noncomputable def fgS8N (s : SV) : SV := (mkSV (apl [(.sint .i64 (isub (s.x.i 0) 1))] (apl (fl s.x 1 8) (apl [(.sint .i8 (s.x.i 9))] (apl (fl s.x 10 14) (apl [(.sint .i8 (s.x.i 24))] (apl (fl s.x 25 14) (apl [(.sint .i8 (s.x.i 39))] (apl (fl s.x 40 14) (apl [(.sint .i8 (s.x.i 54))] (apl (fl s.x 55 14) (apl [(.sint .i8 (s.x.i 69))] (apl (fl s.x 70 14) (apl [(.sint .i8 (s.x.i 84))] (apl (fl s.x 85 14) (apl [(.sint .i8 (s.x.i 99))] (apl (fl s.x 100 14) (apl [(.sint .i8 (s.x.i 114))] (apl (fl s.x 115 32) ([(.sint .i16 (s.x.i 147))]))))))))))))))))))) [(s.len 0)] [(s.n 0), 0, 0] [(s.y 0), zeroV, zeroV])
noncomputable def fgS8E (s : SV) : SV := (mkSV [(.sint .i64 (s.x.i 0))] [(s.len 0)] [(s.n 0)] [(s.y 0)])

noncomputable def fgS8T (s : SV) : Tr := .node [] (decide (0 < (s.x.i 0))) (.node [(decide ((padd 7 (pmul (itn (isub (s.x.i 0) 1)) 8)) < (s.n 0))), (decide ((padd 6 (pmul (itn (isub (s.x.i 0) 1)) 8)) < (s.n 0))), (decide ((padd 5 (pmul (itn (isub (s.x.i 0) 1)) 8)) < (s.n 0))), (decide ((padd 4 (pmul (itn (isub (s.x.i 0) 1)) 8)) < (s.n 0))), (decide ((padd 3 (pmul (itn (isub (s.x.i 0) 1)) 8)) < (s.n 0))), (decide ((padd 2 (pmul (itn (isub (s.x.i 0) 1)) 8)) < (s.n 0))), (decide ((padd 1 (pmul (itn (isub (s.x.i 0) 1)) 8)) < (s.n 0))), (decide ((padd 0 (pmul (itn (isub (s.x.i 0) 1)) 8)) < (s.n 0))), (decide (0 ≤ (isub (s.x.i 0) 1))), (decide ((isub (s.x.i 0) 1) < (s.len 0))), ((decide ((-(9223372036854775807 + 1)) ≤ (isub (s.x.i 0) 1))) && (decide ((isub (s.x.i 0) 1) ≤ 9223372036854775807)))] (fgS8G s) (.next (fgS8N s) [((decide ((-(9223372036854775807 + 1)) ≤ (isub (s.x.i 0) 1))) && (decide ((isub (s.x.i 0) 1) ≤ 9223372036854775807)))]) (.out 0 (fgS8E s) [])) (.out 0 (fgS8E s) [])

theorem fgS8_t (s : SV) : Go.Sim.stepT Try.prog GAasI (ntOf Try.prog 15) noLT true 1000 fgS8L (loopOf Try.prog 15 0) s = some (fgS8T s) := by kernel_rfl

def fgS8P (s : SV) : Prop := 0 ≤ s.x.i 0 ∧ s.x.i 0 ≤ s.len 0 ∧ s.len 0 ≤ 1048576 ∧ s.n 0 = 8 * s.len 0

noncomputable def fgS8B (s : SV) : Bool := @decide (fgS8P s) (Classical.propDecidable _)
theorem fgS8B_of {s : SV} (h : fgS8B s = true) : fgS8P s := @of_decide_eq_true _ (Classical.propDecidable _) h
theorem fgS8B_to {s : SV} (h : fgS8P s) : fgS8B s = true := @decide_eq_true _ (Classical.propDecidable _) h

theorem fgS8N_k (s : SV) : (fgS8N s).x.i 0 = isub (s.x.i 0) 1 ∧ (fgS8N s).len 0 = s.len 0 ∧ (fgS8N s).n 0 = s.n 0 ∧ (fgS8N s).y 0 = s.y 0 ∧ (fgS8N s).x.u 145 = s.x.u 145 ∧ (fgS8N s).x.u (137 + 0) = s.x.u (137 + 0) ∧ (fgS8N s).x.u (137 + 1) = s.x.u (137 + 1) ∧ (fgS8N s).x.u (137 + 2) = s.x.u (137 + 2) ∧ (fgS8N s).x.u (137 + 3) = s.x.u (137 + 3) ∧ (fgS8N s).x.u (137 + 4) = s.x.u (137 + 4) ∧ (fgS8N s).x.u (137 + 5) = s.x.u (137 + 5) ∧ (fgS8N s).x.u (137 + 6) = s.x.u (137 + 6) ∧ (fgS8N s).x.u (137 + 7) = s.x.u (137 + 7) := ⟨by kernel_rfl, by kernel_rfl, by kernel_rfl, by kernel_rfl, by kernel_rfl, by kernel_rfl, by kernel_rfl, by kernel_rfl, by kernel_rfl, by kernel_rfl, by kernel_rfl, by kernel_rfl, by kernel_rfl⟩

def fgS8Mu (s : SV) : Nat := (s.x.i 0).toNat

theorem fgS8_go (s : SV) (hp : ∀ b ∈ [fgS8B s], b = true) :
    (fgS8T s).ok ∧ (∀ k s', (fgS8T s).pick = .out k s' → k < 1) ∧ ∀ s', (fgS8T s).pick = .next s' → (∀ b ∈ [fgS8B s'], b = true) ∧ fgS8Mu s' < fgS8Mu s := by
  obtain ⟨i1, i2, i3, i4⟩ := fgS8B_of (hp _ (List.mem_cons_self ..))
  cases hc : (decide (0 < (s.x.i 0))) with
  | false =>
    have hk : (fgS8T s).pick = .out 0 (fgS8E s) := by unfold fgS8T; rw [hc]; rfl
    refine ⟨?_, fun k s' h => ?_, fun s' h => ?_⟩
    · unfold fgS8T
      exact ⟨allN, (fun h => by rw [hc] at h; cases h), (fun _ b hb => by cases hb)⟩
    · rw [hk] at h; cases h; decide
    · rw [hk] at h; cases h
  | true =>
    have hlt := of_decide_eq_true hc
    have hok : (fgS8T s).ok := by
      unfold fgS8T
      exact ⟨allN, (fun _ => ⟨(allC (decide_eq_true (by unfold padd pmul itn isub; omega)) (allC (decide_eq_true (by unfold padd pmul itn isub; omega)) (allC (decide_eq_true (by unfold padd pmul itn isub; omega)) (allC (decide_eq_true (by unfold padd pmul itn isub; omega)) (allC (decide_eq_true (by unfold padd pmul itn isub; omega)) (allC (decide_eq_true (by unfold padd pmul itn isub; omega)) (allC (decide_eq_true (by unfold padd pmul itn isub; omega)) (allC (decide_eq_true (by unfold padd pmul itn isub; omega)) (allC (decide_eq_true (by unfold isub; omega)) (allC (decide_eq_true (by unfold isub; omega)) (allC (andT (decide_eq_true (by unfold isub; omega)) (decide_eq_true (by unfold isub; omega))) allN))))))))))), (fun _ => (allC (andT (decide_eq_true (by unfold isub; omega)) (decide_eq_true (by unfold isub; omega))) allN)), (fun _ b hb => by cases hb)⟩), (fun h => by rw [hc] at h; cases h)⟩
    cases hg : fgS8G s with
    | false =>
      have hk : (fgS8T s).pick = .out 0 (fgS8E s) := by unfold fgS8T; rw [hc, hg]; rfl
      refine ⟨hok, fun k s' h => ?_, fun s' h => ?_⟩
      · rw [hk] at h; cases h; decide
      · rw [hk] at h; cases h
    | true =>
      have hk : (fgS8T s).pick = .next (fgS8N s) := by unfold fgS8T; rw [hc, hg]; rfl
      refine ⟨hok, fun k s' h => ?_, fun s' h => ?_⟩
      · rw [hk] at h; cases h
      · rw [hk] at h
        cases h
        obtain ⟨e0, l0, n0, _⟩ := fgS8N_k s
        unfold isub at e0
        refine ⟨fun b hb => ?_, by unfold fgS8Mu; omega⟩
        rw [List.mem_singleton.1 hb]
        exact fgS8B_to ⟨by omega, by omega, by omega, by omega⟩

noncomputable def fgS8F0 (s : SV) : Nat × SV := Go.Sim.runT fgS8T (fgS8Mu s + 1) s

noncomputable def fgS8F : SV → Nat × SV := Classical.choose (⟨fgS8F0, rfl⟩ : ∃ f, f = fgS8F0)

theorem fgS8F_eq : fgS8F = fgS8F0 := Classical.choose_spec (⟨fgS8F0, rfl⟩ : ∃ f, f = fgS8F0)

noncomputable def fgS8Pre (s : SV) : List Bool := [fgS8B s]

noncomputable def HfgS8 : LTab := hookL 0 fgS8L fgS8Pre fgS8F noLT

theorem HfgS8_ok : HFun Try.prog 1 HfgS8 15 := by
  unfold HfgS8
  rw [fgS8F_eq]
  exact HFun.loop GAasI_ok mixed (J := true) (n := 1000) (L := fgS8L) (T := fgS8T) (pre := fgS8Pre) (μ := fgS8Mu) (HFun.none Try.prog 1 15) (by kernel_rfl) (by decide) (by decide) fgS8_t fgS8_go

theorem fgS8_yes (s : SV) (h0 : 0 ≤ s.x.i 0) : (fgS8F s).1 = 0 ∧ (fgS8F s).2.x.i 0 = fstF (goodF 8 (fun i => s.x.u (137 + i)) (s.x.u 145) (s.y 0)) (s.x.i 0).toNat ∧ (fgS8F s).2.len 0 = s.len 0 := by
  rw [fgS8F_eq]
  let P : SV → Prop := fun r => r.y 0 = s.y 0 ∧ r.len 0 = s.len 0 ∧ r.x.u 145 = s.x.u 145 ∧ ∀ i, i < 8 → r.x.u (137 + i) = s.x.u (137 + i)
  have hg : ∀ r, P r → 0 < r.x.i 0 → fgS8G r = goodF 8 (fun i => s.x.u (137 + i)) (s.x.u 145) (s.y 0) (r.x.i 0 - 1).toNat := fun r hr hlt => by
    obtain ⟨q1, _, q2, q3⟩ := hr
    unfold fgS8G goodF
    rw [q1, q2]
    rw [gM_congr (z := 8) (f := fun i => szD (r.x.u (137 + i)) ((s.y 0).u (padd i (pmul (itn (isub (r.x.i 0) 1)) 8)))) (g := fun i => szD (s.x.u (137 + i)) ((s.y 0).u (8 * (r.x.i 0 - 1).toNat + i))) fun i hi => by rw [q3 i (by omega), show padd i (pmul (itn (isub (r.x.i 0) 1)) 8) = 8 * (r.x.i 0 - 1).toNat + i by unfold padd pmul itn isub; omega]]
  have k1 : ∀ r, P r → 0 < r.x.i 0 → goodF 8 (fun i => s.x.u (137 + i)) (s.x.u 145) (s.y 0) (r.x.i 0 - 1).toNat = true → (fgS8T r).pick = .next (fgS8N r) := fun r hr hlt h => by
    unfold fgS8T
    rw [decide_eq_true hlt, hg r hr hlt, h]
    rfl
  have k2 : ∀ r, P r → 0 < r.x.i 0 → (fgS8N r).x.i 0 = r.x.i 0 - 1 ∧ P (fgS8N r) := fun r hr _ => by
    obtain ⟨e0, l0, _, y0, w0, u0, u1, u2, u3, u4, u5, u6, u7⟩ := fgS8N_k r
    exact ⟨e0, y0.trans hr.1, l0.trans hr.2.1, w0.trans hr.2.2.1, fun i hi => (eightI (P := fun i => (fgS8N r).x.u (137 + i) = r.x.u (137 + i)) u0 u1 u2 u3 u4 u5 u6 u7 i hi).trans (hr.2.2.2 i hi)⟩
  have k3 : ∀ r, P r → 0 < r.x.i 0 → goodF 8 (fun i => s.x.u (137 + i)) (s.x.u 145) (s.y 0) (r.x.i 0 - 1).toNat = false → (fgS8T r).pick = .out 0 (fgS8E r) := fun r hr hlt h => by
    unfold fgS8T
    rw [decide_eq_true hlt, hg r hr hlt, h]
    rfl
  have k4 : ∀ r, P r → ¬ 0 < r.x.i 0 → (fgS8T r).pick = .out 0 (fgS8E r) := fun r _ hlt => by
    unfold fgS8T
    rw [decide_eq_false hlt]
    rfl
  obtain ⟨a, r, hr, e, f⟩ := fst_run (T := fgS8T) (N := fgS8N) (E := fgS8E) P (goodF 8 (fun i => s.x.u (137 + i)) (s.x.u 145) (s.y 0)) k1 k2 k3 k4 (fgS8Mu s + 1) s ⟨rfl, rfl, rfl, fun _ _ => rfl⟩ h0 (Nat.lt_succ_self _)
  have e' : (fgS8F0 s).2 = fgS8E r := e
  refine ⟨a, ?_, ?_⟩
  · rw [e']
    exact (show (fgS8E r).x.i 0 = r.x.i 0 from by kernel_rfl).trans f
  · rw [e']
    exact (show (fgS8E r).len 0 = r.len 0 from by kernel_rfl).trans hr.2.1

end Go.Proofs.Ytagkkkplmilkhaa

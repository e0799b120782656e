/-
  Facts of this seat that its laws use; no conditions.
-/
import Derived.Test.YtigcbcaknhhgmaaPlateCode
import Derived.Test.YtigcbcaknhhgmaaSimZf
namespace Go.Proofs.Ytigcbcaknhhgmaa
open Go.Sim Go.ChangeShapes Go.WideShapes Go.ChangeAt Go.RowKit

theorem pushI_lt {y : Vars} {c j : Nat} {k : IntKind} {g : Int} (h : j < c) : (pushV y 0 (pmul c 1) [.sint k g]).i j = y.i j := by
  show (bif Nat.blt j (pmul c 1) then y.i (0 + j) else _) = _
  have : Nat.blt j (pmul c 1) = true := by rw [Nat.blt_eq]; unfold pmul; omega
  rw [this, Nat.zero_add]
  rfl

theorem pushI_at {y : Vars} {c : Nat} {k : IntKind} {g : Int} : (pushV y 0 (pmul c 1) [.sint k g]).i c = g := by
  show (bif Nat.blt c (pmul c 1) then y.i (0 + c) else intOf (leafN [.sint k g] (c - pmul c 1))) = _
  have : Nat.blt c (pmul c 1) = false := by rw [← Bool.not_eq_true, Nat.blt_eq]; unfold pmul; omega
  rw [this, show c - pmul c 1 = 0 by unfold pmul; omega]
  rfl

theorem pushF_lt {y : Vars} {c j : Nat} {k : FloatKind} {g : Nat} (h : j < c) : (pushV y 0 (pmul c 1) [.flt k g]).u j = y.u j := by
  show (bif Nat.blt j (pmul c 1) then y.u (0 + j) else _) = _
  have : Nat.blt j (pmul c 1) = true := by rw [Nat.blt_eq]; unfold pmul; omega
  rw [this, Nat.zero_add]
  rfl

theorem pushF_at {y : Vars} {c : Nat} {k : FloatKind} {g : Nat} : (pushV y 0 (pmul c 1) [.flt k g]).u c = g := by
  show (bif Nat.blt c (pmul c 1) then y.u (0 + c) else fltOf (leafN [.flt k g] (c - pmul c 1))) = _
  have : Nat.blt c (pmul c 1) = false := by rw [← Bool.not_eq_true, Nat.blt_eq]; unfold pmul; omega
  rw [this, show c - pmul c 1 = 0 by unfold pmul; omega]
  rfl

/-- A loop that counts up. -/
theorem inv_run {T : SV → Tr} {N E : SV → SV} (P : SV → Prop) (L : Int)
    (hp : ∀ s, P s → s.x.i 0 < L → (T s).pick = .next (N s))
    (hn : ∀ s, P s → s.x.i 0 < L → (N s).x.i 0 = s.x.i 0 + 1 ∧ P (N s))
    (he : ∀ s, P s → ¬ s.x.i 0 < L → (T s).pick = .out 0 (E s)) :
    ∀ n s, P s → (L - s.x.i 0).toNat < n → (Go.Sim.runT T n s).1 = 0 ∧ ∃ r, P r ∧ ¬ r.x.i 0 < L ∧ (Go.Sim.runT T n s).2 = E r := by
  intro n
  induction n with
  | zero => intro s _ h; omega
  | succ n ih =>
    intro s hs h2
    simp only [Go.Sim.runT]
    by_cases hlt : s.x.i 0 < L
    · rw [hp s hs hlt]
      obtain ⟨e0, e1⟩ := hn s hs hlt
      exact ih (N s) e1 (by omega)
    · rw [he s hs hlt]
      exact ⟨rfl, s, hs, hlt, rfl⟩

noncomputable def ciL : LP := { A := 1, ts := [20, 19, 4, 12, 11, 0, 3], F := ⟨[.sc (.int .i64), .sc (.int .i64), .sc (.int .i64), .sc (.int .i64), .sc (.int .i64), .ptr 0 0, .ssl 1 0 1], [.lit [.sc (.int .i8), .sc (.int .i8), .sc (.flt .f32), .sc (.flt .f32), .sc (.flt .f32), .sc (.flt .f32), .sc (.flt .f32), .sc (.flt .f32), .sc (.flt .f32), .sc (.flt .f32), .sc (.flt .f32), .sc (.flt .f32), .sc (.flt .f32), .sc (.flt .f32), .sc (.flt .f32), .sc (.flt .f32), .sc (.flt .f32), .sc (.flt .f32), .sc (.flt .f32), .sc (.flt .f32), .sc (.flt .f32), .sc (.flt .f32), .sc (.flt .f32), .sc (.flt .f32), .sc (.flt .f32), .sc (.flt .f32), .sc (.flt .f32), .sc (.flt .f32), .sc (.flt .f32), .sc (.flt .f32), .sc (.flt .f32), .sc (.flt .f32), .sc (.flt .f32), .sc (.flt .f32), .sc (.flt .f32), .sc (.flt .f32), .sc (.flt .f32), .sc (.flt .f32), .sc (.flt .f32), .sc (.flt .f32), .sc (.flt .f32), .sc (.flt .f32), .sc (.flt .f32), .sc (.flt .f32), .sc (.flt .f32), .sc (.flt .f32), .sc (.flt .f32), .sc (.flt .f32), .sc (.flt .f32), .sc (.flt .f32), .sc (.flt .f32), .sc (.flt .f32), .sc (.flt .f32), .sc (.flt .f32), .sc (.flt .f32), .sc (.flt .f32), .sc (.flt .f32), .sc (.flt .f32), .sc (.flt .f32), .sc (.flt .f32), .sc (.flt .f32), .sc (.flt .f32), .sc (.flt .f32), .sc (.flt .f32), .sc (.flt .f32), .sc (.flt .f32)] false, .sym (.int .i64) true]⟩, xs := [(.exit 2, [12, 11, 0, 3], ⟨[.sc (.int .i64), .sc (.int .i64), .ptr 0 0, .ssl 1 0 1], [.lit [.sc (.int .i8), .sc (.int .i8), .sc (.flt .f32), .sc (.flt .f32), .sc (.flt .f32), .sc (.flt .f32), .sc (.flt .f32), .sc (.flt .f32), .sc (.flt .f32), .sc (.flt .f32), .sc (.flt .f32), .sc (.flt .f32), .sc (.flt .f32), .sc (.flt .f32), .sc (.flt .f32), .sc (.flt .f32), .sc (.flt .f32), .sc (.flt .f32), .sc (.flt .f32), .sc (.flt .f32), .sc (.flt .f32), .sc (.flt .f32), .sc (.flt .f32), .sc (.flt .f32), .sc (.flt .f32), .sc (.flt .f32), .sc (.flt .f32), .sc (.flt .f32), .sc (.flt .f32), .sc (.flt .f32), .sc (.flt .f32), .sc (.flt .f32), .sc (.flt .f32), .sc (.flt .f32), .sc (.flt .f32), .sc (.flt .f32), .sc (.flt .f32), .sc (.flt .f32), .sc (.flt .f32), .sc (.flt .f32), .sc (.flt .f32), .sc (.flt .f32), .sc (.flt .f32), .sc (.flt .f32), .sc (.flt .f32), .sc (.flt .f32), .sc (.flt .f32), .sc (.flt .f32), .sc (.flt .f32), .sc (.flt .f32), .sc (.flt .f32), .sc (.flt .f32), .sc (.flt .f32), .sc (.flt .f32), .sc (.flt .f32), .sc (.flt .f32), .sc (.flt .f32), .sc (.flt .f32), .sc (.flt .f32), .sc (.flt .f32), .sc (.flt .f32), .sc (.flt .f32), .sc (.flt .f32), .sc (.flt .f32), .sc (.flt .f32), .sc (.flt .f32)] false, .sym (.int .i64) true]⟩)] }

noncomputable def ciN (s : SV) : SV := (mkSV [(.sint .i64 (iadd (s.x.i 0) 1)), (.sint .i64 (s.x.i 1)), (.sint .i64 (s.x.i 2)), (.sint .i64 (s.x.i 3)), (.sint .i64 (s.x.i 4)), (.sint .i8 (s.x.i 5)), (.sint .i8 (s.x.i 6)), (.flt .f32 (s.x.u 7)), (.flt .f32 (s.x.u 8)), (.flt .f32 (s.x.u 9)), (.flt .f32 (s.x.u 10)), (.flt .f32 (s.x.u 11)), (.flt .f32 (s.x.u 12)), (.flt .f32 (s.x.u 13)), (.flt .f32 (s.x.u 14)), (.flt .f32 (s.x.u 15)), (.flt .f32 (s.x.u 16)), (.flt .f32 (s.x.u 17)), (.flt .f32 (s.x.u 18)), (.flt .f32 (s.x.u 19)), (.flt .f32 (s.x.u 20)), (.flt .f32 (s.x.u 21)), (.flt .f32 (s.x.u 22)), (.flt .f32 (s.x.u 23)), (.flt .f32 (s.x.u 24)), (.flt .f32 (s.x.u 25)), (.flt .f32 (s.x.u 26)), (.flt .f32 (s.x.u 27)), (.flt .f32 (s.x.u 28)), (.flt .f32 (s.x.u 29)), (.flt .f32 (s.x.u 30)), (.flt .f32 (s.x.u 31)), (.flt .f32 (s.x.u 32)), (.flt .f32 (s.x.u 33)), (.flt .f32 (s.x.u 34)), (.flt .f32 (s.x.u 35)), (.flt .f32 (s.x.u 36)), (.flt .f32 (s.x.u 37)), (.flt .f32 (s.x.u 38)), (.flt .f32 (s.x.u 39)), (.flt .f32 (s.x.u 40)), (.flt .f32 (s.x.u 41)), (.flt .f32 (s.x.u 42)), (.flt .f32 (s.x.u 43)), (.flt .f32 (s.x.u 44)), (.flt .f32 (s.x.u 45)), (.flt .f32 (s.x.u 46)), (.flt .f32 (s.x.u 47)), (.flt .f32 (s.x.u 48)), (.flt .f32 (s.x.u 49)), (.flt .f32 (s.x.u 50)), (.flt .f32 (s.x.u 51)), (.flt .f32 (s.x.u 52)), (.flt .f32 (s.x.u 53)), (.flt .f32 (s.x.u 54)), (.flt .f32 (s.x.u 55)), (.flt .f32 (s.x.u 56)), (.flt .f32 (s.x.u 57)), (.flt .f32 (s.x.u 58)), (.flt .f32 (s.x.u 59)), (.flt .f32 (s.x.u 60)), (.flt .f32 (s.x.u 61)), (.flt .f32 (s.x.u 62)), (.flt .f32 (s.x.u 63)), (.flt .f32 (s.x.u 64)), (.flt .f32 (s.x.u 65)), (.flt .f32 (s.x.u 66)), (.flt .f32 (s.x.u 67)), (.flt .f32 (s.x.u 68)), (.flt .f32 (s.x.u 69)), (.flt .f32 (s.x.u 70))] [(padd (s.len 0) 1)] [0, (pmul (padd (s.len 0) 1) 1)] [zeroV, (pushV (s.y 1) 0 (pmul (s.len 0) 1) [(.sint .i64 (iadd (s.x.i 0) (imul 8 (s.x.i 2))))])])
noncomputable def ciE (s : SV) : SV := (mkSV [(.sint .i64 (s.x.i 3)), (.sint .i64 (s.x.i 4)), (.sint .i8 (s.x.i 5)), (.sint .i8 (s.x.i 6)), (.flt .f32 (s.x.u 7)), (.flt .f32 (s.x.u 8)), (.flt .f32 (s.x.u 9)), (.flt .f32 (s.x.u 10)), (.flt .f32 (s.x.u 11)), (.flt .f32 (s.x.u 12)), (.flt .f32 (s.x.u 13)), (.flt .f32 (s.x.u 14)), (.flt .f32 (s.x.u 15)), (.flt .f32 (s.x.u 16)), (.flt .f32 (s.x.u 17)), (.flt .f32 (s.x.u 18)), (.flt .f32 (s.x.u 19)), (.flt .f32 (s.x.u 20)), (.flt .f32 (s.x.u 21)), (.flt .f32 (s.x.u 22)), (.flt .f32 (s.x.u 23)), (.flt .f32 (s.x.u 24)), (.flt .f32 (s.x.u 25)), (.flt .f32 (s.x.u 26)), (.flt .f32 (s.x.u 27)), (.flt .f32 (s.x.u 28)), (.flt .f32 (s.x.u 29)), (.flt .f32 (s.x.u 30)), (.flt .f32 (s.x.u 31)), (.flt .f32 (s.x.u 32)), (.flt .f32 (s.x.u 33)), (.flt .f32 (s.x.u 34)), (.flt .f32 (s.x.u 35)), (.flt .f32 (s.x.u 36)), (.flt .f32 (s.x.u 37)), (.flt .f32 (s.x.u 38)), (.flt .f32 (s.x.u 39)), (.flt .f32 (s.x.u 40)), (.flt .f32 (s.x.u 41)), (.flt .f32 (s.x.u 42)), (.flt .f32 (s.x.u 43)), (.flt .f32 (s.x.u 44)), (.flt .f32 (s.x.u 45)), (.flt .f32 (s.x.u 46)), (.flt .f32 (s.x.u 47)), (.flt .f32 (s.x.u 48)), (.flt .f32 (s.x.u 49)), (.flt .f32 (s.x.u 50)), (.flt .f32 (s.x.u 51)), (.flt .f32 (s.x.u 52)), (.flt .f32 (s.x.u 53)), (.flt .f32 (s.x.u 54)), (.flt .f32 (s.x.u 55)), (.flt .f32 (s.x.u 56)), (.flt .f32 (s.x.u 57)), (.flt .f32 (s.x.u 58)), (.flt .f32 (s.x.u 59)), (.flt .f32 (s.x.u 60)), (.flt .f32 (s.x.u 61)), (.flt .f32 (s.x.u 62)), (.flt .f32 (s.x.u 63)), (.flt .f32 (s.x.u 64)), (.flt .f32 (s.x.u 65)), (.flt .f32 (s.x.u 66)), (.flt .f32 (s.x.u 67)), (.flt .f32 (s.x.u 68)), (.flt .f32 (s.x.u 69)), (.flt .f32 (s.x.u 70))] [(s.len 0)] [0, (s.n 1)] [zeroV, (s.y 1)])

noncomputable def ciT (s : SV) : Tr := .node [] (decide ((s.x.i 0) < (s.x.i 1))) (.next (ciN s) [((decide ((-(9223372036854775807 + 1)) ≤ (iadd (s.x.i 0) 1))) && (decide ((iadd (s.x.i 0) 1) ≤ 9223372036854775807))), (decide ((padd 0 (pmul (s.len 0) 1)) ≤ (s.n 1))), (decide ((padd (s.len 0) 1) ≤ 16777216)), ((decide ((-(9223372036854775807 + 1)) ≤ (iadd (s.x.i 0) (imul 8 (s.x.i 2))))) && (decide ((iadd (s.x.i 0) (imul 8 (s.x.i 2))) ≤ 9223372036854775807))), ((decide ((-(9223372036854775807 + 1)) ≤ (imul 8 (s.x.i 2)))) && (decide ((imul 8 (s.x.i 2)) ≤ 9223372036854775807)))]) (.out 0 (ciE s) [])

theorem ci_t (s : SV) : Go.Sim.stepT Try.prog G25 (ntOf Try.prog 77) noLT true 1000 ciL (loopOf Try.prog 77 2) s = some (ciT s) := by kernel_rfl

def ciP (s : SV) : Prop := 0 ≤ s.x.i 0 ∧ s.x.i 0 ≤ s.x.i 1 ∧ s.x.i 1 ≤ 8 ∧ 0 ≤ s.x.i 2 ∧ s.x.i 2 ≤ 8 ∧ (s.len 0 : Int) + s.x.i 1 - s.x.i 0 ≤ 1000 ∧ s.n 1 = s.len 0

noncomputable def ciB (s : SV) : Bool := @decide (ciP s) (Classical.propDecidable _)
theorem ciB_of {s : SV} (h : ciB s = true) : ciP s := @of_decide_eq_true _ (Classical.propDecidable _) h
theorem ciB_to {s : SV} (h : ciP s) : ciB s = true := @decide_eq_true _ (Classical.propDecidable _) h

theorem ciN_k (s : SV) : (ciN s).x.i 0 = iadd (s.x.i 0) 1 ∧ (ciN s).x.i 1 = s.x.i 1 ∧ (ciN s).x.i 2 = s.x.i 2 ∧ (ciN s).x.i 3 = s.x.i 3 ∧ (ciN s).x.i 4 = s.x.i 4 ∧ (ciN s).x.i 5 = s.x.i 5 ∧ (ciN s).x.i 6 = s.x.i 6 ∧ (ciN s).len 0 = padd (s.len 0) 1 ∧ (ciN s).n 1 = pmul (padd (s.len 0) 1) 1 ∧ (ciN s).y 1 = pushV (s.y 1) 0 (pmul (s.len 0) 1) [.sint .i64 (iadd (s.x.i 0) (imul 8 (s.x.i 2)))] := ⟨by kernel_rfl, by kernel_rfl, by kernel_rfl, by kernel_rfl, by kernel_rfl, by kernel_rfl, by kernel_rfl, by kernel_rfl, by kernel_rfl, by kernel_rfl⟩

def ciMu (s : SV) : Nat := (s.x.i 1 - s.x.i 0).toNat

theorem ci_go (s : SV) (hp : ∀ b ∈ [ciB s], b = true) :
    (ciT s).ok ∧ (∀ k s', (ciT s).pick = .out k s' → k < 1) ∧ ∀ s', (ciT s).pick = .next s' → (∀ b ∈ [ciB s'], b = true) ∧ ciMu s' < ciMu s := by
  have hP := ciB_of (hp _ (List.mem_cons_self ..))
  have hP' := hP
  obtain ⟨i1, i2, i3, i4, i5, i6, i7⟩ := hP
  cases hc : (decide ((s.x.i 0) < (s.x.i 1))) with
  | false =>
    have hk : (ciT s).pick = .out 0 (ciE s) := by unfold ciT; rw [hc]; rfl
    refine ⟨?_, fun k s' h => ?_, fun s' h => ?_⟩
    · unfold ciT
      exact ⟨allN, (fun h => by rw [hc] at h; cases h), (fun _ b hb => by cases hb)⟩
    · rw [hk] at h; cases h; decide
    · rw [hk] at h; cases h
  | true =>
    have hlt := of_decide_eq_true hc
    (try unfold ofN at hlt)
    have hk : (ciT s).pick = .next (ciN s) := by unfold ciT; rw [hc]; rfl
    refine ⟨?_, fun k s' h => ?_, fun s' h => ?_⟩
    · unfold ciT
      exact ⟨allN, (fun _ => (allC (andT (decide_eq_true (by unfold iadd; omega)) (decide_eq_true (by unfold iadd; omega))) (allC (decide_eq_true (by unfold padd pmul; omega)) (allC (decide_eq_true (by unfold padd; omega)) (allC (andT (decide_eq_true (by unfold iadd imul; omega)) (decide_eq_true (by unfold iadd imul; omega))) (allC (andT (decide_eq_true (by unfold imul; omega)) (decide_eq_true (by unfold imul; omega))) allN)))))), (fun h => by rw [hc] at h; cases h)⟩
    · rw [hk] at h; cases h
    · rw [hk] at h
      cases h
      refine ⟨fun b hb => ?_, ?_⟩
      · rw [List.mem_singleton.1 hb]
        refine ciB_to ?_
        obtain ⟨e0, e1, e2, _, _, _, _, l0, n1, _⟩ := ciN_k s
        unfold iadd at e0
        unfold padd at l0 n1
        unfold pmul at n1
        exact ⟨by omega, by omega, by omega, by omega, by omega, by omega, by omega⟩
      · obtain ⟨e0, e1, _⟩ := ciN_k s
        unfold iadd at e0
        unfold ciMu
        omega

noncomputable def ciF0 (s : SV) : Nat × SV := Go.Sim.runT ciT (ciMu s + 1) s

noncomputable def ciF : SV → Nat × SV := Classical.choose (⟨ciF0, rfl⟩ : ∃ f, f = ciF0)

theorem ciF_eq : ciF = ciF0 := Classical.choose_spec (⟨ciF0, rfl⟩ : ∃ f, f = ciF0)

noncomputable def ciPre (s : SV) : List Bool := [ciB s]

noncomputable def Hci : LTab := hookL 2 ciL ciPre ciF noLT

theorem Hci_ok : HFun Try.prog 1 Hci 77 := by
  unfold Hci
  rw [ciF_eq]
  exact HFun.loop G25_ok mixed (J := true) (n := 1000) (L := ciL) (T := ciT) (pre := ciPre) (μ := ciMu) (HFun.none Try.prog 1 77) (by kernel_rfl) (by decide) (by decide) ci_t ci_go

theorem ci_yes (s : SV) (hP : ciP s) (h0 : s.x.i 0 = 0) : (ciF s).1 = 0 ∧ ((ciF s).2.len 0 : Int) = s.len 0 + s.x.i 1 ∧ (ciF s).2.n 1 = (ciF s).2.len 0 ∧ (ciF s).2.x.i 0 = s.x.i 3 ∧ (ciF s).2.x.i 1 = s.x.i 4 ∧ (ciF s).2.x.i 2 = s.x.i 5 ∧ (ciF s).2.x.i 3 = s.x.i 6 ∧
    (∀ j, j < s.len 0 → ((ciF s).2.y 1).i j = (s.y 1).i j) ∧ ∀ t : Nat, (t : Int) < s.x.i 1 → ((ciF s).2.y 1).i (s.len 0 + t) = t + 8 * s.x.i 2 := by
  rw [ciF_eq]
  let P : SV → Prop := fun r => ciP r ∧ r.x.i 1 = s.x.i 1 ∧ r.x.i 2 = s.x.i 2 ∧ r.x.i 3 = s.x.i 3 ∧ r.x.i 4 = s.x.i 4 ∧ r.x.i 5 = s.x.i 5 ∧ r.x.i 6 = s.x.i 6 ∧ (r.len 0 : Int) = s.len 0 + r.x.i 0 ∧ (∀ j, j < s.len 0 → (r.y 1).i j = (s.y 1).i j) ∧ ∀ t : Nat, (t : Int) < r.x.i 0 → (r.y 1).i (s.len 0 + t) = t + 8 * s.x.i 2
  have k1 : ∀ r, P r → r.x.i 0 < s.x.i 1 → (ciT r).pick = .next (ciN r) := fun r hr hlt => by
    unfold ciT
    rw [decide_eq_true (show r.x.i 0 < r.x.i 1 by have := hr.2.1; omega)]
    rfl
  have k2 : ∀ r, P r → r.x.i 0 < s.x.i 1 → (ciN r).x.i 0 = r.x.i 0 + 1 ∧ P (ciN r) := fun r hr hlt => by
    have hpk := k1 r hr hlt
    have hB : ciB (ciN r) = true := ((ci_go r (allC (ciB_to hr.1) allN)).2.2 _ hpk).1 _ (List.mem_cons_self ..)
    obtain ⟨hr1, q1, q2, q3, q4, q5, q6, q7, q8, q9⟩ := hr
    obtain ⟨e0, e1, e2, e3, e4, e5, e6, l0, n1, y1⟩ := ciN_k r
    obtain ⟨i1, i2, i3, i4, i5, i6, i7⟩ := hr1
    unfold iadd at e0
    unfold padd at l0
    refine ⟨e0, ciB_of hB, e1.trans q1, e2.trans q2, e3.trans q3, e4.trans q4, e5.trans q5, e6.trans q6, by omega, fun j hj => ?_, fun t ht => ?_⟩
    · rw [y1, pushI_lt (by omega)]
      exact q8 j hj
    · rw [y1]
      by_cases hlt2 : (t : Int) < r.x.i 0
      · rw [pushI_lt (by omega)]
        exact q9 t hlt2
      · rw [show s.len 0 + t = r.len 0 by omega, pushI_at]
        unfold iadd imul
        omega
  have k3 : ∀ r, P r → ¬ r.x.i 0 < s.x.i 1 → (ciT r).pick = .out 0 (ciE r) := fun r hr hlt => by
    unfold ciT
    rw [decide_eq_false (show ¬ r.x.i 0 < r.x.i 1 by have := hr.2.1; omega)]
    rfl
  obtain ⟨a, r, hr, hge, e⟩ := inv_run (T := ciT) (N := ciN) (E := ciE) P (s.x.i 1) k1 k2 k3 (ciMu s + 1) s ⟨hP, rfl, rfl, rfl, rfl, rfl, rfl, by omega, fun _ _ => rfl, fun t ht => by omega⟩ (by unfold ciMu; omega)
  have e' : (ciF0 s).2 = ciE r := e
  obtain ⟨hr1, q1, q2, q3, q4, q5, q6, q7, q8, q9⟩ := hr
  obtain ⟨i1, i2, i3, i4, i5, i6, i7⟩ := hr1
  have f1 : (ciE r).len 0 = r.len 0 := by kernel_rfl
  have f2 : (ciE r).n 1 = r.n 1 := by kernel_rfl
  have f3 : (ciE r).x.i 0 = r.x.i 3 := by kernel_rfl
  have f4 : (ciE r).x.i 1 = r.x.i 4 := by kernel_rfl
  have f5 : (ciE r).x.i 2 = r.x.i 5 := by kernel_rfl
  have f6 : (ciE r).x.i 3 = r.x.i 6 := by kernel_rfl
  have f7 : (ciE r).y 1 = r.y 1 := by kernel_rfl
  rw [e', f1, f2, f3, f4, f5, f6, f7]
  exact ⟨a, by omega, i7, q3, q4, q5, q6, q8, fun t ht => q9 t (by omega)⟩

noncomputable def coL : LP := { A := 1, ts := [12, 11, 0, 3], F := ⟨[.sc (.int .i64), .sc (.int .i64), .ptr 0 0, .ssl 1 0 1], [.lit [.sc (.int .i8), .sc (.int .i8), .sc (.flt .f32), .sc (.flt .f32), .sc (.flt .f32), .sc (.flt .f32), .sc (.flt .f32), .sc (.flt .f32), .sc (.flt .f32), .sc (.flt .f32), .sc (.flt .f32), .sc (.flt .f32), .sc (.flt .f32), .sc (.flt .f32), .sc (.flt .f32), .sc (.flt .f32), .sc (.flt .f32), .sc (.flt .f32), .sc (.flt .f32), .sc (.flt .f32), .sc (.flt .f32), .sc (.flt .f32), .sc (.flt .f32), .sc (.flt .f32), .sc (.flt .f32), .sc (.flt .f32), .sc (.flt .f32), .sc (.flt .f32), .sc (.flt .f32), .sc (.flt .f32), .sc (.flt .f32), .sc (.flt .f32), .sc (.flt .f32), .sc (.flt .f32), .sc (.flt .f32), .sc (.flt .f32), .sc (.flt .f32), .sc (.flt .f32), .sc (.flt .f32), .sc (.flt .f32), .sc (.flt .f32), .sc (.flt .f32), .sc (.flt .f32), .sc (.flt .f32), .sc (.flt .f32), .sc (.flt .f32), .sc (.flt .f32), .sc (.flt .f32), .sc (.flt .f32), .sc (.flt .f32), .sc (.flt .f32), .sc (.flt .f32), .sc (.flt .f32), .sc (.flt .f32), .sc (.flt .f32), .sc (.flt .f32), .sc (.flt .f32), .sc (.flt .f32), .sc (.flt .f32), .sc (.flt .f32), .sc (.flt .f32), .sc (.flt .f32), .sc (.flt .f32), .sc (.flt .f32), .sc (.flt .f32), .sc (.flt .f32)] false, .sym (.int .i64) true]⟩, xs := [(.exit 0, [3], ⟨[.ssl 1 0 1], [.lit [.sc (.int .i8), .sc (.int .i8), .sc (.flt .f32), .sc (.flt .f32), .sc (.flt .f32), .sc (.flt .f32), .sc (.flt .f32), .sc (.flt .f32), .sc (.flt .f32), .sc (.flt .f32), .sc (.flt .f32), .sc (.flt .f32), .sc (.flt .f32), .sc (.flt .f32), .sc (.flt .f32), .sc (.flt .f32), .sc (.flt .f32), .sc (.flt .f32), .sc (.flt .f32), .sc (.flt .f32), .sc (.flt .f32), .sc (.flt .f32), .sc (.flt .f32), .sc (.flt .f32), .sc (.flt .f32), .sc (.flt .f32), .sc (.flt .f32), .sc (.flt .f32), .sc (.flt .f32), .sc (.flt .f32), .sc (.flt .f32), .sc (.flt .f32), .sc (.flt .f32), .sc (.flt .f32), .sc (.flt .f32), .sc (.flt .f32), .sc (.flt .f32), .sc (.flt .f32), .sc (.flt .f32), .sc (.flt .f32), .sc (.flt .f32), .sc (.flt .f32), .sc (.flt .f32), .sc (.flt .f32), .sc (.flt .f32), .sc (.flt .f32), .sc (.flt .f32), .sc (.flt .f32), .sc (.flt .f32), .sc (.flt .f32), .sc (.flt .f32), .sc (.flt .f32), .sc (.flt .f32), .sc (.flt .f32), .sc (.flt .f32), .sc (.flt .f32), .sc (.flt .f32), .sc (.flt .f32), .sc (.flt .f32), .sc (.flt .f32), .sc (.flt .f32), .sc (.flt .f32), .sc (.flt .f32), .sc (.flt .f32), .sc (.flt .f32), .sc (.flt .f32)] false, .sym (.int .i64) true]⟩)] }

noncomputable def coS (s : SV) : SV := (mkSV [(.int .i64 0), (.sint .i64 (s.x.i 2)), (.sint .i64 (s.x.i 0)), (.sint .i64 (s.x.i 0)), (.sint .i64 (s.x.i 1)), (.sint .i8 (s.x.i 2)), (.sint .i8 (s.x.i 3)), (.flt .f32 (s.x.u 4)), (.flt .f32 (s.x.u 5)), (.flt .f32 (s.x.u 6)), (.flt .f32 (s.x.u 7)), (.flt .f32 (s.x.u 8)), (.flt .f32 (s.x.u 9)), (.flt .f32 (s.x.u 10)), (.flt .f32 (s.x.u 11)), (.flt .f32 (s.x.u 12)), (.flt .f32 (s.x.u 13)), (.flt .f32 (s.x.u 14)), (.flt .f32 (s.x.u 15)), (.flt .f32 (s.x.u 16)), (.flt .f32 (s.x.u 17)), (.flt .f32 (s.x.u 18)), (.flt .f32 (s.x.u 19)), (.flt .f32 (s.x.u 20)), (.flt .f32 (s.x.u 21)), (.flt .f32 (s.x.u 22)), (.flt .f32 (s.x.u 23)), (.flt .f32 (s.x.u 24)), (.flt .f32 (s.x.u 25)), (.flt .f32 (s.x.u 26)), (.flt .f32 (s.x.u 27)), (.flt .f32 (s.x.u 28)), (.flt .f32 (s.x.u 29)), (.flt .f32 (s.x.u 30)), (.flt .f32 (s.x.u 31)), (.flt .f32 (s.x.u 32)), (.flt .f32 (s.x.u 33)), (.flt .f32 (s.x.u 34)), (.flt .f32 (s.x.u 35)), (.flt .f32 (s.x.u 36)), (.flt .f32 (s.x.u 37)), (.flt .f32 (s.x.u 38)), (.flt .f32 (s.x.u 39)), (.flt .f32 (s.x.u 40)), (.flt .f32 (s.x.u 41)), (.flt .f32 (s.x.u 42)), (.flt .f32 (s.x.u 43)), (.flt .f32 (s.x.u 44)), (.flt .f32 (s.x.u 45)), (.flt .f32 (s.x.u 46)), (.flt .f32 (s.x.u 47)), (.flt .f32 (s.x.u 48)), (.flt .f32 (s.x.u 49)), (.flt .f32 (s.x.u 50)), (.flt .f32 (s.x.u 51)), (.flt .f32 (s.x.u 52)), (.flt .f32 (s.x.u 53)), (.flt .f32 (s.x.u 54)), (.flt .f32 (s.x.u 55)), (.flt .f32 (s.x.u 56)), (.flt .f32 (s.x.u 57)), (.flt .f32 (s.x.u 58)), (.flt .f32 (s.x.u 59)), (.flt .f32 (s.x.u 60)), (.flt .f32 (s.x.u 61)), (.flt .f32 (s.x.u 62)), (.flt .f32 (s.x.u 63)), (.flt .f32 (s.x.u 64)), (.flt .f32 (s.x.u 65)), (.flt .f32 (s.x.u 66)), (.flt .f32 (s.x.u 67))] [(s.len 0)] [0, (s.n 1)] [zeroV, (s.y 1)])

def coP (s : SV) : Prop := 0 ≤ s.x.i 0 ∧ s.x.i 0 ≤ s.x.i 1 ∧ s.x.i 1 ≤ 8 ∧ 1 ≤ s.x.i 2 ∧ s.x.i 2 ≤ 8 ∧ s.len 0 = (s.x.i 2).toNat * (s.x.i 0).toNat ∧ s.n 1 = s.len 0

theorem coS_P (s : SV) (h : coP s) (hlt : s.x.i 0 < s.x.i 1) : ciP (coS s) ∧ (ciF (coS s)).2.x.i 0 = s.x.i 0 ∧ (ciF (coS s)).2.x.i 1 = s.x.i 1 ∧ (ciF (coS s)).2.x.i 2 = s.x.i 2 ∧ (ciF (coS s)).2.len 0 = s.len 0 + (s.x.i 2).toNat ∧ (ciF (coS s)).2.n 1 = (ciF (coS s)).2.len 0 ∧
    (∀ j, j < s.len 0 → ((ciF (coS s)).2.y 1).i j = (s.y 1).i j) ∧ ∀ t : Nat, t < (s.x.i 2).toNat → ((ciF (coS s)).2.y 1).i (s.len 0 + t) = t + 8 * s.x.i 0 := by
  obtain ⟨i1, i2, i3, i4, i5, i6, i7⟩ := h
  have hm : (s.x.i 2).toNat * (s.x.i 0).toNat ≤ 8 * 8 := Nat.mul_le_mul (by omega) (by omega)
  have a0 : (coS s).x.i 0 = 0 := by kernel_rfl
  have a1 : (coS s).x.i 1 = s.x.i 2 := by kernel_rfl
  have a2 : (coS s).x.i 2 = s.x.i 0 := by kernel_rfl
  have a3 : (coS s).x.i 3 = s.x.i 0 := by kernel_rfl
  have a4 : (coS s).x.i 4 = s.x.i 1 := by kernel_rfl
  have a5 : (coS s).x.i 5 = s.x.i 2 := by kernel_rfl
  have a6 : (coS s).len 0 = s.len 0 := by kernel_rfl
  have a7 : (coS s).n 1 = s.n 1 := by kernel_rfl
  have a8 : (coS s).y 1 = s.y 1 := by kernel_rfl
  have hci : ciP (coS s) := ⟨by omega, by omega, by omega, by omega, by omega, by omega, by omega⟩
  obtain ⟨_, f1, f2, f3, f4, f5, _, f7, f8⟩ := ci_yes (coS s) hci a0
  rw [a6, a1] at f1
  rw [a6, a8] at f7
  rw [a1, a6, a2] at f8
  exact ⟨hci, f3.trans a3, f4.trans a4, f5.trans a5, by omega, f2, f7, fun t ht => f8 t (by omega)⟩

noncomputable def coN (s : SV) : SV := (mkSV [(.sint .i64 (iadd ((ciF (coS s)).2.x.i 0) 1)), (.sint .i64 ((ciF (coS s)).2.x.i 1)), (.sint .i8 ((ciF (coS s)).2.x.i 2)), (.sint .i8 ((ciF (coS s)).2.x.i 3)), (.flt .f32 ((ciF (coS s)).2.x.u 4)), (.flt .f32 ((ciF (coS s)).2.x.u 5)), (.flt .f32 ((ciF (coS s)).2.x.u 6)), (.flt .f32 ((ciF (coS s)).2.x.u 7)), (.flt .f32 ((ciF (coS s)).2.x.u 8)), (.flt .f32 ((ciF (coS s)).2.x.u 9)), (.flt .f32 ((ciF (coS s)).2.x.u 10)), (.flt .f32 ((ciF (coS s)).2.x.u 11)), (.flt .f32 ((ciF (coS s)).2.x.u 12)), (.flt .f32 ((ciF (coS s)).2.x.u 13)), (.flt .f32 ((ciF (coS s)).2.x.u 14)), (.flt .f32 ((ciF (coS s)).2.x.u 15)), (.flt .f32 ((ciF (coS s)).2.x.u 16)), (.flt .f32 ((ciF (coS s)).2.x.u 17)), (.flt .f32 ((ciF (coS s)).2.x.u 18)), (.flt .f32 ((ciF (coS s)).2.x.u 19)), (.flt .f32 ((ciF (coS s)).2.x.u 20)), (.flt .f32 ((ciF (coS s)).2.x.u 21)), (.flt .f32 ((ciF (coS s)).2.x.u 22)), (.flt .f32 ((ciF (coS s)).2.x.u 23)), (.flt .f32 ((ciF (coS s)).2.x.u 24)), (.flt .f32 ((ciF (coS s)).2.x.u 25)), (.flt .f32 ((ciF (coS s)).2.x.u 26)), (.flt .f32 ((ciF (coS s)).2.x.u 27)), (.flt .f32 ((ciF (coS s)).2.x.u 28)), (.flt .f32 ((ciF (coS s)).2.x.u 29)), (.flt .f32 ((ciF (coS s)).2.x.u 30)), (.flt .f32 ((ciF (coS s)).2.x.u 31)), (.flt .f32 ((ciF (coS s)).2.x.u 32)), (.flt .f32 ((ciF (coS s)).2.x.u 33)), (.flt .f32 ((ciF (coS s)).2.x.u 34)), (.flt .f32 ((ciF (coS s)).2.x.u 35)), (.flt .f32 ((ciF (coS s)).2.x.u 36)), (.flt .f32 ((ciF (coS s)).2.x.u 37)), (.flt .f32 ((ciF (coS s)).2.x.u 38)), (.flt .f32 ((ciF (coS s)).2.x.u 39)), (.flt .f32 ((ciF (coS s)).2.x.u 40)), (.flt .f32 ((ciF (coS s)).2.x.u 41)), (.flt .f32 ((ciF (coS s)).2.x.u 42)), (.flt .f32 ((ciF (coS s)).2.x.u 43)), (.flt .f32 ((ciF (coS s)).2.x.u 44)), (.flt .f32 ((ciF (coS s)).2.x.u 45)), (.flt .f32 ((ciF (coS s)).2.x.u 46)), (.flt .f32 ((ciF (coS s)).2.x.u 47)), (.flt .f32 ((ciF (coS s)).2.x.u 48)), (.flt .f32 ((ciF (coS s)).2.x.u 49)), (.flt .f32 ((ciF (coS s)).2.x.u 50)), (.flt .f32 ((ciF (coS s)).2.x.u 51)), (.flt .f32 ((ciF (coS s)).2.x.u 52)), (.flt .f32 ((ciF (coS s)).2.x.u 53)), (.flt .f32 ((ciF (coS s)).2.x.u 54)), (.flt .f32 ((ciF (coS s)).2.x.u 55)), (.flt .f32 ((ciF (coS s)).2.x.u 56)), (.flt .f32 ((ciF (coS s)).2.x.u 57)), (.flt .f32 ((ciF (coS s)).2.x.u 58)), (.flt .f32 ((ciF (coS s)).2.x.u 59)), (.flt .f32 ((ciF (coS s)).2.x.u 60)), (.flt .f32 ((ciF (coS s)).2.x.u 61)), (.flt .f32 ((ciF (coS s)).2.x.u 62)), (.flt .f32 ((ciF (coS s)).2.x.u 63)), (.flt .f32 ((ciF (coS s)).2.x.u 64)), (.flt .f32 ((ciF (coS s)).2.x.u 65)), (.flt .f32 ((ciF (coS s)).2.x.u 66)), (.flt .f32 ((ciF (coS s)).2.x.u 67))] [((ciF (coS s)).2.len 0)] [0, ((ciF (coS s)).2.n 1)] [zeroV, ((ciF (coS s)).2.y 1)])
noncomputable def coE (s : SV) : SV := (mkSV [(.sint .i8 (s.x.i 2)), (.sint .i8 (s.x.i 3)), (.flt .f32 (s.x.u 4)), (.flt .f32 (s.x.u 5)), (.flt .f32 (s.x.u 6)), (.flt .f32 (s.x.u 7)), (.flt .f32 (s.x.u 8)), (.flt .f32 (s.x.u 9)), (.flt .f32 (s.x.u 10)), (.flt .f32 (s.x.u 11)), (.flt .f32 (s.x.u 12)), (.flt .f32 (s.x.u 13)), (.flt .f32 (s.x.u 14)), (.flt .f32 (s.x.u 15)), (.flt .f32 (s.x.u 16)), (.flt .f32 (s.x.u 17)), (.flt .f32 (s.x.u 18)), (.flt .f32 (s.x.u 19)), (.flt .f32 (s.x.u 20)), (.flt .f32 (s.x.u 21)), (.flt .f32 (s.x.u 22)), (.flt .f32 (s.x.u 23)), (.flt .f32 (s.x.u 24)), (.flt .f32 (s.x.u 25)), (.flt .f32 (s.x.u 26)), (.flt .f32 (s.x.u 27)), (.flt .f32 (s.x.u 28)), (.flt .f32 (s.x.u 29)), (.flt .f32 (s.x.u 30)), (.flt .f32 (s.x.u 31)), (.flt .f32 (s.x.u 32)), (.flt .f32 (s.x.u 33)), (.flt .f32 (s.x.u 34)), (.flt .f32 (s.x.u 35)), (.flt .f32 (s.x.u 36)), (.flt .f32 (s.x.u 37)), (.flt .f32 (s.x.u 38)), (.flt .f32 (s.x.u 39)), (.flt .f32 (s.x.u 40)), (.flt .f32 (s.x.u 41)), (.flt .f32 (s.x.u 42)), (.flt .f32 (s.x.u 43)), (.flt .f32 (s.x.u 44)), (.flt .f32 (s.x.u 45)), (.flt .f32 (s.x.u 46)), (.flt .f32 (s.x.u 47)), (.flt .f32 (s.x.u 48)), (.flt .f32 (s.x.u 49)), (.flt .f32 (s.x.u 50)), (.flt .f32 (s.x.u 51)), (.flt .f32 (s.x.u 52)), (.flt .f32 (s.x.u 53)), (.flt .f32 (s.x.u 54)), (.flt .f32 (s.x.u 55)), (.flt .f32 (s.x.u 56)), (.flt .f32 (s.x.u 57)), (.flt .f32 (s.x.u 58)), (.flt .f32 (s.x.u 59)), (.flt .f32 (s.x.u 60)), (.flt .f32 (s.x.u 61)), (.flt .f32 (s.x.u 62)), (.flt .f32 (s.x.u 63)), (.flt .f32 (s.x.u 64)), (.flt .f32 (s.x.u 65)), (.flt .f32 (s.x.u 66)), (.flt .f32 (s.x.u 67))] [(s.len 0)] [0, (s.n 1)] [zeroV, (s.y 1)])

noncomputable def coT (s : SV) : Tr := .node [] (decide ((s.x.i 0) < (s.x.i 1))) (.next (coN s) [((decide ((-(9223372036854775807 + 1)) ≤ (iadd ((ciF (coS s)).2.x.i 0) 1))) && (decide ((iadd ((ciF (coS s)).2.x.i 0) 1) ≤ 9223372036854775807))), (ciB (coS s))]) (.out 0 (coE s) [])

theorem co_t (s : SV) : Go.Sim.stepT Try.prog G25 (ntOf Try.prog 77) Hci true 1000 coL (loopOf Try.prog 77 0) s = some (coT s) := by kernel_rfl

noncomputable def coB (s : SV) : Bool := @decide (coP s) (Classical.propDecidable _)
theorem coB_of {s : SV} (h : coB s = true) : coP s := @of_decide_eq_true _ (Classical.propDecidable _) h
theorem coB_to {s : SV} (h : coP s) : coB s = true := @decide_eq_true _ (Classical.propDecidable _) h

theorem coN_k (s : SV) : (coN s).x.i 0 = iadd ((ciF (coS s)).2.x.i 0) 1 ∧ (coN s).x.i 1 = (ciF (coS s)).2.x.i 1 ∧ (coN s).x.i 2 = (ciF (coS s)).2.x.i 2 ∧ (coN s).len 0 = (ciF (coS s)).2.len 0 ∧ (coN s).n 1 = (ciF (coS s)).2.n 1 ∧ (coN s).y 1 = (ciF (coS s)).2.y 1 := ⟨by kernel_rfl, by kernel_rfl, by kernel_rfl, by kernel_rfl, by kernel_rfl, by kernel_rfl⟩

def coMu (s : SV) : Nat := (s.x.i 1 - s.x.i 0).toNat

theorem co_go (s : SV) (hp : ∀ b ∈ [coB s], b = true) :
    (coT s).ok ∧ (∀ k s', (coT s).pick = .out k s' → k < 1) ∧ ∀ s', (coT s).pick = .next s' → (∀ b ∈ [coB s'], b = true) ∧ coMu s' < coMu s := by
  have hP := coB_of (hp _ (List.mem_cons_self ..))
  have hP' := hP
  obtain ⟨i1, i2, i3, i4, i5, i6, i7⟩ := hP
  cases hc : (decide ((s.x.i 0) < (s.x.i 1))) with
  | false =>
    have hk : (coT s).pick = .out 0 (coE s) := by unfold coT; rw [hc]; rfl
    refine ⟨?_, fun k s' h => ?_, fun s' h => ?_⟩
    · unfold coT
      exact ⟨allN, (fun h => by rw [hc] at h; cases h), (fun _ b hb => by cases hb)⟩
    · rw [hk] at h; cases h; decide
    · rw [hk] at h; cases h
  | true =>
    have hlt := of_decide_eq_true hc
    (try unfold ofN at hlt)
    obtain ⟨hci, g0, g1, g2, g3, g4, _, _⟩ := coS_P s hP' hlt
    have hk : (coT s).pick = .next (coN s) := by unfold coT; rw [hc]; rfl
    refine ⟨?_, fun k s' h => ?_, fun s' h => ?_⟩
    · unfold coT
      exact ⟨allN, (fun _ => (allC (andT (decide_eq_true (by unfold iadd; omega)) (decide_eq_true (by unfold iadd; omega))) (allC (ciB_to hci) allN))), (fun h => by rw [hc] at h; cases h)⟩
    · rw [hk] at h; cases h
    · rw [hk] at h
      cases h
      refine ⟨fun b hb => ?_, ?_⟩
      · rw [List.mem_singleton.1 hb]
        refine coB_to ?_
        obtain ⟨e0, e1, e2, l0, n1, _⟩ := coN_k s
        unfold iadd at e0
        refine ⟨by omega, by omega, by omega, by omega, by omega, ?_, by omega⟩
        rw [l0, g3, e2, g2, e0, g0, i6, show (s.x.i 0 + 1).toNat = (s.x.i 0).toNat + 1 by omega, Nat.mul_succ]
      · obtain ⟨e0, e1, _⟩ := coN_k s
        unfold iadd at e0
        unfold coMu
        omega

noncomputable def coF0 (s : SV) : Nat × SV := Go.Sim.runT coT (coMu s + 1) s

noncomputable def coF : SV → Nat × SV := Classical.choose (⟨coF0, rfl⟩ : ∃ f, f = coF0)

theorem coF_eq : coF = coF0 := Classical.choose_spec (⟨coF0, rfl⟩ : ∃ f, f = coF0)

noncomputable def coPre (s : SV) : List Bool := [coB s]

noncomputable def Hco : LTab := hookL 0 coL coPre coF Hci

theorem Hco_ok : HFun Try.prog 1 Hco 77 := by
  unfold Hco
  rw [coF_eq]
  exact HFun.loop G25_ok mixed (J := true) (n := 1000) (L := coL) (T := coT) (pre := coPre) (μ := coMu) Hci_ok (by kernel_rfl) (by decide) (by decide) co_t co_go

/-- The number of a plate's cell. -/
def cellAt (w j : Nat) : Nat := j % w + 8 * (j / w)

theorem co_yes (s : SV) (hP : coP s) (h0 : s.x.i 0 = 0) : (coF s).1 = 0 ∧ (coF s).2.len 0 = (s.x.i 2).toNat * (s.x.i 1).toNat ∧ (coF s).2.n 1 = (coF s).2.len 0 ∧
    ∀ j, j < (s.x.i 2).toNat * (s.x.i 1).toNat → ((coF s).2.y 1).i j = cellAt (s.x.i 2).toNat j := by
  rw [coF_eq]
  let P : SV → Prop := fun r => coP r ∧ r.x.i 1 = s.x.i 1 ∧ r.x.i 2 = s.x.i 2 ∧ ∀ j, j < r.len 0 → (r.y 1).i j = cellAt (s.x.i 2).toNat j
  have k1 : ∀ r, P r → r.x.i 0 < s.x.i 1 → (coT r).pick = .next (coN r) := fun r hr hlt => by
    unfold coT
    rw [decide_eq_true (show r.x.i 0 < r.x.i 1 by have := hr.2.1; omega)]
    rfl
  have k2 : ∀ r, P r → r.x.i 0 < s.x.i 1 → (coN r).x.i 0 = r.x.i 0 + 1 ∧ P (coN r) := fun r hr hlt => by
    have hpk := k1 r hr hlt
    have hB : coB (coN r) = true := ((co_go r (allC (coB_to hr.1) allN)).2.2 _ hpk).1 _ (List.mem_cons_self ..)
    obtain ⟨hr1, q1, q2, q3⟩ := hr
    obtain ⟨hci, g0, g1, g2, g3, g4, g5, g6⟩ := coS_P r hr1 (by omega)
    obtain ⟨e0, e1, e2, l0, n1, y1⟩ := coN_k r
    obtain ⟨i1, i2, i3, i4, i5, i6, i7⟩ := hr1
    unfold iadd at e0
    refine ⟨by omega, coB_of hB, by omega, by omega, fun j hj => ?_⟩
    rw [y1]
    rw [l0, g3] at hj
    by_cases hlt2 : j < r.len 0
    · rw [g5 j hlt2]
      exact q3 j hlt2
    · have ht := g6 (j - r.len 0) (by omega)
      rw [show r.len 0 + (j - r.len 0) = j by omega] at ht
      rw [ht]
      have hj2 : j = (s.x.i 2).toNat * (r.x.i 0).toNat + (j - r.len 0) := by rw [← q2, ← i6]; omega
      unfold cellAt
      have hm : j % (s.x.i 2).toNat = j - r.len 0 := by
        rw [hj2, Nat.mul_add_mod, Nat.mod_eq_of_lt (by omega)]
        omega
      have hd : j / (s.x.i 2).toNat = (r.x.i 0).toNat := by
        rw [hj2, Nat.mul_add_div (by omega), Nat.div_eq_of_lt (by omega)]
        rfl
      rw [hm, hd]
      omega
  have k3 : ∀ r, P r → ¬ r.x.i 0 < s.x.i 1 → (coT r).pick = .out 0 (coE r) := fun r hr hlt => by
    unfold coT
    rw [decide_eq_false (show ¬ r.x.i 0 < r.x.i 1 by have := hr.2.1; omega)]
    rfl
  have hl0 : s.len 0 = 0 := by
    have := hP.2.2.2.2.2.1
    rw [h0] at this
    simpa using this
  obtain ⟨a, r, hr, hge, e⟩ := inv_run (T := coT) (N := coN) (E := coE) P (s.x.i 1) k1 k2 k3 (coMu s + 1) s ⟨hP, rfl, rfl, fun j hj => by omega⟩ (by unfold coMu; omega)
  have e' : (coF0 s).2 = coE r := e
  obtain ⟨hr1, q1, q2, q3⟩ := hr
  obtain ⟨i1, i2, i3, i4, i5, i6, i7⟩ := hr1
  have f1 : (coE r).len 0 = r.len 0 := by kernel_rfl
  have f2 : (coE r).n 1 = r.n 1 := by kernel_rfl
  have f3 : (coE r).y 1 = r.y 1 := by kernel_rfl
  rw [e', f1, f2, f3]
  have hx : r.x.i 0 = s.x.i 1 := by omega
  rw [hx, q2] at i6
  exact ⟨a, i6, i7, fun j hj => q3 j (by omega)⟩

def fCI : Frm := ⟨[.ptr 0 0], [.lit [.sc (.int .i8), .sc (.int .i8), .sc (.flt .f32), .sc (.flt .f32), .sc (.flt .f32), .sc (.flt .f32), .sc (.flt .f32), .sc (.flt .f32), .sc (.flt .f32), .sc (.flt .f32), .sc (.flt .f32), .sc (.flt .f32), .sc (.flt .f32), .sc (.flt .f32), .sc (.flt .f32), .sc (.flt .f32), .sc (.flt .f32), .sc (.flt .f32), .sc (.flt .f32), .sc (.flt .f32), .sc (.flt .f32), .sc (.flt .f32), .sc (.flt .f32), .sc (.flt .f32), .sc (.flt .f32), .sc (.flt .f32), .sc (.flt .f32), .sc (.flt .f32), .sc (.flt .f32), .sc (.flt .f32), .sc (.flt .f32), .sc (.flt .f32), .sc (.flt .f32), .sc (.flt .f32), .sc (.flt .f32), .sc (.flt .f32), .sc (.flt .f32), .sc (.flt .f32), .sc (.flt .f32), .sc (.flt .f32), .sc (.flt .f32), .sc (.flt .f32), .sc (.flt .f32), .sc (.flt .f32), .sc (.flt .f32), .sc (.flt .f32), .sc (.flt .f32), .sc (.flt .f32), .sc (.flt .f32), .sc (.flt .f32), .sc (.flt .f32), .sc (.flt .f32), .sc (.flt .f32), .sc (.flt .f32), .sc (.flt .f32), .sc (.flt .f32), .sc (.flt .f32), .sc (.flt .f32), .sc (.flt .f32), .sc (.flt .f32), .sc (.flt .f32), .sc (.flt .f32), .sc (.flt .f32), .sc (.flt .f32), .sc (.flt .f32), .sc (.flt .f32)] false]⟩
def fCO : Frm := ⟨[.ssl 1 0 1], [.lit [.sc (.int .i8), .sc (.int .i8), .sc (.flt .f32), .sc (.flt .f32), .sc (.flt .f32), .sc (.flt .f32), .sc (.flt .f32), .sc (.flt .f32), .sc (.flt .f32), .sc (.flt .f32), .sc (.flt .f32), .sc (.flt .f32), .sc (.flt .f32), .sc (.flt .f32), .sc (.flt .f32), .sc (.flt .f32), .sc (.flt .f32), .sc (.flt .f32), .sc (.flt .f32), .sc (.flt .f32), .sc (.flt .f32), .sc (.flt .f32), .sc (.flt .f32), .sc (.flt .f32), .sc (.flt .f32), .sc (.flt .f32), .sc (.flt .f32), .sc (.flt .f32), .sc (.flt .f32), .sc (.flt .f32), .sc (.flt .f32), .sc (.flt .f32), .sc (.flt .f32), .sc (.flt .f32), .sc (.flt .f32), .sc (.flt .f32), .sc (.flt .f32), .sc (.flt .f32), .sc (.flt .f32), .sc (.flt .f32), .sc (.flt .f32), .sc (.flt .f32), .sc (.flt .f32), .sc (.flt .f32), .sc (.flt .f32), .sc (.flt .f32), .sc (.flt .f32), .sc (.flt .f32), .sc (.flt .f32), .sc (.flt .f32), .sc (.flt .f32), .sc (.flt .f32), .sc (.flt .f32), .sc (.flt .f32), .sc (.flt .f32), .sc (.flt .f32), .sc (.flt .f32), .sc (.flt .f32), .sc (.flt .f32), .sc (.flt .f32), .sc (.flt .f32), .sc (.flt .f32), .sc (.flt .f32), .sc (.flt .f32), .sc (.flt .f32), .sc (.flt .f32)] false, .sym (.int .i64) true]⟩

noncomputable def ceS (s : SV) : SV := (mkSV [(.int .i64 0), (.sint .i64 (s.x.i 1)), (.sint .i8 (s.x.i 0)), (.sint .i8 (s.x.i 1)), (.flt .f32 (s.x.u 2)), (.flt .f32 (s.x.u 3)), (.flt .f32 (s.x.u 4)), (.flt .f32 (s.x.u 5)), (.flt .f32 (s.x.u 6)), (.flt .f32 (s.x.u 7)), (.flt .f32 (s.x.u 8)), (.flt .f32 (s.x.u 9)), (.flt .f32 (s.x.u 10)), (.flt .f32 (s.x.u 11)), (.flt .f32 (s.x.u 12)), (.flt .f32 (s.x.u 13)), (.flt .f32 (s.x.u 14)), (.flt .f32 (s.x.u 15)), (.flt .f32 (s.x.u 16)), (.flt .f32 (s.x.u 17)), (.flt .f32 (s.x.u 18)), (.flt .f32 (s.x.u 19)), (.flt .f32 (s.x.u 20)), (.flt .f32 (s.x.u 21)), (.flt .f32 (s.x.u 22)), (.flt .f32 (s.x.u 23)), (.flt .f32 (s.x.u 24)), (.flt .f32 (s.x.u 25)), (.flt .f32 (s.x.u 26)), (.flt .f32 (s.x.u 27)), (.flt .f32 (s.x.u 28)), (.flt .f32 (s.x.u 29)), (.flt .f32 (s.x.u 30)), (.flt .f32 (s.x.u 31)), (.flt .f32 (s.x.u 32)), (.flt .f32 (s.x.u 33)), (.flt .f32 (s.x.u 34)), (.flt .f32 (s.x.u 35)), (.flt .f32 (s.x.u 36)), (.flt .f32 (s.x.u 37)), (.flt .f32 (s.x.u 38)), (.flt .f32 (s.x.u 39)), (.flt .f32 (s.x.u 40)), (.flt .f32 (s.x.u 41)), (.flt .f32 (s.x.u 42)), (.flt .f32 (s.x.u 43)), (.flt .f32 (s.x.u 44)), (.flt .f32 (s.x.u 45)), (.flt .f32 (s.x.u 46)), (.flt .f32 (s.x.u 47)), (.flt .f32 (s.x.u 48)), (.flt .f32 (s.x.u 49)), (.flt .f32 (s.x.u 50)), (.flt .f32 (s.x.u 51)), (.flt .f32 (s.x.u 52)), (.flt .f32 (s.x.u 53)), (.flt .f32 (s.x.u 54)), (.flt .f32 (s.x.u 55)), (.flt .f32 (s.x.u 56)), (.flt .f32 (s.x.u 57)), (.flt .f32 (s.x.u 58)), (.flt .f32 (s.x.u 59)), (.flt .f32 (s.x.u 60)), (.flt .f32 (s.x.u 61)), (.flt .f32 (s.x.u 62)), (.flt .f32 (s.x.u 63)), (.flt .f32 (s.x.u 64)), (.flt .f32 (s.x.u 65))] [0] [0, 0] [zeroV, (varsOf [])])

noncomputable def ceR0 (s : SV) : SV := (mkSV [(.sint .i8 ((coF (ceS s)).2.x.i 0)), (.sint .i8 ((coF (ceS s)).2.x.i 1)), (.flt .f32 ((coF (ceS s)).2.x.u 2)), (.flt .f32 ((coF (ceS s)).2.x.u 3)), (.flt .f32 ((coF (ceS s)).2.x.u 4)), (.flt .f32 ((coF (ceS s)).2.x.u 5)), (.flt .f32 ((coF (ceS s)).2.x.u 6)), (.flt .f32 ((coF (ceS s)).2.x.u 7)), (.flt .f32 ((coF (ceS s)).2.x.u 8)), (.flt .f32 ((coF (ceS s)).2.x.u 9)), (.flt .f32 ((coF (ceS s)).2.x.u 10)), (.flt .f32 ((coF (ceS s)).2.x.u 11)), (.flt .f32 ((coF (ceS s)).2.x.u 12)), (.flt .f32 ((coF (ceS s)).2.x.u 13)), (.flt .f32 ((coF (ceS s)).2.x.u 14)), (.flt .f32 ((coF (ceS s)).2.x.u 15)), (.flt .f32 ((coF (ceS s)).2.x.u 16)), (.flt .f32 ((coF (ceS s)).2.x.u 17)), (.flt .f32 ((coF (ceS s)).2.x.u 18)), (.flt .f32 ((coF (ceS s)).2.x.u 19)), (.flt .f32 ((coF (ceS s)).2.x.u 20)), (.flt .f32 ((coF (ceS s)).2.x.u 21)), (.flt .f32 ((coF (ceS s)).2.x.u 22)), (.flt .f32 ((coF (ceS s)).2.x.u 23)), (.flt .f32 ((coF (ceS s)).2.x.u 24)), (.flt .f32 ((coF (ceS s)).2.x.u 25)), (.flt .f32 ((coF (ceS s)).2.x.u 26)), (.flt .f32 ((coF (ceS s)).2.x.u 27)), (.flt .f32 ((coF (ceS s)).2.x.u 28)), (.flt .f32 ((coF (ceS s)).2.x.u 29)), (.flt .f32 ((coF (ceS s)).2.x.u 30)), (.flt .f32 ((coF (ceS s)).2.x.u 31)), (.flt .f32 ((coF (ceS s)).2.x.u 32)), (.flt .f32 ((coF (ceS s)).2.x.u 33)), (.flt .f32 ((coF (ceS s)).2.x.u 34)), (.flt .f32 ((coF (ceS s)).2.x.u 35)), (.flt .f32 ((coF (ceS s)).2.x.u 36)), (.flt .f32 ((coF (ceS s)).2.x.u 37)), (.flt .f32 ((coF (ceS s)).2.x.u 38)), (.flt .f32 ((coF (ceS s)).2.x.u 39)), (.flt .f32 ((coF (ceS s)).2.x.u 40)), (.flt .f32 ((coF (ceS s)).2.x.u 41)), (.flt .f32 ((coF (ceS s)).2.x.u 42)), (.flt .f32 ((coF (ceS s)).2.x.u 43)), (.flt .f32 ((coF (ceS s)).2.x.u 44)), (.flt .f32 ((coF (ceS s)).2.x.u 45)), (.flt .f32 ((coF (ceS s)).2.x.u 46)), (.flt .f32 ((coF (ceS s)).2.x.u 47)), (.flt .f32 ((coF (ceS s)).2.x.u 48)), (.flt .f32 ((coF (ceS s)).2.x.u 49)), (.flt .f32 ((coF (ceS s)).2.x.u 50)), (.flt .f32 ((coF (ceS s)).2.x.u 51)), (.flt .f32 ((coF (ceS s)).2.x.u 52)), (.flt .f32 ((coF (ceS s)).2.x.u 53)), (.flt .f32 ((coF (ceS s)).2.x.u 54)), (.flt .f32 ((coF (ceS s)).2.x.u 55)), (.flt .f32 ((coF (ceS s)).2.x.u 56)), (.flt .f32 ((coF (ceS s)).2.x.u 57)), (.flt .f32 ((coF (ceS s)).2.x.u 58)), (.flt .f32 ((coF (ceS s)).2.x.u 59)), (.flt .f32 ((coF (ceS s)).2.x.u 60)), (.flt .f32 ((coF (ceS s)).2.x.u 61)), (.flt .f32 ((coF (ceS s)).2.x.u 62)), (.flt .f32 ((coF (ceS s)).2.x.u 63)), (.flt .f32 ((coF (ceS s)).2.x.u 64)), (.flt .f32 ((coF (ceS s)).2.x.u 65))] [((coF (ceS s)).2.len 0)] [0, ((coF (ceS s)).2.n 1)] [zeroV, ((coF (ceS s)).2.y 1)])

noncomputable def ceR : SV → SV := Classical.choose (⟨ceR0, rfl⟩ : ∃ f, f = ceR0)

theorem ceR_eq : ceR = ceR0 := Classical.choose_spec (⟨ceR0, rfl⟩ : ∃ f, f = ceR0)

theorem ce_q (s : SV) : funT Try.prog G25 Hco true 1000 77 1 [fCO] (mkVs s 0 0 fCI.vals) (mkM fCI s) [] = some (.out 0 (ceR0 s) [(coB (ceS s))]) := by kernel_rfl

def ceP (s : SV) : Prop := 1 ≤ s.x.i 0 ∧ s.x.i 0 ≤ 8 ∧ 1 ≤ s.x.i 1 ∧ s.x.i 1 ≤ 8

noncomputable def ceB (s : SV) : Bool := @decide (ceP s) (Classical.propDecidable _)
theorem ceB_of {s : SV} (h : ceB s = true) : ceP s := @of_decide_eq_true _ (Classical.propDecidable _) h
theorem ceB_to {s : SV} (h : ceP s) : ceB s = true := @decide_eq_true _ (Classical.propDecidable _) h

noncomputable def cePre (s : SV) : List Bool := [ceB s]
noncomputable def GCE : Summ := addG 77 (sumW fCI fCO cePre ceR) G25

theorem ceS_P (s : SV) (h : ceP s) : coP (ceS s) := by
  obtain ⟨q1, q2, q3, q4⟩ := h
  have a0 : (ceS s).x.i 0 = 0 := by kernel_rfl
  have a1 : (ceS s).x.i 1 = s.x.i 1 := by kernel_rfl
  have a2 : (ceS s).x.i 2 = s.x.i 0 := by kernel_rfl
  have a3 : (ceS s).len 0 = 0 := by kernel_rfl
  have a4 : (ceS s).n 1 = 0 := by kernel_rfl
  refine ⟨by omega, by omega, by omega, by omega, by omega, ?_, by omega⟩
  rw [a3, a0]
  rfl

theorem ceR_f (s : SV) (h : ceP s) : (ceR s).len 0 = (s.x.i 0).toNat * (s.x.i 1).toNat ∧ (ceR s).n 1 = (ceR s).len 0 ∧ ∀ j, j < (s.x.i 0).toNat * (s.x.i 1).toNat → ((ceR s).y 1).i j = cellAt (s.x.i 0).toNat j := by
  rw [ceR_eq]
  have a1 : (ceS s).x.i 1 = s.x.i 1 := by kernel_rfl
  have a2 : (ceS s).x.i 2 = s.x.i 0 := by kernel_rfl
  obtain ⟨_, f1, f2, f3⟩ := co_yes (ceS s) (ceS_P s h) (by kernel_rfl)
  rw [a1, a2] at f1 f3
  exact ⟨(show (ceR0 s).len 0 = (coF (ceS s)).2.len 0 from by kernel_rfl).trans f1, (show (ceR0 s).n 1 = (coF (ceS s)).2.n 1 from by kernel_rfl).trans (f2.trans (show (coF (ceS s)).2.len 0 = (ceR0 s).len 0 from by kernel_rfl)), fun j hj => (congrArg (fun v : Vars => v.i j) (show (ceR0 s).y 1 = (coF (ceS s)).2.y 1 from by kernel_rfl)).trans (f3 j hj)⟩

theorem GCE_ok : SoundG Try.prog GCE := by
  unfold GCE
  rw [ceR_eq]
  refine SoundG.sumW G25_ok mixed Try.call77 G25_ok (by decide) fun s hp => ?_
  have h := ceB_of (hp _ (List.mem_cons_self ..))
  have hP := ceS_P s h
  exact ⟨Hco, true, 1000, [], _, [fCO], 0, Hco_ok, ce_q s, (show ∀ b ∈ ([(coB (ceS s))] : List Bool), b = true from (allC (coB_to hP) allN)), rfl, rfl⟩

end Go.Proofs.Ytigcbcaknhhgmaa

/-
  Facts of this seat that its laws use; no conditions.
-/
import Derived.Test.YtigcbcaknhhgmaaCells
namespace Go.Proofs.Ytigcbcaknhhgmaa
open Go.Sim Go.ChangeShapes Go.WideShapes Go.ChangeAt Go.RowKit

/-- The sum of some numbers, from the first one on. -/
noncomputable def sumF (f : Nat → Nat) : Nat → Nat
  | 0 => 0
  | n + 1 => bif Nat.beq n 0 then f 0 else farith .add .f32 (sumF f n) (f n)

/-- .. of a plate's cells. -/
noncomputable def foldF (c : Nat → Nat) (w h : Nat) : Nat → Nat
  | 0 => 0
  | i + 1 => bif (Nat.blt (i % 8) w && Nat.blt (i / 8) h) then (bif Nat.beq i 0 then c 0 else farith .add .f32 (foldF c w h i) (c i)) else foldF c w h i

theorem sumF_congr {f g : Nat → Nat} : ∀ {n : Nat}, (∀ j, j < n → f j = g j) → sumF f n = sumF g n
  | 0, _ => rfl
  | n + 1, h => by
    simp only [sumF]
    rw [sumF_congr fun j hj => h j (Nat.lt_succ_of_lt hj), h n (Nat.lt_succ_self n)]
    cases n with
    | zero => rw [h 0 (Nat.lt_succ_self 0)]
    | succ n => rfl


noncomputable def suL : LP := { A := 1, ts := [8, 7, 3, 6], F := ⟨[.sc (.int .i64), .sc (.int .i64), .sc (.flt .f32), .ssl 0 0 1], [.sym (.flt .f32) false]⟩, xs := [(.exit 0, [3], ⟨[.sc (.flt .f32)], [.sym (.flt .f32) false]⟩)] }

noncomputable def suN (s : SV) : SV := (mkSV [(.sint .i64 (iadd (s.x.i 0) 1)), (.sint .i64 (s.x.i 1)), (.flt .f32 (bif (decide ((s.x.i 0) = 0)) then ((s.y 0).u (padd 0 (pmul (itn (s.x.i 0)) 1))) else (farith .add .f32 (s.x.u 2) ((s.y 0).u (padd 0 (pmul (itn (s.x.i 0)) 1))))))] [(s.len 0)] [(s.n 0)] [(s.y 0)])
noncomputable def suE (s : SV) : SV := (mkSV [(.flt .f32 (s.x.u 2))] [] [(s.n 0)] [(s.y 0)])

noncomputable def suT (s : SV) : Tr := .node [] (decide ((s.x.i 0) < (s.x.i 1))) (.next (suN s) [((decide ((-(9223372036854775807 + 1)) ≤ (iadd (s.x.i 0) 1))) && (decide ((iadd (s.x.i 0) 1) ≤ 9223372036854775807))), (decide ((padd 0 (pmul (itn (s.x.i 0)) 1)) < (s.n 0))), (decide (0 ≤ (s.x.i 0))), (decide ((s.x.i 0) < (s.len 0)))]) (.out 0 (suE s) [])

theorem su_t (s : SV) : Go.Sim.stepT Try.prog GCE (ntOf Try.prog 78) noLT true 1000 suL (loopOf Try.prog 78 0) s = some (suT s) := by kernel_rfl

def suP (s : SV) : Prop := 0 ≤ s.x.i 0 ∧ s.x.i 0 ≤ s.x.i 1 ∧ s.x.i 1 = s.len 0 ∧ s.len 0 ≤ 1000 ∧ s.n 0 = s.len 0

noncomputable def suB (s : SV) : Bool := @decide (suP s) (Classical.propDecidable _)
theorem suB_of {s : SV} (h : suB s = true) : suP s := @of_decide_eq_true _ (Classical.propDecidable _) h
theorem suB_to {s : SV} (h : suP s) : suB s = true := @decide_eq_true _ (Classical.propDecidable _) h

theorem suN_k (s : SV) : (suN s).x.i 0 = iadd (s.x.i 0) 1 ∧ (suN s).x.i 1 = s.x.i 1 ∧ (suN s).len 0 = s.len 0 ∧ (suN s).n 0 = s.n 0 ∧ (suN s).y 0 = s.y 0 ∧ (suN s).x.u 2 = (bif (decide ((s.x.i 0) = 0)) then ((s.y 0).u (padd 0 (pmul (itn (s.x.i 0)) 1))) else (farith .add .f32 (s.x.u 2) ((s.y 0).u (padd 0 (pmul (itn (s.x.i 0)) 1))))) := ⟨by kernel_rfl, by kernel_rfl, by kernel_rfl, by kernel_rfl, by kernel_rfl, by kernel_rfl⟩

def suMu (s : SV) : Nat := (s.x.i 1 - s.x.i 0).toNat

theorem su_go (s : SV) (hp : ∀ b ∈ [suB s], b = true) :
    (suT s).ok ∧ (∀ k s', (suT s).pick = .out k s' → k < 1) ∧ ∀ s', (suT s).pick = .next s' → (∀ b ∈ [suB s'], b = true) ∧ suMu s' < suMu s := by
  have hP := suB_of (hp _ (List.mem_cons_self ..))
  have hP' := hP
  obtain ⟨i1, i2, i3, i4, i5⟩ := hP
  cases hc : (decide ((s.x.i 0) < (s.x.i 1))) with
  | false =>
    have hk : (suT s).pick = .out 0 (suE s) := by unfold suT; rw [hc]; rfl
    refine ⟨?_, fun k s' h => ?_, fun s' h => ?_⟩
    · unfold suT
      exact ⟨allN, (fun h => by rw [hc] at h; cases h), (fun _ b hb => by cases hb)⟩
    · rw [hk] at h; cases h; decide
    · rw [hk] at h; cases h
  | true =>
    have hlt := of_decide_eq_true hc
    (try unfold ofN at hlt)
    have hk : (suT s).pick = .next (suN s) := by unfold suT; rw [hc]; rfl
    refine ⟨?_, fun k s' h => ?_, fun s' h => ?_⟩
    · unfold suT
      exact ⟨allN, (fun _ => (allC (andT (decide_eq_true (by unfold iadd; omega)) (decide_eq_true (by unfold iadd; omega))) (allC (decide_eq_true (by unfold padd pmul itn; omega)) (allC (decide_eq_true (by omega)) (allC (decide_eq_true (by omega)) allN))))), (fun h => by rw [hc] at h; cases h)⟩
    · rw [hk] at h; cases h
    · rw [hk] at h
      cases h
      refine ⟨fun b hb => ?_, ?_⟩
      · rw [List.mem_singleton.1 hb]
        refine suB_to ?_
        obtain ⟨e0, e1, l0, n0, _⟩ := suN_k s
        unfold iadd at e0
        exact ⟨by omega, by omega, by omega, by omega, by omega⟩
      · obtain ⟨e0, e1, _⟩ := suN_k s
        unfold iadd at e0
        unfold suMu
        omega

noncomputable def suF0 (s : SV) : Nat × SV := Go.Sim.runT suT (suMu s + 1) s

noncomputable def suF : SV → Nat × SV := Classical.choose (⟨suF0, rfl⟩ : ∃ f, f = suF0)

theorem suF_eq : suF = suF0 := Classical.choose_spec (⟨suF0, rfl⟩ : ∃ f, f = suF0)

noncomputable def suPre (s : SV) : List Bool := [suB s]

noncomputable def Hsu : LTab := hookL 0 suL suPre suF noLT

theorem Hsu_ok : HFun Try.prog 1 Hsu 78 := by
  unfold Hsu
  rw [suF_eq]
  exact HFun.loop GCE_ok mixed (J := true) (n := 1000) (L := suL) (T := suT) (pre := suPre) (μ := suMu) (HFun.none Try.prog 1 78) (by kernel_rfl) (by decide) (by decide) su_t su_go

theorem su_idx (k : Int) : padd 0 (pmul (itn k) 1) = k.toNat := by
  unfold padd pmul itn
  omega

theorem su_yes (s : SV) (hP : suP s) (h0 : s.x.i 0 = 0) (h2 : s.x.u 2 = 0) : (suF s).1 = 0 ∧ (suF s).2.x.u 0 = sumF (fun j => (s.y 0).u j) (s.len 0) := by
  rw [suF_eq]
  let P : SV → Prop := fun r => suP r ∧ r.x.i 1 = s.x.i 1 ∧ r.len 0 = s.len 0 ∧ r.y 0 = s.y 0 ∧ r.x.u 2 = sumF (fun j => (s.y 0).u j) (r.x.i 0).toNat
  have k1 : ∀ r, P r → r.x.i 0 < s.x.i 1 → (suT r).pick = .next (suN r) := fun r hr hlt => by
    unfold suT
    rw [decide_eq_true (show r.x.i 0 < r.x.i 1 by have := hr.2.1; omega)]
    rfl
  have k2 : ∀ r, P r → r.x.i 0 < s.x.i 1 → (suN r).x.i 0 = r.x.i 0 + 1 ∧ P (suN r) := fun r hr hlt => by
    have hpk := k1 r hr hlt
    have hB : suB (suN r) = true := ((su_go r (allC (suB_to hr.1) allN)).2.2 _ hpk).1 _ (List.mem_cons_self ..)
    obtain ⟨hr1, q1, q2, q3, q4⟩ := hr
    obtain ⟨e0, e1, l0, n0, y0, u2⟩ := suN_k r
    obtain ⟨i1, i2, i3, i4, i5⟩ := hr1
    unfold iadd at e0
    refine ⟨e0, suB_of hB, e1.trans q1, l0.trans q2, y0.trans q3, ?_⟩
    rw [u2, e0, show (r.x.i 0 + 1).toNat = (r.x.i 0).toNat + 1 by omega, su_idx, q3, q4]
    simp only [sumF]
    by_cases hz : r.x.i 0 = 0
    · rw [hz]
      rfl
    · rw [decide_eq_false hz, show Nat.beq (r.x.i 0).toNat 0 = false from Bool.eq_false_iff.2 fun hh => by have := Nat.eq_of_beq_eq_true hh; omega]
      rfl
  have k3 : ∀ r, P r → ¬ r.x.i 0 < s.x.i 1 → (suT r).pick = .out 0 (suE r) := fun r hr hlt => by
    unfold suT
    rw [decide_eq_false (show ¬ r.x.i 0 < r.x.i 1 by have := hr.2.1; omega)]
    rfl
  obtain ⟨a, r, hr, hge, e⟩ := inv_run (T := suT) (N := suN) (E := suE) P (s.x.i 1) k1 k2 k3 (suMu s + 1) s ⟨hP, rfl, rfl, rfl, by rw [h0]; exact h2⟩ (by unfold suMu; omega)
  have e' : (suF0 s).2 = suE r := e
  obtain ⟨hr1, q1, q2, q3, q4⟩ := hr
  obtain ⟨i1, i2, i3, i4, i5⟩ := hr1
  have f1 : (suE r).x.u 0 = r.x.u 2 := by kernel_rfl
  rw [e', f1, q4, show (r.x.i 0).toNat = s.len 0 by omega]
  exact ⟨a, rfl⟩

def fSU : Frm := ⟨[.ssl 0 0 1], [.sym (.flt .f32) false]⟩

noncomputable def suS (s : SV) : SV := (mkSV [(.int .i64 0), (.sint .i64 (ofN (s.len 0))), (.flt .f32 0)] [(s.len 0)] [(s.n 0)] [(s.y 0)])

theorem su_q (s : SV) : funH Try.prog GCE Hsu true 1000 78 (mkVs s 0 0 fSU.vals) (mkM fSU s) [] = some (.flt .f32 ((suF (suS s)).2.x.u 0), [(suB (suS s)), ((decide ((-(9223372036854775807 + 1)) ≤ (ofN (s.len 0)))) && (decide ((ofN (s.len 0)) ≤ 9223372036854775807)))]) := by kernel_rfl

def sumP2 (s : SV) : Prop := s.len 0 ≤ 1000 ∧ s.n 0 = s.len 0

noncomputable def sum2B (s : SV) : Bool := @decide (sumP2 s) (Classical.propDecidable _)
theorem sum2B_of {s : SV} (h : sum2B s = true) : sumP2 s := @of_decide_eq_true _ (Classical.propDecidable _) h
theorem sum2B_to {s : SV} (h : sumP2 s) : sum2B s = true := @decide_eq_true _ (Classical.propDecidable _) h

noncomputable def sum2Pre (s : SV) : List Bool := [sum2B s]

noncomputable def sum2R0 (s : SV) : Vars := varsOf [.flt .f32 (sumF (fun j => (s.y 0).u j) (s.len 0))]

noncomputable def sum2R : SV → Vars := Classical.choose (⟨sum2R0, rfl⟩ : ∃ f, f = sum2R0)

theorem sum2R_eq : sum2R = sum2R0 := Classical.choose_spec (⟨sum2R0, rfl⟩ : ∃ f, f = sum2R0)

noncomputable def G26 : Summ := inlGs Try.prog 1000 [78] GCE

theorem G26_ok : SoundG Try.prog G26 := by
  refine SoundG.inls mixed GCE_ok fun f hf => ?_
  simp only [List.mem_cons, List.not_mem_nil, or_false] at hf
  subst hf
  exact Try.call78

noncomputable def GSU : Summ := addO 78 (sumQ fSU [.sc (.flt .f32)] sum2Pre sum2R) G26

theorem GSU_ok : SoundG Try.prog GSU := by
  unfold GSU
  rw [sum2R_eq]
  refine SoundG.orO (SoundG.sumQ G26_ok mixed Try.call78 GCE_ok (by decide) fun s hp => ?_) G26_ok
  obtain ⟨q1, q2⟩ := sum2B_of (hp _ (List.mem_cons_self ..))
  have a0 : (suS s).x.i 0 = 0 := by kernel_rfl
  have a1 : (suS s).x.i 1 = s.len 0 := by kernel_rfl
  have a2 : (suS s).len 0 = s.len 0 := by kernel_rfl
  have a3 : (suS s).n 0 = s.n 0 := by kernel_rfl
  have a4 : (suS s).y 0 = s.y 0 := by kernel_rfl
  have hP : suP (suS s) := ⟨by omega, by omega, by omega, by omega, by omega⟩
  obtain ⟨f1, f2⟩ := su_yes (suS s) hP a0 (by kernel_rfl)
  rw [a2, a4] at f2
  exact ⟨Hsu, true, 1000, [], _, _, Hsu_ok, su_q s, congrArg (AV.flt .f32) f2, rfl, rfl, (allC (suB_to hP) (allC (andT (decide_eq_true (by unfold ofN; omega)) (decide_eq_true (by unfold ofN; omega))) allN))⟩

end Go.Proofs.Ytigcbcaknhhgmaa

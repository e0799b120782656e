/-
  Facts of this seat that its laws use; no conditions.
-/
import Derived.Test.YtekilpllicggeaaOven
namespace Go.Proofs.Ytekilpllicggeaa
open Go.Sim Go.ChangeShapes Go.WideShapes Go.ChangeAt Go.RowKit

/-- Whether an oven is as told. -/
noncomputable def rowOk (y : Vars) (k : Nat) : Bool := (ovenR [(.agg [(.flt .f32 (y.u (2 * k))), (.flt .f32 (y.u (2 * k + 1)))])]).b 0

theorem idx0 (c : Nat) (k : Int) : padd (padd 0 (pmul (itn k) 2)) c = 2 * k.toNat + c := by
  unfold padd pmul itn
  omega

/-- A loop that is left at the first row that is not as told. -/
theorem ask_run {T : SV → Tr} {N X E : SV → SV} (P : SV → Prop) (fk : Nat → Bool)
    (hp : ∀ s, P s → s.x.i 0 < s.len 0 → (T s).pick = (bif fk (s.x.i 0).toNat then .next (N s) else .out 1 (X s)))
    (hn : ∀ s, P s → (N s).x.i 0 = s.x.i 0 + 1 ∧ (N s).len 0 = s.len 0 ∧ P (N s))
    (he : ∀ s, P s → ¬ s.x.i 0 < s.len 0 → (T s).pick = .out 0 (E s)) :
    ∀ n s, P s → 0 ≤ s.x.i 0 → s.x.i 0 ≤ s.len 0 → ((s.len 0 : Int) - s.x.i 0).toNat < n →
      ((∀ j : Nat, s.x.i 0 ≤ j → j < s.len 0 → fk j = true) → (Go.Sim.runT T n s).1 = 0 ∧ ∃ r, P r ∧ (Go.Sim.runT T n s).2 = E r) ∧ ((¬ ∀ j : Nat, s.x.i 0 ≤ j → j < s.len 0 → fk j = true) → (Go.Sim.runT T n s).1 = 1) := by
  intro n
  induction n with
  | zero => intro s _ _ _ h; omega
  | succ n ih =>
    intro s hs h0 h1 h2
    simp only [Go.Sim.runT]
    by_cases hlt : s.x.i 0 < s.len 0
    · rw [hp s hs hlt]
      cases hf : fk (s.x.i 0).toNat with
      | false =>
        refine ⟨fun h => ?_, fun _ => rfl⟩
        have := h (s.x.i 0).toNat (by omega) (by omega)
        rw [hf] at this
        cases this
      | true =>
        obtain ⟨e0, e1, e2⟩ := hn s hs
        obtain ⟨g1, g2⟩ := ih (N s) e2 (by omega) (by omega) (by omega)
        refine ⟨fun h => g1 fun j hj hl => h j (by omega) (by omega), fun h => g2 fun h' => h fun j hj hl => ?_⟩
        by_cases hj2 : (j : Int) = s.x.i 0
        · rw [show j = (s.x.i 0).toNat by omega]; exact hf
        · exact h' j (by omega) (by omega)
    · rw [he s hs hlt]
      refine ⟨fun _ => ⟨rfl, s, hs, rfl⟩, fun h => absurd (fun j hj hl => ?_) h⟩
      omega

/-- Whether every oven is as told. -/
noncomputable def allOk (len : Nat) (y : Vars) : Bool := @decide (∀ j : Nat, j < len → rowOk y j = true) (Classical.propDecidable _)
theorem allOk_yes {len : Nat} {y : Vars} (h : ∀ j : Nat, j < len → rowOk y j = true) : allOk len y = true := @decide_eq_true _ (Classical.propDecidable _) h
theorem allOk_no {len : Nat} {y : Vars} (h : ¬ ∀ j : Nat, j < len → rowOk y j = true) : allOk len y = false := @decide_eq_false _ (Classical.propDecidable _) h
/-- The code of many ovens. -/
noncomputable def ovC (len : Nat) (y : Vars) : Int := bif allOk len y then 2 else 1

noncomputable def oSL : LP := { A := 1, ts := [5, 0, 1], F := ⟨[.sc (.int .i64), .ssl 0 0 2, .sc .bool], [.sym (.flt .f32) false]⟩, xs := [(.exit 0, [0, 1], ⟨[.ssl 0 0 2, .sc .bool], [.sym (.flt .f32) false]⟩), (.ret, [4], ⟨[.cst (.int .i64 1)], [.sym (.flt .f32) false]⟩)] }

noncomputable def oIL : LP := { A := 1, ts := [9, 8, 7, 0, 1], F := ⟨[.sc (.int .i64), .sc (.int .i64), .ssl 0 0 2, .ssl 0 0 2, .sc .bool], [.sym (.flt .f32) false]⟩, xs := [(.exit 0, [0, 1], ⟨[.ssl 0 0 2, .sc .bool], [.sym (.flt .f32) false]⟩), (.ret, [4], ⟨[.cst (.int .i64 1)], [.sym (.flt .f32) false]⟩)] }

noncomputable def oS_v_0 (s : SV) : Vars := (ovenR [(.agg [(.flt .f32 ((s.y 0).u (padd (padd 0 (pmul (itn (s.x.i 0)) 2)) 0))), (.flt .f32 ((s.y 0).u (padd (padd 0 (pmul (itn (s.x.i 0)) 2)) 1)))])])

noncomputable def oSN (s : SV) : SV := (mkSV [(.sint .i64 (iadd (s.x.i 0) 1)), (.sbool (s.x.b 1))] [(s.len 0)] [(s.n 0)] [(s.y 0)])

noncomputable def oSX (s : SV) : SV := (mkSV [] [] [(s.n 0)] [(s.y 0)])

noncomputable def oSE (s : SV) : SV := (mkSV [(.sbool (s.x.b 1))] [(s.len 0)] [(s.n 0)] [(s.y 0)])

noncomputable def oST (s : SV) : Tr := .node [((decide ((-(9223372036854775807 + 1)) ≤ (ofN (s.len 0)))) && (decide ((ofN (s.len 0)) ≤ 9223372036854775807)))] (decide ((s.x.i 0) < (ofN (s.len 0)))) (.node [(decide ((padd (padd 0 (pmul (itn (s.x.i 0)) 2)) 2) ≤ (s.n 0))), (decide (0 ≤ (s.x.i 0))), (decide ((s.x.i 0) < (s.len 0)))] (!((oS_v_0 s).b 0)) (.out 1 (oSX s) []) (.next (oSN s) [((decide ((-(9223372036854775807 + 1)) ≤ (iadd (s.x.i 0) 1))) && (decide ((iadd (s.x.i 0) 1) ≤ 9223372036854775807)))])) (.out 0 (oSE s) [])

theorem oS_t (s : SV) : Go.Sim.stepT Try.prog G15 (ntOf Try.prog 63) noLT true 1000 oSL (loopOf Try.prog 63 0) s = some (oST s) := by kernel_rfl

def oSP (s : SV) : Prop := 0 ≤ s.x.i 0 ∧ s.x.i 0 ≤ s.len 0 ∧ s.len 0 ≤ 1048576 ∧ s.n 0 = 2 * s.len 0

noncomputable def oSB (s : SV) : Bool := @decide (oSP s) (Classical.propDecidable _)
theorem oSB_of {s : SV} (h : oSB s = true) : oSP s := @of_decide_eq_true _ (Classical.propDecidable _) h
theorem oSB_to {s : SV} (h : oSP s) : oSB s = true := @decide_eq_true _ (Classical.propDecidable _) h

theorem oSN_k (s : SV) : (oSN s).x.i 0 = iadd (s.x.i 0) 1 ∧ (oSN s).len 0 = s.len 0 ∧ (oSN s).n 0 = s.n 0 ∧ (oSN s).y 0 = s.y 0 := ⟨by kernel_rfl, by kernel_rfl, by kernel_rfl, by kernel_rfl⟩

def oSMu (s : SV) : Nat := ((s.len 0 : Int) - s.x.i 0).toNat

theorem oS_row (s : SV) : (oS_v_0 s).b 0 = rowOk (s.y 0) (s.x.i 0).toNat := by
  unfold rowOk oS_v_0
  rw [idx0, idx0, Nat.add_zero]

theorem oS_pick (s : SV) (hlt : (decide ((s.x.i 0) < (ofN (s.len 0)))) = true) : (oST s).pick = (bif rowOk (s.y 0) (s.x.i 0).toNat then .next (oSN s) else .out 1 (oSX s)) := by
  unfold oST
  rw [hlt, oS_row]
  cases rowOk (s.y 0) (s.x.i 0).toNat <;> rfl

theorem oS_go (s : SV) (hp : ∀ b ∈ [oSB s], b = true) :
    (oST s).ok ∧ (∀ k s', (oST s).pick = .out k s' → k < 2) ∧ ∀ s', (oST s).pick = .next s' → (∀ b ∈ [oSB s'], b = true) ∧ oSMu s' < oSMu s := by
  obtain ⟨i1, i2, i3, i4⟩ := oSB_of (hp _ (List.mem_cons_self ..))
  cases hc : (decide ((s.x.i 0) < (ofN (s.len 0)))) with
  | false =>
    have hk : (oST s).pick = .out 0 (oSE s) := by unfold oST; rw [hc]; rfl
    refine ⟨?_, fun k s' h => ?_, fun s' h => ?_⟩
    · unfold oST
      exact ⟨(allC (andT (decide_eq_true (by unfold ofN; omega)) (decide_eq_true (by unfold ofN; omega))) allN), (fun h => by rw [hc] at h; cases h), (fun _ b hb => by cases hb)⟩
    · rw [hk] at h; cases h; decide
    · rw [hk] at h; cases h
  | true =>
    have hlt := of_decide_eq_true hc
    (try unfold ofN at hlt)
    refine ⟨?_, fun k s' h => ?_, fun s' h => ?_⟩
    · unfold oST
      exact ⟨(allC (andT (decide_eq_true (by unfold ofN; omega)) (decide_eq_true (by unfold ofN; omega))) allN), (fun _ => ⟨(allC (decide_eq_true (by unfold padd pmul itn; omega)) (allC (decide_eq_true (by omega)) (allC (decide_eq_true (by omega)) allN))), (fun _ b hb => by cases hb), (fun _ => (allC (andT (decide_eq_true (by unfold iadd; omega)) (decide_eq_true (by unfold iadd; omega))) allN))⟩), (fun h => by rw [hc] at h; cases h)⟩
    · rw [oS_pick s hc] at h
      cases hr : rowOk (s.y 0) (s.x.i 0).toNat with
      | false => rw [hr] at h; cases h; decide
      | true => rw [hr] at h; cases h
    · rw [oS_pick s hc] at h
      cases hr : rowOk (s.y 0) (s.x.i 0).toNat with
      | false => rw [hr] at h; cases h
      | true =>
        rw [hr] at h
        cases h
        obtain ⟨e0, l0, n0, y0⟩ := oSN_k s
        unfold iadd at e0
        refine ⟨fun b hb => ?_, by unfold oSMu; omega⟩
        rw [List.mem_singleton.1 hb]
        exact oSB_to ⟨by omega, by omega, by omega, by omega⟩

noncomputable def oSF0 (s : SV) : Nat × SV := Go.Sim.runT oST (oSMu s + 1) s

noncomputable def oSF : SV → Nat × SV := Classical.choose (⟨oSF0, rfl⟩ : ∃ f, f = oSF0)

theorem oSF_eq : oSF = oSF0 := Classical.choose_spec (⟨oSF0, rfl⟩ : ∃ f, f = oSF0)

noncomputable def oSPre (s : SV) : List Bool := [oSB s]

noncomputable def HoS : LTab := hookL 0 oSL oSPre oSF noLT

theorem HoS_ok : HFun Try.prog 1 HoS 63 := by
  unfold HoS
  rw [oSF_eq]
  exact HFun.loop G15_ok mixed (J := true) (n := 1000) (L := oSL) (T := oST) (pre := oSPre) (μ := oSMu) (HFun.none Try.prog 1 63) (by kernel_rfl) (by decide) (by decide) oS_t oS_go

theorem oS_yes (s : SV) (hP : oSP s) :
    ((∀ j : Nat, s.x.i 0 ≤ j → j < s.len 0 → rowOk (s.y 0) j = true) → (oSF s).1 = 0 ∧ (oSF s).2.len 0 = s.len 0) ∧ ((¬ ∀ j : Nat, s.x.i 0 ≤ j → j < s.len 0 → rowOk (s.y 0) j = true) → (oSF s).1 = 1) := by
  rw [oSF_eq]
  obtain ⟨i1, i2, i3, i4⟩ := hP
  have K := ask_run (T := oST) (N := oSN) (X := oSX) (E := oSE) (fun r => r.y 0 = s.y 0 ∧ r.len 0 = s.len 0) (rowOk (s.y 0)) (fun r hr hlt => ?_) (fun r hr => ?_) (fun r hr hlt => ?_) (oSMu s + 1) s ⟨rfl, rfl⟩ i1 i2 (Nat.lt_succ_self _)
  · refine ⟨fun h => ?_, K.2⟩
    obtain ⟨k1, r, k2, k3⟩ := K.1 h
    refine ⟨k1, ?_⟩
    have e' : (oSF0 s).2 = oSE r := k3
    rw [e']
    exact (show (oSE r).len 0 = r.len 0 from by kernel_rfl).trans k2.2
  · have hy := hr.1
    rw [← hy]
    exact oS_pick r (decide_eq_true (show r.x.i 0 < ofN (r.len 0) from hlt))
  · obtain ⟨e0, l0, n0, y0⟩ := oSN_k r
    unfold iadd at e0
    exact ⟨e0, l0, ⟨y0.trans hr.1, l0.trans hr.2⟩⟩
  · unfold oST
    rw [decide_eq_false (show ¬ r.x.i 0 < ofN (r.len 0) from hlt)]
    rfl

noncomputable def oI_v_0 (s : SV) : Vars := (ovenR [(.agg [(.flt .f32 ((s.y 0).u (padd (padd 0 (pmul (itn (s.x.i 0)) 2)) 0))), (.flt .f32 ((s.y 0).u (padd (padd 0 (pmul (itn (s.x.i 0)) 2)) 1)))])])

noncomputable def oIN (s : SV) : SV := (mkSV [(.sint .i64 (iadd (s.x.i 0) 1)), (.sint .i64 (s.x.i 1)), (.sbool (s.x.b 2))] [(s.len 0), (s.len 1)] [(s.n 0)] [(s.y 0)])

noncomputable def oIX (s : SV) : SV := (mkSV [] [] [(s.n 0)] [(s.y 0)])

noncomputable def oIE (s : SV) : SV := (mkSV [(.sbool (s.x.b 2))] [(s.len 1)] [(s.n 0)] [(s.y 0)])

noncomputable def oIT (s : SV) : Tr := .node [] (decide ((s.x.i 0) < (s.x.i 1))) (.node [(decide ((padd (padd 0 (pmul (itn (s.x.i 0)) 2)) 2) ≤ (s.n 0))), (decide (0 ≤ (s.x.i 0))), (decide ((s.x.i 0) < (s.len 0)))] (!((oI_v_0 s).b 0)) (.out 1 (oIX s) []) (.next (oIN s) [((decide ((-(9223372036854775807 + 1)) ≤ (iadd (s.x.i 0) 1))) && (decide ((iadd (s.x.i 0) 1) ≤ 9223372036854775807)))])) (.out 0 (oIE s) [])

theorem oI_t (s : SV) : Go.Sim.stepT Try.prog G15 (ntOf Try.prog 68) noLT true 1000 oIL (loopOf Try.prog 68 0) s = some (oIT s) := by kernel_rfl

def oIP (s : SV) : Prop := 0 ≤ s.x.i 0 ∧ s.x.i 0 ≤ s.len 0 ∧ s.len 0 ≤ 1048576 ∧ s.n 0 = 2 * s.len 0 ∧ s.x.i 1 = s.len 0 ∧ s.len 1 = s.len 0

noncomputable def oIB (s : SV) : Bool := @decide (oIP s) (Classical.propDecidable _)
theorem oIB_of {s : SV} (h : oIB s = true) : oIP s := @of_decide_eq_true _ (Classical.propDecidable _) h
theorem oIB_to {s : SV} (h : oIP s) : oIB s = true := @decide_eq_true _ (Classical.propDecidable _) h

theorem oIN_k (s : SV) : (oIN s).x.i 0 = iadd (s.x.i 0) 1 ∧ (oIN s).len 0 = s.len 0 ∧ (oIN s).n 0 = s.n 0 ∧ (oIN s).y 0 = s.y 0 ∧ (oIN s).x.i 1 = s.x.i 1 ∧ (oIN s).len 1 = s.len 1 := ⟨by kernel_rfl, by kernel_rfl, by kernel_rfl, by kernel_rfl, by kernel_rfl, by kernel_rfl⟩

def oIMu (s : SV) : Nat := ((s.len 0 : Int) - s.x.i 0).toNat

theorem oI_row (s : SV) : (oI_v_0 s).b 0 = rowOk (s.y 0) (s.x.i 0).toNat := by
  unfold rowOk oI_v_0
  rw [idx0, idx0, Nat.add_zero]

theorem oI_pick (s : SV) (hlt : (decide ((s.x.i 0) < (s.x.i 1))) = true) : (oIT s).pick = (bif rowOk (s.y 0) (s.x.i 0).toNat then .next (oIN s) else .out 1 (oIX s)) := by
  unfold oIT
  rw [hlt, oI_row]
  cases rowOk (s.y 0) (s.x.i 0).toNat <;> rfl

theorem oI_go (s : SV) (hp : ∀ b ∈ [oIB s], b = true) :
    (oIT s).ok ∧ (∀ k s', (oIT s).pick = .out k s' → k < 2) ∧ ∀ s', (oIT s).pick = .next s' → (∀ b ∈ [oIB s'], b = true) ∧ oIMu s' < oIMu s := by
  obtain ⟨i1, i2, i3, i4, i5, i6⟩ := oIB_of (hp _ (List.mem_cons_self ..))
  cases hc : (decide ((s.x.i 0) < (s.x.i 1))) with
  | false =>
    have hk : (oIT s).pick = .out 0 (oIE s) := by unfold oIT; rw [hc]; rfl
    refine ⟨?_, fun k s' h => ?_, fun s' h => ?_⟩
    · unfold oIT
      exact ⟨allN, (fun h => by rw [hc] at h; cases h), (fun _ b hb => by cases hb)⟩
    · rw [hk] at h; cases h; decide
    · rw [hk] at h; cases h
  | true =>
    have hlt := of_decide_eq_true hc
    (try unfold ofN at hlt)
    refine ⟨?_, fun k s' h => ?_, fun s' h => ?_⟩
    · unfold oIT
      exact ⟨allN, (fun _ => ⟨(allC (decide_eq_true (by unfold padd pmul itn; omega)) (allC (decide_eq_true (by omega)) (allC (decide_eq_true (by omega)) allN))), (fun _ b hb => by cases hb), (fun _ => (allC (andT (decide_eq_true (by unfold iadd; omega)) (decide_eq_true (by unfold iadd; omega))) allN))⟩), (fun h => by rw [hc] at h; cases h)⟩
    · rw [oI_pick s hc] at h
      cases hr : rowOk (s.y 0) (s.x.i 0).toNat with
      | false => rw [hr] at h; cases h; decide
      | true => rw [hr] at h; cases h
    · rw [oI_pick s hc] at h
      cases hr : rowOk (s.y 0) (s.x.i 0).toNat with
      | false => rw [hr] at h; cases h
      | true =>
        rw [hr] at h
        cases h
        obtain ⟨e0, l0, n0, y0, x1, l1⟩ := oIN_k s
        unfold iadd at e0
        refine ⟨fun b hb => ?_, by unfold oIMu; omega⟩
        rw [List.mem_singleton.1 hb]
        exact oIB_to ⟨by omega, by omega, by omega, by omega, by omega, by omega⟩

noncomputable def oIF0 (s : SV) : Nat × SV := Go.Sim.runT oIT (oIMu s + 1) s

noncomputable def oIF : SV → Nat × SV := Classical.choose (⟨oIF0, rfl⟩ : ∃ f, f = oIF0)

theorem oIF_eq : oIF = oIF0 := Classical.choose_spec (⟨oIF0, rfl⟩ : ∃ f, f = oIF0)

noncomputable def oIPre (s : SV) : List Bool := [oIB s]

noncomputable def HoI : LTab := hookL 0 oIL oIPre oIF noLT

theorem HoI_ok : HFun Try.prog 1 HoI 68 := by
  unfold HoI
  rw [oIF_eq]
  exact HFun.loop G15_ok mixed (J := true) (n := 1000) (L := oIL) (T := oIT) (pre := oIPre) (μ := oIMu) (HFun.none Try.prog 1 68) (by kernel_rfl) (by decide) (by decide) oI_t oI_go

theorem oI_yes (s : SV) (hP : oIP s) :
    ((∀ j : Nat, s.x.i 0 ≤ j → j < s.len 0 → rowOk (s.y 0) j = true) → (oIF s).1 = 0 ∧ (oIF s).2.len 0 = s.len 0) ∧ ((¬ ∀ j : Nat, s.x.i 0 ≤ j → j < s.len 0 → rowOk (s.y 0) j = true) → (oIF s).1 = 1) := by
  rw [oIF_eq]
  obtain ⟨i1, i2, i3, i4, i5, i6⟩ := hP
  have K := ask_run (T := oIT) (N := oIN) (X := oIX) (E := oIE) (fun r => r.y 0 = s.y 0 ∧ r.x.i 1 = r.len 0 ∧ r.len 0 = s.len 0 ∧ r.len 1 = s.len 0) (rowOk (s.y 0)) (fun r hr hlt => ?_) (fun r hr => ?_) (fun r hr hlt => ?_) (oIMu s + 1) s ⟨rfl, i5, rfl, i6⟩ i1 i2 (Nat.lt_succ_self _)
  · refine ⟨fun h => ?_, K.2⟩
    obtain ⟨k1, r, k2, k3⟩ := K.1 h
    refine ⟨k1, ?_⟩
    have e' : (oIF0 s).2 = oIE r := k3
    rw [e']
    exact (show (oIE r).len 0 = r.len 1 from by kernel_rfl).trans k2.2.2.2
  · have hy := hr.1
    rw [← hy]
    exact oI_pick r (decide_eq_true (by have := hr.2.1; omega))
  · obtain ⟨e0, l0, n0, y0, x1, l1⟩ := oIN_k r
    unfold iadd at e0
    exact ⟨e0, l0, ⟨y0.trans hr.1, by have := hr.2.1; omega, l0.trans hr.2.2.1, l1.trans hr.2.2.2⟩⟩
  · unfold oIT
    rw [decide_eq_false (by have := hr.2.1; omega)]
    rfl

def fOV : Frm := ⟨[.ssl 0 0 2, .sc .bool], [.sym (.flt .f32) false]⟩

def ovQP (s : SV) : Prop := 6 < s.len 0 ∧ s.len 0 ≤ 1048576 ∧ s.n 0 = 2 * s.len 0

noncomputable def ovQB (s : SV) : Bool := @decide (ovQP s) (Classical.propDecidable _)
theorem ovQB_of {s : SV} (h : ovQB s = true) : ovQP s := @of_decide_eq_true _ (Classical.propDecidable _) h
theorem ovQB_to {s : SV} (h : ovQP s) : ovQB s = true := @decide_eq_true _ (Classical.propDecidable _) h

noncomputable def ovQPre (s : SV) : List Bool := [ovQB s]

noncomputable def ovR0 (s : SV) : Vars := varsOf [.sint .i64 (ovC (s.len 0) (s.y 0))]

noncomputable def ovR : SV → Vars := Classical.choose (⟨ovR0, rfl⟩ : ∃ f, f = ovR0)

theorem ovR_eq : ovR = ovR0 := Classical.choose_spec (⟨ovR0, rfl⟩ : ∃ f, f = ovR0)

noncomputable def oSS (s : SV) : SV := (mkSV [(.int .i64 0), (.sbool (s.x.b 0))] [(s.len 0)] [(s.n 0)] [(s.y 0)])

theorem oS_e (s : SV) : funH Try.prog G15 HoS true 1000 63 (mkVs s 0 0 fOV.vals) (mkM fOV s) [] = some (.sint .i64 ((bif (Nat.beq (oSF (oSS s)).1 0) then (bif ((decide (6 < (ofN ((oSF (oSS s)).2.len 0)))) || (!((oSF (oSS s)).2.x.b 0))) then 2 else 0) else 1)), [((!(Nat.beq (oSF (oSS s)).1 0)) || ((decide ((-(9223372036854775807 + 1)) ≤ (ofN ((oSF (oSS s)).2.len 0)))) && (decide ((ofN ((oSF (oSS s)).2.len 0)) ≤ 9223372036854775807)))), (oSB (oSS s))]) := by kernel_rfl

noncomputable def GAoS : Summ := addG 63 (sumQ fOV [.sc (.int .i64)] ovQPre ovR) G15

theorem GAoS_ok : SoundG Try.prog GAoS := by
  unfold GAoS
  rw [ovR_eq]
  refine SoundG.sumQ G15_ok mixed Try.call63 G15_ok (by decide) fun s hp => ?_
  obtain ⟨q0, q1, q2⟩ := ovQB_of (hp _ (List.mem_cons_self ..))
  have a0 : (oSS s).x.i 0 = 0 := by kernel_rfl
  have a1 : (oSS s).len 0 = s.len 0 := by kernel_rfl
  have a2 : (oSS s).y 0 = s.y 0 := by kernel_rfl
  have a3 : (oSS s).n 0 = s.n 0 := by kernel_rfl
  have hP : oSP (oSS s) := ⟨by omega, by omega, by omega, by omega⟩
  obtain ⟨y1, y2⟩ := oS_yes (oSS s) hP
  rw [a0, a1, a2] at y1 y2
  have hb1 : (((!(Nat.beq (oSF (oSS s)).1 0)) || ((decide ((-(9223372036854775807 + 1)) ≤ (ofN ((oSF (oSS s)).2.len 0)))) && (decide ((ofN ((oSF (oSS s)).2.len 0)) ≤ 9223372036854775807))))) = true := by
    by_cases ha : ∀ j : Nat, j < s.len 0 → rowOk (s.y 0) j = true
    · obtain ⟨z1, z2⟩ := y1 fun j _ hj => ha j (by omega)
      rw [z2]
      exact orTr (andT (decide_eq_true (by unfold ofN; omega)) (decide_eq_true (by unfold ofN; omega)))
    · rw [y2 fun h => ha fun j hj => h j (by omega) (by omega)]
      rfl
  refine ⟨HoS, true, 1000, [], _, _, HoS_ok, oS_e s, congrArg (AV.sint .i64) ?_, rfl, rfl, (allC hb1 (allC (oSB_to hP) allN))⟩
  show _ = ovC (s.len 0) (s.y 0)
  unfold ovC
  by_cases ha : ∀ j : Nat, j < s.len 0 → rowOk (s.y 0) j = true
  · obtain ⟨z1, z2⟩ := y1 fun j _ hj => ha j (by omega)
    rw [z1, z2, allOk_yes ha, decide_eq_true (show (6 : Int) < ofN (s.len 0) by unfold ofN; omega)]
    rfl
  · rw [y2 fun h => ha fun j hj => h j (by omega) (by omega), allOk_no ha]
    rfl

noncomputable def oIS (s : SV) : SV := (mkSV [(.int .i64 0), (.sint .i64 (ofN (s.len 0))), (.sbool (s.x.b 0))] [(s.len 0), (s.len 0)] [(s.n 0)] [(s.y 0)])

theorem oI_e (s : SV) : funH Try.prog G15 HoI true 1000 68 (mkVs s 0 0 fOV.vals) (mkM fOV s) [] = some (.sint .i64 ((bif (Nat.beq (oIF (oIS s)).1 0) then (bif ((decide (6 < (ofN ((oIF (oIS s)).2.len 0)))) || (!((oIF (oIS s)).2.x.b 0))) then 2 else 0) else 1)), [((!(Nat.beq (oIF (oIS s)).1 0)) || ((decide ((-(9223372036854775807 + 1)) ≤ (ofN ((oIF (oIS s)).2.len 0)))) && (decide ((ofN ((oIF (oIS s)).2.len 0)) ≤ 9223372036854775807)))), (oIB (oIS s)), ((decide ((-(9223372036854775807 + 1)) ≤ (ofN (s.len 0)))) && (decide ((ofN (s.len 0)) ≤ 9223372036854775807)))]) := by kernel_rfl

noncomputable def GAoI : Summ := addG 68 (sumQ fOV [.sc (.int .i64)] ovQPre ovR) GAoS

theorem GAoI_ok : SoundG Try.prog GAoI := by
  unfold GAoI
  rw [ovR_eq]
  refine SoundG.sumQ GAoS_ok mixed Try.call68 G15_ok (by decide) fun s hp => ?_
  obtain ⟨q0, q1, q2⟩ := ovQB_of (hp _ (List.mem_cons_self ..))
  have a0 : (oIS s).x.i 0 = 0 := by kernel_rfl
  have a1 : (oIS s).len 0 = s.len 0 := by kernel_rfl
  have a2 : (oIS s).y 0 = s.y 0 := by kernel_rfl
  have a3 : (oIS s).n 0 = s.n 0 := by kernel_rfl
  have a4 : (oIS s).x.i 1 = s.len 0 := by kernel_rfl
  have a5 : (oIS s).len 1 = s.len 0 := by kernel_rfl
  have hP : oIP (oIS s) := ⟨by omega, by omega, by omega, by omega, by omega, by omega⟩
  obtain ⟨y1, y2⟩ := oI_yes (oIS s) hP
  rw [a0, a1, a2] at y1 y2
  have hb1 : (((!(Nat.beq (oIF (oIS s)).1 0)) || ((decide ((-(9223372036854775807 + 1)) ≤ (ofN ((oIF (oIS s)).2.len 0)))) && (decide ((ofN ((oIF (oIS s)).2.len 0)) ≤ 9223372036854775807))))) = true := by
    by_cases ha : ∀ j : Nat, j < s.len 0 → rowOk (s.y 0) j = true
    · obtain ⟨z1, z2⟩ := y1 fun j _ hj => ha j (by omega)
      rw [z2]
      exact orTr (andT (decide_eq_true (by unfold ofN; omega)) (decide_eq_true (by unfold ofN; omega)))
    · rw [y2 fun h => ha fun j hj => h j (by omega) (by omega)]
      rfl
  refine ⟨HoI, true, 1000, [], _, _, HoI_ok, oI_e s, congrArg (AV.sint .i64) ?_, rfl, rfl, (allC hb1 (allC (oIB_to hP) (allC (andT (decide_eq_true (by unfold ofN; omega)) (decide_eq_true (by unfold ofN; omega))) allN)))⟩
  show _ = ovC (s.len 0) (s.y 0)
  unfold ovC
  by_cases ha : ∀ j : Nat, j < s.len 0 → rowOk (s.y 0) j = true
  · obtain ⟨z1, z2⟩ := y1 fun j _ hj => ha j (by omega)
    rw [z1, z2, allOk_yes ha, decide_eq_true (show (6 : Int) < ofN (s.len 0) by unfold ofN; omega)]
    rfl
  · rw [y2 fun h => ha fun j hj => h j (by omega) (by omega), allOk_no ha]
    rfl

end Go.Proofs.Ytekilpllicggeaa

/-
  Facts of this seat that its laws use; no conditions.
-/
import Derived.Test.YtekilpllicggeaaOask
namespace Go.Proofs.Ytekilpllicggeaa
open Go.Sim Go.ChangeShapes Go.WideShapes Go.ChangeAt Go.RowKit

noncomputable def G16 : Summ := inlGs Try.prog 1000 [67] GAoI

theorem G16_ok : SoundG Try.prog G16 := by
  refine SoundG.inls mixed GAoI_ok fun f hf => ?_
  simp only [List.mem_cons, List.not_mem_nil, or_false] at hf
  subst hf
  exact Try.call67

noncomputable def tzL : LP := { A := 1, ts := [4, 0, 3], F := ⟨[.sc (.int .i64), .ssl 0 0 2, .ssl 1 0 2], [.sym (.flt .f32) false, .sym (.flt .f32) true]⟩, xs := [(.exit 0, [3], ⟨[.ssl 1 0 2], [.sym (.flt .f32) false, .sym (.flt .f32) true]⟩)] }

noncomputable def tzN (s : SV) : SV := (mkSV [(.sint .i64 (iadd (s.x.i 0) 1))] [(s.len 0), (s.len 1)] [(s.n 0), (s.n 1)] [(s.y 0), (pasteV (s.y 1) (padd 0 (pmul (itn (s.x.i 0)) 2)) [(.flt .f32 ((s.y 0).u (padd (padd 0 (pmul (itn (s.x.i 0)) 2)) 0))), (.flt .f32 ((s.y 0).u (padd (padd 0 (pmul (itn (s.x.i 0)) 2)) 1)))])])
noncomputable def tzE (s : SV) : SV := (mkSV [] [(s.len 1)] [(s.n 0), (s.n 1)] [(s.y 0), (s.y 1)])

noncomputable def tzT (s : SV) : Tr := .node [((decide ((-(9223372036854775807 + 1)) ≤ (ofN (s.len 0)))) && (decide ((ofN (s.len 0)) ≤ 9223372036854775807)))] (decide ((s.x.i 0) < (ofN (s.len 0)))) (.next (tzN s) [((decide ((-(9223372036854775807 + 1)) ≤ (iadd (s.x.i 0) 1))) && (decide ((iadd (s.x.i 0) 1) ≤ 9223372036854775807))), (decide ((padd (padd 0 (pmul (itn (s.x.i 0)) 2)) 2) ≤ (s.n 1))), (decide (0 ≤ (s.x.i 0))), (decide ((s.x.i 0) < (s.len 1))), (decide ((padd (padd 0 (pmul (itn (s.x.i 0)) 2)) 2) ≤ (s.n 0))), (decide (0 ≤ (s.x.i 0))), (decide ((s.x.i 0) < (s.len 0)))]) (.out 0 (tzE s) [])

theorem tz_t (s : SV) : Go.Sim.stepT Try.prog G16 (ntOf Try.prog 16) noLT true 1000 tzL (loopOf Try.prog 16 0) s = some (tzT s) := by kernel_rfl

def tzP (s : SV) : Prop := 0 ≤ s.x.i 0 ∧ s.x.i 0 ≤ s.len 0 ∧ s.len 0 ≤ 1048576 ∧ s.len 1 = s.len 0 ∧ s.n 0 = 2 * s.len 0 ∧ s.n 1 = 2 * s.len 0

noncomputable def tzB (s : SV) : Bool := @decide (tzP s) (Classical.propDecidable _)
theorem tzB_of {s : SV} (h : tzB s = true) : tzP s := @of_decide_eq_true _ (Classical.propDecidable _) h
theorem tzB_to {s : SV} (h : tzP s) : tzB s = true := @decide_eq_true _ (Classical.propDecidable _) h

theorem tzN_k (s : SV) : (tzN s).x.i 0 = iadd (s.x.i 0) 1 ∧ (tzN s).len 0 = s.len 0 ∧ (tzN s).len 1 = s.len 1 ∧ (tzN s).n 0 = s.n 0 ∧ (tzN s).n 1 = s.n 1 ∧ (tzN s).y 0 = s.y 0 := ⟨by kernel_rfl, by kernel_rfl, by kernel_rfl, by kernel_rfl, by kernel_rfl, by kernel_rfl⟩

def tzMu (s : SV) : Nat := ((s.len 0 : Int) - s.x.i 0).toNat

theorem tz_go (s : SV) (hp : ∀ b ∈ [tzB s], b = true) :
    (tzT s).ok ∧ (∀ k s', (tzT s).pick = .out k s' → k < 1) ∧ ∀ s', (tzT s).pick = .next s' → (∀ b ∈ [tzB s'], b = true) ∧ tzMu s' < tzMu s := by
  have hP := tzB_of (hp _ (List.mem_cons_self ..))
  have hP' := hP
  obtain ⟨i1, i2, i3, i4, i5, i6⟩ := hP
  cases hc : (decide ((s.x.i 0) < (ofN (s.len 0)))) with
  | false =>
    have hk : (tzT s).pick = .out 0 (tzE s) := by unfold tzT; rw [hc]; rfl
    refine ⟨?_, fun k s' h => ?_, fun s' h => ?_⟩
    · unfold tzT
      exact ⟨(allC (andT (decide_eq_true (by unfold ofN; omega)) (decide_eq_true (by unfold ofN; omega))) allN), (fun h => by rw [hc] at h; cases h), (fun _ b hb => by cases hb)⟩
    · rw [hk] at h; cases h; decide
    · rw [hk] at h; cases h
  | true =>
    have hlt := of_decide_eq_true hc
    (try unfold ofN at hlt)
    have hk : (tzT s).pick = .next (tzN s) := by unfold tzT; rw [hc]; rfl
    refine ⟨?_, fun k s' h => ?_, fun s' h => ?_⟩
    · unfold tzT
      exact ⟨(allC (andT (decide_eq_true (by unfold ofN; omega)) (decide_eq_true (by unfold ofN; omega))) allN), (fun _ => (allC (andT (decide_eq_true (by unfold iadd; omega)) (decide_eq_true (by unfold iadd; omega))) (allC (decide_eq_true (by unfold padd pmul itn; omega)) (allC (decide_eq_true (by omega)) (allC (decide_eq_true (by omega)) (allC (decide_eq_true (by unfold padd pmul itn; omega)) (allC (decide_eq_true (by omega)) (allC (decide_eq_true (by omega)) allN)))))))), (fun h => by rw [hc] at h; cases h)⟩
    · rw [hk] at h; cases h
    · rw [hk] at h
      cases h
      refine ⟨fun b hb => ?_, ?_⟩
      · rw [List.mem_singleton.1 hb]
        refine tzB_to ?_
        obtain ⟨e0, l0, l1, n0, n1, _⟩ := tzN_k s
        unfold iadd at e0
        exact ⟨by omega, by omega, by omega, by omega, by omega, by omega⟩
      · obtain ⟨e0, l0, _⟩ := tzN_k s
        unfold iadd at e0
        unfold tzMu
        omega

noncomputable def tzF0 (s : SV) : Nat × SV := Go.Sim.runT tzT (tzMu s + 1) s

noncomputable def tzF : SV → Nat × SV := Classical.choose (⟨tzF0, rfl⟩ : ∃ f, f = tzF0)

theorem tzF_eq : tzF = tzF0 := Classical.choose_spec (⟨tzF0, rfl⟩ : ∃ f, f = tzF0)

noncomputable def tzPre (s : SV) : List Bool := [tzB s]

noncomputable def Htz : LTab := hookL 0 tzL tzPre tzF noLT

theorem Htz_ok : HFun Try.prog 1 Htz 16 := by
  unfold Htz
  rw [tzF_eq]
  exact HFun.loop G16_ok mixed (J := true) (n := 1000) (L := tzL) (T := tzT) (pre := tzPre) (μ := tzMu) (HFun.none Try.prog 1 16) (by kernel_rfl) (by decide) (by decide) tz_t tz_go

theorem inv_run {T : SV → Tr} {N E : SV → SV} (P : SV → Prop) (L : Nat)
    (hp : ∀ s, P s → s.x.i 0 < L → (T s).pick = .next (N s))
    (hn : ∀ s, P s → s.x.i 0 < L → (N s).x.i 0 = s.x.i 0 + 1 ∧ P (N s))
    (he : ∀ s, P s → ¬ s.x.i 0 < L → (T s).pick = .out 0 (E s)) :
    ∀ n s, P s → ((L : Int) - s.x.i 0).toNat < n → (Go.Sim.runT T n s).1 = 0 ∧ ∃ r, P r ∧ (Go.Sim.runT T n s).2 = E r := by
  intro n
  induction n with
  | zero => intro s _ h; omega
  | succ n ih =>
    intro s hs h2
    simp only [Go.Sim.runT]
    by_cases hlt : s.x.i 0 < L
    · rw [hp s hs hlt]
      obtain ⟨e0, e1⟩ := hn s hs hlt
      exact ih (N s) e1 (by omega)
    · rw [he s hs hlt]
      exact ⟨rfl, s, hs, rfl⟩

theorem tz_yes (s : SV) (hP : tzP s) : (tzF s).1 = 0 ∧ (tzF s).2.len 0 = s.len 0 ∧ (tzF s).2.n 1 = 2 * s.len 0 ∧ (tzF s).2.n 0 = s.n 0 ∧ (tzF s).2.y 0 = s.y 0 := by
  rw [tzF_eq]
  let P : SV → Prop := fun r => tzP r ∧ r.len 0 = s.len 0 ∧ r.n 0 = s.n 0 ∧ r.y 0 = s.y 0
  have k1 : ∀ r, P r → r.x.i 0 < s.len 0 → (tzT r).pick = .next (tzN r) := fun r hr hlt => by
    unfold tzT
    rw [decide_eq_true (show r.x.i 0 < ofN (r.len 0) by unfold ofN; have := hr.2.1; omega)]
    rfl
  have k2 : ∀ r, P r → r.x.i 0 < s.len 0 → (tzN r).x.i 0 = r.x.i 0 + 1 ∧ P (tzN r) := fun r hr hlt => by
    have hpk := k1 r hr hlt
    obtain ⟨hr1, q0, q1, q2⟩ := hr
    obtain ⟨e0, l0, l1, n0, n1, y0⟩ := tzN_k r
    have hB : tzB (tzN r) = true := ((tz_go r (allC (tzB_to hr1) allN)).2.2 _ hpk).1 _ (List.mem_cons_self ..)
    exact ⟨e0, tzB_of hB, l0.trans q0, n0.trans q1, y0.trans q2⟩
  have k3 : ∀ r, P r → ¬ r.x.i 0 < s.len 0 → (tzT r).pick = .out 0 (tzE r) := fun r hr hlt => by
    unfold tzT
    rw [decide_eq_false (show ¬ r.x.i 0 < ofN (r.len 0) by unfold ofN; have := hr.2.1; omega)]
    rfl
  obtain ⟨a, r, hr, e⟩ := inv_run (T := tzT) (N := tzN) (E := tzE) P (s.len 0) k1 k2 k3 (tzMu s + 1) s ⟨hP, rfl, rfl, rfl⟩ (Nat.lt_succ_self _)
  have e' : (tzF0 s).2 = tzE r := e
  obtain ⟨hr1, q0, q1, q2⟩ := hr
  refine ⟨a, ?_, ?_, ?_, ?_⟩
  · rw [e']
    exact (show (tzE r).len 0 = r.len 1 from by kernel_rfl).trans (hr1.2.2.2.1.trans q0)
  · rw [e']
    exact (show (tzE r).n 1 = r.n 1 from by kernel_rfl).trans (hr1.2.2.2.2.2.trans (by rw [q0]))
  · rw [e']
    exact (show (tzE r).n 0 = r.n 0 from by kernel_rfl).trans q1
  · rw [e']
    exact (show (tzE r).y 0 = r.y 0 from by kernel_rfl).trans q2

def fTI : Frm := ⟨[.ssl 0 0 2], [.sym (.flt .f32) false]⟩
def fTO : Frm := ⟨[.ssl 1 0 2], [.sym (.flt .f32) false, .sym (.flt .f32) true]⟩

noncomputable def tzS (s : SV) : SV := (mkSV [(.int .i64 0)] [(s.len 0), (itn (ofN (s.len 0)))] [(s.n 0), (pmul (itn (ofN (s.len 0))) 2)] [(s.y 0), zeroV])

noncomputable def tzR0 (s : SV) : SV := (mkSV [] [((tzF (tzS s)).2.len 0)] [((tzF (tzS s)).2.n 0), ((tzF (tzS s)).2.n 1)] [((tzF (tzS s)).2.y 0), ((tzF (tzS s)).2.y 1)])

noncomputable def tzR : SV → SV := Classical.choose (⟨tzR0, rfl⟩ : ∃ f, f = tzR0)

theorem tzR_eq : tzR = tzR0 := Classical.choose_spec (⟨tzR0, rfl⟩ : ∃ f, f = tzR0)

theorem tz_q (s : SV) : funT Try.prog G16 Htz true 1000 16 1 [fTO] (mkVs s 0 0 fTI.vals) (mkM fTI s) [] = some (.out 0 (tzR0 s) [(tzB (tzS s)), (decide ((ofN (s.len 0)) = (ofN (s.len 0)))), (decide (0 ≤ (ofN (s.len 0)))), (decide ((ofN (s.len 0)) ≤ 1048576)), ((decide ((-(9223372036854775807 + 1)) ≤ (ofN (s.len 0)))) && (decide ((ofN (s.len 0)) ≤ 9223372036854775807)))]) := by kernel_rfl

def tzQP (s : SV) : Prop := s.len 0 ≤ 1048576 ∧ s.n 0 = 2 * s.len 0

noncomputable def tzQB (s : SV) : Bool := @decide (tzQP s) (Classical.propDecidable _)
theorem tzQB_of {s : SV} (h : tzQB s = true) : tzQP s := @of_decide_eq_true _ (Classical.propDecidable _) h
theorem tzQB_to {s : SV} (h : tzQP s) : tzQB s = true := @decide_eq_true _ (Classical.propDecidable _) h

noncomputable def tzQPre (s : SV) : List Bool := [tzQB s]
noncomputable def GT : Summ := addG 16 (sumW fTI fTO tzQPre tzR) G16

theorem tzS_P (s : SV) (h : tzQP s) : tzP (tzS s) := by
  obtain ⟨q1, q2⟩ := h
  have a0 : (tzS s).x.i 0 = 0 := by kernel_rfl
  have a1 : (tzS s).len 0 = s.len 0 := by kernel_rfl
  have a2 : (tzS s).len 1 = s.len 0 := by kernel_rfl
  have a3 : (tzS s).n 0 = s.n 0 := by kernel_rfl
  have a4 : (tzS s).n 1 = s.len 0 * 2 := by kernel_rfl
  exact ⟨by omega, by omega, by omega, by omega, by omega, by omega⟩

theorem tzR_f (s : SV) (h : tzQP s) : (tzR s).len 0 = s.len 0 ∧ (tzR s).n 1 = 2 * s.len 0 := by
  rw [tzR_eq]
  obtain ⟨_, f1, f2, _⟩ := tz_yes (tzS s) (tzS_P s h)
  exact ⟨(show (tzR0 s).len 0 = (tzF (tzS s)).2.len 0 from by kernel_rfl).trans (f1.trans (show (tzS s).len 0 = s.len 0 from by kernel_rfl)), (show (tzR0 s).n 1 = (tzF (tzS s)).2.n 1 from by kernel_rfl).trans (f2.trans (by rw [show (tzS s).len 0 = s.len 0 from by kernel_rfl]))⟩

theorem GT_ok : SoundG Try.prog GT := by
  unfold GT
  rw [tzR_eq]
  refine SoundG.sumW G16_ok mixed Try.call16 G16_ok (by decide) fun s hp => ?_
  have h := tzQB_of (hp _ (List.mem_cons_self ..))
  have hP := tzS_P s h
  obtain ⟨q1, q2⟩ := h
  exact ⟨Htz, true, 1000, [], _, [fTO], 0, Htz_ok, tz_q s, (show ∀ b ∈ ([(tzB (tzS s)), (decide ((ofN (s.len 0)) = (ofN (s.len 0)))), (decide (0 ≤ (ofN (s.len 0)))), (decide ((ofN (s.len 0)) ≤ 1048576)), ((decide ((-(9223372036854775807 + 1)) ≤ (ofN (s.len 0)))) && (decide ((ofN (s.len 0)) ≤ 9223372036854775807)))] : List Bool), b = true from (allC (tzB_to hP) (allC (decide_eq_true (by unfold ofN; omega)) (allC (decide_eq_true (by unfold ofN; omega)) (allC (decide_eq_true (by unfold ofN; omega)) (allC (andT (decide_eq_true (by unfold ofN; omega)) (decide_eq_true (by unfold ofN; omega))) allN)))))), rfl, rfl⟩

theorem sameFR_self (v : Nat) : (sameFR [.flt .f64 v, .flt .f64 v]).b 0 = true := by rw [sameFR_eq]; exact Go.Sim.sameF_self v

theorem paste1 (y : Vars) (off v j : Nat) : (pasteV y off [.flt .f32 v]).u j = if j = off then v else y.u j := by
  show (bif inR off 1 j then fltOf (leafN [.flt .f32 v] (j - off)) else y.u j) = _
  unfold inR
  by_cases h : j = off
  · subst h
    have h1 : Nat.ble j j = true := Nat.ble_eq_true_of_le (Nat.le_refl _)
    have h2 : Nat.blt j (j + 1) = true := by rw [Nat.blt_eq]; omega
    rw [h1, h2, if_pos rfl, Nat.sub_self]
    rfl
  · rw [if_neg h]
    have : (Nat.ble off j && Nat.blt j (off + 1)) = false := by
      rw [Bool.and_eq_false_iff]
      by_cases h1 : off ≤ j
      · right
        rw [← Bool.not_eq_true, Nat.blt_eq]
        omega
      · left
        rw [← Bool.not_eq_true, Nat.ble_eq]
        exact h1
    rw [this]
    rfl

theorem near_same (n : Int) : fcmp .neq .f32 (fnear .f32 n) (fnear .f32 n) = false := by
  have h : isNan .f32 (fnear .f32 n) = false := isNan_encode .f32 (.number (decide (n < 0)) n.natAbs 0) rfl
  rw [neq_eql, eql32 h h, decide_eq_true rfl]
  rfl

/-- Cells from 0 on that hold the numbers from 'k' on. -/
def Marked (k : Int) (m : Nat) (y : Vars) : Prop := ∀ j : Nat, j < m → y.u j = fnear .f32 (k + j)

noncomputable def G17 : Summ := inlGs Try.prog 1000 [72] GT

theorem G17_ok : SoundG Try.prog G17 := by
  refine SoundG.inls mixed GT_ok fun f hf => ?_
  simp only [List.mem_cons, List.not_mem_nil, or_false] at hf
  subst hf
  exact Try.call72

noncomputable def ezL : LP := { A := 2, ts := [5, 0, 1], F := ⟨[.sc (.int .i64), .ssl 0 0 2, .ssl 1 0 2], [.sym (.flt .f32) false, .sym (.flt .f32) false]⟩, xs := [(.exit 0, [], ⟨[], [.sym (.flt .f32) false, .sym (.flt .f32) false]⟩), (.ret, [4], ⟨[.cst (.bool false)], [.sym (.flt .f32) false, .sym (.flt .f32) false]⟩)] }

noncomputable def ezX (s : SV) : SV := (mkSV [] [] [(s.n 0), (s.n 1)] [(s.y 0), (s.y 1)])

noncomputable def ezN (s : SV) : SV := (mkSV [(.sint .i64 (iadd (s.x.i 0) 1))] [(s.len 0), (s.len 1)] [(s.n 0), (s.n 1)] [(s.y 0), (s.y 1)])

noncomputable def ezE (s : SV) : SV := (mkSV [] [] [(s.n 0), (s.n 1)] [(s.y 0), (s.y 1)])

noncomputable def ezQ (s : SV) : Bool := (!(bif (!((sameFR [(.flt .f64 (fconv .f32 .f64 ((s.y 0).u (padd (padd 0 (pmul (itn (s.x.i 0)) 2)) 0)))), (.flt .f64 (fconv .f32 .f64 ((s.y 1).u (padd (padd 0 (pmul (itn (s.x.i 0)) 2)) 0))))]).b 0)) then false else (!(!((sameFR [(.flt .f64 (fconv .f32 .f64 ((s.y 0).u (padd (padd 0 (pmul (itn (s.x.i 0)) 2)) 1)))), (.flt .f64 (fconv .f32 .f64 ((s.y 1).u (padd (padd 0 (pmul (itn (s.x.i 0)) 2)) 1))))]).b 0)))))

noncomputable def ezT (s : SV) : Tr := .node [((decide ((-(9223372036854775807 + 1)) ≤ (ofN (s.len 0)))) && (decide ((ofN (s.len 0)) ≤ 9223372036854775807)))] (decide ((s.x.i 0) < (ofN (s.len 0)))) (.node [(decide ((padd (padd 0 (pmul (itn (s.x.i 0)) 2)) 2) ≤ (s.n 1))), (decide (0 ≤ (s.x.i 0))), (decide ((s.x.i 0) < (s.len 1))), (decide ((padd (padd 0 (pmul (itn (s.x.i 0)) 2)) 2) ≤ (s.n 0))), (decide (0 ≤ (s.x.i 0))), (decide ((s.x.i 0) < (s.len 0)))] (ezQ s) (.out 1 (ezX s) []) (.next (ezN s) [((decide ((-(9223372036854775807 + 1)) ≤ (iadd (s.x.i 0) 1))) && (decide ((iadd (s.x.i 0) 1) ≤ 9223372036854775807)))])) (.out 0 (ezE s) [])

theorem ez_t (s : SV) : Go.Sim.stepT Try.prog G17 (ntOf Try.prog 19) noLT true 1000 ezL (loopOf Try.prog 19 0) s = some (ezT s) := by kernel_rfl

def ezP (s : SV) : Prop := 0 ≤ s.x.i 0 ∧ s.x.i 0 ≤ s.len 0 ∧ s.len 0 = s.len 1 ∧ s.len 0 ≤ 1048576 ∧ s.n 0 = 2 * s.len 0 ∧ s.n 1 = 2 * s.len 1

noncomputable def ezB (s : SV) : Bool := @decide (ezP s) (Classical.propDecidable _)
theorem ezB_of {s : SV} (h : ezB s = true) : ezP s := @of_decide_eq_true _ (Classical.propDecidable _) h
theorem ezB_to {s : SV} (h : ezP s) : ezB s = true := @decide_eq_true _ (Classical.propDecidable _) h

def ezMu (s : SV) : Nat := ((s.len 0 : Int) - s.x.i 0).toNat

theorem ez_go (s : SV) (hp : ∀ b ∈ [ezB s], b = true) :
    (ezT s).ok ∧ (∀ k s', (ezT s).pick = .out k s' → k < 2) ∧ ∀ s', (ezT s).pick = .next s' → (∀ b ∈ [ezB s'], b = true) ∧ ezMu s' < ezMu s := by
  obtain ⟨i1, i2, i3, i4, i5, i6⟩ := ezB_of (hp _ (List.mem_cons_self ..))
  unfold ezT
  have h0 : ∀ b ∈ ([((decide ((-(9223372036854775807 + 1)) ≤ (ofN (s.len 0)))) && (decide ((ofN (s.len 0)) ≤ 9223372036854775807)))] : List Bool), b = true := (allC (andT (decide_eq_true (by (try unfold padd); (try unfold pmul); (try unfold itn); (try unfold iadd); (try unfold ofN); omega)) (decide_eq_true (by (try unfold padd); (try unfold pmul); (try unfold itn); (try unfold iadd); (try unfold ofN); omega))) allN)
  cases hc : (decide ((s.x.i 0) < (ofN (s.len 0)))) with
  | false =>
    refine ⟨⟨h0, (fun h => by cases h), (fun _ b hb => by cases hb)⟩, fun k s' h => ?_, fun s' h => ?_⟩
    · cases h; decide
    · cases h
  | true =>
    have hlt : s.x.i 0 < s.len 0 := of_decide_eq_true hc
    have h1 : ∀ b ∈ ([(decide ((padd (padd 0 (pmul (itn (s.x.i 0)) 2)) 2) ≤ (s.n 1))), (decide (0 ≤ (s.x.i 0))), (decide ((s.x.i 0) < (s.len 1))), (decide ((padd (padd 0 (pmul (itn (s.x.i 0)) 2)) 2) ≤ (s.n 0))), (decide (0 ≤ (s.x.i 0))), (decide ((s.x.i 0) < (s.len 0)))] : List Bool), b = true := (allC (decide_eq_true (by (try unfold padd); (try unfold pmul); (try unfold itn); (try unfold iadd); (try unfold ofN); omega)) (allC (decide_eq_true (by (try unfold padd); (try unfold pmul); (try unfold itn); (try unfold iadd); (try unfold ofN); omega)) (allC (decide_eq_true (by (try unfold padd); (try unfold pmul); (try unfold itn); (try unfold iadd); (try unfold ofN); omega)) (allC (decide_eq_true (by (try unfold padd); (try unfold pmul); (try unfold itn); (try unfold iadd); (try unfold ofN); omega)) (allC (decide_eq_true (by (try unfold padd); (try unfold pmul); (try unfold itn); (try unfold iadd); (try unfold ofN); omega)) (allC (decide_eq_true (by (try unfold padd); (try unfold pmul); (try unfold itn); (try unfold iadd); (try unfold ofN); omega)) allN))))))
    cases hq : ezQ s with
    | true =>
      refine ⟨⟨h0, (fun _ => ⟨h1, (fun _ b hb => by cases hb), (fun h => by cases h)⟩), (fun h => by cases h)⟩, fun k s' h => ?_, fun s' h => ?_⟩
      · cases h; decide
      · cases h
    | false =>
      refine ⟨⟨h0, (fun _ => ⟨h1, (fun h => by cases h), (fun _ => ((allC (andT (decide_eq_true (by (try unfold padd); (try unfold pmul); (try unfold itn); (try unfold iadd); (try unfold ofN); omega)) (decide_eq_true (by (try unfold padd); (try unfold pmul); (try unfold itn); (try unfold iadd); (try unfold ofN); omega))) allN) : ∀ b ∈ ([((decide ((-(9223372036854775807 + 1)) ≤ (iadd (s.x.i 0) 1))) && (decide ((iadd (s.x.i 0) 1) ≤ 9223372036854775807)))] : List Bool), b = true))⟩), (fun h => by cases h)⟩, fun k s' h => ?_, fun s' h => ?_⟩
      · cases h
      · cases h
        have e0 : (ezN s).x.i 0 = iadd (s.x.i 0) 1 := by kernel_rfl
        have l0 : (ezN s).len 0 = s.len 0 := by kernel_rfl
        have l1 : (ezN s).len 1 = s.len 1 := by kernel_rfl
        have n0 : (ezN s).n 0 = s.n 0 := by kernel_rfl
        have n1 : (ezN s).n 1 = s.n 1 := by kernel_rfl
        unfold iadd at e0
        refine ⟨fun b hb => ?_, by unfold ezMu; omega⟩
        rw [List.mem_singleton.1 hb]
        exact ezB_to ⟨by omega, by omega, by omega, by omega, by omega, by omega⟩

theorem ez_same (s : SV) (h : s.y 1 = s.y 0) : ezQ s = false := by
  unfold ezQ
  rw [h]
  simp only [sameFR_self, Bool.not_true, Bool.not_false, cond_false]

theorem ez_run (N : Nat) : ∀ s, s.y 1 = s.y 0 → (Go.Sim.runT ezT N s).1 = 0 := by
  induction N with
  | zero => intro s _; rfl
  | succ N ih =>
    intro s h
    simp only [Go.Sim.runT]
    cases hc : (decide ((s.x.i 0) < (ofN (s.len 0)))) with
    | false =>
      have e : (ezT s).pick = .out 0 (ezE s) := by unfold ezT; rw [hc]; rfl
      rw [e]
    | true =>
      have e : (ezT s).pick = .next (ezN s) := by unfold ezT; rw [hc, ez_same s h]; rfl
      rw [e]
      refine ih _ ?_
      exact (show (ezN s).y 1 = s.y 1 from by kernel_rfl).trans (h.trans (show s.y 0 = (ezN s).y 0 from by kernel_rfl))

noncomputable def ezF0 (s : SV) : Nat × SV := Go.Sim.runT ezT (ezMu s + 1) s

noncomputable def ezF : SV → Nat × SV := Classical.choose (⟨ezF0, rfl⟩ : ∃ f, f = ezF0)

theorem ezF_eq : ezF = ezF0 := Classical.choose_spec (⟨ezF0, rfl⟩ : ∃ f, f = ezF0)

noncomputable def ezPre (s : SV) : List Bool := [ezB s]

noncomputable def Hez : LTab := hookL 0 ezL ezPre ezF noLT

theorem Hez_ok : HFun Try.prog 2 Hez 19 := by
  unfold Hez
  rw [ezF_eq]
  exact HFun.loop G17_ok mixed (J := true) (n := 1000) (L := ezL) (T := ezT) (pre := ezPre) (μ := ezMu) (HFun.none Try.prog 2 19) (by kernel_rfl) (by decide) (by decide) ez_t ez_go

theorem ez_yes (s : SV) (h : s.y 1 = s.y 0) : (ezF s).1 = 0 := by
  rw [ezF_eq]
  exact ez_run _ s h

noncomputable def mzL : LP := { A := 1, ts := [5, 1, 0], F := ⟨[.sc (.int .i64), .sc (.int .i64), .ssl 0 0 2], [.sym (.flt .f32) true]⟩, xs := [(.exit 0, [1], ⟨[.sc (.int .i64)], [.sym (.flt .f32) true]⟩)] }

noncomputable def mzN (s : SV) : SV := (mkSV [(.sint .i64 (iadd (s.x.i 0) 1)), (.sint .i64 (iadd (iadd (s.x.i 1) 1) 1))] [(s.len 0)] [(s.n 0)] [(pasteV (pasteV (s.y 0) (padd 0 (pmul (itn (s.x.i 0)) 2)) [(.flt .f32 (fnear .f32 (s.x.i 1)))]) (padd 1 (pmul (itn (s.x.i 0)) 2)) [(.flt .f32 (fnear .f32 (iadd (s.x.i 1) 1)))])])

noncomputable def mzE (s : SV) : SV := (mkSV [(.sint .i64 (s.x.i 1))] [] [(s.n 0)] [(s.y 0)])

noncomputable def mzT (s : SV) : Tr := .node [((decide ((-(9223372036854775807 + 1)) ≤ (ofN (s.len 0)))) && (decide ((ofN (s.len 0)) ≤ 9223372036854775807)))] (decide ((s.x.i 0) < (ofN (s.len 0)))) (.next (mzN s) [((decide ((-(9223372036854775807 + 1)) ≤ (iadd (s.x.i 0) 1))) && (decide ((iadd (s.x.i 0) 1) ≤ 9223372036854775807))), ((decide ((-(9223372036854775807 + 1)) ≤ (iadd (iadd (s.x.i 1) 1) 1))) && (decide ((iadd (iadd (s.x.i 1) 1) 1) ≤ 9223372036854775807))), (decide ((padd (padd 1 (pmul (itn (s.x.i 0)) 2)) 1) ≤ (s.n 0))), (decide (0 ≤ (s.x.i 0))), (decide ((s.x.i 0) < (s.len 0))), ((decide ((-(9223372036854775807 + 1)) ≤ (iadd (s.x.i 1) 1))) && (decide ((iadd (s.x.i 1) 1) ≤ 9223372036854775807))), (decide ((padd (padd 0 (pmul (itn (s.x.i 0)) 2)) 1) ≤ (s.n 0))), (decide (0 ≤ (s.x.i 0))), (decide ((s.x.i 0) < (s.len 0)))]) (.out 0 (mzE s) [])

theorem mz_t (s : SV) : Go.Sim.stepT Try.prog G17 (ntOf Try.prog 20) noLT true 1000 mzL (loopOf Try.prog 20 0) s = some (mzT s) := by kernel_rfl

def mzP (s : SV) : Prop := 0 ≤ s.x.i 0 ∧ s.x.i 0 ≤ s.len 0 ∧ s.len 0 ≤ 1048576 ∧ s.n 0 = 2 * s.len 0 ∧ 0 ≤ s.x.i 1 ∧ s.x.i 1 ≤ 4503599627370496 + 2 * s.x.i 0

noncomputable def mzB (s : SV) : Bool := @decide (mzP s) (Classical.propDecidable _)
theorem mzB_of {s : SV} (h : mzB s = true) : mzP s := @of_decide_eq_true _ (Classical.propDecidable _) h
theorem mzB_to {s : SV} (h : mzP s) : mzB s = true := @decide_eq_true _ (Classical.propDecidable _) h

def mzMu (s : SV) : Nat := ((s.len 0 : Int) - s.x.i 0).toNat

theorem mzN_i (s : SV) : (mzN s).x.i 0 = s.x.i 0 + 1 ∧ (mzN s).x.i 1 = s.x.i 1 + 2 ∧ (mzN s).len 0 = s.len 0 ∧ (mzN s).n 0 = s.n 0 := by
  have e1 : (mzN s).x.i 1 = iadd (iadd (s.x.i 1) 1) 1 := by kernel_rfl
  refine ⟨by kernel_rfl, ?_, by kernel_rfl, by kernel_rfl⟩
  rw [e1]
  unfold iadd
  omega

theorem mz_go (s : SV) (hp : ∀ b ∈ [mzB s], b = true) :
    (mzT s).ok ∧ (∀ k s', (mzT s).pick = .out k s' → k < 1) ∧ ∀ s', (mzT s).pick = .next s' → (∀ b ∈ [mzB s'], b = true) ∧ mzMu s' < mzMu s := by
  obtain ⟨i1, i2, i3, i4, i5, i6⟩ := mzB_of (hp _ (List.mem_cons_self ..))
  unfold mzT
  have h0 : ∀ b ∈ ([((decide ((-(9223372036854775807 + 1)) ≤ (ofN (s.len 0)))) && (decide ((ofN (s.len 0)) ≤ 9223372036854775807)))] : List Bool), b = true := (allC (andT (decide_eq_true (by (try unfold padd); (try unfold pmul); (try unfold itn); (try unfold iadd); (try unfold ofN); omega)) (decide_eq_true (by (try unfold padd); (try unfold pmul); (try unfold itn); (try unfold iadd); (try unfold ofN); omega))) allN)
  cases hc : (decide ((s.x.i 0) < (ofN (s.len 0)))) with
  | false =>
    refine ⟨⟨h0, (fun h => by cases h), (fun _ b hb => by cases hb)⟩, fun k s' h => ?_, fun s' h => ?_⟩
    · cases h; decide
    · cases h
  | true =>
    have hlt : s.x.i 0 < s.len 0 := of_decide_eq_true hc
    refine ⟨⟨h0, (fun _ => ((allC (andT (decide_eq_true (by (try unfold padd); (try unfold pmul); (try unfold itn); (try unfold iadd); (try unfold ofN); omega)) (decide_eq_true (by (try unfold padd); (try unfold pmul); (try unfold itn); (try unfold iadd); (try unfold ofN); omega))) (allC (andT (decide_eq_true (by (try unfold padd); (try unfold pmul); (try unfold itn); (try unfold iadd); (try unfold ofN); omega)) (decide_eq_true (by (try unfold padd); (try unfold pmul); (try unfold itn); (try unfold iadd); (try unfold ofN); omega))) (allC (decide_eq_true (by (try unfold padd); (try unfold pmul); (try unfold itn); (try unfold iadd); (try unfold ofN); omega)) (allC (decide_eq_true (by (try unfold padd); (try unfold pmul); (try unfold itn); (try unfold iadd); (try unfold ofN); omega)) (allC (decide_eq_true (by (try unfold padd); (try unfold pmul); (try unfold itn); (try unfold iadd); (try unfold ofN); omega)) (allC (andT (decide_eq_true (by (try unfold padd); (try unfold pmul); (try unfold itn); (try unfold iadd); (try unfold ofN); omega)) (decide_eq_true (by (try unfold padd); (try unfold pmul); (try unfold itn); (try unfold iadd); (try unfold ofN); omega))) (allC (decide_eq_true (by (try unfold padd); (try unfold pmul); (try unfold itn); (try unfold iadd); (try unfold ofN); omega)) (allC (decide_eq_true (by (try unfold padd); (try unfold pmul); (try unfold itn); (try unfold iadd); (try unfold ofN); omega)) (allC (decide_eq_true (by (try unfold padd); (try unfold pmul); (try unfold itn); (try unfold iadd); (try unfold ofN); omega)) allN))))))))) : ∀ b ∈ ([((decide ((-(9223372036854775807 + 1)) ≤ (iadd (s.x.i 0) 1))) && (decide ((iadd (s.x.i 0) 1) ≤ 9223372036854775807))), ((decide ((-(9223372036854775807 + 1)) ≤ (iadd (iadd (s.x.i 1) 1) 1))) && (decide ((iadd (iadd (s.x.i 1) 1) 1) ≤ 9223372036854775807))), (decide ((padd (padd 1 (pmul (itn (s.x.i 0)) 2)) 1) ≤ (s.n 0))), (decide (0 ≤ (s.x.i 0))), (decide ((s.x.i 0) < (s.len 0))), ((decide ((-(9223372036854775807 + 1)) ≤ (iadd (s.x.i 1) 1))) && (decide ((iadd (s.x.i 1) 1) ≤ 9223372036854775807))), (decide ((padd (padd 0 (pmul (itn (s.x.i 0)) 2)) 1) ≤ (s.n 0))), (decide (0 ≤ (s.x.i 0))), (decide ((s.x.i 0) < (s.len 0)))] : List Bool), b = true)), (fun h => by cases h)⟩, fun k s' h => ?_, fun s' h => ?_⟩
    · cases h
    · cases h
      obtain ⟨e0, e1, l0, n0⟩ := mzN_i s
      refine ⟨fun b hb => ?_, by unfold mzMu; omega⟩
      rw [List.mem_singleton.1 hb]
      exact mzB_to ⟨by omega, by omega, by omega, by omega, by omega, by omega⟩

theorem mzN_y (s : SV) (i : Nat) (hi : s.x.i 0 = i) (k : Int) (hk : s.x.i 1 = k + 2 * i) (h : Marked k (2 * i) (s.y 0)) : Marked k (2 * (i + 1)) ((mzN s).y 0) := by
  intro j hj
  have e : ((mzN s).y 0).u j = if j = 1 + i * 2 then fnear .f32 (iadd (s.x.i 1) 1) else (if j = 0 + i * 2 then fnear .f32 (s.x.i 1) else ((s.y 0).u j)) := by
    rw [show ((mzN s).y 0) = (pasteV (pasteV (s.y 0) (padd 0 (pmul (itn (s.x.i 0)) 2)) [.flt .f32 (fnear .f32 (s.x.i 1))]) (padd 1 (pmul (itn (s.x.i 0)) 2)) [.flt .f32 (fnear .f32 (iadd (s.x.i 1) 1))]) from by kernel_rfl]
    simp only [paste1]
    simp only [padd, pmul, itn, hi]
    rfl
  rw [e]
  by_cases q : j < 2 * i
  · rw [if_neg (by omega), if_neg (by omega)]
    exact h j q
  · have : j = 2 * i + 0 ∨ j = 2 * i + 1 := by omega
    rcases this with q0 | q1
    · rw [if_neg (by omega), if_pos (by omega)]
      refine congrArg (fnear .f32) ?_
      try simp only [iadd]
      omega
    · rw [if_pos (by omega)]
      refine congrArg (fnear .f32) ?_
      try simp only [iadd]
      omega

theorem mz_run (k : Int) (N : Nat) : ∀ (s : SV) (i : Nat), s.x.i 0 = i → i ≤ s.len 0 → s.x.i 1 = k + 2 * i → s.n 0 = 2 * s.len 0 → Marked k (2 * i) (s.y 0) → mzMu s < N →
    (Go.Sim.runT mzT N s).1 = 0 ∧ (Go.Sim.runT mzT N s).2.x.i 0 = k + 2 * s.len 0 ∧ (Go.Sim.runT mzT N s).2.n 0 = s.n 0 ∧ Marked k (2 * s.len 0) ((Go.Sim.runT mzT N s).2.y 0) := by
  induction N with
  | zero => intro s i _ _ _ _ _ h; omega
  | succ N ih =>
    intro s i hi hl hk hn hm hN
    simp only [Go.Sim.runT]
    cases hc : (decide ((s.x.i 0) < (ofN (s.len 0)))) with
    | false =>
      have e : (mzT s).pick = .out 0 (mzE s) := by unfold mzT; rw [hc]; rfl
      rw [e]
      have hge : ¬ s.x.i 0 < s.len 0 := of_decide_eq_false hc
      have hil : i = s.len 0 := by omega
      refine ⟨rfl, ?_, (show (mzE s).n 0 = s.n 0 from by kernel_rfl), ?_⟩
      · rw [show (mzE s).x.i 0 = s.x.i 1 from by kernel_rfl]
        omega
      · rw [show (mzE s).y 0 = s.y 0 from by kernel_rfl, ← hil]
        exact hm
    | true =>
      have e : (mzT s).pick = .next (mzN s) := by unfold mzT; rw [hc]; rfl
      rw [e]
      have hlt : s.x.i 0 < s.len 0 := of_decide_eq_true hc
      obtain ⟨e0, e1, l0, n0⟩ := mzN_i s
      have K := ih (mzN s) (i + 1) (by omega) (by omega) (by rw [e1, hk]; push_cast; omega) (by omega) (mzN_y s i hi k hk hm) (by unfold mzMu at hN ⊢; omega)
      rw [l0, n0] at K
      exact K

noncomputable def mzF0 (s : SV) : Nat × SV := Go.Sim.runT mzT (mzMu s + 1) s

noncomputable def mzF : SV → Nat × SV := Classical.choose (⟨mzF0, rfl⟩ : ∃ f, f = mzF0)

theorem mzF_eq : mzF = mzF0 := Classical.choose_spec (⟨mzF0, rfl⟩ : ∃ f, f = mzF0)

noncomputable def mzPre (s : SV) : List Bool := [mzB s]

noncomputable def Hmz : LTab := hookL 0 mzL mzPre mzF noLT

theorem Hmz_ok : HFun Try.prog 1 Hmz 20 := by
  unfold Hmz
  rw [mzF_eq]
  exact HFun.loop G17_ok mixed (J := true) (n := 1000) (L := mzL) (T := mzT) (pre := mzPre) (μ := mzMu) (HFun.none Try.prog 1 20) (by kernel_rfl) (by decide) (by decide) mz_t mz_go

def eqI : Frm := ⟨[.ssl 0 0 2, .ssl 1 0 2], [.sym (.flt .f32) false, .sym (.flt .f32) false]⟩

def eqSP (s : SV) : Prop := s.y 1 = s.y 0 ∧ s.len 0 = s.len 1 ∧ s.len 0 ≤ 1048576 ∧ s.n 0 = 2 * s.len 0 ∧ s.n 1 = 2 * s.len 1

noncomputable def eqSB (s : SV) : Bool := @decide (eqSP s) (Classical.propDecidable _)
theorem eqSB_of {s : SV} (h : eqSB s = true) : eqSP s := @of_decide_eq_true _ (Classical.propDecidable _) h
theorem eqSB_to {s : SV} (h : eqSP s) : eqSB s = true := @decide_eq_true _ (Classical.propDecidable _) h

noncomputable def ezSt (s : SV) : SV := (mkSV [(.int .i64 0)] [(s.len 0), (s.len 1)] [(s.n 0), (s.n 1)] [(s.y 0), (s.y 1)])

theorem ez_q (s : SV) : funH Try.prog G17 Hez true 1000 19 (mkVs s 0 0 eqI.vals) (mkM eqI s) [] = some ((.sbool (bif (!(decide ((ofN (s.len 0)) = (ofN (s.len 1))))) then false else (bif (Nat.beq (ezF (ezSt s)).1 0) then true else false))), [((!(decide ((ofN (s.len 0)) = (ofN (s.len 1))))) || (ezB (ezSt s))), ((decide ((-(9223372036854775807 + 1)) ≤ (ofN (s.len 1)))) && (decide ((ofN (s.len 1)) ≤ 9223372036854775807))), ((decide ((-(9223372036854775807 + 1)) ≤ (ofN (s.len 0)))) && (decide ((ofN (s.len 0)) ≤ 9223372036854775807)))]) := by kernel_rfl

theorem ezSt_B (s : SV) (h : eqSP s) : ezB (ezSt s) = true ∧ (ezF (ezSt s)).1 = 0 := by
  obtain ⟨h1, h2, h3, h4, h5⟩ := h
  have a0 : (ezSt s).x.i 0 = 0 := by kernel_rfl
  have a1 : (ezSt s).len 0 = s.len 0 := by kernel_rfl
  have a2 : (ezSt s).len 1 = s.len 1 := by kernel_rfl
  have a3 : (ezSt s).n 0 = s.n 0 := by kernel_rfl
  have a4 : (ezSt s).n 1 = s.n 1 := by kernel_rfl
  exact ⟨ezB_to ⟨by omega, by omega, by omega, by omega, by omega, by omega⟩, ez_yes _ ((show (ezSt s).y 1 = s.y 1 from by kernel_rfl).trans (h1.trans (show s.y 0 = (ezSt s).y 0 from by kernel_rfl)))⟩

noncomputable def eqSPre (s : SV) : List Bool := [eqSB s]

noncomputable def eqSR0 (_ : SV) : Vars := varsOf [.sbool true]

noncomputable def eqSR : SV → Vars := Classical.choose (⟨eqSR0, rfl⟩ : ∃ f, f = eqSR0)

theorem eqSR_eq : eqSR = eqSR0 := Classical.choose_spec (⟨eqSR0, rfl⟩ : ∃ f, f = eqSR0)

noncomputable def GQ : Summ := addG 19 (sumQ eqI [.sc (.bool)] eqSPre eqSR) G17

theorem GQ_ok : SoundG Try.prog GQ := by
  unfold GQ
  rw [eqSR_eq]
  refine SoundG.sumQ G17_ok mixed Try.call19 G17_ok (by decide) fun s hp => ?_
  have h := eqSB_of (hp _ (List.mem_cons_self ..))
  obtain ⟨hB, h0⟩ := ezSt_B s h
  obtain ⟨i1, i2, i3, i4, i5⟩ := h
  refine ⟨Hez, true, 1000, [], _, _, Hez_ok, ez_q s, ?_, rfl, rfl, ?_⟩
  · rw [h0, decide_eq_true (congrArg ofN i2)]
    rfl
  · rw [hB, Bool.or_true]
    exact (allC rfl (allC (andT (decide_eq_true (by simp only [ofN]; omega)) (decide_eq_true (by simp only [ofN]; omega))) (allC (andT (decide_eq_true (by simp only [ofN]; omega)) (decide_eq_true (by simp only [ofN]; omega))) allN)))

def maI : Frm := ⟨[.ssl 0 0 2, .sc (.int .i64)], [.sym (.flt .f32) true]⟩

def maO : Frm := ⟨[.sc (.int .i64)], [.sym (.flt .f32) true]⟩

def maP (s : SV) : Prop := s.x.i 0 = 1 ∧ s.len 0 ≤ 1048576 ∧ s.n 0 = 2 * s.len 0

noncomputable def maB (s : SV) : Bool := @decide (maP s) (Classical.propDecidable _)
theorem maB_of {s : SV} (h : maB s = true) : maP s := @of_decide_eq_true _ (Classical.propDecidable _) h
theorem maB_to {s : SV} (h : maP s) : maB s = true := @decide_eq_true _ (Classical.propDecidable _) h

noncomputable def maPre (s : SV) : List Bool := [maB s]

noncomputable def mzSt (s : SV) : SV := (mkSV [(.int .i64 0), (.sint .i64 (s.x.i 0))] [(s.len 0)] [(s.n 0)] [(s.y 0)])

noncomputable def maR0 (s : SV) : SV := (mkSV [(.sint .i64 ((mzF (mzSt s)).2.x.i 0))] [] [((mzF (mzSt s)).2.n 0)] [((mzF (mzSt s)).2.y 0)])

noncomputable def maR : SV → SV := Classical.choose (⟨maR0, rfl⟩ : ∃ f, f = maR0)

theorem maR_eq : maR = maR0 := Classical.choose_spec (⟨maR0, rfl⟩ : ∃ f, f = maR0)

theorem mz_q (s : SV) : funT Try.prog G17 Hmz true 1000 20 1 [maO] (mkVs s 0 0 maI.vals) (mkM maI s) [] = some (.out 0 (maR0 s) [(mzB (mzSt s))]) := by kernel_rfl

noncomputable def GM : Summ := addG 20 (sumW maI maO maPre maR) GQ

theorem mzSt_B (s : SV) (h : maP s) : mzB (mzSt s) = true ∧ (maR s).x.i 0 = 1 + 2 * s.len 0 := by
  obtain ⟨h1, h2, h3⟩ := h
  have a0 : (mzSt s).x.i 0 = 0 := by kernel_rfl
  have a1 : (mzSt s).len 0 = s.len 0 := by kernel_rfl
  have a2 : (mzSt s).x.i 1 = s.x.i 0 := by kernel_rfl
  have a3 : (mzSt s).n 0 = s.n 0 := by kernel_rfl
  have hP : mzP (mzSt s) := ⟨by omega, by omega, by omega, by omega, by omega, by omega⟩
  refine ⟨mzB_to hP, ?_⟩
  obtain ⟨r1, r2, r3, r4⟩ := mz_run 1 (mzMu (mzSt s) + 1) (mzSt s) 0 (by rw [a0]; rfl) (by omega) (by rw [a2, h1]; rfl) (by rw [a1, a3]; exact h3) (fun j hj => absurd hj (by omega)) (Nat.lt_succ_self _)
  have e : mzF (mzSt s) = Go.Sim.runT mzT (mzMu (mzSt s) + 1) (mzSt s) := by rw [mzF_eq]; rfl
  rw [maR_eq, a1] at *
  rw [show (maR0 s).x.i 0 = (mzF (mzSt s)).2.x.i 0 from by kernel_rfl, e]; exact r2

theorem GM_ok : SoundG Try.prog GM := by
  unfold GM
  rw [maR_eq]
  refine SoundG.sumW GQ_ok mixed Try.call20 G17_ok (by decide) fun s hp => ?_
  have h := maB_of (hp _ (List.mem_cons_self ..))
  have hB := (mzSt_B s h).1
  exact ⟨Hmz, true, 1000, [], _, [maO], 0, Hmz_ok, mz_q s, allC hB allN, rfl, rfl⟩

end Go.Proofs.Ytekilpllicggeaa

/-
  Facts of this seat that its laws use; no conditions.
-/
import Derived.Test.YtagkkkplmilkhaaAska
namespace Go.Proofs.Ytagkkkplmilkhaa
open Go.Sim Go.ChangeShapes Go.WideShapes Go.ChangeAt Go.RowKit

noncomputable def asS7_v_2 (s : SV) : Vars := (isFilmR [(.flt .f32 ((s.y 2).u (padd 2 (pmul (itn (s.x.i 0)) 8))))])

noncomputable def asS7_v_3 (s : SV) : Vars := (isFilmR [(.flt .f32 ((s.y 2).u (padd 3 (pmul (itn (s.x.i 0)) 8))))])

noncomputable def asS7_v_4 (s : SV) : Vars := (isFilmR [(.flt .f32 ((s.y 2).u (padd 4 (pmul (itn (s.x.i 0)) 8))))])

noncomputable def asS7_v_5 (s : SV) : Vars := (isFilmR [(.flt .f32 ((s.y 2).u (padd 5 (pmul (itn (s.x.i 0)) 8))))])

noncomputable def asS7_v_6 (s : SV) : Vars := (isFilmR [(.flt .f32 ((s.y 2).u (padd 6 (pmul (itn (s.x.i 0)) 8))))])

noncomputable def asS7N (s : SV) : SV := (mkSV (apl [(.sint .i64 (iadd (s.x.i 0) 1))] (apl (fl s.x 1 8) (apl [(.sint .i8 (s.x.i 9))] (apl (fl s.x 10 14) (apl [(.sint .i8 (s.x.i 24))] (apl (fl s.x 25 14) (apl [(.sint .i8 (s.x.i 39))] (apl (fl s.x 40 14) (apl [(.sint .i8 (s.x.i 54))] (apl (fl s.x 55 14) (apl [(.sint .i8 (s.x.i 69))] (apl (fl s.x 70 14) (apl [(.sint .i8 (s.x.i 84))] (apl (fl s.x 85 14) (apl [(.sint .i8 (s.x.i 99))] (apl (fl s.x 100 14) (apl [(.sint .i8 (s.x.i 114))] (apl (fl s.x 115 32) ([(.sint .i16 (s.x.i 147))]))))))))))))))))))) [(s.len 0)] [0, 0, (s.n 2)] [zeroV, zeroV, (s.y 2)])
noncomputable def asS7X (s : SV) : SV := (mkSV (apl (fl s.x 1 8) (apl [(.sint .i8 (s.x.i 9))] (apl (fl s.x 10 14) (apl [(.sint .i8 (s.x.i 24))] (apl (fl s.x 25 14) (apl [(.sint .i8 (s.x.i 39))] (apl (fl s.x 40 14) (apl [(.sint .i8 (s.x.i 54))] (apl (fl s.x 55 14) (apl [(.sint .i8 (s.x.i 69))] (apl (fl s.x 70 14) (apl [(.sint .i8 (s.x.i 84))] (apl (fl s.x 85 14) (apl [(.sint .i8 (s.x.i 99))] (apl (fl s.x 100 14) (apl [(.sint .i8 (s.x.i 114))] (apl (fl s.x 115 32) ([(.sint .i16 (s.x.i 147))])))))))))))))))))) [] [0, 0, (s.n 2)] [zeroV, zeroV, (s.y 2)])
noncomputable def asS7E (s : SV) : SV := (mkSV (apl (fl s.x 1 8) (apl [(.sint .i8 (s.x.i 9))] (apl (fl s.x 10 14) (apl [(.sint .i8 (s.x.i 24))] (apl (fl s.x 25 14) (apl [(.sint .i8 (s.x.i 39))] (apl (fl s.x 40 14) (apl [(.sint .i8 (s.x.i 54))] (apl (fl s.x 55 14) (apl [(.sint .i8 (s.x.i 69))] (apl (fl s.x 70 14) (apl [(.sint .i8 (s.x.i 84))] (apl (fl s.x 85 14) (apl [(.sint .i8 (s.x.i 99))] (apl (fl s.x 100 14) (apl [(.sint .i8 (s.x.i 114))] (apl (fl s.x 115 32) ([(.sint .i16 (s.x.i 147))])))))))))))))))))) [] [0, 0, (s.n 2)] [zeroV, zeroV, (s.y 2)])

noncomputable def asS7T (s : SV) : Tr := .node [((decide ((-(9223372036854775807 + 1)) ≤ (ofN (s.len 0)))) && (decide ((ofN (s.len 0)) ≤ 9223372036854775807)))] (decide ((s.x.i 0) < (ofN (s.len 0)))) (.node [(decide ((padd 0 (pmul (itn (s.x.i 0)) 8)) < (s.n 2))), (decide (0 ≤ (s.x.i 0))), (decide ((s.x.i 0) < (s.len 0)))] (!((asS7_v_0 s).b 0)) (.out 1 (asS7X s) []) (.node [(decide ((padd 1 (pmul (itn (s.x.i 0)) 8)) < (s.n 2))), (decide (0 ≤ (s.x.i 0))), (decide ((s.x.i 0) < (s.len 0)))] (!((asS7_v_1 s).b 0)) (.out 1 (asS7X s) []) (.node [(decide ((padd 2 (pmul (itn (s.x.i 0)) 8)) < (s.n 2))), (decide (0 ≤ (s.x.i 0))), (decide ((s.x.i 0) < (s.len 0)))] (!((asS7_v_2 s).b 0)) (.out 1 (asS7X s) []) (.node [(decide ((padd 3 (pmul (itn (s.x.i 0)) 8)) < (s.n 2))), (decide (0 ≤ (s.x.i 0))), (decide ((s.x.i 0) < (s.len 0)))] (!((asS7_v_3 s).b 0)) (.out 1 (asS7X s) []) (.node [(decide ((padd 4 (pmul (itn (s.x.i 0)) 8)) < (s.n 2))), (decide (0 ≤ (s.x.i 0))), (decide ((s.x.i 0) < (s.len 0)))] (!((asS7_v_4 s).b 0)) (.out 1 (asS7X s) []) (.node [(decide ((padd 5 (pmul (itn (s.x.i 0)) 8)) < (s.n 2))), (decide (0 ≤ (s.x.i 0))), (decide ((s.x.i 0) < (s.len 0)))] (!((asS7_v_5 s).b 0)) (.out 1 (asS7X s) []) (.node [(decide ((padd 6 (pmul (itn (s.x.i 0)) 8)) < (s.n 2))), (decide (0 ≤ (s.x.i 0))), (decide ((s.x.i 0) < (s.len 0)))] (!((asS7_v_6 s).b 0)) (.out 1 (asS7X s) []) (.next (asS7N s) [((decide ((-(9223372036854775807 + 1)) ≤ (iadd (s.x.i 0) 1))) && (decide ((iadd (s.x.i 0) 1) ≤ 9223372036854775807)))])))))))) (.out 0 (asS7E s) [])

theorem asS7_t (s : SV) : Go.Sim.stepT Try.prog G30 (ntOf Try.prog 53) noLT true 1000 asS7L (loopOf Try.prog 53 0) s = some (asS7T s) := by kernel_rfl

def asS7P (s : SV) : Prop := 0 ≤ s.x.i 0 ∧ s.x.i 0 ≤ s.len 0 ∧ s.len 0 ≤ 1048576 ∧ s.n 2 = 8 * s.len 0

noncomputable def asS7B (s : SV) : Bool := @decide (asS7P s) (Classical.propDecidable _)
theorem asS7B_of {s : SV} (h : asS7B s = true) : asS7P s := @of_decide_eq_true _ (Classical.propDecidable _) h
theorem asS7B_to {s : SV} (h : asS7P s) : asS7B s = true := @decide_eq_true _ (Classical.propDecidable _) h

theorem asS7N_k (s : SV) : (asS7N s).x.i 0 = s.x.i 0 + 1 ∧ (asS7N s).len 0 = s.len 0 ∧ (asS7N s).n 2 = s.n 2 ∧ (asS7N s).y 2 = s.y 2 := ⟨by kernel_rfl, by kernel_rfl, by kernel_rfl, by kernel_rfl⟩

def asS7Mu (s : SV) : Nat := ((s.len 0 : Int) - s.x.i 0).toNat

theorem asS7_pick (s : SV) (hlt : (decide ((s.x.i 0) < (ofN (s.len 0)))) = true) : (asS7T s).pick = (bif rowOk 7 (s.y 2) (s.x.i 0).toNat then .next (asS7N s) else .out 1 (asS7X s)) := by
  have f0 : (isFilmR [.flt .f32 ((s.y 2).u (8 * (s.x.i 0).toNat + 0))]).b 0 = (asS7_v_0 s).b 0 := by
    rw [← idxS 0 (s.x.i 0)]
    rfl
  have f1 : (isFilmR [.flt .f32 ((s.y 2).u (8 * (s.x.i 0).toNat + 1))]).b 0 = (asS7_v_1 s).b 0 := by
    rw [← idxS 1 (s.x.i 0)]
    rfl
  have f2 : (isFilmR [.flt .f32 ((s.y 2).u (8 * (s.x.i 0).toNat + 2))]).b 0 = (asS7_v_2 s).b 0 := by
    rw [← idxS 2 (s.x.i 0)]
    rfl
  have f3 : (isFilmR [.flt .f32 ((s.y 2).u (8 * (s.x.i 0).toNat + 3))]).b 0 = (asS7_v_3 s).b 0 := by
    rw [← idxS 3 (s.x.i 0)]
    rfl
  have f4 : (isFilmR [.flt .f32 ((s.y 2).u (8 * (s.x.i 0).toNat + 4))]).b 0 = (asS7_v_4 s).b 0 := by
    rw [← idxS 4 (s.x.i 0)]
    rfl
  have f5 : (isFilmR [.flt .f32 ((s.y 2).u (8 * (s.x.i 0).toNat + 5))]).b 0 = (asS7_v_5 s).b 0 := by
    rw [← idxS 5 (s.x.i 0)]
    rfl
  have f6 : (isFilmR [.flt .f32 ((s.y 2).u (8 * (s.x.i 0).toNat + 6))]).b 0 = (asS7_v_6 s).b 0 := by
    rw [← idxS 6 (s.x.i 0)]
    rfl
  unfold asS7T
  rw [hlt]
  show _ = (bif ((isFilmR [.flt .f32 ((s.y 2).u (8 * (s.x.i 0).toNat + 0))]).b 0 && ((isFilmR [.flt .f32 ((s.y 2).u (8 * (s.x.i 0).toNat + 1))]).b 0 && ((isFilmR [.flt .f32 ((s.y 2).u (8 * (s.x.i 0).toNat + 2))]).b 0 && ((isFilmR [.flt .f32 ((s.y 2).u (8 * (s.x.i 0).toNat + 3))]).b 0 && ((isFilmR [.flt .f32 ((s.y 2).u (8 * (s.x.i 0).toNat + 4))]).b 0 && ((isFilmR [.flt .f32 ((s.y 2).u (8 * (s.x.i 0).toNat + 5))]).b 0 && ((isFilmR [.flt .f32 ((s.y 2).u (8 * (s.x.i 0).toNat + 6))]).b 0 && (true)))))))) then _ else _)
  rw [f0, f1, f2, f3, f4, f5, f6]
  cases v0 : (asS7_v_0 s).b 0 with
  | false =>
    rfl
  | true =>
    cases v1 : (asS7_v_1 s).b 0 with
    | false =>
      rfl
    | true =>
      cases v2 : (asS7_v_2 s).b 0 with
      | false =>
        rfl
      | true =>
        cases v3 : (asS7_v_3 s).b 0 with
        | false =>
          rfl
        | true =>
          cases v4 : (asS7_v_4 s).b 0 with
          | false =>
            rfl
          | true =>
            cases v5 : (asS7_v_5 s).b 0 with
            | false =>
              rfl
            | true =>
              cases v6 : (asS7_v_6 s).b 0 with
              | false =>
                rfl
              | true =>
                rfl

theorem asS7_go (s : SV) (hp : ∀ b ∈ [asS7B s], b = true) :
    (asS7T s).ok ∧ (∀ k s', (asS7T s).pick = .out k s' → k < 2) ∧ ∀ s', (asS7T s).pick = .next s' → (∀ b ∈ [asS7B s'], b = true) ∧ asS7Mu s' < asS7Mu s := by
  obtain ⟨i1, i2, i3, i4⟩ := asS7B_of (hp _ (List.mem_cons_self ..))
  cases hc : (decide ((s.x.i 0) < (ofN (s.len 0)))) with
  | false =>
    have hk : (asS7T s).pick = .out 0 (asS7E s) := by unfold asS7T; rw [hc]; rfl
    refine ⟨?_, fun k s' h => ?_, fun s' h => ?_⟩
    · unfold asS7T
      exact ⟨(allC (andT (decide_eq_true (by unfold ofN; omega)) (decide_eq_true (by unfold ofN; omega))) allN), (fun h => by rw [hc] at h; cases h), (fun _ b hb => by cases hb)⟩
    · rw [hk] at h; cases h; decide
    · rw [hk] at h; cases h
  | true =>
    have hlt := of_decide_eq_true hc
    (try unfold ofN at hlt)
    refine ⟨?_, fun k s' h => ?_, fun s' h => ?_⟩
    · unfold asS7T
      exact ⟨(allC (andT (decide_eq_true (by unfold ofN; omega)) (decide_eq_true (by unfold ofN; omega))) allN), (fun _ => ⟨(allC (decide_eq_true (by unfold padd pmul itn; omega)) (allC (decide_eq_true (by omega)) (allC (decide_eq_true (by omega)) allN))), (fun _ b hb => by cases hb), (fun _ => ⟨(allC (decide_eq_true (by unfold padd pmul itn; omega)) (allC (decide_eq_true (by omega)) (allC (decide_eq_true (by omega)) allN))), (fun _ b hb => by cases hb), (fun _ => ⟨(allC (decide_eq_true (by unfold padd pmul itn; omega)) (allC (decide_eq_true (by omega)) (allC (decide_eq_true (by omega)) allN))), (fun _ b hb => by cases hb), (fun _ => ⟨(allC (decide_eq_true (by unfold padd pmul itn; omega)) (allC (decide_eq_true (by omega)) (allC (decide_eq_true (by omega)) allN))), (fun _ b hb => by cases hb), (fun _ => ⟨(allC (decide_eq_true (by unfold padd pmul itn; omega)) (allC (decide_eq_true (by omega)) (allC (decide_eq_true (by omega)) allN))), (fun _ b hb => by cases hb), (fun _ => ⟨(allC (decide_eq_true (by unfold padd pmul itn; omega)) (allC (decide_eq_true (by omega)) (allC (decide_eq_true (by omega)) allN))), (fun _ b hb => by cases hb), (fun _ => ⟨(allC (decide_eq_true (by unfold padd pmul itn; omega)) (allC (decide_eq_true (by omega)) (allC (decide_eq_true (by omega)) allN))), (fun _ b hb => by cases hb), (fun _ => (allC (andT (decide_eq_true (by unfold iadd; omega)) (decide_eq_true (by unfold iadd; omega))) allN))⟩)⟩)⟩)⟩)⟩)⟩)⟩), (fun h => by rw [hc] at h; cases h)⟩
    · rw [asS7_pick s hc] at h
      cases hr : rowOk 7 (s.y 2) (s.x.i 0).toNat with
      | false => rw [hr] at h; cases h; decide
      | true => rw [hr] at h; cases h
    · rw [asS7_pick s hc] at h
      cases hr : rowOk 7 (s.y 2) (s.x.i 0).toNat with
      | false => rw [hr] at h; cases h
      | true =>
        rw [hr] at h
        cases h
        obtain ⟨e0, l0, n0, y0⟩ := asS7N_k s
        refine ⟨fun b hb => ?_, by unfold asS7Mu; omega⟩
        rw [List.mem_singleton.1 hb]
        exact asS7B_to ⟨by omega, by omega, by omega, by omega⟩

noncomputable def asS7F0 (s : SV) : Nat × SV := Go.Sim.runT asS7T (asS7Mu s + 1) s

noncomputable def asS7F : SV → Nat × SV := Classical.choose (⟨asS7F0, rfl⟩ : ∃ f, f = asS7F0)

theorem asS7F_eq : asS7F = asS7F0 := Classical.choose_spec (⟨asS7F0, rfl⟩ : ∃ f, f = asS7F0)

noncomputable def asS7Pre (s : SV) : List Bool := [asS7B s]

noncomputable def HasS7 : LTab := hookL 0 asS7L asS7Pre asS7F noLT

theorem HasS7_ok : HFun Try.prog 3 HasS7 53 := by
  unfold HasS7
  rw [asS7F_eq]
  exact HFun.loop G30_ok mixed (J := true) (n := 1000) (L := asS7L) (T := asS7T) (pre := asS7Pre) (μ := asS7Mu) (HFun.none Try.prog 3 53) (by kernel_rfl) (by decide) (by decide) asS7_t asS7_go

theorem asS7_yes (s : SV) (h0 : 0 ≤ s.x.i 0) (h1 : s.x.i 0 ≤ s.len 0) :
    ((∀ j : Nat, s.x.i 0 ≤ j → j < s.len 0 → rowOk 7 (s.y 2) j = true) → (asS7F s).1 = 0) ∧ ((¬ ∀ j : Nat, s.x.i 0 ≤ j → j < s.len 0 → rowOk 7 (s.y 2) j = true) → (asS7F s).1 = 1) := by
  rw [asS7F_eq]
  refine ask_run (T := asS7T) (N := asS7N) (X := asS7X) (E := asS7E) (fun r => r.y 2 = s.y 2) (rowOk 7 (s.y 2)) (fun r hr hlt => ?_) (fun r hr => ?_) (fun r hr hlt => ?_) _ s rfl h0 h1 (Nat.lt_succ_self _)
  · have hy := hr
    rw [← hy]
    exact asS7_pick r (decide_eq_true (show r.x.i 0 < ofN (r.len 0) from hlt))
  · obtain ⟨e0, l0, n0, y0⟩ := asS7N_k r
    exact ⟨e0, l0, y0.trans hr⟩
  · unfold asS7T
    rw [decide_eq_false (show ¬ r.x.i 0 < ofN (r.len 0) from hlt)]
    rfl

noncomputable def asI7_v_0 (s : SV) : Vars := (isFilmR [(.flt .f32 ((s.y 0).u (padd (padd 0 (pmul (itn (s.x.i 0)) 8)) 0)))])

noncomputable def asI7_v_1 (s : SV) : Vars := (isFilmR [(.flt .f32 ((s.y 0).u (padd (padd 0 (pmul (itn (s.x.i 0)) 8)) 1)))])

noncomputable def asI7_v_2 (s : SV) : Vars := (isFilmR [(.flt .f32 ((s.y 0).u (padd (padd 0 (pmul (itn (s.x.i 0)) 8)) 2)))])

noncomputable def asI7_v_3 (s : SV) : Vars := (isFilmR [(.flt .f32 ((s.y 0).u (padd (padd 0 (pmul (itn (s.x.i 0)) 8)) 3)))])

noncomputable def asI7_v_4 (s : SV) : Vars := (isFilmR [(.flt .f32 ((s.y 0).u (padd (padd 0 (pmul (itn (s.x.i 0)) 8)) 4)))])

noncomputable def asI7_v_5 (s : SV) : Vars := (isFilmR [(.flt .f32 ((s.y 0).u (padd (padd 0 (pmul (itn (s.x.i 0)) 8)) 5)))])

noncomputable def asI7_v_6 (s : SV) : Vars := (isFilmR [(.flt .f32 ((s.y 0).u (padd (padd 0 (pmul (itn (s.x.i 0)) 8)) 6)))])

noncomputable def asI7N (s : SV) : SV := (mkSV (apl [(.sint .i64 (iadd (s.x.i 0) 1)), (.sint .i64 (s.x.i 1))] (apl (fl s.x 2 8) (apl [(.sint .i8 (s.x.i 10))] (apl (fl s.x 11 14) (apl [(.sint .i8 (s.x.i 25))] (apl (fl s.x 26 14) (apl [(.sint .i8 (s.x.i 40))] (apl (fl s.x 41 14) (apl [(.sint .i8 (s.x.i 55))] (apl (fl s.x 56 14) (apl [(.sint .i8 (s.x.i 70))] (apl (fl s.x 71 14) (apl [(.sint .i8 (s.x.i 85))] (apl (fl s.x 86 14) (apl [(.sint .i8 (s.x.i 100))] (apl (fl s.x 101 14) (apl [(.sint .i8 (s.x.i 115))] (fl s.x 116 14)))))))))))))))))) [(s.len 0)] [(s.n 0), 0] [(s.y 0), zeroV])
noncomputable def asI7X (s : SV) : SV := (mkSV [] [] [(s.n 0)] [(s.y 0)])
noncomputable def asI7E (s : SV) : SV := (mkSV [] [] [(s.n 0)] [(s.y 0)])

noncomputable def asI7T (s : SV) : Tr := .node [] (decide ((s.x.i 0) < (s.x.i 1))) (.node [(decide ((padd (padd 0 (pmul (itn (s.x.i 0)) 8)) 8) ≤ (s.n 0))), (decide (0 ≤ (s.x.i 0))), (decide ((s.x.i 0) < (s.len 0)))] (!((asI7_v_0 s).b 0)) (.out 1 (asI7X s) []) (.node [] (!((asI7_v_1 s).b 0)) (.out 1 (asI7X s) []) (.node [] (!((asI7_v_2 s).b 0)) (.out 1 (asI7X s) []) (.node [] (!((asI7_v_3 s).b 0)) (.out 1 (asI7X s) []) (.node [] (!((asI7_v_4 s).b 0)) (.out 1 (asI7X s) []) (.node [] (!((asI7_v_5 s).b 0)) (.out 1 (asI7X s) []) (.node [] (!((asI7_v_6 s).b 0)) (.out 1 (asI7X s) []) (.next (asI7N s) [((decide ((-(9223372036854775807 + 1)) ≤ (iadd (s.x.i 0) 1))) && (decide ((iadd (s.x.i 0) 1) ≤ 9223372036854775807)))])))))))) (.out 0 (asI7E s) [])

theorem asI7_t (s : SV) : Go.Sim.stepT Try.prog G30 (ntOf Try.prog 79) noLT true 1000 asI7L (loopOf Try.prog 79 0) s = some (asI7T s) := by kernel_rfl

def asI7P (s : SV) : Prop := 0 ≤ s.x.i 0 ∧ s.x.i 0 ≤ s.len 0 ∧ s.len 0 ≤ 1048576 ∧ s.n 0 = 8 * s.len 0 ∧ s.x.i 1 = s.len 0

noncomputable def asI7B (s : SV) : Bool := @decide (asI7P s) (Classical.propDecidable _)
theorem asI7B_of {s : SV} (h : asI7B s = true) : asI7P s := @of_decide_eq_true _ (Classical.propDecidable _) h
theorem asI7B_to {s : SV} (h : asI7P s) : asI7B s = true := @decide_eq_true _ (Classical.propDecidable _) h

theorem asI7N_k (s : SV) : (asI7N s).x.i 0 = s.x.i 0 + 1 ∧ (asI7N s).len 0 = s.len 0 ∧ (asI7N s).n 0 = s.n 0 ∧ (asI7N s).y 0 = s.y 0 ∧ (asI7N s).x.i 1 = s.x.i 1 := ⟨by kernel_rfl, by kernel_rfl, by kernel_rfl, by kernel_rfl, by kernel_rfl⟩

def asI7Mu (s : SV) : Nat := ((s.len 0 : Int) - s.x.i 0).toNat

theorem asI7_pick (s : SV) (hlt : (decide ((s.x.i 0) < (s.x.i 1))) = true) : (asI7T s).pick = (bif rowOk 7 (s.y 0) (s.x.i 0).toNat then .next (asI7N s) else .out 1 (asI7X s)) := by
  have f0 : (isFilmR [.flt .f32 ((s.y 0).u (8 * (s.x.i 0).toNat + 0))]).b 0 = (asI7_v_0 s).b 0 := by
    rw [← idxI 0 (s.x.i 0)]
    rfl
  have f1 : (isFilmR [.flt .f32 ((s.y 0).u (8 * (s.x.i 0).toNat + 1))]).b 0 = (asI7_v_1 s).b 0 := by
    rw [← idxI 1 (s.x.i 0)]
    rfl
  have f2 : (isFilmR [.flt .f32 ((s.y 0).u (8 * (s.x.i 0).toNat + 2))]).b 0 = (asI7_v_2 s).b 0 := by
    rw [← idxI 2 (s.x.i 0)]
    rfl
  have f3 : (isFilmR [.flt .f32 ((s.y 0).u (8 * (s.x.i 0).toNat + 3))]).b 0 = (asI7_v_3 s).b 0 := by
    rw [← idxI 3 (s.x.i 0)]
    rfl
  have f4 : (isFilmR [.flt .f32 ((s.y 0).u (8 * (s.x.i 0).toNat + 4))]).b 0 = (asI7_v_4 s).b 0 := by
    rw [← idxI 4 (s.x.i 0)]
    rfl
  have f5 : (isFilmR [.flt .f32 ((s.y 0).u (8 * (s.x.i 0).toNat + 5))]).b 0 = (asI7_v_5 s).b 0 := by
    rw [← idxI 5 (s.x.i 0)]
    rfl
  have f6 : (isFilmR [.flt .f32 ((s.y 0).u (8 * (s.x.i 0).toNat + 6))]).b 0 = (asI7_v_6 s).b 0 := by
    rw [← idxI 6 (s.x.i 0)]
    rfl
  unfold asI7T
  rw [hlt]
  show _ = (bif ((isFilmR [.flt .f32 ((s.y 0).u (8 * (s.x.i 0).toNat + 0))]).b 0 && ((isFilmR [.flt .f32 ((s.y 0).u (8 * (s.x.i 0).toNat + 1))]).b 0 && ((isFilmR [.flt .f32 ((s.y 0).u (8 * (s.x.i 0).toNat + 2))]).b 0 && ((isFilmR [.flt .f32 ((s.y 0).u (8 * (s.x.i 0).toNat + 3))]).b 0 && ((isFilmR [.flt .f32 ((s.y 0).u (8 * (s.x.i 0).toNat + 4))]).b 0 && ((isFilmR [.flt .f32 ((s.y 0).u (8 * (s.x.i 0).toNat + 5))]).b 0 && ((isFilmR [.flt .f32 ((s.y 0).u (8 * (s.x.i 0).toNat + 6))]).b 0 && (true)))))))) then _ else _)
  rw [f0, f1, f2, f3, f4, f5, f6]
  cases v0 : (asI7_v_0 s).b 0 with
  | false =>
    rfl
  | true =>
    cases v1 : (asI7_v_1 s).b 0 with
    | false =>
      rfl
    | true =>
      cases v2 : (asI7_v_2 s).b 0 with
      | false =>
        rfl
      | true =>
        cases v3 : (asI7_v_3 s).b 0 with
        | false =>
          rfl
        | true =>
          cases v4 : (asI7_v_4 s).b 0 with
          | false =>
            rfl
          | true =>
            cases v5 : (asI7_v_5 s).b 0 with
            | false =>
              rfl
            | true =>
              cases v6 : (asI7_v_6 s).b 0 with
              | false =>
                rfl
              | true =>
                rfl

theorem asI7_go (s : SV) (hp : ∀ b ∈ [asI7B s], b = true) :
    (asI7T s).ok ∧ (∀ k s', (asI7T s).pick = .out k s' → k < 2) ∧ ∀ s', (asI7T s).pick = .next s' → (∀ b ∈ [asI7B s'], b = true) ∧ asI7Mu s' < asI7Mu s := by
  obtain ⟨i1, i2, i3, i4, i5⟩ := asI7B_of (hp _ (List.mem_cons_self ..))
  cases hc : (decide ((s.x.i 0) < (s.x.i 1))) with
  | false =>
    have hk : (asI7T s).pick = .out 0 (asI7E s) := by unfold asI7T; rw [hc]; rfl
    refine ⟨?_, fun k s' h => ?_, fun s' h => ?_⟩
    · unfold asI7T
      exact ⟨allN, (fun h => by rw [hc] at h; cases h), (fun _ b hb => by cases hb)⟩
    · rw [hk] at h; cases h; decide
    · rw [hk] at h; cases h
  | true =>
    have hlt := of_decide_eq_true hc
    (try unfold ofN at hlt)
    refine ⟨?_, fun k s' h => ?_, fun s' h => ?_⟩
    · unfold asI7T
      exact ⟨allN, (fun _ => ⟨(allC (decide_eq_true (by unfold padd pmul itn; omega)) (allC (decide_eq_true (by omega)) (allC (decide_eq_true (by omega)) allN))), (fun _ b hb => by cases hb), (fun _ => ⟨allN, (fun _ b hb => by cases hb), (fun _ => ⟨allN, (fun _ b hb => by cases hb), (fun _ => ⟨allN, (fun _ b hb => by cases hb), (fun _ => ⟨allN, (fun _ b hb => by cases hb), (fun _ => ⟨allN, (fun _ b hb => by cases hb), (fun _ => ⟨allN, (fun _ b hb => by cases hb), (fun _ => (allC (andT (decide_eq_true (by unfold iadd; omega)) (decide_eq_true (by unfold iadd; omega))) allN))⟩)⟩)⟩)⟩)⟩)⟩)⟩), (fun h => by rw [hc] at h; cases h)⟩
    · rw [asI7_pick s hc] at h
      cases hr : rowOk 7 (s.y 0) (s.x.i 0).toNat with
      | false => rw [hr] at h; cases h; decide
      | true => rw [hr] at h; cases h
    · rw [asI7_pick s hc] at h
      cases hr : rowOk 7 (s.y 0) (s.x.i 0).toNat with
      | false => rw [hr] at h; cases h
      | true =>
        rw [hr] at h
        cases h
        obtain ⟨e0, l0, n0, y0, x1⟩ := asI7N_k s
        refine ⟨fun b hb => ?_, by unfold asI7Mu; omega⟩
        rw [List.mem_singleton.1 hb]
        exact asI7B_to ⟨by omega, by omega, by omega, by omega, by omega⟩

noncomputable def asI7F0 (s : SV) : Nat × SV := Go.Sim.runT asI7T (asI7Mu s + 1) s

noncomputable def asI7F : SV → Nat × SV := Classical.choose (⟨asI7F0, rfl⟩ : ∃ f, f = asI7F0)

theorem asI7F_eq : asI7F = asI7F0 := Classical.choose_spec (⟨asI7F0, rfl⟩ : ∃ f, f = asI7F0)

noncomputable def asI7Pre (s : SV) : List Bool := [asI7B s]

noncomputable def HasI7 : LTab := hookL 0 asI7L asI7Pre asI7F noLT

theorem HasI7_ok : HFun Try.prog 1 HasI7 79 := by
  unfold HasI7
  rw [asI7F_eq]
  exact HFun.loop G30_ok mixed (J := true) (n := 1000) (L := asI7L) (T := asI7T) (pre := asI7Pre) (μ := asI7Mu) (HFun.none Try.prog 1 79) (by kernel_rfl) (by decide) (by decide) asI7_t asI7_go

theorem asI7_yes (s : SV) (h0 : 0 ≤ s.x.i 0) (h1 : s.x.i 0 ≤ s.len 0) (hx : s.x.i 1 = s.len 0) :
    ((∀ j : Nat, s.x.i 0 ≤ j → j < s.len 0 → rowOk 7 (s.y 0) j = true) → (asI7F s).1 = 0) ∧ ((¬ ∀ j : Nat, s.x.i 0 ≤ j → j < s.len 0 → rowOk 7 (s.y 0) j = true) → (asI7F s).1 = 1) := by
  rw [asI7F_eq]
  refine ask_run (T := asI7T) (N := asI7N) (X := asI7X) (E := asI7E) (fun r => r.y 0 = s.y 0 ∧ r.x.i 1 = r.len 0) (rowOk 7 (s.y 0)) (fun r hr hlt => ?_) (fun r hr => ?_) (fun r hr hlt => ?_) _ s ⟨rfl, hx⟩ h0 h1 (Nat.lt_succ_self _)
  · have hy := hr.1
    rw [← hy]
    exact asI7_pick r (decide_eq_true (by have := hr.2; omega))
  · obtain ⟨e0, l0, n0, y0, x1⟩ := asI7N_k r
    exact ⟨e0, l0, ⟨y0.trans hr.1, by have := hr.2; omega⟩⟩
  · unfold asI7T
    rw [decide_eq_false (by have := hr.2; omega)]
    rfl

noncomputable def asS8L : LP := { A := 3, ts := [7, 2, 0], F := ⟨[.sc (.int .i64), .ssl 2 0 8, .ptr 0 0], [.lit (.cst (.int .i8 8) :: uT) false, .lit sC false, .sym (.flt .f32) false]⟩, xs := [(.exit 0, [], ⟨[], [.lit (.cst (.int .i8 8) :: uT) false, .lit sC false, .sym (.flt .f32) false]⟩), (.ret, [6], ⟨[.cst (.int .i64 2)], [.lit (.cst (.int .i8 8) :: uT) false, .lit sC false, .sym (.flt .f32) false]⟩)] }

noncomputable def asI8L : LP := { A := 1, ts := [21, 20, 19, 3], F := ⟨[.sc (.int .i64), .sc (.int .i64), .ssl 0 0 8, .ptr 1 0], [.sym (.flt .f32) false, .lit (.cst (.int .i8 8) :: uT) false]⟩, xs := [(.exit 0, [], ⟨[], [.sym (.flt .f32) false]⟩), (.ret, [6], ⟨[.cst (.int .i64 2)], [.sym (.flt .f32) false]⟩)] }

noncomputable def cnS8L : LP := { A := 1, ts := [10, 9, 2, 3, 4], F := ⟨[.sc (.int .i64), .sc (.int .i64), .ssl 0 0 8, .ptr 1 0, .ptr 2 0], [.sym (.flt .f32) false, .lit (.cst (.int .i8 8) :: uT) false, .lit sC false]⟩, xs := [(.exit 0, [9], ⟨[.sc (.int .i64)], [.sym (.flt .f32) false]⟩)] }

noncomputable def gdI8L : LP := { A := 1, ts := [24, 23, 22, 3, 4, 9], F := ⟨[.sc (.int .i64), .sc (.int .i64), .ssl 0 0 8, .ptr 1 0, .ptr 2 0, .ssl 3 0 1], [.sym (.flt .f32) false, .lit (.cst (.int .i8 8) :: uT) false, .lit sC false, .sym .bool true]⟩, xs := [(.exit 0, [9], ⟨[.ssl 1 0 1], [.sym (.flt .f32) false, .sym .bool true]⟩)] }

noncomputable def asS8_v_0 (s : SV) : Vars := (isFilmR [(.flt .f32 ((s.y 2).u (padd 0 (pmul (itn (s.x.i 0)) 8))))])

noncomputable def asS8_v_1 (s : SV) : Vars := (isFilmR [(.flt .f32 ((s.y 2).u (padd 1 (pmul (itn (s.x.i 0)) 8))))])

noncomputable def asS8_v_2 (s : SV) : Vars := (isFilmR [(.flt .f32 ((s.y 2).u (padd 2 (pmul (itn (s.x.i 0)) 8))))])

noncomputable def asS8_v_3 (s : SV) : Vars := (isFilmR [(.flt .f32 ((s.y 2).u (padd 3 (pmul (itn (s.x.i 0)) 8))))])

noncomputable def asS8_v_4 (s : SV) : Vars := (isFilmR [(.flt .f32 ((s.y 2).u (padd 4 (pmul (itn (s.x.i 0)) 8))))])

noncomputable def asS8_v_5 (s : SV) : Vars := (isFilmR [(.flt .f32 ((s.y 2).u (padd 5 (pmul (itn (s.x.i 0)) 8))))])

noncomputable def asS8_v_6 (s : SV) : Vars := (isFilmR [(.flt .f32 ((s.y 2).u (padd 6 (pmul (itn (s.x.i 0)) 8))))])

noncomputable def asS8_v_7 (s : SV) : Vars := (isFilmR [(.flt .f32 ((s.y 2).u (padd 7 (pmul (itn (s.x.i 0)) 8))))])

noncomputable def asS8N (s : SV) : SV := (mkSV (apl [(.sint .i64 (iadd (s.x.i 0) 1))] (apl (fl s.x 1 8) (apl [(.sint .i8 (s.x.i 9))] (apl (fl s.x 10 14) (apl [(.sint .i8 (s.x.i 24))] (apl (fl s.x 25 14) (apl [(.sint .i8 (s.x.i 39))] (apl (fl s.x 40 14) (apl [(.sint .i8 (s.x.i 54))] (apl (fl s.x 55 14) (apl [(.sint .i8 (s.x.i 69))] (apl (fl s.x 70 14) (apl [(.sint .i8 (s.x.i 84))] (apl (fl s.x 85 14) (apl [(.sint .i8 (s.x.i 99))] (apl (fl s.x 100 14) (apl [(.sint .i8 (s.x.i 114))] (apl (fl s.x 115 32) ([(.sint .i16 (s.x.i 147))]))))))))))))))))))) [(s.len 0)] [0, 0, (s.n 2)] [zeroV, zeroV, (s.y 2)])
noncomputable def asS8X (s : SV) : SV := (mkSV (apl (fl s.x 1 8) (apl [(.sint .i8 (s.x.i 9))] (apl (fl s.x 10 14) (apl [(.sint .i8 (s.x.i 24))] (apl (fl s.x 25 14) (apl [(.sint .i8 (s.x.i 39))] (apl (fl s.x 40 14) (apl [(.sint .i8 (s.x.i 54))] (apl (fl s.x 55 14) (apl [(.sint .i8 (s.x.i 69))] (apl (fl s.x 70 14) (apl [(.sint .i8 (s.x.i 84))] (apl (fl s.x 85 14) (apl [(.sint .i8 (s.x.i 99))] (apl (fl s.x 100 14) (apl [(.sint .i8 (s.x.i 114))] (apl (fl s.x 115 32) ([(.sint .i16 (s.x.i 147))])))))))))))))))))) [] [0, 0, (s.n 2)] [zeroV, zeroV, (s.y 2)])
noncomputable def asS8E (s : SV) : SV := (mkSV (apl (fl s.x 1 8) (apl [(.sint .i8 (s.x.i 9))] (apl (fl s.x 10 14) (apl [(.sint .i8 (s.x.i 24))] (apl (fl s.x 25 14) (apl [(.sint .i8 (s.x.i 39))] (apl (fl s.x 40 14) (apl [(.sint .i8 (s.x.i 54))] (apl (fl s.x 55 14) (apl [(.sint .i8 (s.x.i 69))] (apl (fl s.x 70 14) (apl [(.sint .i8 (s.x.i 84))] (apl (fl s.x 85 14) (apl [(.sint .i8 (s.x.i 99))] (apl (fl s.x 100 14) (apl [(.sint .i8 (s.x.i 114))] (apl (fl s.x 115 32) ([(.sint .i16 (s.x.i 147))])))))))))))))))))) [] [0, 0, (s.n 2)] [zeroV, zeroV, (s.y 2)])

noncomputable def asS8T (s : SV) : Tr := .node [((decide ((-(9223372036854775807 + 1)) ≤ (ofN (s.len 0)))) && (decide ((ofN (s.len 0)) ≤ 9223372036854775807)))] (decide ((s.x.i 0) < (ofN (s.len 0)))) (.node [(decide ((padd 0 (pmul (itn (s.x.i 0)) 8)) < (s.n 2))), (decide (0 ≤ (s.x.i 0))), (decide ((s.x.i 0) < (s.len 0)))] (!((asS8_v_0 s).b 0)) (.out 1 (asS8X s) []) (.node [(decide ((padd 1 (pmul (itn (s.x.i 0)) 8)) < (s.n 2))), (decide (0 ≤ (s.x.i 0))), (decide ((s.x.i 0) < (s.len 0)))] (!((asS8_v_1 s).b 0)) (.out 1 (asS8X s) []) (.node [(decide ((padd 2 (pmul (itn (s.x.i 0)) 8)) < (s.n 2))), (decide (0 ≤ (s.x.i 0))), (decide ((s.x.i 0) < (s.len 0)))] (!((asS8_v_2 s).b 0)) (.out 1 (asS8X s) []) (.node [(decide ((padd 3 (pmul (itn (s.x.i 0)) 8)) < (s.n 2))), (decide (0 ≤ (s.x.i 0))), (decide ((s.x.i 0) < (s.len 0)))] (!((asS8_v_3 s).b 0)) (.out 1 (asS8X s) []) (.node [(decide ((padd 4 (pmul (itn (s.x.i 0)) 8)) < (s.n 2))), (decide (0 ≤ (s.x.i 0))), (decide ((s.x.i 0) < (s.len 0)))] (!((asS8_v_4 s).b 0)) (.out 1 (asS8X s) []) (.node [(decide ((padd 5 (pmul (itn (s.x.i 0)) 8)) < (s.n 2))), (decide (0 ≤ (s.x.i 0))), (decide ((s.x.i 0) < (s.len 0)))] (!((asS8_v_5 s).b 0)) (.out 1 (asS8X s) []) (.node [(decide ((padd 6 (pmul (itn (s.x.i 0)) 8)) < (s.n 2))), (decide (0 ≤ (s.x.i 0))), (decide ((s.x.i 0) < (s.len 0)))] (!((asS8_v_6 s).b 0)) (.out 1 (asS8X s) []) (.node [(decide ((padd 7 (pmul (itn (s.x.i 0)) 8)) < (s.n 2))), (decide (0 ≤ (s.x.i 0))), (decide ((s.x.i 0) < (s.len 0)))] (!((asS8_v_7 s).b 0)) (.out 1 (asS8X s) []) (.next (asS8N s) [((decide ((-(9223372036854775807 + 1)) ≤ (iadd (s.x.i 0) 1))) && (decide ((iadd (s.x.i 0) 1) ≤ 9223372036854775807)))]))))))))) (.out 0 (asS8E s) [])

theorem asS8_t (s : SV) : Go.Sim.stepT Try.prog G30 (ntOf Try.prog 53) noLT true 1000 asS8L (loopOf Try.prog 53 0) s = some (asS8T s) := by kernel_rfl

def asS8P (s : SV) : Prop := 0 ≤ s.x.i 0 ∧ s.x.i 0 ≤ s.len 0 ∧ s.len 0 ≤ 1048576 ∧ s.n 2 = 8 * s.len 0

noncomputable def asS8B (s : SV) : Bool := @decide (asS8P s) (Classical.propDecidable _)
theorem asS8B_of {s : SV} (h : asS8B s = true) : asS8P s := @of_decide_eq_true _ (Classical.propDecidable _) h
theorem asS8B_to {s : SV} (h : asS8P s) : asS8B s = true := @decide_eq_true _ (Classical.propDecidable _) h

theorem asS8N_k (s : SV) : (asS8N s).x.i 0 = s.x.i 0 + 1 ∧ (asS8N s).len 0 = s.len 0 ∧ (asS8N s).n 2 = s.n 2 ∧ (asS8N s).y 2 = s.y 2 := ⟨by kernel_rfl, by kernel_rfl, by kernel_rfl, by kernel_rfl⟩

def asS8Mu (s : SV) : Nat := ((s.len 0 : Int) - s.x.i 0).toNat

theorem asS8_pick (s : SV) (hlt : (decide ((s.x.i 0) < (ofN (s.len 0)))) = true) : (asS8T s).pick = (bif rowOk 8 (s.y 2) (s.x.i 0).toNat then .next (asS8N s) else .out 1 (asS8X s)) := by
  have f0 : (isFilmR [.flt .f32 ((s.y 2).u (8 * (s.x.i 0).toNat + 0))]).b 0 = (asS8_v_0 s).b 0 := by
    rw [← idxS 0 (s.x.i 0)]
    rfl
  have f1 : (isFilmR [.flt .f32 ((s.y 2).u (8 * (s.x.i 0).toNat + 1))]).b 0 = (asS8_v_1 s).b 0 := by
    rw [← idxS 1 (s.x.i 0)]
    rfl
  have f2 : (isFilmR [.flt .f32 ((s.y 2).u (8 * (s.x.i 0).toNat + 2))]).b 0 = (asS8_v_2 s).b 0 := by
    rw [← idxS 2 (s.x.i 0)]
    rfl
  have f3 : (isFilmR [.flt .f32 ((s.y 2).u (8 * (s.x.i 0).toNat + 3))]).b 0 = (asS8_v_3 s).b 0 := by
    rw [← idxS 3 (s.x.i 0)]
    rfl
  have f4 : (isFilmR [.flt .f32 ((s.y 2).u (8 * (s.x.i 0).toNat + 4))]).b 0 = (asS8_v_4 s).b 0 := by
    rw [← idxS 4 (s.x.i 0)]
    rfl
  have f5 : (isFilmR [.flt .f32 ((s.y 2).u (8 * (s.x.i 0).toNat + 5))]).b 0 = (asS8_v_5 s).b 0 := by
    rw [← idxS 5 (s.x.i 0)]
    rfl
  have f6 : (isFilmR [.flt .f32 ((s.y 2).u (8 * (s.x.i 0).toNat + 6))]).b 0 = (asS8_v_6 s).b 0 := by
    rw [← idxS 6 (s.x.i 0)]
    rfl
  have f7 : (isFilmR [.flt .f32 ((s.y 2).u (8 * (s.x.i 0).toNat + 7))]).b 0 = (asS8_v_7 s).b 0 := by
    rw [← idxS 7 (s.x.i 0)]
    rfl
  unfold asS8T
  rw [hlt]
  show _ = (bif ((isFilmR [.flt .f32 ((s.y 2).u (8 * (s.x.i 0).toNat + 0))]).b 0 && ((isFilmR [.flt .f32 ((s.y 2).u (8 * (s.x.i 0).toNat + 1))]).b 0 && ((isFilmR [.flt .f32 ((s.y 2).u (8 * (s.x.i 0).toNat + 2))]).b 0 && ((isFilmR [.flt .f32 ((s.y 2).u (8 * (s.x.i 0).toNat + 3))]).b 0 && ((isFilmR [.flt .f32 ((s.y 2).u (8 * (s.x.i 0).toNat + 4))]).b 0 && ((isFilmR [.flt .f32 ((s.y 2).u (8 * (s.x.i 0).toNat + 5))]).b 0 && ((isFilmR [.flt .f32 ((s.y 2).u (8 * (s.x.i 0).toNat + 6))]).b 0 && ((isFilmR [.flt .f32 ((s.y 2).u (8 * (s.x.i 0).toNat + 7))]).b 0 && (true))))))))) then _ else _)
  rw [f0, f1, f2, f3, f4, f5, f6, f7]
  cases v0 : (asS8_v_0 s).b 0 with
  | false =>
    rfl
  | true =>
    cases v1 : (asS8_v_1 s).b 0 with
    | false =>
      rfl
    | true =>
      cases v2 : (asS8_v_2 s).b 0 with
      | false =>
        rfl
      | true =>
        cases v3 : (asS8_v_3 s).b 0 with
        | false =>
          rfl
        | true =>
          cases v4 : (asS8_v_4 s).b 0 with
          | false =>
            rfl
          | true =>
            cases v5 : (asS8_v_5 s).b 0 with
            | false =>
              rfl
            | true =>
              cases v6 : (asS8_v_6 s).b 0 with
              | false =>
                rfl
              | true =>
                cases v7 : (asS8_v_7 s).b 0 with
                | false =>
                  rfl
                | true =>
                  rfl

theorem asS8_go (s : SV) (hp : ∀ b ∈ [asS8B s], b = true) :
    (asS8T s).ok ∧ (∀ k s', (asS8T s).pick = .out k s' → k < 2) ∧ ∀ s', (asS8T s).pick = .next s' → (∀ b ∈ [asS8B s'], b = true) ∧ asS8Mu s' < asS8Mu s := by
  obtain ⟨i1, i2, i3, i4⟩ := asS8B_of (hp _ (List.mem_cons_self ..))
  cases hc : (decide ((s.x.i 0) < (ofN (s.len 0)))) with
  | false =>
    have hk : (asS8T s).pick = .out 0 (asS8E s) := by unfold asS8T; rw [hc]; rfl
    refine ⟨?_, fun k s' h => ?_, fun s' h => ?_⟩
    · unfold asS8T
      exact ⟨(allC (andT (decide_eq_true (by unfold ofN; omega)) (decide_eq_true (by unfold ofN; omega))) allN), (fun h => by rw [hc] at h; cases h), (fun _ b hb => by cases hb)⟩
    · rw [hk] at h; cases h; decide
    · rw [hk] at h; cases h
  | true =>
    have hlt := of_decide_eq_true hc
    (try unfold ofN at hlt)
    refine ⟨?_, fun k s' h => ?_, fun s' h => ?_⟩
    · unfold asS8T
      exact ⟨(allC (andT (decide_eq_true (by unfold ofN; omega)) (decide_eq_true (by unfold ofN; omega))) allN), (fun _ => ⟨(allC (decide_eq_true (by unfold padd pmul itn; omega)) (allC (decide_eq_true (by omega)) (allC (decide_eq_true (by omega)) allN))), (fun _ b hb => by cases hb), (fun _ => ⟨(allC (decide_eq_true (by unfold padd pmul itn; omega)) (allC (decide_eq_true (by omega)) (allC (decide_eq_true (by omega)) allN))), (fun _ b hb => by cases hb), (fun _ => ⟨(allC (decide_eq_true (by unfold padd pmul itn; omega)) (allC (decide_eq_true (by omega)) (allC (decide_eq_true (by omega)) allN))), (fun _ b hb => by cases hb), (fun _ => ⟨(allC (decide_eq_true (by unfold padd pmul itn; omega)) (allC (decide_eq_true (by omega)) (allC (decide_eq_true (by omega)) allN))), (fun _ b hb => by cases hb), (fun _ => ⟨(allC (decide_eq_true (by unfold padd pmul itn; omega)) (allC (decide_eq_true (by omega)) (allC (decide_eq_true (by omega)) allN))), (fun _ b hb => by cases hb), (fun _ => ⟨(allC (decide_eq_true (by unfold padd pmul itn; omega)) (allC (decide_eq_true (by omega)) (allC (decide_eq_true (by omega)) allN))), (fun _ b hb => by cases hb), (fun _ => ⟨(allC (decide_eq_true (by unfold padd pmul itn; omega)) (allC (decide_eq_true (by omega)) (allC (decide_eq_true (by omega)) allN))), (fun _ b hb => by cases hb), (fun _ => ⟨(allC (decide_eq_true (by unfold padd pmul itn; omega)) (allC (decide_eq_true (by omega)) (allC (decide_eq_true (by omega)) allN))), (fun _ b hb => by cases hb), (fun _ => (allC (andT (decide_eq_true (by unfold iadd; omega)) (decide_eq_true (by unfold iadd; omega))) allN))⟩)⟩)⟩)⟩)⟩)⟩)⟩)⟩), (fun h => by rw [hc] at h; cases h)⟩
    · rw [asS8_pick s hc] at h
      cases hr : rowOk 8 (s.y 2) (s.x.i 0).toNat with
      | false => rw [hr] at h; cases h; decide
      | true => rw [hr] at h; cases h
    · rw [asS8_pick s hc] at h
      cases hr : rowOk 8 (s.y 2) (s.x.i 0).toNat with
      | false => rw [hr] at h; cases h
      | true =>
        rw [hr] at h
        cases h
        obtain ⟨e0, l0, n0, y0⟩ := asS8N_k s
        refine ⟨fun b hb => ?_, by unfold asS8Mu; omega⟩
        rw [List.mem_singleton.1 hb]
        exact asS8B_to ⟨by omega, by omega, by omega, by omega⟩

noncomputable def asS8F0 (s : SV) : Nat × SV := Go.Sim.runT asS8T (asS8Mu s + 1) s

noncomputable def asS8F : SV → Nat × SV := Classical.choose (⟨asS8F0, rfl⟩ : ∃ f, f = asS8F0)

theorem asS8F_eq : asS8F = asS8F0 := Classical.choose_spec (⟨asS8F0, rfl⟩ : ∃ f, f = asS8F0)

noncomputable def asS8Pre (s : SV) : List Bool := [asS8B s]

noncomputable def HasS8 : LTab := hookL 0 asS8L asS8Pre asS8F noLT

theorem HasS8_ok : HFun Try.prog 3 HasS8 53 := by
  unfold HasS8
  rw [asS8F_eq]
  exact HFun.loop G30_ok mixed (J := true) (n := 1000) (L := asS8L) (T := asS8T) (pre := asS8Pre) (μ := asS8Mu) (HFun.none Try.prog 3 53) (by kernel_rfl) (by decide) (by decide) asS8_t asS8_go

theorem asS8_yes (s : SV) (h0 : 0 ≤ s.x.i 0) (h1 : s.x.i 0 ≤ s.len 0) :
    ((∀ j : Nat, s.x.i 0 ≤ j → j < s.len 0 → rowOk 8 (s.y 2) j = true) → (asS8F s).1 = 0) ∧ ((¬ ∀ j : Nat, s.x.i 0 ≤ j → j < s.len 0 → rowOk 8 (s.y 2) j = true) → (asS8F s).1 = 1) := by
  rw [asS8F_eq]
  refine ask_run (T := asS8T) (N := asS8N) (X := asS8X) (E := asS8E) (fun r => r.y 2 = s.y 2) (rowOk 8 (s.y 2)) (fun r hr hlt => ?_) (fun r hr => ?_) (fun r hr hlt => ?_) _ s rfl h0 h1 (Nat.lt_succ_self _)
  · have hy := hr
    rw [← hy]
    exact asS8_pick r (decide_eq_true (show r.x.i 0 < ofN (r.len 0) from hlt))
  · obtain ⟨e0, l0, n0, y0⟩ := asS8N_k r
    exact ⟨e0, l0, y0.trans hr⟩
  · unfold asS8T
    rw [decide_eq_false (show ¬ r.x.i 0 < ofN (r.len 0) from hlt)]
    rfl

noncomputable def asI8_v_0 (s : SV) : Vars := (isFilmR [(.flt .f32 ((s.y 0).u (padd (padd 0 (pmul (itn (s.x.i 0)) 8)) 0)))])

noncomputable def asI8_v_1 (s : SV) : Vars := (isFilmR [(.flt .f32 ((s.y 0).u (padd (padd 0 (pmul (itn (s.x.i 0)) 8)) 1)))])

noncomputable def asI8_v_2 (s : SV) : Vars := (isFilmR [(.flt .f32 ((s.y 0).u (padd (padd 0 (pmul (itn (s.x.i 0)) 8)) 2)))])

noncomputable def asI8_v_3 (s : SV) : Vars := (isFilmR [(.flt .f32 ((s.y 0).u (padd (padd 0 (pmul (itn (s.x.i 0)) 8)) 3)))])

noncomputable def asI8_v_4 (s : SV) : Vars := (isFilmR [(.flt .f32 ((s.y 0).u (padd (padd 0 (pmul (itn (s.x.i 0)) 8)) 4)))])

noncomputable def asI8_v_5 (s : SV) : Vars := (isFilmR [(.flt .f32 ((s.y 0).u (padd (padd 0 (pmul (itn (s.x.i 0)) 8)) 5)))])

noncomputable def asI8_v_6 (s : SV) : Vars := (isFilmR [(.flt .f32 ((s.y 0).u (padd (padd 0 (pmul (itn (s.x.i 0)) 8)) 6)))])

noncomputable def asI8_v_7 (s : SV) : Vars := (isFilmR [(.flt .f32 ((s.y 0).u (padd (padd 0 (pmul (itn (s.x.i 0)) 8)) 7)))])

noncomputable def asI8N (s : SV) : SV := (mkSV (apl [(.sint .i64 (iadd (s.x.i 0) 1)), (.sint .i64 (s.x.i 1))] (apl (fl s.x 2 8) (apl [(.sint .i8 (s.x.i 10))] (apl (fl s.x 11 14) (apl [(.sint .i8 (s.x.i 25))] (apl (fl s.x 26 14) (apl [(.sint .i8 (s.x.i 40))] (apl (fl s.x 41 14) (apl [(.sint .i8 (s.x.i 55))] (apl (fl s.x 56 14) (apl [(.sint .i8 (s.x.i 70))] (apl (fl s.x 71 14) (apl [(.sint .i8 (s.x.i 85))] (apl (fl s.x 86 14) (apl [(.sint .i8 (s.x.i 100))] (apl (fl s.x 101 14) (apl [(.sint .i8 (s.x.i 115))] (fl s.x 116 14)))))))))))))))))) [(s.len 0)] [(s.n 0), 0] [(s.y 0), zeroV])
noncomputable def asI8X (s : SV) : SV := (mkSV [] [] [(s.n 0)] [(s.y 0)])
noncomputable def asI8E (s : SV) : SV := (mkSV [] [] [(s.n 0)] [(s.y 0)])

noncomputable def asI8T (s : SV) : Tr := .node [] (decide ((s.x.i 0) < (s.x.i 1))) (.node [(decide ((padd (padd 0 (pmul (itn (s.x.i 0)) 8)) 8) ≤ (s.n 0))), (decide (0 ≤ (s.x.i 0))), (decide ((s.x.i 0) < (s.len 0)))] (!((asI8_v_0 s).b 0)) (.out 1 (asI8X s) []) (.node [] (!((asI8_v_1 s).b 0)) (.out 1 (asI8X s) []) (.node [] (!((asI8_v_2 s).b 0)) (.out 1 (asI8X s) []) (.node [] (!((asI8_v_3 s).b 0)) (.out 1 (asI8X s) []) (.node [] (!((asI8_v_4 s).b 0)) (.out 1 (asI8X s) []) (.node [] (!((asI8_v_5 s).b 0)) (.out 1 (asI8X s) []) (.node [] (!((asI8_v_6 s).b 0)) (.out 1 (asI8X s) []) (.node [] (!((asI8_v_7 s).b 0)) (.out 1 (asI8X s) []) (.next (asI8N s) [((decide ((-(9223372036854775807 + 1)) ≤ (iadd (s.x.i 0) 1))) && (decide ((iadd (s.x.i 0) 1) ≤ 9223372036854775807)))]))))))))) (.out 0 (asI8E s) [])

theorem asI8_t (s : SV) : Go.Sim.stepT Try.prog G30 (ntOf Try.prog 79) noLT true 1000 asI8L (loopOf Try.prog 79 0) s = some (asI8T s) := by kernel_rfl

def asI8P (s : SV) : Prop := 0 ≤ s.x.i 0 ∧ s.x.i 0 ≤ s.len 0 ∧ s.len 0 ≤ 1048576 ∧ s.n 0 = 8 * s.len 0 ∧ s.x.i 1 = s.len 0

noncomputable def asI8B (s : SV) : Bool := @decide (asI8P s) (Classical.propDecidable _)
theorem asI8B_of {s : SV} (h : asI8B s = true) : asI8P s := @of_decide_eq_true _ (Classical.propDecidable _) h
theorem asI8B_to {s : SV} (h : asI8P s) : asI8B s = true := @decide_eq_true _ (Classical.propDecidable _) h

theorem asI8N_k (s : SV) : (asI8N s).x.i 0 = s.x.i 0 + 1 ∧ (asI8N s).len 0 = s.len 0 ∧ (asI8N s).n 0 = s.n 0 ∧ (asI8N s).y 0 = s.y 0 ∧ (asI8N s).x.i 1 = s.x.i 1 := ⟨by kernel_rfl, by kernel_rfl, by kernel_rfl, by kernel_rfl, by kernel_rfl⟩

def asI8Mu (s : SV) : Nat := ((s.len 0 : Int) - s.x.i 0).toNat

theorem asI8_pick (s : SV) (hlt : (decide ((s.x.i 0) < (s.x.i 1))) = true) : (asI8T s).pick = (bif rowOk 8 (s.y 0) (s.x.i 0).toNat then .next (asI8N s) else .out 1 (asI8X s)) := by
  have f0 : (isFilmR [.flt .f32 ((s.y 0).u (8 * (s.x.i 0).toNat + 0))]).b 0 = (asI8_v_0 s).b 0 := by
    rw [← idxI 0 (s.x.i 0)]
    rfl
  have f1 : (isFilmR [.flt .f32 ((s.y 0).u (8 * (s.x.i 0).toNat + 1))]).b 0 = (asI8_v_1 s).b 0 := by
    rw [← idxI 1 (s.x.i 0)]
    rfl
  have f2 : (isFilmR [.flt .f32 ((s.y 0).u (8 * (s.x.i 0).toNat + 2))]).b 0 = (asI8_v_2 s).b 0 := by
    rw [← idxI 2 (s.x.i 0)]
    rfl
  have f3 : (isFilmR [.flt .f32 ((s.y 0).u (8 * (s.x.i 0).toNat + 3))]).b 0 = (asI8_v_3 s).b 0 := by
    rw [← idxI 3 (s.x.i 0)]
    rfl
  have f4 : (isFilmR [.flt .f32 ((s.y 0).u (8 * (s.x.i 0).toNat + 4))]).b 0 = (asI8_v_4 s).b 0 := by
    rw [← idxI 4 (s.x.i 0)]
    rfl
  have f5 : (isFilmR [.flt .f32 ((s.y 0).u (8 * (s.x.i 0).toNat + 5))]).b 0 = (asI8_v_5 s).b 0 := by
    rw [← idxI 5 (s.x.i 0)]
    rfl
  have f6 : (isFilmR [.flt .f32 ((s.y 0).u (8 * (s.x.i 0).toNat + 6))]).b 0 = (asI8_v_6 s).b 0 := by
    rw [← idxI 6 (s.x.i 0)]
    rfl
  have f7 : (isFilmR [.flt .f32 ((s.y 0).u (8 * (s.x.i 0).toNat + 7))]).b 0 = (asI8_v_7 s).b 0 := by
    rw [← idxI 7 (s.x.i 0)]
    rfl
  unfold asI8T
  rw [hlt]
  show _ = (bif ((isFilmR [.flt .f32 ((s.y 0).u (8 * (s.x.i 0).toNat + 0))]).b 0 && ((isFilmR [.flt .f32 ((s.y 0).u (8 * (s.x.i 0).toNat + 1))]).b 0 && ((isFilmR [.flt .f32 ((s.y 0).u (8 * (s.x.i 0).toNat + 2))]).b 0 && ((isFilmR [.flt .f32 ((s.y 0).u (8 * (s.x.i 0).toNat + 3))]).b 0 && ((isFilmR [.flt .f32 ((s.y 0).u (8 * (s.x.i 0).toNat + 4))]).b 0 && ((isFilmR [.flt .f32 ((s.y 0).u (8 * (s.x.i 0).toNat + 5))]).b 0 && ((isFilmR [.flt .f32 ((s.y 0).u (8 * (s.x.i 0).toNat + 6))]).b 0 && ((isFilmR [.flt .f32 ((s.y 0).u (8 * (s.x.i 0).toNat + 7))]).b 0 && (true))))))))) then _ else _)
  rw [f0, f1, f2, f3, f4, f5, f6, f7]
  cases v0 : (asI8_v_0 s).b 0 with
  | false =>
    rfl
  | true =>
    cases v1 : (asI8_v_1 s).b 0 with
    | false =>
      rfl
    | true =>
      cases v2 : (asI8_v_2 s).b 0 with
      | false =>
        rfl
      | true =>
        cases v3 : (asI8_v_3 s).b 0 with
        | false =>
          rfl
        | true =>
          cases v4 : (asI8_v_4 s).b 0 with
          | false =>
            rfl
          | true =>
            cases v5 : (asI8_v_5 s).b 0 with
            | false =>
              rfl
            | true =>
              cases v6 : (asI8_v_6 s).b 0 with
              | false =>
                rfl
              | true =>
                cases v7 : (asI8_v_7 s).b 0 with
                | false =>
                  rfl
                | true =>
                  rfl

theorem asI8_go (s : SV) (hp : ∀ b ∈ [asI8B s], b = true) :
    (asI8T s).ok ∧ (∀ k s', (asI8T s).pick = .out k s' → k < 2) ∧ ∀ s', (asI8T s).pick = .next s' → (∀ b ∈ [asI8B s'], b = true) ∧ asI8Mu s' < asI8Mu s := by
  obtain ⟨i1, i2, i3, i4, i5⟩ := asI8B_of (hp _ (List.mem_cons_self ..))
  cases hc : (decide ((s.x.i 0) < (s.x.i 1))) with
  | false =>
    have hk : (asI8T s).pick = .out 0 (asI8E s) := by unfold asI8T; rw [hc]; rfl
    refine ⟨?_, fun k s' h => ?_, fun s' h => ?_⟩
    · unfold asI8T
      exact ⟨allN, (fun h => by rw [hc] at h; cases h), (fun _ b hb => by cases hb)⟩
    · rw [hk] at h; cases h; decide
    · rw [hk] at h; cases h
  | true =>
    have hlt := of_decide_eq_true hc
    (try unfold ofN at hlt)
    refine ⟨?_, fun k s' h => ?_, fun s' h => ?_⟩
    · unfold asI8T
      exact ⟨allN, (fun _ => ⟨(allC (decide_eq_true (by unfold padd pmul itn; omega)) (allC (decide_eq_true (by omega)) (allC (decide_eq_true (by omega)) allN))), (fun _ b hb => by cases hb), (fun _ => ⟨allN, (fun _ b hb => by cases hb), (fun _ => ⟨allN, (fun _ b hb => by cases hb), (fun _ => ⟨allN, (fun _ b hb => by cases hb), (fun _ => ⟨allN, (fun _ b hb => by cases hb), (fun _ => ⟨allN, (fun _ b hb => by cases hb), (fun _ => ⟨allN, (fun _ b hb => by cases hb), (fun _ => ⟨allN, (fun _ b hb => by cases hb), (fun _ => (allC (andT (decide_eq_true (by unfold iadd; omega)) (decide_eq_true (by unfold iadd; omega))) allN))⟩)⟩)⟩)⟩)⟩)⟩)⟩)⟩), (fun h => by rw [hc] at h; cases h)⟩
    · rw [asI8_pick s hc] at h
      cases hr : rowOk 8 (s.y 0) (s.x.i 0).toNat with
      | false => rw [hr] at h; cases h; decide
      | true => rw [hr] at h; cases h
    · rw [asI8_pick s hc] at h
      cases hr : rowOk 8 (s.y 0) (s.x.i 0).toNat with
      | false => rw [hr] at h; cases h
      | true =>
        rw [hr] at h
        cases h
        obtain ⟨e0, l0, n0, y0, x1⟩ := asI8N_k s
        refine ⟨fun b hb => ?_, by unfold asI8Mu; omega⟩
        rw [List.mem_singleton.1 hb]
        exact asI8B_to ⟨by omega, by omega, by omega, by omega, by omega⟩

noncomputable def asI8F0 (s : SV) : Nat × SV := Go.Sim.runT asI8T (asI8Mu s + 1) s

noncomputable def asI8F : SV → Nat × SV := Classical.choose (⟨asI8F0, rfl⟩ : ∃ f, f = asI8F0)

theorem asI8F_eq : asI8F = asI8F0 := Classical.choose_spec (⟨asI8F0, rfl⟩ : ∃ f, f = asI8F0)

noncomputable def asI8Pre (s : SV) : List Bool := [asI8B s]

noncomputable def HasI8 : LTab := hookL 0 asI8L asI8Pre asI8F noLT

theorem HasI8_ok : HFun Try.prog 1 HasI8 79 := by
  unfold HasI8
  rw [asI8F_eq]
  exact HFun.loop G30_ok mixed (J := true) (n := 1000) (L := asI8L) (T := asI8T) (pre := asI8Pre) (μ := asI8Mu) (HFun.none Try.prog 1 79) (by kernel_rfl) (by decide) (by decide) asI8_t asI8_go

theorem asI8_yes (s : SV) (h0 : 0 ≤ s.x.i 0) (h1 : s.x.i 0 ≤ s.len 0) (hx : s.x.i 1 = s.len 0) :
    ((∀ j : Nat, s.x.i 0 ≤ j → j < s.len 0 → rowOk 8 (s.y 0) j = true) → (asI8F s).1 = 0) ∧ ((¬ ∀ j : Nat, s.x.i 0 ≤ j → j < s.len 0 → rowOk 8 (s.y 0) j = true) → (asI8F s).1 = 1) := by
  rw [asI8F_eq]
  refine ask_run (T := asI8T) (N := asI8N) (X := asI8X) (E := asI8E) (fun r => r.y 0 = s.y 0 ∧ r.x.i 1 = r.len 0) (rowOk 8 (s.y 0)) (fun r hr hlt => ?_) (fun r hr => ?_) (fun r hr hlt => ?_) _ s ⟨rfl, hx⟩ h0 h1 (Nat.lt_succ_self _)
  · have hy := hr.1
    rw [← hy]
    exact asI8_pick r (decide_eq_true (by have := hr.2; omega))
  · obtain ⟨e0, l0, n0, y0, x1⟩ := asI8N_k r
    exact ⟨e0, l0, ⟨y0.trans hr.1, by have := hr.2; omega⟩⟩
  · unfold asI8T
    rw [decide_eq_false (by have := hr.2; omega)]
    rfl

end Go.Proofs.Ytagkkkplmilkhaa

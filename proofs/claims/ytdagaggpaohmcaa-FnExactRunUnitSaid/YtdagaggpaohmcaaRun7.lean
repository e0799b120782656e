/-
  Facts of this seat that its laws use; no conditions.
-/
import Derived.Test.YtdagaggpaohmcaaRun6
namespace Go.Proofs.Ytdagaggpaohmcaa
open Go.Sim Go.ChangeShapes Go.WideShapes Go.ChangeAt Go.RowKit

def eqI : Frm := ⟨[.ssl 0 0 8, .ssl 1 0 8], [.sym (.flt .f32) false, .sym (.flt .f32) false]⟩

def maI : Frm := ⟨[.ssl 0 0 8, .sc (.int .i64)], [.sym (.flt .f32) true]⟩

def maO : Frm := ⟨[.sc (.int .i64)], [.sym (.flt .f32) true]⟩

def heI : Frm := ⟨[.ssl 0 0 8, .sc (.int .i64)], [.sym (.flt .f32) false]⟩

def eqSP (s : SV) : Prop := s.y 1 = s.y 0 ∧ s.len 0 = s.len 1 ∧ s.len 0 ≤ 1048576 ∧ s.n 0 = 8 * s.len 0 ∧ s.n 1 = 8 * s.len 1

noncomputable def eqSB (s : SV) : Bool := @decide (eqSP s) (Classical.propDecidable _)
theorem eqSB_of {s : SV} (h : eqSB s = true) : eqSP s := @of_decide_eq_true _ (Classical.propDecidable _) h
theorem eqSB_to {s : SV} (h : eqSP s) : eqSB s = true := @decide_eq_true _ (Classical.propDecidable _) h

def maP (s : SV) : Prop := s.x.i 0 = 1 ∧ s.len 0 ≤ 1048576 ∧ s.n 0 = 8 * s.len 0

noncomputable def maB (s : SV) : Bool := @decide (maP s) (Classical.propDecidable _)
theorem maB_of {s : SV} (h : maB s = true) : maP s := @of_decide_eq_true _ (Classical.propDecidable _) h
theorem maB_to {s : SV} (h : maP s) : maB s = true := @decide_eq_true _ (Classical.propDecidable _) h

def heP (s : SV) : Prop := s.x.i 0 = 1 ∧ s.len 0 ≤ 1048576 ∧ s.n 0 = 8 * s.len 0 ∧ Marked 1 (8 * s.len 0) (s.y 0)

noncomputable def heB (s : SV) : Bool := @decide (heP s) (Classical.propDecidable _)
theorem heB_of {s : SV} (h : heB s = true) : heP s := @of_decide_eq_true _ (Classical.propDecidable _) h
theorem heB_to {s : SV} (h : heP s) : heB s = true := @decide_eq_true _ (Classical.propDecidable _) h

noncomputable def ezSt (s : SV) : SV := (mkSV [(.int .i64 0)] [(s.len 0), (s.len 1)] [(s.n 0), (s.n 1)] [(s.y 0), (s.y 1)])

theorem ez_q (s : SV) : funH Try.prog GO Hez true 1000 44 (mkVs s 0 0 eqI.vals) (mkM eqI s) [] = some ((.sbool (bif (!(decide ((ofN (s.len 0)) = (ofN (s.len 1))))) then false else (bif (Nat.beq (ezF (ezSt s)).1 0) then true else false))), [((!(decide ((ofN (s.len 0)) = (ofN (s.len 1))))) || (ezB (ezSt s))), ((decide ((-(9223372036854775807 + 1)) ≤ (ofN (s.len 1)))) && (decide ((ofN (s.len 1)) ≤ 9223372036854775807))), ((decide ((-(9223372036854775807 + 1)) ≤ (ofN (s.len 0)))) && (decide ((ofN (s.len 0)) ≤ 9223372036854775807)))]) := by kernel_rfl

noncomputable def hzSt (s : SV) : SV := (mkSV [(.int .i64 0), (.sint .i64 (s.x.i 0))] [(s.len 0)] [(s.n 0)] [(s.y 0)])

theorem hz_q (s : SV) : funH Try.prog GO Hhz true 1000 46 (mkVs s 0 0 heI.vals) (mkM heI s) [] = some ((.sint .i64 (bif (Nat.beq (hzF (hzSt s)).1 0) then ((hzF (hzSt s)).2.x.i 0) else (-(0 + 1)))), [(hzB (hzSt s))]) := by kernel_rfl

theorem ezSt_B (s : SV) (h : eqSP s) : ezB (ezSt s) = true ∧ (ezF (ezSt s)).1 = 0 := by
  obtain ⟨h1, h2, h3, h4, h5⟩ := h
  have a0 : (ezSt s).x.i 0 = 0 := by kernel_rfl
  have a1 : (ezSt s).len 0 = s.len 0 := by kernel_rfl
  have a2 : (ezSt s).len 1 = s.len 1 := by kernel_rfl
  have a3 : (ezSt s).n 0 = s.n 0 := by kernel_rfl
  have a4 : (ezSt s).n 1 = s.n 1 := by kernel_rfl
  exact ⟨ezB_to ⟨by omega, by omega, by omega, by omega, by omega, by omega⟩, ez_yes _ ((show (ezSt s).y 1 = s.y 1 from by kernel_rfl).trans (h1.trans (show s.y 0 = (ezSt s).y 0 from by kernel_rfl)))⟩

theorem hzSt_B (s : SV) (h : heP s) : hzB (hzSt s) = true ∧ (hzF (hzSt s)).1 = 0 ∧ (hzF (hzSt s)).2.x.i 0 = 1 + 8 * s.len 0 := by
  obtain ⟨h1, h2, h3, h4⟩ := h
  have a0 : (hzSt s).x.i 0 = 0 := by kernel_rfl
  have a1 : (hzSt s).len 0 = s.len 0 := by kernel_rfl
  have a2 : (hzSt s).x.i 1 = s.x.i 0 := by kernel_rfl
  have a3 : (hzSt s).n 0 = s.n 0 := by kernel_rfl
  have a4 : (hzSt s).y 0 = s.y 0 := by kernel_rfl
  have hP : hzP (hzSt s) := ⟨by omega, by omega, by omega, by omega, by omega, by omega, by rw [a0, a1, a2, a4, h1]; exact h4⟩
  refine ⟨hzB_to hP, ?_⟩
  rw [hzF_eq]
  obtain ⟨r1, r2⟩ := hz_run (hzMu (hzSt s) + 1) (hzSt s) hP (Nat.lt_succ_self _)
  exact ⟨r1, r2.trans (by rw [a0, a1, a2, h1]; omega)⟩

noncomputable def mzSt (s : SV) : SV := (mkSV [(.int .i64 0), (.sint .i64 (s.x.i 0))] [(s.len 0)] [(s.n 0)] [(s.y 0)])

noncomputable def maR0 (s : SV) : SV := (mkSV [(.sint .i64 ((mzF (mzSt s)).2.x.i 0))] [] [((mzF (mzSt s)).2.n 0)] [((mzF (mzSt s)).2.y 0)])

noncomputable def maR : SV → SV := Classical.choose (⟨maR0, rfl⟩ : ∃ f, f = maR0)

theorem maR_eq : maR = maR0 := Classical.choose_spec (⟨maR0, rfl⟩ : ∃ f, f = maR0)

theorem mz_q (s : SV) : funT Try.prog GO Hmz true 1000 45 1 [maO] (mkVs s 0 0 maI.vals) (mkM maI s) [] = some (.out 0 (maR0 s) [(mzB (mzSt s))]) := by kernel_rfl

theorem mzSt_B (s : SV) (h : maP s) : mzB (mzSt s) = true ∧ (maR s).x.i 0 = 1 + 8 * s.len 0 ∧ (maR s).n 0 = s.n 0 ∧ Marked 1 (8 * s.len 0) ((maR s).y 0) := by
  obtain ⟨h1, h2, h3⟩ := h
  have a0 : (mzSt s).x.i 0 = 0 := by kernel_rfl
  have a1 : (mzSt s).len 0 = s.len 0 := by kernel_rfl
  have a2 : (mzSt s).x.i 1 = s.x.i 0 := by kernel_rfl
  have a3 : (mzSt s).n 0 = s.n 0 := by kernel_rfl
  have hP : mzP (mzSt s) := ⟨by omega, by omega, by omega, by omega, by omega, by omega⟩
  refine ⟨mzB_to hP, ?_⟩
  obtain ⟨r1, r2, r3, r4⟩ := mz_run 1 (mzMu (mzSt s) + 1) (mzSt s) 0 (by rw [a0]; rfl) (by omega) (by rw [a2, h1]; rfl) (by rw [a1, a3]; exact h3) (fun j hj => absurd hj (by omega)) (Nat.lt_succ_self _)
  have e : mzF (mzSt s) = Go.Sim.runT mzT (mzMu (mzSt s) + 1) (mzSt s) := by rw [mzF_eq]; rfl
  rw [maR_eq, a1] at *
  refine ⟨?_, ?_, ?_⟩
  · rw [show (maR0 s).x.i 0 = (mzF (mzSt s)).2.x.i 0 from by kernel_rfl, e]; exact r2
  · rw [show (maR0 s).n 0 = (mzF (mzSt s)).2.n 0 from by kernel_rfl, e, r3, a3]
  · rw [show (maR0 s).y 0 = (mzF (mzSt s)).2.y 0 from by kernel_rfl, e]; exact r4

end Go.Proofs.Ytdagaggpaohmcaa

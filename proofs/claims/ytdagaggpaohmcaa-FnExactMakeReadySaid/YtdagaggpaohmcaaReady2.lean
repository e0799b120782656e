/-
  Facts of this seat that its laws use; no conditions.
-/
import Derived.Test.YtdagaggpaohmcaaReady1
namespace Go.Proofs.Ytdagaggpaohmcaa
open Go.Sim Go.ChangeShapes Go.WideShapes Go.ChangeAt Go.RowKit

noncomputable def oS (s : SV) : SV := (mkSV (apl [(.sint .i64 (s.x.i 0)), (.sint .i64 (s.x.i 1)), (.sint .i16 (s.x.i 149)), (.int .i16 0), (.sint .i8 (s.x.i 2))] (apl (fl s.x 3 8) (apl [(.sint .i8 (s.x.i 11))] (apl (fl s.x 12 14) (apl [(.sint .i8 (s.x.i 26))] (apl (fl s.x 27 14) (apl [(.sint .i8 (s.x.i 41))] (apl (fl s.x 42 14) (apl [(.sint .i8 (s.x.i 56))] (apl (fl s.x 57 14) (apl [(.sint .i8 (s.x.i 71))] (apl (fl s.x 72 14) (apl [(.sint .i8 (s.x.i 86))] (apl (fl s.x 87 14) (apl [(.sint .i8 (s.x.i 101))] (apl (fl s.x 102 14) (apl [(.sint .i8 (s.x.i 116))] (apl (fl s.x 117 32) ([(.sint .i16 (s.x.i 149)), (.flt .f32 0), (.flt .f32 0), (.flt .f32 0), (.flt .f32 0), (.flt .f32 0), (.flt .f32 0), (.flt .f32 0), (.flt .f32 0)]))))))))))))))))))) [] [0, 0, 0, 0] [zeroV, zeroV, zeroV, zeroV])

noncomputable def offV (t : SV) : Vars := (offR (apl [(.sint .i8 (t.x.i 2))] (apl (fl t.x 3 8) (apl [(.sint .i8 (t.x.i 11))] (apl (fl t.x 12 14) (apl [(.sint .i8 (t.x.i 26))] (apl (fl t.x 27 14) (apl [(.sint .i8 (t.x.i 41))] (apl (fl t.x 42 14) (apl [(.sint .i8 (t.x.i 56))] (apl (fl t.x 57 14) (apl [(.sint .i8 (t.x.i 71))] (apl (fl t.x 72 14) (apl [(.sint .i8 (t.x.i 86))] (apl (fl t.x 87 14) (apl [(.sint .i8 (t.x.i 101))] (apl (fl t.x 102 14) (apl [(.sint .i8 (t.x.i 116))] (apl (fl t.x 117 32) (apl [(.sint .i16 (t.x.i 149))] (fl t.x 150 8)))))))))))))))))))))

noncomputable def tkV (t : SV) : Vars := (tkkR (apl [(.sint .i8 (t.x.i 2))] (apl (fl t.x 3 8) (apl [(.sint .i8 (t.x.i 11))] (apl (fl t.x 12 14) (apl [(.sint .i8 (t.x.i 26))] (apl (fl t.x 27 14) (apl [(.sint .i8 (t.x.i 41))] (apl (fl t.x 42 14) (apl [(.sint .i8 (t.x.i 56))] (apl (fl t.x 57 14) (apl [(.sint .i8 (t.x.i 71))] (apl (fl t.x 72 14) (apl [(.sint .i8 (t.x.i 86))] (apl (fl t.x 87 14) (apl [(.sint .i8 (t.x.i 101))] (apl (fl t.x 102 14) (apl [(.sint .i8 (t.x.i 116))] (apl (fl t.x 117 32) (apl [(.sint .i16 (t.x.i 149))] (fl t.x 150 8)))))))))))))))))))))

noncomputable def ltV (t : SV) : SV := (ltR (mkSV (apl [(.sint .i8 (t.x.i 2))] (apl (fl t.x 3 8) (apl [(.sint .i8 (t.x.i 11))] (apl (fl t.x 12 14) (apl [(.sint .i8 (t.x.i 26))] (apl (fl t.x 27 14) (apl [(.sint .i8 (t.x.i 41))] (apl (fl t.x 42 14) (apl [(.sint .i8 (t.x.i 56))] (apl (fl t.x 57 14) (apl [(.sint .i8 (t.x.i 71))] (apl (fl t.x 72 14) (apl [(.sint .i8 (t.x.i 86))] (apl (fl t.x 87 14) (apl [(.sint .i8 (t.x.i 101))] (apl (fl t.x 102 14) (apl [(.sint .i8 (t.x.i 116))] (apl (fl t.x 117 32) (apl [(.sint .i16 (t.x.i 149))] (fl t.x 150 8)))))))))))))))))))) [] [0, 0, 0] [zeroV, zeroV, zeroV]))

noncomputable def oX (t : SV) : SV := (mkSV (apl [(.sint .i64 (t.x.i 0)), (.sint .i64 (t.x.i 1)), (.int .i64 0), (.sint .i8 (t.x.i 2))] (apl (fl t.x 3 8) (apl [(.sint .i8 (t.x.i 11))] (apl (fl t.x 12 14) (apl [(.sint .i8 (t.x.i 26))] (apl (fl t.x 27 14) (apl [(.sint .i8 (t.x.i 41))] (apl (fl t.x 42 14) (apl [(.sint .i8 (t.x.i 56))] (apl (fl t.x 57 14) (apl [(.sint .i8 (t.x.i 71))] (apl (fl t.x 72 14) (apl [(.sint .i8 (t.x.i 86))] (apl (fl t.x 87 14) (apl [(.sint .i8 (t.x.i 101))] (apl (fl t.x 102 14) (apl [(.sint .i8 (t.x.i 116))] (fl t.x 117 14)))))))))))))))))) [] [0] [zeroV])

noncomputable def oY (t : SV) : SV := (mkSV (apl [(.sint .i64 (t.x.i 0)), (.sint .i64 (t.x.i 1)), (.sint .i64 (t.x.i 2)), (.sint .i8 (t.x.i 3))] (apl (fl t.x 4 8) (apl [(.sint .i8 (t.x.i 12))] (apl (fl t.x 13 14) (apl [(.sint .i8 (t.x.i 27))] (apl (fl t.x 28 14) (apl [(.sint .i8 (t.x.i 42))] (apl (fl t.x 43 14) (apl [(.sint .i8 (t.x.i 57))] (apl (fl t.x 58 14) (apl [(.sint .i8 (t.x.i 72))] (apl (fl t.x 73 14) (apl [(.sint .i8 (t.x.i 87))] (apl (fl t.x 88 14) (apl [(.sint .i8 (t.x.i 102))] (apl (fl t.x 103 14) (apl [(.sint .i8 (t.x.i 117))] (fl t.x 118 14)))))))))))))))))) [] [0] [zeroV])

noncomputable def oNi (t : SV) : SV := (mkSV (apl [(.sint .i64 (t.x.i 0)), (.sint .i64 (iadd (t.x.i 1) 1)), (.sint .i8 ((tkV t).i 0))] (apl (fl (tkV t) 1 8) (apl [(.sint .i8 ((tkV t).i 9))] (apl (fl (tkV t) 10 14) (apl [(.sint .i8 ((tkV t).i 24))] (apl (fl (tkV t) 25 14) (apl [(.sint .i8 ((tkV t).i 39))] (apl (fl (tkV t) 40 14) (apl [(.sint .i8 ((tkV t).i 54))] (apl (fl (tkV t) 55 14) (apl [(.sint .i8 ((tkV t).i 69))] (apl (fl (tkV t) 70 14) (apl [(.sint .i8 ((tkV t).i 84))] (apl (fl (tkV t) 85 14) (apl [(.sint .i8 ((tkV t).i 99))] (apl (fl (tkV t) 100 14) (apl [(.sint .i8 ((tkV t).i 114))] (apl (fl (tkV t) 115 14) (apl (fl t.x 131 18) ([(.sint .i16 (t.x.i 149))])))))))))))))))))))) [] [0, 0, 0] [zeroV, zeroV, zeroV])

noncomputable def oNs (t : SV) : SV := (mkSV (apl [(.sint .i64 (t.x.i 0)), (.sint .i64 (iadd (t.x.i 1) 1)), (.sint .i8 ((ltV t).x.i 0))] (apl (fl (ltV t).x 1 8) (apl [(.sint .i8 ((ltV t).x.i 9))] (apl (fl (ltV t).x 10 14) (apl [(.sint .i8 ((ltV t).x.i 24))] (apl (fl (ltV t).x 25 14) (apl [(.sint .i8 ((ltV t).x.i 39))] (apl (fl (ltV t).x 40 14) (apl [(.sint .i8 ((ltV t).x.i 54))] (apl (fl (ltV t).x 55 14) (apl [(.sint .i8 ((ltV t).x.i 69))] (apl (fl (ltV t).x 70 14) (apl [(.sint .i8 ((ltV t).x.i 84))] (apl (fl (ltV t).x 85 14) (apl [(.sint .i8 ((ltV t).x.i 99))] (apl (fl (ltV t).x 100 14) (apl [(.sint .i8 ((ltV t).x.i 114))] (apl (fl (ltV t).x 115 14) (apl (fl t.x 131 18) ([(.sint .i16 (t.x.i 149))])))))))))))))))))))) [] [0, 0, 0] [zeroV, zeroV, zeroV])

noncomputable def oDi (t : SV) : List Bool := [((decide ((-(9223372036854775807 + 1)) ≤ (iadd (t.x.i 1) 1))) && (decide ((iadd (t.x.i 1) 1) ≤ 9223372036854775807))), (decide (1 ≤ (t.x.i 2))), (decide ((t.x.i 2) ≤ 8)), ((decide ((t.x.i 2) ≤ 0)) || (!(isNan .f32 (farith .sub .f32 (t.x.u 139) (t.x.u 150))))), ((decide ((t.x.i 2) ≤ 1)) || (!(isNan .f32 (farith .sub .f32 (t.x.u 140) (t.x.u 151))))), ((decide ((t.x.i 2) ≤ 2)) || (!(isNan .f32 (farith .sub .f32 (t.x.u 141) (t.x.u 152))))), ((decide ((t.x.i 2) ≤ 3)) || (!(isNan .f32 (farith .sub .f32 (t.x.u 142) (t.x.u 153))))), ((decide ((t.x.i 2) ≤ 4)) || (!(isNan .f32 (farith .sub .f32 (t.x.u 143) (t.x.u 154))))), ((decide ((t.x.i 2) ≤ 5)) || (!(isNan .f32 (farith .sub .f32 (t.x.u 144) (t.x.u 155))))), ((decide ((t.x.i 2) ≤ 6)) || (!(isNan .f32 (farith .sub .f32 (t.x.u 145) (t.x.u 156))))), ((decide ((t.x.i 2) ≤ 7)) || (!(isNan .f32 (farith .sub .f32 (t.x.u 146) (t.x.u 157)))))]

noncomputable def oC (t : SV) : List Bool := [(decide (1 ≤ (t.x.i 2))), (decide ((t.x.i 2) ≤ 8)), ((decide ((t.x.i 2) ≤ 0)) || (!(isNan .f32 (farith .sub .f32 (t.x.u 139) (t.x.u 150))))), ((decide ((t.x.i 2) ≤ 1)) || (!(isNan .f32 (farith .sub .f32 (t.x.u 140) (t.x.u 151))))), ((decide ((t.x.i 2) ≤ 2)) || (!(isNan .f32 (farith .sub .f32 (t.x.u 141) (t.x.u 152))))), ((decide ((t.x.i 2) ≤ 3)) || (!(isNan .f32 (farith .sub .f32 (t.x.u 142) (t.x.u 153))))), ((decide ((t.x.i 2) ≤ 4)) || (!(isNan .f32 (farith .sub .f32 (t.x.u 143) (t.x.u 154))))), ((decide ((t.x.i 2) ≤ 5)) || (!(isNan .f32 (farith .sub .f32 (t.x.u 144) (t.x.u 155))))), ((decide ((t.x.i 2) ≤ 6)) || (!(isNan .f32 (farith .sub .f32 (t.x.u 145) (t.x.u 156))))), ((decide ((t.x.i 2) ≤ 7)) || (!(isNan .f32 (farith .sub .f32 (t.x.u 146) (t.x.u 157)))))]

noncomputable def oT (F : SV → Nat × SV) (Nx : SV → SV) (D : SV → List Bool) (s : SV) : Tr := .node [((decide ((-(9223372036854775807 + 1)) ≤ (iadd (s.x.i 0) (s.x.i 149)))) && (decide ((iadd (s.x.i 0) (s.x.i 149)) ≤ 9223372036854775807)))] (decide ((iadd (s.x.i 0) (s.x.i 149)) ≤ 1000)) (.node [innB (oS s)] (Nat.beq (F (oS s)).1 0) (.node (oC (F (oS s)).2) (fcmp .leq .f32 ((offV (F (oS s)).2).u 8) ((F (oS s)).2.x.u 147)) (.out 1 (oX (F (oS s)).2) []) (.next (Nx (F (oS s)).2) (D (F (oS s)).2))) (.out 1 (oY (F (oS s)).2) [])) (.out 0 (mkSV [] [] [0] [zeroV]) [])

theorem oi_t (s : SV) : Go.Sim.stepT Try.prog G36 (ntOf Try.prog 48) Hmi true 1000 oiL (loopOf Try.prog 48 0) s = some (oT miF oNi oDi s) := by kernel_rfl

theorem os_t (s : SV) : Go.Sim.stepT Try.prog G36 (ntOf Try.prog 47) Hms true 1000 osL (loopOf Try.prog 47 0) s = some (oT msF oNs oDi s) := by kernel_rfl

theorem oNs_eq (t : SV) : oNs t = oNi t := by
  unfold oNs oNi ltV
  rw [ltR_eq]
  refine mkSV_norm ?_
  kernel_rfl

/-- What holds behind the inner loop. -/
def Mid (t : SV) : Prop := UnitAt 2 t ∧ LastAt 2 150 t ∧ TargAt 139 t

theorem midOff {t : SV} (M : Mid t) (i : Nat) (hi : i < 8) : (decide (t.x.i 2 ≤ (i : Int)) || (!(isNan .f32 (farith .sub .f32 (t.x.u (139 + i)) (t.x.u (150 + i)))))) = true :=
  orE fun h => notT (sub_num (Nat.lt_of_le_of_lt (M.2.2 i hi) (by decide)) (M.2.1 i hi (Int.not_le.1 (of_decide_eq_false h))))

theorem midC {t : SV} (M : Mid t) : ∀ b ∈ oC t, b = true :=
  allC (decide_eq_true M.1.1) (allC (decide_eq_true M.1.2.1) (allC (midOff M 0 (by decide)) (allC (midOff M 1 (by decide)) (allC (midOff M 2 (by decide)) (allC (midOff M 3 (by decide)) (allC (midOff M 4 (by decide)) (allC (midOff M 5 (by decide)) (allC (midOff M 6 (by decide)) (allC (midOff M 7 (by decide)) allN)))))))))

theorem midD {t : SV} (M : Mid t) (h0 : 0 ≤ t.x.i 1) (h1 : t.x.i 1 ≤ 1000) : ∀ b ∈ oDi t, b = true :=
  allC (andT (decide_eq_true (by unfold iadd; omega)) (decide_eq_true (by unfold iadd; omega))) (midC M)

theorem tkV_fact {t : SV} (M : Mid t) : (tkV t).i 0 = t.x.i 2 ∧ (tkV t).i 9 = t.x.i 11 ∧ (tkV t).i 24 = t.x.i 26 ∧ (tkV t).i 39 = t.x.i 41 ∧ (tkV t).i 54 = t.x.i 56 ∧ (tkV t).i 69 = t.x.i 71 ∧ (tkV t).i 84 = t.x.i 86 ∧ (tkV t).i 99 = t.x.i 101 ∧ (tkV t).i 114 = t.x.i 116 := by
  have e : tkkR (mkL (shiftV 2 t.x) 0 (kdsP [.val (.ag kd2), .val (.ag kd4), .val (.ag kd3)])) = tkV t := by kernel_rfl
  have F := tkkFact (shiftV 2 t.x) M.1.1 M.1.2.1
  rw [e] at F
  exact F

def Out (s : SV) : Prop := 0 ≤ s.x.i 0 ∧ s.x.i 0 ≤ 1000 ∧ 0 ≤ s.x.i 1 ∧ s.x.i 1 ≤ s.x.i 0 ∧ 1 ≤ s.x.i 149 ∧ s.x.i 149 ≤ 50 ∧ UnitAt 2 s ∧ TargAt 139 s
noncomputable def outB (s : SV) : Bool := @decide (Out s) (Classical.propDecidable _)
theorem outB_of {s : SV} (h : outB s = true) : Out s := @of_decide_eq_true _ (Classical.propDecidable _) h
theorem outB_to {s : SV} (h : Out s) : outB s = true := @decide_eq_true _ (Classical.propDecidable _) h
def oMu (s : SV) : Nat := (1000 - s.x.i 0).toNat

theorem oS_inn (s : SV) (O : Out s) (hc : s.x.i 0 + s.x.i 149 ≤ 1000) : Inn (oS s) := by
  obtain ⟨o1, o2, o3, o4, o5, o6, U, Tg⟩ := O
  have e0 : (oS s).x.i 0 = s.x.i 0 := by kernel_rfl
  have e2 : (oS s).x.i 2 = s.x.i 149 := by kernel_rfl
  have e3 : (oS s).x.i 3 = 0 := by kernel_rfl
  have e4 : (oS s).x.i 4 = s.x.i 2 := by kernel_rfl
  have e5 : (oS s).x.i 151 = s.x.i 149 := by kernel_rfl
  refine ⟨by omega, by omega, by omega, by omega, by omega, by omega, ⟨by rw [e4]; exact U.1, by rw [e4]; exact U.2.1, ?_⟩, ?_⟩
  · rw [e4]
    exact eightI (fun hi => (show (oS s).x.i (4 + 9 + 15 * 0) = s.x.i (2 + 9 + 15 * 0) from by kernel_rfl) ▸ U.2.2 0 (by decide) hi) (fun hi => (show (oS s).x.i (4 + 9 + 15 * 1) = s.x.i (2 + 9 + 15 * 1) from by kernel_rfl) ▸ U.2.2 1 (by decide) hi) (fun hi => (show (oS s).x.i (4 + 9 + 15 * 2) = s.x.i (2 + 9 + 15 * 2) from by kernel_rfl) ▸ U.2.2 2 (by decide) hi) (fun hi => (show (oS s).x.i (4 + 9 + 15 * 3) = s.x.i (2 + 9 + 15 * 3) from by kernel_rfl) ▸ U.2.2 3 (by decide) hi) (fun hi => (show (oS s).x.i (4 + 9 + 15 * 4) = s.x.i (2 + 9 + 15 * 4) from by kernel_rfl) ▸ U.2.2 4 (by decide) hi) (fun hi => (show (oS s).x.i (4 + 9 + 15 * 5) = s.x.i (2 + 9 + 15 * 5) from by kernel_rfl) ▸ U.2.2 5 (by decide) hi) (fun hi => (show (oS s).x.i (4 + 9 + 15 * 6) = s.x.i (2 + 9 + 15 * 6) from by kernel_rfl) ▸ U.2.2 6 (by decide) hi) (fun hi => (show (oS s).x.i (4 + 9 + 15 * 7) = s.x.i (2 + 9 + 15 * 7) from by kernel_rfl) ▸ U.2.2 7 (by decide) hi)
  · unfold LastAt
    exact eightI (fun _ => (show (oS s).x.u (152 + 0) = 0 from by kernel_rfl) ▸ (show isNan .f32 0 = false from by decide +kernel)) (fun _ => (show (oS s).x.u (152 + 1) = 0 from by kernel_rfl) ▸ (show isNan .f32 0 = false from by decide +kernel)) (fun _ => (show (oS s).x.u (152 + 2) = 0 from by kernel_rfl) ▸ (show isNan .f32 0 = false from by decide +kernel)) (fun _ => (show (oS s).x.u (152 + 3) = 0 from by kernel_rfl) ▸ (show isNan .f32 0 = false from by decide +kernel)) (fun _ => (show (oS s).x.u (152 + 4) = 0 from by kernel_rfl) ▸ (show isNan .f32 0 = false from by decide +kernel)) (fun _ => (show (oS s).x.u (152 + 5) = 0 from by kernel_rfl) ▸ (show isNan .f32 0 = false from by decide +kernel)) (fun _ => (show (oS s).x.u (152 + 6) = 0 from by kernel_rfl) ▸ (show isNan .f32 0 = false from by decide +kernel)) (fun _ => (show (oS s).x.u (152 + 7) = 0 from by kernel_rfl) ▸ (show isNan .f32 0 = false from by decide +kernel))

theorem oS_mid (s : SV) (O : Out s) (t : SV) (F : Fin (oS s) t) : Mid t ∧ t.x.i 0 = s.x.i 0 + s.x.i 149 ∧ t.x.i 1 = s.x.i 1 ∧ t.x.i 149 = s.x.i 149 := by
  obtain ⟨f0, f1, f2, f3, f4, f5⟩ := F
  have e0 : (oS s).x.i 0 = s.x.i 0 := by kernel_rfl
  have e1 : (oS s).x.i 1 = s.x.i 1 := by kernel_rfl
  have e2 : (oS s).x.i 2 = s.x.i 149 := by kernel_rfl
  have e3 : (oS s).x.i 3 = 0 := by kernel_rfl
  have e5 : (oS s).x.i 151 = s.x.i 149 := by kernel_rfl
  have q : ∀ i : Nat, i < 8 → (oS s).x.u (141 + i) = s.x.u (139 + i) := eightI (by kernel_rfl) (by kernel_rfl) (by kernel_rfl) (by kernel_rfl) (by kernel_rfl) (by kernel_rfl) (by kernel_rfl) (by kernel_rfl)
  refine ⟨⟨f2, f3, fun i hi => ?_⟩, by rw [f0, e0, e2, e3]; omega, f1.trans e1, f5.trans e5⟩
  rw [f4 i hi, q i hi]
  exact O.2.2.2.2.2.2.2 i hi

theorem oN_out (s : SV) (O : Out s) (hc : s.x.i 0 + s.x.i 149 ≤ 1000) (t : SV) (F : Fin (oS s) t) : Out (oNi t) ∧ oMu (oNi t) < oMu s := by
  obtain ⟨M, t0, t1, t2⟩ := oS_mid s O t F
  have K := tkV_fact M
  obtain ⟨o1, o2, o3, o4, o5, o6, U, Tg⟩ := O
  have e0 : (oNi t).x.i 0 = t.x.i 0 := by kernel_rfl
  have e1 : (oNi t).x.i 1 = iadd (t.x.i 1) 1 := by kernel_rfl
  have e2 : (oNi t).x.i 149 = t.x.i 149 := by kernel_rfl
  have e4 : (oNi t).x.i 2 = t.x.i 2 := (show (oNi t).x.i 2 = (tkV t).i 0 from by kernel_rfl).trans K.1
  have r0 : (oNi t).x.i (2 + 9 + 15 * 0) = t.x.i (2 + 9 + 15 * 0) := (show (oNi t).x.i 11 = (tkV t).i 9 from by kernel_rfl).trans K.2.1
  have r1 : (oNi t).x.i (2 + 9 + 15 * 1) = t.x.i (2 + 9 + 15 * 1) := (show (oNi t).x.i 26 = (tkV t).i 24 from by kernel_rfl).trans K.2.2.1
  have r2 : (oNi t).x.i (2 + 9 + 15 * 2) = t.x.i (2 + 9 + 15 * 2) := (show (oNi t).x.i 41 = (tkV t).i 39 from by kernel_rfl).trans K.2.2.2.1
  have r3 : (oNi t).x.i (2 + 9 + 15 * 3) = t.x.i (2 + 9 + 15 * 3) := (show (oNi t).x.i 56 = (tkV t).i 54 from by kernel_rfl).trans K.2.2.2.2.1
  have r4 : (oNi t).x.i (2 + 9 + 15 * 4) = t.x.i (2 + 9 + 15 * 4) := (show (oNi t).x.i 71 = (tkV t).i 69 from by kernel_rfl).trans K.2.2.2.2.2.1
  have r5 : (oNi t).x.i (2 + 9 + 15 * 5) = t.x.i (2 + 9 + 15 * 5) := (show (oNi t).x.i 86 = (tkV t).i 84 from by kernel_rfl).trans K.2.2.2.2.2.2.1
  have r6 : (oNi t).x.i (2 + 9 + 15 * 6) = t.x.i (2 + 9 + 15 * 6) := (show (oNi t).x.i 101 = (tkV t).i 99 from by kernel_rfl).trans K.2.2.2.2.2.2.2.1
  have r7 : (oNi t).x.i (2 + 9 + 15 * 7) = t.x.i (2 + 9 + 15 * 7) := (show (oNi t).x.i 116 = (tkV t).i 114 from by kernel_rfl).trans K.2.2.2.2.2.2.2.2
  have q : ∀ i : Nat, i < 8 → (oNi t).x.u (139 + i) = t.x.u (139 + i) := eightI (by kernel_rfl) (by kernel_rfl) (by kernel_rfl) (by kernel_rfl) (by kernel_rfl) (by kernel_rfl) (by kernel_rfl) (by kernel_rfl)
  unfold iadd at e1
  refine ⟨⟨by omega, by omega, by omega, by omega, by omega, by omega, ⟨by rw [e4]; exact M.1.1, by rw [e4]; exact M.1.2.1, ?_⟩, fun i hi => by rw [q i hi]; exact M.2.2 i hi⟩, by unfold oMu; omega⟩
  rw [e4]
  exact eightI (fun hi => by rw [r0]; exact M.1.2.2 0 (by decide) hi) (fun hi => by rw [r1]; exact M.1.2.2 1 (by decide) hi) (fun hi => by rw [r2]; exact M.1.2.2 2 (by decide) hi) (fun hi => by rw [r3]; exact M.1.2.2 3 (by decide) hi) (fun hi => by rw [r4]; exact M.1.2.2 4 (by decide) hi) (fun hi => by rw [r5]; exact M.1.2.2 5 (by decide) hi) (fun hi => by rw [r6]; exact M.1.2.2 6 (by decide) hi) (fun hi => by rw [r7]; exact M.1.2.2 7 (by decide) hi)

theorem oGo (F : SV → Nat × SV) (Nx : SV → SV) (D : SV → List Bool) (hF : ∀ s, Inn s → F s = msF s) (hN : ∀ t, Nx t = oNi t) (hD : ∀ t, D t = oDi t) (s : SV) (hp : ∀ b ∈ [outB s], b = true) :
    (oT F Nx D s).ok ∧ (∀ k s', (oT F Nx D s).pick = .out k s' → k < 2) ∧ ∀ s', (oT F Nx D s).pick = .next s' → (∀ b ∈ [outB s'], b = true) ∧ oMu s' < oMu s := by
  have O := outB_of (hp _ (List.mem_cons_self ..))
  have hI : ∀ b ∈ ([((decide ((-(9223372036854775807 + 1)) ≤ (iadd (s.x.i 0) (s.x.i 149)))) && (decide ((iadd (s.x.i 0) (s.x.i 149)) ≤ 9223372036854775807)))] : List Bool), b = true := by
    obtain ⟨o1, o2, o3, o4, o5, o6, _⟩ := O
    exact allC (andT (decide_eq_true (by unfold iadd; omega)) (decide_eq_true (by unfold iadd; omega))) allN
  unfold oT
  cases hc : (decide ((iadd (s.x.i 0) (s.x.i 149)) ≤ 1000)) with
  | false =>
    refine ⟨⟨hI, (fun h => by cases h), (fun _ b hb => by cases hb)⟩, fun k s' h => ?_, fun s' h => ?_⟩
    · cases h; decide
    · cases h
  | true =>
    have hle : s.x.i 0 + s.x.i 149 ≤ 1000 := of_decide_eq_true hc
    have J := oS_inn s O hle
    have hJ : ∀ b ∈ [innB (oS s)], b = true := fun b hb => by rw [List.mem_singleton.1 hb]; exact innB_to J
    rw [hF _ J]
    cases hk : Nat.beq (msF (oS s)).1 0 with
    | false =>
      refine ⟨⟨hI, (fun _ => ⟨hJ, (fun h => by cases h), (fun _ b hb => by cases hb)⟩), (fun h => by cases h)⟩, fun k s' h => ?_, fun s' h => ?_⟩
      · cases h; decide
      · cases h
    | true =>
      have Fn := mF_out _ J (Nat.eq_of_beq_eq_true hk)
      generalize (msF (oS s)).2 = t at Fn ⊢
      obtain ⟨M, t0, t1, t2⟩ := oS_mid s O t Fn
      have hC := midC M
      cases hq : fcmp .leq .f32 ((offV t).u 8) (t.x.u 147) with
      | true =>
        refine ⟨⟨hI, (fun _ => ⟨hJ, (fun _ => ⟨hC, (fun _ b hb => by cases hb), (fun h => by cases h)⟩), (fun h => by cases h)⟩), (fun h => by cases h)⟩, fun k s' h => ?_, fun s' h => ?_⟩
        · cases h; decide
        · cases h
      | false =>
        have Q := oN_out s O hle t Fn
        have hDt : ∀ b ∈ D t, b = true := by
          rw [hD t]
          refine midD M ?_ ?_ <;> obtain ⟨o1, o2, o3, o4, _⟩ := O <;> omega
        refine ⟨⟨hI, (fun _ => ⟨hJ, (fun _ => ⟨hC, (fun h => by cases h), (fun _ => hDt)⟩), (fun h => by cases h)⟩), (fun h => by cases h)⟩, fun k s' h => ?_, fun s' h => ?_⟩
        · cases h
        · cases h
          rw [hN t]
          exact ⟨fun b hb => by rw [List.mem_singleton.1 hb]; exact outB_to Q.1, Q.2⟩

theorem oRun (N : Nat) : ∀ s, Out s → Go.Sim.runT (oT miF oNi oDi) N s = Go.Sim.runT (oT msF oNs oDi) N s := by
  induction N with
  | zero => intro s _; rfl
  | succ N ih =>
    intro s O
    have e : (oT miF oNi oDi s).pick = (oT msF oNs oDi s).pick := by
      unfold oT
      simp only [Tr.pick, oNs_eq]
      cases hc : (decide ((iadd (s.x.i 0) (s.x.i 149)) ≤ 1000)) with
      | false => rfl
      | true => rw [mF_eq _ (oS_inn s O (of_decide_eq_true hc))]
    simp only [Go.Sim.runT, e]
    cases hp : (oT msF oNs oDi s).pick with
    | out k s' => rfl
    | next s' =>
      have := ((oGo msF oNs oDi (fun _ _ => rfl) oNs_eq (fun _ => rfl) s (fun b hb => by rw [List.mem_singleton.1 hb]; exact outB_to O)).2.2 s' hp).1
      exact ih s' (outB_of (this _ (List.mem_cons_self ..)))

noncomputable def osF0 (s : SV) : Nat × SV := Go.Sim.runT (oT msF oNs oDi) (oMu s + 1) s

noncomputable def osF : SV → Nat × SV := Classical.choose (⟨osF0, rfl⟩ : ∃ f, f = osF0)

theorem osF_eq : osF = osF0 := Classical.choose_spec (⟨osF0, rfl⟩ : ∃ f, f = osF0)

noncomputable def osPre (s : SV) : List Bool := [outB s]

noncomputable def Hos : LTab := hookL 0 osL osPre osF Hms

theorem Hos_ok : HFun Try.prog 0 Hos 47 := by
  unfold Hos
  rw [osF_eq]
  exact HFun.loop G36_ok mixed (J := true) (n := 1000) (L := osL) (T := oT msF oNs oDi) (pre := osPre) (μ := oMu) Hms_ok (by kernel_rfl) (by decide) (by decide) os_t (fun s hp => oGo msF oNs oDi (fun _ _ => rfl) oNs_eq (fun _ => rfl) s hp)

noncomputable def oiF0 (s : SV) : Nat × SV := Go.Sim.runT (oT miF oNi oDi) (oMu s + 1) s

noncomputable def oiF : SV → Nat × SV := Classical.choose (⟨oiF0, rfl⟩ : ∃ f, f = oiF0)

theorem oiF_eq : oiF = oiF0 := Classical.choose_spec (⟨oiF0, rfl⟩ : ∃ f, f = oiF0)

noncomputable def oiPre (s : SV) : List Bool := [outB s]

noncomputable def Hoi : LTab := hookL 0 oiL oiPre oiF Hmi

theorem Hoi_ok : HFun Try.prog 0 Hoi 48 := by
  unfold Hoi
  rw [oiF_eq]
  exact HFun.loop G36_ok mixed (J := true) (n := 1000) (L := oiL) (T := oT miF oNi oDi) (pre := oiPre) (μ := oMu) Hmi_ok (by kernel_rfl) (by decide) (by decide) oi_t (fun s hp => oGo miF oNi oDi mF_eq (fun _ => rfl) (fun _ => rfl) s hp)

theorem oF_eq (s : SV) (O : Out s) : oiF s = osF s := by
  rw [oiF_eq, osF_eq]
  exact oRun _ s O

end Go.Proofs.Ytdagaggpaohmcaa

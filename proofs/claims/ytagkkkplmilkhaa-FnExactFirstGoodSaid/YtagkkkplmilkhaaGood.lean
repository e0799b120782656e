/-
  Facts of this seat that its laws use; no conditions.
-/
import Derived.Test.YtagkkkplmilkhaaGd
namespace Go.Proofs.Ytagkkkplmilkhaa
open Go.Sim Go.ChangeShapes Go.WideShapes Go.ChangeAt Go.RowKit

def fGE : Frm := ⟨[.cst (.snil), .sc (.int .i64)], [.sym (.flt .f32) false]⟩
def fGO : Frm := ⟨[.ssl 1 0 1, .sc (.int .i64)], [.sym (.flt .f32) false, .sym .bool true]⟩

noncomputable def gS0 (s : SV) : SV := (mkSV (apl [(.sint .i8 (s.x.i 0))] (apl (fl s.x 1 8) (apl [(.sint .i8 (s.x.i 9))] (apl (fl s.x 10 14) (apl [(.sint .i8 (s.x.i 24))] (apl (fl s.x 25 14) (apl [(.sint .i8 (s.x.i 39))] (apl (fl s.x 40 14) (apl [(.sint .i8 (s.x.i 54))] (apl (fl s.x 55 14) (apl [(.sint .i8 (s.x.i 69))] (apl (fl s.x 70 14) (apl [(.sint .i8 (s.x.i 84))] (apl (fl s.x 85 14) (apl [(.sint .i8 (s.x.i 99))] (apl (fl s.x 100 14) (apl [(.sint .i8 (s.x.i 114))] (apl (fl s.x 115 32) ([(.sint .i16 (s.x.i 147))]))))))))))))))))))) [(s.len 0)] [(s.n 0)] [(s.y 0)])

theorem asIR_i (s : SV) : (asIR s).i 0 = askC s.x (s.len 0) (s.y 0) := by rw [asIR_eq]; rfl

theorem gS0_i (s : SV) : (asIR (gS0 s)).i 0 = askC s.x (s.len 0) (s.y 0) := (asIR_i _).trans (show askC (gS0 s).x ((gS0 s).len 0) ((gS0 s).y 0) = askC s.x (s.len 0) (s.y 0) from by kernel_rfl)

theorem good_E (s : SV) : funT Try.prog GAasI noLT true 1000 57 1 [fGE, fGO] (mkVs s 0 0 fAI.vals) (mkM fAI s) [true] = some (.out 0 (mkSV [.sint .i64 ((asIR (gS0 s)).i 0)] [] [s.n 0] [s.y 0]) [!(decide ((asIR (gS0 s)).i 0 = 0)), asIQB (gS0 s)]) := by kernel_rfl

noncomputable def gNe (s : SV) : Bool := !(decide (askC s.x (s.len 0) (s.y 0) = 0))

noncomputable def gEPre (s : SV) : List Bool := [asIQB s, gNe s]
noncomputable def gOPre (s : SV) : List Bool := [asIQB s, !(gNe s)]

noncomputable def goodER0 (s : SV) : SV := mkSV [.sint .i64 (askC s.x (s.len 0) (s.y 0))] [] [s.n 0] [s.y 0]

noncomputable def goodER : SV → SV := Classical.choose (⟨goodER0, rfl⟩ : ∃ f, f = goodER0)

theorem goodER_eq : goodER = goodER0 := Classical.choose_spec (⟨goodER0, rfl⟩ : ∃ f, f = goodER0)

theorem askC_ok {x : Vars} {l : Nat} {y : Vars} (h : askC x l y = 0) : badU x = false ∧ allOk (x.i 0).toNat l y = true := by
  unfold askC at h
  revert h
  cases badU x <;> cases allOk (x.i 0).toNat l y <;> decide

def shV (n : Nat) (x : Vars) : Vars := { u := fun j => x.u (j + n), i := fun j => x.i (j + n), b := fun j => x.b (j + n), s := fun j => x.s (j + n) }

theorem badU_targ {x : Vars} (h : badU x = false) : ∀ i, i < 8 → x.u (137 + i) % 2147483648 ≤ 1098907648 := by
  unfold badU at h
  rw [Bool.or_eq_false_iff] at h
  have v : ssB x = true := notBF h.2
  have K := validSetting_key (shV 129 x) ((show (validSettingR (mkL (shV 129 x) 0 (kdsP [.val (.ag kd4)]))).b 0 = ssB x from by kernel_rfl).trans v)
  obtain ⟨a0, a1, a2, a3, a4, a5, a6, a7⟩ := K
  exact eightI (P := fun i => x.u (137 + i) % 2147483648 ≤ 1098907648) (isKey_in a0).2 (isKey_in a1).2 (isKey_in a2).2 (isKey_in a3).2 (isKey_in a4).2 (isKey_in a5).2 (isKey_in a6).2 (isKey_in a7).2

theorem gQ (s : SV) (h : asIQB s = true) : asIQB (gS0 s) = true := by
  obtain ⟨a, b⟩ := asIQB_of h
  exact asIQB_to ⟨a, b⟩

noncomputable def gT1 (s : SV) : SV := (mkSV (apl [(.int .i64 0), (.sint .i64 (ofN (s.len 0)))] (apl (fl s.x 1 8) (apl [(.sint .i8 (s.x.i 9))] (apl (fl s.x 10 14) (apl [(.sint .i8 (s.x.i 24))] (apl (fl s.x 25 14) (apl [(.sint .i8 (s.x.i 39))] (apl (fl s.x 40 14) (apl [(.sint .i8 (s.x.i 54))] (apl (fl s.x 55 14) (apl [(.sint .i8 (s.x.i 69))] (apl (fl s.x 70 14) (apl [(.sint .i8 (s.x.i 84))] (apl (fl s.x 85 14) (apl [(.sint .i8 (s.x.i 99))] (apl (fl s.x 100 14) (apl [(.sint .i8 (s.x.i 114))] (apl (fl s.x 115 32) ([(.sint .i16 (s.x.i 147))]))))))))))))))))))) [(s.len 0), 0] [(s.n 0), 0, 0, 0] [(s.y 0), zeroV, zeroV, (varsOf [])])
noncomputable def gS1 (s : SV) : SV := (mkSV (apl [(.int .i8 1)] (apl (fl s.x 1 8) (apl [(.sint .i8 (s.x.i 9))] (apl (fl s.x 10 14) (apl [(.sint .i8 (s.x.i 24))] (apl (fl s.x 25 14) (apl [(.sint .i8 (s.x.i 39))] (apl (fl s.x 40 14) (apl [(.sint .i8 (s.x.i 54))] (apl (fl s.x 55 14) (apl [(.sint .i8 (s.x.i 69))] (apl (fl s.x 70 14) (apl [(.sint .i8 (s.x.i 84))] (apl (fl s.x 85 14) (apl [(.sint .i8 (s.x.i 99))] (apl (fl s.x 100 14) (apl [(.sint .i8 (s.x.i 114))] (apl (fl s.x 115 32) ([(.sint .i16 (s.x.i 147))]))))))))))))))))))) [(s.len 0)] [(s.n 0)] [(s.y 0)])

noncomputable def gdO1 (s : SV) : SV := (mkSV [(.int .i64 0)] [((gdI1F (gT1 s)).2.len 0)] [((gdI1F (gT1 s)).2.n 0), ((gdI1F (gT1 s)).2.n 1)] [((gdI1F (gT1 s)).2.y 0), ((gdI1F (gT1 s)).2.y 1)])

theorem good_O1 (s : SV) : funT Try.prog GAasI HgdI1 true 1000 57 1 [fGE, fGO] (litV 1 (mkVs s 0 0 fAI.vals)) (mkM fAI s) [false] = some (.out 1 (gdO1 s) [gdI1B (gT1 s), ((decide ((-(9223372036854775807 + 1)) ≤ (ofN (s.len 0)))) && (decide ((ofN (s.len 0)) ≤ 9223372036854775807))), !(!(decide ((asIR (gS1 s)).i 0 = 0))), asIQB (gS1 s)]) := by kernel_rfl

theorem gS1_i (s : SV) (hz : s.x.i 0 = 1) : (asIR (gS1 s)).i 0 = askC s.x (s.len 0) (s.y 0) := by
  rw [asIR_i]
  show askC (gS1 s).x (s.len 0) (s.y 0) = _
  unfold askC
  rw [show badU (gS1 s).x = badZ 1 s.x from by kernel_rfl, badZ_eq hz, show (gS1 s).x.i 0 = 1 from by kernel_rfl, hz]

theorem gT1_P (s : SV) (hz : s.x.i 0 = 1) (hq : asIQB s = true) (h : askC s.x (s.len 0) (s.y 0) = 0) : gdI1P (gT1 s) := by
  obtain ⟨q1, q2⟩ := asIQB_of hq
  obtain ⟨b1, b2⟩ := askC_ok h
  rw [hz, show (1 : Int).toNat = 1 from rfl] at b2
  have a0 : (gT1 s).x.i 0 = 0 := by kernel_rfl
  have a1 : (gT1 s).len 0 = s.len 0 := by kernel_rfl
  have a2 : (gT1 s).n 0 = s.n 0 := by kernel_rfl
  have a3 : (gT1 s).x.i 1 = s.len 0 := by kernel_rfl
  have a4 : (gT1 s).len 1 = 0 := by kernel_rfl
  have a5 : (gT1 s).n 3 = 0 := by kernel_rfl
  have a6 : (gT1 s).y 0 = s.y 0 := by kernel_rfl
  refine ⟨by omega, by omega, by omega, by omega, by omega, by omega, by omega, ?_, ?_⟩
  · rw [a1, a6]
    exact allOk_of b2
  · exact eightI (P := fun i => (gT1 s).x.u (138 + i) % 2147483648 ≤ 1098907648) ((show (gT1 s).x.u (138 + 0) = s.x.u (137 + 0) from by kernel_rfl) ▸ badU_targ b1 0 (by decide)) ((show (gT1 s).x.u (138 + 1) = s.x.u (137 + 1) from by kernel_rfl) ▸ badU_targ b1 1 (by decide)) ((show (gT1 s).x.u (138 + 2) = s.x.u (137 + 2) from by kernel_rfl) ▸ badU_targ b1 2 (by decide)) ((show (gT1 s).x.u (138 + 3) = s.x.u (137 + 3) from by kernel_rfl) ▸ badU_targ b1 3 (by decide)) ((show (gT1 s).x.u (138 + 4) = s.x.u (137 + 4) from by kernel_rfl) ▸ badU_targ b1 4 (by decide)) ((show (gT1 s).x.u (138 + 5) = s.x.u (137 + 5) from by kernel_rfl) ▸ badU_targ b1 5 (by decide)) ((show (gT1 s).x.u (138 + 6) = s.x.u (137 + 6) from by kernel_rfl) ▸ badU_targ b1 6 (by decide)) ((show (gT1 s).x.u (138 + 7) = s.x.u (137 + 7) from by kernel_rfl) ▸ badU_targ b1 7 (by decide))

theorem gdO1_f (s : SV) (hz : s.x.i 0 = 1) (hq : asIQB s = true) (h : askC s.x (s.len 0) (s.y 0) = 0) : (gdO1 s).len 0 = s.len 0 ∧ (∀ j, j < s.len 0 → ((gdO1 s).y 1).b j = goodF 1 (fun i => s.x.u (137 + i)) (s.x.u 145) (s.y 0) j) ∧ (gdO1 s).n 1 = s.len 0 ∧ (gdO1 s).n 0 = s.n 0 ∧ (gdO1 s).y 0 = s.y 0 ∧ (gdO1 s).x.i 0 = 0 := by
  obtain ⟨_, f2, f3, f4, f5, f6⟩ := gdI1_yes (gT1 s) (gT1_P s hz hq h) (by kernel_rfl) (by kernel_rfl)
  have a1 : (gT1 s).len 0 = s.len 0 := by kernel_rfl
  have a2 : (gT1 s).n 0 = s.n 0 := by kernel_rfl
  have a6 : (gT1 s).y 0 = s.y 0 := by kernel_rfl
  have a7 : (gT1 s).x.u 146 = s.x.u 145 := by kernel_rfl
  rw [a1] at f2 f3 f4
  rw [a2] at f5
  rw [a6] at f3 f6
  rw [a7] at f3
  refine ⟨(show (gdO1 s).len 0 = (gdI1F (gT1 s)).2.len 0 from by kernel_rfl).trans f2, fun j hj => ?_, (show (gdO1 s).n 1 = (gdI1F (gT1 s)).2.n 1 from by kernel_rfl).trans f4, (show (gdO1 s).n 0 = (gdI1F (gT1 s)).2.n 0 from by kernel_rfl).trans f5, (show (gdO1 s).y 0 = (gdI1F (gT1 s)).2.y 0 from by kernel_rfl).trans f6, by kernel_rfl⟩
  rw [show (gdO1 s).y 1 = (gdI1F (gT1 s)).2.y 1 from by kernel_rfl, f3 j hj]
  unfold goodF
  rw [gM_congr (z := 1) (f := fun i => szD ((gT1 s).x.u (138 + i)) ((s.y 0).u (8 * j + i))) (g := fun i => szD (s.x.u (137 + i)) ((s.y 0).u (8 * j + i))) fun i hi => by rw [eightI (P := fun i => (gT1 s).x.u (138 + i) = s.x.u (137 + i)) (by kernel_rfl) (by kernel_rfl) (by kernel_rfl) (by kernel_rfl) (by kernel_rfl) (by kernel_rfl) (by kernel_rfl) (by kernel_rfl) i (by omega)]]

noncomputable def gT2 (s : SV) : SV := (mkSV (apl [(.int .i64 0), (.sint .i64 (ofN (s.len 0)))] (apl (fl s.x 1 8) (apl [(.sint .i8 (s.x.i 9))] (apl (fl s.x 10 14) (apl [(.sint .i8 (s.x.i 24))] (apl (fl s.x 25 14) (apl [(.sint .i8 (s.x.i 39))] (apl (fl s.x 40 14) (apl [(.sint .i8 (s.x.i 54))] (apl (fl s.x 55 14) (apl [(.sint .i8 (s.x.i 69))] (apl (fl s.x 70 14) (apl [(.sint .i8 (s.x.i 84))] (apl (fl s.x 85 14) (apl [(.sint .i8 (s.x.i 99))] (apl (fl s.x 100 14) (apl [(.sint .i8 (s.x.i 114))] (apl (fl s.x 115 32) ([(.sint .i16 (s.x.i 147))]))))))))))))))))))) [(s.len 0), 0] [(s.n 0), 0, 0, 0] [(s.y 0), zeroV, zeroV, (varsOf [])])
noncomputable def gS2 (s : SV) : SV := (mkSV (apl [(.int .i8 2)] (apl (fl s.x 1 8) (apl [(.sint .i8 (s.x.i 9))] (apl (fl s.x 10 14) (apl [(.sint .i8 (s.x.i 24))] (apl (fl s.x 25 14) (apl [(.sint .i8 (s.x.i 39))] (apl (fl s.x 40 14) (apl [(.sint .i8 (s.x.i 54))] (apl (fl s.x 55 14) (apl [(.sint .i8 (s.x.i 69))] (apl (fl s.x 70 14) (apl [(.sint .i8 (s.x.i 84))] (apl (fl s.x 85 14) (apl [(.sint .i8 (s.x.i 99))] (apl (fl s.x 100 14) (apl [(.sint .i8 (s.x.i 114))] (apl (fl s.x 115 32) ([(.sint .i16 (s.x.i 147))]))))))))))))))))))) [(s.len 0)] [(s.n 0)] [(s.y 0)])

noncomputable def gdO2 (s : SV) : SV := (mkSV [(.int .i64 0)] [((gdI2F (gT2 s)).2.len 0)] [((gdI2F (gT2 s)).2.n 0), ((gdI2F (gT2 s)).2.n 1)] [((gdI2F (gT2 s)).2.y 0), ((gdI2F (gT2 s)).2.y 1)])

theorem good_O2 (s : SV) : funT Try.prog GAasI HgdI2 true 1000 57 1 [fGE, fGO] (litV 2 (mkVs s 0 0 fAI.vals)) (mkM fAI s) [false] = some (.out 1 (gdO2 s) [gdI2B (gT2 s), ((decide ((-(9223372036854775807 + 1)) ≤ (ofN (s.len 0)))) && (decide ((ofN (s.len 0)) ≤ 9223372036854775807))), !(!(decide ((asIR (gS2 s)).i 0 = 0))), asIQB (gS2 s)]) := by kernel_rfl

theorem gS2_i (s : SV) (hz : s.x.i 0 = 2) : (asIR (gS2 s)).i 0 = askC s.x (s.len 0) (s.y 0) := by
  rw [asIR_i]
  show askC (gS2 s).x (s.len 0) (s.y 0) = _
  unfold askC
  rw [show badU (gS2 s).x = badZ 2 s.x from by kernel_rfl, badZ_eq hz, show (gS2 s).x.i 0 = 2 from by kernel_rfl, hz]

theorem gT2_P (s : SV) (hz : s.x.i 0 = 2) (hq : asIQB s = true) (h : askC s.x (s.len 0) (s.y 0) = 0) : gdI2P (gT2 s) := by
  obtain ⟨q1, q2⟩ := asIQB_of hq
  obtain ⟨b1, b2⟩ := askC_ok h
  rw [hz, show (2 : Int).toNat = 2 from rfl] at b2
  have a0 : (gT2 s).x.i 0 = 0 := by kernel_rfl
  have a1 : (gT2 s).len 0 = s.len 0 := by kernel_rfl
  have a2 : (gT2 s).n 0 = s.n 0 := by kernel_rfl
  have a3 : (gT2 s).x.i 1 = s.len 0 := by kernel_rfl
  have a4 : (gT2 s).len 1 = 0 := by kernel_rfl
  have a5 : (gT2 s).n 3 = 0 := by kernel_rfl
  have a6 : (gT2 s).y 0 = s.y 0 := by kernel_rfl
  refine ⟨by omega, by omega, by omega, by omega, by omega, by omega, by omega, ?_, ?_⟩
  · rw [a1, a6]
    exact allOk_of b2
  · exact eightI (P := fun i => (gT2 s).x.u (138 + i) % 2147483648 ≤ 1098907648) ((show (gT2 s).x.u (138 + 0) = s.x.u (137 + 0) from by kernel_rfl) ▸ badU_targ b1 0 (by decide)) ((show (gT2 s).x.u (138 + 1) = s.x.u (137 + 1) from by kernel_rfl) ▸ badU_targ b1 1 (by decide)) ((show (gT2 s).x.u (138 + 2) = s.x.u (137 + 2) from by kernel_rfl) ▸ badU_targ b1 2 (by decide)) ((show (gT2 s).x.u (138 + 3) = s.x.u (137 + 3) from by kernel_rfl) ▸ badU_targ b1 3 (by decide)) ((show (gT2 s).x.u (138 + 4) = s.x.u (137 + 4) from by kernel_rfl) ▸ badU_targ b1 4 (by decide)) ((show (gT2 s).x.u (138 + 5) = s.x.u (137 + 5) from by kernel_rfl) ▸ badU_targ b1 5 (by decide)) ((show (gT2 s).x.u (138 + 6) = s.x.u (137 + 6) from by kernel_rfl) ▸ badU_targ b1 6 (by decide)) ((show (gT2 s).x.u (138 + 7) = s.x.u (137 + 7) from by kernel_rfl) ▸ badU_targ b1 7 (by decide))

theorem gdO2_f (s : SV) (hz : s.x.i 0 = 2) (hq : asIQB s = true) (h : askC s.x (s.len 0) (s.y 0) = 0) : (gdO2 s).len 0 = s.len 0 ∧ (∀ j, j < s.len 0 → ((gdO2 s).y 1).b j = goodF 2 (fun i => s.x.u (137 + i)) (s.x.u 145) (s.y 0) j) ∧ (gdO2 s).n 1 = s.len 0 ∧ (gdO2 s).n 0 = s.n 0 ∧ (gdO2 s).y 0 = s.y 0 ∧ (gdO2 s).x.i 0 = 0 := by
  obtain ⟨_, f2, f3, f4, f5, f6⟩ := gdI2_yes (gT2 s) (gT2_P s hz hq h) (by kernel_rfl) (by kernel_rfl)
  have a1 : (gT2 s).len 0 = s.len 0 := by kernel_rfl
  have a2 : (gT2 s).n 0 = s.n 0 := by kernel_rfl
  have a6 : (gT2 s).y 0 = s.y 0 := by kernel_rfl
  have a7 : (gT2 s).x.u 146 = s.x.u 145 := by kernel_rfl
  rw [a1] at f2 f3 f4
  rw [a2] at f5
  rw [a6] at f3 f6
  rw [a7] at f3
  refine ⟨(show (gdO2 s).len 0 = (gdI2F (gT2 s)).2.len 0 from by kernel_rfl).trans f2, fun j hj => ?_, (show (gdO2 s).n 1 = (gdI2F (gT2 s)).2.n 1 from by kernel_rfl).trans f4, (show (gdO2 s).n 0 = (gdI2F (gT2 s)).2.n 0 from by kernel_rfl).trans f5, (show (gdO2 s).y 0 = (gdI2F (gT2 s)).2.y 0 from by kernel_rfl).trans f6, by kernel_rfl⟩
  rw [show (gdO2 s).y 1 = (gdI2F (gT2 s)).2.y 1 from by kernel_rfl, f3 j hj]
  unfold goodF
  rw [gM_congr (z := 2) (f := fun i => szD ((gT2 s).x.u (138 + i)) ((s.y 0).u (8 * j + i))) (g := fun i => szD (s.x.u (137 + i)) ((s.y 0).u (8 * j + i))) fun i hi => by rw [eightI (P := fun i => (gT2 s).x.u (138 + i) = s.x.u (137 + i)) (by kernel_rfl) (by kernel_rfl) (by kernel_rfl) (by kernel_rfl) (by kernel_rfl) (by kernel_rfl) (by kernel_rfl) (by kernel_rfl) i (by omega)]]

noncomputable def gT3 (s : SV) : SV := (mkSV (apl [(.int .i64 0), (.sint .i64 (ofN (s.len 0)))] (apl (fl s.x 1 8) (apl [(.sint .i8 (s.x.i 9))] (apl (fl s.x 10 14) (apl [(.sint .i8 (s.x.i 24))] (apl (fl s.x 25 14) (apl [(.sint .i8 (s.x.i 39))] (apl (fl s.x 40 14) (apl [(.sint .i8 (s.x.i 54))] (apl (fl s.x 55 14) (apl [(.sint .i8 (s.x.i 69))] (apl (fl s.x 70 14) (apl [(.sint .i8 (s.x.i 84))] (apl (fl s.x 85 14) (apl [(.sint .i8 (s.x.i 99))] (apl (fl s.x 100 14) (apl [(.sint .i8 (s.x.i 114))] (apl (fl s.x 115 32) ([(.sint .i16 (s.x.i 147))]))))))))))))))))))) [(s.len 0), 0] [(s.n 0), 0, 0, 0] [(s.y 0), zeroV, zeroV, (varsOf [])])
noncomputable def gS3 (s : SV) : SV := (mkSV (apl [(.int .i8 3)] (apl (fl s.x 1 8) (apl [(.sint .i8 (s.x.i 9))] (apl (fl s.x 10 14) (apl [(.sint .i8 (s.x.i 24))] (apl (fl s.x 25 14) (apl [(.sint .i8 (s.x.i 39))] (apl (fl s.x 40 14) (apl [(.sint .i8 (s.x.i 54))] (apl (fl s.x 55 14) (apl [(.sint .i8 (s.x.i 69))] (apl (fl s.x 70 14) (apl [(.sint .i8 (s.x.i 84))] (apl (fl s.x 85 14) (apl [(.sint .i8 (s.x.i 99))] (apl (fl s.x 100 14) (apl [(.sint .i8 (s.x.i 114))] (apl (fl s.x 115 32) ([(.sint .i16 (s.x.i 147))]))))))))))))))))))) [(s.len 0)] [(s.n 0)] [(s.y 0)])

noncomputable def gdO3 (s : SV) : SV := (mkSV [(.int .i64 0)] [((gdI3F (gT3 s)).2.len 0)] [((gdI3F (gT3 s)).2.n 0), ((gdI3F (gT3 s)).2.n 1)] [((gdI3F (gT3 s)).2.y 0), ((gdI3F (gT3 s)).2.y 1)])

theorem good_O3 (s : SV) : funT Try.prog GAasI HgdI3 true 1000 57 1 [fGE, fGO] (litV 3 (mkVs s 0 0 fAI.vals)) (mkM fAI s) [false] = some (.out 1 (gdO3 s) [gdI3B (gT3 s), ((decide ((-(9223372036854775807 + 1)) ≤ (ofN (s.len 0)))) && (decide ((ofN (s.len 0)) ≤ 9223372036854775807))), !(!(decide ((asIR (gS3 s)).i 0 = 0))), asIQB (gS3 s)]) := by kernel_rfl

theorem gS3_i (s : SV) (hz : s.x.i 0 = 3) : (asIR (gS3 s)).i 0 = askC s.x (s.len 0) (s.y 0) := by
  rw [asIR_i]
  show askC (gS3 s).x (s.len 0) (s.y 0) = _
  unfold askC
  rw [show badU (gS3 s).x = badZ 3 s.x from by kernel_rfl, badZ_eq hz, show (gS3 s).x.i 0 = 3 from by kernel_rfl, hz]

theorem gT3_P (s : SV) (hz : s.x.i 0 = 3) (hq : asIQB s = true) (h : askC s.x (s.len 0) (s.y 0) = 0) : gdI3P (gT3 s) := by
  obtain ⟨q1, q2⟩ := asIQB_of hq
  obtain ⟨b1, b2⟩ := askC_ok h
  rw [hz, show (3 : Int).toNat = 3 from rfl] at b2
  have a0 : (gT3 s).x.i 0 = 0 := by kernel_rfl
  have a1 : (gT3 s).len 0 = s.len 0 := by kernel_rfl
  have a2 : (gT3 s).n 0 = s.n 0 := by kernel_rfl
  have a3 : (gT3 s).x.i 1 = s.len 0 := by kernel_rfl
  have a4 : (gT3 s).len 1 = 0 := by kernel_rfl
  have a5 : (gT3 s).n 3 = 0 := by kernel_rfl
  have a6 : (gT3 s).y 0 = s.y 0 := by kernel_rfl
  refine ⟨by omega, by omega, by omega, by omega, by omega, by omega, by omega, ?_, ?_⟩
  · rw [a1, a6]
    exact allOk_of b2
  · exact eightI (P := fun i => (gT3 s).x.u (138 + i) % 2147483648 ≤ 1098907648) ((show (gT3 s).x.u (138 + 0) = s.x.u (137 + 0) from by kernel_rfl) ▸ badU_targ b1 0 (by decide)) ((show (gT3 s).x.u (138 + 1) = s.x.u (137 + 1) from by kernel_rfl) ▸ badU_targ b1 1 (by decide)) ((show (gT3 s).x.u (138 + 2) = s.x.u (137 + 2) from by kernel_rfl) ▸ badU_targ b1 2 (by decide)) ((show (gT3 s).x.u (138 + 3) = s.x.u (137 + 3) from by kernel_rfl) ▸ badU_targ b1 3 (by decide)) ((show (gT3 s).x.u (138 + 4) = s.x.u (137 + 4) from by kernel_rfl) ▸ badU_targ b1 4 (by decide)) ((show (gT3 s).x.u (138 + 5) = s.x.u (137 + 5) from by kernel_rfl) ▸ badU_targ b1 5 (by decide)) ((show (gT3 s).x.u (138 + 6) = s.x.u (137 + 6) from by kernel_rfl) ▸ badU_targ b1 6 (by decide)) ((show (gT3 s).x.u (138 + 7) = s.x.u (137 + 7) from by kernel_rfl) ▸ badU_targ b1 7 (by decide))

theorem gdO3_f (s : SV) (hz : s.x.i 0 = 3) (hq : asIQB s = true) (h : askC s.x (s.len 0) (s.y 0) = 0) : (gdO3 s).len 0 = s.len 0 ∧ (∀ j, j < s.len 0 → ((gdO3 s).y 1).b j = goodF 3 (fun i => s.x.u (137 + i)) (s.x.u 145) (s.y 0) j) ∧ (gdO3 s).n 1 = s.len 0 ∧ (gdO3 s).n 0 = s.n 0 ∧ (gdO3 s).y 0 = s.y 0 ∧ (gdO3 s).x.i 0 = 0 := by
  obtain ⟨_, f2, f3, f4, f5, f6⟩ := gdI3_yes (gT3 s) (gT3_P s hz hq h) (by kernel_rfl) (by kernel_rfl)
  have a1 : (gT3 s).len 0 = s.len 0 := by kernel_rfl
  have a2 : (gT3 s).n 0 = s.n 0 := by kernel_rfl
  have a6 : (gT3 s).y 0 = s.y 0 := by kernel_rfl
  have a7 : (gT3 s).x.u 146 = s.x.u 145 := by kernel_rfl
  rw [a1] at f2 f3 f4
  rw [a2] at f5
  rw [a6] at f3 f6
  rw [a7] at f3
  refine ⟨(show (gdO3 s).len 0 = (gdI3F (gT3 s)).2.len 0 from by kernel_rfl).trans f2, fun j hj => ?_, (show (gdO3 s).n 1 = (gdI3F (gT3 s)).2.n 1 from by kernel_rfl).trans f4, (show (gdO3 s).n 0 = (gdI3F (gT3 s)).2.n 0 from by kernel_rfl).trans f5, (show (gdO3 s).y 0 = (gdI3F (gT3 s)).2.y 0 from by kernel_rfl).trans f6, by kernel_rfl⟩
  rw [show (gdO3 s).y 1 = (gdI3F (gT3 s)).2.y 1 from by kernel_rfl, f3 j hj]
  unfold goodF
  rw [gM_congr (z := 3) (f := fun i => szD ((gT3 s).x.u (138 + i)) ((s.y 0).u (8 * j + i))) (g := fun i => szD (s.x.u (137 + i)) ((s.y 0).u (8 * j + i))) fun i hi => by rw [eightI (P := fun i => (gT3 s).x.u (138 + i) = s.x.u (137 + i)) (by kernel_rfl) (by kernel_rfl) (by kernel_rfl) (by kernel_rfl) (by kernel_rfl) (by kernel_rfl) (by kernel_rfl) (by kernel_rfl) i (by omega)]]

noncomputable def gT4 (s : SV) : SV := (mkSV (apl [(.int .i64 0), (.sint .i64 (ofN (s.len 0)))] (apl (fl s.x 1 8) (apl [(.sint .i8 (s.x.i 9))] (apl (fl s.x 10 14) (apl [(.sint .i8 (s.x.i 24))] (apl (fl s.x 25 14) (apl [(.sint .i8 (s.x.i 39))] (apl (fl s.x 40 14) (apl [(.sint .i8 (s.x.i 54))] (apl (fl s.x 55 14) (apl [(.sint .i8 (s.x.i 69))] (apl (fl s.x 70 14) (apl [(.sint .i8 (s.x.i 84))] (apl (fl s.x 85 14) (apl [(.sint .i8 (s.x.i 99))] (apl (fl s.x 100 14) (apl [(.sint .i8 (s.x.i 114))] (apl (fl s.x 115 32) ([(.sint .i16 (s.x.i 147))]))))))))))))))))))) [(s.len 0), 0] [(s.n 0), 0, 0, 0] [(s.y 0), zeroV, zeroV, (varsOf [])])
noncomputable def gS4 (s : SV) : SV := (mkSV (apl [(.int .i8 4)] (apl (fl s.x 1 8) (apl [(.sint .i8 (s.x.i 9))] (apl (fl s.x 10 14) (apl [(.sint .i8 (s.x.i 24))] (apl (fl s.x 25 14) (apl [(.sint .i8 (s.x.i 39))] (apl (fl s.x 40 14) (apl [(.sint .i8 (s.x.i 54))] (apl (fl s.x 55 14) (apl [(.sint .i8 (s.x.i 69))] (apl (fl s.x 70 14) (apl [(.sint .i8 (s.x.i 84))] (apl (fl s.x 85 14) (apl [(.sint .i8 (s.x.i 99))] (apl (fl s.x 100 14) (apl [(.sint .i8 (s.x.i 114))] (apl (fl s.x 115 32) ([(.sint .i16 (s.x.i 147))]))))))))))))))))))) [(s.len 0)] [(s.n 0)] [(s.y 0)])

noncomputable def gdO4 (s : SV) : SV := (mkSV [(.int .i64 0)] [((gdI4F (gT4 s)).2.len 0)] [((gdI4F (gT4 s)).2.n 0), ((gdI4F (gT4 s)).2.n 1)] [((gdI4F (gT4 s)).2.y 0), ((gdI4F (gT4 s)).2.y 1)])

theorem good_O4 (s : SV) : funT Try.prog GAasI HgdI4 true 1000 57 1 [fGE, fGO] (litV 4 (mkVs s 0 0 fAI.vals)) (mkM fAI s) [false] = some (.out 1 (gdO4 s) [gdI4B (gT4 s), ((decide ((-(9223372036854775807 + 1)) ≤ (ofN (s.len 0)))) && (decide ((ofN (s.len 0)) ≤ 9223372036854775807))), !(!(decide ((asIR (gS4 s)).i 0 = 0))), asIQB (gS4 s)]) := by kernel_rfl

theorem gS4_i (s : SV) (hz : s.x.i 0 = 4) : (asIR (gS4 s)).i 0 = askC s.x (s.len 0) (s.y 0) := by
  rw [asIR_i]
  show askC (gS4 s).x (s.len 0) (s.y 0) = _
  unfold askC
  rw [show badU (gS4 s).x = badZ 4 s.x from by kernel_rfl, badZ_eq hz, show (gS4 s).x.i 0 = 4 from by kernel_rfl, hz]

theorem gT4_P (s : SV) (hz : s.x.i 0 = 4) (hq : asIQB s = true) (h : askC s.x (s.len 0) (s.y 0) = 0) : gdI4P (gT4 s) := by
  obtain ⟨q1, q2⟩ := asIQB_of hq
  obtain ⟨b1, b2⟩ := askC_ok h
  rw [hz, show (4 : Int).toNat = 4 from rfl] at b2
  have a0 : (gT4 s).x.i 0 = 0 := by kernel_rfl
  have a1 : (gT4 s).len 0 = s.len 0 := by kernel_rfl
  have a2 : (gT4 s).n 0 = s.n 0 := by kernel_rfl
  have a3 : (gT4 s).x.i 1 = s.len 0 := by kernel_rfl
  have a4 : (gT4 s).len 1 = 0 := by kernel_rfl
  have a5 : (gT4 s).n 3 = 0 := by kernel_rfl
  have a6 : (gT4 s).y 0 = s.y 0 := by kernel_rfl
  refine ⟨by omega, by omega, by omega, by omega, by omega, by omega, by omega, ?_, ?_⟩
  · rw [a1, a6]
    exact allOk_of b2
  · exact eightI (P := fun i => (gT4 s).x.u (138 + i) % 2147483648 ≤ 1098907648) ((show (gT4 s).x.u (138 + 0) = s.x.u (137 + 0) from by kernel_rfl) ▸ badU_targ b1 0 (by decide)) ((show (gT4 s).x.u (138 + 1) = s.x.u (137 + 1) from by kernel_rfl) ▸ badU_targ b1 1 (by decide)) ((show (gT4 s).x.u (138 + 2) = s.x.u (137 + 2) from by kernel_rfl) ▸ badU_targ b1 2 (by decide)) ((show (gT4 s).x.u (138 + 3) = s.x.u (137 + 3) from by kernel_rfl) ▸ badU_targ b1 3 (by decide)) ((show (gT4 s).x.u (138 + 4) = s.x.u (137 + 4) from by kernel_rfl) ▸ badU_targ b1 4 (by decide)) ((show (gT4 s).x.u (138 + 5) = s.x.u (137 + 5) from by kernel_rfl) ▸ badU_targ b1 5 (by decide)) ((show (gT4 s).x.u (138 + 6) = s.x.u (137 + 6) from by kernel_rfl) ▸ badU_targ b1 6 (by decide)) ((show (gT4 s).x.u (138 + 7) = s.x.u (137 + 7) from by kernel_rfl) ▸ badU_targ b1 7 (by decide))

theorem gdO4_f (s : SV) (hz : s.x.i 0 = 4) (hq : asIQB s = true) (h : askC s.x (s.len 0) (s.y 0) = 0) : (gdO4 s).len 0 = s.len 0 ∧ (∀ j, j < s.len 0 → ((gdO4 s).y 1).b j = goodF 4 (fun i => s.x.u (137 + i)) (s.x.u 145) (s.y 0) j) ∧ (gdO4 s).n 1 = s.len 0 ∧ (gdO4 s).n 0 = s.n 0 ∧ (gdO4 s).y 0 = s.y 0 ∧ (gdO4 s).x.i 0 = 0 := by
  obtain ⟨_, f2, f3, f4, f5, f6⟩ := gdI4_yes (gT4 s) (gT4_P s hz hq h) (by kernel_rfl) (by kernel_rfl)
  have a1 : (gT4 s).len 0 = s.len 0 := by kernel_rfl
  have a2 : (gT4 s).n 0 = s.n 0 := by kernel_rfl
  have a6 : (gT4 s).y 0 = s.y 0 := by kernel_rfl
  have a7 : (gT4 s).x.u 146 = s.x.u 145 := by kernel_rfl
  rw [a1] at f2 f3 f4
  rw [a2] at f5
  rw [a6] at f3 f6
  rw [a7] at f3
  refine ⟨(show (gdO4 s).len 0 = (gdI4F (gT4 s)).2.len 0 from by kernel_rfl).trans f2, fun j hj => ?_, (show (gdO4 s).n 1 = (gdI4F (gT4 s)).2.n 1 from by kernel_rfl).trans f4, (show (gdO4 s).n 0 = (gdI4F (gT4 s)).2.n 0 from by kernel_rfl).trans f5, (show (gdO4 s).y 0 = (gdI4F (gT4 s)).2.y 0 from by kernel_rfl).trans f6, by kernel_rfl⟩
  rw [show (gdO4 s).y 1 = (gdI4F (gT4 s)).2.y 1 from by kernel_rfl, f3 j hj]
  unfold goodF
  rw [gM_congr (z := 4) (f := fun i => szD ((gT4 s).x.u (138 + i)) ((s.y 0).u (8 * j + i))) (g := fun i => szD (s.x.u (137 + i)) ((s.y 0).u (8 * j + i))) fun i hi => by rw [eightI (P := fun i => (gT4 s).x.u (138 + i) = s.x.u (137 + i)) (by kernel_rfl) (by kernel_rfl) (by kernel_rfl) (by kernel_rfl) (by kernel_rfl) (by kernel_rfl) (by kernel_rfl) (by kernel_rfl) i (by omega)]]

noncomputable def gT5 (s : SV) : SV := (mkSV (apl [(.int .i64 0), (.sint .i64 (ofN (s.len 0)))] (apl (fl s.x 1 8) (apl [(.sint .i8 (s.x.i 9))] (apl (fl s.x 10 14) (apl [(.sint .i8 (s.x.i 24))] (apl (fl s.x 25 14) (apl [(.sint .i8 (s.x.i 39))] (apl (fl s.x 40 14) (apl [(.sint .i8 (s.x.i 54))] (apl (fl s.x 55 14) (apl [(.sint .i8 (s.x.i 69))] (apl (fl s.x 70 14) (apl [(.sint .i8 (s.x.i 84))] (apl (fl s.x 85 14) (apl [(.sint .i8 (s.x.i 99))] (apl (fl s.x 100 14) (apl [(.sint .i8 (s.x.i 114))] (apl (fl s.x 115 32) ([(.sint .i16 (s.x.i 147))]))))))))))))))))))) [(s.len 0), 0] [(s.n 0), 0, 0, 0] [(s.y 0), zeroV, zeroV, (varsOf [])])
noncomputable def gS5 (s : SV) : SV := (mkSV (apl [(.int .i8 5)] (apl (fl s.x 1 8) (apl [(.sint .i8 (s.x.i 9))] (apl (fl s.x 10 14) (apl [(.sint .i8 (s.x.i 24))] (apl (fl s.x 25 14) (apl [(.sint .i8 (s.x.i 39))] (apl (fl s.x 40 14) (apl [(.sint .i8 (s.x.i 54))] (apl (fl s.x 55 14) (apl [(.sint .i8 (s.x.i 69))] (apl (fl s.x 70 14) (apl [(.sint .i8 (s.x.i 84))] (apl (fl s.x 85 14) (apl [(.sint .i8 (s.x.i 99))] (apl (fl s.x 100 14) (apl [(.sint .i8 (s.x.i 114))] (apl (fl s.x 115 32) ([(.sint .i16 (s.x.i 147))]))))))))))))))))))) [(s.len 0)] [(s.n 0)] [(s.y 0)])

noncomputable def gdO5 (s : SV) : SV := (mkSV [(.int .i64 0)] [((gdI5F (gT5 s)).2.len 0)] [((gdI5F (gT5 s)).2.n 0), ((gdI5F (gT5 s)).2.n 1)] [((gdI5F (gT5 s)).2.y 0), ((gdI5F (gT5 s)).2.y 1)])

theorem good_O5 (s : SV) : funT Try.prog GAasI HgdI5 true 1000 57 1 [fGE, fGO] (litV 5 (mkVs s 0 0 fAI.vals)) (mkM fAI s) [false] = some (.out 1 (gdO5 s) [gdI5B (gT5 s), ((decide ((-(9223372036854775807 + 1)) ≤ (ofN (s.len 0)))) && (decide ((ofN (s.len 0)) ≤ 9223372036854775807))), !(!(decide ((asIR (gS5 s)).i 0 = 0))), asIQB (gS5 s)]) := by kernel_rfl

theorem gS5_i (s : SV) (hz : s.x.i 0 = 5) : (asIR (gS5 s)).i 0 = askC s.x (s.len 0) (s.y 0) := by
  rw [asIR_i]
  show askC (gS5 s).x (s.len 0) (s.y 0) = _
  unfold askC
  rw [show badU (gS5 s).x = badZ 5 s.x from by kernel_rfl, badZ_eq hz, show (gS5 s).x.i 0 = 5 from by kernel_rfl, hz]

theorem gT5_P (s : SV) (hz : s.x.i 0 = 5) (hq : asIQB s = true) (h : askC s.x (s.len 0) (s.y 0) = 0) : gdI5P (gT5 s) := by
  obtain ⟨q1, q2⟩ := asIQB_of hq
  obtain ⟨b1, b2⟩ := askC_ok h
  rw [hz, show (5 : Int).toNat = 5 from rfl] at b2
  have a0 : (gT5 s).x.i 0 = 0 := by kernel_rfl
  have a1 : (gT5 s).len 0 = s.len 0 := by kernel_rfl
  have a2 : (gT5 s).n 0 = s.n 0 := by kernel_rfl
  have a3 : (gT5 s).x.i 1 = s.len 0 := by kernel_rfl
  have a4 : (gT5 s).len 1 = 0 := by kernel_rfl
  have a5 : (gT5 s).n 3 = 0 := by kernel_rfl
  have a6 : (gT5 s).y 0 = s.y 0 := by kernel_rfl
  refine ⟨by omega, by omega, by omega, by omega, by omega, by omega, by omega, ?_, ?_⟩
  · rw [a1, a6]
    exact allOk_of b2
  · exact eightI (P := fun i => (gT5 s).x.u (138 + i) % 2147483648 ≤ 1098907648) ((show (gT5 s).x.u (138 + 0) = s.x.u (137 + 0) from by kernel_rfl) ▸ badU_targ b1 0 (by decide)) ((show (gT5 s).x.u (138 + 1) = s.x.u (137 + 1) from by kernel_rfl) ▸ badU_targ b1 1 (by decide)) ((show (gT5 s).x.u (138 + 2) = s.x.u (137 + 2) from by kernel_rfl) ▸ badU_targ b1 2 (by decide)) ((show (gT5 s).x.u (138 + 3) = s.x.u (137 + 3) from by kernel_rfl) ▸ badU_targ b1 3 (by decide)) ((show (gT5 s).x.u (138 + 4) = s.x.u (137 + 4) from by kernel_rfl) ▸ badU_targ b1 4 (by decide)) ((show (gT5 s).x.u (138 + 5) = s.x.u (137 + 5) from by kernel_rfl) ▸ badU_targ b1 5 (by decide)) ((show (gT5 s).x.u (138 + 6) = s.x.u (137 + 6) from by kernel_rfl) ▸ badU_targ b1 6 (by decide)) ((show (gT5 s).x.u (138 + 7) = s.x.u (137 + 7) from by kernel_rfl) ▸ badU_targ b1 7 (by decide))

theorem gdO5_f (s : SV) (hz : s.x.i 0 = 5) (hq : asIQB s = true) (h : askC s.x (s.len 0) (s.y 0) = 0) : (gdO5 s).len 0 = s.len 0 ∧ (∀ j, j < s.len 0 → ((gdO5 s).y 1).b j = goodF 5 (fun i => s.x.u (137 + i)) (s.x.u 145) (s.y 0) j) ∧ (gdO5 s).n 1 = s.len 0 ∧ (gdO5 s).n 0 = s.n 0 ∧ (gdO5 s).y 0 = s.y 0 ∧ (gdO5 s).x.i 0 = 0 := by
  obtain ⟨_, f2, f3, f4, f5, f6⟩ := gdI5_yes (gT5 s) (gT5_P s hz hq h) (by kernel_rfl) (by kernel_rfl)
  have a1 : (gT5 s).len 0 = s.len 0 := by kernel_rfl
  have a2 : (gT5 s).n 0 = s.n 0 := by kernel_rfl
  have a6 : (gT5 s).y 0 = s.y 0 := by kernel_rfl
  have a7 : (gT5 s).x.u 146 = s.x.u 145 := by kernel_rfl
  rw [a1] at f2 f3 f4
  rw [a2] at f5
  rw [a6] at f3 f6
  rw [a7] at f3
  refine ⟨(show (gdO5 s).len 0 = (gdI5F (gT5 s)).2.len 0 from by kernel_rfl).trans f2, fun j hj => ?_, (show (gdO5 s).n 1 = (gdI5F (gT5 s)).2.n 1 from by kernel_rfl).trans f4, (show (gdO5 s).n 0 = (gdI5F (gT5 s)).2.n 0 from by kernel_rfl).trans f5, (show (gdO5 s).y 0 = (gdI5F (gT5 s)).2.y 0 from by kernel_rfl).trans f6, by kernel_rfl⟩
  rw [show (gdO5 s).y 1 = (gdI5F (gT5 s)).2.y 1 from by kernel_rfl, f3 j hj]
  unfold goodF
  rw [gM_congr (z := 5) (f := fun i => szD ((gT5 s).x.u (138 + i)) ((s.y 0).u (8 * j + i))) (g := fun i => szD (s.x.u (137 + i)) ((s.y 0).u (8 * j + i))) fun i hi => by rw [eightI (P := fun i => (gT5 s).x.u (138 + i) = s.x.u (137 + i)) (by kernel_rfl) (by kernel_rfl) (by kernel_rfl) (by kernel_rfl) (by kernel_rfl) (by kernel_rfl) (by kernel_rfl) (by kernel_rfl) i (by omega)]]

noncomputable def gT6 (s : SV) : SV := (mkSV (apl [(.int .i64 0), (.sint .i64 (ofN (s.len 0)))] (apl (fl s.x 1 8) (apl [(.sint .i8 (s.x.i 9))] (apl (fl s.x 10 14) (apl [(.sint .i8 (s.x.i 24))] (apl (fl s.x 25 14) (apl [(.sint .i8 (s.x.i 39))] (apl (fl s.x 40 14) (apl [(.sint .i8 (s.x.i 54))] (apl (fl s.x 55 14) (apl [(.sint .i8 (s.x.i 69))] (apl (fl s.x 70 14) (apl [(.sint .i8 (s.x.i 84))] (apl (fl s.x 85 14) (apl [(.sint .i8 (s.x.i 99))] (apl (fl s.x 100 14) (apl [(.sint .i8 (s.x.i 114))] (apl (fl s.x 115 32) ([(.sint .i16 (s.x.i 147))]))))))))))))))))))) [(s.len 0), 0] [(s.n 0), 0, 0, 0] [(s.y 0), zeroV, zeroV, (varsOf [])])
noncomputable def gS6 (s : SV) : SV := (mkSV (apl [(.int .i8 6)] (apl (fl s.x 1 8) (apl [(.sint .i8 (s.x.i 9))] (apl (fl s.x 10 14) (apl [(.sint .i8 (s.x.i 24))] (apl (fl s.x 25 14) (apl [(.sint .i8 (s.x.i 39))] (apl (fl s.x 40 14) (apl [(.sint .i8 (s.x.i 54))] (apl (fl s.x 55 14) (apl [(.sint .i8 (s.x.i 69))] (apl (fl s.x 70 14) (apl [(.sint .i8 (s.x.i 84))] (apl (fl s.x 85 14) (apl [(.sint .i8 (s.x.i 99))] (apl (fl s.x 100 14) (apl [(.sint .i8 (s.x.i 114))] (apl (fl s.x 115 32) ([(.sint .i16 (s.x.i 147))]))))))))))))))))))) [(s.len 0)] [(s.n 0)] [(s.y 0)])

noncomputable def gdO6 (s : SV) : SV := (mkSV [(.int .i64 0)] [((gdI6F (gT6 s)).2.len 0)] [((gdI6F (gT6 s)).2.n 0), ((gdI6F (gT6 s)).2.n 1)] [((gdI6F (gT6 s)).2.y 0), ((gdI6F (gT6 s)).2.y 1)])

theorem good_O6 (s : SV) : funT Try.prog GAasI HgdI6 true 1000 57 1 [fGE, fGO] (litV 6 (mkVs s 0 0 fAI.vals)) (mkM fAI s) [false] = some (.out 1 (gdO6 s) [gdI6B (gT6 s), ((decide ((-(9223372036854775807 + 1)) ≤ (ofN (s.len 0)))) && (decide ((ofN (s.len 0)) ≤ 9223372036854775807))), !(!(decide ((asIR (gS6 s)).i 0 = 0))), asIQB (gS6 s)]) := by kernel_rfl

theorem gS6_i (s : SV) (hz : s.x.i 0 = 6) : (asIR (gS6 s)).i 0 = askC s.x (s.len 0) (s.y 0) := by
  rw [asIR_i]
  show askC (gS6 s).x (s.len 0) (s.y 0) = _
  unfold askC
  rw [show badU (gS6 s).x = badZ 6 s.x from by kernel_rfl, badZ_eq hz, show (gS6 s).x.i 0 = 6 from by kernel_rfl, hz]

theorem gT6_P (s : SV) (hz : s.x.i 0 = 6) (hq : asIQB s = true) (h : askC s.x (s.len 0) (s.y 0) = 0) : gdI6P (gT6 s) := by
  obtain ⟨q1, q2⟩ := asIQB_of hq
  obtain ⟨b1, b2⟩ := askC_ok h
  rw [hz, show (6 : Int).toNat = 6 from rfl] at b2
  have a0 : (gT6 s).x.i 0 = 0 := by kernel_rfl
  have a1 : (gT6 s).len 0 = s.len 0 := by kernel_rfl
  have a2 : (gT6 s).n 0 = s.n 0 := by kernel_rfl
  have a3 : (gT6 s).x.i 1 = s.len 0 := by kernel_rfl
  have a4 : (gT6 s).len 1 = 0 := by kernel_rfl
  have a5 : (gT6 s).n 3 = 0 := by kernel_rfl
  have a6 : (gT6 s).y 0 = s.y 0 := by kernel_rfl
  refine ⟨by omega, by omega, by omega, by omega, by omega, by omega, by omega, ?_, ?_⟩
  · rw [a1, a6]
    exact allOk_of b2
  · exact eightI (P := fun i => (gT6 s).x.u (138 + i) % 2147483648 ≤ 1098907648) ((show (gT6 s).x.u (138 + 0) = s.x.u (137 + 0) from by kernel_rfl) ▸ badU_targ b1 0 (by decide)) ((show (gT6 s).x.u (138 + 1) = s.x.u (137 + 1) from by kernel_rfl) ▸ badU_targ b1 1 (by decide)) ((show (gT6 s).x.u (138 + 2) = s.x.u (137 + 2) from by kernel_rfl) ▸ badU_targ b1 2 (by decide)) ((show (gT6 s).x.u (138 + 3) = s.x.u (137 + 3) from by kernel_rfl) ▸ badU_targ b1 3 (by decide)) ((show (gT6 s).x.u (138 + 4) = s.x.u (137 + 4) from by kernel_rfl) ▸ badU_targ b1 4 (by decide)) ((show (gT6 s).x.u (138 + 5) = s.x.u (137 + 5) from by kernel_rfl) ▸ badU_targ b1 5 (by decide)) ((show (gT6 s).x.u (138 + 6) = s.x.u (137 + 6) from by kernel_rfl) ▸ badU_targ b1 6 (by decide)) ((show (gT6 s).x.u (138 + 7) = s.x.u (137 + 7) from by kernel_rfl) ▸ badU_targ b1 7 (by decide))

theorem gdO6_f (s : SV) (hz : s.x.i 0 = 6) (hq : asIQB s = true) (h : askC s.x (s.len 0) (s.y 0) = 0) : (gdO6 s).len 0 = s.len 0 ∧ (∀ j, j < s.len 0 → ((gdO6 s).y 1).b j = goodF 6 (fun i => s.x.u (137 + i)) (s.x.u 145) (s.y 0) j) ∧ (gdO6 s).n 1 = s.len 0 ∧ (gdO6 s).n 0 = s.n 0 ∧ (gdO6 s).y 0 = s.y 0 ∧ (gdO6 s).x.i 0 = 0 := by
  obtain ⟨_, f2, f3, f4, f5, f6⟩ := gdI6_yes (gT6 s) (gT6_P s hz hq h) (by kernel_rfl) (by kernel_rfl)
  have a1 : (gT6 s).len 0 = s.len 0 := by kernel_rfl
  have a2 : (gT6 s).n 0 = s.n 0 := by kernel_rfl
  have a6 : (gT6 s).y 0 = s.y 0 := by kernel_rfl
  have a7 : (gT6 s).x.u 146 = s.x.u 145 := by kernel_rfl
  rw [a1] at f2 f3 f4
  rw [a2] at f5
  rw [a6] at f3 f6
  rw [a7] at f3
  refine ⟨(show (gdO6 s).len 0 = (gdI6F (gT6 s)).2.len 0 from by kernel_rfl).trans f2, fun j hj => ?_, (show (gdO6 s).n 1 = (gdI6F (gT6 s)).2.n 1 from by kernel_rfl).trans f4, (show (gdO6 s).n 0 = (gdI6F (gT6 s)).2.n 0 from by kernel_rfl).trans f5, (show (gdO6 s).y 0 = (gdI6F (gT6 s)).2.y 0 from by kernel_rfl).trans f6, by kernel_rfl⟩
  rw [show (gdO6 s).y 1 = (gdI6F (gT6 s)).2.y 1 from by kernel_rfl, f3 j hj]
  unfold goodF
  rw [gM_congr (z := 6) (f := fun i => szD ((gT6 s).x.u (138 + i)) ((s.y 0).u (8 * j + i))) (g := fun i => szD (s.x.u (137 + i)) ((s.y 0).u (8 * j + i))) fun i hi => by rw [eightI (P := fun i => (gT6 s).x.u (138 + i) = s.x.u (137 + i)) (by kernel_rfl) (by kernel_rfl) (by kernel_rfl) (by kernel_rfl) (by kernel_rfl) (by kernel_rfl) (by kernel_rfl) (by kernel_rfl) i (by omega)]]

noncomputable def gT7 (s : SV) : SV := (mkSV (apl [(.int .i64 0), (.sint .i64 (ofN (s.len 0)))] (apl (fl s.x 1 8) (apl [(.sint .i8 (s.x.i 9))] (apl (fl s.x 10 14) (apl [(.sint .i8 (s.x.i 24))] (apl (fl s.x 25 14) (apl [(.sint .i8 (s.x.i 39))] (apl (fl s.x 40 14) (apl [(.sint .i8 (s.x.i 54))] (apl (fl s.x 55 14) (apl [(.sint .i8 (s.x.i 69))] (apl (fl s.x 70 14) (apl [(.sint .i8 (s.x.i 84))] (apl (fl s.x 85 14) (apl [(.sint .i8 (s.x.i 99))] (apl (fl s.x 100 14) (apl [(.sint .i8 (s.x.i 114))] (apl (fl s.x 115 32) ([(.sint .i16 (s.x.i 147))]))))))))))))))))))) [(s.len 0), 0] [(s.n 0), 0, 0, 0] [(s.y 0), zeroV, zeroV, (varsOf [])])
noncomputable def gS7 (s : SV) : SV := (mkSV (apl [(.int .i8 7)] (apl (fl s.x 1 8) (apl [(.sint .i8 (s.x.i 9))] (apl (fl s.x 10 14) (apl [(.sint .i8 (s.x.i 24))] (apl (fl s.x 25 14) (apl [(.sint .i8 (s.x.i 39))] (apl (fl s.x 40 14) (apl [(.sint .i8 (s.x.i 54))] (apl (fl s.x 55 14) (apl [(.sint .i8 (s.x.i 69))] (apl (fl s.x 70 14) (apl [(.sint .i8 (s.x.i 84))] (apl (fl s.x 85 14) (apl [(.sint .i8 (s.x.i 99))] (apl (fl s.x 100 14) (apl [(.sint .i8 (s.x.i 114))] (apl (fl s.x 115 32) ([(.sint .i16 (s.x.i 147))]))))))))))))))))))) [(s.len 0)] [(s.n 0)] [(s.y 0)])

noncomputable def gdO7 (s : SV) : SV := (mkSV [(.int .i64 0)] [((gdI7F (gT7 s)).2.len 0)] [((gdI7F (gT7 s)).2.n 0), ((gdI7F (gT7 s)).2.n 1)] [((gdI7F (gT7 s)).2.y 0), ((gdI7F (gT7 s)).2.y 1)])

theorem good_O7 (s : SV) : funT Try.prog GAasI HgdI7 true 1000 57 1 [fGE, fGO] (litV 7 (mkVs s 0 0 fAI.vals)) (mkM fAI s) [false] = some (.out 1 (gdO7 s) [gdI7B (gT7 s), ((decide ((-(9223372036854775807 + 1)) ≤ (ofN (s.len 0)))) && (decide ((ofN (s.len 0)) ≤ 9223372036854775807))), !(!(decide ((asIR (gS7 s)).i 0 = 0))), asIQB (gS7 s)]) := by kernel_rfl

theorem gS7_i (s : SV) (hz : s.x.i 0 = 7) : (asIR (gS7 s)).i 0 = askC s.x (s.len 0) (s.y 0) := by
  rw [asIR_i]
  show askC (gS7 s).x (s.len 0) (s.y 0) = _
  unfold askC
  rw [show badU (gS7 s).x = badZ 7 s.x from by kernel_rfl, badZ_eq hz, show (gS7 s).x.i 0 = 7 from by kernel_rfl, hz]

theorem gT7_P (s : SV) (hz : s.x.i 0 = 7) (hq : asIQB s = true) (h : askC s.x (s.len 0) (s.y 0) = 0) : gdI7P (gT7 s) := by
  obtain ⟨q1, q2⟩ := asIQB_of hq
  obtain ⟨b1, b2⟩ := askC_ok h
  rw [hz, show (7 : Int).toNat = 7 from rfl] at b2
  have a0 : (gT7 s).x.i 0 = 0 := by kernel_rfl
  have a1 : (gT7 s).len 0 = s.len 0 := by kernel_rfl
  have a2 : (gT7 s).n 0 = s.n 0 := by kernel_rfl
  have a3 : (gT7 s).x.i 1 = s.len 0 := by kernel_rfl
  have a4 : (gT7 s).len 1 = 0 := by kernel_rfl
  have a5 : (gT7 s).n 3 = 0 := by kernel_rfl
  have a6 : (gT7 s).y 0 = s.y 0 := by kernel_rfl
  refine ⟨by omega, by omega, by omega, by omega, by omega, by omega, by omega, ?_, ?_⟩
  · rw [a1, a6]
    exact allOk_of b2
  · exact eightI (P := fun i => (gT7 s).x.u (138 + i) % 2147483648 ≤ 1098907648) ((show (gT7 s).x.u (138 + 0) = s.x.u (137 + 0) from by kernel_rfl) ▸ badU_targ b1 0 (by decide)) ((show (gT7 s).x.u (138 + 1) = s.x.u (137 + 1) from by kernel_rfl) ▸ badU_targ b1 1 (by decide)) ((show (gT7 s).x.u (138 + 2) = s.x.u (137 + 2) from by kernel_rfl) ▸ badU_targ b1 2 (by decide)) ((show (gT7 s).x.u (138 + 3) = s.x.u (137 + 3) from by kernel_rfl) ▸ badU_targ b1 3 (by decide)) ((show (gT7 s).x.u (138 + 4) = s.x.u (137 + 4) from by kernel_rfl) ▸ badU_targ b1 4 (by decide)) ((show (gT7 s).x.u (138 + 5) = s.x.u (137 + 5) from by kernel_rfl) ▸ badU_targ b1 5 (by decide)) ((show (gT7 s).x.u (138 + 6) = s.x.u (137 + 6) from by kernel_rfl) ▸ badU_targ b1 6 (by decide)) ((show (gT7 s).x.u (138 + 7) = s.x.u (137 + 7) from by kernel_rfl) ▸ badU_targ b1 7 (by decide))

theorem gdO7_f (s : SV) (hz : s.x.i 0 = 7) (hq : asIQB s = true) (h : askC s.x (s.len 0) (s.y 0) = 0) : (gdO7 s).len 0 = s.len 0 ∧ (∀ j, j < s.len 0 → ((gdO7 s).y 1).b j = goodF 7 (fun i => s.x.u (137 + i)) (s.x.u 145) (s.y 0) j) ∧ (gdO7 s).n 1 = s.len 0 ∧ (gdO7 s).n 0 = s.n 0 ∧ (gdO7 s).y 0 = s.y 0 ∧ (gdO7 s).x.i 0 = 0 := by
  obtain ⟨_, f2, f3, f4, f5, f6⟩ := gdI7_yes (gT7 s) (gT7_P s hz hq h) (by kernel_rfl) (by kernel_rfl)
  have a1 : (gT7 s).len 0 = s.len 0 := by kernel_rfl
  have a2 : (gT7 s).n 0 = s.n 0 := by kernel_rfl
  have a6 : (gT7 s).y 0 = s.y 0 := by kernel_rfl
  have a7 : (gT7 s).x.u 146 = s.x.u 145 := by kernel_rfl
  rw [a1] at f2 f3 f4
  rw [a2] at f5
  rw [a6] at f3 f6
  rw [a7] at f3
  refine ⟨(show (gdO7 s).len 0 = (gdI7F (gT7 s)).2.len 0 from by kernel_rfl).trans f2, fun j hj => ?_, (show (gdO7 s).n 1 = (gdI7F (gT7 s)).2.n 1 from by kernel_rfl).trans f4, (show (gdO7 s).n 0 = (gdI7F (gT7 s)).2.n 0 from by kernel_rfl).trans f5, (show (gdO7 s).y 0 = (gdI7F (gT7 s)).2.y 0 from by kernel_rfl).trans f6, by kernel_rfl⟩
  rw [show (gdO7 s).y 1 = (gdI7F (gT7 s)).2.y 1 from by kernel_rfl, f3 j hj]
  unfold goodF
  rw [gM_congr (z := 7) (f := fun i => szD ((gT7 s).x.u (138 + i)) ((s.y 0).u (8 * j + i))) (g := fun i => szD (s.x.u (137 + i)) ((s.y 0).u (8 * j + i))) fun i hi => by rw [eightI (P := fun i => (gT7 s).x.u (138 + i) = s.x.u (137 + i)) (by kernel_rfl) (by kernel_rfl) (by kernel_rfl) (by kernel_rfl) (by kernel_rfl) (by kernel_rfl) (by kernel_rfl) (by kernel_rfl) i (by omega)]]

noncomputable def gT8 (s : SV) : SV := (mkSV (apl [(.int .i64 0), (.sint .i64 (ofN (s.len 0)))] (apl (fl s.x 1 8) (apl [(.sint .i8 (s.x.i 9))] (apl (fl s.x 10 14) (apl [(.sint .i8 (s.x.i 24))] (apl (fl s.x 25 14) (apl [(.sint .i8 (s.x.i 39))] (apl (fl s.x 40 14) (apl [(.sint .i8 (s.x.i 54))] (apl (fl s.x 55 14) (apl [(.sint .i8 (s.x.i 69))] (apl (fl s.x 70 14) (apl [(.sint .i8 (s.x.i 84))] (apl (fl s.x 85 14) (apl [(.sint .i8 (s.x.i 99))] (apl (fl s.x 100 14) (apl [(.sint .i8 (s.x.i 114))] (apl (fl s.x 115 32) ([(.sint .i16 (s.x.i 147))]))))))))))))))))))) [(s.len 0), 0] [(s.n 0), 0, 0, 0] [(s.y 0), zeroV, zeroV, (varsOf [])])
noncomputable def gS8 (s : SV) : SV := (mkSV (apl [(.int .i8 8)] (apl (fl s.x 1 8) (apl [(.sint .i8 (s.x.i 9))] (apl (fl s.x 10 14) (apl [(.sint .i8 (s.x.i 24))] (apl (fl s.x 25 14) (apl [(.sint .i8 (s.x.i 39))] (apl (fl s.x 40 14) (apl [(.sint .i8 (s.x.i 54))] (apl (fl s.x 55 14) (apl [(.sint .i8 (s.x.i 69))] (apl (fl s.x 70 14) (apl [(.sint .i8 (s.x.i 84))] (apl (fl s.x 85 14) (apl [(.sint .i8 (s.x.i 99))] (apl (fl s.x 100 14) (apl [(.sint .i8 (s.x.i 114))] (apl (fl s.x 115 32) ([(.sint .i16 (s.x.i 147))]))))))))))))))))))) [(s.len 0)] [(s.n 0)] [(s.y 0)])

noncomputable def gdO8 (s : SV) : SV := (mkSV [(.int .i64 0)] [((gdI8F (gT8 s)).2.len 0)] [((gdI8F (gT8 s)).2.n 0), ((gdI8F (gT8 s)).2.n 1)] [((gdI8F (gT8 s)).2.y 0), ((gdI8F (gT8 s)).2.y 1)])

theorem good_O8 (s : SV) : funT Try.prog GAasI HgdI8 true 1000 57 1 [fGE, fGO] (litV 8 (mkVs s 0 0 fAI.vals)) (mkM fAI s) [false] = some (.out 1 (gdO8 s) [gdI8B (gT8 s), ((decide ((-(9223372036854775807 + 1)) ≤ (ofN (s.len 0)))) && (decide ((ofN (s.len 0)) ≤ 9223372036854775807))), !(!(decide ((asIR (gS8 s)).i 0 = 0))), asIQB (gS8 s)]) := by kernel_rfl

theorem gS8_i (s : SV) (hz : s.x.i 0 = 8) : (asIR (gS8 s)).i 0 = askC s.x (s.len 0) (s.y 0) := by
  rw [asIR_i]
  show askC (gS8 s).x (s.len 0) (s.y 0) = _
  unfold askC
  rw [show badU (gS8 s).x = badZ 8 s.x from by kernel_rfl, badZ_eq hz, show (gS8 s).x.i 0 = 8 from by kernel_rfl, hz]

theorem gT8_P (s : SV) (hz : s.x.i 0 = 8) (hq : asIQB s = true) (h : askC s.x (s.len 0) (s.y 0) = 0) : gdI8P (gT8 s) := by
  obtain ⟨q1, q2⟩ := asIQB_of hq
  obtain ⟨b1, b2⟩ := askC_ok h
  rw [hz, show (8 : Int).toNat = 8 from rfl] at b2
  have a0 : (gT8 s).x.i 0 = 0 := by kernel_rfl
  have a1 : (gT8 s).len 0 = s.len 0 := by kernel_rfl
  have a2 : (gT8 s).n 0 = s.n 0 := by kernel_rfl
  have a3 : (gT8 s).x.i 1 = s.len 0 := by kernel_rfl
  have a4 : (gT8 s).len 1 = 0 := by kernel_rfl
  have a5 : (gT8 s).n 3 = 0 := by kernel_rfl
  have a6 : (gT8 s).y 0 = s.y 0 := by kernel_rfl
  refine ⟨by omega, by omega, by omega, by omega, by omega, by omega, by omega, ?_, ?_⟩
  · rw [a1, a6]
    exact allOk_of b2
  · exact eightI (P := fun i => (gT8 s).x.u (138 + i) % 2147483648 ≤ 1098907648) ((show (gT8 s).x.u (138 + 0) = s.x.u (137 + 0) from by kernel_rfl) ▸ badU_targ b1 0 (by decide)) ((show (gT8 s).x.u (138 + 1) = s.x.u (137 + 1) from by kernel_rfl) ▸ badU_targ b1 1 (by decide)) ((show (gT8 s).x.u (138 + 2) = s.x.u (137 + 2) from by kernel_rfl) ▸ badU_targ b1 2 (by decide)) ((show (gT8 s).x.u (138 + 3) = s.x.u (137 + 3) from by kernel_rfl) ▸ badU_targ b1 3 (by decide)) ((show (gT8 s).x.u (138 + 4) = s.x.u (137 + 4) from by kernel_rfl) ▸ badU_targ b1 4 (by decide)) ((show (gT8 s).x.u (138 + 5) = s.x.u (137 + 5) from by kernel_rfl) ▸ badU_targ b1 5 (by decide)) ((show (gT8 s).x.u (138 + 6) = s.x.u (137 + 6) from by kernel_rfl) ▸ badU_targ b1 6 (by decide)) ((show (gT8 s).x.u (138 + 7) = s.x.u (137 + 7) from by kernel_rfl) ▸ badU_targ b1 7 (by decide))

theorem gdO8_f (s : SV) (hz : s.x.i 0 = 8) (hq : asIQB s = true) (h : askC s.x (s.len 0) (s.y 0) = 0) : (gdO8 s).len 0 = s.len 0 ∧ (∀ j, j < s.len 0 → ((gdO8 s).y 1).b j = goodF 8 (fun i => s.x.u (137 + i)) (s.x.u 145) (s.y 0) j) ∧ (gdO8 s).n 1 = s.len 0 ∧ (gdO8 s).n 0 = s.n 0 ∧ (gdO8 s).y 0 = s.y 0 ∧ (gdO8 s).x.i 0 = 0 := by
  obtain ⟨_, f2, f3, f4, f5, f6⟩ := gdI8_yes (gT8 s) (gT8_P s hz hq h) (by kernel_rfl) (by kernel_rfl)
  have a1 : (gT8 s).len 0 = s.len 0 := by kernel_rfl
  have a2 : (gT8 s).n 0 = s.n 0 := by kernel_rfl
  have a6 : (gT8 s).y 0 = s.y 0 := by kernel_rfl
  have a7 : (gT8 s).x.u 146 = s.x.u 145 := by kernel_rfl
  rw [a1] at f2 f3 f4
  rw [a2] at f5
  rw [a6] at f3 f6
  rw [a7] at f3
  refine ⟨(show (gdO8 s).len 0 = (gdI8F (gT8 s)).2.len 0 from by kernel_rfl).trans f2, fun j hj => ?_, (show (gdO8 s).n 1 = (gdI8F (gT8 s)).2.n 1 from by kernel_rfl).trans f4, (show (gdO8 s).n 0 = (gdI8F (gT8 s)).2.n 0 from by kernel_rfl).trans f5, (show (gdO8 s).y 0 = (gdI8F (gT8 s)).2.y 0 from by kernel_rfl).trans f6, by kernel_rfl⟩
  rw [show (gdO8 s).y 1 = (gdI8F (gT8 s)).2.y 1 from by kernel_rfl, f3 j hj]
  unfold goodF
  rw [gM_congr (z := 8) (f := fun i => szD ((gT8 s).x.u (138 + i)) ((s.y 0).u (8 * j + i))) (g := fun i => szD (s.x.u (137 + i)) ((s.y 0).u (8 * j + i))) fun i hi => by rw [eightI (P := fun i => (gT8 s).x.u (138 + i) = s.x.u (137 + i)) (by kernel_rfl) (by kernel_rfl) (by kernel_rfl) (by kernel_rfl) (by kernel_rfl) (by kernel_rfl) (by kernel_rfl) (by kernel_rfl) i (by omega)]]

noncomputable def goodOR0 (s : SV) : SV := bif decide (s.x.i 0 = 1) then gdO1 s else bif decide (s.x.i 0 = 2) then gdO2 s else bif decide (s.x.i 0 = 3) then gdO3 s else bif decide (s.x.i 0 = 4) then gdO4 s else bif decide (s.x.i 0 = 5) then gdO5 s else bif decide (s.x.i 0 = 6) then gdO6 s else bif decide (s.x.i 0 = 7) then gdO7 s else gdO8 s

noncomputable def goodOR : SV → SV := Classical.choose (⟨goodOR0, rfl⟩ : ∃ f, f = goodOR0)

theorem goodOR_eq : goodOR = goodOR0 := Classical.choose_spec (⟨goodOR0, rfl⟩ : ∃ f, f = goodOR0)

theorem gO1_sel (s : SV) (hz : s.x.i 0 = 1) : goodOR0 s = gdO1 s := by
  unfold goodOR0
  rw [decide_eq_true hz]
  rfl

theorem gO2_sel (s : SV) (hz : s.x.i 0 = 2) : goodOR0 s = gdO2 s := by
  unfold goodOR0
  rw [decide_eq_false (show ¬ s.x.i 0 = 1 by omega)]
  rw [decide_eq_true hz]
  rfl

theorem gO3_sel (s : SV) (hz : s.x.i 0 = 3) : goodOR0 s = gdO3 s := by
  unfold goodOR0
  rw [decide_eq_false (show ¬ s.x.i 0 = 1 by omega)]
  rw [decide_eq_false (show ¬ s.x.i 0 = 2 by omega)]
  rw [decide_eq_true hz]
  rfl

theorem gO4_sel (s : SV) (hz : s.x.i 0 = 4) : goodOR0 s = gdO4 s := by
  unfold goodOR0
  rw [decide_eq_false (show ¬ s.x.i 0 = 1 by omega)]
  rw [decide_eq_false (show ¬ s.x.i 0 = 2 by omega)]
  rw [decide_eq_false (show ¬ s.x.i 0 = 3 by omega)]
  rw [decide_eq_true hz]
  rfl

theorem gO5_sel (s : SV) (hz : s.x.i 0 = 5) : goodOR0 s = gdO5 s := by
  unfold goodOR0
  rw [decide_eq_false (show ¬ s.x.i 0 = 1 by omega)]
  rw [decide_eq_false (show ¬ s.x.i 0 = 2 by omega)]
  rw [decide_eq_false (show ¬ s.x.i 0 = 3 by omega)]
  rw [decide_eq_false (show ¬ s.x.i 0 = 4 by omega)]
  rw [decide_eq_true hz]
  rfl

theorem gO6_sel (s : SV) (hz : s.x.i 0 = 6) : goodOR0 s = gdO6 s := by
  unfold goodOR0
  rw [decide_eq_false (show ¬ s.x.i 0 = 1 by omega)]
  rw [decide_eq_false (show ¬ s.x.i 0 = 2 by omega)]
  rw [decide_eq_false (show ¬ s.x.i 0 = 3 by omega)]
  rw [decide_eq_false (show ¬ s.x.i 0 = 4 by omega)]
  rw [decide_eq_false (show ¬ s.x.i 0 = 5 by omega)]
  rw [decide_eq_true hz]
  rfl

theorem gO7_sel (s : SV) (hz : s.x.i 0 = 7) : goodOR0 s = gdO7 s := by
  unfold goodOR0
  rw [decide_eq_false (show ¬ s.x.i 0 = 1 by omega)]
  rw [decide_eq_false (show ¬ s.x.i 0 = 2 by omega)]
  rw [decide_eq_false (show ¬ s.x.i 0 = 3 by omega)]
  rw [decide_eq_false (show ¬ s.x.i 0 = 4 by omega)]
  rw [decide_eq_false (show ¬ s.x.i 0 = 5 by omega)]
  rw [decide_eq_false (show ¬ s.x.i 0 = 6 by omega)]
  rw [decide_eq_true hz]
  rfl

theorem gO8_sel (s : SV) (hz : s.x.i 0 = 8) : goodOR0 s = gdO8 s := by
  unfold goodOR0
  rw [decide_eq_false (show ¬ s.x.i 0 = 1 by omega)]
  rw [decide_eq_false (show ¬ s.x.i 0 = 2 by omega)]
  rw [decide_eq_false (show ¬ s.x.i 0 = 3 by omega)]
  rw [decide_eq_false (show ¬ s.x.i 0 = 4 by omega)]
  rw [decide_eq_false (show ¬ s.x.i 0 = 5 by omega)]
  rw [decide_eq_false (show ¬ s.x.i 0 = 6 by omega)]
  rw [decide_eq_false (show ¬ s.x.i 0 = 7 by omega)]
  rfl


noncomputable def GGE : Summ := addG 57 (sumW fAI fGE gEPre goodER) GAasI
noncomputable def GGO : Summ := addG 57 (sumW fAI fGO gOPre goodOR) GAasI

theorem GGE_ok : SoundG Try.prog GGE := by
  unfold GGE
  rw [goodER_eq]
  refine SoundG.sumW GAasI_ok mixed Try.call57 GAasI_ok (by decide) fun s hp => ?_
  have hq : asIQB s = true := hp _ (List.mem_cons_self ..)
  have hn : gNe s = true := hp _ (List.mem_cons_of_mem _ (List.mem_cons_self ..))
  have e := gS0_i s
  exact ⟨noLT, true, 1000, [true], _, [fGE, fGO], 0, HFun.none Try.prog _ 57, good_E s, (show ∀ b ∈ _, b = true from allC (by rw [e]; exact hn) (allC (gQ s hq) allN)), (by rw [e]; rfl), rfl⟩

set_option maxRecDepth 100000 in
theorem GGO_ok : SoundG Try.prog GGO := by
  unfold GGO
  rw [goodOR_eq]
  refine SoundG.sumWX GAasI_ok mixed Try.call57 GAasI_ok (by decide) fun s hp => ?_
  have hq : asIQB s = true := hp _ (List.mem_cons_self ..)
  have hn : gNe s = false := notBT (hp _ (List.mem_cons_of_mem _ (List.mem_cons_self ..)))
  have h0 : askC s.x (s.len 0) (s.y 0) = 0 := notDec hn
  have hr := badU_rng (askC_ok h0).1
  have hc : s.x.i 0 = 1 ∨ s.x.i 0 = 2 ∨ s.x.i 0 = 3 ∨ s.x.i 0 = 4 ∨ s.x.i 0 = 5 ∨ s.x.i 0 = 6 ∨ s.x.i 0 = 7 ∨ s.x.i 0 = 8 := by omega
  rcases hc with hz | hz | hz | hz | hz | hz | hz | hz
  · have e := gO1_sel s hz
    have ea := gS1_i s hz
    exact ⟨HgdI1, true, 1000, [false], _, [fGE, fGO], 1, _, _, (fun _ _ h => vals_lit hz ((show mkVs s 0 0 fAI.vals = .agg (.sint .i8 (s.x.i 0) :: mkL s.x 1 (kd2).tail) :: mkVs s 129 0 (fAI.vals.tail) from by kernel_rfl) ▸ h)), SameN.refl _, HgdI1_ok, good_O1 s, (show ∀ b ∈ _, b = true from allC (gdI1B_to (gT1_P s hz hq h0)) (allC (andT (decide_eq_true (by unfold ofN; have := (asIQB_of hq).1; omega)) (decide_eq_true (by unfold ofN; have := (asIQB_of hq).1; omega))) (allC (by rw [ea, h0]; rfl) (allC (asIQB_to (asIQB_of hq)) allN)))), (by rw [e]; rfl), rfl⟩
  · have e := gO2_sel s hz
    have ea := gS2_i s hz
    exact ⟨HgdI2, true, 1000, [false], _, [fGE, fGO], 1, _, _, (fun _ _ h => vals_lit hz ((show mkVs s 0 0 fAI.vals = .agg (.sint .i8 (s.x.i 0) :: mkL s.x 1 (kd2).tail) :: mkVs s 129 0 (fAI.vals.tail) from by kernel_rfl) ▸ h)), SameN.refl _, HgdI2_ok, good_O2 s, (show ∀ b ∈ _, b = true from allC (gdI2B_to (gT2_P s hz hq h0)) (allC (andT (decide_eq_true (by unfold ofN; have := (asIQB_of hq).1; omega)) (decide_eq_true (by unfold ofN; have := (asIQB_of hq).1; omega))) (allC (by rw [ea, h0]; rfl) (allC (asIQB_to (asIQB_of hq)) allN)))), (by rw [e]; rfl), rfl⟩
  · have e := gO3_sel s hz
    have ea := gS3_i s hz
    exact ⟨HgdI3, true, 1000, [false], _, [fGE, fGO], 1, _, _, (fun _ _ h => vals_lit hz ((show mkVs s 0 0 fAI.vals = .agg (.sint .i8 (s.x.i 0) :: mkL s.x 1 (kd2).tail) :: mkVs s 129 0 (fAI.vals.tail) from by kernel_rfl) ▸ h)), SameN.refl _, HgdI3_ok, good_O3 s, (show ∀ b ∈ _, b = true from allC (gdI3B_to (gT3_P s hz hq h0)) (allC (andT (decide_eq_true (by unfold ofN; have := (asIQB_of hq).1; omega)) (decide_eq_true (by unfold ofN; have := (asIQB_of hq).1; omega))) (allC (by rw [ea, h0]; rfl) (allC (asIQB_to (asIQB_of hq)) allN)))), (by rw [e]; rfl), rfl⟩
  · have e := gO4_sel s hz
    have ea := gS4_i s hz
    exact ⟨HgdI4, true, 1000, [false], _, [fGE, fGO], 1, _, _, (fun _ _ h => vals_lit hz ((show mkVs s 0 0 fAI.vals = .agg (.sint .i8 (s.x.i 0) :: mkL s.x 1 (kd2).tail) :: mkVs s 129 0 (fAI.vals.tail) from by kernel_rfl) ▸ h)), SameN.refl _, HgdI4_ok, good_O4 s, (show ∀ b ∈ _, b = true from allC (gdI4B_to (gT4_P s hz hq h0)) (allC (andT (decide_eq_true (by unfold ofN; have := (asIQB_of hq).1; omega)) (decide_eq_true (by unfold ofN; have := (asIQB_of hq).1; omega))) (allC (by rw [ea, h0]; rfl) (allC (asIQB_to (asIQB_of hq)) allN)))), (by rw [e]; rfl), rfl⟩
  · have e := gO5_sel s hz
    have ea := gS5_i s hz
    exact ⟨HgdI5, true, 1000, [false], _, [fGE, fGO], 1, _, _, (fun _ _ h => vals_lit hz ((show mkVs s 0 0 fAI.vals = .agg (.sint .i8 (s.x.i 0) :: mkL s.x 1 (kd2).tail) :: mkVs s 129 0 (fAI.vals.tail) from by kernel_rfl) ▸ h)), SameN.refl _, HgdI5_ok, good_O5 s, (show ∀ b ∈ _, b = true from allC (gdI5B_to (gT5_P s hz hq h0)) (allC (andT (decide_eq_true (by unfold ofN; have := (asIQB_of hq).1; omega)) (decide_eq_true (by unfold ofN; have := (asIQB_of hq).1; omega))) (allC (by rw [ea, h0]; rfl) (allC (asIQB_to (asIQB_of hq)) allN)))), (by rw [e]; rfl), rfl⟩
  · have e := gO6_sel s hz
    have ea := gS6_i s hz
    exact ⟨HgdI6, true, 1000, [false], _, [fGE, fGO], 1, _, _, (fun _ _ h => vals_lit hz ((show mkVs s 0 0 fAI.vals = .agg (.sint .i8 (s.x.i 0) :: mkL s.x 1 (kd2).tail) :: mkVs s 129 0 (fAI.vals.tail) from by kernel_rfl) ▸ h)), SameN.refl _, HgdI6_ok, good_O6 s, (show ∀ b ∈ _, b = true from allC (gdI6B_to (gT6_P s hz hq h0)) (allC (andT (decide_eq_true (by unfold ofN; have := (asIQB_of hq).1; omega)) (decide_eq_true (by unfold ofN; have := (asIQB_of hq).1; omega))) (allC (by rw [ea, h0]; rfl) (allC (asIQB_to (asIQB_of hq)) allN)))), (by rw [e]; rfl), rfl⟩
  · have e := gO7_sel s hz
    have ea := gS7_i s hz
    exact ⟨HgdI7, true, 1000, [false], _, [fGE, fGO], 1, _, _, (fun _ _ h => vals_lit hz ((show mkVs s 0 0 fAI.vals = .agg (.sint .i8 (s.x.i 0) :: mkL s.x 1 (kd2).tail) :: mkVs s 129 0 (fAI.vals.tail) from by kernel_rfl) ▸ h)), SameN.refl _, HgdI7_ok, good_O7 s, (show ∀ b ∈ _, b = true from allC (gdI7B_to (gT7_P s hz hq h0)) (allC (andT (decide_eq_true (by unfold ofN; have := (asIQB_of hq).1; omega)) (decide_eq_true (by unfold ofN; have := (asIQB_of hq).1; omega))) (allC (by rw [ea, h0]; rfl) (allC (asIQB_to (asIQB_of hq)) allN)))), (by rw [e]; rfl), rfl⟩
  · have e := gO8_sel s hz
    have ea := gS8_i s hz
    exact ⟨HgdI8, true, 1000, [false], _, [fGE, fGO], 1, _, _, (fun _ _ h => vals_lit hz ((show mkVs s 0 0 fAI.vals = .agg (.sint .i8 (s.x.i 0) :: mkL s.x 1 (kd2).tail) :: mkVs s 129 0 (fAI.vals.tail) from by kernel_rfl) ▸ h)), SameN.refl _, HgdI8_ok, good_O8 s, (show ∀ b ∈ _, b = true from allC (gdI8B_to (gT8_P s hz hq h0)) (allC (andT (decide_eq_true (by unfold ofN; have := (asIQB_of hq).1; omega)) (decide_eq_true (by unfold ofN; have := (asIQB_of hq).1; omega))) (allC (by rw [ea, h0]; rfl) (allC (asIQB_to (asIQB_of hq)) allN)))), (by rw [e]; rfl), rfl⟩

set_option maxRecDepth 100000 in
theorem goodOR_f (s : SV) (hq : asIQB s = true) (h0 : askC s.x (s.len 0) (s.y 0) = 0) : (goodOR s).len 0 = s.len 0 ∧ (∀ j, j < s.len 0 → ((goodOR s).y 1).b j = goodF (s.x.i 0).toNat (fun i => s.x.u (137 + i)) (s.x.u 145) (s.y 0) j) ∧ (goodOR s).n 1 = s.len 0 ∧ (goodOR s).n 0 = s.n 0 ∧ (goodOR s).y 0 = s.y 0 ∧ (goodOR s).x.i 0 = 0 := by
  rw [goodOR_eq]
  have hr := badU_rng (askC_ok h0).1
  have hc : s.x.i 0 = 1 ∨ s.x.i 0 = 2 ∨ s.x.i 0 = 3 ∨ s.x.i 0 = 4 ∨ s.x.i 0 = 5 ∨ s.x.i 0 = 6 ∨ s.x.i 0 = 7 ∨ s.x.i 0 = 8 := by omega
  rcases hc with hz | hz | hz | hz | hz | hz | hz | hz
  · rw [gO1_sel s hz, hz]
    exact gdO1_f s hz hq h0
  · rw [gO2_sel s hz, hz]
    exact gdO2_f s hz hq h0
  · rw [gO3_sel s hz, hz]
    exact gdO3_f s hz hq h0
  · rw [gO4_sel s hz, hz]
    exact gdO4_f s hz hq h0
  · rw [gO5_sel s hz, hz]
    exact gdO5_f s hz hq h0
  · rw [gO6_sel s hz, hz]
    exact gdO6_f s hz hq h0
  · rw [gO7_sel s hz, hz]
    exact gdO7_f s hz hq h0
  · rw [gO8_sel s hz, hz]
    exact gdO8_f s hz hq h0

end Go.Proofs.Ytagkkkplmilkhaa

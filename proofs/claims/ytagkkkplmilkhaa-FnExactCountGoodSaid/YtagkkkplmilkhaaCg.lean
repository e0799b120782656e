/-
  Facts of this seat that its laws use; no conditions.
-/
import Derived.Test.YtagkkkplmilkhaaGood
namespace Go.Proofs.Ytagkkkplmilkhaa
open Go.Sim Go.ChangeShapes Go.WideShapes Go.ChangeAt Go.RowKit

theorem asSR_i (s : SV) : (asSR s).i 0 = askC s.x (s.len 0) (s.y 2) := by rw [asSR_eq]; rfl

noncomputable def cgN (s : SV) : Int := bif gNe s then 0 else cntF (goodF (s.x.i 0).toNat (fun i => s.x.u (137 + i)) (s.x.u 145) (s.y 0)) 0 (s.len 0)
noncomputable def cgR0 (s : SV) : Vars := varsOf [.sint .i64 (cgN s), .sint .i64 (askC s.x (s.len 0) (s.y 0))]

noncomputable def cgR : SV → Vars := Classical.choose (⟨cgR0, rfl⟩ : ∃ f, f = cgR0)

theorem cgR_eq : cgR = cgR0 := Classical.choose_spec (⟨cgR0, rfl⟩ : ∃ f, f = cgR0)

noncomputable def cgPre (s : SV) : List Bool := [asIQB s]

theorem cg_v {s : SV} {a b : Int} (ha : a = cgN s) (hb : b = askC s.x (s.len 0) (s.y 0)) : AV.tup [.sint .i64 a, .sint .i64 b] = mkR (cgR0 s) [.sc (.int .i64), .sc (.int .i64)] := by
  subst ha hb
  rfl

theorem gNe_0 {s : SV} (h : gNe s = false) : askC s.x (s.len 0) (s.y 0) = 0 := notDec h

theorem gS0_ne (s : SV) : gNe (gS0 s) = gNe s := by kernel_rfl

noncomputable def cS0 (s : SV) : SV := (mkSV (apl [(.sint .i8 (s.x.i 0))] (apl (fl s.x 1 8) (apl [(.sint .i8 (s.x.i 9))] (apl (fl s.x 10 14) (apl [(.sint .i8 (s.x.i 24))] (apl (fl s.x 25 14) (apl [(.sint .i8 (s.x.i 39))] (apl (fl s.x 40 14) (apl [(.sint .i8 (s.x.i 54))] (apl (fl s.x 55 14) (apl [(.sint .i8 (s.x.i 69))] (apl (fl s.x 70 14) (apl [(.sint .i8 (s.x.i 84))] (apl (fl s.x 85 14) (apl [(.sint .i8 (s.x.i 99))] (apl (fl s.x 100 14) (apl [(.sint .i8 (s.x.i 114))] (apl (fl s.x 115 32) ([(.sint .i16 (s.x.i 147))]))))))))))))))))))) [(s.len 0)] [0, 0, (s.n 0)] [zeroV, zeroV, (s.y 0)])

theorem cS0_i (s : SV) : (asSR (cS0 s)).i 0 = askC s.x (s.len 0) (s.y 0) := (asSR_i _).trans (show askC (cS0 s).x ((cS0 s).len 0) ((cS0 s).y 2) = askC s.x (s.len 0) (s.y 0) from by kernel_rfl)

theorem cgS_e (s : SV) : funH Try.prog GAasI noLT true 1000 9 (mkVs s 0 0 fAI.vals) (mkM fAI s) [true] = some (.tup [.int .i64 0, .sint .i64 ((asSR (cS0 s)).i 0)], [!(decide ((asSR (cS0 s)).i 0 = 0)), asSQB (cS0 s)]) := by kernel_rfl

noncomputable def cT1 (s : SV) : SV := (mkSV (apl [(.int .i64 0), (.int .i64 0)] (apl (fl s.x 1 8) (apl [(.sint .i8 (s.x.i 9))] (apl (fl s.x 10 14) (apl [(.sint .i8 (s.x.i 24))] (apl (fl s.x 25 14) (apl [(.sint .i8 (s.x.i 39))] (apl (fl s.x 40 14) (apl [(.sint .i8 (s.x.i 54))] (apl (fl s.x 55 14) (apl [(.sint .i8 (s.x.i 69))] (apl (fl s.x 70 14) (apl [(.sint .i8 (s.x.i 84))] (apl (fl s.x 85 14) (apl [(.sint .i8 (s.x.i 99))] (apl (fl s.x 100 14) (apl [(.sint .i8 (s.x.i 114))] (apl (fl s.x 115 32) ([(.sint .i16 (s.x.i 147))]))))))))))))))))))) [(s.len 0)] [(s.n 0), 0, 0] [(s.y 0), zeroV, zeroV])
noncomputable def cS1 (s : SV) : SV := (mkSV (apl [(.int .i8 1)] (apl (fl s.x 1 8) (apl [(.sint .i8 (s.x.i 9))] (apl (fl s.x 10 14) (apl [(.sint .i8 (s.x.i 24))] (apl (fl s.x 25 14) (apl [(.sint .i8 (s.x.i 39))] (apl (fl s.x 40 14) (apl [(.sint .i8 (s.x.i 54))] (apl (fl s.x 55 14) (apl [(.sint .i8 (s.x.i 69))] (apl (fl s.x 70 14) (apl [(.sint .i8 (s.x.i 84))] (apl (fl s.x 85 14) (apl [(.sint .i8 (s.x.i 99))] (apl (fl s.x 100 14) (apl [(.sint .i8 (s.x.i 114))] (apl (fl s.x 115 32) ([(.sint .i16 (s.x.i 147))]))))))))))))))))))) [(s.len 0)] [0, 0, (s.n 0)] [zeroV, zeroV, (s.y 0)])

theorem cgS_o1 (s : SV) : funH Try.prog GAasI HcnS1 true 1000 9 (litV 1 (mkVs s 0 0 fAI.vals)) (mkM fAI s) [false] = some (.tup [.sint .i64 ((cnS1F (cT1 s)).2.x.i 0), .int .i64 0], [cnS1B (cT1 s), !(!(decide ((asSR (cS1 s)).i 0 = 0))), asSQB (cS1 s)]) := by kernel_rfl

theorem cS1_i (s : SV) (hz : s.x.i 0 = 1) : (asSR (cS1 s)).i 0 = askC s.x (s.len 0) (s.y 0) := by
  rw [asSR_i]
  show askC (cS1 s).x (s.len 0) (s.y 0) = _
  unfold askC
  rw [show badU (cS1 s).x = badZ 1 s.x from by kernel_rfl, badZ_eq hz, show (cS1 s).x.i 0 = 1 from by kernel_rfl, hz]

theorem cT1_f (s : SV) (hz : s.x.i 0 = 1) (hq : asIQB s = true) (hn : gNe s = false) : (cnS1F (cT1 s)).2.x.i 0 = cgN s ∧ cnS1B (cT1 s) = true := by
  obtain ⟨q1, q2⟩ := asIQB_of hq
  have a0 : (cT1 s).x.i 0 = 0 := by kernel_rfl
  have a1 : (cT1 s).len 0 = s.len 0 := by kernel_rfl
  have a2 : (cT1 s).n 0 = s.n 0 := by kernel_rfl
  have a3 : (cT1 s).x.i 1 = 0 := by kernel_rfl
  have a6 : (cT1 s).y 0 = s.y 0 := by kernel_rfl
  have a7 : (cT1 s).x.u 146 = s.x.u 145 := by kernel_rfl
  obtain ⟨_, f⟩ := cnS1_yes (cT1 s) (by omega) (by omega)
  rw [a0, a1, a3, a6, a7] at f
  refine ⟨f.trans ?_, cnS1B_to ⟨by omega, by omega, by omega, by omega, by omega, by omega⟩⟩
  unfold cgN
  rw [hn, hz, Int.zero_add]
  refine cntF_congr fun j _ _ => ?_
  show goodF 1 _ _ _ j = goodF 1 _ _ _ j
  unfold goodF
  rw [gM_congr (z := 1) (f := fun i => szD ((cT1 s).x.u (138 + i)) ((s.y 0).u (8 * j + i))) (g := fun i => szD (s.x.u (137 + i)) ((s.y 0).u (8 * j + i))) fun i hi => by rw [eightI (P := fun i => (cT1 s).x.u (138 + i) = s.x.u (137 + i)) (by kernel_rfl) (by kernel_rfl) (by kernel_rfl) (by kernel_rfl) (by kernel_rfl) (by kernel_rfl) (by kernel_rfl) (by kernel_rfl) i (by omega)]]

noncomputable def cT2 (s : SV) : SV := (mkSV (apl [(.int .i64 0), (.int .i64 0)] (apl (fl s.x 1 8) (apl [(.sint .i8 (s.x.i 9))] (apl (fl s.x 10 14) (apl [(.sint .i8 (s.x.i 24))] (apl (fl s.x 25 14) (apl [(.sint .i8 (s.x.i 39))] (apl (fl s.x 40 14) (apl [(.sint .i8 (s.x.i 54))] (apl (fl s.x 55 14) (apl [(.sint .i8 (s.x.i 69))] (apl (fl s.x 70 14) (apl [(.sint .i8 (s.x.i 84))] (apl (fl s.x 85 14) (apl [(.sint .i8 (s.x.i 99))] (apl (fl s.x 100 14) (apl [(.sint .i8 (s.x.i 114))] (apl (fl s.x 115 32) ([(.sint .i16 (s.x.i 147))]))))))))))))))))))) [(s.len 0)] [(s.n 0), 0, 0] [(s.y 0), zeroV, zeroV])
noncomputable def cS2 (s : SV) : SV := (mkSV (apl [(.int .i8 2)] (apl (fl s.x 1 8) (apl [(.sint .i8 (s.x.i 9))] (apl (fl s.x 10 14) (apl [(.sint .i8 (s.x.i 24))] (apl (fl s.x 25 14) (apl [(.sint .i8 (s.x.i 39))] (apl (fl s.x 40 14) (apl [(.sint .i8 (s.x.i 54))] (apl (fl s.x 55 14) (apl [(.sint .i8 (s.x.i 69))] (apl (fl s.x 70 14) (apl [(.sint .i8 (s.x.i 84))] (apl (fl s.x 85 14) (apl [(.sint .i8 (s.x.i 99))] (apl (fl s.x 100 14) (apl [(.sint .i8 (s.x.i 114))] (apl (fl s.x 115 32) ([(.sint .i16 (s.x.i 147))]))))))))))))))))))) [(s.len 0)] [0, 0, (s.n 0)] [zeroV, zeroV, (s.y 0)])

theorem cgS_o2 (s : SV) : funH Try.prog GAasI HcnS2 true 1000 9 (litV 2 (mkVs s 0 0 fAI.vals)) (mkM fAI s) [false] = some (.tup [.sint .i64 ((cnS2F (cT2 s)).2.x.i 0), .int .i64 0], [cnS2B (cT2 s), !(!(decide ((asSR (cS2 s)).i 0 = 0))), asSQB (cS2 s)]) := by kernel_rfl

theorem cS2_i (s : SV) (hz : s.x.i 0 = 2) : (asSR (cS2 s)).i 0 = askC s.x (s.len 0) (s.y 0) := by
  rw [asSR_i]
  show askC (cS2 s).x (s.len 0) (s.y 0) = _
  unfold askC
  rw [show badU (cS2 s).x = badZ 2 s.x from by kernel_rfl, badZ_eq hz, show (cS2 s).x.i 0 = 2 from by kernel_rfl, hz]

theorem cT2_f (s : SV) (hz : s.x.i 0 = 2) (hq : asIQB s = true) (hn : gNe s = false) : (cnS2F (cT2 s)).2.x.i 0 = cgN s ∧ cnS2B (cT2 s) = true := by
  obtain ⟨q1, q2⟩ := asIQB_of hq
  have a0 : (cT2 s).x.i 0 = 0 := by kernel_rfl
  have a1 : (cT2 s).len 0 = s.len 0 := by kernel_rfl
  have a2 : (cT2 s).n 0 = s.n 0 := by kernel_rfl
  have a3 : (cT2 s).x.i 1 = 0 := by kernel_rfl
  have a6 : (cT2 s).y 0 = s.y 0 := by kernel_rfl
  have a7 : (cT2 s).x.u 146 = s.x.u 145 := by kernel_rfl
  obtain ⟨_, f⟩ := cnS2_yes (cT2 s) (by omega) (by omega)
  rw [a0, a1, a3, a6, a7] at f
  refine ⟨f.trans ?_, cnS2B_to ⟨by omega, by omega, by omega, by omega, by omega, by omega⟩⟩
  unfold cgN
  rw [hn, hz, Int.zero_add]
  refine cntF_congr fun j _ _ => ?_
  show goodF 2 _ _ _ j = goodF 2 _ _ _ j
  unfold goodF
  rw [gM_congr (z := 2) (f := fun i => szD ((cT2 s).x.u (138 + i)) ((s.y 0).u (8 * j + i))) (g := fun i => szD (s.x.u (137 + i)) ((s.y 0).u (8 * j + i))) fun i hi => by rw [eightI (P := fun i => (cT2 s).x.u (138 + i) = s.x.u (137 + i)) (by kernel_rfl) (by kernel_rfl) (by kernel_rfl) (by kernel_rfl) (by kernel_rfl) (by kernel_rfl) (by kernel_rfl) (by kernel_rfl) i (by omega)]]

noncomputable def cT3 (s : SV) : SV := (mkSV (apl [(.int .i64 0), (.int .i64 0)] (apl (fl s.x 1 8) (apl [(.sint .i8 (s.x.i 9))] (apl (fl s.x 10 14) (apl [(.sint .i8 (s.x.i 24))] (apl (fl s.x 25 14) (apl [(.sint .i8 (s.x.i 39))] (apl (fl s.x 40 14) (apl [(.sint .i8 (s.x.i 54))] (apl (fl s.x 55 14) (apl [(.sint .i8 (s.x.i 69))] (apl (fl s.x 70 14) (apl [(.sint .i8 (s.x.i 84))] (apl (fl s.x 85 14) (apl [(.sint .i8 (s.x.i 99))] (apl (fl s.x 100 14) (apl [(.sint .i8 (s.x.i 114))] (apl (fl s.x 115 32) ([(.sint .i16 (s.x.i 147))]))))))))))))))))))) [(s.len 0)] [(s.n 0), 0, 0] [(s.y 0), zeroV, zeroV])
noncomputable def cS3 (s : SV) : SV := (mkSV (apl [(.int .i8 3)] (apl (fl s.x 1 8) (apl [(.sint .i8 (s.x.i 9))] (apl (fl s.x 10 14) (apl [(.sint .i8 (s.x.i 24))] (apl (fl s.x 25 14) (apl [(.sint .i8 (s.x.i 39))] (apl (fl s.x 40 14) (apl [(.sint .i8 (s.x.i 54))] (apl (fl s.x 55 14) (apl [(.sint .i8 (s.x.i 69))] (apl (fl s.x 70 14) (apl [(.sint .i8 (s.x.i 84))] (apl (fl s.x 85 14) (apl [(.sint .i8 (s.x.i 99))] (apl (fl s.x 100 14) (apl [(.sint .i8 (s.x.i 114))] (apl (fl s.x 115 32) ([(.sint .i16 (s.x.i 147))]))))))))))))))))))) [(s.len 0)] [0, 0, (s.n 0)] [zeroV, zeroV, (s.y 0)])

theorem cgS_o3 (s : SV) : funH Try.prog GAasI HcnS3 true 1000 9 (litV 3 (mkVs s 0 0 fAI.vals)) (mkM fAI s) [false] = some (.tup [.sint .i64 ((cnS3F (cT3 s)).2.x.i 0), .int .i64 0], [cnS3B (cT3 s), !(!(decide ((asSR (cS3 s)).i 0 = 0))), asSQB (cS3 s)]) := by kernel_rfl

theorem cS3_i (s : SV) (hz : s.x.i 0 = 3) : (asSR (cS3 s)).i 0 = askC s.x (s.len 0) (s.y 0) := by
  rw [asSR_i]
  show askC (cS3 s).x (s.len 0) (s.y 0) = _
  unfold askC
  rw [show badU (cS3 s).x = badZ 3 s.x from by kernel_rfl, badZ_eq hz, show (cS3 s).x.i 0 = 3 from by kernel_rfl, hz]

theorem cT3_f (s : SV) (hz : s.x.i 0 = 3) (hq : asIQB s = true) (hn : gNe s = false) : (cnS3F (cT3 s)).2.x.i 0 = cgN s ∧ cnS3B (cT3 s) = true := by
  obtain ⟨q1, q2⟩ := asIQB_of hq
  have a0 : (cT3 s).x.i 0 = 0 := by kernel_rfl
  have a1 : (cT3 s).len 0 = s.len 0 := by kernel_rfl
  have a2 : (cT3 s).n 0 = s.n 0 := by kernel_rfl
  have a3 : (cT3 s).x.i 1 = 0 := by kernel_rfl
  have a6 : (cT3 s).y 0 = s.y 0 := by kernel_rfl
  have a7 : (cT3 s).x.u 146 = s.x.u 145 := by kernel_rfl
  obtain ⟨_, f⟩ := cnS3_yes (cT3 s) (by omega) (by omega)
  rw [a0, a1, a3, a6, a7] at f
  refine ⟨f.trans ?_, cnS3B_to ⟨by omega, by omega, by omega, by omega, by omega, by omega⟩⟩
  unfold cgN
  rw [hn, hz, Int.zero_add]
  refine cntF_congr fun j _ _ => ?_
  show goodF 3 _ _ _ j = goodF 3 _ _ _ j
  unfold goodF
  rw [gM_congr (z := 3) (f := fun i => szD ((cT3 s).x.u (138 + i)) ((s.y 0).u (8 * j + i))) (g := fun i => szD (s.x.u (137 + i)) ((s.y 0).u (8 * j + i))) fun i hi => by rw [eightI (P := fun i => (cT3 s).x.u (138 + i) = s.x.u (137 + i)) (by kernel_rfl) (by kernel_rfl) (by kernel_rfl) (by kernel_rfl) (by kernel_rfl) (by kernel_rfl) (by kernel_rfl) (by kernel_rfl) i (by omega)]]

noncomputable def cT4 (s : SV) : SV := (mkSV (apl [(.int .i64 0), (.int .i64 0)] (apl (fl s.x 1 8) (apl [(.sint .i8 (s.x.i 9))] (apl (fl s.x 10 14) (apl [(.sint .i8 (s.x.i 24))] (apl (fl s.x 25 14) (apl [(.sint .i8 (s.x.i 39))] (apl (fl s.x 40 14) (apl [(.sint .i8 (s.x.i 54))] (apl (fl s.x 55 14) (apl [(.sint .i8 (s.x.i 69))] (apl (fl s.x 70 14) (apl [(.sint .i8 (s.x.i 84))] (apl (fl s.x 85 14) (apl [(.sint .i8 (s.x.i 99))] (apl (fl s.x 100 14) (apl [(.sint .i8 (s.x.i 114))] (apl (fl s.x 115 32) ([(.sint .i16 (s.x.i 147))]))))))))))))))))))) [(s.len 0)] [(s.n 0), 0, 0] [(s.y 0), zeroV, zeroV])
noncomputable def cS4 (s : SV) : SV := (mkSV (apl [(.int .i8 4)] (apl (fl s.x 1 8) (apl [(.sint .i8 (s.x.i 9))] (apl (fl s.x 10 14) (apl [(.sint .i8 (s.x.i 24))] (apl (fl s.x 25 14) (apl [(.sint .i8 (s.x.i 39))] (apl (fl s.x 40 14) (apl [(.sint .i8 (s.x.i 54))] (apl (fl s.x 55 14) (apl [(.sint .i8 (s.x.i 69))] (apl (fl s.x 70 14) (apl [(.sint .i8 (s.x.i 84))] (apl (fl s.x 85 14) (apl [(.sint .i8 (s.x.i 99))] (apl (fl s.x 100 14) (apl [(.sint .i8 (s.x.i 114))] (apl (fl s.x 115 32) ([(.sint .i16 (s.x.i 147))]))))))))))))))))))) [(s.len 0)] [0, 0, (s.n 0)] [zeroV, zeroV, (s.y 0)])

theorem cgS_o4 (s : SV) : funH Try.prog GAasI HcnS4 true 1000 9 (litV 4 (mkVs s 0 0 fAI.vals)) (mkM fAI s) [false] = some (.tup [.sint .i64 ((cnS4F (cT4 s)).2.x.i 0), .int .i64 0], [cnS4B (cT4 s), !(!(decide ((asSR (cS4 s)).i 0 = 0))), asSQB (cS4 s)]) := by kernel_rfl

theorem cS4_i (s : SV) (hz : s.x.i 0 = 4) : (asSR (cS4 s)).i 0 = askC s.x (s.len 0) (s.y 0) := by
  rw [asSR_i]
  show askC (cS4 s).x (s.len 0) (s.y 0) = _
  unfold askC
  rw [show badU (cS4 s).x = badZ 4 s.x from by kernel_rfl, badZ_eq hz, show (cS4 s).x.i 0 = 4 from by kernel_rfl, hz]

theorem cT4_f (s : SV) (hz : s.x.i 0 = 4) (hq : asIQB s = true) (hn : gNe s = false) : (cnS4F (cT4 s)).2.x.i 0 = cgN s ∧ cnS4B (cT4 s) = true := by
  obtain ⟨q1, q2⟩ := asIQB_of hq
  have a0 : (cT4 s).x.i 0 = 0 := by kernel_rfl
  have a1 : (cT4 s).len 0 = s.len 0 := by kernel_rfl
  have a2 : (cT4 s).n 0 = s.n 0 := by kernel_rfl
  have a3 : (cT4 s).x.i 1 = 0 := by kernel_rfl
  have a6 : (cT4 s).y 0 = s.y 0 := by kernel_rfl
  have a7 : (cT4 s).x.u 146 = s.x.u 145 := by kernel_rfl
  obtain ⟨_, f⟩ := cnS4_yes (cT4 s) (by omega) (by omega)
  rw [a0, a1, a3, a6, a7] at f
  refine ⟨f.trans ?_, cnS4B_to ⟨by omega, by omega, by omega, by omega, by omega, by omega⟩⟩
  unfold cgN
  rw [hn, hz, Int.zero_add]
  refine cntF_congr fun j _ _ => ?_
  show goodF 4 _ _ _ j = goodF 4 _ _ _ j
  unfold goodF
  rw [gM_congr (z := 4) (f := fun i => szD ((cT4 s).x.u (138 + i)) ((s.y 0).u (8 * j + i))) (g := fun i => szD (s.x.u (137 + i)) ((s.y 0).u (8 * j + i))) fun i hi => by rw [eightI (P := fun i => (cT4 s).x.u (138 + i) = s.x.u (137 + i)) (by kernel_rfl) (by kernel_rfl) (by kernel_rfl) (by kernel_rfl) (by kernel_rfl) (by kernel_rfl) (by kernel_rfl) (by kernel_rfl) i (by omega)]]

noncomputable def cT5 (s : SV) : SV := (mkSV (apl [(.int .i64 0), (.int .i64 0)] (apl (fl s.x 1 8) (apl [(.sint .i8 (s.x.i 9))] (apl (fl s.x 10 14) (apl [(.sint .i8 (s.x.i 24))] (apl (fl s.x 25 14) (apl [(.sint .i8 (s.x.i 39))] (apl (fl s.x 40 14) (apl [(.sint .i8 (s.x.i 54))] (apl (fl s.x 55 14) (apl [(.sint .i8 (s.x.i 69))] (apl (fl s.x 70 14) (apl [(.sint .i8 (s.x.i 84))] (apl (fl s.x 85 14) (apl [(.sint .i8 (s.x.i 99))] (apl (fl s.x 100 14) (apl [(.sint .i8 (s.x.i 114))] (apl (fl s.x 115 32) ([(.sint .i16 (s.x.i 147))]))))))))))))))))))) [(s.len 0)] [(s.n 0), 0, 0] [(s.y 0), zeroV, zeroV])
noncomputable def cS5 (s : SV) : SV := (mkSV (apl [(.int .i8 5)] (apl (fl s.x 1 8) (apl [(.sint .i8 (s.x.i 9))] (apl (fl s.x 10 14) (apl [(.sint .i8 (s.x.i 24))] (apl (fl s.x 25 14) (apl [(.sint .i8 (s.x.i 39))] (apl (fl s.x 40 14) (apl [(.sint .i8 (s.x.i 54))] (apl (fl s.x 55 14) (apl [(.sint .i8 (s.x.i 69))] (apl (fl s.x 70 14) (apl [(.sint .i8 (s.x.i 84))] (apl (fl s.x 85 14) (apl [(.sint .i8 (s.x.i 99))] (apl (fl s.x 100 14) (apl [(.sint .i8 (s.x.i 114))] (apl (fl s.x 115 32) ([(.sint .i16 (s.x.i 147))]))))))))))))))))))) [(s.len 0)] [0, 0, (s.n 0)] [zeroV, zeroV, (s.y 0)])

theorem cgS_o5 (s : SV) : funH Try.prog GAasI HcnS5 true 1000 9 (litV 5 (mkVs s 0 0 fAI.vals)) (mkM fAI s) [false] = some (.tup [.sint .i64 ((cnS5F (cT5 s)).2.x.i 0), .int .i64 0], [cnS5B (cT5 s), !(!(decide ((asSR (cS5 s)).i 0 = 0))), asSQB (cS5 s)]) := by kernel_rfl

theorem cS5_i (s : SV) (hz : s.x.i 0 = 5) : (asSR (cS5 s)).i 0 = askC s.x (s.len 0) (s.y 0) := by
  rw [asSR_i]
  show askC (cS5 s).x (s.len 0) (s.y 0) = _
  unfold askC
  rw [show badU (cS5 s).x = badZ 5 s.x from by kernel_rfl, badZ_eq hz, show (cS5 s).x.i 0 = 5 from by kernel_rfl, hz]

theorem cT5_f (s : SV) (hz : s.x.i 0 = 5) (hq : asIQB s = true) (hn : gNe s = false) : (cnS5F (cT5 s)).2.x.i 0 = cgN s ∧ cnS5B (cT5 s) = true := by
  obtain ⟨q1, q2⟩ := asIQB_of hq
  have a0 : (cT5 s).x.i 0 = 0 := by kernel_rfl
  have a1 : (cT5 s).len 0 = s.len 0 := by kernel_rfl
  have a2 : (cT5 s).n 0 = s.n 0 := by kernel_rfl
  have a3 : (cT5 s).x.i 1 = 0 := by kernel_rfl
  have a6 : (cT5 s).y 0 = s.y 0 := by kernel_rfl
  have a7 : (cT5 s).x.u 146 = s.x.u 145 := by kernel_rfl
  obtain ⟨_, f⟩ := cnS5_yes (cT5 s) (by omega) (by omega)
  rw [a0, a1, a3, a6, a7] at f
  refine ⟨f.trans ?_, cnS5B_to ⟨by omega, by omega, by omega, by omega, by omega, by omega⟩⟩
  unfold cgN
  rw [hn, hz, Int.zero_add]
  refine cntF_congr fun j _ _ => ?_
  show goodF 5 _ _ _ j = goodF 5 _ _ _ j
  unfold goodF
  rw [gM_congr (z := 5) (f := fun i => szD ((cT5 s).x.u (138 + i)) ((s.y 0).u (8 * j + i))) (g := fun i => szD (s.x.u (137 + i)) ((s.y 0).u (8 * j + i))) fun i hi => by rw [eightI (P := fun i => (cT5 s).x.u (138 + i) = s.x.u (137 + i)) (by kernel_rfl) (by kernel_rfl) (by kernel_rfl) (by kernel_rfl) (by kernel_rfl) (by kernel_rfl) (by kernel_rfl) (by kernel_rfl) i (by omega)]]

noncomputable def cT6 (s : SV) : SV := (mkSV (apl [(.int .i64 0), (.int .i64 0)] (apl (fl s.x 1 8) (apl [(.sint .i8 (s.x.i 9))] (apl (fl s.x 10 14) (apl [(.sint .i8 (s.x.i 24))] (apl (fl s.x 25 14) (apl [(.sint .i8 (s.x.i 39))] (apl (fl s.x 40 14) (apl [(.sint .i8 (s.x.i 54))] (apl (fl s.x 55 14) (apl [(.sint .i8 (s.x.i 69))] (apl (fl s.x 70 14) (apl [(.sint .i8 (s.x.i 84))] (apl (fl s.x 85 14) (apl [(.sint .i8 (s.x.i 99))] (apl (fl s.x 100 14) (apl [(.sint .i8 (s.x.i 114))] (apl (fl s.x 115 32) ([(.sint .i16 (s.x.i 147))]))))))))))))))))))) [(s.len 0)] [(s.n 0), 0, 0] [(s.y 0), zeroV, zeroV])
noncomputable def cS6 (s : SV) : SV := (mkSV (apl [(.int .i8 6)] (apl (fl s.x 1 8) (apl [(.sint .i8 (s.x.i 9))] (apl (fl s.x 10 14) (apl [(.sint .i8 (s.x.i 24))] (apl (fl s.x 25 14) (apl [(.sint .i8 (s.x.i 39))] (apl (fl s.x 40 14) (apl [(.sint .i8 (s.x.i 54))] (apl (fl s.x 55 14) (apl [(.sint .i8 (s.x.i 69))] (apl (fl s.x 70 14) (apl [(.sint .i8 (s.x.i 84))] (apl (fl s.x 85 14) (apl [(.sint .i8 (s.x.i 99))] (apl (fl s.x 100 14) (apl [(.sint .i8 (s.x.i 114))] (apl (fl s.x 115 32) ([(.sint .i16 (s.x.i 147))]))))))))))))))))))) [(s.len 0)] [0, 0, (s.n 0)] [zeroV, zeroV, (s.y 0)])

theorem cgS_o6 (s : SV) : funH Try.prog GAasI HcnS6 true 1000 9 (litV 6 (mkVs s 0 0 fAI.vals)) (mkM fAI s) [false] = some (.tup [.sint .i64 ((cnS6F (cT6 s)).2.x.i 0), .int .i64 0], [cnS6B (cT6 s), !(!(decide ((asSR (cS6 s)).i 0 = 0))), asSQB (cS6 s)]) := by kernel_rfl

theorem cS6_i (s : SV) (hz : s.x.i 0 = 6) : (asSR (cS6 s)).i 0 = askC s.x (s.len 0) (s.y 0) := by
  rw [asSR_i]
  show askC (cS6 s).x (s.len 0) (s.y 0) = _
  unfold askC
  rw [show badU (cS6 s).x = badZ 6 s.x from by kernel_rfl, badZ_eq hz, show (cS6 s).x.i 0 = 6 from by kernel_rfl, hz]

theorem cT6_f (s : SV) (hz : s.x.i 0 = 6) (hq : asIQB s = true) (hn : gNe s = false) : (cnS6F (cT6 s)).2.x.i 0 = cgN s ∧ cnS6B (cT6 s) = true := by
  obtain ⟨q1, q2⟩ := asIQB_of hq
  have a0 : (cT6 s).x.i 0 = 0 := by kernel_rfl
  have a1 : (cT6 s).len 0 = s.len 0 := by kernel_rfl
  have a2 : (cT6 s).n 0 = s.n 0 := by kernel_rfl
  have a3 : (cT6 s).x.i 1 = 0 := by kernel_rfl
  have a6 : (cT6 s).y 0 = s.y 0 := by kernel_rfl
  have a7 : (cT6 s).x.u 146 = s.x.u 145 := by kernel_rfl
  obtain ⟨_, f⟩ := cnS6_yes (cT6 s) (by omega) (by omega)
  rw [a0, a1, a3, a6, a7] at f
  refine ⟨f.trans ?_, cnS6B_to ⟨by omega, by omega, by omega, by omega, by omega, by omega⟩⟩
  unfold cgN
  rw [hn, hz, Int.zero_add]
  refine cntF_congr fun j _ _ => ?_
  show goodF 6 _ _ _ j = goodF 6 _ _ _ j
  unfold goodF
  rw [gM_congr (z := 6) (f := fun i => szD ((cT6 s).x.u (138 + i)) ((s.y 0).u (8 * j + i))) (g := fun i => szD (s.x.u (137 + i)) ((s.y 0).u (8 * j + i))) fun i hi => by rw [eightI (P := fun i => (cT6 s).x.u (138 + i) = s.x.u (137 + i)) (by kernel_rfl) (by kernel_rfl) (by kernel_rfl) (by kernel_rfl) (by kernel_rfl) (by kernel_rfl) (by kernel_rfl) (by kernel_rfl) i (by omega)]]

noncomputable def cT7 (s : SV) : SV := (mkSV (apl [(.int .i64 0), (.int .i64 0)] (apl (fl s.x 1 8) (apl [(.sint .i8 (s.x.i 9))] (apl (fl s.x 10 14) (apl [(.sint .i8 (s.x.i 24))] (apl (fl s.x 25 14) (apl [(.sint .i8 (s.x.i 39))] (apl (fl s.x 40 14) (apl [(.sint .i8 (s.x.i 54))] (apl (fl s.x 55 14) (apl [(.sint .i8 (s.x.i 69))] (apl (fl s.x 70 14) (apl [(.sint .i8 (s.x.i 84))] (apl (fl s.x 85 14) (apl [(.sint .i8 (s.x.i 99))] (apl (fl s.x 100 14) (apl [(.sint .i8 (s.x.i 114))] (apl (fl s.x 115 32) ([(.sint .i16 (s.x.i 147))]))))))))))))))))))) [(s.len 0)] [(s.n 0), 0, 0] [(s.y 0), zeroV, zeroV])
noncomputable def cS7 (s : SV) : SV := (mkSV (apl [(.int .i8 7)] (apl (fl s.x 1 8) (apl [(.sint .i8 (s.x.i 9))] (apl (fl s.x 10 14) (apl [(.sint .i8 (s.x.i 24))] (apl (fl s.x 25 14) (apl [(.sint .i8 (s.x.i 39))] (apl (fl s.x 40 14) (apl [(.sint .i8 (s.x.i 54))] (apl (fl s.x 55 14) (apl [(.sint .i8 (s.x.i 69))] (apl (fl s.x 70 14) (apl [(.sint .i8 (s.x.i 84))] (apl (fl s.x 85 14) (apl [(.sint .i8 (s.x.i 99))] (apl (fl s.x 100 14) (apl [(.sint .i8 (s.x.i 114))] (apl (fl s.x 115 32) ([(.sint .i16 (s.x.i 147))]))))))))))))))))))) [(s.len 0)] [0, 0, (s.n 0)] [zeroV, zeroV, (s.y 0)])

theorem cgS_o7 (s : SV) : funH Try.prog GAasI HcnS7 true 1000 9 (litV 7 (mkVs s 0 0 fAI.vals)) (mkM fAI s) [false] = some (.tup [.sint .i64 ((cnS7F (cT7 s)).2.x.i 0), .int .i64 0], [cnS7B (cT7 s), !(!(decide ((asSR (cS7 s)).i 0 = 0))), asSQB (cS7 s)]) := by kernel_rfl

theorem cS7_i (s : SV) (hz : s.x.i 0 = 7) : (asSR (cS7 s)).i 0 = askC s.x (s.len 0) (s.y 0) := by
  rw [asSR_i]
  show askC (cS7 s).x (s.len 0) (s.y 0) = _
  unfold askC
  rw [show badU (cS7 s).x = badZ 7 s.x from by kernel_rfl, badZ_eq hz, show (cS7 s).x.i 0 = 7 from by kernel_rfl, hz]

theorem cT7_f (s : SV) (hz : s.x.i 0 = 7) (hq : asIQB s = true) (hn : gNe s = false) : (cnS7F (cT7 s)).2.x.i 0 = cgN s ∧ cnS7B (cT7 s) = true := by
  obtain ⟨q1, q2⟩ := asIQB_of hq
  have a0 : (cT7 s).x.i 0 = 0 := by kernel_rfl
  have a1 : (cT7 s).len 0 = s.len 0 := by kernel_rfl
  have a2 : (cT7 s).n 0 = s.n 0 := by kernel_rfl
  have a3 : (cT7 s).x.i 1 = 0 := by kernel_rfl
  have a6 : (cT7 s).y 0 = s.y 0 := by kernel_rfl
  have a7 : (cT7 s).x.u 146 = s.x.u 145 := by kernel_rfl
  obtain ⟨_, f⟩ := cnS7_yes (cT7 s) (by omega) (by omega)
  rw [a0, a1, a3, a6, a7] at f
  refine ⟨f.trans ?_, cnS7B_to ⟨by omega, by omega, by omega, by omega, by omega, by omega⟩⟩
  unfold cgN
  rw [hn, hz, Int.zero_add]
  refine cntF_congr fun j _ _ => ?_
  show goodF 7 _ _ _ j = goodF 7 _ _ _ j
  unfold goodF
  rw [gM_congr (z := 7) (f := fun i => szD ((cT7 s).x.u (138 + i)) ((s.y 0).u (8 * j + i))) (g := fun i => szD (s.x.u (137 + i)) ((s.y 0).u (8 * j + i))) fun i hi => by rw [eightI (P := fun i => (cT7 s).x.u (138 + i) = s.x.u (137 + i)) (by kernel_rfl) (by kernel_rfl) (by kernel_rfl) (by kernel_rfl) (by kernel_rfl) (by kernel_rfl) (by kernel_rfl) (by kernel_rfl) i (by omega)]]

noncomputable def cT8 (s : SV) : SV := (mkSV (apl [(.int .i64 0), (.int .i64 0)] (apl (fl s.x 1 8) (apl [(.sint .i8 (s.x.i 9))] (apl (fl s.x 10 14) (apl [(.sint .i8 (s.x.i 24))] (apl (fl s.x 25 14) (apl [(.sint .i8 (s.x.i 39))] (apl (fl s.x 40 14) (apl [(.sint .i8 (s.x.i 54))] (apl (fl s.x 55 14) (apl [(.sint .i8 (s.x.i 69))] (apl (fl s.x 70 14) (apl [(.sint .i8 (s.x.i 84))] (apl (fl s.x 85 14) (apl [(.sint .i8 (s.x.i 99))] (apl (fl s.x 100 14) (apl [(.sint .i8 (s.x.i 114))] (apl (fl s.x 115 32) ([(.sint .i16 (s.x.i 147))]))))))))))))))))))) [(s.len 0)] [(s.n 0), 0, 0] [(s.y 0), zeroV, zeroV])
noncomputable def cS8 (s : SV) : SV := (mkSV (apl [(.int .i8 8)] (apl (fl s.x 1 8) (apl [(.sint .i8 (s.x.i 9))] (apl (fl s.x 10 14) (apl [(.sint .i8 (s.x.i 24))] (apl (fl s.x 25 14) (apl [(.sint .i8 (s.x.i 39))] (apl (fl s.x 40 14) (apl [(.sint .i8 (s.x.i 54))] (apl (fl s.x 55 14) (apl [(.sint .i8 (s.x.i 69))] (apl (fl s.x 70 14) (apl [(.sint .i8 (s.x.i 84))] (apl (fl s.x 85 14) (apl [(.sint .i8 (s.x.i 99))] (apl (fl s.x 100 14) (apl [(.sint .i8 (s.x.i 114))] (apl (fl s.x 115 32) ([(.sint .i16 (s.x.i 147))]))))))))))))))))))) [(s.len 0)] [0, 0, (s.n 0)] [zeroV, zeroV, (s.y 0)])

theorem cgS_o8 (s : SV) : funH Try.prog GAasI HcnS8 true 1000 9 (litV 8 (mkVs s 0 0 fAI.vals)) (mkM fAI s) [false] = some (.tup [.sint .i64 ((cnS8F (cT8 s)).2.x.i 0), .int .i64 0], [cnS8B (cT8 s), !(!(decide ((asSR (cS8 s)).i 0 = 0))), asSQB (cS8 s)]) := by kernel_rfl

theorem cS8_i (s : SV) (hz : s.x.i 0 = 8) : (asSR (cS8 s)).i 0 = askC s.x (s.len 0) (s.y 0) := by
  rw [asSR_i]
  show askC (cS8 s).x (s.len 0) (s.y 0) = _
  unfold askC
  rw [show badU (cS8 s).x = badZ 8 s.x from by kernel_rfl, badZ_eq hz, show (cS8 s).x.i 0 = 8 from by kernel_rfl, hz]

theorem cT8_f (s : SV) (hz : s.x.i 0 = 8) (hq : asIQB s = true) (hn : gNe s = false) : (cnS8F (cT8 s)).2.x.i 0 = cgN s ∧ cnS8B (cT8 s) = true := by
  obtain ⟨q1, q2⟩ := asIQB_of hq
  have a0 : (cT8 s).x.i 0 = 0 := by kernel_rfl
  have a1 : (cT8 s).len 0 = s.len 0 := by kernel_rfl
  have a2 : (cT8 s).n 0 = s.n 0 := by kernel_rfl
  have a3 : (cT8 s).x.i 1 = 0 := by kernel_rfl
  have a6 : (cT8 s).y 0 = s.y 0 := by kernel_rfl
  have a7 : (cT8 s).x.u 146 = s.x.u 145 := by kernel_rfl
  obtain ⟨_, f⟩ := cnS8_yes (cT8 s) (by omega) (by omega)
  rw [a0, a1, a3, a6, a7] at f
  refine ⟨f.trans ?_, cnS8B_to ⟨by omega, by omega, by omega, by omega, by omega, by omega⟩⟩
  unfold cgN
  rw [hn, hz, Int.zero_add]
  refine cntF_congr fun j _ _ => ?_
  show goodF 8 _ _ _ j = goodF 8 _ _ _ j
  unfold goodF
  rw [gM_congr (z := 8) (f := fun i => szD ((cT8 s).x.u (138 + i)) ((s.y 0).u (8 * j + i))) (g := fun i => szD (s.x.u (137 + i)) ((s.y 0).u (8 * j + i))) fun i hi => by rw [eightI (P := fun i => (cT8 s).x.u (138 + i) = s.x.u (137 + i)) (by kernel_rfl) (by kernel_rfl) (by kernel_rfl) (by kernel_rfl) (by kernel_rfl) (by kernel_rfl) (by kernel_rfl) (by kernel_rfl) i (by omega)]]

noncomputable def GC1 : Summ := addG 9 (sumQ fAI [.sc (.int .i64), .sc (.int .i64)] cgPre cgR) GAasI

theorem cgN_e {s : SV} (h : gNe s = true) : (0 : Int) = cgN s := by unfold cgN; rw [h]; rfl

set_option maxRecDepth 100000 in
theorem GC1_ok : SoundG Try.prog GC1 := by
  unfold GC1
  rw [cgR_eq]
  refine SoundG.sumQN GAasI_ok mixed Try.call9 GAasI_ok (by decide) fun s hp => ?_
  have hq : asIQB s = true := hp _ (List.mem_cons_self ..)
  cases hn : gNe s with
  | true =>
    have e := cS0_i s
    exact ⟨noLT, true, 1000, [true], _, _, _, _, (fun _ _ h => h), SameN.refl _, HFun.none Try.prog _ 9, cgS_e s, cg_v (cgN_e hn) e, rfl, rfl, allC (by rw [e]; exact hn) (allC (asSQB_to (asIQB_of hq)) allN)⟩
  | false =>
    have hr := badU_rng (askC_ok (gNe_0 hn)).1
    have hc : s.x.i 0 = 1 ∨ s.x.i 0 = 2 ∨ s.x.i 0 = 3 ∨ s.x.i 0 = 4 ∨ s.x.i 0 = 5 ∨ s.x.i 0 = 6 ∨ s.x.i 0 = 7 ∨ s.x.i 0 = 8 := by omega
    rcases hc with hz | hz | hz | hz | hz | hz | hz | hz
    · have e := cT1_f s hz hq hn
      have ea := cS1_i s hz
      exact ⟨HcnS1, true, 1000, [false], _, _, _, _, (fun _ _ h => vals_lit hz ((show mkVs s 0 0 fAI.vals = .agg (.sint .i8 (s.x.i 0) :: mkL s.x 1 (kd2).tail) :: mkVs s 129 0 (fAI.vals.tail) from by kernel_rfl) ▸ h)), SameN.refl _, HcnS1_ok, cgS_o1 s, cg_v e.1 (gNe_0 hn).symm, rfl, rfl, allC e.2 (allC (by rw [ea, gNe_0 hn]; rfl) (allC (asSQB_to (asIQB_of hq)) allN))⟩
    · have e := cT2_f s hz hq hn
      have ea := cS2_i s hz
      exact ⟨HcnS2, true, 1000, [false], _, _, _, _, (fun _ _ h => vals_lit hz ((show mkVs s 0 0 fAI.vals = .agg (.sint .i8 (s.x.i 0) :: mkL s.x 1 (kd2).tail) :: mkVs s 129 0 (fAI.vals.tail) from by kernel_rfl) ▸ h)), SameN.refl _, HcnS2_ok, cgS_o2 s, cg_v e.1 (gNe_0 hn).symm, rfl, rfl, allC e.2 (allC (by rw [ea, gNe_0 hn]; rfl) (allC (asSQB_to (asIQB_of hq)) allN))⟩
    · have e := cT3_f s hz hq hn
      have ea := cS3_i s hz
      exact ⟨HcnS3, true, 1000, [false], _, _, _, _, (fun _ _ h => vals_lit hz ((show mkVs s 0 0 fAI.vals = .agg (.sint .i8 (s.x.i 0) :: mkL s.x 1 (kd2).tail) :: mkVs s 129 0 (fAI.vals.tail) from by kernel_rfl) ▸ h)), SameN.refl _, HcnS3_ok, cgS_o3 s, cg_v e.1 (gNe_0 hn).symm, rfl, rfl, allC e.2 (allC (by rw [ea, gNe_0 hn]; rfl) (allC (asSQB_to (asIQB_of hq)) allN))⟩
    · have e := cT4_f s hz hq hn
      have ea := cS4_i s hz
      exact ⟨HcnS4, true, 1000, [false], _, _, _, _, (fun _ _ h => vals_lit hz ((show mkVs s 0 0 fAI.vals = .agg (.sint .i8 (s.x.i 0) :: mkL s.x 1 (kd2).tail) :: mkVs s 129 0 (fAI.vals.tail) from by kernel_rfl) ▸ h)), SameN.refl _, HcnS4_ok, cgS_o4 s, cg_v e.1 (gNe_0 hn).symm, rfl, rfl, allC e.2 (allC (by rw [ea, gNe_0 hn]; rfl) (allC (asSQB_to (asIQB_of hq)) allN))⟩
    · have e := cT5_f s hz hq hn
      have ea := cS5_i s hz
      exact ⟨HcnS5, true, 1000, [false], _, _, _, _, (fun _ _ h => vals_lit hz ((show mkVs s 0 0 fAI.vals = .agg (.sint .i8 (s.x.i 0) :: mkL s.x 1 (kd2).tail) :: mkVs s 129 0 (fAI.vals.tail) from by kernel_rfl) ▸ h)), SameN.refl _, HcnS5_ok, cgS_o5 s, cg_v e.1 (gNe_0 hn).symm, rfl, rfl, allC e.2 (allC (by rw [ea, gNe_0 hn]; rfl) (allC (asSQB_to (asIQB_of hq)) allN))⟩
    · have e := cT6_f s hz hq hn
      have ea := cS6_i s hz
      exact ⟨HcnS6, true, 1000, [false], _, _, _, _, (fun _ _ h => vals_lit hz ((show mkVs s 0 0 fAI.vals = .agg (.sint .i8 (s.x.i 0) :: mkL s.x 1 (kd2).tail) :: mkVs s 129 0 (fAI.vals.tail) from by kernel_rfl) ▸ h)), SameN.refl _, HcnS6_ok, cgS_o6 s, cg_v e.1 (gNe_0 hn).symm, rfl, rfl, allC e.2 (allC (by rw [ea, gNe_0 hn]; rfl) (allC (asSQB_to (asIQB_of hq)) allN))⟩
    · have e := cT7_f s hz hq hn
      have ea := cS7_i s hz
      exact ⟨HcnS7, true, 1000, [false], _, _, _, _, (fun _ _ h => vals_lit hz ((show mkVs s 0 0 fAI.vals = .agg (.sint .i8 (s.x.i 0) :: mkL s.x 1 (kd2).tail) :: mkVs s 129 0 (fAI.vals.tail) from by kernel_rfl) ▸ h)), SameN.refl _, HcnS7_ok, cgS_o7 s, cg_v e.1 (gNe_0 hn).symm, rfl, rfl, allC e.2 (allC (by rw [ea, gNe_0 hn]; rfl) (allC (asSQB_to (asIQB_of hq)) allN))⟩
    · have e := cT8_f s hz hq hn
      have ea := cS8_i s hz
      exact ⟨HcnS8, true, 1000, [false], _, _, _, _, (fun _ _ h => vals_lit hz ((show mkVs s 0 0 fAI.vals = .agg (.sint .i8 (s.x.i 0) :: mkL s.x 1 (kd2).tail) :: mkVs s 129 0 (fAI.vals.tail) from by kernel_rfl) ▸ h)), SameN.refl _, HcnS8_ok, cgS_o8 s, cg_v e.1 (gNe_0 hn).symm, rfl, rfl, allC e.2 (allC (by rw [ea, gNe_0 hn]; rfl) (allC (asSQB_to (asIQB_of hq)) allN))⟩

theorem cgI_e (s : SV) : funH Try.prog GGE noLT true 1000 13 (mkVs s 0 0 fAI.vals) (mkM fAI s) [] = some (.tup [.int .i64 0, .sint .i64 ((goodER (gS0 s)).x.i 0)], [asIQB (gS0 s), gNe (gS0 s)]) := by kernel_rfl

noncomputable def cI (s : SV) : SV := (mkSV [(.int .i64 0), (.int .i64 0), (.sint .i64 (ofN ((goodOR (gS0 s)).len 0))), (.sint .i64 ((goodOR (gS0 s)).x.i 0))] [((goodOR (gS0 s)).len 0)] [(s.n 0), ((goodOR (gS0 s)).n 1)] [(s.y 0), ((goodOR (gS0 s)).y 1)])

theorem cgI_o (s : SV) : funH Try.prog GGO Hci true 1000 13 (mkVs s 0 0 fAI.vals) (mkM fAI s) [] = some (.tup [.sint .i64 ((ciF (cI s)).2.x.i 0), .sint .i64 ((ciF (cI s)).2.x.i 1)], [ciB (cI s), ((decide ((-(9223372036854775807 + 1)) ≤ (ofN ((goodOR (gS0 s)).len 0)))) && (decide ((ofN ((goodOR (gS0 s)).len 0)) ≤ 9223372036854775807))), asIQB (gS0 s), !(gNe (gS0 s))]) := by kernel_rfl

noncomputable def GC2 : Summ := addG 13 (sumQ fAI [.sc (.int .i64), .sc (.int .i64)] cgPre cgR) GC1

theorem cI_f (s : SV) (hq : asIQB s = true) (hn : gNe s = false) : (ciF (cI s)).2.x.i 0 = cgN s ∧ (ciF (cI s)).2.x.i 1 = 0 ∧ ciB (cI s) = true ∧ (goodOR (gS0 s)).len 0 = s.len 0 := by
  have h0 := gNe_0 hn
  have hr := badU_rng (askC_ok h0).1
  obtain ⟨f1, f2, f3, f4, f5, f6⟩ := goodOR_f (gS0 s) (gQ s hq) ((show askC (gS0 s).x ((gS0 s).len 0) ((gS0 s).y 0) = askC s.x (s.len 0) (s.y 0) from by kernel_rfl).trans h0)
  have b1 : (gS0 s).len 0 = s.len 0 := by kernel_rfl
  have b2 : (gS0 s).x.i 0 = s.x.i 0 := by kernel_rfl
  have b3 : (gS0 s).y 0 = s.y 0 := by kernel_rfl
  have b4 : (gS0 s).x.u 145 = s.x.u 145 := by kernel_rfl
  rw [b1] at f1 f2 f3
  rw [b2, b3, b4] at f2
  obtain ⟨q1, q2⟩ := asIQB_of hq
  have a0 : (cI s).x.i 0 = 0 := by kernel_rfl
  have a1 : (cI s).len 0 = (goodOR (gS0 s)).len 0 := by kernel_rfl
  have a2 : (cI s).x.i 2 = ofN ((goodOR (gS0 s)).len 0) := by kernel_rfl
  have a3 : (cI s).x.i 1 = 0 := by kernel_rfl
  have a4 : (cI s).y 1 = (goodOR (gS0 s)).y 1 := by kernel_rfl
  have a5 : (cI s).x.i 3 = (goodOR (gS0 s)).x.i 0 := by kernel_rfl
  have a6 : (cI s).n 1 = (goodOR (gS0 s)).n 1 := by kernel_rfl
  unfold ofN at a2
  obtain ⟨_, c1, c2⟩ := ci_yes (cI s) (by omega) (by omega) (by omega)
  rw [a0, a1, a3, a4, f1] at c1
  refine ⟨c1.trans ?_, c2.trans (a5.trans f6), ciB_to ⟨by omega, by omega, by omega, by omega, by omega, by omega, by omega⟩, f1⟩
  unfold cgN
  rw [hn, Int.zero_add]
  refine cntF_congr fun j _ hj => ?_
  have hj : j < s.len 0 := by
    have : (0 : Int).toNat = 0 := rfl
    omega
  refine (f2 j hj).trans ?_
  unfold goodF
  rw [gM_congr (z := (s.x.i 0).toNat) (f := fun i => szD ((gS0 s).x.u (137 + i)) ((s.y 0).u (8 * j + i))) (g := fun i => szD (s.x.u (137 + i)) ((s.y 0).u (8 * j + i))) fun i hi => by rw [eightI (P := fun i => (gS0 s).x.u (137 + i) = s.x.u (137 + i)) (by kernel_rfl) (by kernel_rfl) (by kernel_rfl) (by kernel_rfl) (by kernel_rfl) (by kernel_rfl) (by kernel_rfl) (by kernel_rfl) i (by omega)]]

theorem goodER_i (s : SV) : (goodER s).x.i 0 = askC s.x (s.len 0) (s.y 0) := by rw [goodER_eq]; rfl


theorem GC2_ok : SoundG Try.prog GC2 := by
  unfold GC2
  rw [cgR_eq]
  refine SoundG.sumQM GC1_ok mixed Try.call13 (by decide) fun s hp => ?_
  have hq : asIQB s = true := hp _ (List.mem_cons_self ..)
  cases hn : gNe s with
  | true =>
    refine ⟨GGE, noLT, true, 1000, [], _, _, GGE_ok, HFun.none Try.prog _ 13, cgI_e s, cg_v (cgN_e hn) ((goodER_i _).trans (show askC (gS0 s).x ((gS0 s).len 0) ((gS0 s).y 0) = askC s.x (s.len 0) (s.y 0) from by kernel_rfl)), rfl, rfl, allC (gQ s hq) (allC ((gS0_ne s).trans hn) allN)⟩
  | false =>
    obtain ⟨e1, e2, e3, e4⟩ := cI_f s hq hn
    have hl := (asIQB_of hq).1
    refine ⟨GGO, Hci, true, 1000, [], _, _, GGO_ok, Hci_ok, cgI_o s, cg_v e1 (e2.trans (gNe_0 hn).symm), rfl, rfl, allC e3 (allC (andT (decide_eq_true (by unfold ofN; omega)) (decide_eq_true (by unfold ofN; omega))) (allC (gQ s hq) (allC (by rw [gS0_ne, hn]; rfl) allN)))⟩

end Go.Proofs.Ytagkkkplmilkhaa

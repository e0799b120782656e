/-
  Facts of this seat that its laws use; no conditions.
-/
import Derived.Test.YtagkkkplmilkhaaFg
namespace Go.Proofs.Ytagkkkplmilkhaa
open Go.Sim Go.ChangeShapes Go.WideShapes Go.ChangeAt Go.RowKit

theorem asSR_i (s : SV) : (asSR s).i 0 = askC s.x (s.len 0) (s.y 2) := by rw [asSR_eq]; rfl

noncomputable def fgAt (s : SV) : Int := fstF (goodF (s.x.i 0).toNat (fun i => s.x.u (137 + i)) (s.x.u 145) (s.y 0)) (s.len 0)
noncomputable def fgV (s : SV) : Int := bif gNe s then 0 else bif decide (fgAt s = ofN (s.len 0)) then 0 else fgAt s
noncomputable def fgC (s : SV) : Int := bif gNe s then askC s.x (s.len 0) (s.y 0) else bif decide (fgAt s = ofN (s.len 0)) then 6 else 0
noncomputable def fgR0 (s : SV) : Vars := varsOf [.sint .i64 (fgV s), .sint .i64 (fgC s)]

noncomputable def fgR : SV → Vars := Classical.choose (⟨fgR0, rfl⟩ : ∃ f, f = fgR0)

theorem fgR_eq : fgR = fgR0 := Classical.choose_spec (⟨fgR0, rfl⟩ : ∃ f, f = fgR0)

noncomputable def fgPre (s : SV) : List Bool := [asIQB s]

theorem fg_v {s : SV} {a b : Int} (ha : a = fgV s) (hb : b = fgC s) : AV.tup [.sint .i64 a, .sint .i64 b] = mkR (fgR0 s) [.sc (.int .i64), .sc (.int .i64)] := by
  subst ha hb
  rfl

theorem fg_o {s : SV} {a : Int} {l : Nat} (hn : gNe s = false) (ha : a = fgAt s) (hl : l = s.len 0) : (bif (decide (a = (ofN l))) then 0 else a : Int) = fgV s ∧ (bif (decide (a = (ofN l))) then 6 else 0 : Int) = fgC s := by
  subst ha hl
  unfold fgV fgC
  rw [hn]
  exact ⟨rfl, rfl⟩

theorem fgV_e {s : SV} (h : gNe s = true) : (0 : Int) = fgV s := by unfold fgV; rw [h]; rfl
theorem fgC_e {s : SV} (h : gNe s = true) : askC s.x (s.len 0) (s.y 0) = fgC s := by unfold fgC; rw [h]; rfl

theorem gNe_0 {s : SV} (h : gNe s = false) : askC s.x (s.len 0) (s.y 0) = 0 := notDec h

theorem gS0_ne (s : SV) : gNe (gS0 s) = gNe s := by kernel_rfl

theorem bd_ok {l : Nat} (h : l ≤ 1048576) : ((decide ((-(9223372036854775807 + 1)) ≤ (ofN l))) && (decide ((ofN l) ≤ 9223372036854775807))) = true := andT (decide_eq_true (by unfold ofN; omega)) (decide_eq_true (by unfold ofN; omega))

noncomputable def fS0 (s : SV) : SV := (mkSV (apl [(.sint .i8 (s.x.i 0))] (apl (fl s.x 1 8) (apl [(.sint .i8 (s.x.i 9))] (apl (fl s.x 10 14) (apl [(.sint .i8 (s.x.i 24))] (apl (fl s.x 25 14) (apl [(.sint .i8 (s.x.i 39))] (apl (fl s.x 40 14) (apl [(.sint .i8 (s.x.i 54))] (apl (fl s.x 55 14) (apl [(.sint .i8 (s.x.i 69))] (apl (fl s.x 70 14) (apl [(.sint .i8 (s.x.i 84))] (apl (fl s.x 85 14) (apl [(.sint .i8 (s.x.i 99))] (apl (fl s.x 100 14) (apl [(.sint .i8 (s.x.i 114))] (apl (fl s.x 115 32) ([(.sint .i16 (s.x.i 147))]))))))))))))))))))) [(s.len 0)] [0, 0, (s.n 0)] [zeroV, zeroV, (s.y 0)])

theorem fS0_i (s : SV) : (asSR (fS0 s)).i 0 = askC s.x (s.len 0) (s.y 0) := (asSR_i _).trans (show askC (fS0 s).x ((fS0 s).len 0) ((fS0 s).y 2) = askC s.x (s.len 0) (s.y 0) from by kernel_rfl)

theorem fgS_e (s : SV) : funH Try.prog GAasI noLT true 1000 15 (mkVs s 0 0 fAI.vals) (mkM fAI s) [true] = some (.tup [.int .i64 0, .sint .i64 ((asSR (fS0 s)).i 0)], [!(decide ((asSR (fS0 s)).i 0 = 0)), asSQB (fS0 s)]) := by kernel_rfl

noncomputable def fT1 (s : SV) : SV := (mkSV (apl [(.sint .i64 (ofN (s.len 0)))] (apl (fl s.x 1 8) (apl [(.sint .i8 (s.x.i 9))] (apl (fl s.x 10 14) (apl [(.sint .i8 (s.x.i 24))] (apl (fl s.x 25 14) (apl [(.sint .i8 (s.x.i 39))] (apl (fl s.x 40 14) (apl [(.sint .i8 (s.x.i 54))] (apl (fl s.x 55 14) (apl [(.sint .i8 (s.x.i 69))] (apl (fl s.x 70 14) (apl [(.sint .i8 (s.x.i 84))] (apl (fl s.x 85 14) (apl [(.sint .i8 (s.x.i 99))] (apl (fl s.x 100 14) (apl [(.sint .i8 (s.x.i 114))] (apl (fl s.x 115 32) ([(.sint .i16 (s.x.i 147))]))))))))))))))))))) [(s.len 0)] [(s.n 0), 0, 0] [(s.y 0), zeroV, zeroV])
noncomputable def fS1 (s : SV) : SV := (mkSV (apl [(.int .i8 1)] (apl (fl s.x 1 8) (apl [(.sint .i8 (s.x.i 9))] (apl (fl s.x 10 14) (apl [(.sint .i8 (s.x.i 24))] (apl (fl s.x 25 14) (apl [(.sint .i8 (s.x.i 39))] (apl (fl s.x 40 14) (apl [(.sint .i8 (s.x.i 54))] (apl (fl s.x 55 14) (apl [(.sint .i8 (s.x.i 69))] (apl (fl s.x 70 14) (apl [(.sint .i8 (s.x.i 84))] (apl (fl s.x 85 14) (apl [(.sint .i8 (s.x.i 99))] (apl (fl s.x 100 14) (apl [(.sint .i8 (s.x.i 114))] (apl (fl s.x 115 32) ([(.sint .i16 (s.x.i 147))]))))))))))))))))))) [(s.len 0)] [0, 0, (s.n 0)] [zeroV, zeroV, (s.y 0)])

theorem fgS_o1 (s : SV) : funH Try.prog GAasI HfgS1 true 1000 15 (litV 1 (mkVs s 0 0 fAI.vals)) (mkM fAI s) [false] = some (.tup [.sint .i64 (bif (decide (((fgS1F (fT1 s)).2.x.i 0) = (ofN ((fgS1F (fT1 s)).2.len 0)))) then 0 else ((fgS1F (fT1 s)).2.x.i 0)), .sint .i64 (bif (decide (((fgS1F (fT1 s)).2.x.i 0) = (ofN ((fgS1F (fT1 s)).2.len 0)))) then 6 else 0)], [((decide ((-(9223372036854775807 + 1)) ≤ (ofN ((fgS1F (fT1 s)).2.len 0)))) && (decide ((ofN ((fgS1F (fT1 s)).2.len 0)) ≤ 9223372036854775807))), fgS1B (fT1 s), ((decide ((-(9223372036854775807 + 1)) ≤ (ofN (s.len 0)))) && (decide ((ofN (s.len 0)) ≤ 9223372036854775807))), !(!(decide ((asSR (fS1 s)).i 0 = 0))), asSQB (fS1 s)]) := by kernel_rfl

theorem fS1_i (s : SV) (hz : s.x.i 0 = 1) : (asSR (fS1 s)).i 0 = askC s.x (s.len 0) (s.y 0) := by
  rw [asSR_i]
  show askC (fS1 s).x (s.len 0) (s.y 0) = _
  unfold askC
  rw [show badU (fS1 s).x = badZ 1 s.x from by kernel_rfl, badZ_eq hz, show (fS1 s).x.i 0 = 1 from by kernel_rfl, hz]

theorem fT1_f (s : SV) (hz : s.x.i 0 = 1) (hq : asIQB s = true) : (fgS1F (fT1 s)).2.x.i 0 = fgAt s ∧ (fgS1F (fT1 s)).2.len 0 = s.len 0 ∧ fgS1B (fT1 s) = true := by
  obtain ⟨q1, q2⟩ := asIQB_of hq
  have a0 : (fT1 s).x.i 0 = s.len 0 := by kernel_rfl
  have a1 : (fT1 s).len 0 = s.len 0 := by kernel_rfl
  have a2 : (fT1 s).n 0 = s.n 0 := by kernel_rfl
  have a6 : (fT1 s).y 0 = s.y 0 := by kernel_rfl
  have a7 : (fT1 s).x.u 145 = s.x.u 145 := by kernel_rfl
  obtain ⟨_, f, fl⟩ := fgS1_yes (fT1 s) (by omega)
  rw [a0, a6, a7, Int.toNat_natCast] at f
  refine ⟨f.trans ?_, fl.trans a1, fgS1B_to ⟨by omega, by omega, by omega, by omega⟩⟩
  unfold fgAt
  rw [hz]
  refine fstF_congr fun j _ => ?_
  show goodF 1 _ _ _ j = goodF 1 _ _ _ j
  unfold goodF
  rw [gM_congr (z := 1) (f := fun i => szD ((fT1 s).x.u (137 + i)) ((s.y 0).u (8 * j + i))) (g := fun i => szD (s.x.u (137 + i)) ((s.y 0).u (8 * j + i))) fun i hi => by rw [eightI (P := fun i => (fT1 s).x.u (137 + i) = s.x.u (137 + i)) (by kernel_rfl) (by kernel_rfl) (by kernel_rfl) (by kernel_rfl) (by kernel_rfl) (by kernel_rfl) (by kernel_rfl) (by kernel_rfl) i (by omega)]]

noncomputable def fT2 (s : SV) : SV := (mkSV (apl [(.sint .i64 (ofN (s.len 0)))] (apl (fl s.x 1 8) (apl [(.sint .i8 (s.x.i 9))] (apl (fl s.x 10 14) (apl [(.sint .i8 (s.x.i 24))] (apl (fl s.x 25 14) (apl [(.sint .i8 (s.x.i 39))] (apl (fl s.x 40 14) (apl [(.sint .i8 (s.x.i 54))] (apl (fl s.x 55 14) (apl [(.sint .i8 (s.x.i 69))] (apl (fl s.x 70 14) (apl [(.sint .i8 (s.x.i 84))] (apl (fl s.x 85 14) (apl [(.sint .i8 (s.x.i 99))] (apl (fl s.x 100 14) (apl [(.sint .i8 (s.x.i 114))] (apl (fl s.x 115 32) ([(.sint .i16 (s.x.i 147))]))))))))))))))))))) [(s.len 0)] [(s.n 0), 0, 0] [(s.y 0), zeroV, zeroV])
noncomputable def fS2 (s : SV) : SV := (mkSV (apl [(.int .i8 2)] (apl (fl s.x 1 8) (apl [(.sint .i8 (s.x.i 9))] (apl (fl s.x 10 14) (apl [(.sint .i8 (s.x.i 24))] (apl (fl s.x 25 14) (apl [(.sint .i8 (s.x.i 39))] (apl (fl s.x 40 14) (apl [(.sint .i8 (s.x.i 54))] (apl (fl s.x 55 14) (apl [(.sint .i8 (s.x.i 69))] (apl (fl s.x 70 14) (apl [(.sint .i8 (s.x.i 84))] (apl (fl s.x 85 14) (apl [(.sint .i8 (s.x.i 99))] (apl (fl s.x 100 14) (apl [(.sint .i8 (s.x.i 114))] (apl (fl s.x 115 32) ([(.sint .i16 (s.x.i 147))]))))))))))))))))))) [(s.len 0)] [0, 0, (s.n 0)] [zeroV, zeroV, (s.y 0)])

theorem fgS_o2 (s : SV) : funH Try.prog GAasI HfgS2 true 1000 15 (litV 2 (mkVs s 0 0 fAI.vals)) (mkM fAI s) [false] = some (.tup [.sint .i64 (bif (decide (((fgS2F (fT2 s)).2.x.i 0) = (ofN ((fgS2F (fT2 s)).2.len 0)))) then 0 else ((fgS2F (fT2 s)).2.x.i 0)), .sint .i64 (bif (decide (((fgS2F (fT2 s)).2.x.i 0) = (ofN ((fgS2F (fT2 s)).2.len 0)))) then 6 else 0)], [((decide ((-(9223372036854775807 + 1)) ≤ (ofN ((fgS2F (fT2 s)).2.len 0)))) && (decide ((ofN ((fgS2F (fT2 s)).2.len 0)) ≤ 9223372036854775807))), fgS2B (fT2 s), ((decide ((-(9223372036854775807 + 1)) ≤ (ofN (s.len 0)))) && (decide ((ofN (s.len 0)) ≤ 9223372036854775807))), !(!(decide ((asSR (fS2 s)).i 0 = 0))), asSQB (fS2 s)]) := by kernel_rfl

theorem fS2_i (s : SV) (hz : s.x.i 0 = 2) : (asSR (fS2 s)).i 0 = askC s.x (s.len 0) (s.y 0) := by
  rw [asSR_i]
  show askC (fS2 s).x (s.len 0) (s.y 0) = _
  unfold askC
  rw [show badU (fS2 s).x = badZ 2 s.x from by kernel_rfl, badZ_eq hz, show (fS2 s).x.i 0 = 2 from by kernel_rfl, hz]

theorem fT2_f (s : SV) (hz : s.x.i 0 = 2) (hq : asIQB s = true) : (fgS2F (fT2 s)).2.x.i 0 = fgAt s ∧ (fgS2F (fT2 s)).2.len 0 = s.len 0 ∧ fgS2B (fT2 s) = true := by
  obtain ⟨q1, q2⟩ := asIQB_of hq
  have a0 : (fT2 s).x.i 0 = s.len 0 := by kernel_rfl
  have a1 : (fT2 s).len 0 = s.len 0 := by kernel_rfl
  have a2 : (fT2 s).n 0 = s.n 0 := by kernel_rfl
  have a6 : (fT2 s).y 0 = s.y 0 := by kernel_rfl
  have a7 : (fT2 s).x.u 145 = s.x.u 145 := by kernel_rfl
  obtain ⟨_, f, fl⟩ := fgS2_yes (fT2 s) (by omega)
  rw [a0, a6, a7, Int.toNat_natCast] at f
  refine ⟨f.trans ?_, fl.trans a1, fgS2B_to ⟨by omega, by omega, by omega, by omega⟩⟩
  unfold fgAt
  rw [hz]
  refine fstF_congr fun j _ => ?_
  show goodF 2 _ _ _ j = goodF 2 _ _ _ j
  unfold goodF
  rw [gM_congr (z := 2) (f := fun i => szD ((fT2 s).x.u (137 + i)) ((s.y 0).u (8 * j + i))) (g := fun i => szD (s.x.u (137 + i)) ((s.y 0).u (8 * j + i))) fun i hi => by rw [eightI (P := fun i => (fT2 s).x.u (137 + i) = s.x.u (137 + i)) (by kernel_rfl) (by kernel_rfl) (by kernel_rfl) (by kernel_rfl) (by kernel_rfl) (by kernel_rfl) (by kernel_rfl) (by kernel_rfl) i (by omega)]]

noncomputable def fT3 (s : SV) : SV := (mkSV (apl [(.sint .i64 (ofN (s.len 0)))] (apl (fl s.x 1 8) (apl [(.sint .i8 (s.x.i 9))] (apl (fl s.x 10 14) (apl [(.sint .i8 (s.x.i 24))] (apl (fl s.x 25 14) (apl [(.sint .i8 (s.x.i 39))] (apl (fl s.x 40 14) (apl [(.sint .i8 (s.x.i 54))] (apl (fl s.x 55 14) (apl [(.sint .i8 (s.x.i 69))] (apl (fl s.x 70 14) (apl [(.sint .i8 (s.x.i 84))] (apl (fl s.x 85 14) (apl [(.sint .i8 (s.x.i 99))] (apl (fl s.x 100 14) (apl [(.sint .i8 (s.x.i 114))] (apl (fl s.x 115 32) ([(.sint .i16 (s.x.i 147))]))))))))))))))))))) [(s.len 0)] [(s.n 0), 0, 0] [(s.y 0), zeroV, zeroV])
noncomputable def fS3 (s : SV) : SV := (mkSV (apl [(.int .i8 3)] (apl (fl s.x 1 8) (apl [(.sint .i8 (s.x.i 9))] (apl (fl s.x 10 14) (apl [(.sint .i8 (s.x.i 24))] (apl (fl s.x 25 14) (apl [(.sint .i8 (s.x.i 39))] (apl (fl s.x 40 14) (apl [(.sint .i8 (s.x.i 54))] (apl (fl s.x 55 14) (apl [(.sint .i8 (s.x.i 69))] (apl (fl s.x 70 14) (apl [(.sint .i8 (s.x.i 84))] (apl (fl s.x 85 14) (apl [(.sint .i8 (s.x.i 99))] (apl (fl s.x 100 14) (apl [(.sint .i8 (s.x.i 114))] (apl (fl s.x 115 32) ([(.sint .i16 (s.x.i 147))]))))))))))))))))))) [(s.len 0)] [0, 0, (s.n 0)] [zeroV, zeroV, (s.y 0)])

theorem fgS_o3 (s : SV) : funH Try.prog GAasI HfgS3 true 1000 15 (litV 3 (mkVs s 0 0 fAI.vals)) (mkM fAI s) [false] = some (.tup [.sint .i64 (bif (decide (((fgS3F (fT3 s)).2.x.i 0) = (ofN ((fgS3F (fT3 s)).2.len 0)))) then 0 else ((fgS3F (fT3 s)).2.x.i 0)), .sint .i64 (bif (decide (((fgS3F (fT3 s)).2.x.i 0) = (ofN ((fgS3F (fT3 s)).2.len 0)))) then 6 else 0)], [((decide ((-(9223372036854775807 + 1)) ≤ (ofN ((fgS3F (fT3 s)).2.len 0)))) && (decide ((ofN ((fgS3F (fT3 s)).2.len 0)) ≤ 9223372036854775807))), fgS3B (fT3 s), ((decide ((-(9223372036854775807 + 1)) ≤ (ofN (s.len 0)))) && (decide ((ofN (s.len 0)) ≤ 9223372036854775807))), !(!(decide ((asSR (fS3 s)).i 0 = 0))), asSQB (fS3 s)]) := by kernel_rfl

theorem fS3_i (s : SV) (hz : s.x.i 0 = 3) : (asSR (fS3 s)).i 0 = askC s.x (s.len 0) (s.y 0) := by
  rw [asSR_i]
  show askC (fS3 s).x (s.len 0) (s.y 0) = _
  unfold askC
  rw [show badU (fS3 s).x = badZ 3 s.x from by kernel_rfl, badZ_eq hz, show (fS3 s).x.i 0 = 3 from by kernel_rfl, hz]

theorem fT3_f (s : SV) (hz : s.x.i 0 = 3) (hq : asIQB s = true) : (fgS3F (fT3 s)).2.x.i 0 = fgAt s ∧ (fgS3F (fT3 s)).2.len 0 = s.len 0 ∧ fgS3B (fT3 s) = true := by
  obtain ⟨q1, q2⟩ := asIQB_of hq
  have a0 : (fT3 s).x.i 0 = s.len 0 := by kernel_rfl
  have a1 : (fT3 s).len 0 = s.len 0 := by kernel_rfl
  have a2 : (fT3 s).n 0 = s.n 0 := by kernel_rfl
  have a6 : (fT3 s).y 0 = s.y 0 := by kernel_rfl
  have a7 : (fT3 s).x.u 145 = s.x.u 145 := by kernel_rfl
  obtain ⟨_, f, fl⟩ := fgS3_yes (fT3 s) (by omega)
  rw [a0, a6, a7, Int.toNat_natCast] at f
  refine ⟨f.trans ?_, fl.trans a1, fgS3B_to ⟨by omega, by omega, by omega, by omega⟩⟩
  unfold fgAt
  rw [hz]
  refine fstF_congr fun j _ => ?_
  show goodF 3 _ _ _ j = goodF 3 _ _ _ j
  unfold goodF
  rw [gM_congr (z := 3) (f := fun i => szD ((fT3 s).x.u (137 + i)) ((s.y 0).u (8 * j + i))) (g := fun i => szD (s.x.u (137 + i)) ((s.y 0).u (8 * j + i))) fun i hi => by rw [eightI (P := fun i => (fT3 s).x.u (137 + i) = s.x.u (137 + i)) (by kernel_rfl) (by kernel_rfl) (by kernel_rfl) (by kernel_rfl) (by kernel_rfl) (by kernel_rfl) (by kernel_rfl) (by kernel_rfl) i (by omega)]]

noncomputable def fT4 (s : SV) : SV := (mkSV (apl [(.sint .i64 (ofN (s.len 0)))] (apl (fl s.x 1 8) (apl [(.sint .i8 (s.x.i 9))] (apl (fl s.x 10 14) (apl [(.sint .i8 (s.x.i 24))] (apl (fl s.x 25 14) (apl [(.sint .i8 (s.x.i 39))] (apl (fl s.x 40 14) (apl [(.sint .i8 (s.x.i 54))] (apl (fl s.x 55 14) (apl [(.sint .i8 (s.x.i 69))] (apl (fl s.x 70 14) (apl [(.sint .i8 (s.x.i 84))] (apl (fl s.x 85 14) (apl [(.sint .i8 (s.x.i 99))] (apl (fl s.x 100 14) (apl [(.sint .i8 (s.x.i 114))] (apl (fl s.x 115 32) ([(.sint .i16 (s.x.i 147))]))))))))))))))))))) [(s.len 0)] [(s.n 0), 0, 0] [(s.y 0), zeroV, zeroV])
noncomputable def fS4 (s : SV) : SV := (mkSV (apl [(.int .i8 4)] (apl (fl s.x 1 8) (apl [(.sint .i8 (s.x.i 9))] (apl (fl s.x 10 14) (apl [(.sint .i8 (s.x.i 24))] (apl (fl s.x 25 14) (apl [(.sint .i8 (s.x.i 39))] (apl (fl s.x 40 14) (apl [(.sint .i8 (s.x.i 54))] (apl (fl s.x 55 14) (apl [(.sint .i8 (s.x.i 69))] (apl (fl s.x 70 14) (apl [(.sint .i8 (s.x.i 84))] (apl (fl s.x 85 14) (apl [(.sint .i8 (s.x.i 99))] (apl (fl s.x 100 14) (apl [(.sint .i8 (s.x.i 114))] (apl (fl s.x 115 32) ([(.sint .i16 (s.x.i 147))]))))))))))))))))))) [(s.len 0)] [0, 0, (s.n 0)] [zeroV, zeroV, (s.y 0)])

theorem fgS_o4 (s : SV) : funH Try.prog GAasI HfgS4 true 1000 15 (litV 4 (mkVs s 0 0 fAI.vals)) (mkM fAI s) [false] = some (.tup [.sint .i64 (bif (decide (((fgS4F (fT4 s)).2.x.i 0) = (ofN ((fgS4F (fT4 s)).2.len 0)))) then 0 else ((fgS4F (fT4 s)).2.x.i 0)), .sint .i64 (bif (decide (((fgS4F (fT4 s)).2.x.i 0) = (ofN ((fgS4F (fT4 s)).2.len 0)))) then 6 else 0)], [((decide ((-(9223372036854775807 + 1)) ≤ (ofN ((fgS4F (fT4 s)).2.len 0)))) && (decide ((ofN ((fgS4F (fT4 s)).2.len 0)) ≤ 9223372036854775807))), fgS4B (fT4 s), ((decide ((-(9223372036854775807 + 1)) ≤ (ofN (s.len 0)))) && (decide ((ofN (s.len 0)) ≤ 9223372036854775807))), !(!(decide ((asSR (fS4 s)).i 0 = 0))), asSQB (fS4 s)]) := by kernel_rfl

theorem fS4_i (s : SV) (hz : s.x.i 0 = 4) : (asSR (fS4 s)).i 0 = askC s.x (s.len 0) (s.y 0) := by
  rw [asSR_i]
  show askC (fS4 s).x (s.len 0) (s.y 0) = _
  unfold askC
  rw [show badU (fS4 s).x = badZ 4 s.x from by kernel_rfl, badZ_eq hz, show (fS4 s).x.i 0 = 4 from by kernel_rfl, hz]

theorem fT4_f (s : SV) (hz : s.x.i 0 = 4) (hq : asIQB s = true) : (fgS4F (fT4 s)).2.x.i 0 = fgAt s ∧ (fgS4F (fT4 s)).2.len 0 = s.len 0 ∧ fgS4B (fT4 s) = true := by
  obtain ⟨q1, q2⟩ := asIQB_of hq
  have a0 : (fT4 s).x.i 0 = s.len 0 := by kernel_rfl
  have a1 : (fT4 s).len 0 = s.len 0 := by kernel_rfl
  have a2 : (fT4 s).n 0 = s.n 0 := by kernel_rfl
  have a6 : (fT4 s).y 0 = s.y 0 := by kernel_rfl
  have a7 : (fT4 s).x.u 145 = s.x.u 145 := by kernel_rfl
  obtain ⟨_, f, fl⟩ := fgS4_yes (fT4 s) (by omega)
  rw [a0, a6, a7, Int.toNat_natCast] at f
  refine ⟨f.trans ?_, fl.trans a1, fgS4B_to ⟨by omega, by omega, by omega, by omega⟩⟩
  unfold fgAt
  rw [hz]
  refine fstF_congr fun j _ => ?_
  show goodF 4 _ _ _ j = goodF 4 _ _ _ j
  unfold goodF
  rw [gM_congr (z := 4) (f := fun i => szD ((fT4 s).x.u (137 + i)) ((s.y 0).u (8 * j + i))) (g := fun i => szD (s.x.u (137 + i)) ((s.y 0).u (8 * j + i))) fun i hi => by rw [eightI (P := fun i => (fT4 s).x.u (137 + i) = s.x.u (137 + i)) (by kernel_rfl) (by kernel_rfl) (by kernel_rfl) (by kernel_rfl) (by kernel_rfl) (by kernel_rfl) (by kernel_rfl) (by kernel_rfl) i (by omega)]]

noncomputable def fT5 (s : SV) : SV := (mkSV (apl [(.sint .i64 (ofN (s.len 0)))] (apl (fl s.x 1 8) (apl [(.sint .i8 (s.x.i 9))] (apl (fl s.x 10 14) (apl [(.sint .i8 (s.x.i 24))] (apl (fl s.x 25 14) (apl [(.sint .i8 (s.x.i 39))] (apl (fl s.x 40 14) (apl [(.sint .i8 (s.x.i 54))] (apl (fl s.x 55 14) (apl [(.sint .i8 (s.x.i 69))] (apl (fl s.x 70 14) (apl [(.sint .i8 (s.x.i 84))] (apl (fl s.x 85 14) (apl [(.sint .i8 (s.x.i 99))] (apl (fl s.x 100 14) (apl [(.sint .i8 (s.x.i 114))] (apl (fl s.x 115 32) ([(.sint .i16 (s.x.i 147))]))))))))))))))))))) [(s.len 0)] [(s.n 0), 0, 0] [(s.y 0), zeroV, zeroV])
noncomputable def fS5 (s : SV) : SV := (mkSV (apl [(.int .i8 5)] (apl (fl s.x 1 8) (apl [(.sint .i8 (s.x.i 9))] (apl (fl s.x 10 14) (apl [(.sint .i8 (s.x.i 24))] (apl (fl s.x 25 14) (apl [(.sint .i8 (s.x.i 39))] (apl (fl s.x 40 14) (apl [(.sint .i8 (s.x.i 54))] (apl (fl s.x 55 14) (apl [(.sint .i8 (s.x.i 69))] (apl (fl s.x 70 14) (apl [(.sint .i8 (s.x.i 84))] (apl (fl s.x 85 14) (apl [(.sint .i8 (s.x.i 99))] (apl (fl s.x 100 14) (apl [(.sint .i8 (s.x.i 114))] (apl (fl s.x 115 32) ([(.sint .i16 (s.x.i 147))]))))))))))))))))))) [(s.len 0)] [0, 0, (s.n 0)] [zeroV, zeroV, (s.y 0)])

theorem fgS_o5 (s : SV) : funH Try.prog GAasI HfgS5 true 1000 15 (litV 5 (mkVs s 0 0 fAI.vals)) (mkM fAI s) [false] = some (.tup [.sint .i64 (bif (decide (((fgS5F (fT5 s)).2.x.i 0) = (ofN ((fgS5F (fT5 s)).2.len 0)))) then 0 else ((fgS5F (fT5 s)).2.x.i 0)), .sint .i64 (bif (decide (((fgS5F (fT5 s)).2.x.i 0) = (ofN ((fgS5F (fT5 s)).2.len 0)))) then 6 else 0)], [((decide ((-(9223372036854775807 + 1)) ≤ (ofN ((fgS5F (fT5 s)).2.len 0)))) && (decide ((ofN ((fgS5F (fT5 s)).2.len 0)) ≤ 9223372036854775807))), fgS5B (fT5 s), ((decide ((-(9223372036854775807 + 1)) ≤ (ofN (s.len 0)))) && (decide ((ofN (s.len 0)) ≤ 9223372036854775807))), !(!(decide ((asSR (fS5 s)).i 0 = 0))), asSQB (fS5 s)]) := by kernel_rfl

theorem fS5_i (s : SV) (hz : s.x.i 0 = 5) : (asSR (fS5 s)).i 0 = askC s.x (s.len 0) (s.y 0) := by
  rw [asSR_i]
  show askC (fS5 s).x (s.len 0) (s.y 0) = _
  unfold askC
  rw [show badU (fS5 s).x = badZ 5 s.x from by kernel_rfl, badZ_eq hz, show (fS5 s).x.i 0 = 5 from by kernel_rfl, hz]

theorem fT5_f (s : SV) (hz : s.x.i 0 = 5) (hq : asIQB s = true) : (fgS5F (fT5 s)).2.x.i 0 = fgAt s ∧ (fgS5F (fT5 s)).2.len 0 = s.len 0 ∧ fgS5B (fT5 s) = true := by
  obtain ⟨q1, q2⟩ := asIQB_of hq
  have a0 : (fT5 s).x.i 0 = s.len 0 := by kernel_rfl
  have a1 : (fT5 s).len 0 = s.len 0 := by kernel_rfl
  have a2 : (fT5 s).n 0 = s.n 0 := by kernel_rfl
  have a6 : (fT5 s).y 0 = s.y 0 := by kernel_rfl
  have a7 : (fT5 s).x.u 145 = s.x.u 145 := by kernel_rfl
  obtain ⟨_, f, fl⟩ := fgS5_yes (fT5 s) (by omega)
  rw [a0, a6, a7, Int.toNat_natCast] at f
  refine ⟨f.trans ?_, fl.trans a1, fgS5B_to ⟨by omega, by omega, by omega, by omega⟩⟩
  unfold fgAt
  rw [hz]
  refine fstF_congr fun j _ => ?_
  show goodF 5 _ _ _ j = goodF 5 _ _ _ j
  unfold goodF
  rw [gM_congr (z := 5) (f := fun i => szD ((fT5 s).x.u (137 + i)) ((s.y 0).u (8 * j + i))) (g := fun i => szD (s.x.u (137 + i)) ((s.y 0).u (8 * j + i))) fun i hi => by rw [eightI (P := fun i => (fT5 s).x.u (137 + i) = s.x.u (137 + i)) (by kernel_rfl) (by kernel_rfl) (by kernel_rfl) (by kernel_rfl) (by kernel_rfl) (by kernel_rfl) (by kernel_rfl) (by kernel_rfl) i (by omega)]]

noncomputable def fT6 (s : SV) : SV := (mkSV (apl [(.sint .i64 (ofN (s.len 0)))] (apl (fl s.x 1 8) (apl [(.sint .i8 (s.x.i 9))] (apl (fl s.x 10 14) (apl [(.sint .i8 (s.x.i 24))] (apl (fl s.x 25 14) (apl [(.sint .i8 (s.x.i 39))] (apl (fl s.x 40 14) (apl [(.sint .i8 (s.x.i 54))] (apl (fl s.x 55 14) (apl [(.sint .i8 (s.x.i 69))] (apl (fl s.x 70 14) (apl [(.sint .i8 (s.x.i 84))] (apl (fl s.x 85 14) (apl [(.sint .i8 (s.x.i 99))] (apl (fl s.x 100 14) (apl [(.sint .i8 (s.x.i 114))] (apl (fl s.x 115 32) ([(.sint .i16 (s.x.i 147))]))))))))))))))))))) [(s.len 0)] [(s.n 0), 0, 0] [(s.y 0), zeroV, zeroV])
noncomputable def fS6 (s : SV) : SV := (mkSV (apl [(.int .i8 6)] (apl (fl s.x 1 8) (apl [(.sint .i8 (s.x.i 9))] (apl (fl s.x 10 14) (apl [(.sint .i8 (s.x.i 24))] (apl (fl s.x 25 14) (apl [(.sint .i8 (s.x.i 39))] (apl (fl s.x 40 14) (apl [(.sint .i8 (s.x.i 54))] (apl (fl s.x 55 14) (apl [(.sint .i8 (s.x.i 69))] (apl (fl s.x 70 14) (apl [(.sint .i8 (s.x.i 84))] (apl (fl s.x 85 14) (apl [(.sint .i8 (s.x.i 99))] (apl (fl s.x 100 14) (apl [(.sint .i8 (s.x.i 114))] (apl (fl s.x 115 32) ([(.sint .i16 (s.x.i 147))]))))))))))))))))))) [(s.len 0)] [0, 0, (s.n 0)] [zeroV, zeroV, (s.y 0)])

theorem fgS_o6 (s : SV) : funH Try.prog GAasI HfgS6 true 1000 15 (litV 6 (mkVs s 0 0 fAI.vals)) (mkM fAI s) [false] = some (.tup [.sint .i64 (bif (decide (((fgS6F (fT6 s)).2.x.i 0) = (ofN ((fgS6F (fT6 s)).2.len 0)))) then 0 else ((fgS6F (fT6 s)).2.x.i 0)), .sint .i64 (bif (decide (((fgS6F (fT6 s)).2.x.i 0) = (ofN ((fgS6F (fT6 s)).2.len 0)))) then 6 else 0)], [((decide ((-(9223372036854775807 + 1)) ≤ (ofN ((fgS6F (fT6 s)).2.len 0)))) && (decide ((ofN ((fgS6F (fT6 s)).2.len 0)) ≤ 9223372036854775807))), fgS6B (fT6 s), ((decide ((-(9223372036854775807 + 1)) ≤ (ofN (s.len 0)))) && (decide ((ofN (s.len 0)) ≤ 9223372036854775807))), !(!(decide ((asSR (fS6 s)).i 0 = 0))), asSQB (fS6 s)]) := by kernel_rfl

theorem fS6_i (s : SV) (hz : s.x.i 0 = 6) : (asSR (fS6 s)).i 0 = askC s.x (s.len 0) (s.y 0) := by
  rw [asSR_i]
  show askC (fS6 s).x (s.len 0) (s.y 0) = _
  unfold askC
  rw [show badU (fS6 s).x = badZ 6 s.x from by kernel_rfl, badZ_eq hz, show (fS6 s).x.i 0 = 6 from by kernel_rfl, hz]

theorem fT6_f (s : SV) (hz : s.x.i 0 = 6) (hq : asIQB s = true) : (fgS6F (fT6 s)).2.x.i 0 = fgAt s ∧ (fgS6F (fT6 s)).2.len 0 = s.len 0 ∧ fgS6B (fT6 s) = true := by
  obtain ⟨q1, q2⟩ := asIQB_of hq
  have a0 : (fT6 s).x.i 0 = s.len 0 := by kernel_rfl
  have a1 : (fT6 s).len 0 = s.len 0 := by kernel_rfl
  have a2 : (fT6 s).n 0 = s.n 0 := by kernel_rfl
  have a6 : (fT6 s).y 0 = s.y 0 := by kernel_rfl
  have a7 : (fT6 s).x.u 145 = s.x.u 145 := by kernel_rfl
  obtain ⟨_, f, fl⟩ := fgS6_yes (fT6 s) (by omega)
  rw [a0, a6, a7, Int.toNat_natCast] at f
  refine ⟨f.trans ?_, fl.trans a1, fgS6B_to ⟨by omega, by omega, by omega, by omega⟩⟩
  unfold fgAt
  rw [hz]
  refine fstF_congr fun j _ => ?_
  show goodF 6 _ _ _ j = goodF 6 _ _ _ j
  unfold goodF
  rw [gM_congr (z := 6) (f := fun i => szD ((fT6 s).x.u (137 + i)) ((s.y 0).u (8 * j + i))) (g := fun i => szD (s.x.u (137 + i)) ((s.y 0).u (8 * j + i))) fun i hi => by rw [eightI (P := fun i => (fT6 s).x.u (137 + i) = s.x.u (137 + i)) (by kernel_rfl) (by kernel_rfl) (by kernel_rfl) (by kernel_rfl) (by kernel_rfl) (by kernel_rfl) (by kernel_rfl) (by kernel_rfl) i (by omega)]]

noncomputable def fT7 (s : SV) : SV := (mkSV (apl [(.sint .i64 (ofN (s.len 0)))] (apl (fl s.x 1 8) (apl [(.sint .i8 (s.x.i 9))] (apl (fl s.x 10 14) (apl [(.sint .i8 (s.x.i 24))] (apl (fl s.x 25 14) (apl [(.sint .i8 (s.x.i 39))] (apl (fl s.x 40 14) (apl [(.sint .i8 (s.x.i 54))] (apl (fl s.x 55 14) (apl [(.sint .i8 (s.x.i 69))] (apl (fl s.x 70 14) (apl [(.sint .i8 (s.x.i 84))] (apl (fl s.x 85 14) (apl [(.sint .i8 (s.x.i 99))] (apl (fl s.x 100 14) (apl [(.sint .i8 (s.x.i 114))] (apl (fl s.x 115 32) ([(.sint .i16 (s.x.i 147))]))))))))))))))))))) [(s.len 0)] [(s.n 0), 0, 0] [(s.y 0), zeroV, zeroV])
noncomputable def fS7 (s : SV) : SV := (mkSV (apl [(.int .i8 7)] (apl (fl s.x 1 8) (apl [(.sint .i8 (s.x.i 9))] (apl (fl s.x 10 14) (apl [(.sint .i8 (s.x.i 24))] (apl (fl s.x 25 14) (apl [(.sint .i8 (s.x.i 39))] (apl (fl s.x 40 14) (apl [(.sint .i8 (s.x.i 54))] (apl (fl s.x 55 14) (apl [(.sint .i8 (s.x.i 69))] (apl (fl s.x 70 14) (apl [(.sint .i8 (s.x.i 84))] (apl (fl s.x 85 14) (apl [(.sint .i8 (s.x.i 99))] (apl (fl s.x 100 14) (apl [(.sint .i8 (s.x.i 114))] (apl (fl s.x 115 32) ([(.sint .i16 (s.x.i 147))]))))))))))))))))))) [(s.len 0)] [0, 0, (s.n 0)] [zeroV, zeroV, (s.y 0)])

theorem fgS_o7 (s : SV) : funH Try.prog GAasI HfgS7 true 1000 15 (litV 7 (mkVs s 0 0 fAI.vals)) (mkM fAI s) [false] = some (.tup [.sint .i64 (bif (decide (((fgS7F (fT7 s)).2.x.i 0) = (ofN ((fgS7F (fT7 s)).2.len 0)))) then 0 else ((fgS7F (fT7 s)).2.x.i 0)), .sint .i64 (bif (decide (((fgS7F (fT7 s)).2.x.i 0) = (ofN ((fgS7F (fT7 s)).2.len 0)))) then 6 else 0)], [((decide ((-(9223372036854775807 + 1)) ≤ (ofN ((fgS7F (fT7 s)).2.len 0)))) && (decide ((ofN ((fgS7F (fT7 s)).2.len 0)) ≤ 9223372036854775807))), fgS7B (fT7 s), ((decide ((-(9223372036854775807 + 1)) ≤ (ofN (s.len 0)))) && (decide ((ofN (s.len 0)) ≤ 9223372036854775807))), !(!(decide ((asSR (fS7 s)).i 0 = 0))), asSQB (fS7 s)]) := by kernel_rfl

theorem fS7_i (s : SV) (hz : s.x.i 0 = 7) : (asSR (fS7 s)).i 0 = askC s.x (s.len 0) (s.y 0) := by
  rw [asSR_i]
  show askC (fS7 s).x (s.len 0) (s.y 0) = _
  unfold askC
  rw [show badU (fS7 s).x = badZ 7 s.x from by kernel_rfl, badZ_eq hz, show (fS7 s).x.i 0 = 7 from by kernel_rfl, hz]

theorem fT7_f (s : SV) (hz : s.x.i 0 = 7) (hq : asIQB s = true) : (fgS7F (fT7 s)).2.x.i 0 = fgAt s ∧ (fgS7F (fT7 s)).2.len 0 = s.len 0 ∧ fgS7B (fT7 s) = true := by
  obtain ⟨q1, q2⟩ := asIQB_of hq
  have a0 : (fT7 s).x.i 0 = s.len 0 := by kernel_rfl
  have a1 : (fT7 s).len 0 = s.len 0 := by kernel_rfl
  have a2 : (fT7 s).n 0 = s.n 0 := by kernel_rfl
  have a6 : (fT7 s).y 0 = s.y 0 := by kernel_rfl
  have a7 : (fT7 s).x.u 145 = s.x.u 145 := by kernel_rfl
  obtain ⟨_, f, fl⟩ := fgS7_yes (fT7 s) (by omega)
  rw [a0, a6, a7, Int.toNat_natCast] at f
  refine ⟨f.trans ?_, fl.trans a1, fgS7B_to ⟨by omega, by omega, by omega, by omega⟩⟩
  unfold fgAt
  rw [hz]
  refine fstF_congr fun j _ => ?_
  show goodF 7 _ _ _ j = goodF 7 _ _ _ j
  unfold goodF
  rw [gM_congr (z := 7) (f := fun i => szD ((fT7 s).x.u (137 + i)) ((s.y 0).u (8 * j + i))) (g := fun i => szD (s.x.u (137 + i)) ((s.y 0).u (8 * j + i))) fun i hi => by rw [eightI (P := fun i => (fT7 s).x.u (137 + i) = s.x.u (137 + i)) (by kernel_rfl) (by kernel_rfl) (by kernel_rfl) (by kernel_rfl) (by kernel_rfl) (by kernel_rfl) (by kernel_rfl) (by kernel_rfl) i (by omega)]]

noncomputable def fT8 (s : SV) : SV := (mkSV (apl [(.sint .i64 (ofN (s.len 0)))] (apl (fl s.x 1 8) (apl [(.sint .i8 (s.x.i 9))] (apl (fl s.x 10 14) (apl [(.sint .i8 (s.x.i 24))] (apl (fl s.x 25 14) (apl [(.sint .i8 (s.x.i 39))] (apl (fl s.x 40 14) (apl [(.sint .i8 (s.x.i 54))] (apl (fl s.x 55 14) (apl [(.sint .i8 (s.x.i 69))] (apl (fl s.x 70 14) (apl [(.sint .i8 (s.x.i 84))] (apl (fl s.x 85 14) (apl [(.sint .i8 (s.x.i 99))] (apl (fl s.x 100 14) (apl [(.sint .i8 (s.x.i 114))] (apl (fl s.x 115 32) ([(.sint .i16 (s.x.i 147))]))))))))))))))))))) [(s.len 0)] [(s.n 0), 0, 0] [(s.y 0), zeroV, zeroV])
noncomputable def fS8 (s : SV) : SV := (mkSV (apl [(.int .i8 8)] (apl (fl s.x 1 8) (apl [(.sint .i8 (s.x.i 9))] (apl (fl s.x 10 14) (apl [(.sint .i8 (s.x.i 24))] (apl (fl s.x 25 14) (apl [(.sint .i8 (s.x.i 39))] (apl (fl s.x 40 14) (apl [(.sint .i8 (s.x.i 54))] (apl (fl s.x 55 14) (apl [(.sint .i8 (s.x.i 69))] (apl (fl s.x 70 14) (apl [(.sint .i8 (s.x.i 84))] (apl (fl s.x 85 14) (apl [(.sint .i8 (s.x.i 99))] (apl (fl s.x 100 14) (apl [(.sint .i8 (s.x.i 114))] (apl (fl s.x 115 32) ([(.sint .i16 (s.x.i 147))]))))))))))))))))))) [(s.len 0)] [0, 0, (s.n 0)] [zeroV, zeroV, (s.y 0)])

theorem fgS_o8 (s : SV) : funH Try.prog GAasI HfgS8 true 1000 15 (litV 8 (mkVs s 0 0 fAI.vals)) (mkM fAI s) [false] = some (.tup [.sint .i64 (bif (decide (((fgS8F (fT8 s)).2.x.i 0) = (ofN ((fgS8F (fT8 s)).2.len 0)))) then 0 else ((fgS8F (fT8 s)).2.x.i 0)), .sint .i64 (bif (decide (((fgS8F (fT8 s)).2.x.i 0) = (ofN ((fgS8F (fT8 s)).2.len 0)))) then 6 else 0)], [((decide ((-(9223372036854775807 + 1)) ≤ (ofN ((fgS8F (fT8 s)).2.len 0)))) && (decide ((ofN ((fgS8F (fT8 s)).2.len 0)) ≤ 9223372036854775807))), fgS8B (fT8 s), ((decide ((-(9223372036854775807 + 1)) ≤ (ofN (s.len 0)))) && (decide ((ofN (s.len 0)) ≤ 9223372036854775807))), !(!(decide ((asSR (fS8 s)).i 0 = 0))), asSQB (fS8 s)]) := by kernel_rfl

theorem fS8_i (s : SV) (hz : s.x.i 0 = 8) : (asSR (fS8 s)).i 0 = askC s.x (s.len 0) (s.y 0) := by
  rw [asSR_i]
  show askC (fS8 s).x (s.len 0) (s.y 0) = _
  unfold askC
  rw [show badU (fS8 s).x = badZ 8 s.x from by kernel_rfl, badZ_eq hz, show (fS8 s).x.i 0 = 8 from by kernel_rfl, hz]

theorem fT8_f (s : SV) (hz : s.x.i 0 = 8) (hq : asIQB s = true) : (fgS8F (fT8 s)).2.x.i 0 = fgAt s ∧ (fgS8F (fT8 s)).2.len 0 = s.len 0 ∧ fgS8B (fT8 s) = true := by
  obtain ⟨q1, q2⟩ := asIQB_of hq
  have a0 : (fT8 s).x.i 0 = s.len 0 := by kernel_rfl
  have a1 : (fT8 s).len 0 = s.len 0 := by kernel_rfl
  have a2 : (fT8 s).n 0 = s.n 0 := by kernel_rfl
  have a6 : (fT8 s).y 0 = s.y 0 := by kernel_rfl
  have a7 : (fT8 s).x.u 145 = s.x.u 145 := by kernel_rfl
  obtain ⟨_, f, fl⟩ := fgS8_yes (fT8 s) (by omega)
  rw [a0, a6, a7, Int.toNat_natCast] at f
  refine ⟨f.trans ?_, fl.trans a1, fgS8B_to ⟨by omega, by omega, by omega, by omega⟩⟩
  unfold fgAt
  rw [hz]
  refine fstF_congr fun j _ => ?_
  show goodF 8 _ _ _ j = goodF 8 _ _ _ j
  unfold goodF
  rw [gM_congr (z := 8) (f := fun i => szD ((fT8 s).x.u (137 + i)) ((s.y 0).u (8 * j + i))) (g := fun i => szD (s.x.u (137 + i)) ((s.y 0).u (8 * j + i))) fun i hi => by rw [eightI (P := fun i => (fT8 s).x.u (137 + i) = s.x.u (137 + i)) (by kernel_rfl) (by kernel_rfl) (by kernel_rfl) (by kernel_rfl) (by kernel_rfl) (by kernel_rfl) (by kernel_rfl) (by kernel_rfl) i (by omega)]]

noncomputable def GF1 : Summ := addG 15 (sumQ fAI [.sc (.int .i64), .sc (.int .i64)] fgPre fgR) GAasI

set_option maxRecDepth 100000 in
theorem GF1_ok : SoundG Try.prog GF1 := by
  unfold GF1
  rw [fgR_eq]
  refine SoundG.sumQN GAasI_ok mixed Try.call15 GAasI_ok (by decide) fun s hp => ?_
  have hq : asIQB s = true := hp _ (List.mem_cons_self ..)
  have hl := (asIQB_of hq).1
  cases hn : gNe s with
  | true =>
    have e := fS0_i s
    exact ⟨noLT, true, 1000, [true], _, _, _, _, (fun _ _ h => h), SameN.refl _, HFun.none Try.prog _ 15, fgS_e s, fg_v (fgV_e hn) (e.trans (fgC_e hn)), rfl, rfl, allC (by rw [e]; exact hn) (allC (asSQB_to (asIQB_of hq)) allN)⟩
  | false =>
    have hr := badU_rng (askC_ok (gNe_0 hn)).1
    have hc : s.x.i 0 = 1 ∨ s.x.i 0 = 2 ∨ s.x.i 0 = 3 ∨ s.x.i 0 = 4 ∨ s.x.i 0 = 5 ∨ s.x.i 0 = 6 ∨ s.x.i 0 = 7 ∨ s.x.i 0 = 8 := by omega
    rcases hc with hz | hz | hz | hz | hz | hz | hz | hz
    · obtain ⟨e1, e2, e3⟩ := fT1_f s hz hq
      have ea := fS1_i s hz
      have eo := fg_o hn e1 e2
      exact ⟨HfgS1, true, 1000, [false], _, _, _, _, (fun _ _ h => vals_lit hz ((show mkVs s 0 0 fAI.vals = .agg (.sint .i8 (s.x.i 0) :: mkL s.x 1 (kd2).tail) :: mkVs s 129 0 (fAI.vals.tail) from by kernel_rfl) ▸ h)), SameN.refl _, HfgS1_ok, fgS_o1 s, fg_v eo.1 eo.2, rfl, rfl, allC (bd_ok (by omega)) (allC e3 (allC (bd_ok (by omega)) (allC (by rw [ea, gNe_0 hn]; rfl) (allC (asSQB_to (asIQB_of hq)) allN))))⟩
    · obtain ⟨e1, e2, e3⟩ := fT2_f s hz hq
      have ea := fS2_i s hz
      have eo := fg_o hn e1 e2
      exact ⟨HfgS2, true, 1000, [false], _, _, _, _, (fun _ _ h => vals_lit hz ((show mkVs s 0 0 fAI.vals = .agg (.sint .i8 (s.x.i 0) :: mkL s.x 1 (kd2).tail) :: mkVs s 129 0 (fAI.vals.tail) from by kernel_rfl) ▸ h)), SameN.refl _, HfgS2_ok, fgS_o2 s, fg_v eo.1 eo.2, rfl, rfl, allC (bd_ok (by omega)) (allC e3 (allC (bd_ok (by omega)) (allC (by rw [ea, gNe_0 hn]; rfl) (allC (asSQB_to (asIQB_of hq)) allN))))⟩
    · obtain ⟨e1, e2, e3⟩ := fT3_f s hz hq
      have ea := fS3_i s hz
      have eo := fg_o hn e1 e2
      exact ⟨HfgS3, true, 1000, [false], _, _, _, _, (fun _ _ h => vals_lit hz ((show mkVs s 0 0 fAI.vals = .agg (.sint .i8 (s.x.i 0) :: mkL s.x 1 (kd2).tail) :: mkVs s 129 0 (fAI.vals.tail) from by kernel_rfl) ▸ h)), SameN.refl _, HfgS3_ok, fgS_o3 s, fg_v eo.1 eo.2, rfl, rfl, allC (bd_ok (by omega)) (allC e3 (allC (bd_ok (by omega)) (allC (by rw [ea, gNe_0 hn]; rfl) (allC (asSQB_to (asIQB_of hq)) allN))))⟩
    · obtain ⟨e1, e2, e3⟩ := fT4_f s hz hq
      have ea := fS4_i s hz
      have eo := fg_o hn e1 e2
      exact ⟨HfgS4, true, 1000, [false], _, _, _, _, (fun _ _ h => vals_lit hz ((show mkVs s 0 0 fAI.vals = .agg (.sint .i8 (s.x.i 0) :: mkL s.x 1 (kd2).tail) :: mkVs s 129 0 (fAI.vals.tail) from by kernel_rfl) ▸ h)), SameN.refl _, HfgS4_ok, fgS_o4 s, fg_v eo.1 eo.2, rfl, rfl, allC (bd_ok (by omega)) (allC e3 (allC (bd_ok (by omega)) (allC (by rw [ea, gNe_0 hn]; rfl) (allC (asSQB_to (asIQB_of hq)) allN))))⟩
    · obtain ⟨e1, e2, e3⟩ := fT5_f s hz hq
      have ea := fS5_i s hz
      have eo := fg_o hn e1 e2
      exact ⟨HfgS5, true, 1000, [false], _, _, _, _, (fun _ _ h => vals_lit hz ((show mkVs s 0 0 fAI.vals = .agg (.sint .i8 (s.x.i 0) :: mkL s.x 1 (kd2).tail) :: mkVs s 129 0 (fAI.vals.tail) from by kernel_rfl) ▸ h)), SameN.refl _, HfgS5_ok, fgS_o5 s, fg_v eo.1 eo.2, rfl, rfl, allC (bd_ok (by omega)) (allC e3 (allC (bd_ok (by omega)) (allC (by rw [ea, gNe_0 hn]; rfl) (allC (asSQB_to (asIQB_of hq)) allN))))⟩
    · obtain ⟨e1, e2, e3⟩ := fT6_f s hz hq
      have ea := fS6_i s hz
      have eo := fg_o hn e1 e2
      exact ⟨HfgS6, true, 1000, [false], _, _, _, _, (fun _ _ h => vals_lit hz ((show mkVs s 0 0 fAI.vals = .agg (.sint .i8 (s.x.i 0) :: mkL s.x 1 (kd2).tail) :: mkVs s 129 0 (fAI.vals.tail) from by kernel_rfl) ▸ h)), SameN.refl _, HfgS6_ok, fgS_o6 s, fg_v eo.1 eo.2, rfl, rfl, allC (bd_ok (by omega)) (allC e3 (allC (bd_ok (by omega)) (allC (by rw [ea, gNe_0 hn]; rfl) (allC (asSQB_to (asIQB_of hq)) allN))))⟩
    · obtain ⟨e1, e2, e3⟩ := fT7_f s hz hq
      have ea := fS7_i s hz
      have eo := fg_o hn e1 e2
      exact ⟨HfgS7, true, 1000, [false], _, _, _, _, (fun _ _ h => vals_lit hz ((show mkVs s 0 0 fAI.vals = .agg (.sint .i8 (s.x.i 0) :: mkL s.x 1 (kd2).tail) :: mkVs s 129 0 (fAI.vals.tail) from by kernel_rfl) ▸ h)), SameN.refl _, HfgS7_ok, fgS_o7 s, fg_v eo.1 eo.2, rfl, rfl, allC (bd_ok (by omega)) (allC e3 (allC (bd_ok (by omega)) (allC (by rw [ea, gNe_0 hn]; rfl) (allC (asSQB_to (asIQB_of hq)) allN))))⟩
    · obtain ⟨e1, e2, e3⟩ := fT8_f s hz hq
      have ea := fS8_i s hz
      have eo := fg_o hn e1 e2
      exact ⟨HfgS8, true, 1000, [false], _, _, _, _, (fun _ _ h => vals_lit hz ((show mkVs s 0 0 fAI.vals = .agg (.sint .i8 (s.x.i 0) :: mkL s.x 1 (kd2).tail) :: mkVs s 129 0 (fAI.vals.tail) from by kernel_rfl) ▸ h)), SameN.refl _, HfgS8_ok, fgS_o8 s, fg_v eo.1 eo.2, rfl, rfl, allC (bd_ok (by omega)) (allC e3 (allC (bd_ok (by omega)) (allC (by rw [ea, gNe_0 hn]; rfl) (allC (asSQB_to (asIQB_of hq)) allN))))⟩

theorem fgI_e (s : SV) : funH Try.prog GGE noLT true 1000 16 (mkVs s 0 0 fAI.vals) (mkM fAI s) [true] = some (.tup [.int .i64 0, .sint .i64 ((goodER (gS0 s)).x.i 0)], [!(decide ((goodER (gS0 s)).x.i 0 = 0)), asIQB (gS0 s), gNe (gS0 s)]) := by kernel_rfl

noncomputable def fI (s : SV) : SV := (mkSV [(.sint .i64 (ofN ((goodOR (gS0 s)).len 0)))] [((goodOR (gS0 s)).len 0)] [(s.n 0), ((goodOR (gS0 s)).n 1)] [(s.y 0), ((goodOR (gS0 s)).y 1)])

theorem fgI_o (s : SV) : funH Try.prog GGO HfgI true 1000 16 (mkVs s 0 0 fAI.vals) (mkM fAI s) [false] = some (.tup [.sint .i64 (bif (decide (((fgIF (fI s)).2.x.i 0) = (ofN ((fgIF (fI s)).2.len 0)))) then 0 else ((fgIF (fI s)).2.x.i 0)), .sint .i64 (bif (decide (((fgIF (fI s)).2.x.i 0) = (ofN ((fgIF (fI s)).2.len 0)))) then 6 else 0)], [((decide ((-(9223372036854775807 + 1)) ≤ (ofN ((fgIF (fI s)).2.len 0)))) && (decide ((ofN ((fgIF (fI s)).2.len 0)) ≤ 9223372036854775807))), fgIB (fI s), ((decide ((-(9223372036854775807 + 1)) ≤ (ofN ((goodOR (gS0 s)).len 0)))) && (decide ((ofN ((goodOR (gS0 s)).len 0)) ≤ 9223372036854775807))), !(!(decide ((goodOR (gS0 s)).x.i 0 = 0))), asIQB (gS0 s), !(gNe (gS0 s))]) := by kernel_rfl

noncomputable def GF2 : Summ := addG 16 (sumQ fAI [.sc (.int .i64), .sc (.int .i64)] fgPre fgR) GF1

theorem fI_f (s : SV) (hq : asIQB s = true) (hn : gNe s = false) : (fgIF (fI s)).2.x.i 0 = fgAt s ∧ (fgIF (fI s)).2.len 0 = s.len 0 ∧ fgIB (fI s) = true ∧ (goodOR (gS0 s)).len 0 = s.len 0 ∧ (goodOR (gS0 s)).x.i 0 = 0 := by
  have h0 := gNe_0 hn
  have hr := badU_rng (askC_ok h0).1
  obtain ⟨f1, f2, f3, f4, f5, f6⟩ := goodOR_f (gS0 s) (gQ s hq) ((show askC (gS0 s).x ((gS0 s).len 0) ((gS0 s).y 0) = askC s.x (s.len 0) (s.y 0) from by kernel_rfl).trans h0)
  have b1 : (gS0 s).len 0 = s.len 0 := by kernel_rfl
  have b2 : (gS0 s).x.i 0 = s.x.i 0 := by kernel_rfl
  have b3 : (gS0 s).y 0 = s.y 0 := by kernel_rfl
  have b4 : (gS0 s).x.u 145 = s.x.u 145 := by kernel_rfl
  rw [b1] at f1 f2 f3
  rw [b2, b3, b4] at f2
  obtain ⟨q1, q2⟩ := asIQB_of hq
  have a0 : (fI s).x.i 0 = ofN ((goodOR (gS0 s)).len 0) := by kernel_rfl
  have a1 : (fI s).len 0 = (goodOR (gS0 s)).len 0 := by kernel_rfl
  have a4 : (fI s).y 1 = (goodOR (gS0 s)).y 1 := by kernel_rfl
  have a6 : (fI s).n 1 = (goodOR (gS0 s)).n 1 := by kernel_rfl
  unfold ofN at a0
  obtain ⟨_, c1, c2⟩ := fgI_yes (fI s) (by omega)
  rw [a0, a4, f1, Int.toNat_natCast] at c1
  refine ⟨c1.trans ?_, c2.trans (a1.trans f1), fgIB_to ⟨by omega, by omega, by omega, by omega⟩, f1, f6⟩
  unfold fgAt
  refine fstF_congr fun j hj => ?_
  refine (f2 j hj).trans ?_
  unfold goodF
  rw [gM_congr (z := (s.x.i 0).toNat) (f := fun i => szD ((gS0 s).x.u (137 + i)) ((s.y 0).u (8 * j + i))) (g := fun i => szD (s.x.u (137 + i)) ((s.y 0).u (8 * j + i))) fun i hi => by rw [eightI (P := fun i => (gS0 s).x.u (137 + i) = s.x.u (137 + i)) (by kernel_rfl) (by kernel_rfl) (by kernel_rfl) (by kernel_rfl) (by kernel_rfl) (by kernel_rfl) (by kernel_rfl) (by kernel_rfl) i (by omega)]]

theorem goodER_i (s : SV) : (goodER s).x.i 0 = askC s.x (s.len 0) (s.y 0) := by rw [goodER_eq]; rfl

theorem GF2_ok : SoundG Try.prog GF2 := by
  unfold GF2
  rw [fgR_eq]
  refine SoundG.sumQM GF1_ok mixed Try.call16 (by decide) fun s hp => ?_
  have hq : asIQB s = true := hp _ (List.mem_cons_self ..)
  have hl := (asIQB_of hq).1
  cases hn : gNe s with
  | true =>
    have e : (goodER (gS0 s)).x.i 0 = askC s.x (s.len 0) (s.y 0) := (goodER_i _).trans (show askC (gS0 s).x ((gS0 s).len 0) ((gS0 s).y 0) = askC s.x (s.len 0) (s.y 0) from by kernel_rfl)
    refine ⟨GGE, noLT, true, 1000, [true], _, _, GGE_ok, HFun.none Try.prog _ 16, fgI_e s, fg_v (fgV_e hn) (e.trans (fgC_e hn)), rfl, rfl, allC (by rw [e]; exact hn) (allC (gQ s hq) (allC ((gS0_ne s).trans hn) allN))⟩
  | false =>
    obtain ⟨e1, e2, e3, e4, e5⟩ := fI_f s hq hn
    have eo := fg_o hn e1 e2
    refine ⟨GGO, HfgI, true, 1000, [false], _, _, GGO_ok, HfgI_ok, fgI_o s, fg_v eo.1 eo.2, rfl, rfl, allC (bd_ok (by omega)) (allC e3 (allC (bd_ok (by omega)) (allC (by rw [e5]; rfl) (allC (gQ s hq) (allC (by rw [gS0_ne, hn]; rfl) allN)))))⟩

end Go.Proofs.Ytagkkkplmilkhaa

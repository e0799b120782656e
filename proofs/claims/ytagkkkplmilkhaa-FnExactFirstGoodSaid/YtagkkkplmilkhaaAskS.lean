/-
  Facts of this seat that its laws use; no conditions.
-/
import Derived.Test.YtagkkkplmilkhaaAsk
namespace Go.Proofs.Ytagkkkplmilkhaa
open Go.Sim Go.ChangeShapes Go.WideShapes Go.ChangeAt Go.RowKit

def litM (z : Int) : Mem → Mem
  | some (.lit c r) :: t => some (.lit (litL c 0 z) r) :: t
  | m => m
def litV (z : Int) : List AV → List AV
  | .agg l :: r => .agg (litL l 0 z) :: r
  | l => l

def fAS : Frm := ⟨[.ptr 0 0, .ptr 1 0, .ssl 2 0 8], [.lit (.sc (.int .i8) :: uT) false, .lit sC false, .sym (.flt .f32) false]⟩
def fAI : Frm := ⟨[.ag [(.int .i8), (.flt .f32), (.flt .f32), (.flt .f32), (.flt .f32), (.flt .f32), (.flt .f32), (.flt .f32), (.flt .f32), (.int .i8), (.flt .f32), (.flt .f32), (.flt .f32), (.flt .f32), (.flt .f32), (.flt .f32), (.flt .f32), (.flt .f32), (.flt .f32), (.flt .f32), (.flt .f32), (.flt .f32), (.flt .f32), (.flt .f32), (.int .i8), (.flt .f32), (.flt .f32), (.flt .f32), (.flt .f32), (.flt .f32), (.flt .f32), (.flt .f32), (.flt .f32), (.flt .f32), (.flt .f32), (.flt .f32), (.flt .f32), (.flt .f32), (.flt .f32), (.int .i8), (.flt .f32), (.flt .f32), (.flt .f32), (.flt .f32), (.flt .f32), (.flt .f32), (.flt .f32), (.flt .f32), (.flt .f32), (.flt .f32), (.flt .f32), (.flt .f32), (.flt .f32), (.flt .f32), (.int .i8), (.flt .f32), (.flt .f32), (.flt .f32), (.flt .f32), (.flt .f32), (.flt .f32), (.flt .f32), (.flt .f32), (.flt .f32), (.flt .f32), (.flt .f32), (.flt .f32), (.flt .f32), (.flt .f32), (.int .i8), (.flt .f32), (.flt .f32), (.flt .f32), (.flt .f32), (.flt .f32), (.flt .f32), (.flt .f32), (.flt .f32), (.flt .f32), (.flt .f32), (.flt .f32), (.flt .f32), (.flt .f32), (.flt .f32), (.int .i8), (.flt .f32), (.flt .f32), (.flt .f32), (.flt .f32), (.flt .f32), (.flt .f32), (.flt .f32), (.flt .f32), (.flt .f32), (.flt .f32), (.flt .f32), (.flt .f32), (.flt .f32), (.flt .f32), (.int .i8), (.flt .f32), (.flt .f32), (.flt .f32), (.flt .f32), (.flt .f32), (.flt .f32), (.flt .f32), (.flt .f32), (.flt .f32), (.flt .f32), (.flt .f32), (.flt .f32), (.flt .f32), (.flt .f32), (.int .i8), (.flt .f32), (.flt .f32), (.flt .f32), (.flt .f32), (.flt .f32), (.flt .f32), (.flt .f32), (.flt .f32), (.flt .f32), (.flt .f32), (.flt .f32), (.flt .f32), (.flt .f32), (.flt .f32)], .ag [(.flt .f32), (.flt .f32), (.flt .f32), (.flt .f32), (.flt .f32), (.flt .f32), (.flt .f32), (.flt .f32), (.flt .f32), (.flt .f32), (.flt .f32), (.flt .f32), (.flt .f32), (.flt .f32), (.flt .f32), (.flt .f32), (.flt .f32), (.flt .f32), (.int .i16)], .ssl 0 0 8], [.sym (.flt .f32) false]⟩

theorem litM_same {z : Int} {c : List AV} {r : Bool} {t : Mem} (h : ∀ k m, c[0]? = some (.sint k m) → m = z) : SameN (litM z (some (.lit c r) :: t)) (some (.lit c r) :: t) := by
  show List.map _ (some (Blk.lit (litL c 0 z) r) :: t) = List.map _ (some (Blk.lit c r) :: t)
  simp only [List.map_cons, Option.map_some, Blk.norm, litL_norm h]

/-- Whether every row is as told. -/
noncomputable def allOk (z len : Nat) (y : Vars) : Bool := @decide (∀ j : Nat, j < len → rowOk z y j = true) (Classical.propDecidable _)

theorem allOk_yes {z len : Nat} {y : Vars} (h : ∀ j : Nat, j < len → rowOk z y j = true) : allOk z len y = true := @decide_eq_true _ (Classical.propDecidable _) h
theorem allOk_no {z len : Nat} {y : Vars} (h : ¬ ∀ j : Nat, j < len → rowOk z y j = true) : allOk z len y = false := @decide_eq_false _ (Classical.propDecidable _) h
theorem allOk_of {z len : Nat} {y : Vars} (h : allOk z len y = true) : ∀ j : Nat, j < len → rowOk z y j = true := @of_decide_eq_true _ (Classical.propDecidable _) h

noncomputable def ssB (x : Vars) : Bool := (validSettingR (mkL x 129 kd4)).b 0
noncomputable def badU (x : Vars) : Bool := (!((validUnitR (mkL x 0 kd2)).b 0)) || (!(ssB x))
noncomputable def badZ (z : Int) (x : Vars) : Bool := (!((validUnitR (.sint .i8 z :: mkL x 1 (kd2).tail)).b 0)) || (!(ssB x))

theorem badZ_eq {z : Int} {x : Vars} (h : x.i 0 = z) : badZ z x = badU x := by
  subst h
  kernel_rfl

theorem badU_rng {x : Vars} (h : badU x = false) : 1 ≤ x.i 0 ∧ x.i 0 ≤ 8 := by
  unfold badU at h
  rw [Bool.or_eq_false_iff] at h
  have v := notBF h.1
  have F := validUnit_rng x ((show (validUnitR (mkL x 0 (kdsP [.val (.ag kd2)]))).b 0 = (validUnitR (mkL x 0 kd2)).b 0 from by kernel_rfl).trans v)
  exact ⟨F.1, F.2.1⟩

/-- What is asked of a unit, a setting and rows. -/
noncomputable def askC (x : Vars) (len : Nat) (y : Vars) : Int := bif badU x then 1 else bif allOk (x.i 0).toNat len y then 0 else 2

theorem vals_lit {β : BM} {z : Int} {k : IntKind} {m : Int} {l r : List AV} {cargs : List Value} (hz : m = z) (h : VRs β (.agg (.sint k m :: l) :: r) cargs) : VRs β (litV z (.agg (.sint k m :: l) :: r)) cargs := VRs_lit hz h

def asSQP (s : SV) : Prop := s.len 0 ≤ 1048576 ∧ s.n 2 = 8 * s.len 0

noncomputable def asSQB (s : SV) : Bool := @decide (asSQP s) (Classical.propDecidable _)
theorem asSQB_of {s : SV} (h : asSQB s = true) : asSQP s := @of_decide_eq_true _ (Classical.propDecidable _) h
theorem asSQB_to {s : SV} (h : asSQP s) : asSQB s = true := @decide_eq_true _ (Classical.propDecidable _) h

noncomputable def asSQPre (s : SV) : List Bool := [asSQB s]

noncomputable def asSR0 (s : SV) : Vars := varsOf [.sint .i64 (askC s.x (s.len 0) (s.y 2))]

noncomputable def asSR : SV → Vars := Classical.choose (⟨asSR0, rfl⟩ : ∃ f, f = asSR0)

theorem asSR_eq : asSR = asSR0 := Classical.choose_spec (⟨asSR0, rfl⟩ : ∃ f, f = asSR0)

theorem asS_bad (s : SV) : funH Try.prog G30 noLT true 1000 53 (mkVs s 0 0 fAS.vals) (mkM fAS s) [true] = some (.int .i64 1, [badU s.x]) := by kernel_rfl

noncomputable def asS1S (s : SV) : SV := (mkSV (apl [(.int .i64 0)] (apl (fl s.x 1 8) (apl [(.sint .i8 (s.x.i 9))] (apl (fl s.x 10 14) (apl [(.sint .i8 (s.x.i 24))] (apl (fl s.x 25 14) (apl [(.sint .i8 (s.x.i 39))] (apl (fl s.x 40 14) (apl [(.sint .i8 (s.x.i 54))] (apl (fl s.x 55 14) (apl [(.sint .i8 (s.x.i 69))] (apl (fl s.x 70 14) (apl [(.sint .i8 (s.x.i 84))] (apl (fl s.x 85 14) (apl [(.sint .i8 (s.x.i 99))] (apl (fl s.x 100 14) (apl [(.sint .i8 (s.x.i 114))] (apl (fl s.x 115 32) ([(.sint .i16 (s.x.i 147))]))))))))))))))))))) [(s.len 0)] [0, 0, (s.n 2)] [zeroV, zeroV, (s.y 2)])

theorem asS1_e (s : SV) : funH Try.prog G30 HasS1 true 1000 53 (mkVs s 0 0 fAS.vals) (litM 1 (mkM fAS s)) [false] = some (.sint .i64 (bif Nat.beq (asS1F (asS1S s)).1 0 then 0 else 2), [asS1B (asS1S s), !(badZ 1 s.x)]) := by kernel_rfl

theorem asS1_v (s : SV) (hq : asSQP s) (hz : s.x.i 0 = 1) (hb : badU s.x = false) : (bif Nat.beq (asS1F (asS1S s)).1 0 then 0 else 2 : Int) = askC s.x (s.len 0) (s.y 2) ∧ asS1B (asS1S s) = true ∧ (!(badZ 1 s.x)) = true := by
  have a0 : (asS1S s).x.i 0 = 0 := by kernel_rfl
  have a1 : (asS1S s).len 0 = s.len 0 := by kernel_rfl
  have a2 : (asS1S s).y 2 = s.y 2 := by kernel_rfl
  have a3 : (asS1S s).n 2 = s.n 2 := by kernel_rfl
  obtain ⟨q1, q2⟩ := hq
  obtain ⟨y1, y2⟩ := asS1_yes (asS1S s) (by omega) (by omega)
  rw [a0, a1, a2] at y1 y2
  refine ⟨?_, asS1B_to ⟨by omega, by omega, by omega, by omega⟩, ?_⟩
  · unfold askC
    rw [hb, hz]
    by_cases ha : ∀ j : Nat, j < s.len 0 → rowOk 1 (s.y 2) j = true
    · rw [y1 fun j _ hj => ha j (by omega), show (1 : Int).toNat = 1 from rfl, allOk_yes ha]
      rfl
    · rw [y2 fun h => ha fun j hj => h j (by omega) (by omega), show (1 : Int).toNat = 1 from rfl, allOk_no ha]
      rfl
  · rw [badZ_eq hz, hb]
    rfl

noncomputable def asS2S (s : SV) : SV := (mkSV (apl [(.int .i64 0)] (apl (fl s.x 1 8) (apl [(.sint .i8 (s.x.i 9))] (apl (fl s.x 10 14) (apl [(.sint .i8 (s.x.i 24))] (apl (fl s.x 25 14) (apl [(.sint .i8 (s.x.i 39))] (apl (fl s.x 40 14) (apl [(.sint .i8 (s.x.i 54))] (apl (fl s.x 55 14) (apl [(.sint .i8 (s.x.i 69))] (apl (fl s.x 70 14) (apl [(.sint .i8 (s.x.i 84))] (apl (fl s.x 85 14) (apl [(.sint .i8 (s.x.i 99))] (apl (fl s.x 100 14) (apl [(.sint .i8 (s.x.i 114))] (apl (fl s.x 115 32) ([(.sint .i16 (s.x.i 147))]))))))))))))))))))) [(s.len 0)] [0, 0, (s.n 2)] [zeroV, zeroV, (s.y 2)])

theorem asS2_e (s : SV) : funH Try.prog G30 HasS2 true 1000 53 (mkVs s 0 0 fAS.vals) (litM 2 (mkM fAS s)) [false] = some (.sint .i64 (bif Nat.beq (asS2F (asS2S s)).1 0 then 0 else 2), [asS2B (asS2S s), !(badZ 2 s.x)]) := by kernel_rfl

theorem asS2_v (s : SV) (hq : asSQP s) (hz : s.x.i 0 = 2) (hb : badU s.x = false) : (bif Nat.beq (asS2F (asS2S s)).1 0 then 0 else 2 : Int) = askC s.x (s.len 0) (s.y 2) ∧ asS2B (asS2S s) = true ∧ (!(badZ 2 s.x)) = true := by
  have a0 : (asS2S s).x.i 0 = 0 := by kernel_rfl
  have a1 : (asS2S s).len 0 = s.len 0 := by kernel_rfl
  have a2 : (asS2S s).y 2 = s.y 2 := by kernel_rfl
  have a3 : (asS2S s).n 2 = s.n 2 := by kernel_rfl
  obtain ⟨q1, q2⟩ := hq
  obtain ⟨y1, y2⟩ := asS2_yes (asS2S s) (by omega) (by omega)
  rw [a0, a1, a2] at y1 y2
  refine ⟨?_, asS2B_to ⟨by omega, by omega, by omega, by omega⟩, ?_⟩
  · unfold askC
    rw [hb, hz]
    by_cases ha : ∀ j : Nat, j < s.len 0 → rowOk 2 (s.y 2) j = true
    · rw [y1 fun j _ hj => ha j (by omega), show (2 : Int).toNat = 2 from rfl, allOk_yes ha]
      rfl
    · rw [y2 fun h => ha fun j hj => h j (by omega) (by omega), show (2 : Int).toNat = 2 from rfl, allOk_no ha]
      rfl
  · rw [badZ_eq hz, hb]
    rfl

noncomputable def asS3S (s : SV) : SV := (mkSV (apl [(.int .i64 0)] (apl (fl s.x 1 8) (apl [(.sint .i8 (s.x.i 9))] (apl (fl s.x 10 14) (apl [(.sint .i8 (s.x.i 24))] (apl (fl s.x 25 14) (apl [(.sint .i8 (s.x.i 39))] (apl (fl s.x 40 14) (apl [(.sint .i8 (s.x.i 54))] (apl (fl s.x 55 14) (apl [(.sint .i8 (s.x.i 69))] (apl (fl s.x 70 14) (apl [(.sint .i8 (s.x.i 84))] (apl (fl s.x 85 14) (apl [(.sint .i8 (s.x.i 99))] (apl (fl s.x 100 14) (apl [(.sint .i8 (s.x.i 114))] (apl (fl s.x 115 32) ([(.sint .i16 (s.x.i 147))]))))))))))))))))))) [(s.len 0)] [0, 0, (s.n 2)] [zeroV, zeroV, (s.y 2)])

theorem asS3_e (s : SV) : funH Try.prog G30 HasS3 true 1000 53 (mkVs s 0 0 fAS.vals) (litM 3 (mkM fAS s)) [false] = some (.sint .i64 (bif Nat.beq (asS3F (asS3S s)).1 0 then 0 else 2), [asS3B (asS3S s), !(badZ 3 s.x)]) := by kernel_rfl

theorem asS3_v (s : SV) (hq : asSQP s) (hz : s.x.i 0 = 3) (hb : badU s.x = false) : (bif Nat.beq (asS3F (asS3S s)).1 0 then 0 else 2 : Int) = askC s.x (s.len 0) (s.y 2) ∧ asS3B (asS3S s) = true ∧ (!(badZ 3 s.x)) = true := by
  have a0 : (asS3S s).x.i 0 = 0 := by kernel_rfl
  have a1 : (asS3S s).len 0 = s.len 0 := by kernel_rfl
  have a2 : (asS3S s).y 2 = s.y 2 := by kernel_rfl
  have a3 : (asS3S s).n 2 = s.n 2 := by kernel_rfl
  obtain ⟨q1, q2⟩ := hq
  obtain ⟨y1, y2⟩ := asS3_yes (asS3S s) (by omega) (by omega)
  rw [a0, a1, a2] at y1 y2
  refine ⟨?_, asS3B_to ⟨by omega, by omega, by omega, by omega⟩, ?_⟩
  · unfold askC
    rw [hb, hz]
    by_cases ha : ∀ j : Nat, j < s.len 0 → rowOk 3 (s.y 2) j = true
    · rw [y1 fun j _ hj => ha j (by omega), show (3 : Int).toNat = 3 from rfl, allOk_yes ha]
      rfl
    · rw [y2 fun h => ha fun j hj => h j (by omega) (by omega), show (3 : Int).toNat = 3 from rfl, allOk_no ha]
      rfl
  · rw [badZ_eq hz, hb]
    rfl

noncomputable def asS4S (s : SV) : SV := (mkSV (apl [(.int .i64 0)] (apl (fl s.x 1 8) (apl [(.sint .i8 (s.x.i 9))] (apl (fl s.x 10 14) (apl [(.sint .i8 (s.x.i 24))] (apl (fl s.x 25 14) (apl [(.sint .i8 (s.x.i 39))] (apl (fl s.x 40 14) (apl [(.sint .i8 (s.x.i 54))] (apl (fl s.x 55 14) (apl [(.sint .i8 (s.x.i 69))] (apl (fl s.x 70 14) (apl [(.sint .i8 (s.x.i 84))] (apl (fl s.x 85 14) (apl [(.sint .i8 (s.x.i 99))] (apl (fl s.x 100 14) (apl [(.sint .i8 (s.x.i 114))] (apl (fl s.x 115 32) ([(.sint .i16 (s.x.i 147))]))))))))))))))))))) [(s.len 0)] [0, 0, (s.n 2)] [zeroV, zeroV, (s.y 2)])

theorem asS4_e (s : SV) : funH Try.prog G30 HasS4 true 1000 53 (mkVs s 0 0 fAS.vals) (litM 4 (mkM fAS s)) [false] = some (.sint .i64 (bif Nat.beq (asS4F (asS4S s)).1 0 then 0 else 2), [asS4B (asS4S s), !(badZ 4 s.x)]) := by kernel_rfl

theorem asS4_v (s : SV) (hq : asSQP s) (hz : s.x.i 0 = 4) (hb : badU s.x = false) : (bif Nat.beq (asS4F (asS4S s)).1 0 then 0 else 2 : Int) = askC s.x (s.len 0) (s.y 2) ∧ asS4B (asS4S s) = true ∧ (!(badZ 4 s.x)) = true := by
  have a0 : (asS4S s).x.i 0 = 0 := by kernel_rfl
  have a1 : (asS4S s).len 0 = s.len 0 := by kernel_rfl
  have a2 : (asS4S s).y 2 = s.y 2 := by kernel_rfl
  have a3 : (asS4S s).n 2 = s.n 2 := by kernel_rfl
  obtain ⟨q1, q2⟩ := hq
  obtain ⟨y1, y2⟩ := asS4_yes (asS4S s) (by omega) (by omega)
  rw [a0, a1, a2] at y1 y2
  refine ⟨?_, asS4B_to ⟨by omega, by omega, by omega, by omega⟩, ?_⟩
  · unfold askC
    rw [hb, hz]
    by_cases ha : ∀ j : Nat, j < s.len 0 → rowOk 4 (s.y 2) j = true
    · rw [y1 fun j _ hj => ha j (by omega), show (4 : Int).toNat = 4 from rfl, allOk_yes ha]
      rfl
    · rw [y2 fun h => ha fun j hj => h j (by omega) (by omega), show (4 : Int).toNat = 4 from rfl, allOk_no ha]
      rfl
  · rw [badZ_eq hz, hb]
    rfl

noncomputable def asS5S (s : SV) : SV := (mkSV (apl [(.int .i64 0)] (apl (fl s.x 1 8) (apl [(.sint .i8 (s.x.i 9))] (apl (fl s.x 10 14) (apl [(.sint .i8 (s.x.i 24))] (apl (fl s.x 25 14) (apl [(.sint .i8 (s.x.i 39))] (apl (fl s.x 40 14) (apl [(.sint .i8 (s.x.i 54))] (apl (fl s.x 55 14) (apl [(.sint .i8 (s.x.i 69))] (apl (fl s.x 70 14) (apl [(.sint .i8 (s.x.i 84))] (apl (fl s.x 85 14) (apl [(.sint .i8 (s.x.i 99))] (apl (fl s.x 100 14) (apl [(.sint .i8 (s.x.i 114))] (apl (fl s.x 115 32) ([(.sint .i16 (s.x.i 147))]))))))))))))))))))) [(s.len 0)] [0, 0, (s.n 2)] [zeroV, zeroV, (s.y 2)])

theorem asS5_e (s : SV) : funH Try.prog G30 HasS5 true 1000 53 (mkVs s 0 0 fAS.vals) (litM 5 (mkM fAS s)) [false] = some (.sint .i64 (bif Nat.beq (asS5F (asS5S s)).1 0 then 0 else 2), [asS5B (asS5S s), !(badZ 5 s.x)]) := by kernel_rfl

theorem asS5_v (s : SV) (hq : asSQP s) (hz : s.x.i 0 = 5) (hb : badU s.x = false) : (bif Nat.beq (asS5F (asS5S s)).1 0 then 0 else 2 : Int) = askC s.x (s.len 0) (s.y 2) ∧ asS5B (asS5S s) = true ∧ (!(badZ 5 s.x)) = true := by
  have a0 : (asS5S s).x.i 0 = 0 := by kernel_rfl
  have a1 : (asS5S s).len 0 = s.len 0 := by kernel_rfl
  have a2 : (asS5S s).y 2 = s.y 2 := by kernel_rfl
  have a3 : (asS5S s).n 2 = s.n 2 := by kernel_rfl
  obtain ⟨q1, q2⟩ := hq
  obtain ⟨y1, y2⟩ := asS5_yes (asS5S s) (by omega) (by omega)
  rw [a0, a1, a2] at y1 y2
  refine ⟨?_, asS5B_to ⟨by omega, by omega, by omega, by omega⟩, ?_⟩
  · unfold askC
    rw [hb, hz]
    by_cases ha : ∀ j : Nat, j < s.len 0 → rowOk 5 (s.y 2) j = true
    · rw [y1 fun j _ hj => ha j (by omega), show (5 : Int).toNat = 5 from rfl, allOk_yes ha]
      rfl
    · rw [y2 fun h => ha fun j hj => h j (by omega) (by omega), show (5 : Int).toNat = 5 from rfl, allOk_no ha]
      rfl
  · rw [badZ_eq hz, hb]
    rfl

noncomputable def asS6S (s : SV) : SV := (mkSV (apl [(.int .i64 0)] (apl (fl s.x 1 8) (apl [(.sint .i8 (s.x.i 9))] (apl (fl s.x 10 14) (apl [(.sint .i8 (s.x.i 24))] (apl (fl s.x 25 14) (apl [(.sint .i8 (s.x.i 39))] (apl (fl s.x 40 14) (apl [(.sint .i8 (s.x.i 54))] (apl (fl s.x 55 14) (apl [(.sint .i8 (s.x.i 69))] (apl (fl s.x 70 14) (apl [(.sint .i8 (s.x.i 84))] (apl (fl s.x 85 14) (apl [(.sint .i8 (s.x.i 99))] (apl (fl s.x 100 14) (apl [(.sint .i8 (s.x.i 114))] (apl (fl s.x 115 32) ([(.sint .i16 (s.x.i 147))]))))))))))))))))))) [(s.len 0)] [0, 0, (s.n 2)] [zeroV, zeroV, (s.y 2)])

theorem asS6_e (s : SV) : funH Try.prog G30 HasS6 true 1000 53 (mkVs s 0 0 fAS.vals) (litM 6 (mkM fAS s)) [false] = some (.sint .i64 (bif Nat.beq (asS6F (asS6S s)).1 0 then 0 else 2), [asS6B (asS6S s), !(badZ 6 s.x)]) := by kernel_rfl

theorem asS6_v (s : SV) (hq : asSQP s) (hz : s.x.i 0 = 6) (hb : badU s.x = false) : (bif Nat.beq (asS6F (asS6S s)).1 0 then 0 else 2 : Int) = askC s.x (s.len 0) (s.y 2) ∧ asS6B (asS6S s) = true ∧ (!(badZ 6 s.x)) = true := by
  have a0 : (asS6S s).x.i 0 = 0 := by kernel_rfl
  have a1 : (asS6S s).len 0 = s.len 0 := by kernel_rfl
  have a2 : (asS6S s).y 2 = s.y 2 := by kernel_rfl
  have a3 : (asS6S s).n 2 = s.n 2 := by kernel_rfl
  obtain ⟨q1, q2⟩ := hq
  obtain ⟨y1, y2⟩ := asS6_yes (asS6S s) (by omega) (by omega)
  rw [a0, a1, a2] at y1 y2
  refine ⟨?_, asS6B_to ⟨by omega, by omega, by omega, by omega⟩, ?_⟩
  · unfold askC
    rw [hb, hz]
    by_cases ha : ∀ j : Nat, j < s.len 0 → rowOk 6 (s.y 2) j = true
    · rw [y1 fun j _ hj => ha j (by omega), show (6 : Int).toNat = 6 from rfl, allOk_yes ha]
      rfl
    · rw [y2 fun h => ha fun j hj => h j (by omega) (by omega), show (6 : Int).toNat = 6 from rfl, allOk_no ha]
      rfl
  · rw [badZ_eq hz, hb]
    rfl

noncomputable def asS7S (s : SV) : SV := (mkSV (apl [(.int .i64 0)] (apl (fl s.x 1 8) (apl [(.sint .i8 (s.x.i 9))] (apl (fl s.x 10 14) (apl [(.sint .i8 (s.x.i 24))] (apl (fl s.x 25 14) (apl [(.sint .i8 (s.x.i 39))] (apl (fl s.x 40 14) (apl [(.sint .i8 (s.x.i 54))] (apl (fl s.x 55 14) (apl [(.sint .i8 (s.x.i 69))] (apl (fl s.x 70 14) (apl [(.sint .i8 (s.x.i 84))] (apl (fl s.x 85 14) (apl [(.sint .i8 (s.x.i 99))] (apl (fl s.x 100 14) (apl [(.sint .i8 (s.x.i 114))] (apl (fl s.x 115 32) ([(.sint .i16 (s.x.i 147))]))))))))))))))))))) [(s.len 0)] [0, 0, (s.n 2)] [zeroV, zeroV, (s.y 2)])

theorem asS7_e (s : SV) : funH Try.prog G30 HasS7 true 1000 53 (mkVs s 0 0 fAS.vals) (litM 7 (mkM fAS s)) [false] = some (.sint .i64 (bif Nat.beq (asS7F (asS7S s)).1 0 then 0 else 2), [asS7B (asS7S s), !(badZ 7 s.x)]) := by kernel_rfl

theorem asS7_v (s : SV) (hq : asSQP s) (hz : s.x.i 0 = 7) (hb : badU s.x = false) : (bif Nat.beq (asS7F (asS7S s)).1 0 then 0 else 2 : Int) = askC s.x (s.len 0) (s.y 2) ∧ asS7B (asS7S s) = true ∧ (!(badZ 7 s.x)) = true := by
  have a0 : (asS7S s).x.i 0 = 0 := by kernel_rfl
  have a1 : (asS7S s).len 0 = s.len 0 := by kernel_rfl
  have a2 : (asS7S s).y 2 = s.y 2 := by kernel_rfl
  have a3 : (asS7S s).n 2 = s.n 2 := by kernel_rfl
  obtain ⟨q1, q2⟩ := hq
  obtain ⟨y1, y2⟩ := asS7_yes (asS7S s) (by omega) (by omega)
  rw [a0, a1, a2] at y1 y2
  refine ⟨?_, asS7B_to ⟨by omega, by omega, by omega, by omega⟩, ?_⟩
  · unfold askC
    rw [hb, hz]
    by_cases ha : ∀ j : Nat, j < s.len 0 → rowOk 7 (s.y 2) j = true
    · rw [y1 fun j _ hj => ha j (by omega), show (7 : Int).toNat = 7 from rfl, allOk_yes ha]
      rfl
    · rw [y2 fun h => ha fun j hj => h j (by omega) (by omega), show (7 : Int).toNat = 7 from rfl, allOk_no ha]
      rfl
  · rw [badZ_eq hz, hb]
    rfl

noncomputable def asS8S (s : SV) : SV := (mkSV (apl [(.int .i64 0)] (apl (fl s.x 1 8) (apl [(.sint .i8 (s.x.i 9))] (apl (fl s.x 10 14) (apl [(.sint .i8 (s.x.i 24))] (apl (fl s.x 25 14) (apl [(.sint .i8 (s.x.i 39))] (apl (fl s.x 40 14) (apl [(.sint .i8 (s.x.i 54))] (apl (fl s.x 55 14) (apl [(.sint .i8 (s.x.i 69))] (apl (fl s.x 70 14) (apl [(.sint .i8 (s.x.i 84))] (apl (fl s.x 85 14) (apl [(.sint .i8 (s.x.i 99))] (apl (fl s.x 100 14) (apl [(.sint .i8 (s.x.i 114))] (apl (fl s.x 115 32) ([(.sint .i16 (s.x.i 147))]))))))))))))))))))) [(s.len 0)] [0, 0, (s.n 2)] [zeroV, zeroV, (s.y 2)])

theorem asS8_e (s : SV) : funH Try.prog G30 HasS8 true 1000 53 (mkVs s 0 0 fAS.vals) (litM 8 (mkM fAS s)) [false] = some (.sint .i64 (bif Nat.beq (asS8F (asS8S s)).1 0 then 0 else 2), [asS8B (asS8S s), !(badZ 8 s.x)]) := by kernel_rfl

theorem asS8_v (s : SV) (hq : asSQP s) (hz : s.x.i 0 = 8) (hb : badU s.x = false) : (bif Nat.beq (asS8F (asS8S s)).1 0 then 0 else 2 : Int) = askC s.x (s.len 0) (s.y 2) ∧ asS8B (asS8S s) = true ∧ (!(badZ 8 s.x)) = true := by
  have a0 : (asS8S s).x.i 0 = 0 := by kernel_rfl
  have a1 : (asS8S s).len 0 = s.len 0 := by kernel_rfl
  have a2 : (asS8S s).y 2 = s.y 2 := by kernel_rfl
  have a3 : (asS8S s).n 2 = s.n 2 := by kernel_rfl
  obtain ⟨q1, q2⟩ := hq
  obtain ⟨y1, y2⟩ := asS8_yes (asS8S s) (by omega) (by omega)
  rw [a0, a1, a2] at y1 y2
  refine ⟨?_, asS8B_to ⟨by omega, by omega, by omega, by omega⟩, ?_⟩
  · unfold askC
    rw [hb, hz]
    by_cases ha : ∀ j : Nat, j < s.len 0 → rowOk 8 (s.y 2) j = true
    · rw [y1 fun j _ hj => ha j (by omega), show (8 : Int).toNat = 8 from rfl, allOk_yes ha]
      rfl
    · rw [y2 fun h => ha fun j hj => h j (by omega) (by omega), show (8 : Int).toNat = 8 from rfl, allOk_no ha]
      rfl
  · rw [badZ_eq hz, hb]
    rfl

noncomputable def GAasS : Summ := addG 53 (sumQ fAS [.sc (.int .i64)] asSQPre asSR) G30

set_option maxRecDepth 100000 in
theorem GAasS_ok : SoundG Try.prog GAasS := by
  unfold GAasS
  rw [asSR_eq]
  refine SoundG.sumQN G30_ok mixed Try.call53 G30_ok (by decide) fun s hp => ?_
  have hq := asSQB_of (hp _ (List.mem_cons_self ..))
  cases hb : badU s.x with
  | true => exact ⟨noLT, true, 1000, [true], _, _, _, _, (fun _ _ h => h), SameN.refl _, HFun.none Try.prog _ 53, asS_bad s, congrArg (AV.sint .i64) (show (1 : Int) = askC s.x (s.len 0) (s.y 2) by unfold askC; rw [hb]; rfl), rfl, rfl, allC hb allN⟩
  | false =>
    have hr := badU_rng hb
    have hc : s.x.i 0 = 1 ∨ s.x.i 0 = 2 ∨ s.x.i 0 = 3 ∨ s.x.i 0 = 4 ∨ s.x.i 0 = 5 ∨ s.x.i 0 = 6 ∨ s.x.i 0 = 7 ∨ s.x.i 0 = 8 := by omega
    rcases hc with hz | hz | hz | hz | hz | hz | hz | hz
    · obtain ⟨e, b1, b2⟩ := asS1_v s hq hz hb
      exact ⟨HasS1, true, 1000, [false], _, _, _, litM 1 (mkM fAS s), (fun _ _ h => h), litM_same (fun k m h => by cases h; exact hz), HasS1_ok, asS1_e s, congrArg (AV.sint .i64) e, rfl, rfl, allC b1 (allC b2 allN)⟩
    · obtain ⟨e, b1, b2⟩ := asS2_v s hq hz hb
      exact ⟨HasS2, true, 1000, [false], _, _, _, litM 2 (mkM fAS s), (fun _ _ h => h), litM_same (fun k m h => by cases h; exact hz), HasS2_ok, asS2_e s, congrArg (AV.sint .i64) e, rfl, rfl, allC b1 (allC b2 allN)⟩
    · obtain ⟨e, b1, b2⟩ := asS3_v s hq hz hb
      exact ⟨HasS3, true, 1000, [false], _, _, _, litM 3 (mkM fAS s), (fun _ _ h => h), litM_same (fun k m h => by cases h; exact hz), HasS3_ok, asS3_e s, congrArg (AV.sint .i64) e, rfl, rfl, allC b1 (allC b2 allN)⟩
    · obtain ⟨e, b1, b2⟩ := asS4_v s hq hz hb
      exact ⟨HasS4, true, 1000, [false], _, _, _, litM 4 (mkM fAS s), (fun _ _ h => h), litM_same (fun k m h => by cases h; exact hz), HasS4_ok, asS4_e s, congrArg (AV.sint .i64) e, rfl, rfl, allC b1 (allC b2 allN)⟩
    · obtain ⟨e, b1, b2⟩ := asS5_v s hq hz hb
      exact ⟨HasS5, true, 1000, [false], _, _, _, litM 5 (mkM fAS s), (fun _ _ h => h), litM_same (fun k m h => by cases h; exact hz), HasS5_ok, asS5_e s, congrArg (AV.sint .i64) e, rfl, rfl, allC b1 (allC b2 allN)⟩
    · obtain ⟨e, b1, b2⟩ := asS6_v s hq hz hb
      exact ⟨HasS6, true, 1000, [false], _, _, _, litM 6 (mkM fAS s), (fun _ _ h => h), litM_same (fun k m h => by cases h; exact hz), HasS6_ok, asS6_e s, congrArg (AV.sint .i64) e, rfl, rfl, allC b1 (allC b2 allN)⟩
    · obtain ⟨e, b1, b2⟩ := asS7_v s hq hz hb
      exact ⟨HasS7, true, 1000, [false], _, _, _, litM 7 (mkM fAS s), (fun _ _ h => h), litM_same (fun k m h => by cases h; exact hz), HasS7_ok, asS7_e s, congrArg (AV.sint .i64) e, rfl, rfl, allC b1 (allC b2 allN)⟩
    · obtain ⟨e, b1, b2⟩ := asS8_v s hq hz hb
      exact ⟨HasS8, true, 1000, [false], _, _, _, litM 8 (mkM fAS s), (fun _ _ h => h), litM_same (fun k m h => by cases h; exact hz), HasS8_ok, asS8_e s, congrArg (AV.sint .i64) e, rfl, rfl, allC b1 (allC b2 allN)⟩

def asIQP (s : SV) : Prop := s.len 0 ≤ 1048576 ∧ s.n 0 = 8 * s.len 0

noncomputable def asIQB (s : SV) : Bool := @decide (asIQP s) (Classical.propDecidable _)
theorem asIQB_of {s : SV} (h : asIQB s = true) : asIQP s := @of_decide_eq_true _ (Classical.propDecidable _) h
theorem asIQB_to {s : SV} (h : asIQP s) : asIQB s = true := @decide_eq_true _ (Classical.propDecidable _) h

noncomputable def asIQPre (s : SV) : List Bool := [asIQB s]

noncomputable def asIR0 (s : SV) : Vars := varsOf [.sint .i64 (askC s.x (s.len 0) (s.y 0))]

noncomputable def asIR : SV → Vars := Classical.choose (⟨asIR0, rfl⟩ : ∃ f, f = asIR0)

theorem asIR_eq : asIR = asIR0 := Classical.choose_spec (⟨asIR0, rfl⟩ : ∃ f, f = asIR0)

theorem asI_bad (s : SV) : funH Try.prog G30 noLT true 1000 79 (mkVs s 0 0 fAI.vals) (mkM fAI s) [true] = some (.int .i64 1, [badU s.x]) := by kernel_rfl

noncomputable def asI1S (s : SV) : SV := (mkSV (apl [(.int .i64 0), (.sint .i64 (ofN (s.len 0)))] (apl (fl s.x 1 8) (apl [(.sint .i8 (s.x.i 9))] (apl (fl s.x 10 14) (apl [(.sint .i8 (s.x.i 24))] (apl (fl s.x 25 14) (apl [(.sint .i8 (s.x.i 39))] (apl (fl s.x 40 14) (apl [(.sint .i8 (s.x.i 54))] (apl (fl s.x 55 14) (apl [(.sint .i8 (s.x.i 69))] (apl (fl s.x 70 14) (apl [(.sint .i8 (s.x.i 84))] (apl (fl s.x 85 14) (apl [(.sint .i8 (s.x.i 99))] (apl (fl s.x 100 14) (apl [(.sint .i8 (s.x.i 114))] (fl s.x 115 14)))))))))))))))))) [(s.len 0)] [(s.n 0), 0] [(s.y 0), zeroV])

theorem asI1_e (s : SV) : funH Try.prog G30 HasI1 true 1000 79 (litV 1 (mkVs s 0 0 fAI.vals)) (mkM fAI s) [false] = some (.sint .i64 (bif Nat.beq (asI1F (asI1S s)).1 0 then 0 else 2), [asI1B (asI1S s), ((decide ((-(9223372036854775807 + 1)) ≤ (ofN (s.len 0)))) && (decide ((ofN (s.len 0)) ≤ 9223372036854775807))), !(badZ 1 s.x)]) := by kernel_rfl

theorem asI1_v (s : SV) (hq : asIQP s) (hz : s.x.i 0 = 1) (hb : badU s.x = false) : (bif Nat.beq (asI1F (asI1S s)).1 0 then 0 else 2 : Int) = askC s.x (s.len 0) (s.y 0) ∧ asI1B (asI1S s) = true ∧ (!(badZ 1 s.x)) = true := by
  have a0 : (asI1S s).x.i 0 = 0 := by kernel_rfl
  have a1 : (asI1S s).len 0 = s.len 0 := by kernel_rfl
  have a2 : (asI1S s).y 0 = s.y 0 := by kernel_rfl
  have a3 : (asI1S s).n 0 = s.n 0 := by kernel_rfl
  have a4 : (asI1S s).x.i 1 = s.len 0 := by kernel_rfl
  obtain ⟨q1, q2⟩ := hq
  obtain ⟨y1, y2⟩ := asI1_yes (asI1S s) (by omega) (by omega) (by omega)
  rw [a0, a1, a2] at y1 y2
  refine ⟨?_, asI1B_to ⟨by omega, by omega, by omega, by omega, by omega⟩, ?_⟩
  · unfold askC
    rw [hb, hz]
    by_cases ha : ∀ j : Nat, j < s.len 0 → rowOk 1 (s.y 0) j = true
    · rw [y1 fun j _ hj => ha j (by omega), show (1 : Int).toNat = 1 from rfl, allOk_yes ha]
      rfl
    · rw [y2 fun h => ha fun j hj => h j (by omega) (by omega), show (1 : Int).toNat = 1 from rfl, allOk_no ha]
      rfl
  · rw [badZ_eq hz, hb]
    rfl

noncomputable def asI2S (s : SV) : SV := (mkSV (apl [(.int .i64 0), (.sint .i64 (ofN (s.len 0)))] (apl (fl s.x 1 8) (apl [(.sint .i8 (s.x.i 9))] (apl (fl s.x 10 14) (apl [(.sint .i8 (s.x.i 24))] (apl (fl s.x 25 14) (apl [(.sint .i8 (s.x.i 39))] (apl (fl s.x 40 14) (apl [(.sint .i8 (s.x.i 54))] (apl (fl s.x 55 14) (apl [(.sint .i8 (s.x.i 69))] (apl (fl s.x 70 14) (apl [(.sint .i8 (s.x.i 84))] (apl (fl s.x 85 14) (apl [(.sint .i8 (s.x.i 99))] (apl (fl s.x 100 14) (apl [(.sint .i8 (s.x.i 114))] (fl s.x 115 14)))))))))))))))))) [(s.len 0)] [(s.n 0), 0] [(s.y 0), zeroV])

theorem asI2_e (s : SV) : funH Try.prog G30 HasI2 true 1000 79 (litV 2 (mkVs s 0 0 fAI.vals)) (mkM fAI s) [false] = some (.sint .i64 (bif Nat.beq (asI2F (asI2S s)).1 0 then 0 else 2), [asI2B (asI2S s), ((decide ((-(9223372036854775807 + 1)) ≤ (ofN (s.len 0)))) && (decide ((ofN (s.len 0)) ≤ 9223372036854775807))), !(badZ 2 s.x)]) := by kernel_rfl

theorem asI2_v (s : SV) (hq : asIQP s) (hz : s.x.i 0 = 2) (hb : badU s.x = false) : (bif Nat.beq (asI2F (asI2S s)).1 0 then 0 else 2 : Int) = askC s.x (s.len 0) (s.y 0) ∧ asI2B (asI2S s) = true ∧ (!(badZ 2 s.x)) = true := by
  have a0 : (asI2S s).x.i 0 = 0 := by kernel_rfl
  have a1 : (asI2S s).len 0 = s.len 0 := by kernel_rfl
  have a2 : (asI2S s).y 0 = s.y 0 := by kernel_rfl
  have a3 : (asI2S s).n 0 = s.n 0 := by kernel_rfl
  have a4 : (asI2S s).x.i 1 = s.len 0 := by kernel_rfl
  obtain ⟨q1, q2⟩ := hq
  obtain ⟨y1, y2⟩ := asI2_yes (asI2S s) (by omega) (by omega) (by omega)
  rw [a0, a1, a2] at y1 y2
  refine ⟨?_, asI2B_to ⟨by omega, by omega, by omega, by omega, by omega⟩, ?_⟩
  · unfold askC
    rw [hb, hz]
    by_cases ha : ∀ j : Nat, j < s.len 0 → rowOk 2 (s.y 0) j = true
    · rw [y1 fun j _ hj => ha j (by omega), show (2 : Int).toNat = 2 from rfl, allOk_yes ha]
      rfl
    · rw [y2 fun h => ha fun j hj => h j (by omega) (by omega), show (2 : Int).toNat = 2 from rfl, allOk_no ha]
      rfl
  · rw [badZ_eq hz, hb]
    rfl

noncomputable def asI3S (s : SV) : SV := (mkSV (apl [(.int .i64 0), (.sint .i64 (ofN (s.len 0)))] (apl (fl s.x 1 8) (apl [(.sint .i8 (s.x.i 9))] (apl (fl s.x 10 14) (apl [(.sint .i8 (s.x.i 24))] (apl (fl s.x 25 14) (apl [(.sint .i8 (s.x.i 39))] (apl (fl s.x 40 14) (apl [(.sint .i8 (s.x.i 54))] (apl (fl s.x 55 14) (apl [(.sint .i8 (s.x.i 69))] (apl (fl s.x 70 14) (apl [(.sint .i8 (s.x.i 84))] (apl (fl s.x 85 14) (apl [(.sint .i8 (s.x.i 99))] (apl (fl s.x 100 14) (apl [(.sint .i8 (s.x.i 114))] (fl s.x 115 14)))))))))))))))))) [(s.len 0)] [(s.n 0), 0] [(s.y 0), zeroV])

theorem asI3_e (s : SV) : funH Try.prog G30 HasI3 true 1000 79 (litV 3 (mkVs s 0 0 fAI.vals)) (mkM fAI s) [false] = some (.sint .i64 (bif Nat.beq (asI3F (asI3S s)).1 0 then 0 else 2), [asI3B (asI3S s), ((decide ((-(9223372036854775807 + 1)) ≤ (ofN (s.len 0)))) && (decide ((ofN (s.len 0)) ≤ 9223372036854775807))), !(badZ 3 s.x)]) := by kernel_rfl

theorem asI3_v (s : SV) (hq : asIQP s) (hz : s.x.i 0 = 3) (hb : badU s.x = false) : (bif Nat.beq (asI3F (asI3S s)).1 0 then 0 else 2 : Int) = askC s.x (s.len 0) (s.y 0) ∧ asI3B (asI3S s) = true ∧ (!(badZ 3 s.x)) = true := by
  have a0 : (asI3S s).x.i 0 = 0 := by kernel_rfl
  have a1 : (asI3S s).len 0 = s.len 0 := by kernel_rfl
  have a2 : (asI3S s).y 0 = s.y 0 := by kernel_rfl
  have a3 : (asI3S s).n 0 = s.n 0 := by kernel_rfl
  have a4 : (asI3S s).x.i 1 = s.len 0 := by kernel_rfl
  obtain ⟨q1, q2⟩ := hq
  obtain ⟨y1, y2⟩ := asI3_yes (asI3S s) (by omega) (by omega) (by omega)
  rw [a0, a1, a2] at y1 y2
  refine ⟨?_, asI3B_to ⟨by omega, by omega, by omega, by omega, by omega⟩, ?_⟩
  · unfold askC
    rw [hb, hz]
    by_cases ha : ∀ j : Nat, j < s.len 0 → rowOk 3 (s.y 0) j = true
    · rw [y1 fun j _ hj => ha j (by omega), show (3 : Int).toNat = 3 from rfl, allOk_yes ha]
      rfl
    · rw [y2 fun h => ha fun j hj => h j (by omega) (by omega), show (3 : Int).toNat = 3 from rfl, allOk_no ha]
      rfl
  · rw [badZ_eq hz, hb]
    rfl

noncomputable def asI4S (s : SV) : SV := (mkSV (apl [(.int .i64 0), (.sint .i64 (ofN (s.len 0)))] (apl (fl s.x 1 8) (apl [(.sint .i8 (s.x.i 9))] (apl (fl s.x 10 14) (apl [(.sint .i8 (s.x.i 24))] (apl (fl s.x 25 14) (apl [(.sint .i8 (s.x.i 39))] (apl (fl s.x 40 14) (apl [(.sint .i8 (s.x.i 54))] (apl (fl s.x 55 14) (apl [(.sint .i8 (s.x.i 69))] (apl (fl s.x 70 14) (apl [(.sint .i8 (s.x.i 84))] (apl (fl s.x 85 14) (apl [(.sint .i8 (s.x.i 99))] (apl (fl s.x 100 14) (apl [(.sint .i8 (s.x.i 114))] (fl s.x 115 14)))))))))))))))))) [(s.len 0)] [(s.n 0), 0] [(s.y 0), zeroV])

theorem asI4_e (s : SV) : funH Try.prog G30 HasI4 true 1000 79 (litV 4 (mkVs s 0 0 fAI.vals)) (mkM fAI s) [false] = some (.sint .i64 (bif Nat.beq (asI4F (asI4S s)).1 0 then 0 else 2), [asI4B (asI4S s), ((decide ((-(9223372036854775807 + 1)) ≤ (ofN (s.len 0)))) && (decide ((ofN (s.len 0)) ≤ 9223372036854775807))), !(badZ 4 s.x)]) := by kernel_rfl

theorem asI4_v (s : SV) (hq : asIQP s) (hz : s.x.i 0 = 4) (hb : badU s.x = false) : (bif Nat.beq (asI4F (asI4S s)).1 0 then 0 else 2 : Int) = askC s.x (s.len 0) (s.y 0) ∧ asI4B (asI4S s) = true ∧ (!(badZ 4 s.x)) = true := by
  have a0 : (asI4S s).x.i 0 = 0 := by kernel_rfl
  have a1 : (asI4S s).len 0 = s.len 0 := by kernel_rfl
  have a2 : (asI4S s).y 0 = s.y 0 := by kernel_rfl
  have a3 : (asI4S s).n 0 = s.n 0 := by kernel_rfl
  have a4 : (asI4S s).x.i 1 = s.len 0 := by kernel_rfl
  obtain ⟨q1, q2⟩ := hq
  obtain ⟨y1, y2⟩ := asI4_yes (asI4S s) (by omega) (by omega) (by omega)
  rw [a0, a1, a2] at y1 y2
  refine ⟨?_, asI4B_to ⟨by omega, by omega, by omega, by omega, by omega⟩, ?_⟩
  · unfold askC
    rw [hb, hz]
    by_cases ha : ∀ j : Nat, j < s.len 0 → rowOk 4 (s.y 0) j = true
    · rw [y1 fun j _ hj => ha j (by omega), show (4 : Int).toNat = 4 from rfl, allOk_yes ha]
      rfl
    · rw [y2 fun h => ha fun j hj => h j (by omega) (by omega), show (4 : Int).toNat = 4 from rfl, allOk_no ha]
      rfl
  · rw [badZ_eq hz, hb]
    rfl

noncomputable def asI5S (s : SV) : SV := (mkSV (apl [(.int .i64 0), (.sint .i64 (ofN (s.len 0)))] (apl (fl s.x 1 8) (apl [(.sint .i8 (s.x.i 9))] (apl (fl s.x 10 14) (apl [(.sint .i8 (s.x.i 24))] (apl (fl s.x 25 14) (apl [(.sint .i8 (s.x.i 39))] (apl (fl s.x 40 14) (apl [(.sint .i8 (s.x.i 54))] (apl (fl s.x 55 14) (apl [(.sint .i8 (s.x.i 69))] (apl (fl s.x 70 14) (apl [(.sint .i8 (s.x.i 84))] (apl (fl s.x 85 14) (apl [(.sint .i8 (s.x.i 99))] (apl (fl s.x 100 14) (apl [(.sint .i8 (s.x.i 114))] (fl s.x 115 14)))))))))))))))))) [(s.len 0)] [(s.n 0), 0] [(s.y 0), zeroV])

theorem asI5_e (s : SV) : funH Try.prog G30 HasI5 true 1000 79 (litV 5 (mkVs s 0 0 fAI.vals)) (mkM fAI s) [false] = some (.sint .i64 (bif Nat.beq (asI5F (asI5S s)).1 0 then 0 else 2), [asI5B (asI5S s), ((decide ((-(9223372036854775807 + 1)) ≤ (ofN (s.len 0)))) && (decide ((ofN (s.len 0)) ≤ 9223372036854775807))), !(badZ 5 s.x)]) := by kernel_rfl

theorem asI5_v (s : SV) (hq : asIQP s) (hz : s.x.i 0 = 5) (hb : badU s.x = false) : (bif Nat.beq (asI5F (asI5S s)).1 0 then 0 else 2 : Int) = askC s.x (s.len 0) (s.y 0) ∧ asI5B (asI5S s) = true ∧ (!(badZ 5 s.x)) = true := by
  have a0 : (asI5S s).x.i 0 = 0 := by kernel_rfl
  have a1 : (asI5S s).len 0 = s.len 0 := by kernel_rfl
  have a2 : (asI5S s).y 0 = s.y 0 := by kernel_rfl
  have a3 : (asI5S s).n 0 = s.n 0 := by kernel_rfl
  have a4 : (asI5S s).x.i 1 = s.len 0 := by kernel_rfl
  obtain ⟨q1, q2⟩ := hq
  obtain ⟨y1, y2⟩ := asI5_yes (asI5S s) (by omega) (by omega) (by omega)
  rw [a0, a1, a2] at y1 y2
  refine ⟨?_, asI5B_to ⟨by omega, by omega, by omega, by omega, by omega⟩, ?_⟩
  · unfold askC
    rw [hb, hz]
    by_cases ha : ∀ j : Nat, j < s.len 0 → rowOk 5 (s.y 0) j = true
    · rw [y1 fun j _ hj => ha j (by omega), show (5 : Int).toNat = 5 from rfl, allOk_yes ha]
      rfl
    · rw [y2 fun h => ha fun j hj => h j (by omega) (by omega), show (5 : Int).toNat = 5 from rfl, allOk_no ha]
      rfl
  · rw [badZ_eq hz, hb]
    rfl

noncomputable def asI6S (s : SV) : SV := (mkSV (apl [(.int .i64 0), (.sint .i64 (ofN (s.len 0)))] (apl (fl s.x 1 8) (apl [(.sint .i8 (s.x.i 9))] (apl (fl s.x 10 14) (apl [(.sint .i8 (s.x.i 24))] (apl (fl s.x 25 14) (apl [(.sint .i8 (s.x.i 39))] (apl (fl s.x 40 14) (apl [(.sint .i8 (s.x.i 54))] (apl (fl s.x 55 14) (apl [(.sint .i8 (s.x.i 69))] (apl (fl s.x 70 14) (apl [(.sint .i8 (s.x.i 84))] (apl (fl s.x 85 14) (apl [(.sint .i8 (s.x.i 99))] (apl (fl s.x 100 14) (apl [(.sint .i8 (s.x.i 114))] (fl s.x 115 14)))))))))))))))))) [(s.len 0)] [(s.n 0), 0] [(s.y 0), zeroV])

theorem asI6_e (s : SV) : funH Try.prog G30 HasI6 true 1000 79 (litV 6 (mkVs s 0 0 fAI.vals)) (mkM fAI s) [false] = some (.sint .i64 (bif Nat.beq (asI6F (asI6S s)).1 0 then 0 else 2), [asI6B (asI6S s), ((decide ((-(9223372036854775807 + 1)) ≤ (ofN (s.len 0)))) && (decide ((ofN (s.len 0)) ≤ 9223372036854775807))), !(badZ 6 s.x)]) := by kernel_rfl

theorem asI6_v (s : SV) (hq : asIQP s) (hz : s.x.i 0 = 6) (hb : badU s.x = false) : (bif Nat.beq (asI6F (asI6S s)).1 0 then 0 else 2 : Int) = askC s.x (s.len 0) (s.y 0) ∧ asI6B (asI6S s) = true ∧ (!(badZ 6 s.x)) = true := by
  have a0 : (asI6S s).x.i 0 = 0 := by kernel_rfl
  have a1 : (asI6S s).len 0 = s.len 0 := by kernel_rfl
  have a2 : (asI6S s).y 0 = s.y 0 := by kernel_rfl
  have a3 : (asI6S s).n 0 = s.n 0 := by kernel_rfl
  have a4 : (asI6S s).x.i 1 = s.len 0 := by kernel_rfl
  obtain ⟨q1, q2⟩ := hq
  obtain ⟨y1, y2⟩ := asI6_yes (asI6S s) (by omega) (by omega) (by omega)
  rw [a0, a1, a2] at y1 y2
  refine ⟨?_, asI6B_to ⟨by omega, by omega, by omega, by omega, by omega⟩, ?_⟩
  · unfold askC
    rw [hb, hz]
    by_cases ha : ∀ j : Nat, j < s.len 0 → rowOk 6 (s.y 0) j = true
    · rw [y1 fun j _ hj => ha j (by omega), show (6 : Int).toNat = 6 from rfl, allOk_yes ha]
      rfl
    · rw [y2 fun h => ha fun j hj => h j (by omega) (by omega), show (6 : Int).toNat = 6 from rfl, allOk_no ha]
      rfl
  · rw [badZ_eq hz, hb]
    rfl

noncomputable def asI7S (s : SV) : SV := (mkSV (apl [(.int .i64 0), (.sint .i64 (ofN (s.len 0)))] (apl (fl s.x 1 8) (apl [(.sint .i8 (s.x.i 9))] (apl (fl s.x 10 14) (apl [(.sint .i8 (s.x.i 24))] (apl (fl s.x 25 14) (apl [(.sint .i8 (s.x.i 39))] (apl (fl s.x 40 14) (apl [(.sint .i8 (s.x.i 54))] (apl (fl s.x 55 14) (apl [(.sint .i8 (s.x.i 69))] (apl (fl s.x 70 14) (apl [(.sint .i8 (s.x.i 84))] (apl (fl s.x 85 14) (apl [(.sint .i8 (s.x.i 99))] (apl (fl s.x 100 14) (apl [(.sint .i8 (s.x.i 114))] (fl s.x 115 14)))))))))))))))))) [(s.len 0)] [(s.n 0), 0] [(s.y 0), zeroV])

theorem asI7_e (s : SV) : funH Try.prog G30 HasI7 true 1000 79 (litV 7 (mkVs s 0 0 fAI.vals)) (mkM fAI s) [false] = some (.sint .i64 (bif Nat.beq (asI7F (asI7S s)).1 0 then 0 else 2), [asI7B (asI7S s), ((decide ((-(9223372036854775807 + 1)) ≤ (ofN (s.len 0)))) && (decide ((ofN (s.len 0)) ≤ 9223372036854775807))), !(badZ 7 s.x)]) := by kernel_rfl

theorem asI7_v (s : SV) (hq : asIQP s) (hz : s.x.i 0 = 7) (hb : badU s.x = false) : (bif Nat.beq (asI7F (asI7S s)).1 0 then 0 else 2 : Int) = askC s.x (s.len 0) (s.y 0) ∧ asI7B (asI7S s) = true ∧ (!(badZ 7 s.x)) = true := by
  have a0 : (asI7S s).x.i 0 = 0 := by kernel_rfl
  have a1 : (asI7S s).len 0 = s.len 0 := by kernel_rfl
  have a2 : (asI7S s).y 0 = s.y 0 := by kernel_rfl
  have a3 : (asI7S s).n 0 = s.n 0 := by kernel_rfl
  have a4 : (asI7S s).x.i 1 = s.len 0 := by kernel_rfl
  obtain ⟨q1, q2⟩ := hq
  obtain ⟨y1, y2⟩ := asI7_yes (asI7S s) (by omega) (by omega) (by omega)
  rw [a0, a1, a2] at y1 y2
  refine ⟨?_, asI7B_to ⟨by omega, by omega, by omega, by omega, by omega⟩, ?_⟩
  · unfold askC
    rw [hb, hz]
    by_cases ha : ∀ j : Nat, j < s.len 0 → rowOk 7 (s.y 0) j = true
    · rw [y1 fun j _ hj => ha j (by omega), show (7 : Int).toNat = 7 from rfl, allOk_yes ha]
      rfl
    · rw [y2 fun h => ha fun j hj => h j (by omega) (by omega), show (7 : Int).toNat = 7 from rfl, allOk_no ha]
      rfl
  · rw [badZ_eq hz, hb]
    rfl

noncomputable def asI8S (s : SV) : SV := (mkSV (apl [(.int .i64 0), (.sint .i64 (ofN (s.len 0)))] (apl (fl s.x 1 8) (apl [(.sint .i8 (s.x.i 9))] (apl (fl s.x 10 14) (apl [(.sint .i8 (s.x.i 24))] (apl (fl s.x 25 14) (apl [(.sint .i8 (s.x.i 39))] (apl (fl s.x 40 14) (apl [(.sint .i8 (s.x.i 54))] (apl (fl s.x 55 14) (apl [(.sint .i8 (s.x.i 69))] (apl (fl s.x 70 14) (apl [(.sint .i8 (s.x.i 84))] (apl (fl s.x 85 14) (apl [(.sint .i8 (s.x.i 99))] (apl (fl s.x 100 14) (apl [(.sint .i8 (s.x.i 114))] (fl s.x 115 14)))))))))))))))))) [(s.len 0)] [(s.n 0), 0] [(s.y 0), zeroV])

theorem asI8_e (s : SV) : funH Try.prog G30 HasI8 true 1000 79 (litV 8 (mkVs s 0 0 fAI.vals)) (mkM fAI s) [false] = some (.sint .i64 (bif Nat.beq (asI8F (asI8S s)).1 0 then 0 else 2), [asI8B (asI8S s), ((decide ((-(9223372036854775807 + 1)) ≤ (ofN (s.len 0)))) && (decide ((ofN (s.len 0)) ≤ 9223372036854775807))), !(badZ 8 s.x)]) := by kernel_rfl

theorem asI8_v (s : SV) (hq : asIQP s) (hz : s.x.i 0 = 8) (hb : badU s.x = false) : (bif Nat.beq (asI8F (asI8S s)).1 0 then 0 else 2 : Int) = askC s.x (s.len 0) (s.y 0) ∧ asI8B (asI8S s) = true ∧ (!(badZ 8 s.x)) = true := by
  have a0 : (asI8S s).x.i 0 = 0 := by kernel_rfl
  have a1 : (asI8S s).len 0 = s.len 0 := by kernel_rfl
  have a2 : (asI8S s).y 0 = s.y 0 := by kernel_rfl
  have a3 : (asI8S s).n 0 = s.n 0 := by kernel_rfl
  have a4 : (asI8S s).x.i 1 = s.len 0 := by kernel_rfl
  obtain ⟨q1, q2⟩ := hq
  obtain ⟨y1, y2⟩ := asI8_yes (asI8S s) (by omega) (by omega) (by omega)
  rw [a0, a1, a2] at y1 y2
  refine ⟨?_, asI8B_to ⟨by omega, by omega, by omega, by omega, by omega⟩, ?_⟩
  · unfold askC
    rw [hb, hz]
    by_cases ha : ∀ j : Nat, j < s.len 0 → rowOk 8 (s.y 0) j = true
    · rw [y1 fun j _ hj => ha j (by omega), show (8 : Int).toNat = 8 from rfl, allOk_yes ha]
      rfl
    · rw [y2 fun h => ha fun j hj => h j (by omega) (by omega), show (8 : Int).toNat = 8 from rfl, allOk_no ha]
      rfl
  · rw [badZ_eq hz, hb]
    rfl

noncomputable def GAasI : Summ := addG 79 (sumQ fAI [.sc (.int .i64)] asIQPre asIR) GAasS

set_option maxRecDepth 100000 in
theorem GAasI_ok : SoundG Try.prog GAasI := by
  unfold GAasI
  rw [asIR_eq]
  refine SoundG.sumQN GAasS_ok mixed Try.call79 G30_ok (by decide) fun s hp => ?_
  have hq := asIQB_of (hp _ (List.mem_cons_self ..))
  cases hb : badU s.x with
  | true => exact ⟨noLT, true, 1000, [true], _, _, _, _, (fun _ _ h => h), SameN.refl _, HFun.none Try.prog _ 79, asI_bad s, congrArg (AV.sint .i64) (show (1 : Int) = askC s.x (s.len 0) (s.y 0) by unfold askC; rw [hb]; rfl), rfl, rfl, allC hb allN⟩
  | false =>
    have hr := badU_rng hb
    have hc : s.x.i 0 = 1 ∨ s.x.i 0 = 2 ∨ s.x.i 0 = 3 ∨ s.x.i 0 = 4 ∨ s.x.i 0 = 5 ∨ s.x.i 0 = 6 ∨ s.x.i 0 = 7 ∨ s.x.i 0 = 8 := by omega
    rcases hc with hz | hz | hz | hz | hz | hz | hz | hz
    · obtain ⟨e, b1, b2⟩ := asI1_v s hq hz hb
      exact ⟨HasI1, true, 1000, [false], _, _, _, _, (fun _ _ h => vals_lit hz ((show mkVs s 0 0 fAI.vals = .agg (.sint .i8 (s.x.i 0) :: mkL s.x 1 (kd2).tail) :: mkVs s 129 0 (fAI.vals.tail) from by kernel_rfl) ▸ h)), SameN.refl _, HasI1_ok, asI1_e s, congrArg (AV.sint .i64) e, rfl, rfl, allC b1 (allC (andT (decide_eq_true (by unfold ofN; have := hq.1; omega)) (decide_eq_true (by unfold ofN; have := hq.1; omega))) (allC b2 allN))⟩
    · obtain ⟨e, b1, b2⟩ := asI2_v s hq hz hb
      exact ⟨HasI2, true, 1000, [false], _, _, _, _, (fun _ _ h => vals_lit hz ((show mkVs s 0 0 fAI.vals = .agg (.sint .i8 (s.x.i 0) :: mkL s.x 1 (kd2).tail) :: mkVs s 129 0 (fAI.vals.tail) from by kernel_rfl) ▸ h)), SameN.refl _, HasI2_ok, asI2_e s, congrArg (AV.sint .i64) e, rfl, rfl, allC b1 (allC (andT (decide_eq_true (by unfold ofN; have := hq.1; omega)) (decide_eq_true (by unfold ofN; have := hq.1; omega))) (allC b2 allN))⟩
    · obtain ⟨e, b1, b2⟩ := asI3_v s hq hz hb
      exact ⟨HasI3, true, 1000, [false], _, _, _, _, (fun _ _ h => vals_lit hz ((show mkVs s 0 0 fAI.vals = .agg (.sint .i8 (s.x.i 0) :: mkL s.x 1 (kd2).tail) :: mkVs s 129 0 (fAI.vals.tail) from by kernel_rfl) ▸ h)), SameN.refl _, HasI3_ok, asI3_e s, congrArg (AV.sint .i64) e, rfl, rfl, allC b1 (allC (andT (decide_eq_true (by unfold ofN; have := hq.1; omega)) (decide_eq_true (by unfold ofN; have := hq.1; omega))) (allC b2 allN))⟩
    · obtain ⟨e, b1, b2⟩ := asI4_v s hq hz hb
      exact ⟨HasI4, true, 1000, [false], _, _, _, _, (fun _ _ h => vals_lit hz ((show mkVs s 0 0 fAI.vals = .agg (.sint .i8 (s.x.i 0) :: mkL s.x 1 (kd2).tail) :: mkVs s 129 0 (fAI.vals.tail) from by kernel_rfl) ▸ h)), SameN.refl _, HasI4_ok, asI4_e s, congrArg (AV.sint .i64) e, rfl, rfl, allC b1 (allC (andT (decide_eq_true (by unfold ofN; have := hq.1; omega)) (decide_eq_true (by unfold ofN; have := hq.1; omega))) (allC b2 allN))⟩
    · obtain ⟨e, b1, b2⟩ := asI5_v s hq hz hb
      exact ⟨HasI5, true, 1000, [false], _, _, _, _, (fun _ _ h => vals_lit hz ((show mkVs s 0 0 fAI.vals = .agg (.sint .i8 (s.x.i 0) :: mkL s.x 1 (kd2).tail) :: mkVs s 129 0 (fAI.vals.tail) from by kernel_rfl) ▸ h)), SameN.refl _, HasI5_ok, asI5_e s, congrArg (AV.sint .i64) e, rfl, rfl, allC b1 (allC (andT (decide_eq_true (by unfold ofN; have := hq.1; omega)) (decide_eq_true (by unfold ofN; have := hq.1; omega))) (allC b2 allN))⟩
    · obtain ⟨e, b1, b2⟩ := asI6_v s hq hz hb
      exact ⟨HasI6, true, 1000, [false], _, _, _, _, (fun _ _ h => vals_lit hz ((show mkVs s 0 0 fAI.vals = .agg (.sint .i8 (s.x.i 0) :: mkL s.x 1 (kd2).tail) :: mkVs s 129 0 (fAI.vals.tail) from by kernel_rfl) ▸ h)), SameN.refl _, HasI6_ok, asI6_e s, congrArg (AV.sint .i64) e, rfl, rfl, allC b1 (allC (andT (decide_eq_true (by unfold ofN; have := hq.1; omega)) (decide_eq_true (by unfold ofN; have := hq.1; omega))) (allC b2 allN))⟩
    · obtain ⟨e, b1, b2⟩ := asI7_v s hq hz hb
      exact ⟨HasI7, true, 1000, [false], _, _, _, _, (fun _ _ h => vals_lit hz ((show mkVs s 0 0 fAI.vals = .agg (.sint .i8 (s.x.i 0) :: mkL s.x 1 (kd2).tail) :: mkVs s 129 0 (fAI.vals.tail) from by kernel_rfl) ▸ h)), SameN.refl _, HasI7_ok, asI7_e s, congrArg (AV.sint .i64) e, rfl, rfl, allC b1 (allC (andT (decide_eq_true (by unfold ofN; have := hq.1; omega)) (decide_eq_true (by unfold ofN; have := hq.1; omega))) (allC b2 allN))⟩
    · obtain ⟨e, b1, b2⟩ := asI8_v s hq hz hb
      exact ⟨HasI8, true, 1000, [false], _, _, _, _, (fun _ _ h => vals_lit hz ((show mkVs s 0 0 fAI.vals = .agg (.sint .i8 (s.x.i 0) :: mkL s.x 1 (kd2).tail) :: mkVs s 129 0 (fAI.vals.tail) from by kernel_rfl) ▸ h)), SameN.refl _, HasI8_ok, asI8_e s, congrArg (AV.sint .i64) e, rfl, rfl, allC b1 (allC (andT (decide_eq_true (by unfold ofN; have := hq.1; omega)) (decide_eq_true (by unfold ofN; have := hq.1; omega))) (allC b2 allN))⟩

end Go.Proofs.Ytagkkkplmilkhaa

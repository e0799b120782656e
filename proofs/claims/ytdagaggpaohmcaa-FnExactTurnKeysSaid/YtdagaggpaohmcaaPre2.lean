/-
  Facts of this seat that its laws use; no conditions.
-/
import Derived.Test.YtdagaggpaohmcaaAsked
import Derived.Test.YtdagaggpaohmcaaSimRd
namespace Go.Proofs.Ytdagaggpaohmcaa
open Go.Sim Go.ChangeShapes Go.WideShapes Go.ChangeAt Go.RowKit

theorem chain2 {a : Bool} {r : Int} (h : (bif (!a) then 2 else r) = 0) : a = true ∧ r = 0 := by
  cases a with
  | true => exact ⟨rfl, h⟩
  | false => cases h

theorem isFilm_in {v : Nat} (h : (isFilmR [.flt .f32 v]).b 0 = true) : isNan .f32 v = false ∧ v % 2147483648 ≤ 1233125376 := by
  rw [isFilmR_eq] at h
  have e := sb_inj (isFilm_x ⟨fun _ => v, fun _ => 0, fun _ => false, fun _ => .empty⟩)
  have w := within_rung (c := 1233125376) (by decide) (e.symm.trans h)
  exact ⟨w.1, w.2.1⟩

theorem isKey_in {v : Nat} (h : (isKeyR [.flt .f32 v]).b 0 = true) : isNan .f32 v = false ∧ v % 2147483648 ≤ 1098907648 := by
  rw [isKeyR_eq] at h
  have e := sb_inj (isKey_x ⟨fun _ => v, fun _ => 0, fun _ => false, fun _ => .empty⟩)
  have w := within_rung (c := 1098907648) (by decide) (e.symm.trans h)
  exact ⟨w.1, w.2.1⟩

theorem setStep {p k r : Bool} (h : (bif ((!p) || (!k)) then false else r) = true) : k = true ∧ r = true := by
  revert h
  cases p <;> cases k <;> intro h <;> first | exact ⟨rfl, h⟩ | cases h

set_option maxRecDepth 100000 in
theorem validSetting_key (x : Vars) (h : (validSettingR (mkL x 0 (kdsP [.val (.ag kd4)]))).b 0 = true) : (isKeyR [.flt .f32 (x.u 8)]).b 0 = true ∧ (isKeyR [.flt .f32 (x.u 9)]).b 0 = true ∧ (isKeyR [.flt .f32 (x.u 10)]).b 0 = true ∧ (isKeyR [.flt .f32 (x.u 11)]).b 0 = true ∧ (isKeyR [.flt .f32 (x.u 12)]).b 0 = true ∧ (isKeyR [.flt .f32 (x.u 13)]).b 0 = true ∧ (isKeyR [.flt .f32 (x.u 14)]).b 0 = true ∧ (isKeyR [.flt .f32 (x.u 15)]).b 0 = true := by
  rw [validSettingR_eq] at h
  have e := sb_inj (validSetting_x x)
  have h' := e.symm.trans h
  obtain ⟨a0, h'⟩ := setStep h'
  obtain ⟨a1, h'⟩ := setStep h'
  obtain ⟨a2, h'⟩ := setStep h'
  obtain ⟨a3, h'⟩ := setStep h'
  obtain ⟨a4, h'⟩ := setStep h'
  obtain ⟨a5, h'⟩ := setStep h'
  obtain ⟨a6, h'⟩ := setStep h'
  obtain ⟨a7, h'⟩ := setStep h'
  exact ⟨a0, a1, a2, a3, a4, a5, a6, a7⟩

theorem asked_z1 (x : Vars) (h : (askedZ1 (mkL x 0 (kdsP [.val (.ag kd2), .val (.ag kd4), .slc kd3 1 8]))).i 0 = 0) : (isFilmR [.flt .f32 (x.u 148)]).b 0 = true := by
  have h' := (show (bif (!((isFilmR [.flt .f32 (x.u 148)]).b 0)) then 2 else 0) = (askedZ1 (mkL x 0 (kdsP [.val (.ag kd2), .val (.ag kd4), .slc kd3 1 8]))).i 0 from by kernel_rfl).trans h
  obtain ⟨a0, h'⟩ := chain2 h'
  exact a0

theorem asked_z2 (x : Vars) (h : (askedZ2 (mkL x 0 (kdsP [.val (.ag kd2), .val (.ag kd4), .slc kd3 1 8]))).i 0 = 0) : (isFilmR [.flt .f32 (x.u 148)]).b 0 = true ∧ (isFilmR [.flt .f32 (x.u 149)]).b 0 = true := by
  have h' := (show (bif (!((isFilmR [.flt .f32 (x.u 148)]).b 0)) then 2 else (bif (!((isFilmR [.flt .f32 (x.u 149)]).b 0)) then 2 else 0)) = (askedZ2 (mkL x 0 (kdsP [.val (.ag kd2), .val (.ag kd4), .slc kd3 1 8]))).i 0 from by kernel_rfl).trans h
  obtain ⟨a0, h'⟩ := chain2 h'
  obtain ⟨a1, h'⟩ := chain2 h'
  exact ⟨a0, a1⟩

theorem asked_z3 (x : Vars) (h : (askedZ3 (mkL x 0 (kdsP [.val (.ag kd2), .val (.ag kd4), .slc kd3 1 8]))).i 0 = 0) : (isFilmR [.flt .f32 (x.u 148)]).b 0 = true ∧ (isFilmR [.flt .f32 (x.u 149)]).b 0 = true ∧ (isFilmR [.flt .f32 (x.u 150)]).b 0 = true := by
  have h' := (show (bif (!((isFilmR [.flt .f32 (x.u 148)]).b 0)) then 2 else (bif (!((isFilmR [.flt .f32 (x.u 149)]).b 0)) then 2 else (bif (!((isFilmR [.flt .f32 (x.u 150)]).b 0)) then 2 else 0))) = (askedZ3 (mkL x 0 (kdsP [.val (.ag kd2), .val (.ag kd4), .slc kd3 1 8]))).i 0 from by kernel_rfl).trans h
  obtain ⟨a0, h'⟩ := chain2 h'
  obtain ⟨a1, h'⟩ := chain2 h'
  obtain ⟨a2, h'⟩ := chain2 h'
  exact ⟨a0, a1, a2⟩

theorem asked_z4 (x : Vars) (h : (askedZ4 (mkL x 0 (kdsP [.val (.ag kd2), .val (.ag kd4), .slc kd3 1 8]))).i 0 = 0) : (isFilmR [.flt .f32 (x.u 148)]).b 0 = true ∧ (isFilmR [.flt .f32 (x.u 149)]).b 0 = true ∧ (isFilmR [.flt .f32 (x.u 150)]).b 0 = true ∧ (isFilmR [.flt .f32 (x.u 151)]).b 0 = true := by
  have h' := (show (bif (!((isFilmR [.flt .f32 (x.u 148)]).b 0)) then 2 else (bif (!((isFilmR [.flt .f32 (x.u 149)]).b 0)) then 2 else (bif (!((isFilmR [.flt .f32 (x.u 150)]).b 0)) then 2 else (bif (!((isFilmR [.flt .f32 (x.u 151)]).b 0)) then 2 else 0)))) = (askedZ4 (mkL x 0 (kdsP [.val (.ag kd2), .val (.ag kd4), .slc kd3 1 8]))).i 0 from by kernel_rfl).trans h
  obtain ⟨a0, h'⟩ := chain2 h'
  obtain ⟨a1, h'⟩ := chain2 h'
  obtain ⟨a2, h'⟩ := chain2 h'
  obtain ⟨a3, h'⟩ := chain2 h'
  exact ⟨a0, a1, a2, a3⟩

theorem asked_z5 (x : Vars) (h : (askedZ5 (mkL x 0 (kdsP [.val (.ag kd2), .val (.ag kd4), .slc kd3 1 8]))).i 0 = 0) : (isFilmR [.flt .f32 (x.u 148)]).b 0 = true ∧ (isFilmR [.flt .f32 (x.u 149)]).b 0 = true ∧ (isFilmR [.flt .f32 (x.u 150)]).b 0 = true ∧ (isFilmR [.flt .f32 (x.u 151)]).b 0 = true ∧ (isFilmR [.flt .f32 (x.u 152)]).b 0 = true := by
  have h' := (show (bif (!((isFilmR [.flt .f32 (x.u 148)]).b 0)) then 2 else (bif (!((isFilmR [.flt .f32 (x.u 149)]).b 0)) then 2 else (bif (!((isFilmR [.flt .f32 (x.u 150)]).b 0)) then 2 else (bif (!((isFilmR [.flt .f32 (x.u 151)]).b 0)) then 2 else (bif (!((isFilmR [.flt .f32 (x.u 152)]).b 0)) then 2 else 0))))) = (askedZ5 (mkL x 0 (kdsP [.val (.ag kd2), .val (.ag kd4), .slc kd3 1 8]))).i 0 from by kernel_rfl).trans h
  obtain ⟨a0, h'⟩ := chain2 h'
  obtain ⟨a1, h'⟩ := chain2 h'
  obtain ⟨a2, h'⟩ := chain2 h'
  obtain ⟨a3, h'⟩ := chain2 h'
  obtain ⟨a4, h'⟩ := chain2 h'
  exact ⟨a0, a1, a2, a3, a4⟩

theorem asked_z6 (x : Vars) (h : (askedZ6 (mkL x 0 (kdsP [.val (.ag kd2), .val (.ag kd4), .slc kd3 1 8]))).i 0 = 0) : (isFilmR [.flt .f32 (x.u 148)]).b 0 = true ∧ (isFilmR [.flt .f32 (x.u 149)]).b 0 = true ∧ (isFilmR [.flt .f32 (x.u 150)]).b 0 = true ∧ (isFilmR [.flt .f32 (x.u 151)]).b 0 = true ∧ (isFilmR [.flt .f32 (x.u 152)]).b 0 = true ∧ (isFilmR [.flt .f32 (x.u 153)]).b 0 = true := by
  have h' := (show (bif (!((isFilmR [.flt .f32 (x.u 148)]).b 0)) then 2 else (bif (!((isFilmR [.flt .f32 (x.u 149)]).b 0)) then 2 else (bif (!((isFilmR [.flt .f32 (x.u 150)]).b 0)) then 2 else (bif (!((isFilmR [.flt .f32 (x.u 151)]).b 0)) then 2 else (bif (!((isFilmR [.flt .f32 (x.u 152)]).b 0)) then 2 else (bif (!((isFilmR [.flt .f32 (x.u 153)]).b 0)) then 2 else 0)))))) = (askedZ6 (mkL x 0 (kdsP [.val (.ag kd2), .val (.ag kd4), .slc kd3 1 8]))).i 0 from by kernel_rfl).trans h
  obtain ⟨a0, h'⟩ := chain2 h'
  obtain ⟨a1, h'⟩ := chain2 h'
  obtain ⟨a2, h'⟩ := chain2 h'
  obtain ⟨a3, h'⟩ := chain2 h'
  obtain ⟨a4, h'⟩ := chain2 h'
  obtain ⟨a5, h'⟩ := chain2 h'
  exact ⟨a0, a1, a2, a3, a4, a5⟩

theorem asked_z7 (x : Vars) (h : (askedZ7 (mkL x 0 (kdsP [.val (.ag kd2), .val (.ag kd4), .slc kd3 1 8]))).i 0 = 0) : (isFilmR [.flt .f32 (x.u 148)]).b 0 = true ∧ (isFilmR [.flt .f32 (x.u 149)]).b 0 = true ∧ (isFilmR [.flt .f32 (x.u 150)]).b 0 = true ∧ (isFilmR [.flt .f32 (x.u 151)]).b 0 = true ∧ (isFilmR [.flt .f32 (x.u 152)]).b 0 = true ∧ (isFilmR [.flt .f32 (x.u 153)]).b 0 = true ∧ (isFilmR [.flt .f32 (x.u 154)]).b 0 = true := by
  have h' := (show (bif (!((isFilmR [.flt .f32 (x.u 148)]).b 0)) then 2 else (bif (!((isFilmR [.flt .f32 (x.u 149)]).b 0)) then 2 else (bif (!((isFilmR [.flt .f32 (x.u 150)]).b 0)) then 2 else (bif (!((isFilmR [.flt .f32 (x.u 151)]).b 0)) then 2 else (bif (!((isFilmR [.flt .f32 (x.u 152)]).b 0)) then 2 else (bif (!((isFilmR [.flt .f32 (x.u 153)]).b 0)) then 2 else (bif (!((isFilmR [.flt .f32 (x.u 154)]).b 0)) then 2 else 0))))))) = (askedZ7 (mkL x 0 (kdsP [.val (.ag kd2), .val (.ag kd4), .slc kd3 1 8]))).i 0 from by kernel_rfl).trans h
  obtain ⟨a0, h'⟩ := chain2 h'
  obtain ⟨a1, h'⟩ := chain2 h'
  obtain ⟨a2, h'⟩ := chain2 h'
  obtain ⟨a3, h'⟩ := chain2 h'
  obtain ⟨a4, h'⟩ := chain2 h'
  obtain ⟨a5, h'⟩ := chain2 h'
  obtain ⟨a6, h'⟩ := chain2 h'
  exact ⟨a0, a1, a2, a3, a4, a5, a6⟩

theorem asked_z8 (x : Vars) (h : (askedZ8 (mkL x 0 (kdsP [.val (.ag kd2), .val (.ag kd4), .slc kd3 1 8]))).i 0 = 0) : (isFilmR [.flt .f32 (x.u 148)]).b 0 = true ∧ (isFilmR [.flt .f32 (x.u 149)]).b 0 = true ∧ (isFilmR [.flt .f32 (x.u 150)]).b 0 = true ∧ (isFilmR [.flt .f32 (x.u 151)]).b 0 = true ∧ (isFilmR [.flt .f32 (x.u 152)]).b 0 = true ∧ (isFilmR [.flt .f32 (x.u 153)]).b 0 = true ∧ (isFilmR [.flt .f32 (x.u 154)]).b 0 = true ∧ (isFilmR [.flt .f32 (x.u 155)]).b 0 = true := by
  have h' := (show (bif (!((isFilmR [.flt .f32 (x.u 148)]).b 0)) then 2 else (bif (!((isFilmR [.flt .f32 (x.u 149)]).b 0)) then 2 else (bif (!((isFilmR [.flt .f32 (x.u 150)]).b 0)) then 2 else (bif (!((isFilmR [.flt .f32 (x.u 151)]).b 0)) then 2 else (bif (!((isFilmR [.flt .f32 (x.u 152)]).b 0)) then 2 else (bif (!((isFilmR [.flt .f32 (x.u 153)]).b 0)) then 2 else (bif (!((isFilmR [.flt .f32 (x.u 154)]).b 0)) then 2 else (bif (!((isFilmR [.flt .f32 (x.u 155)]).b 0)) then 2 else 0)))))))) = (askedZ8 (mkL x 0 (kdsP [.val (.ag kd2), .val (.ag kd4), .slc kd3 1 8]))).i 0 from by kernel_rfl).trans h
  obtain ⟨a0, h'⟩ := chain2 h'
  obtain ⟨a1, h'⟩ := chain2 h'
  obtain ⟨a2, h'⟩ := chain2 h'
  obtain ⟨a3, h'⟩ := chain2 h'
  obtain ⟨a4, h'⟩ := chain2 h'
  obtain ⟨a5, h'⟩ := chain2 h'
  obtain ⟨a6, h'⟩ := chain2 h'
  obtain ⟨a7, h'⟩ := chain2 h'
  exact ⟨a0, a1, a2, a3, a4, a5, a6, a7⟩

set_option maxRecDepth 100000 in
theorem askedB (x : Vars) (h : (askedR (mkL x 0 (kdsP [.val (.ag kd2), .val (.ag kd4), .slc kd3 1 8]))).i 0 = 0) : askedB0 (mkL x 0 (kdsP [.val (.ag kd2), .val (.ag kd4), .slc kd3 1 8])) = false := by
  cases hv : askedB0 (mkL x 0 (kdsP [.val (.ag kd2), .val (.ag kd4), .slc kd3 1 8])) with
  | false => rfl
  | true =>
    exfalso
    have e : askedR (mkL x 0 (kdsP [.val (.ag kd2), .val (.ag kd4), .slc kd3 1 8])) = askedZE0 (mkL x 0 (kdsP [.val (.ag kd2), .val (.ag kd4), .slc kd3 1 8])) := by rw [askedR_eq]; unfold askedR0; rw [hv]; rfl
    rw [e] at h
    have h1 : (askedZE0 (mkL x 0 (kdsP [.val (.ag kd2), .val (.ag kd4), .slc kd3 1 8]))).i 0 = 1 := by kernel_rfl
    rw [h1] at h
    cases h

theorem askedFilm (x : Vars) (h : (askedR (mkL x 0 (kdsP [.val (.ag kd2), .val (.ag kd4), .slc kd3 1 8]))).i 0 = 0) : (0 < x.i 0 → (isFilmR [.flt .f32 (x.u 148)]).b 0 = true) ∧ (1 < x.i 0 → (isFilmR [.flt .f32 (x.u 149)]).b 0 = true) ∧ (2 < x.i 0 → (isFilmR [.flt .f32 (x.u 150)]).b 0 = true) ∧ (3 < x.i 0 → (isFilmR [.flt .f32 (x.u 151)]).b 0 = true) ∧ (4 < x.i 0 → (isFilmR [.flt .f32 (x.u 152)]).b 0 = true) ∧ (5 < x.i 0 → (isFilmR [.flt .f32 (x.u 153)]).b 0 = true) ∧ (6 < x.i 0 → (isFilmR [.flt .f32 (x.u 154)]).b 0 = true) ∧ (7 < x.i 0 → (isFilmR [.flt .f32 (x.u 155)]).b 0 = true) := by
  have h0 := askedB x h
  have hr := askedRng x h0
  have : x.i 0 = 1 ∨ x.i 0 = 2 ∨ x.i 0 = 3 ∨ x.i 0 = 4 ∨ x.i 0 = 5 ∨ x.i 0 = 6 ∨ x.i 0 = 7 ∨ x.i 0 = 8 := by omega
  rcases this with hz | hz | hz | hz | hz | hz | hz | hz
  · have e : askedR (mkL x 0 (kdsP [.val (.ag kd2), .val (.ag kd4), .slc kd3 1 8])) = askedZ1 (mkL x 0 (kdsP [.val (.ag kd2), .val (.ag kd4), .slc kd3 1 8])) := by
      rw [askedR_eq]
      unfold askedR0
      have hz : intOf (leafN (mkL x 0 (kdsP [.val (.ag kd2), .val (.ag kd4), .slc kd3 1 8])) 0) = 1 := hz
      rw [h0, hz]
      rfl
    rw [e] at h
    have F := asked_z1 x h
    exact ⟨fun _ => F, fun hi => absurd hi (by omega), fun hi => absurd hi (by omega), fun hi => absurd hi (by omega), fun hi => absurd hi (by omega), fun hi => absurd hi (by omega), fun hi => absurd hi (by omega), fun hi => absurd hi (by omega)⟩
  · have e : askedR (mkL x 0 (kdsP [.val (.ag kd2), .val (.ag kd4), .slc kd3 1 8])) = askedZ2 (mkL x 0 (kdsP [.val (.ag kd2), .val (.ag kd4), .slc kd3 1 8])) := by
      rw [askedR_eq]
      unfold askedR0
      have hz : intOf (leafN (mkL x 0 (kdsP [.val (.ag kd2), .val (.ag kd4), .slc kd3 1 8])) 0) = 2 := hz
      rw [h0, hz]
      rfl
    rw [e] at h
    have F := asked_z2 x h
    exact ⟨fun _ => F.1, fun _ => F.2, fun hi => absurd hi (by omega), fun hi => absurd hi (by omega), fun hi => absurd hi (by omega), fun hi => absurd hi (by omega), fun hi => absurd hi (by omega), fun hi => absurd hi (by omega)⟩
  · have e : askedR (mkL x 0 (kdsP [.val (.ag kd2), .val (.ag kd4), .slc kd3 1 8])) = askedZ3 (mkL x 0 (kdsP [.val (.ag kd2), .val (.ag kd4), .slc kd3 1 8])) := by
      rw [askedR_eq]
      unfold askedR0
      have hz : intOf (leafN (mkL x 0 (kdsP [.val (.ag kd2), .val (.ag kd4), .slc kd3 1 8])) 0) = 3 := hz
      rw [h0, hz]
      rfl
    rw [e] at h
    have F := asked_z3 x h
    exact ⟨fun _ => F.1, fun _ => F.2.1, fun _ => F.2.2, fun hi => absurd hi (by omega), fun hi => absurd hi (by omega), fun hi => absurd hi (by omega), fun hi => absurd hi (by omega), fun hi => absurd hi (by omega)⟩
  · have e : askedR (mkL x 0 (kdsP [.val (.ag kd2), .val (.ag kd4), .slc kd3 1 8])) = askedZ4 (mkL x 0 (kdsP [.val (.ag kd2), .val (.ag kd4), .slc kd3 1 8])) := by
      rw [askedR_eq]
      unfold askedR0
      have hz : intOf (leafN (mkL x 0 (kdsP [.val (.ag kd2), .val (.ag kd4), .slc kd3 1 8])) 0) = 4 := hz
      rw [h0, hz]
      rfl
    rw [e] at h
    have F := asked_z4 x h
    exact ⟨fun _ => F.1, fun _ => F.2.1, fun _ => F.2.2.1, fun _ => F.2.2.2, fun hi => absurd hi (by omega), fun hi => absurd hi (by omega), fun hi => absurd hi (by omega), fun hi => absurd hi (by omega)⟩
  · have e : askedR (mkL x 0 (kdsP [.val (.ag kd2), .val (.ag kd4), .slc kd3 1 8])) = askedZ5 (mkL x 0 (kdsP [.val (.ag kd2), .val (.ag kd4), .slc kd3 1 8])) := by
      rw [askedR_eq]
      unfold askedR0
      have hz : intOf (leafN (mkL x 0 (kdsP [.val (.ag kd2), .val (.ag kd4), .slc kd3 1 8])) 0) = 5 := hz
      rw [h0, hz]
      rfl
    rw [e] at h
    have F := asked_z5 x h
    exact ⟨fun _ => F.1, fun _ => F.2.1, fun _ => F.2.2.1, fun _ => F.2.2.2.1, fun _ => F.2.2.2.2, fun hi => absurd hi (by omega), fun hi => absurd hi (by omega), fun hi => absurd hi (by omega)⟩
  · have e : askedR (mkL x 0 (kdsP [.val (.ag kd2), .val (.ag kd4), .slc kd3 1 8])) = askedZ6 (mkL x 0 (kdsP [.val (.ag kd2), .val (.ag kd4), .slc kd3 1 8])) := by
      rw [askedR_eq]
      unfold askedR0
      have hz : intOf (leafN (mkL x 0 (kdsP [.val (.ag kd2), .val (.ag kd4), .slc kd3 1 8])) 0) = 6 := hz
      rw [h0, hz]
      rfl
    rw [e] at h
    have F := asked_z6 x h
    exact ⟨fun _ => F.1, fun _ => F.2.1, fun _ => F.2.2.1, fun _ => F.2.2.2.1, fun _ => F.2.2.2.2.1, fun _ => F.2.2.2.2.2, fun hi => absurd hi (by omega), fun hi => absurd hi (by omega)⟩
  · have e : askedR (mkL x 0 (kdsP [.val (.ag kd2), .val (.ag kd4), .slc kd3 1 8])) = askedZ7 (mkL x 0 (kdsP [.val (.ag kd2), .val (.ag kd4), .slc kd3 1 8])) := by
      rw [askedR_eq]
      unfold askedR0
      have hz : intOf (leafN (mkL x 0 (kdsP [.val (.ag kd2), .val (.ag kd4), .slc kd3 1 8])) 0) = 7 := hz
      rw [h0, hz]
      rfl
    rw [e] at h
    have F := asked_z7 x h
    exact ⟨fun _ => F.1, fun _ => F.2.1, fun _ => F.2.2.1, fun _ => F.2.2.2.1, fun _ => F.2.2.2.2.1, fun _ => F.2.2.2.2.2.1, fun _ => F.2.2.2.2.2.2, fun hi => absurd hi (by omega)⟩
  · have e : askedR (mkL x 0 (kdsP [.val (.ag kd2), .val (.ag kd4), .slc kd3 1 8])) = askedZ8 (mkL x 0 (kdsP [.val (.ag kd2), .val (.ag kd4), .slc kd3 1 8])) := by
      rw [askedR_eq]
      unfold askedR0
      have hz : intOf (leafN (mkL x 0 (kdsP [.val (.ag kd2), .val (.ag kd4), .slc kd3 1 8])) 0) = 8 := hz
      rw [h0, hz]
      rfl
    rw [e] at h
    have F := asked_z8 x h
    exact ⟨fun _ => F.1, fun _ => F.2.1, fun _ => F.2.2.1, fun _ => F.2.2.2.1, fun _ => F.2.2.2.2.1, fun _ => F.2.2.2.2.2.1, fun _ => F.2.2.2.2.2.2.1, fun _ => F.2.2.2.2.2.2.2⟩

theorem askedOk (x : Vars) (h : (askedR (mkL x 0 (kdsP [.val (.ag kd2), .val (.ag kd4), .slc kd3 1 8]))).i 0 = 0) : decide (1 ≤ x.i 0) = true ∧ decide (x.i 0 ≤ 8) = true ∧ (decide (x.i 0 ≤ 0) || (!(isNan .f32 (farith .sub .f32 (x.u 137) (x.u 148))))) = true ∧ (decide (x.i 0 ≤ 1) || (!(isNan .f32 (farith .sub .f32 (x.u 138) (x.u 149))))) = true ∧ (decide (x.i 0 ≤ 2) || (!(isNan .f32 (farith .sub .f32 (x.u 139) (x.u 150))))) = true ∧ (decide (x.i 0 ≤ 3) || (!(isNan .f32 (farith .sub .f32 (x.u 140) (x.u 151))))) = true ∧ (decide (x.i 0 ≤ 4) || (!(isNan .f32 (farith .sub .f32 (x.u 141) (x.u 152))))) = true ∧ (decide (x.i 0 ≤ 5) || (!(isNan .f32 (farith .sub .f32 (x.u 142) (x.u 153))))) = true ∧ (decide (x.i 0 ≤ 6) || (!(isNan .f32 (farith .sub .f32 (x.u 143) (x.u 154))))) = true ∧ (decide (x.i 0 ≤ 7) || (!(isNan .f32 (farith .sub .f32 (x.u 144) (x.u 155))))) = true := by
  have h0 := askedB x h
  have hr := askedRng x h0
  have F := askedFilm x h
  have K := validSetting_key (varsOf (List.take 19 (List.drop 129 (mkL x 0 (kdsP [.val (.ag kd2), .val (.ag kd4), .slc kd3 1 8]))))) ((show (validSettingR (mkL (varsOf (List.take 19 (List.drop 129 (mkL x 0 (kdsP [.val (.ag kd2), .val (.ag kd4), .slc kd3 1 8]))))) 0 (kdsP [.val (.ag kd4)]))).b 0 = (validSettingR (List.take 19 (List.drop 129 (mkL x 0 (kdsP [.val (.ag kd2), .val (.ag kd4), .slc kd3 1 8]))))).b 0 from by kernel_rfl).trans (askedVal x h0).2)
  have key : ∀ a b : Nat, (isKeyR [.flt .f32 a]).b 0 = true → (isFilmR [.flt .f32 b]).b 0 = true → (!(isNan .f32 (farith .sub .f32 a b))) = true := fun a b ha hb => notT (sub_num (Nat.lt_of_le_of_lt (isKey_in ha).2 (by decide)) (isFilm_in hb).1)
  exact ⟨decide_eq_true hr.1, decide_eq_true hr.2, orE fun h2 => key _ _ (K.1) (F.1 (Int.not_le.1 (of_decide_eq_false h2))), orE fun h2 => key _ _ (K.2.1) (F.2.1 (Int.not_le.1 (of_decide_eq_false h2))), orE fun h2 => key _ _ (K.2.2.1) (F.2.2.1 (Int.not_le.1 (of_decide_eq_false h2))), orE fun h2 => key _ _ (K.2.2.2.1) (F.2.2.2.1 (Int.not_le.1 (of_decide_eq_false h2))), orE fun h2 => key _ _ (K.2.2.2.2.1) (F.2.2.2.2.1 (Int.not_le.1 (of_decide_eq_false h2))), orE fun h2 => key _ _ (K.2.2.2.2.2.1) (F.2.2.2.2.2.1 (Int.not_le.1 (of_decide_eq_false h2))), orE fun h2 => key _ _ (K.2.2.2.2.2.2.1) (F.2.2.2.2.2.2.1 (Int.not_le.1 (of_decide_eq_false h2))), orE fun h2 => key _ _ (K.2.2.2.2.2.2.2) (F.2.2.2.2.2.2.2 (Int.not_le.1 (of_decide_eq_false h2)))⟩

theorem notDec {a b : Int} (h : (!(decide (a = b))) = false) : a = b := by
  cases hd : decide (a = b) with
  | true => exact of_decide_eq_true hd
  | false => rw [hd] at h; cases h

end Go.Proofs.Ytdagaggpaohmcaa

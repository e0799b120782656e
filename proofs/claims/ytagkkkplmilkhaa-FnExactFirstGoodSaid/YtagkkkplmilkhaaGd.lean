/-
  Facts of this seat that its laws use; no conditions.
-/
import Derived.Test.YtagkkkplmilkhaaGda
namespace Go.Proofs.Ytagkkkplmilkhaa
open Go.Sim Go.ChangeShapes Go.WideShapes Go.ChangeAt Go.RowKit

def gdI8Ls (s : SV) : List AV := (apl [(.sint .i8 8)] (apl (fl s.x 2 8) (apl [(.sint .i8 (s.x.i 10))] (apl (fl s.x 11 14) (apl [(.sint .i8 (s.x.i 25))] (apl (fl s.x 26 14) (apl [(.sint .i8 (s.x.i 40))] (apl (fl s.x 41 14) (apl [(.sint .i8 (s.x.i 55))] (apl (fl s.x 56 14) (apl [(.sint .i8 (s.x.i 70))] (apl (fl s.x 71 14) (apl [(.sint .i8 (s.x.i 85))] (apl (fl s.x 86 14) (apl [(.sint .i8 (s.x.i 100))] (apl (fl s.x 101 14) (apl [(.sint .i8 (s.x.i 115))] (apl (fl s.x 116 32) ([(.sint .i16 (s.x.i 148)), (.flt .f32 ((s.y 0).u (padd (padd 0 (pmul (itn (s.x.i 0)) 8)) 0))), (.flt .f32 ((s.y 0).u (padd (padd 0 (pmul (itn (s.x.i 0)) 8)) 1))), (.flt .f32 ((s.y 0).u (padd (padd 0 (pmul (itn (s.x.i 0)) 8)) 2))), (.flt .f32 ((s.y 0).u (padd (padd 0 (pmul (itn (s.x.i 0)) 8)) 3))), (.flt .f32 ((s.y 0).u (padd (padd 0 (pmul (itn (s.x.i 0)) 8)) 4))), (.flt .f32 ((s.y 0).u (padd (padd 0 (pmul (itn (s.x.i 0)) 8)) 5))), (.flt .f32 ((s.y 0).u (padd (padd 0 (pmul (itn (s.x.i 0)) 8)) 6))), (.flt .f32 ((s.y 0).u (padd (padd 0 (pmul (itn (s.x.i 0)) 8)) 7)))])))))))))))))))))))

theorem gdI8G_eq (s : SV) (hlt : s.x.i 0 < s.len 0) (hP : gdI8P s) : gdI8G s = goodF 8 (fun i => s.x.u (138 + i)) (s.x.u 146) (s.y 0) (s.x.i 0).toNat := by
  obtain ⟨i1, i2, i3, i4, i5, i6, i7, i8, i9⟩ := hP
  have ro := i8 (s.x.i 0).toNat (by omega)
  have nan0 : isNan .f32 (farith .sub .f32 (s.x.u 138) ((s.y 0).u (padd (padd 0 (pmul (itn (s.x.i 0)) 8)) 0))) = false := by
    rw [idxI]
    exact sub_num (Nat.lt_of_le_of_lt (i9 0 (by decide)) (by decide)) (isFilm_in (rowOk_get ro (show 0 < 8 by decide))).1
  have nan1 : isNan .f32 (farith .sub .f32 (s.x.u 139) ((s.y 0).u (padd (padd 0 (pmul (itn (s.x.i 0)) 8)) 1))) = false := by
    rw [idxI]
    exact sub_num (Nat.lt_of_le_of_lt (i9 1 (by decide)) (by decide)) (isFilm_in (rowOk_get ro (show 1 < 8 by decide))).1
  have nan2 : isNan .f32 (farith .sub .f32 (s.x.u 140) ((s.y 0).u (padd (padd 0 (pmul (itn (s.x.i 0)) 8)) 2))) = false := by
    rw [idxI]
    exact sub_num (Nat.lt_of_le_of_lt (i9 2 (by decide)) (by decide)) (isFilm_in (rowOk_get ro (show 2 < 8 by decide))).1
  have nan3 : isNan .f32 (farith .sub .f32 (s.x.u 141) ((s.y 0).u (padd (padd 0 (pmul (itn (s.x.i 0)) 8)) 3))) = false := by
    rw [idxI]
    exact sub_num (Nat.lt_of_le_of_lt (i9 3 (by decide)) (by decide)) (isFilm_in (rowOk_get ro (show 3 < 8 by decide))).1
  have nan4 : isNan .f32 (farith .sub .f32 (s.x.u 142) ((s.y 0).u (padd (padd 0 (pmul (itn (s.x.i 0)) 8)) 4))) = false := by
    rw [idxI]
    exact sub_num (Nat.lt_of_le_of_lt (i9 4 (by decide)) (by decide)) (isFilm_in (rowOk_get ro (show 4 < 8 by decide))).1
  have nan5 : isNan .f32 (farith .sub .f32 (s.x.u 143) ((s.y 0).u (padd (padd 0 (pmul (itn (s.x.i 0)) 8)) 5))) = false := by
    rw [idxI]
    exact sub_num (Nat.lt_of_le_of_lt (i9 5 (by decide)) (by decide)) (isFilm_in (rowOk_get ro (show 5 < 8 by decide))).1
  have nan6 : isNan .f32 (farith .sub .f32 (s.x.u 144) ((s.y 0).u (padd (padd 0 (pmul (itn (s.x.i 0)) 8)) 6))) = false := by
    rw [idxI]
    exact sub_num (Nat.lt_of_le_of_lt (i9 6 (by decide)) (by decide)) (isFilm_in (rowOk_get ro (show 6 < 8 by decide))).1
  have nan7 : isNan .f32 (farith .sub .f32 (s.x.u 145) ((s.y 0).u (padd (padd 0 (pmul (itn (s.x.i 0)) 8)) 7))) = false := by
    rw [idxI]
    exact sub_num (Nat.lt_of_le_of_lt (i9 7 (by decide)) (by decide)) (isFilm_in (rowOk_get ro (show 7 < 8 by decide))).1
  have e1 : (gdI8_v_0 s).u 8 = off_m7 (varsOf (gdI8Ls s)) := by
    show (offR (gdI8Ls s)).u 8 = _
    rw [offR_eq]
    kernel_rfl
  have e2 := (off_b7 (varsOf (gdI8Ls s)) ((show isNan .f32 (farith .sub .f32 ((varsOf (gdI8Ls s)).u 137) ((varsOf (gdI8Ls s)).u 148)) = isNan .f32 (farith .sub .f32 (s.x.u 138) ((s.y 0).u (padd (padd 0 (pmul (itn (s.x.i 0)) 8)) 0))) from by kernel_rfl).trans nan0) ((show isNan .f32 (farith .sub .f32 ((varsOf (gdI8Ls s)).u 138) ((varsOf (gdI8Ls s)).u 149)) = isNan .f32 (farith .sub .f32 (s.x.u 139) ((s.y 0).u (padd (padd 0 (pmul (itn (s.x.i 0)) 8)) 1))) from by kernel_rfl).trans nan1) ((show isNan .f32 (farith .sub .f32 ((varsOf (gdI8Ls s)).u 139) ((varsOf (gdI8Ls s)).u 150)) = isNan .f32 (farith .sub .f32 (s.x.u 140) ((s.y 0).u (padd (padd 0 (pmul (itn (s.x.i 0)) 8)) 2))) from by kernel_rfl).trans nan2) ((show isNan .f32 (farith .sub .f32 ((varsOf (gdI8Ls s)).u 140) ((varsOf (gdI8Ls s)).u 151)) = isNan .f32 (farith .sub .f32 (s.x.u 141) ((s.y 0).u (padd (padd 0 (pmul (itn (s.x.i 0)) 8)) 3))) from by kernel_rfl).trans nan3) ((show isNan .f32 (farith .sub .f32 ((varsOf (gdI8Ls s)).u 141) ((varsOf (gdI8Ls s)).u 152)) = isNan .f32 (farith .sub .f32 (s.x.u 142) ((s.y 0).u (padd (padd 0 (pmul (itn (s.x.i 0)) 8)) 4))) from by kernel_rfl).trans nan4) ((show isNan .f32 (farith .sub .f32 ((varsOf (gdI8Ls s)).u 142) ((varsOf (gdI8Ls s)).u 153)) = isNan .f32 (farith .sub .f32 (s.x.u 143) ((s.y 0).u (padd (padd 0 (pmul (itn (s.x.i 0)) 8)) 5))) from by kernel_rfl).trans nan5) ((show isNan .f32 (farith .sub .f32 ((varsOf (gdI8Ls s)).u 143) ((varsOf (gdI8Ls s)).u 154)) = isNan .f32 (farith .sub .f32 (s.x.u 144) ((s.y 0).u (padd (padd 0 (pmul (itn (s.x.i 0)) 8)) 6))) from by kernel_rfl).trans nan6) ((show isNan .f32 (farith .sub .f32 ((varsOf (gdI8Ls s)).u 144) ((varsOf (gdI8Ls s)).u 155)) = isNan .f32 (farith .sub .f32 (s.x.u 145) ((s.y 0).u (padd (padd 0 (pmul (itn (s.x.i 0)) 8)) 7))) from by kernel_rfl).trans nan7)).1
  have e3 : off_r7 (varsOf (gdI8Ls s)) = gM (fun i => szD (s.x.u (138 + i)) ((s.y 0).u (padd (padd 0 (pmul (itn (s.x.i 0)) 8)) i))) 8 := by kernel_rfl
  unfold gdI8G goodF
  rw [e1, e2, e3]
  rw [gM_congr (z := 8) (f := fun i => szD (s.x.u (138 + i)) ((s.y 0).u (padd (padd 0 (pmul (itn (s.x.i 0)) 8)) i))) (g := fun i => szD (s.x.u (138 + i)) ((s.y 0).u (8 * (s.x.i 0).toNat + i))) fun i _ => by rw [idxI]]

theorem gdI8_yes (s : SV) (hP : gdI8P s) (h0 : s.x.i 0 = 0) (hl : s.len 1 = 0) :
    (gdI8F s).1 = 0 ∧ (gdI8F s).2.len 0 = s.len 0 ∧ (∀ j, j < s.len 0 → ((gdI8F s).2.y 1).b j = goodF 8 (fun i => s.x.u (138 + i)) (s.x.u 146) (s.y 0) j) ∧ (gdI8F s).2.n 1 = s.len 0 ∧ (gdI8F s).2.n 0 = s.n 0 ∧ (gdI8F s).2.y 0 = s.y 0 := by
  rw [gdI8F_eq]
  let P : SV → Prop := fun r => gdI8P r ∧ r.len 0 = s.len 0 ∧ r.n 0 = s.n 0 ∧ r.y 0 = s.y 0 ∧ r.x.u 146 = s.x.u 146 ∧ ∀ i, i < 8 → r.x.u (138 + i) = s.x.u (138 + i)
  have k1 : ∀ r, P r → r.x.i 0 < s.len 0 → (gdI8T r).pick = .next (gdI8N r) := fun r hr hlt => by
    have h5 := hr.1.2.2.2.2.1
    unfold gdI8T
    rw [decide_eq_true (show r.x.i 0 < r.x.i 1 by have := hr.2.1; omega)]
    rfl
  have k2 : ∀ r, P r → r.x.i 0 < s.len 0 → (gdI8N r).x.i 0 = r.x.i 0 + 1 ∧ (gdI8N r).len 1 = r.len 1 + 1 ∧ (gdI8N r).y 3 = pushV (r.y 3) 0 (pmul (r.len 1) 1) [.sbool (goodF 8 (fun i => s.x.u (138 + i)) (s.x.u 146) (s.y 0) (r.x.i 0).toNat)] ∧ P (gdI8N r) := fun r hr hlt => by
    have hpk := k1 r hr hlt
    obtain ⟨hr1, q0, qn, q1, q2, q3⟩ := hr
    obtain ⟨e0, e1, l0, l1, n0, n3, y0, y3, w0, u0, u1, u2, u3, u4, u5, u6, u7⟩ := gdI8N_k r
    rw [gdI8G_eq r (by omega) hr1, q1, q2] at y3
    have eg : goodF 8 (fun i => r.x.u (138 + i)) (s.x.u 146) (s.y 0) (r.x.i 0).toNat = goodF 8 (fun i => s.x.u (138 + i)) (s.x.u 146) (s.y 0) (r.x.i 0).toNat := by
      unfold goodF
      rw [gM_congr (z := 8) (f := fun i => szD (r.x.u (138 + i)) ((s.y 0).u (8 * (r.x.i 0).toNat + i))) (g := fun i => szD (s.x.u (138 + i)) ((s.y 0).u (8 * (r.x.i 0).toNat + i))) fun i hi => by rw [q3 i (by omega)]]
    rw [eg] at y3
    have hB : gdI8B (gdI8N r) = true := ((gdI8_go r (allC (gdI8B_to hr1) allN)).2.2 _ hpk).1 _ (List.mem_cons_self ..)
    exact ⟨e0, l1, y3, gdI8B_of hB, l0.trans q0, n0.trans qn, y0.trans q1, w0.trans q2, fun i hi => (eightI (P := fun i => (gdI8N r).x.u (138 + i) = r.x.u (138 + i)) u0 u1 u2 u3 u4 u5 u6 u7 i hi).trans (q3 i hi)⟩
  have k3 : ∀ r, P r → ¬ r.x.i 0 < s.len 0 → (gdI8T r).pick = .out 0 (gdI8E r) ∧ (gdI8E r).len 0 = r.len 1 ∧ (gdI8E r).y 1 = r.y 3 := fun r hr hlt => by
    have h5 := hr.1.2.2.2.2.1
    refine ⟨?_, by kernel_rfl, by kernel_rfl⟩
    unfold gdI8T
    rw [decide_eq_false (show ¬ r.x.i 0 < r.x.i 1 by have := hr.2.1; omega)]
    rfl
  obtain ⟨a, b, c, r, hr, e, el⟩ := gd_run (T := gdI8T) (N := gdI8N) (E := gdI8E) P (goodF 8 (fun i => s.x.u (138 + i)) (s.x.u 146) (s.y 0)) (s.len 0) k1 k2 k3 (gdI8Mu s + 1) s ⟨hP, rfl, rfl, rfl, rfl, fun _ _ => rfl⟩ (by omega) (by omega) (by omega) (Nat.lt_succ_self _) (fun j hj => by omega)
  refine ⟨a, b, c, ?_, ?_, ?_⟩
  · show (Go.Sim.runT gdI8T (gdI8Mu s + 1) s).2.n 1 = _
    rw [e]
    have h7 := hr.1.2.2.2.2.2.2.1
    exact (show (gdI8E r).n 1 = r.n 3 from by kernel_rfl).trans (h7.trans el)
  · show (Go.Sim.runT gdI8T (gdI8Mu s + 1) s).2.n 0 = _
    rw [e]
    exact (show (gdI8E r).n 0 = r.n 0 from by kernel_rfl).trans hr.2.2.1
  · show (Go.Sim.runT gdI8T (gdI8Mu s + 1) s).2.y 0 = _
    rw [e]
    exact (show (gdI8E r).y 0 = r.y 0 from by kernel_rfl).trans hr.2.2.2.1

end Go.Proofs.Ytagkkkplmilkhaa

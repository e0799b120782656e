/-
  Facts of this seat that its laws use; no conditions.
-/
import Derived.Test.YtekilpllicggeaaBase
namespace Go.Proofs.Ytekilpllicggeaa
open Go.Sim Go.ChangeShapes Go.WideShapes Go.ChangeAt Go.RowKit

noncomputable def G2 : Summ := inlGs Try.prog 1000 [64, 99, 69] G1

theorem G2_ok : SoundG Try.prog G2 := by
  refine SoundG.inls mixed G1_ok fun f hf => ?_
  simp only [List.mem_cons, List.not_mem_nil, or_false] at hf
  rcases hf with rfl | rfl | rfl
  · exact Try.call64
  · exact Try.call99
  · exact Try.call69

def kd1 : List Kd := [.flt .f32, .flt .f32, .flt .f32, .flt .f32]

noncomputable def filmsR0 (l : List AV) : Vars := outV (funA Try.prog G2 1000 90 (argsP [.ptr kd1] 0 l) (memP [.ptr kd1] l) [])

noncomputable def filmsR : List AV → Vars := Classical.choose (⟨filmsR0, rfl⟩ : ∃ f, f = filmsR0)

theorem filmsR_eq : filmsR = filmsR0 := Classical.choose_spec (⟨filmsR0, rfl⟩ : ∃ f, f = filmsR0)

theorem films_x (x : Vars) : mkR (filmsR0 (mkL x 0 (kdsP [.ptr kd1]))) [.sc (.bool)] = .sbool ((((((fcmp .geq .f32 (x.u 0) 0) && (fcmp .leq .f32 (x.u 0) 1149239296)) && ((fcmp .geq .f32 (x.u 1) 0) && (fcmp .leq .f32 (x.u 1) 1149239296))) && ((fcmp .geq .f32 (x.u 2) 0) && (fcmp .leq .f32 (x.u 2) 1149239296))) && ((fcmp .geq .f32 (x.u 3) 0) && (fcmp .leq .f32 (x.u 3) 1149239296)))) := by kernel_rfl

theorem films_f90 (x : Vars) : (funA Try.prog G2 1000 90 (argsP [.ptr kd1] 0 (mkL x 0 (kdsP [.ptr kd1]))) (memP [.ptr kd1] (mkL x 0 (kdsP [.ptr kd1]))) []).map (fun r => (normR r.1, untupR r.1 && r.1.flat, r.2)) = some (.sbool ((((((fcmp .geq .f32 (x.u 0) 0) && (fcmp .leq .f32 (x.u 0) 1149239296)) && ((fcmp .geq .f32 (x.u 1) 0) && (fcmp .leq .f32 (x.u 1) 1149239296))) && ((fcmp .geq .f32 (x.u 2) 0) && (fcmp .leq .f32 (x.u 2) 1149239296))) && ((fcmp .geq .f32 (x.u 3) 0) && (fcmp .leq .f32 (x.u 3) 1149239296)))), true, []) := by kernel_rfl

set_option maxRecDepth 100000 in
theorem films_e90 (x : Vars) : (funA Try.prog G2 1000 90 (argsP [.ptr kd1] 0 (mkL x 0 (kdsP [.ptr kd1]))) (memP [.ptr kd1] (mkL x 0 (kdsP [.ptr kd1]))) []).map (fun r => (normR r.1, untupR r.1 && r.1.flat, r.2)) = some (mkR (filmsR0 (mkL x 0 (kdsP [.ptr kd1]))) [.sc (.bool)], true, []) := by
  rw [films_f90, films_x]


theorem films_ev90 (x : Vars) : EvP Try.prog G2 90 [.ptr kd1] [.sc (.bool)] (mkL x 0 (kdsP [.ptr kd1])) (filmsR0 (mkL x 0 (kdsP [.ptr kd1]))) := EvP.of (mkL_norm ..) (films_e90 x) fun _ h => by cases h

theorem films_f48 (x : Vars) : (funA Try.prog G2 1000 48 (argsP [.val (.ag kd1)] 0 (mkL x 0 (kdsP [.ptr kd1]))) (memP [.val (.ag kd1)] (mkL x 0 (kdsP [.ptr kd1]))) []).map (fun r => (normR r.1, untupR r.1 && r.1.flat, r.2)) = some (.sbool ((bif (!((fcmp .geq .f32 (x.u 0) 0) && (fcmp .leq .f32 (x.u 0) 1149239296))) then false else (bif (!((fcmp .geq .f32 (x.u 1) 0) && (fcmp .leq .f32 (x.u 1) 1149239296))) then false else (bif (!((fcmp .geq .f32 (x.u 2) 0) && (fcmp .leq .f32 (x.u 2) 1149239296))) then false else (!(!((fcmp .geq .f32 (x.u 3) 0) && (fcmp .leq .f32 (x.u 3) 1149239296)))))))), true, []) := by kernel_rfl

theorem films_b48 {p0 p1 p2 p3 p4 p5 p6 p7 : Bool} : (bif (!(p0 && p1)) then false else (bif (!(p2 && p3)) then false else (bif (!(p4 && p5)) then false else (!(!(p6 && p7)))))) = ((((p0 && p1) && (p2 && p3)) && (p4 && p5)) && (p6 && p7)) := by
  cases p0 <;> cases p1 <;> cases p2 <;> cases p3 <;> cases p4 <;> cases p5 <;> cases p6 <;> cases p7 <;> rfl

set_option maxRecDepth 100000 in
theorem films_e48 (x : Vars) : (funA Try.prog G2 1000 48 (argsP [.val (.ag kd1)] 0 (mkL x 0 (kdsP [.ptr kd1]))) (memP [.val (.ag kd1)] (mkL x 0 (kdsP [.ptr kd1]))) []).map (fun r => (normR r.1, untupR r.1 && r.1.flat, r.2)) = some (mkR (filmsR0 (mkL x 0 (kdsP [.ptr kd1]))) [.sc (.bool)], true, []) := by
  rw [films_f48, films_x]
  refine congrArg (fun b => some (AV.sbool b, true, ([] : List Bool))) ?_
  exact films_b48

theorem films_ev48 (x : Vars) : EvP Try.prog G2 48 [.val (.ag kd1)] [.sc (.bool)] (mkL x 0 (kdsP [.ptr kd1])) (filmsR0 (mkL x 0 (kdsP [.ptr kd1]))) := EvP.of (mkL_norm ..) (films_e48 x) fun _ h => by cases h

noncomputable def G3 : Summ := addG 90 (sumP [.ptr kd1] [.sc (.bool)] (fun _ => []) filmsR) G2

theorem G3_ok : SoundG Try.prog G3 := SoundG.sumP G2_ok mixed Try.call90 G2_ok (fun x hx hp => by rw [filmsR_eq]; exact (fun x _ _ => films_ev90 x) x hx hp)

noncomputable def G4 : Summ := addG 48 (sumP [.val (.ag kd1)] [.sc (.bool)] (fun _ => []) filmsR) G3

theorem G4_ok : SoundG Try.prog G4 := SoundG.sumP G3_ok mixed Try.call48 G2_ok (fun x hx hp => by rw [filmsR_eq]; exact (fun x _ _ => films_ev48 x) x hx hp)

noncomputable def G5 : Summ := inlGs Try.prog 1000 [77, 87] G4

theorem G5_ok : SoundG Try.prog G5 := by
  refine SoundG.inls mixed G4_ok fun f hf => ?_
  simp only [List.mem_cons, List.not_mem_nil, or_false] at hf
  rcases hf with rfl | rfl
  · exact Try.call77
  · exact Try.call87

noncomputable def driedR0 (xs : List AV) : Vars := outV (funA Try.prog G5 1000 92 xs [] [])

noncomputable def driedR : List AV → Vars := Classical.choose (⟨driedR0, rfl⟩ : ∃ f, f = driedR0)

theorem driedR_eq : driedR = driedR0 := Classical.choose_spec (⟨driedR0, rfl⟩ : ∃ f, f = driedR0)

theorem dried_ev92 (x : Vars) : funA Try.prog G5 1000 92 (mkAs x 0 [.ag kd1, .sc (.flt .f32), .sc (.flt .f32)]) [] [] = some (mkR (driedR0 (mkAs x 0 [.ag kd1, .sc (.flt .f32), .sc (.flt .f32)])) [.ag kd1], []) := by kernel_rfl

theorem dried_ev89 (x : Vars) : funA Try.prog G5 1000 89 (mkAs x 0 [.ag kd1, .sc (.flt .f32), .sc (.flt .f32)]) [] [] = some (mkR (driedR0 (mkAs x 0 [.ag kd1, .sc (.flt .f32), .sc (.flt .f32)])) [.ag kd1], []) := by kernel_rfl

noncomputable def G6 : Summ := addG 92 (sumG [.ag kd1, .sc (.flt .f32), .sc (.flt .f32)] [.ag kd1] driedR) G5

theorem G6_ok : SoundG Try.prog G6 := SoundG.sum G5_ok mixed Try.call92 G5_ok fun x => ⟨_, (by rw [driedR_eq]; exact dried_ev92 x), fun _ h => by cases h⟩

noncomputable def G7 : Summ := addG 89 (sumG [.ag kd1, .sc (.flt .f32), .sc (.flt .f32)] [.ag kd1] driedR) G6

theorem G7_ok : SoundG Try.prog G7 := SoundG.sum G6_ok mixed Try.call89 G5_ok fun x => ⟨_, (by rw [driedR_eq]; exact dried_ev89 x), fun _ h => by cases h⟩

noncomputable def G8 : Summ := inlGs Try.prog 1000 [56, 57, 91, 58, 59, 99, 95, 60, 61, 62] G7

theorem G8_ok : SoundG Try.prog G8 := by
  refine SoundG.inls mixed G7_ok fun f hf => ?_
  simp only [List.mem_cons, List.not_mem_nil, or_false] at hf
  rcases hf with rfl | rfl | rfl | rfl | rfl | rfl | rfl | rfl | rfl | rfl
  · exact Try.call56
  · exact Try.call57
  · exact Try.call91
  · exact Try.call58
  · exact Try.call59
  · exact Try.call99
  · exact Try.call95
  · exact Try.call60
  · exact Try.call61
  · exact Try.call62

end Go.Proofs.Ytekilpllicggeaa

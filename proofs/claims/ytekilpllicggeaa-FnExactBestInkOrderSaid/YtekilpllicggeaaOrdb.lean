/-
  Facts of this seat that its laws use; no conditions.
-/
import Derived.Test.YtekilpllicggeaaOrda
namespace Go.Proofs.Ytekilpllicggeaa
open Go.Sim Go.ChangeShapes Go.WideShapes Go.ChangeAt Go.RowKit

noncomputable def G4 : Summ := inlGs Try.prog 1000 [64, 99, 69] G3

theorem G4_ok : SoundG Try.prog G4 := by
  refine SoundG.inls mixed G3_ok fun f hf => ?_
  simp only [List.mem_cons, List.not_mem_nil, or_false] at hf
  rcases hf with rfl | rfl | rfl
  · exact Try.call64
  · exact Try.call99
  · exact Try.call69

def kd1 : List Kd := [.flt .f32, .flt .f32, .flt .f32, .flt .f32]

noncomputable def filmsR0 (l : List AV) : Vars := outV (funA Try.prog G4 1000 90 (argsP [.ptr kd1] 0 l) (memP [.ptr kd1] l) [])

noncomputable def filmsR : List AV → Vars := Classical.choose (⟨filmsR0, rfl⟩ : ∃ f, f = filmsR0)

theorem filmsR_eq : filmsR = filmsR0 := Classical.choose_spec (⟨filmsR0, rfl⟩ : ∃ f, f = filmsR0)

theorem films_x (x : Vars) : mkR (filmsR0 (mkL x 0 (kdsP [.ptr kd1]))) [.sc (.bool)] = .sbool ((((((fcmp .geq .f32 (x.u 0) 0) && (fcmp .leq .f32 (x.u 0) 1149239296)) && ((fcmp .geq .f32 (x.u 1) 0) && (fcmp .leq .f32 (x.u 1) 1149239296))) && ((fcmp .geq .f32 (x.u 2) 0) && (fcmp .leq .f32 (x.u 2) 1149239296))) && ((fcmp .geq .f32 (x.u 3) 0) && (fcmp .leq .f32 (x.u 3) 1149239296)))) := by kernel_rfl

theorem films_f90 (x : Vars) : (funA Try.prog G4 1000 90 (argsP [.ptr kd1] 0 (mkL x 0 (kdsP [.ptr kd1]))) (memP [.ptr kd1] (mkL x 0 (kdsP [.ptr kd1]))) []).map (fun r => (normR r.1, untupR r.1 && r.1.flat, r.2)) = some (.sbool ((((((fcmp .geq .f32 (x.u 0) 0) && (fcmp .leq .f32 (x.u 0) 1149239296)) && ((fcmp .geq .f32 (x.u 1) 0) && (fcmp .leq .f32 (x.u 1) 1149239296))) && ((fcmp .geq .f32 (x.u 2) 0) && (fcmp .leq .f32 (x.u 2) 1149239296))) && ((fcmp .geq .f32 (x.u 3) 0) && (fcmp .leq .f32 (x.u 3) 1149239296)))), true, []) := by kernel_rfl

set_option maxRecDepth 100000 in
theorem films_e90 (x : Vars) : (funA Try.prog G4 1000 90 (argsP [.ptr kd1] 0 (mkL x 0 (kdsP [.ptr kd1]))) (memP [.ptr kd1] (mkL x 0 (kdsP [.ptr kd1]))) []).map (fun r => (normR r.1, untupR r.1 && r.1.flat, r.2)) = some (mkR (filmsR0 (mkL x 0 (kdsP [.ptr kd1]))) [.sc (.bool)], true, []) := by
  rw [films_f90, films_x]


theorem films_ev90 (x : Vars) : EvP Try.prog G4 90 [.ptr kd1] [.sc (.bool)] (mkL x 0 (kdsP [.ptr kd1])) (filmsR0 (mkL x 0 (kdsP [.ptr kd1]))) := EvP.of (mkL_norm ..) (films_e90 x) fun _ h => by cases h

theorem films_f48 (x : Vars) : (funA Try.prog G4 1000 48 (argsP [.val (.ag kd1)] 0 (mkL x 0 (kdsP [.ptr kd1]))) (memP [.val (.ag kd1)] (mkL x 0 (kdsP [.ptr kd1]))) []).map (fun r => (normR r.1, untupR r.1 && r.1.flat, r.2)) = some (.sbool ((bif (!((fcmp .geq .f32 (x.u 0) 0) && (fcmp .leq .f32 (x.u 0) 1149239296))) then false else (bif (!((fcmp .geq .f32 (x.u 1) 0) && (fcmp .leq .f32 (x.u 1) 1149239296))) then false else (bif (!((fcmp .geq .f32 (x.u 2) 0) && (fcmp .leq .f32 (x.u 2) 1149239296))) then false else (!(!((fcmp .geq .f32 (x.u 3) 0) && (fcmp .leq .f32 (x.u 3) 1149239296)))))))), true, []) := by kernel_rfl

theorem films_b48 {p0 p1 p2 p3 p4 p5 p6 p7 : Bool} : (bif (!(p0 && p1)) then false else (bif (!(p2 && p3)) then false else (bif (!(p4 && p5)) then false else (!(!(p6 && p7)))))) = ((((p0 && p1) && (p2 && p3)) && (p4 && p5)) && (p6 && p7)) := by
  cases p0 <;> cases p1 <;> cases p2 <;> cases p3 <;> cases p4 <;> cases p5 <;> cases p6 <;> cases p7 <;> rfl

set_option maxRecDepth 100000 in
theorem films_e48 (x : Vars) : (funA Try.prog G4 1000 48 (argsP [.val (.ag kd1)] 0 (mkL x 0 (kdsP [.ptr kd1]))) (memP [.val (.ag kd1)] (mkL x 0 (kdsP [.ptr kd1]))) []).map (fun r => (normR r.1, untupR r.1 && r.1.flat, r.2)) = some (mkR (filmsR0 (mkL x 0 (kdsP [.ptr kd1]))) [.sc (.bool)], true, []) := by
  rw [films_f48, films_x]
  refine congrArg (fun b => some (AV.sbool b, true, ([] : List Bool))) ?_
  exact films_b48

theorem films_ev48 (x : Vars) : EvP Try.prog G4 48 [.val (.ag kd1)] [.sc (.bool)] (mkL x 0 (kdsP [.ptr kd1])) (filmsR0 (mkL x 0 (kdsP [.ptr kd1]))) := EvP.of (mkL_norm ..) (films_e48 x) fun _ h => by cases h

noncomputable def G5 : Summ := addG 90 (sumP [.ptr kd1] [.sc (.bool)] (fun _ => []) filmsR) G4

theorem G5_ok : SoundG Try.prog G5 := SoundG.sumP G4_ok mixed Try.call90 G4_ok (fun x hx hp => by rw [filmsR_eq]; exact (fun x _ _ => films_ev90 x) x hx hp)

noncomputable def G6 : Summ := addG 48 (sumP [.val (.ag kd1)] [.sc (.bool)] (fun _ => []) filmsR) G5

theorem G6_ok : SoundG Try.prog G6 := SoundG.sumP G5_ok mixed Try.call48 G4_ok (fun x hx hp => by rw [filmsR_eq]; exact (fun x _ _ => films_ev48 x) x hx hp)

noncomputable def G7 : Summ := inlGs Try.prog 1000 [77, 87] G6

theorem G7_ok : SoundG Try.prog G7 := by
  refine SoundG.inls mixed G6_ok fun f hf => ?_
  simp only [List.mem_cons, List.not_mem_nil, or_false] at hf
  rcases hf with rfl | rfl
  · exact Try.call77
  · exact Try.call87

noncomputable def driedR0 (xs : List AV) : Vars := outV (funA Try.prog G7 1000 92 xs [] [])

noncomputable def driedR : List AV → Vars := Classical.choose (⟨driedR0, rfl⟩ : ∃ f, f = driedR0)

theorem driedR_eq : driedR = driedR0 := Classical.choose_spec (⟨driedR0, rfl⟩ : ∃ f, f = driedR0)

theorem dried_ev92 (x : Vars) : funA Try.prog G7 1000 92 (mkAs x 0 [.ag kd1, .sc (.flt .f32), .sc (.flt .f32)]) [] [] = some (mkR (driedR0 (mkAs x 0 [.ag kd1, .sc (.flt .f32), .sc (.flt .f32)])) [.ag kd1], []) := by kernel_rfl

theorem dried_ev89 (x : Vars) : funA Try.prog G7 1000 89 (mkAs x 0 [.ag kd1, .sc (.flt .f32), .sc (.flt .f32)]) [] [] = some (mkR (driedR0 (mkAs x 0 [.ag kd1, .sc (.flt .f32), .sc (.flt .f32)])) [.ag kd1], []) := by kernel_rfl

noncomputable def G8 : Summ := addG 92 (sumG [.ag kd1, .sc (.flt .f32), .sc (.flt .f32)] [.ag kd1] driedR) G7

theorem G8_ok : SoundG Try.prog G8 := SoundG.sum G7_ok mixed Try.call92 G7_ok fun x => ⟨_, (by rw [driedR_eq]; exact dried_ev92 x), fun _ h => by cases h⟩

noncomputable def G9 : Summ := addG 89 (sumG [.ag kd1, .sc (.flt .f32), .sc (.flt .f32)] [.ag kd1] driedR) G8

theorem G9_ok : SoundG Try.prog G9 := SoundG.sum G8_ok mixed Try.call89 G7_ok fun x => ⟨_, (by rw [driedR_eq]; exact dried_ev89 x), fun _ h => by cases h⟩

noncomputable def G10 : Summ := inlGs Try.prog 1000 [99, 95, 60, 77, 62, 76, 91, 58, 74, 59] G9

theorem G10_ok : SoundG Try.prog G10 := by
  refine SoundG.inls mixed G9_ok fun f hf => ?_
  simp only [List.mem_cons, List.not_mem_nil, or_false] at hf
  rcases hf with rfl | rfl | rfl | rfl | rfl | rfl | rfl | rfl | rfl | rfl
  · exact Try.call99
  · exact Try.call95
  · exact Try.call60
  · exact Try.call77
  · exact Try.call62
  · exact Try.call76
  · exact Try.call91
  · exact Try.call58
  · exact Try.call74
  · exact Try.call59

noncomputable def G11 : Summ := joinW Try.prog 1000 102 G10

theorem G11_ok : SoundG Try.prog G11 := SoundG.joinW G10_ok mixed Try.call102

noncomputable def G12 : Summ := inlWs Try.prog 1000 [105] G11

theorem G12_ok : SoundG Try.prog G12 := by
  refine SoundG.inlWs mixed G11_ok fun f hf => ?_
  simp only [List.mem_cons, List.not_mem_nil, or_false] at hf
  subst hf
  exact Try.call105

noncomputable def G13 : Summ := inlWs Try.prog 1000 [105] G12

theorem G13_ok : SoundG Try.prog G13 := by
  refine SoundG.inlWs mixed G12_ok fun f hf => ?_
  simp only [List.mem_cons, List.not_mem_nil, or_false] at hf
  subst hf
  exact Try.call105

noncomputable def G14 : Summ := inlWs Try.prog 1000 [105] G13

theorem G14_ok : SoundG Try.prog G14 := by
  refine SoundG.inlWs mixed G13_ok fun f hf => ?_
  simp only [List.mem_cons, List.not_mem_nil, or_false] at hf
  subst hf
  exact Try.call105

def sr0A : List AS := [.c (.ptr 11 0), .c (.ptr 7 0), .c (.ptr 8 0), .c (.ptr 12 0), .c (.ptr 13 0)]
def sr0M : AM := [some ([.w (.flt .f32), .w (.flt .f32), .w (.flt .f32), .w (.flt .f32)], true), some ([.w (.flt .f32)], true), some ([.w (.flt .f32)], true), some ([.c (.int .i8 0), .c (.int .i8 0), .c (.int .i8 0), .c (.int .i8 0)], true), some ([.c (.fn 76 [(.ptr 0 0), (.ptr 1 0), (.ptr 2 0)])], true), some ([.c .snil], true), some ([.c (.flt .f32 0)], true), some ([.c (.int .i64 4)], true), some ([.c (.fn 102 [(.ptr 4 0), (.ptr 5 0), (.ptr 6 0)])], true), none, some ([.c (.bool true), .c (.bool false), .c (.bool false), .c (.bool false)], true), some ([.c (.slc 15 0 1 1)], true), some ([.c (.slc 10 0 4 1)], true), some ([.c (.fn 105 [(.ptr 11 0), (.ptr 7 0), (.ptr 8 0), (.ptr 12 0), (.ptr 13 0)])], true), some ([.c (.int .i64 0)], true), some ([.c (.int .i64 0)], true)]

noncomputable def sr0_v_0 (x : Vars) : Vars := (driedR [(.agg [(.flt .f32 (farith .add .f32 0 (x.u 0))), (.flt .f32 0), (.flt .f32 0), (.flt .f32 0)]), (.flt .f32 (x.u 4)), (.flt .f32 (x.u 5))])

noncomputable def sr0_v_1 (x : Vars) : Vars := (driedR [(.agg [(.flt .f32 ((sr0_v_0 x).u 0)), (.flt .f32 (farith .add .f32 ((sr0_v_0 x).u 1) (x.u 1))), (.flt .f32 ((sr0_v_0 x).u 2)), (.flt .f32 ((sr0_v_0 x).u 3))]), (.flt .f32 (x.u 4)), (.flt .f32 (x.u 5))])

noncomputable def sr0_v_2 (x : Vars) : Vars := (driedR [(.agg [(.flt .f32 ((sr0_v_1 x).u 0)), (.flt .f32 ((sr0_v_1 x).u 1)), (.flt .f32 (farith .add .f32 ((sr0_v_1 x).u 2) (x.u 2))), (.flt .f32 ((sr0_v_1 x).u 3))]), (.flt .f32 (x.u 4)), (.flt .f32 (x.u 5))])

noncomputable def sr0_v_3 (x : Vars) : Vars := (driedR [(.agg [(.flt .f32 ((sr0_v_2 x).u 0)), (.flt .f32 ((sr0_v_2 x).u 1)), (.flt .f32 ((sr0_v_2 x).u 2)), (.flt .f32 (farith .add .f32 ((sr0_v_2 x).u 3) (x.u 3)))]), (.flt .f32 (x.u 4)), (.flt .f32 (x.u 5))])

noncomputable def sr0_v_4 (x : Vars) : Vars := (driedR [(.agg [(.flt .f32 ((sr0_v_1 x).u 0)), (.flt .f32 ((sr0_v_1 x).u 1)), (.flt .f32 ((sr0_v_1 x).u 2)), (.flt .f32 (farith .add .f32 ((sr0_v_1 x).u 3) (x.u 3)))]), (.flt .f32 (x.u 4)), (.flt .f32 (x.u 5))])

noncomputable def sr0_v_5 (x : Vars) : Vars := (driedR [(.agg [(.flt .f32 ((sr0_v_4 x).u 0)), (.flt .f32 ((sr0_v_4 x).u 1)), (.flt .f32 (farith .add .f32 ((sr0_v_4 x).u 2) (x.u 2))), (.flt .f32 ((sr0_v_4 x).u 3))]), (.flt .f32 (x.u 4)), (.flt .f32 (x.u 5))])

noncomputable def sr0_v_6 (x : Vars) : Nat := (bif (fcmp .lss .f32 (farith .add .f32 (farith .add .f32 (farith .add .f32 ((sr0_v_5 x).u 0) ((sr0_v_5 x).u 1)) ((sr0_v_5 x).u 2)) ((sr0_v_5 x).u 3)) (farith .add .f32 (farith .add .f32 (farith .add .f32 ((sr0_v_3 x).u 0) ((sr0_v_3 x).u 1)) ((sr0_v_3 x).u 2)) ((sr0_v_3 x).u 3))) then (farith .add .f32 (farith .add .f32 (farith .add .f32 ((sr0_v_5 x).u 0) ((sr0_v_5 x).u 1)) ((sr0_v_5 x).u 2)) ((sr0_v_5 x).u 3)) else (farith .add .f32 (farith .add .f32 (farith .add .f32 ((sr0_v_3 x).u 0) ((sr0_v_3 x).u 1)) ((sr0_v_3 x).u 2)) ((sr0_v_3 x).u 3)))

noncomputable def sr0_v_7 (x : Vars) : Vars := (driedR [(.agg [(.flt .f32 ((sr0_v_0 x).u 0)), (.flt .f32 ((sr0_v_0 x).u 1)), (.flt .f32 (farith .add .f32 ((sr0_v_0 x).u 2) (x.u 2))), (.flt .f32 ((sr0_v_0 x).u 3))]), (.flt .f32 (x.u 4)), (.flt .f32 (x.u 5))])

noncomputable def sr0_v_8 (x : Vars) : Vars := (driedR [(.agg [(.flt .f32 ((sr0_v_7 x).u 0)), (.flt .f32 (farith .add .f32 ((sr0_v_7 x).u 1) (x.u 1))), (.flt .f32 ((sr0_v_7 x).u 2)), (.flt .f32 ((sr0_v_7 x).u 3))]), (.flt .f32 (x.u 4)), (.flt .f32 (x.u 5))])

noncomputable def sr0_v_9 (x : Vars) : Vars := (driedR [(.agg [(.flt .f32 ((sr0_v_8 x).u 0)), (.flt .f32 ((sr0_v_8 x).u 1)), (.flt .f32 ((sr0_v_8 x).u 2)), (.flt .f32 (farith .add .f32 ((sr0_v_8 x).u 3) (x.u 3)))]), (.flt .f32 (x.u 4)), (.flt .f32 (x.u 5))])

noncomputable def sr0_v_10 (x : Vars) : Nat := (bif (fcmp .lss .f32 (farith .add .f32 (farith .add .f32 (farith .add .f32 ((sr0_v_9 x).u 0) ((sr0_v_9 x).u 1)) ((sr0_v_9 x).u 2)) ((sr0_v_9 x).u 3)) (sr0_v_6 x)) then (farith .add .f32 (farith .add .f32 (farith .add .f32 ((sr0_v_9 x).u 0) ((sr0_v_9 x).u 1)) ((sr0_v_9 x).u 2)) ((sr0_v_9 x).u 3)) else (sr0_v_6 x))

noncomputable def sr0_v_11 (x : Vars) : Vars := (driedR [(.agg [(.flt .f32 ((sr0_v_7 x).u 0)), (.flt .f32 ((sr0_v_7 x).u 1)), (.flt .f32 ((sr0_v_7 x).u 2)), (.flt .f32 (farith .add .f32 ((sr0_v_7 x).u 3) (x.u 3)))]), (.flt .f32 (x.u 4)), (.flt .f32 (x.u 5))])

noncomputable def sr0_v_12 (x : Vars) : Vars := (driedR [(.agg [(.flt .f32 ((sr0_v_11 x).u 0)), (.flt .f32 (farith .add .f32 ((sr0_v_11 x).u 1) (x.u 1))), (.flt .f32 ((sr0_v_11 x).u 2)), (.flt .f32 ((sr0_v_11 x).u 3))]), (.flt .f32 (x.u 4)), (.flt .f32 (x.u 5))])

noncomputable def sr0_v_13 (x : Vars) : Nat := (bif (fcmp .lss .f32 (farith .add .f32 (farith .add .f32 (farith .add .f32 ((sr0_v_12 x).u 0) ((sr0_v_12 x).u 1)) ((sr0_v_12 x).u 2)) ((sr0_v_12 x).u 3)) (sr0_v_10 x)) then (farith .add .f32 (farith .add .f32 (farith .add .f32 ((sr0_v_12 x).u 0) ((sr0_v_12 x).u 1)) ((sr0_v_12 x).u 2)) ((sr0_v_12 x).u 3)) else (sr0_v_10 x))

noncomputable def sr0_v_14 (x : Vars) : Vars := (driedR [(.agg [(.flt .f32 ((sr0_v_0 x).u 0)), (.flt .f32 ((sr0_v_0 x).u 1)), (.flt .f32 ((sr0_v_0 x).u 2)), (.flt .f32 (farith .add .f32 ((sr0_v_0 x).u 3) (x.u 3)))]), (.flt .f32 (x.u 4)), (.flt .f32 (x.u 5))])

noncomputable def sr0_v_15 (x : Vars) : Vars := (driedR [(.agg [(.flt .f32 ((sr0_v_14 x).u 0)), (.flt .f32 (farith .add .f32 ((sr0_v_14 x).u 1) (x.u 1))), (.flt .f32 ((sr0_v_14 x).u 2)), (.flt .f32 ((sr0_v_14 x).u 3))]), (.flt .f32 (x.u 4)), (.flt .f32 (x.u 5))])

noncomputable def sr0_v_16 (x : Vars) : Vars := (driedR [(.agg [(.flt .f32 ((sr0_v_15 x).u 0)), (.flt .f32 ((sr0_v_15 x).u 1)), (.flt .f32 (farith .add .f32 ((sr0_v_15 x).u 2) (x.u 2))), (.flt .f32 ((sr0_v_15 x).u 3))]), (.flt .f32 (x.u 4)), (.flt .f32 (x.u 5))])

noncomputable def sr0_v_17 (x : Vars) : Nat := (bif (fcmp .lss .f32 (farith .add .f32 (farith .add .f32 (farith .add .f32 ((sr0_v_16 x).u 0) ((sr0_v_16 x).u 1)) ((sr0_v_16 x).u 2)) ((sr0_v_16 x).u 3)) (sr0_v_13 x)) then (farith .add .f32 (farith .add .f32 (farith .add .f32 ((sr0_v_16 x).u 0) ((sr0_v_16 x).u 1)) ((sr0_v_16 x).u 2)) ((sr0_v_16 x).u 3)) else (sr0_v_13 x))

noncomputable def sr0_v_18 (x : Vars) : Vars := (driedR [(.agg [(.flt .f32 ((sr0_v_14 x).u 0)), (.flt .f32 ((sr0_v_14 x).u 1)), (.flt .f32 (farith .add .f32 ((sr0_v_14 x).u 2) (x.u 2))), (.flt .f32 ((sr0_v_14 x).u 3))]), (.flt .f32 (x.u 4)), (.flt .f32 (x.u 5))])

noncomputable def sr0_v_19 (x : Vars) : Vars := (driedR [(.agg [(.flt .f32 ((sr0_v_18 x).u 0)), (.flt .f32 (farith .add .f32 ((sr0_v_18 x).u 1) (x.u 1))), (.flt .f32 ((sr0_v_18 x).u 2)), (.flt .f32 ((sr0_v_18 x).u 3))]), (.flt .f32 (x.u 4)), (.flt .f32 (x.u 5))])

noncomputable def sr0_v_20 (x : Vars) : Nat := (bif (fcmp .lss .f32 (farith .add .f32 (farith .add .f32 (farith .add .f32 ((sr0_v_19 x).u 0) ((sr0_v_19 x).u 1)) ((sr0_v_19 x).u 2)) ((sr0_v_19 x).u 3)) (sr0_v_17 x)) then (farith .add .f32 (farith .add .f32 (farith .add .f32 ((sr0_v_19 x).u 0) ((sr0_v_19 x).u 1)) ((sr0_v_19 x).u 2)) ((sr0_v_19 x).u 3)) else (sr0_v_17 x))

noncomputable def sr0_v_21 (x : Vars) : Int := (bif (fcmp .lss .f32 (farith .add .f32 (farith .add .f32 (farith .add .f32 ((sr0_v_9 x).u 0) ((sr0_v_9 x).u 1)) ((sr0_v_9 x).u 2)) ((sr0_v_9 x).u 3)) (sr0_v_6 x)) then 2 else 1)

noncomputable def sr0_v_22 (x : Vars) : Int := (bif (fcmp .lss .f32 (farith .add .f32 (farith .add .f32 (farith .add .f32 ((sr0_v_12 x).u 0) ((sr0_v_12 x).u 1)) ((sr0_v_12 x).u 2)) ((sr0_v_12 x).u 3)) (sr0_v_10 x)) then 2 else (sr0_v_21 x))

noncomputable def sr0_v_23 (x : Vars) : Int := (bif (fcmp .lss .f32 (farith .add .f32 (farith .add .f32 (farith .add .f32 ((sr0_v_16 x).u 0) ((sr0_v_16 x).u 1)) ((sr0_v_16 x).u 2)) ((sr0_v_16 x).u 3)) (sr0_v_13 x)) then 3 else (sr0_v_22 x))

noncomputable def sr0_v_24 (x : Vars) : Int := (bif (fcmp .lss .f32 (farith .add .f32 (farith .add .f32 (farith .add .f32 ((sr0_v_19 x).u 0) ((sr0_v_19 x).u 1)) ((sr0_v_19 x).u 2)) ((sr0_v_19 x).u 3)) (sr0_v_17 x)) then 3 else (sr0_v_23 x))

noncomputable def sr0_v_25 (x : Vars) : Int := (bif (fcmp .lss .f32 (farith .add .f32 (farith .add .f32 (farith .add .f32 ((sr0_v_5 x).u 0) ((sr0_v_5 x).u 1)) ((sr0_v_5 x).u 2)) ((sr0_v_5 x).u 3)) (farith .add .f32 (farith .add .f32 (farith .add .f32 ((sr0_v_3 x).u 0) ((sr0_v_3 x).u 1)) ((sr0_v_3 x).u 2)) ((sr0_v_3 x).u 3))) then 3 else 2)

noncomputable def sr0_v_26 (x : Vars) : Int := (bif (fcmp .lss .f32 (farith .add .f32 (farith .add .f32 (farith .add .f32 ((sr0_v_9 x).u 0) ((sr0_v_9 x).u 1)) ((sr0_v_9 x).u 2)) ((sr0_v_9 x).u 3)) (sr0_v_6 x)) then 1 else (sr0_v_25 x))

noncomputable def sr0_v_27 (x : Vars) : Int := (bif (fcmp .lss .f32 (farith .add .f32 (farith .add .f32 (farith .add .f32 ((sr0_v_12 x).u 0) ((sr0_v_12 x).u 1)) ((sr0_v_12 x).u 2)) ((sr0_v_12 x).u 3)) (sr0_v_10 x)) then 3 else (sr0_v_26 x))

noncomputable def sr0_v_28 (x : Vars) : Int := (bif (fcmp .lss .f32 (farith .add .f32 (farith .add .f32 (farith .add .f32 ((sr0_v_16 x).u 0) ((sr0_v_16 x).u 1)) ((sr0_v_16 x).u 2)) ((sr0_v_16 x).u 3)) (sr0_v_13 x)) then 1 else (sr0_v_27 x))

noncomputable def sr0_v_29 (x : Vars) : Int := (bif (fcmp .lss .f32 (farith .add .f32 (farith .add .f32 (farith .add .f32 ((sr0_v_19 x).u 0) ((sr0_v_19 x).u 1)) ((sr0_v_19 x).u 2)) ((sr0_v_19 x).u 3)) (sr0_v_17 x)) then 2 else (sr0_v_28 x))

noncomputable def sr0_v_30 (x : Vars) : Int := (bif (fcmp .lss .f32 (farith .add .f32 (farith .add .f32 (farith .add .f32 ((sr0_v_5 x).u 0) ((sr0_v_5 x).u 1)) ((sr0_v_5 x).u 2)) ((sr0_v_5 x).u 3)) (farith .add .f32 (farith .add .f32 (farith .add .f32 ((sr0_v_3 x).u 0) ((sr0_v_3 x).u 1)) ((sr0_v_3 x).u 2)) ((sr0_v_3 x).u 3))) then 2 else 3)

noncomputable def sr0_v_31 (x : Vars) : Int := (bif (fcmp .lss .f32 (farith .add .f32 (farith .add .f32 (farith .add .f32 ((sr0_v_9 x).u 0) ((sr0_v_9 x).u 1)) ((sr0_v_9 x).u 2)) ((sr0_v_9 x).u 3)) (sr0_v_6 x)) then 3 else (sr0_v_30 x))

noncomputable def sr0_v_32 (x : Vars) : Int := (bif (fcmp .lss .f32 (farith .add .f32 (farith .add .f32 (farith .add .f32 ((sr0_v_12 x).u 0) ((sr0_v_12 x).u 1)) ((sr0_v_12 x).u 2)) ((sr0_v_12 x).u 3)) (sr0_v_10 x)) then 1 else (sr0_v_31 x))

noncomputable def sr0_v_33 (x : Vars) : Int := (bif (fcmp .lss .f32 (farith .add .f32 (farith .add .f32 (farith .add .f32 ((sr0_v_16 x).u 0) ((sr0_v_16 x).u 1)) ((sr0_v_16 x).u 2)) ((sr0_v_16 x).u 3)) (sr0_v_13 x)) then 2 else (sr0_v_32 x))

noncomputable def sr0_v_34 (x : Vars) : Int := (bif (fcmp .lss .f32 (farith .add .f32 (farith .add .f32 (farith .add .f32 ((sr0_v_19 x).u 0) ((sr0_v_19 x).u 1)) ((sr0_v_19 x).u 2)) ((sr0_v_19 x).u 3)) (sr0_v_17 x)) then 1 else (sr0_v_33 x))

noncomputable def sr0_v_35 (x : Vars) : Bool := (!(fcmp .lss .f32 (farith .add .f32 (farith .add .f32 (farith .add .f32 ((sr0_v_19 x).u 0) ((sr0_v_19 x).u 1)) ((sr0_v_19 x).u 2)) ((sr0_v_19 x).u 3)) (sr0_v_17 x)))

noncomputable def sr0_v_36 (x : Vars) : Bool := ((fcmp .lss .f32 (farith .add .f32 (farith .add .f32 (farith .add .f32 ((sr0_v_19 x).u 0) ((sr0_v_19 x).u 1)) ((sr0_v_19 x).u 2)) ((sr0_v_19 x).u 3)) (sr0_v_17 x)) || (sr0_v_35 x))

noncomputable def sr0_v_37 (x : Vars) : Bool := (!(fcmp .lss .f32 (farith .add .f32 (farith .add .f32 (farith .add .f32 ((sr0_v_16 x).u 0) ((sr0_v_16 x).u 1)) ((sr0_v_16 x).u 2)) ((sr0_v_16 x).u 3)) (sr0_v_13 x)))

noncomputable def sr0_v_38 (x : Vars) : Bool := ((fcmp .lss .f32 (farith .add .f32 (farith .add .f32 (farith .add .f32 ((sr0_v_16 x).u 0) ((sr0_v_16 x).u 1)) ((sr0_v_16 x).u 2)) ((sr0_v_16 x).u 3)) (sr0_v_13 x)) || (sr0_v_37 x))

noncomputable def sr0_v_39 (x : Vars) : Bool := (!(fcmp .lss .f32 (farith .add .f32 (farith .add .f32 (farith .add .f32 ((sr0_v_12 x).u 0) ((sr0_v_12 x).u 1)) ((sr0_v_12 x).u 2)) ((sr0_v_12 x).u 3)) (sr0_v_10 x)))

noncomputable def sr0_v_40 (x : Vars) : Bool := ((fcmp .lss .f32 (farith .add .f32 (farith .add .f32 (farith .add .f32 ((sr0_v_12 x).u 0) ((sr0_v_12 x).u 1)) ((sr0_v_12 x).u 2)) ((sr0_v_12 x).u 3)) (sr0_v_10 x)) || (sr0_v_39 x))

noncomputable def sr0_v_41 (x : Vars) : Bool := (!(fcmp .lss .f32 (farith .add .f32 (farith .add .f32 (farith .add .f32 ((sr0_v_9 x).u 0) ((sr0_v_9 x).u 1)) ((sr0_v_9 x).u 2)) ((sr0_v_9 x).u 3)) (sr0_v_6 x)))

noncomputable def sr0_v_42 (x : Vars) : Bool := ((fcmp .lss .f32 (farith .add .f32 (farith .add .f32 (farith .add .f32 ((sr0_v_9 x).u 0) ((sr0_v_9 x).u 1)) ((sr0_v_9 x).u 2)) ((sr0_v_9 x).u 3)) (sr0_v_6 x)) || (sr0_v_41 x))

noncomputable def sr0_v_43 (x : Vars) : Bool := (!(fcmp .lss .f32 (farith .add .f32 (farith .add .f32 (farith .add .f32 ((sr0_v_5 x).u 0) ((sr0_v_5 x).u 1)) ((sr0_v_5 x).u 2)) ((sr0_v_5 x).u 3)) (farith .add .f32 (farith .add .f32 (farith .add .f32 ((sr0_v_3 x).u 0) ((sr0_v_3 x).u 1)) ((sr0_v_3 x).u 2)) ((sr0_v_3 x).u 3))))

noncomputable def sr0_v_44 (x : Vars) : Bool := ((fcmp .lss .f32 (farith .add .f32 (farith .add .f32 (farith .add .f32 ((sr0_v_5 x).u 0) ((sr0_v_5 x).u 1)) ((sr0_v_5 x).u 2)) ((sr0_v_5 x).u 3)) (farith .add .f32 (farith .add .f32 (farith .add .f32 ((sr0_v_3 x).u 0) ((sr0_v_3 x).u 1)) ((sr0_v_3 x).u 2)) ((sr0_v_3 x).u 3))) || (sr0_v_43 x))

noncomputable def sr0Q (x : Vars) : Vars := varsOf [.flt .f32 (sr0_v_20 x), .sint .i64 (sr0_v_24 x), .sint .i64 (sr0_v_29 x), .sint .i64 (sr0_v_34 x)]

noncomputable def sr0R0 (l : List AV) : Vars := sr0Q (varsOf l)

noncomputable def sr0R : List AV → Vars := Classical.choose (⟨sr0R0, rfl⟩ : ∃ f, f = sr0R0)

theorem sr0R_eq : sr0R = sr0R0 := Classical.choose_spec (⟨sr0R0, rfl⟩ : ∃ f, f = sr0R0)

noncomputable def sr0B (l : List AV) : Mem := [some (.lit [.flt .f32 ((varsOf l).u 0), .flt .f32 ((varsOf l).u 1), .flt .f32 ((varsOf l).u 2), .flt .f32 ((varsOf l).u 3)] true), some (.lit [.flt .f32 ((varsOf l).u 4)] true), some (.lit [.flt .f32 ((varsOf l).u 5)] true), some (.lit [(.int .i8 0), (.int .i8 0), (.int .i8 0), (.int .i8 0)] true), some (.lit [(.fn 76 [(.ptr 0 0), (.ptr 1 0), (.ptr 2 0)])] true), some (.lit [(.slc 62 0 4 1)] true), some (.lit [.flt .f32 ((sr0R l).u 0)] true), some (.lit [(.int .i64 4)] true), some (.lit [(.fn 102 [(.ptr 4 0), (.ptr 5 0), (.ptr 6 0)])] true), none, some (.lit [(.bool true), (.bool false), (.bool false), (.bool false)] true), some (.lit [(.slc 59 0 1 1)] true), some (.lit [(.slc 10 0 4 1)] true), some (.lit [(.fn 105 [(.ptr 11 0), (.ptr 7 0), (.ptr 8 0), (.ptr 12 0), (.ptr 13 0)])] true), some (.lit [(.int .i64 0)] true), none, some (.lit [(.int .i64 1)] true), none, some (.lit [(.int .i64 2)] true), none, some (.lit [(.int .i64 3)] true), none, none, none, some (.lit [(.int .i64 3)] true), none, some (.lit [(.int .i64 2)] true), none, none, none, none, some (.lit [(.int .i64 2)] true), none, some (.lit [(.int .i64 1)] true), none, some (.lit [(.int .i64 3)] true), none, none, none, none, some (.lit [(.int .i64 3)] true), none, some (.lit [(.int .i64 1)] true), none, none, none, none, some (.lit [(.int .i64 3)] true), none, some (.lit [(.int .i64 1)] true), none, some (.lit [(.int .i64 2)] true), none, none, none, none, some (.lit [(.int .i64 2)] true), none, some (.lit [(.int .i64 1)] true), some (.lit [(.int .i64 0), (.int .i64 3), (.int .i64 2), (.int .i64 1)] true), none, none, some (.lit [(.int .i64 0), .sint .i64 ((sr0R l).i 1), .sint .i64 ((sr0R l).i 2), .sint .i64 ((sr0R l).i 3)] true)]

noncomputable def sr0_cs (x : Vars) : List Bool := [(sr0_v_36 x), (sr0_v_38 x), (sr0_v_40 x), (sr0_v_42 x), (sr0_v_44 x)]

theorem sr0_t (x : Vars) : bodyJ Try.prog G14 1000 105 (asV x 0 sr0A) (asM x (nW sr0A) sr0M) = some (.tup [], [some (.lit [.flt .f32 (x.u 0), .flt .f32 (x.u 1), .flt .f32 (x.u 2), .flt .f32 (x.u 3)] true), some (.lit [.flt .f32 (x.u 4)] true), some (.lit [.flt .f32 (x.u 5)] true), some (.lit [(.int .i8 0), (.int .i8 0), (.int .i8 0), (.int .i8 0)] true), some (.lit [(.fn 76 [(.ptr 0 0), (.ptr 1 0), (.ptr 2 0)])] true), some (.lit [(.slc 62 0 4 1)] true), some (.lit [.flt .f32 ((sr0Q x).u 0)] true), some (.lit [(.int .i64 4)] true), some (.lit [(.fn 102 [(.ptr 4 0), (.ptr 5 0), (.ptr 6 0)])] true), none, some (.lit [(.bool true), (.bool false), (.bool false), (.bool false)] true), some (.lit [(.slc 59 0 1 1)] true), some (.lit [(.slc 10 0 4 1)] true), some (.lit [(.fn 105 [(.ptr 11 0), (.ptr 7 0), (.ptr 8 0), (.ptr 12 0), (.ptr 13 0)])] true), some (.lit [(.int .i64 0)] true), none, some (.lit [(.int .i64 1)] true), none, some (.lit [(.int .i64 2)] true), none, some (.lit [(.int .i64 3)] true), none, none, none, some (.lit [(.int .i64 3)] true), none, some (.lit [(.int .i64 2)] true), none, none, none, none, some (.lit [(.int .i64 2)] true), none, some (.lit [(.int .i64 1)] true), none, some (.lit [(.int .i64 3)] true), none, none, none, none, some (.lit [(.int .i64 3)] true), none, some (.lit [(.int .i64 1)] true), none, none, none, none, some (.lit [(.int .i64 3)] true), none, some (.lit [(.int .i64 1)] true), none, some (.lit [(.int .i64 2)] true), none, none, none, none, some (.lit [(.int .i64 2)] true), none, some (.lit [(.int .i64 1)] true), some (.lit [(.int .i64 0), (.int .i64 3), (.int .i64 2), (.int .i64 1)] true), none, none, some (.lit [(.int .i64 0), .sint .i64 ((sr0Q x).i 1), .sint .i64 ((sr0Q x).i 2), .sint .i64 ((sr0Q x).i 3)] true)], sr0_cs x) := by kernel_rfl

theorem sr0_h (l : List AV) : bodyJ Try.prog G14 1000 105 (asV (varsOf l) 0 sr0A) (asM (varsOf l) (nW sr0A) sr0M) = some (.tup [], sr0B l, sr0_cs (varsOf l)) := by
  unfold sr0B
  rw [sr0R_eq]
  exact sr0_t (varsOf l)

theorem sr0_c (l : List AV) : ∀ b ∈ sr0_cs (varsOf l), b = true := by
  unfold sr0_cs
  simp [sr0_v_35, sr0_v_36, sr0_v_37, sr0_v_38, sr0_v_39, sr0_v_40, sr0_v_41, sr0_v_42, sr0_v_43, sr0_v_44]

noncomputable def G15 : Summ := cutA 105 sr0A sr0M (fun _ => .tup []) sr0B G11

theorem G15_ok : SoundG Try.prog G15 := SoundG.cutA G11_ok G14_ok mixed Try.call105 sr0_h sr0_c

def sr1A : List AS := [.c (.ptr 11 0), .c (.ptr 7 0), .c (.ptr 8 0), .c (.ptr 12 0), .c (.ptr 13 0)]
def sr1M : AM := [some ([.w (.flt .f32), .w (.flt .f32), .w (.flt .f32), .w (.flt .f32)], true), some ([.w (.flt .f32)], true), some ([.w (.flt .f32)], true), some ([.c (.int .i8 0), .c (.int .i8 0), .c (.int .i8 0), .c (.int .i8 0)], true), some ([.c (.fn 76 [(.ptr 0 0), (.ptr 1 0), (.ptr 2 0)])], true), some ([.c (.slc 62 0 4 1)], true), some ([.w (.flt .f32)], true), some ([.c (.int .i64 4)], true), some ([.c (.fn 102 [(.ptr 4 0), (.ptr 5 0), (.ptr 6 0)])], true), none, some ([.c (.bool false), .c (.bool true), .c (.bool false), .c (.bool false)], true), some ([.c (.slc 64 0 1 1)], true), some ([.c (.slc 10 0 4 1)], true), some ([.c (.fn 105 [(.ptr 11 0), (.ptr 7 0), (.ptr 8 0), (.ptr 12 0), (.ptr 13 0)])], true), some ([.c (.int .i64 0)], true), none, some ([.c (.int .i64 1)], true), none, some ([.c (.int .i64 2)], true), none, some ([.c (.int .i64 3)], true), none, none, none, some ([.c (.int .i64 3)], true), none, some ([.c (.int .i64 2)], true), none, none, none, none, some ([.c (.int .i64 2)], true), none, some ([.c (.int .i64 1)], true), none, some ([.c (.int .i64 3)], true), none, none, none, none, some ([.c (.int .i64 3)], true), none, some ([.c (.int .i64 1)], true), none, none, none, none, some ([.c (.int .i64 3)], true), none, some ([.c (.int .i64 1)], true), none, some ([.c (.int .i64 2)], true), none, none, none, none, some ([.c (.int .i64 2)], true), none, some ([.c (.int .i64 1)], true), none, none, none, some ([.c (.int .i64 0), .w (.int .i64), .w (.int .i64), .w (.int .i64)], true), some ([.c (.int .i64 1)], true), some ([.c (.int .i64 1)], true)]

noncomputable def sr1_v_0 (x : Vars) : Vars := (driedR [(.agg [(.flt .f32 0), (.flt .f32 (farith .add .f32 0 (x.u 1))), (.flt .f32 0), (.flt .f32 0)]), (.flt .f32 (x.u 4)), (.flt .f32 (x.u 5))])

noncomputable def sr1_v_1 (x : Vars) : Vars := (driedR [(.agg [(.flt .f32 (farith .add .f32 ((sr1_v_0 x).u 0) (x.u 0))), (.flt .f32 ((sr1_v_0 x).u 1)), (.flt .f32 ((sr1_v_0 x).u 2)), (.flt .f32 ((sr1_v_0 x).u 3))]), (.flt .f32 (x.u 4)), (.flt .f32 (x.u 5))])

noncomputable def sr1_v_2 (x : Vars) : Vars := (driedR [(.agg [(.flt .f32 ((sr1_v_1 x).u 0)), (.flt .f32 ((sr1_v_1 x).u 1)), (.flt .f32 (farith .add .f32 ((sr1_v_1 x).u 2) (x.u 2))), (.flt .f32 ((sr1_v_1 x).u 3))]), (.flt .f32 (x.u 4)), (.flt .f32 (x.u 5))])

noncomputable def sr1_v_3 (x : Vars) : Vars := (driedR [(.agg [(.flt .f32 ((sr1_v_2 x).u 0)), (.flt .f32 ((sr1_v_2 x).u 1)), (.flt .f32 ((sr1_v_2 x).u 2)), (.flt .f32 (farith .add .f32 ((sr1_v_2 x).u 3) (x.u 3)))]), (.flt .f32 (x.u 4)), (.flt .f32 (x.u 5))])

noncomputable def sr1_v_4 (x : Vars) : Nat := (bif (fcmp .lss .f32 (farith .add .f32 (farith .add .f32 (farith .add .f32 ((sr1_v_3 x).u 0) ((sr1_v_3 x).u 1)) ((sr1_v_3 x).u 2)) ((sr1_v_3 x).u 3)) (x.u 6)) then (farith .add .f32 (farith .add .f32 (farith .add .f32 ((sr1_v_3 x).u 0) ((sr1_v_3 x).u 1)) ((sr1_v_3 x).u 2)) ((sr1_v_3 x).u 3)) else (x.u 6))

noncomputable def sr1_v_5 (x : Vars) : Vars := (driedR [(.agg [(.flt .f32 ((sr1_v_1 x).u 0)), (.flt .f32 ((sr1_v_1 x).u 1)), (.flt .f32 ((sr1_v_1 x).u 2)), (.flt .f32 (farith .add .f32 ((sr1_v_1 x).u 3) (x.u 3)))]), (.flt .f32 (x.u 4)), (.flt .f32 (x.u 5))])

noncomputable def sr1_v_6 (x : Vars) : Vars := (driedR [(.agg [(.flt .f32 ((sr1_v_5 x).u 0)), (.flt .f32 ((sr1_v_5 x).u 1)), (.flt .f32 (farith .add .f32 ((sr1_v_5 x).u 2) (x.u 2))), (.flt .f32 ((sr1_v_5 x).u 3))]), (.flt .f32 (x.u 4)), (.flt .f32 (x.u 5))])

noncomputable def sr1_v_7 (x : Vars) : Nat := (bif (fcmp .lss .f32 (farith .add .f32 (farith .add .f32 (farith .add .f32 ((sr1_v_6 x).u 0) ((sr1_v_6 x).u 1)) ((sr1_v_6 x).u 2)) ((sr1_v_6 x).u 3)) (sr1_v_4 x)) then (farith .add .f32 (farith .add .f32 (farith .add .f32 ((sr1_v_6 x).u 0) ((sr1_v_6 x).u 1)) ((sr1_v_6 x).u 2)) ((sr1_v_6 x).u 3)) else (sr1_v_4 x))

noncomputable def sr1_v_8 (x : Vars) : Vars := (driedR [(.agg [(.flt .f32 ((sr1_v_0 x).u 0)), (.flt .f32 ((sr1_v_0 x).u 1)), (.flt .f32 (farith .add .f32 ((sr1_v_0 x).u 2) (x.u 2))), (.flt .f32 ((sr1_v_0 x).u 3))]), (.flt .f32 (x.u 4)), (.flt .f32 (x.u 5))])

noncomputable def sr1_v_9 (x : Vars) : Vars := (driedR [(.agg [(.flt .f32 (farith .add .f32 ((sr1_v_8 x).u 0) (x.u 0))), (.flt .f32 ((sr1_v_8 x).u 1)), (.flt .f32 ((sr1_v_8 x).u 2)), (.flt .f32 ((sr1_v_8 x).u 3))]), (.flt .f32 (x.u 4)), (.flt .f32 (x.u 5))])

noncomputable def sr1_v_10 (x : Vars) : Vars := (driedR [(.agg [(.flt .f32 ((sr1_v_9 x).u 0)), (.flt .f32 ((sr1_v_9 x).u 1)), (.flt .f32 ((sr1_v_9 x).u 2)), (.flt .f32 (farith .add .f32 ((sr1_v_9 x).u 3) (x.u 3)))]), (.flt .f32 (x.u 4)), (.flt .f32 (x.u 5))])

noncomputable def sr1_v_11 (x : Vars) : Nat := (bif (fcmp .lss .f32 (farith .add .f32 (farith .add .f32 (farith .add .f32 ((sr1_v_10 x).u 0) ((sr1_v_10 x).u 1)) ((sr1_v_10 x).u 2)) ((sr1_v_10 x).u 3)) (sr1_v_7 x)) then (farith .add .f32 (farith .add .f32 (farith .add .f32 ((sr1_v_10 x).u 0) ((sr1_v_10 x).u 1)) ((sr1_v_10 x).u 2)) ((sr1_v_10 x).u 3)) else (sr1_v_7 x))

noncomputable def sr1_v_12 (x : Vars) : Vars := (driedR [(.agg [(.flt .f32 ((sr1_v_8 x).u 0)), (.flt .f32 ((sr1_v_8 x).u 1)), (.flt .f32 ((sr1_v_8 x).u 2)), (.flt .f32 (farith .add .f32 ((sr1_v_8 x).u 3) (x.u 3)))]), (.flt .f32 (x.u 4)), (.flt .f32 (x.u 5))])

noncomputable def sr1_v_13 (x : Vars) : Vars := (driedR [(.agg [(.flt .f32 (farith .add .f32 ((sr1_v_12 x).u 0) (x.u 0))), (.flt .f32 ((sr1_v_12 x).u 1)), (.flt .f32 ((sr1_v_12 x).u 2)), (.flt .f32 ((sr1_v_12 x).u 3))]), (.flt .f32 (x.u 4)), (.flt .f32 (x.u 5))])

noncomputable def sr1_v_14 (x : Vars) : Nat := (bif (fcmp .lss .f32 (farith .add .f32 (farith .add .f32 (farith .add .f32 ((sr1_v_13 x).u 0) ((sr1_v_13 x).u 1)) ((sr1_v_13 x).u 2)) ((sr1_v_13 x).u 3)) (sr1_v_11 x)) then (farith .add .f32 (farith .add .f32 (farith .add .f32 ((sr1_v_13 x).u 0) ((sr1_v_13 x).u 1)) ((sr1_v_13 x).u 2)) ((sr1_v_13 x).u 3)) else (sr1_v_11 x))

noncomputable def sr1_v_15 (x : Vars) : Vars := (driedR [(.agg [(.flt .f32 ((sr1_v_0 x).u 0)), (.flt .f32 ((sr1_v_0 x).u 1)), (.flt .f32 ((sr1_v_0 x).u 2)), (.flt .f32 (farith .add .f32 ((sr1_v_0 x).u 3) (x.u 3)))]), (.flt .f32 (x.u 4)), (.flt .f32 (x.u 5))])

noncomputable def sr1_v_16 (x : Vars) : Vars := (driedR [(.agg [(.flt .f32 (farith .add .f32 ((sr1_v_15 x).u 0) (x.u 0))), (.flt .f32 ((sr1_v_15 x).u 1)), (.flt .f32 ((sr1_v_15 x).u 2)), (.flt .f32 ((sr1_v_15 x).u 3))]), (.flt .f32 (x.u 4)), (.flt .f32 (x.u 5))])

noncomputable def sr1_v_17 (x : Vars) : Vars := (driedR [(.agg [(.flt .f32 ((sr1_v_16 x).u 0)), (.flt .f32 ((sr1_v_16 x).u 1)), (.flt .f32 (farith .add .f32 ((sr1_v_16 x).u 2) (x.u 2))), (.flt .f32 ((sr1_v_16 x).u 3))]), (.flt .f32 (x.u 4)), (.flt .f32 (x.u 5))])

noncomputable def sr1_v_18 (x : Vars) : Nat := (bif (fcmp .lss .f32 (farith .add .f32 (farith .add .f32 (farith .add .f32 ((sr1_v_17 x).u 0) ((sr1_v_17 x).u 1)) ((sr1_v_17 x).u 2)) ((sr1_v_17 x).u 3)) (sr1_v_14 x)) then (farith .add .f32 (farith .add .f32 (farith .add .f32 ((sr1_v_17 x).u 0) ((sr1_v_17 x).u 1)) ((sr1_v_17 x).u 2)) ((sr1_v_17 x).u 3)) else (sr1_v_14 x))

noncomputable def sr1_v_19 (x : Vars) : Vars := (driedR [(.agg [(.flt .f32 ((sr1_v_15 x).u 0)), (.flt .f32 ((sr1_v_15 x).u 1)), (.flt .f32 (farith .add .f32 ((sr1_v_15 x).u 2) (x.u 2))), (.flt .f32 ((sr1_v_15 x).u 3))]), (.flt .f32 (x.u 4)), (.flt .f32 (x.u 5))])

noncomputable def sr1_v_20 (x : Vars) : Vars := (driedR [(.agg [(.flt .f32 (farith .add .f32 ((sr1_v_19 x).u 0) (x.u 0))), (.flt .f32 ((sr1_v_19 x).u 1)), (.flt .f32 ((sr1_v_19 x).u 2)), (.flt .f32 ((sr1_v_19 x).u 3))]), (.flt .f32 (x.u 4)), (.flt .f32 (x.u 5))])

noncomputable def sr1_v_21 (x : Vars) : Nat := (bif (fcmp .lss .f32 (farith .add .f32 (farith .add .f32 (farith .add .f32 ((sr1_v_20 x).u 0) ((sr1_v_20 x).u 1)) ((sr1_v_20 x).u 2)) ((sr1_v_20 x).u 3)) (sr1_v_18 x)) then (farith .add .f32 (farith .add .f32 (farith .add .f32 ((sr1_v_20 x).u 0) ((sr1_v_20 x).u 1)) ((sr1_v_20 x).u 2)) ((sr1_v_20 x).u 3)) else (sr1_v_18 x))

noncomputable def sr1_v_22 (x : Vars) : Int := (bif (fcmp .lss .f32 (farith .add .f32 (farith .add .f32 (farith .add .f32 ((sr1_v_3 x).u 0) ((sr1_v_3 x).u 1)) ((sr1_v_3 x).u 2)) ((sr1_v_3 x).u 3)) (x.u 6)) then 1 else 0)

noncomputable def sr1_v_23 (x : Vars) : Int := (bif (fcmp .lss .f32 (farith .add .f32 (farith .add .f32 (farith .add .f32 ((sr1_v_6 x).u 0) ((sr1_v_6 x).u 1)) ((sr1_v_6 x).u 2)) ((sr1_v_6 x).u 3)) (sr1_v_4 x)) then 1 else (sr1_v_22 x))

noncomputable def sr1_v_24 (x : Vars) : Int := (bif (fcmp .lss .f32 (farith .add .f32 (farith .add .f32 (farith .add .f32 ((sr1_v_10 x).u 0) ((sr1_v_10 x).u 1)) ((sr1_v_10 x).u 2)) ((sr1_v_10 x).u 3)) (sr1_v_7 x)) then 1 else (sr1_v_23 x))

noncomputable def sr1_v_25 (x : Vars) : Int := (bif (fcmp .lss .f32 (farith .add .f32 (farith .add .f32 (farith .add .f32 ((sr1_v_13 x).u 0) ((sr1_v_13 x).u 1)) ((sr1_v_13 x).u 2)) ((sr1_v_13 x).u 3)) (sr1_v_11 x)) then 1 else (sr1_v_24 x))

noncomputable def sr1_v_26 (x : Vars) : Int := (bif (fcmp .lss .f32 (farith .add .f32 (farith .add .f32 (farith .add .f32 ((sr1_v_17 x).u 0) ((sr1_v_17 x).u 1)) ((sr1_v_17 x).u 2)) ((sr1_v_17 x).u 3)) (sr1_v_14 x)) then 1 else (sr1_v_25 x))

noncomputable def sr1_v_27 (x : Vars) : Int := (bif (fcmp .lss .f32 (farith .add .f32 (farith .add .f32 (farith .add .f32 ((sr1_v_20 x).u 0) ((sr1_v_20 x).u 1)) ((sr1_v_20 x).u 2)) ((sr1_v_20 x).u 3)) (sr1_v_18 x)) then 1 else (sr1_v_26 x))

noncomputable def sr1_v_28 (x : Vars) : Int := (bif (fcmp .lss .f32 (farith .add .f32 (farith .add .f32 (farith .add .f32 ((sr1_v_3 x).u 0) ((sr1_v_3 x).u 1)) ((sr1_v_3 x).u 2)) ((sr1_v_3 x).u 3)) (x.u 6)) then 0 else (x.i 7))

noncomputable def sr1_v_29 (x : Vars) : Int := (bif (fcmp .lss .f32 (farith .add .f32 (farith .add .f32 (farith .add .f32 ((sr1_v_6 x).u 0) ((sr1_v_6 x).u 1)) ((sr1_v_6 x).u 2)) ((sr1_v_6 x).u 3)) (sr1_v_4 x)) then 0 else (sr1_v_28 x))

noncomputable def sr1_v_30 (x : Vars) : Int := (bif (fcmp .lss .f32 (farith .add .f32 (farith .add .f32 (farith .add .f32 ((sr1_v_10 x).u 0) ((sr1_v_10 x).u 1)) ((sr1_v_10 x).u 2)) ((sr1_v_10 x).u 3)) (sr1_v_7 x)) then 2 else (sr1_v_29 x))

noncomputable def sr1_v_31 (x : Vars) : Int := (bif (fcmp .lss .f32 (farith .add .f32 (farith .add .f32 (farith .add .f32 ((sr1_v_13 x).u 0) ((sr1_v_13 x).u 1)) ((sr1_v_13 x).u 2)) ((sr1_v_13 x).u 3)) (sr1_v_11 x)) then 2 else (sr1_v_30 x))

noncomputable def sr1_v_32 (x : Vars) : Int := (bif (fcmp .lss .f32 (farith .add .f32 (farith .add .f32 (farith .add .f32 ((sr1_v_17 x).u 0) ((sr1_v_17 x).u 1)) ((sr1_v_17 x).u 2)) ((sr1_v_17 x).u 3)) (sr1_v_14 x)) then 3 else (sr1_v_31 x))

noncomputable def sr1_v_33 (x : Vars) : Int := (bif (fcmp .lss .f32 (farith .add .f32 (farith .add .f32 (farith .add .f32 ((sr1_v_20 x).u 0) ((sr1_v_20 x).u 1)) ((sr1_v_20 x).u 2)) ((sr1_v_20 x).u 3)) (sr1_v_18 x)) then 3 else (sr1_v_32 x))

noncomputable def sr1_v_34 (x : Vars) : Int := (bif (fcmp .lss .f32 (farith .add .f32 (farith .add .f32 (farith .add .f32 ((sr1_v_3 x).u 0) ((sr1_v_3 x).u 1)) ((sr1_v_3 x).u 2)) ((sr1_v_3 x).u 3)) (x.u 6)) then 2 else (x.i 8))

noncomputable def sr1_v_35 (x : Vars) : Int := (bif (fcmp .lss .f32 (farith .add .f32 (farith .add .f32 (farith .add .f32 ((sr1_v_6 x).u 0) ((sr1_v_6 x).u 1)) ((sr1_v_6 x).u 2)) ((sr1_v_6 x).u 3)) (sr1_v_4 x)) then 3 else (sr1_v_34 x))

noncomputable def sr1_v_36 (x : Vars) : Int := (bif (fcmp .lss .f32 (farith .add .f32 (farith .add .f32 (farith .add .f32 ((sr1_v_10 x).u 0) ((sr1_v_10 x).u 1)) ((sr1_v_10 x).u 2)) ((sr1_v_10 x).u 3)) (sr1_v_7 x)) then 0 else (sr1_v_35 x))

noncomputable def sr1_v_37 (x : Vars) : Int := (bif (fcmp .lss .f32 (farith .add .f32 (farith .add .f32 (farith .add .f32 ((sr1_v_13 x).u 0) ((sr1_v_13 x).u 1)) ((sr1_v_13 x).u 2)) ((sr1_v_13 x).u 3)) (sr1_v_11 x)) then 3 else (sr1_v_36 x))

noncomputable def sr1_v_38 (x : Vars) : Int := (bif (fcmp .lss .f32 (farith .add .f32 (farith .add .f32 (farith .add .f32 ((sr1_v_17 x).u 0) ((sr1_v_17 x).u 1)) ((sr1_v_17 x).u 2)) ((sr1_v_17 x).u 3)) (sr1_v_14 x)) then 0 else (sr1_v_37 x))

noncomputable def sr1_v_39 (x : Vars) : Int := (bif (fcmp .lss .f32 (farith .add .f32 (farith .add .f32 (farith .add .f32 ((sr1_v_20 x).u 0) ((sr1_v_20 x).u 1)) ((sr1_v_20 x).u 2)) ((sr1_v_20 x).u 3)) (sr1_v_18 x)) then 2 else (sr1_v_38 x))

noncomputable def sr1_v_40 (x : Vars) : Int := (bif (fcmp .lss .f32 (farith .add .f32 (farith .add .f32 (farith .add .f32 ((sr1_v_3 x).u 0) ((sr1_v_3 x).u 1)) ((sr1_v_3 x).u 2)) ((sr1_v_3 x).u 3)) (x.u 6)) then 3 else (x.i 9))

noncomputable def sr1_v_41 (x : Vars) : Int := (bif (fcmp .lss .f32 (farith .add .f32 (farith .add .f32 (farith .add .f32 ((sr1_v_6 x).u 0) ((sr1_v_6 x).u 1)) ((sr1_v_6 x).u 2)) ((sr1_v_6 x).u 3)) (sr1_v_4 x)) then 2 else (sr1_v_40 x))

noncomputable def sr1_v_42 (x : Vars) : Int := (bif (fcmp .lss .f32 (farith .add .f32 (farith .add .f32 (farith .add .f32 ((sr1_v_10 x).u 0) ((sr1_v_10 x).u 1)) ((sr1_v_10 x).u 2)) ((sr1_v_10 x).u 3)) (sr1_v_7 x)) then 3 else (sr1_v_41 x))

noncomputable def sr1_v_43 (x : Vars) : Int := (bif (fcmp .lss .f32 (farith .add .f32 (farith .add .f32 (farith .add .f32 ((sr1_v_13 x).u 0) ((sr1_v_13 x).u 1)) ((sr1_v_13 x).u 2)) ((sr1_v_13 x).u 3)) (sr1_v_11 x)) then 0 else (sr1_v_42 x))

noncomputable def sr1_v_44 (x : Vars) : Int := (bif (fcmp .lss .f32 (farith .add .f32 (farith .add .f32 (farith .add .f32 ((sr1_v_17 x).u 0) ((sr1_v_17 x).u 1)) ((sr1_v_17 x).u 2)) ((sr1_v_17 x).u 3)) (sr1_v_14 x)) then 2 else (sr1_v_43 x))

noncomputable def sr1_v_45 (x : Vars) : Int := (bif (fcmp .lss .f32 (farith .add .f32 (farith .add .f32 (farith .add .f32 ((sr1_v_20 x).u 0) ((sr1_v_20 x).u 1)) ((sr1_v_20 x).u 2)) ((sr1_v_20 x).u 3)) (sr1_v_18 x)) then 0 else (sr1_v_44 x))

noncomputable def sr1_v_46 (x : Vars) : Bool := (!(fcmp .lss .f32 (farith .add .f32 (farith .add .f32 (farith .add .f32 ((sr1_v_20 x).u 0) ((sr1_v_20 x).u 1)) ((sr1_v_20 x).u 2)) ((sr1_v_20 x).u 3)) (sr1_v_18 x)))

noncomputable def sr1_v_47 (x : Vars) : Bool := ((fcmp .lss .f32 (farith .add .f32 (farith .add .f32 (farith .add .f32 ((sr1_v_20 x).u 0) ((sr1_v_20 x).u 1)) ((sr1_v_20 x).u 2)) ((sr1_v_20 x).u 3)) (sr1_v_18 x)) || (sr1_v_46 x))

noncomputable def sr1_v_48 (x : Vars) : Bool := (!(fcmp .lss .f32 (farith .add .f32 (farith .add .f32 (farith .add .f32 ((sr1_v_17 x).u 0) ((sr1_v_17 x).u 1)) ((sr1_v_17 x).u 2)) ((sr1_v_17 x).u 3)) (sr1_v_14 x)))

noncomputable def sr1_v_49 (x : Vars) : Bool := ((fcmp .lss .f32 (farith .add .f32 (farith .add .f32 (farith .add .f32 ((sr1_v_17 x).u 0) ((sr1_v_17 x).u 1)) ((sr1_v_17 x).u 2)) ((sr1_v_17 x).u 3)) (sr1_v_14 x)) || (sr1_v_48 x))

noncomputable def sr1_v_50 (x : Vars) : Bool := (!(fcmp .lss .f32 (farith .add .f32 (farith .add .f32 (farith .add .f32 ((sr1_v_13 x).u 0) ((sr1_v_13 x).u 1)) ((sr1_v_13 x).u 2)) ((sr1_v_13 x).u 3)) (sr1_v_11 x)))

noncomputable def sr1_v_51 (x : Vars) : Bool := ((fcmp .lss .f32 (farith .add .f32 (farith .add .f32 (farith .add .f32 ((sr1_v_13 x).u 0) ((sr1_v_13 x).u 1)) ((sr1_v_13 x).u 2)) ((sr1_v_13 x).u 3)) (sr1_v_11 x)) || (sr1_v_50 x))

noncomputable def sr1_v_52 (x : Vars) : Bool := (!(fcmp .lss .f32 (farith .add .f32 (farith .add .f32 (farith .add .f32 ((sr1_v_10 x).u 0) ((sr1_v_10 x).u 1)) ((sr1_v_10 x).u 2)) ((sr1_v_10 x).u 3)) (sr1_v_7 x)))

noncomputable def sr1_v_53 (x : Vars) : Bool := ((fcmp .lss .f32 (farith .add .f32 (farith .add .f32 (farith .add .f32 ((sr1_v_10 x).u 0) ((sr1_v_10 x).u 1)) ((sr1_v_10 x).u 2)) ((sr1_v_10 x).u 3)) (sr1_v_7 x)) || (sr1_v_52 x))

noncomputable def sr1_v_54 (x : Vars) : Bool := (!(fcmp .lss .f32 (farith .add .f32 (farith .add .f32 (farith .add .f32 ((sr1_v_6 x).u 0) ((sr1_v_6 x).u 1)) ((sr1_v_6 x).u 2)) ((sr1_v_6 x).u 3)) (sr1_v_4 x)))

noncomputable def sr1_v_55 (x : Vars) : Bool := ((fcmp .lss .f32 (farith .add .f32 (farith .add .f32 (farith .add .f32 ((sr1_v_6 x).u 0) ((sr1_v_6 x).u 1)) ((sr1_v_6 x).u 2)) ((sr1_v_6 x).u 3)) (sr1_v_4 x)) || (sr1_v_54 x))

noncomputable def sr1_v_56 (x : Vars) : Bool := (!(fcmp .lss .f32 (farith .add .f32 (farith .add .f32 (farith .add .f32 ((sr1_v_3 x).u 0) ((sr1_v_3 x).u 1)) ((sr1_v_3 x).u 2)) ((sr1_v_3 x).u 3)) (x.u 6)))

noncomputable def sr1_v_57 (x : Vars) : Bool := ((fcmp .lss .f32 (farith .add .f32 (farith .add .f32 (farith .add .f32 ((sr1_v_3 x).u 0) ((sr1_v_3 x).u 1)) ((sr1_v_3 x).u 2)) ((sr1_v_3 x).u 3)) (x.u 6)) || (sr1_v_56 x))

noncomputable def sr1Q (x : Vars) : Vars := varsOf [.flt .f32 (sr1_v_21 x), .sint .i64 (sr1_v_27 x), .sint .i64 (sr1_v_33 x), .sint .i64 (sr1_v_39 x), .sint .i64 (sr1_v_45 x)]

noncomputable def sr1R0 (l : List AV) : Vars := sr1Q (varsOf l)

noncomputable def sr1R : List AV → Vars := Classical.choose (⟨sr1R0, rfl⟩ : ∃ f, f = sr1R0)

theorem sr1R_eq : sr1R = sr1R0 := Classical.choose_spec (⟨sr1R0, rfl⟩ : ∃ f, f = sr1R0)

noncomputable def sr1B (l : List AV) : Mem := [some (.lit [.flt .f32 ((varsOf l).u 0), .flt .f32 ((varsOf l).u 1), .flt .f32 ((varsOf l).u 2), .flt .f32 ((varsOf l).u 3)] true), some (.lit [.flt .f32 ((varsOf l).u 4)] true), some (.lit [.flt .f32 ((varsOf l).u 5)] true), some (.lit [(.int .i8 0), (.int .i8 0), (.int .i8 0), (.int .i8 0)] true), some (.lit [(.fn 76 [(.ptr 0 0), (.ptr 1 0), (.ptr 2 0)])] true), some (.lit [(.slc 112 0 4 1)] true), some (.lit [.flt .f32 ((sr1R l).u 0)] true), some (.lit [(.int .i64 4)] true), some (.lit [(.fn 102 [(.ptr 4 0), (.ptr 5 0), (.ptr 6 0)])] true), none, some (.lit [(.bool false), (.bool true), (.bool false), (.bool false)] true), some (.lit [(.slc 109 0 1 1)] true), some (.lit [(.slc 10 0 4 1)] true), some (.lit [(.fn 105 [(.ptr 11 0), (.ptr 7 0), (.ptr 8 0), (.ptr 12 0), (.ptr 13 0)])] true), some (.lit [(.int .i64 0)] true), none, some (.lit [(.int .i64 1)] true), none, some (.lit [(.int .i64 2)] true), none, some (.lit [(.int .i64 3)] true), none, none, none, some (.lit [(.int .i64 3)] true), none, some (.lit [(.int .i64 2)] true), none, none, none, none, some (.lit [(.int .i64 2)] true), none, some (.lit [(.int .i64 1)] true), none, some (.lit [(.int .i64 3)] true), none, none, none, none, some (.lit [(.int .i64 3)] true), none, some (.lit [(.int .i64 1)] true), none, none, none, none, some (.lit [(.int .i64 3)] true), none, some (.lit [(.int .i64 1)] true), none, some (.lit [(.int .i64 2)] true), none, none, none, none, some (.lit [(.int .i64 2)] true), none, some (.lit [(.int .i64 1)] true), none, none, none, none, some (.lit [(.int .i64 1)] true), none, some (.lit [(.int .i64 0)] true), none, some (.lit [(.int .i64 2)] true), none, some (.lit [(.int .i64 3)] true), none, none, none, none, some (.lit [(.int .i64 3)] true), none, some (.lit [(.int .i64 2)] true), none, none, none, none, some (.lit [(.int .i64 2)] true), none, some (.lit [(.int .i64 0)] true), none, some (.lit [(.int .i64 3)] true), none, none, none, none, some (.lit [(.int .i64 3)] true), none, some (.lit [(.int .i64 0)] true), none, none, none, none, some (.lit [(.int .i64 3)] true), none, some (.lit [(.int .i64 0)] true), none, some (.lit [(.int .i64 2)] true), none, none, none, none, some (.lit [(.int .i64 2)] true), none, some (.lit [(.int .i64 0)] true), some (.lit [(.int .i64 1), (.int .i64 3), (.int .i64 2), (.int .i64 0)] true), none, none, some (.lit [.sint .i64 ((sr1R l).i 1), .sint .i64 ((sr1R l).i 2), .sint .i64 ((sr1R l).i 3), .sint .i64 ((sr1R l).i 4)] true)]

noncomputable def sr1_cs (x : Vars) : List Bool := [(sr1_v_47 x), (sr1_v_49 x), (sr1_v_51 x), (sr1_v_53 x), (sr1_v_55 x), (sr1_v_57 x)]

theorem sr1_t (x : Vars) : bodyJ Try.prog G14 1000 105 (asV x 0 sr1A) (asM x (nW sr1A) sr1M) = some (.tup [], [some (.lit [.flt .f32 (x.u 0), .flt .f32 (x.u 1), .flt .f32 (x.u 2), .flt .f32 (x.u 3)] true), some (.lit [.flt .f32 (x.u 4)] true), some (.lit [.flt .f32 (x.u 5)] true), some (.lit [(.int .i8 0), (.int .i8 0), (.int .i8 0), (.int .i8 0)] true), some (.lit [(.fn 76 [(.ptr 0 0), (.ptr 1 0), (.ptr 2 0)])] true), some (.lit [(.slc 112 0 4 1)] true), some (.lit [.flt .f32 ((sr1Q x).u 0)] true), some (.lit [(.int .i64 4)] true), some (.lit [(.fn 102 [(.ptr 4 0), (.ptr 5 0), (.ptr 6 0)])] true), none, some (.lit [(.bool false), (.bool true), (.bool false), (.bool false)] true), some (.lit [(.slc 109 0 1 1)] true), some (.lit [(.slc 10 0 4 1)] true), some (.lit [(.fn 105 [(.ptr 11 0), (.ptr 7 0), (.ptr 8 0), (.ptr 12 0), (.ptr 13 0)])] true), some (.lit [(.int .i64 0)] true), none, some (.lit [(.int .i64 1)] true), none, some (.lit [(.int .i64 2)] true), none, some (.lit [(.int .i64 3)] true), none, none, none, some (.lit [(.int .i64 3)] true), none, some (.lit [(.int .i64 2)] true), none, none, none, none, some (.lit [(.int .i64 2)] true), none, some (.lit [(.int .i64 1)] true), none, some (.lit [(.int .i64 3)] true), none, none, none, none, some (.lit [(.int .i64 3)] true), none, some (.lit [(.int .i64 1)] true), none, none, none, none, some (.lit [(.int .i64 3)] true), none, some (.lit [(.int .i64 1)] true), none, some (.lit [(.int .i64 2)] true), none, none, none, none, some (.lit [(.int .i64 2)] true), none, some (.lit [(.int .i64 1)] true), none, none, none, none, some (.lit [(.int .i64 1)] true), none, some (.lit [(.int .i64 0)] true), none, some (.lit [(.int .i64 2)] true), none, some (.lit [(.int .i64 3)] true), none, none, none, none, some (.lit [(.int .i64 3)] true), none, some (.lit [(.int .i64 2)] true), none, none, none, none, some (.lit [(.int .i64 2)] true), none, some (.lit [(.int .i64 0)] true), none, some (.lit [(.int .i64 3)] true), none, none, none, none, some (.lit [(.int .i64 3)] true), none, some (.lit [(.int .i64 0)] true), none, none, none, none, some (.lit [(.int .i64 3)] true), none, some (.lit [(.int .i64 0)] true), none, some (.lit [(.int .i64 2)] true), none, none, none, none, some (.lit [(.int .i64 2)] true), none, some (.lit [(.int .i64 0)] true), some (.lit [(.int .i64 1), (.int .i64 3), (.int .i64 2), (.int .i64 0)] true), none, none, some (.lit [.sint .i64 ((sr1Q x).i 1), .sint .i64 ((sr1Q x).i 2), .sint .i64 ((sr1Q x).i 3), .sint .i64 ((sr1Q x).i 4)] true)], sr1_cs x) := by kernel_rfl

theorem sr1_h (l : List AV) : bodyJ Try.prog G14 1000 105 (asV (varsOf l) 0 sr1A) (asM (varsOf l) (nW sr1A) sr1M) = some (.tup [], sr1B l, sr1_cs (varsOf l)) := by
  unfold sr1B
  rw [sr1R_eq]
  exact sr1_t (varsOf l)

theorem sr1_c (l : List AV) : ∀ b ∈ sr1_cs (varsOf l), b = true := by
  unfold sr1_cs
  simp [sr1_v_46, sr1_v_47, sr1_v_48, sr1_v_49, sr1_v_50, sr1_v_51, sr1_v_52, sr1_v_53, sr1_v_54, sr1_v_55, sr1_v_56, sr1_v_57]

noncomputable def G16 : Summ := cutA 105 sr1A sr1M (fun _ => .tup []) sr1B G15

theorem G16_ok : SoundG Try.prog G16 := SoundG.cutA G15_ok G14_ok mixed Try.call105 sr1_h sr1_c

def sr2A : List AS := [.c (.ptr 11 0), .c (.ptr 7 0), .c (.ptr 8 0), .c (.ptr 12 0), .c (.ptr 13 0)]
def sr2M : AM := [some ([.w (.flt .f32), .w (.flt .f32), .w (.flt .f32), .w (.flt .f32)], true), some ([.w (.flt .f32)], true), some ([.w (.flt .f32)], true), some ([.c (.int .i8 0), .c (.int .i8 0), .c (.int .i8 0), .c (.int .i8 0)], true), some ([.c (.fn 76 [(.ptr 0 0), (.ptr 1 0), (.ptr 2 0)])], true), some ([.c (.slc 112 0 4 1)], true), some ([.w (.flt .f32)], true), some ([.c (.int .i64 4)], true), some ([.c (.fn 102 [(.ptr 4 0), (.ptr 5 0), (.ptr 6 0)])], true), none, some ([.c (.bool false), .c (.bool false), .c (.bool true), .c (.bool false)], true), some ([.c (.slc 114 0 1 1)], true), some ([.c (.slc 10 0 4 1)], true), some ([.c (.fn 105 [(.ptr 11 0), (.ptr 7 0), (.ptr 8 0), (.ptr 12 0), (.ptr 13 0)])], true), some ([.c (.int .i64 0)], true), none, some ([.c (.int .i64 1)], true), none, some ([.c (.int .i64 2)], true), none, some ([.c (.int .i64 3)], true), none, none, none, some ([.c (.int .i64 3)], true), none, some ([.c (.int .i64 2)], true), none, none, none, none, some ([.c (.int .i64 2)], true), none, some ([.c (.int .i64 1)], true), none, some ([.c (.int .i64 3)], true), none, none, none, none, some ([.c (.int .i64 3)], true), none, some ([.c (.int .i64 1)], true), none, none, none, none, some ([.c (.int .i64 3)], true), none, some ([.c (.int .i64 1)], true), none, some ([.c (.int .i64 2)], true), none, none, none, none, some ([.c (.int .i64 2)], true), none, some ([.c (.int .i64 1)], true), none, none, none, none, some ([.c (.int .i64 1)], true), none, some ([.c (.int .i64 0)], true), none, some ([.c (.int .i64 2)], true), none, some ([.c (.int .i64 3)], true), none, none, none, none, some ([.c (.int .i64 3)], true), none, some ([.c (.int .i64 2)], true), none, none, none, none, some ([.c (.int .i64 2)], true), none, some ([.c (.int .i64 0)], true), none, some ([.c (.int .i64 3)], true), none, none, none, none, some ([.c (.int .i64 3)], true), none, some ([.c (.int .i64 0)], true), none, none, none, none, some ([.c (.int .i64 3)], true), none, some ([.c (.int .i64 0)], true), none, some ([.c (.int .i64 2)], true), none, none, none, none, some ([.c (.int .i64 2)], true), none, some ([.c (.int .i64 0)], true), none, none, none, some ([.w (.int .i64), .w (.int .i64), .w (.int .i64), .w (.int .i64)], true), some ([.c (.int .i64 2)], true), some ([.c (.int .i64 2)], true)]

noncomputable def sr2_v_0 (x : Vars) : Vars := (driedR [(.agg [(.flt .f32 0), (.flt .f32 0), (.flt .f32 (farith .add .f32 0 (x.u 2))), (.flt .f32 0)]), (.flt .f32 (x.u 4)), (.flt .f32 (x.u 5))])

noncomputable def sr2_v_1 (x : Vars) : Vars := (driedR [(.agg [(.flt .f32 (farith .add .f32 ((sr2_v_0 x).u 0) (x.u 0))), (.flt .f32 ((sr2_v_0 x).u 1)), (.flt .f32 ((sr2_v_0 x).u 2)), (.flt .f32 ((sr2_v_0 x).u 3))]), (.flt .f32 (x.u 4)), (.flt .f32 (x.u 5))])

noncomputable def sr2_v_2 (x : Vars) : Vars := (driedR [(.agg [(.flt .f32 ((sr2_v_1 x).u 0)), (.flt .f32 (farith .add .f32 ((sr2_v_1 x).u 1) (x.u 1))), (.flt .f32 ((sr2_v_1 x).u 2)), (.flt .f32 ((sr2_v_1 x).u 3))]), (.flt .f32 (x.u 4)), (.flt .f32 (x.u 5))])

noncomputable def sr2_v_3 (x : Vars) : Vars := (driedR [(.agg [(.flt .f32 ((sr2_v_2 x).u 0)), (.flt .f32 ((sr2_v_2 x).u 1)), (.flt .f32 ((sr2_v_2 x).u 2)), (.flt .f32 (farith .add .f32 ((sr2_v_2 x).u 3) (x.u 3)))]), (.flt .f32 (x.u 4)), (.flt .f32 (x.u 5))])

noncomputable def sr2_v_4 (x : Vars) : Nat := (bif (fcmp .lss .f32 (farith .add .f32 (farith .add .f32 (farith .add .f32 ((sr2_v_3 x).u 0) ((sr2_v_3 x).u 1)) ((sr2_v_3 x).u 2)) ((sr2_v_3 x).u 3)) (x.u 6)) then (farith .add .f32 (farith .add .f32 (farith .add .f32 ((sr2_v_3 x).u 0) ((sr2_v_3 x).u 1)) ((sr2_v_3 x).u 2)) ((sr2_v_3 x).u 3)) else (x.u 6))

noncomputable def sr2_v_5 (x : Vars) : Vars := (driedR [(.agg [(.flt .f32 ((sr2_v_1 x).u 0)), (.flt .f32 ((sr2_v_1 x).u 1)), (.flt .f32 ((sr2_v_1 x).u 2)), (.flt .f32 (farith .add .f32 ((sr2_v_1 x).u 3) (x.u 3)))]), (.flt .f32 (x.u 4)), (.flt .f32 (x.u 5))])

noncomputable def sr2_v_6 (x : Vars) : Vars := (driedR [(.agg [(.flt .f32 ((sr2_v_5 x).u 0)), (.flt .f32 (farith .add .f32 ((sr2_v_5 x).u 1) (x.u 1))), (.flt .f32 ((sr2_v_5 x).u 2)), (.flt .f32 ((sr2_v_5 x).u 3))]), (.flt .f32 (x.u 4)), (.flt .f32 (x.u 5))])

noncomputable def sr2_v_7 (x : Vars) : Nat := (bif (fcmp .lss .f32 (farith .add .f32 (farith .add .f32 (farith .add .f32 ((sr2_v_6 x).u 0) ((sr2_v_6 x).u 1)) ((sr2_v_6 x).u 2)) ((sr2_v_6 x).u 3)) (sr2_v_4 x)) then (farith .add .f32 (farith .add .f32 (farith .add .f32 ((sr2_v_6 x).u 0) ((sr2_v_6 x).u 1)) ((sr2_v_6 x).u 2)) ((sr2_v_6 x).u 3)) else (sr2_v_4 x))

noncomputable def sr2_v_8 (x : Vars) : Vars := (driedR [(.agg [(.flt .f32 ((sr2_v_0 x).u 0)), (.flt .f32 (farith .add .f32 ((sr2_v_0 x).u 1) (x.u 1))), (.flt .f32 ((sr2_v_0 x).u 2)), (.flt .f32 ((sr2_v_0 x).u 3))]), (.flt .f32 (x.u 4)), (.flt .f32 (x.u 5))])

noncomputable def sr2_v_9 (x : Vars) : Vars := (driedR [(.agg [(.flt .f32 (farith .add .f32 ((sr2_v_8 x).u 0) (x.u 0))), (.flt .f32 ((sr2_v_8 x).u 1)), (.flt .f32 ((sr2_v_8 x).u 2)), (.flt .f32 ((sr2_v_8 x).u 3))]), (.flt .f32 (x.u 4)), (.flt .f32 (x.u 5))])

noncomputable def sr2_v_10 (x : Vars) : Vars := (driedR [(.agg [(.flt .f32 ((sr2_v_9 x).u 0)), (.flt .f32 ((sr2_v_9 x).u 1)), (.flt .f32 ((sr2_v_9 x).u 2)), (.flt .f32 (farith .add .f32 ((sr2_v_9 x).u 3) (x.u 3)))]), (.flt .f32 (x.u 4)), (.flt .f32 (x.u 5))])

noncomputable def sr2_v_11 (x : Vars) : Nat := (bif (fcmp .lss .f32 (farith .add .f32 (farith .add .f32 (farith .add .f32 ((sr2_v_10 x).u 0) ((sr2_v_10 x).u 1)) ((sr2_v_10 x).u 2)) ((sr2_v_10 x).u 3)) (sr2_v_7 x)) then (farith .add .f32 (farith .add .f32 (farith .add .f32 ((sr2_v_10 x).u 0) ((sr2_v_10 x).u 1)) ((sr2_v_10 x).u 2)) ((sr2_v_10 x).u 3)) else (sr2_v_7 x))

noncomputable def sr2_v_12 (x : Vars) : Vars := (driedR [(.agg [(.flt .f32 ((sr2_v_8 x).u 0)), (.flt .f32 ((sr2_v_8 x).u 1)), (.flt .f32 ((sr2_v_8 x).u 2)), (.flt .f32 (farith .add .f32 ((sr2_v_8 x).u 3) (x.u 3)))]), (.flt .f32 (x.u 4)), (.flt .f32 (x.u 5))])

noncomputable def sr2_v_13 (x : Vars) : Vars := (driedR [(.agg [(.flt .f32 (farith .add .f32 ((sr2_v_12 x).u 0) (x.u 0))), (.flt .f32 ((sr2_v_12 x).u 1)), (.flt .f32 ((sr2_v_12 x).u 2)), (.flt .f32 ((sr2_v_12 x).u 3))]), (.flt .f32 (x.u 4)), (.flt .f32 (x.u 5))])

noncomputable def sr2_v_14 (x : Vars) : Nat := (bif (fcmp .lss .f32 (farith .add .f32 (farith .add .f32 (farith .add .f32 ((sr2_v_13 x).u 0) ((sr2_v_13 x).u 1)) ((sr2_v_13 x).u 2)) ((sr2_v_13 x).u 3)) (sr2_v_11 x)) then (farith .add .f32 (farith .add .f32 (farith .add .f32 ((sr2_v_13 x).u 0) ((sr2_v_13 x).u 1)) ((sr2_v_13 x).u 2)) ((sr2_v_13 x).u 3)) else (sr2_v_11 x))

noncomputable def sr2_v_15 (x : Vars) : Vars := (driedR [(.agg [(.flt .f32 ((sr2_v_0 x).u 0)), (.flt .f32 ((sr2_v_0 x).u 1)), (.flt .f32 ((sr2_v_0 x).u 2)), (.flt .f32 (farith .add .f32 ((sr2_v_0 x).u 3) (x.u 3)))]), (.flt .f32 (x.u 4)), (.flt .f32 (x.u 5))])

noncomputable def sr2_v_16 (x : Vars) : Vars := (driedR [(.agg [(.flt .f32 (farith .add .f32 ((sr2_v_15 x).u 0) (x.u 0))), (.flt .f32 ((sr2_v_15 x).u 1)), (.flt .f32 ((sr2_v_15 x).u 2)), (.flt .f32 ((sr2_v_15 x).u 3))]), (.flt .f32 (x.u 4)), (.flt .f32 (x.u 5))])

noncomputable def sr2_v_17 (x : Vars) : Vars := (driedR [(.agg [(.flt .f32 ((sr2_v_16 x).u 0)), (.flt .f32 (farith .add .f32 ((sr2_v_16 x).u 1) (x.u 1))), (.flt .f32 ((sr2_v_16 x).u 2)), (.flt .f32 ((sr2_v_16 x).u 3))]), (.flt .f32 (x.u 4)), (.flt .f32 (x.u 5))])

noncomputable def sr2_v_18 (x : Vars) : Nat := (bif (fcmp .lss .f32 (farith .add .f32 (farith .add .f32 (farith .add .f32 ((sr2_v_17 x).u 0) ((sr2_v_17 x).u 1)) ((sr2_v_17 x).u 2)) ((sr2_v_17 x).u 3)) (sr2_v_14 x)) then (farith .add .f32 (farith .add .f32 (farith .add .f32 ((sr2_v_17 x).u 0) ((sr2_v_17 x).u 1)) ((sr2_v_17 x).u 2)) ((sr2_v_17 x).u 3)) else (sr2_v_14 x))

noncomputable def sr2_v_19 (x : Vars) : Vars := (driedR [(.agg [(.flt .f32 ((sr2_v_15 x).u 0)), (.flt .f32 (farith .add .f32 ((sr2_v_15 x).u 1) (x.u 1))), (.flt .f32 ((sr2_v_15 x).u 2)), (.flt .f32 ((sr2_v_15 x).u 3))]), (.flt .f32 (x.u 4)), (.flt .f32 (x.u 5))])

noncomputable def sr2_v_20 (x : Vars) : Vars := (driedR [(.agg [(.flt .f32 (farith .add .f32 ((sr2_v_19 x).u 0) (x.u 0))), (.flt .f32 ((sr2_v_19 x).u 1)), (.flt .f32 ((sr2_v_19 x).u 2)), (.flt .f32 ((sr2_v_19 x).u 3))]), (.flt .f32 (x.u 4)), (.flt .f32 (x.u 5))])

noncomputable def sr2_v_21 (x : Vars) : Nat := (bif (fcmp .lss .f32 (farith .add .f32 (farith .add .f32 (farith .add .f32 ((sr2_v_20 x).u 0) ((sr2_v_20 x).u 1)) ((sr2_v_20 x).u 2)) ((sr2_v_20 x).u 3)) (sr2_v_18 x)) then (farith .add .f32 (farith .add .f32 (farith .add .f32 ((sr2_v_20 x).u 0) ((sr2_v_20 x).u 1)) ((sr2_v_20 x).u 2)) ((sr2_v_20 x).u 3)) else (sr2_v_18 x))

noncomputable def sr2_v_22 (x : Vars) : Int := (bif (fcmp .lss .f32 (farith .add .f32 (farith .add .f32 (farith .add .f32 ((sr2_v_3 x).u 0) ((sr2_v_3 x).u 1)) ((sr2_v_3 x).u 2)) ((sr2_v_3 x).u 3)) (x.u 6)) then 2 else (x.i 7))

noncomputable def sr2_v_23 (x : Vars) : Int := (bif (fcmp .lss .f32 (farith .add .f32 (farith .add .f32 (farith .add .f32 ((sr2_v_6 x).u 0) ((sr2_v_6 x).u 1)) ((sr2_v_6 x).u 2)) ((sr2_v_6 x).u 3)) (sr2_v_4 x)) then 2 else (sr2_v_22 x))

noncomputable def sr2_v_24 (x : Vars) : Int := (bif (fcmp .lss .f32 (farith .add .f32 (farith .add .f32 (farith .add .f32 ((sr2_v_10 x).u 0) ((sr2_v_10 x).u 1)) ((sr2_v_10 x).u 2)) ((sr2_v_10 x).u 3)) (sr2_v_7 x)) then 2 else (sr2_v_23 x))

noncomputable def sr2_v_25 (x : Vars) : Int := (bif (fcmp .lss .f32 (farith .add .f32 (farith .add .f32 (farith .add .f32 ((sr2_v_13 x).u 0) ((sr2_v_13 x).u 1)) ((sr2_v_13 x).u 2)) ((sr2_v_13 x).u 3)) (sr2_v_11 x)) then 2 else (sr2_v_24 x))

noncomputable def sr2_v_26 (x : Vars) : Int := (bif (fcmp .lss .f32 (farith .add .f32 (farith .add .f32 (farith .add .f32 ((sr2_v_17 x).u 0) ((sr2_v_17 x).u 1)) ((sr2_v_17 x).u 2)) ((sr2_v_17 x).u 3)) (sr2_v_14 x)) then 2 else (sr2_v_25 x))

noncomputable def sr2_v_27 (x : Vars) : Int := (bif (fcmp .lss .f32 (farith .add .f32 (farith .add .f32 (farith .add .f32 ((sr2_v_20 x).u 0) ((sr2_v_20 x).u 1)) ((sr2_v_20 x).u 2)) ((sr2_v_20 x).u 3)) (sr2_v_18 x)) then 2 else (sr2_v_26 x))

noncomputable def sr2_v_28 (x : Vars) : Int := (bif (fcmp .lss .f32 (farith .add .f32 (farith .add .f32 (farith .add .f32 ((sr2_v_3 x).u 0) ((sr2_v_3 x).u 1)) ((sr2_v_3 x).u 2)) ((sr2_v_3 x).u 3)) (x.u 6)) then 0 else (x.i 8))

noncomputable def sr2_v_29 (x : Vars) : Int := (bif (fcmp .lss .f32 (farith .add .f32 (farith .add .f32 (farith .add .f32 ((sr2_v_6 x).u 0) ((sr2_v_6 x).u 1)) ((sr2_v_6 x).u 2)) ((sr2_v_6 x).u 3)) (sr2_v_4 x)) then 0 else (sr2_v_28 x))

noncomputable def sr2_v_30 (x : Vars) : Int := (bif (fcmp .lss .f32 (farith .add .f32 (farith .add .f32 (farith .add .f32 ((sr2_v_10 x).u 0) ((sr2_v_10 x).u 1)) ((sr2_v_10 x).u 2)) ((sr2_v_10 x).u 3)) (sr2_v_7 x)) then 1 else (sr2_v_29 x))

noncomputable def sr2_v_31 (x : Vars) : Int := (bif (fcmp .lss .f32 (farith .add .f32 (farith .add .f32 (farith .add .f32 ((sr2_v_13 x).u 0) ((sr2_v_13 x).u 1)) ((sr2_v_13 x).u 2)) ((sr2_v_13 x).u 3)) (sr2_v_11 x)) then 1 else (sr2_v_30 x))

noncomputable def sr2_v_32 (x : Vars) : Int := (bif (fcmp .lss .f32 (farith .add .f32 (farith .add .f32 (farith .add .f32 ((sr2_v_17 x).u 0) ((sr2_v_17 x).u 1)) ((sr2_v_17 x).u 2)) ((sr2_v_17 x).u 3)) (sr2_v_14 x)) then 3 else (sr2_v_31 x))

noncomputable def sr2_v_33 (x : Vars) : Int := (bif (fcmp .lss .f32 (farith .add .f32 (farith .add .f32 (farith .add .f32 ((sr2_v_20 x).u 0) ((sr2_v_20 x).u 1)) ((sr2_v_20 x).u 2)) ((sr2_v_20 x).u 3)) (sr2_v_18 x)) then 3 else (sr2_v_32 x))

noncomputable def sr2_v_34 (x : Vars) : Int := (bif (fcmp .lss .f32 (farith .add .f32 (farith .add .f32 (farith .add .f32 ((sr2_v_3 x).u 0) ((sr2_v_3 x).u 1)) ((sr2_v_3 x).u 2)) ((sr2_v_3 x).u 3)) (x.u 6)) then 1 else (x.i 9))

noncomputable def sr2_v_35 (x : Vars) : Int := (bif (fcmp .lss .f32 (farith .add .f32 (farith .add .f32 (farith .add .f32 ((sr2_v_6 x).u 0) ((sr2_v_6 x).u 1)) ((sr2_v_6 x).u 2)) ((sr2_v_6 x).u 3)) (sr2_v_4 x)) then 3 else (sr2_v_34 x))

noncomputable def sr2_v_36 (x : Vars) : Int := (bif (fcmp .lss .f32 (farith .add .f32 (farith .add .f32 (farith .add .f32 ((sr2_v_10 x).u 0) ((sr2_v_10 x).u 1)) ((sr2_v_10 x).u 2)) ((sr2_v_10 x).u 3)) (sr2_v_7 x)) then 0 else (sr2_v_35 x))

noncomputable def sr2_v_37 (x : Vars) : Int := (bif (fcmp .lss .f32 (farith .add .f32 (farith .add .f32 (farith .add .f32 ((sr2_v_13 x).u 0) ((sr2_v_13 x).u 1)) ((sr2_v_13 x).u 2)) ((sr2_v_13 x).u 3)) (sr2_v_11 x)) then 3 else (sr2_v_36 x))

noncomputable def sr2_v_38 (x : Vars) : Int := (bif (fcmp .lss .f32 (farith .add .f32 (farith .add .f32 (farith .add .f32 ((sr2_v_17 x).u 0) ((sr2_v_17 x).u 1)) ((sr2_v_17 x).u 2)) ((sr2_v_17 x).u 3)) (sr2_v_14 x)) then 0 else (sr2_v_37 x))

noncomputable def sr2_v_39 (x : Vars) : Int := (bif (fcmp .lss .f32 (farith .add .f32 (farith .add .f32 (farith .add .f32 ((sr2_v_20 x).u 0) ((sr2_v_20 x).u 1)) ((sr2_v_20 x).u 2)) ((sr2_v_20 x).u 3)) (sr2_v_18 x)) then 1 else (sr2_v_38 x))

noncomputable def sr2_v_40 (x : Vars) : Int := (bif (fcmp .lss .f32 (farith .add .f32 (farith .add .f32 (farith .add .f32 ((sr2_v_3 x).u 0) ((sr2_v_3 x).u 1)) ((sr2_v_3 x).u 2)) ((sr2_v_3 x).u 3)) (x.u 6)) then 3 else (x.i 10))

noncomputable def sr2_v_41 (x : Vars) : Int := (bif (fcmp .lss .f32 (farith .add .f32 (farith .add .f32 (farith .add .f32 ((sr2_v_6 x).u 0) ((sr2_v_6 x).u 1)) ((sr2_v_6 x).u 2)) ((sr2_v_6 x).u 3)) (sr2_v_4 x)) then 1 else (sr2_v_40 x))

noncomputable def sr2_v_42 (x : Vars) : Int := (bif (fcmp .lss .f32 (farith .add .f32 (farith .add .f32 (farith .add .f32 ((sr2_v_10 x).u 0) ((sr2_v_10 x).u 1)) ((sr2_v_10 x).u 2)) ((sr2_v_10 x).u 3)) (sr2_v_7 x)) then 3 else (sr2_v_41 x))

noncomputable def sr2_v_43 (x : Vars) : Int := (bif (fcmp .lss .f32 (farith .add .f32 (farith .add .f32 (farith .add .f32 ((sr2_v_13 x).u 0) ((sr2_v_13 x).u 1)) ((sr2_v_13 x).u 2)) ((sr2_v_13 x).u 3)) (sr2_v_11 x)) then 0 else (sr2_v_42 x))

noncomputable def sr2_v_44 (x : Vars) : Int := (bif (fcmp .lss .f32 (farith .add .f32 (farith .add .f32 (farith .add .f32 ((sr2_v_17 x).u 0) ((sr2_v_17 x).u 1)) ((sr2_v_17 x).u 2)) ((sr2_v_17 x).u 3)) (sr2_v_14 x)) then 1 else (sr2_v_43 x))

noncomputable def sr2_v_45 (x : Vars) : Int := (bif (fcmp .lss .f32 (farith .add .f32 (farith .add .f32 (farith .add .f32 ((sr2_v_20 x).u 0) ((sr2_v_20 x).u 1)) ((sr2_v_20 x).u 2)) ((sr2_v_20 x).u 3)) (sr2_v_18 x)) then 0 else (sr2_v_44 x))

noncomputable def sr2_v_46 (x : Vars) : Bool := (!(fcmp .lss .f32 (farith .add .f32 (farith .add .f32 (farith .add .f32 ((sr2_v_20 x).u 0) ((sr2_v_20 x).u 1)) ((sr2_v_20 x).u 2)) ((sr2_v_20 x).u 3)) (sr2_v_18 x)))

noncomputable def sr2_v_47 (x : Vars) : Bool := ((fcmp .lss .f32 (farith .add .f32 (farith .add .f32 (farith .add .f32 ((sr2_v_20 x).u 0) ((sr2_v_20 x).u 1)) ((sr2_v_20 x).u 2)) ((sr2_v_20 x).u 3)) (sr2_v_18 x)) || (sr2_v_46 x))

noncomputable def sr2_v_48 (x : Vars) : Bool := (!(fcmp .lss .f32 (farith .add .f32 (farith .add .f32 (farith .add .f32 ((sr2_v_17 x).u 0) ((sr2_v_17 x).u 1)) ((sr2_v_17 x).u 2)) ((sr2_v_17 x).u 3)) (sr2_v_14 x)))

noncomputable def sr2_v_49 (x : Vars) : Bool := ((fcmp .lss .f32 (farith .add .f32 (farith .add .f32 (farith .add .f32 ((sr2_v_17 x).u 0) ((sr2_v_17 x).u 1)) ((sr2_v_17 x).u 2)) ((sr2_v_17 x).u 3)) (sr2_v_14 x)) || (sr2_v_48 x))

noncomputable def sr2_v_50 (x : Vars) : Bool := (!(fcmp .lss .f32 (farith .add .f32 (farith .add .f32 (farith .add .f32 ((sr2_v_13 x).u 0) ((sr2_v_13 x).u 1)) ((sr2_v_13 x).u 2)) ((sr2_v_13 x).u 3)) (sr2_v_11 x)))

noncomputable def sr2_v_51 (x : Vars) : Bool := ((fcmp .lss .f32 (farith .add .f32 (farith .add .f32 (farith .add .f32 ((sr2_v_13 x).u 0) ((sr2_v_13 x).u 1)) ((sr2_v_13 x).u 2)) ((sr2_v_13 x).u 3)) (sr2_v_11 x)) || (sr2_v_50 x))

noncomputable def sr2_v_52 (x : Vars) : Bool := (!(fcmp .lss .f32 (farith .add .f32 (farith .add .f32 (farith .add .f32 ((sr2_v_10 x).u 0) ((sr2_v_10 x).u 1)) ((sr2_v_10 x).u 2)) ((sr2_v_10 x).u 3)) (sr2_v_7 x)))

noncomputable def sr2_v_53 (x : Vars) : Bool := ((fcmp .lss .f32 (farith .add .f32 (farith .add .f32 (farith .add .f32 ((sr2_v_10 x).u 0) ((sr2_v_10 x).u 1)) ((sr2_v_10 x).u 2)) ((sr2_v_10 x).u 3)) (sr2_v_7 x)) || (sr2_v_52 x))

noncomputable def sr2_v_54 (x : Vars) : Bool := (!(fcmp .lss .f32 (farith .add .f32 (farith .add .f32 (farith .add .f32 ((sr2_v_6 x).u 0) ((sr2_v_6 x).u 1)) ((sr2_v_6 x).u 2)) ((sr2_v_6 x).u 3)) (sr2_v_4 x)))

noncomputable def sr2_v_55 (x : Vars) : Bool := ((fcmp .lss .f32 (farith .add .f32 (farith .add .f32 (farith .add .f32 ((sr2_v_6 x).u 0) ((sr2_v_6 x).u 1)) ((sr2_v_6 x).u 2)) ((sr2_v_6 x).u 3)) (sr2_v_4 x)) || (sr2_v_54 x))

noncomputable def sr2_v_56 (x : Vars) : Bool := (!(fcmp .lss .f32 (farith .add .f32 (farith .add .f32 (farith .add .f32 ((sr2_v_3 x).u 0) ((sr2_v_3 x).u 1)) ((sr2_v_3 x).u 2)) ((sr2_v_3 x).u 3)) (x.u 6)))

noncomputable def sr2_v_57 (x : Vars) : Bool := ((fcmp .lss .f32 (farith .add .f32 (farith .add .f32 (farith .add .f32 ((sr2_v_3 x).u 0) ((sr2_v_3 x).u 1)) ((sr2_v_3 x).u 2)) ((sr2_v_3 x).u 3)) (x.u 6)) || (sr2_v_56 x))

noncomputable def sr2Q (x : Vars) : Vars := varsOf [.flt .f32 (sr2_v_21 x), .sint .i64 (sr2_v_27 x), .sint .i64 (sr2_v_33 x), .sint .i64 (sr2_v_39 x), .sint .i64 (sr2_v_45 x)]

noncomputable def sr2R0 (l : List AV) : Vars := sr2Q (varsOf l)

noncomputable def sr2R : List AV → Vars := Classical.choose (⟨sr2R0, rfl⟩ : ∃ f, f = sr2R0)

theorem sr2R_eq : sr2R = sr2R0 := Classical.choose_spec (⟨sr2R0, rfl⟩ : ∃ f, f = sr2R0)

noncomputable def sr2B (l : List AV) : Mem := [some (.lit [.flt .f32 ((varsOf l).u 0), .flt .f32 ((varsOf l).u 1), .flt .f32 ((varsOf l).u 2), .flt .f32 ((varsOf l).u 3)] true), some (.lit [.flt .f32 ((varsOf l).u 4)] true), some (.lit [.flt .f32 ((varsOf l).u 5)] true), some (.lit [(.int .i8 0), (.int .i8 0), (.int .i8 0), (.int .i8 0)] true), some (.lit [(.fn 76 [(.ptr 0 0), (.ptr 1 0), (.ptr 2 0)])] true), some (.lit [(.slc 162 0 4 1)] true), some (.lit [.flt .f32 ((sr2R l).u 0)] true), some (.lit [(.int .i64 4)] true), some (.lit [(.fn 102 [(.ptr 4 0), (.ptr 5 0), (.ptr 6 0)])] true), none, some (.lit [(.bool false), (.bool false), (.bool true), (.bool false)] true), some (.lit [(.slc 159 0 1 1)] true), some (.lit [(.slc 10 0 4 1)] true), some (.lit [(.fn 105 [(.ptr 11 0), (.ptr 7 0), (.ptr 8 0), (.ptr 12 0), (.ptr 13 0)])] true), some (.lit [(.int .i64 0)] true), none, some (.lit [(.int .i64 1)] true), none, some (.lit [(.int .i64 2)] true), none, some (.lit [(.int .i64 3)] true), none, none, none, some (.lit [(.int .i64 3)] true), none, some (.lit [(.int .i64 2)] true), none, none, none, none, some (.lit [(.int .i64 2)] true), none, some (.lit [(.int .i64 1)] true), none, some (.lit [(.int .i64 3)] true), none, none, none, none, some (.lit [(.int .i64 3)] true), none, some (.lit [(.int .i64 1)] true), none, none, none, none, some (.lit [(.int .i64 3)] true), none, some (.lit [(.int .i64 1)] true), none, some (.lit [(.int .i64 2)] true), none, none, none, none, some (.lit [(.int .i64 2)] true), none, some (.lit [(.int .i64 1)] true), none, none, none, none, some (.lit [(.int .i64 1)] true), none, some (.lit [(.int .i64 0)] true), none, some (.lit [(.int .i64 2)] true), none, some (.lit [(.int .i64 3)] true), none, none, none, none, some (.lit [(.int .i64 3)] true), none, some (.lit [(.int .i64 2)] true), none, none, none, none, some (.lit [(.int .i64 2)] true), none, some (.lit [(.int .i64 0)] true), none, some (.lit [(.int .i64 3)] true), none, none, none, none, some (.lit [(.int .i64 3)] true), none, some (.lit [(.int .i64 0)] true), none, none, none, none, some (.lit [(.int .i64 3)] true), none, some (.lit [(.int .i64 0)] true), none, some (.lit [(.int .i64 2)] true), none, none, none, none, some (.lit [(.int .i64 2)] true), none, some (.lit [(.int .i64 0)] true), none, none, none, none, some (.lit [(.int .i64 2)] true), none, some (.lit [(.int .i64 0)] true), none, some (.lit [(.int .i64 1)] true), none, some (.lit [(.int .i64 3)] true), none, none, none, none, some (.lit [(.int .i64 3)] true), none, some (.lit [(.int .i64 1)] true), none, none, none, none, some (.lit [(.int .i64 1)] true), none, some (.lit [(.int .i64 0)] true), none, some (.lit [(.int .i64 3)] true), none, none, none, none, some (.lit [(.int .i64 3)] true), none, some (.lit [(.int .i64 0)] true), none, none, none, none, some (.lit [(.int .i64 3)] true), none, some (.lit [(.int .i64 0)] true), none, some (.lit [(.int .i64 1)] true), none, none, none, none, some (.lit [(.int .i64 1)] true), none, some (.lit [(.int .i64 0)] true), some (.lit [(.int .i64 2), (.int .i64 3), (.int .i64 1), (.int .i64 0)] true), none, none, some (.lit [.sint .i64 ((sr2R l).i 1), .sint .i64 ((sr2R l).i 2), .sint .i64 ((sr2R l).i 3), .sint .i64 ((sr2R l).i 4)] true)]

noncomputable def sr2_cs (x : Vars) : List Bool := [(sr2_v_47 x), (sr2_v_49 x), (sr2_v_51 x), (sr2_v_53 x), (sr2_v_55 x), (sr2_v_57 x)]

theorem sr2_t (x : Vars) : bodyJ Try.prog G14 1000 105 (asV x 0 sr2A) (asM x (nW sr2A) sr2M) = some (.tup [], [some (.lit [.flt .f32 (x.u 0), .flt .f32 (x.u 1), .flt .f32 (x.u 2), .flt .f32 (x.u 3)] true), some (.lit [.flt .f32 (x.u 4)] true), some (.lit [.flt .f32 (x.u 5)] true), some (.lit [(.int .i8 0), (.int .i8 0), (.int .i8 0), (.int .i8 0)] true), some (.lit [(.fn 76 [(.ptr 0 0), (.ptr 1 0), (.ptr 2 0)])] true), some (.lit [(.slc 162 0 4 1)] true), some (.lit [.flt .f32 ((sr2Q x).u 0)] true), some (.lit [(.int .i64 4)] true), some (.lit [(.fn 102 [(.ptr 4 0), (.ptr 5 0), (.ptr 6 0)])] true), none, some (.lit [(.bool false), (.bool false), (.bool true), (.bool false)] true), some (.lit [(.slc 159 0 1 1)] true), some (.lit [(.slc 10 0 4 1)] true), some (.lit [(.fn 105 [(.ptr 11 0), (.ptr 7 0), (.ptr 8 0), (.ptr 12 0), (.ptr 13 0)])] true), some (.lit [(.int .i64 0)] true), none, some (.lit [(.int .i64 1)] true), none, some (.lit [(.int .i64 2)] true), none, some (.lit [(.int .i64 3)] true), none, none, none, some (.lit [(.int .i64 3)] true), none, some (.lit [(.int .i64 2)] true), none, none, none, none, some (.lit [(.int .i64 2)] true), none, some (.lit [(.int .i64 1)] true), none, some (.lit [(.int .i64 3)] true), none, none, none, none, some (.lit [(.int .i64 3)] true), none, some (.lit [(.int .i64 1)] true), none, none, none, none, some (.lit [(.int .i64 3)] true), none, some (.lit [(.int .i64 1)] true), none, some (.lit [(.int .i64 2)] true), none, none, none, none, some (.lit [(.int .i64 2)] true), none, some (.lit [(.int .i64 1)] true), none, none, none, none, some (.lit [(.int .i64 1)] true), none, some (.lit [(.int .i64 0)] true), none, some (.lit [(.int .i64 2)] true), none, some (.lit [(.int .i64 3)] true), none, none, none, none, some (.lit [(.int .i64 3)] true), none, some (.lit [(.int .i64 2)] true), none, none, none, none, some (.lit [(.int .i64 2)] true), none, some (.lit [(.int .i64 0)] true), none, some (.lit [(.int .i64 3)] true), none, none, none, none, some (.lit [(.int .i64 3)] true), none, some (.lit [(.int .i64 0)] true), none, none, none, none, some (.lit [(.int .i64 3)] true), none, some (.lit [(.int .i64 0)] true), none, some (.lit [(.int .i64 2)] true), none, none, none, none, some (.lit [(.int .i64 2)] true), none, some (.lit [(.int .i64 0)] true), none, none, none, none, some (.lit [(.int .i64 2)] true), none, some (.lit [(.int .i64 0)] true), none, some (.lit [(.int .i64 1)] true), none, some (.lit [(.int .i64 3)] true), none, none, none, none, some (.lit [(.int .i64 3)] true), none, some (.lit [(.int .i64 1)] true), none, none, none, none, some (.lit [(.int .i64 1)] true), none, some (.lit [(.int .i64 0)] true), none, some (.lit [(.int .i64 3)] true), none, none, none, none, some (.lit [(.int .i64 3)] true), none, some (.lit [(.int .i64 0)] true), none, none, none, none, some (.lit [(.int .i64 3)] true), none, some (.lit [(.int .i64 0)] true), none, some (.lit [(.int .i64 1)] true), none, none, none, none, some (.lit [(.int .i64 1)] true), none, some (.lit [(.int .i64 0)] true), some (.lit [(.int .i64 2), (.int .i64 3), (.int .i64 1), (.int .i64 0)] true), none, none, some (.lit [.sint .i64 ((sr2Q x).i 1), .sint .i64 ((sr2Q x).i 2), .sint .i64 ((sr2Q x).i 3), .sint .i64 ((sr2Q x).i 4)] true)], sr2_cs x) := by kernel_rfl

theorem sr2_h (l : List AV) : bodyJ Try.prog G14 1000 105 (asV (varsOf l) 0 sr2A) (asM (varsOf l) (nW sr2A) sr2M) = some (.tup [], sr2B l, sr2_cs (varsOf l)) := by
  unfold sr2B
  rw [sr2R_eq]
  exact sr2_t (varsOf l)

theorem sr2_c (l : List AV) : ∀ b ∈ sr2_cs (varsOf l), b = true := by
  unfold sr2_cs
  simp [sr2_v_46, sr2_v_47, sr2_v_48, sr2_v_49, sr2_v_50, sr2_v_51, sr2_v_52, sr2_v_53, sr2_v_54, sr2_v_55, sr2_v_56, sr2_v_57]

noncomputable def G17 : Summ := cutA 105 sr2A sr2M (fun _ => .tup []) sr2B G16

theorem G17_ok : SoundG Try.prog G17 := SoundG.cutA G16_ok G14_ok mixed Try.call105 sr2_h sr2_c

def sr3A : List AS := [.c (.ptr 11 0), .c (.ptr 7 0), .c (.ptr 8 0), .c (.ptr 12 0), .c (.ptr 13 0)]
def sr3M : AM := [some ([.w (.flt .f32), .w (.flt .f32), .w (.flt .f32), .w (.flt .f32)], true), some ([.w (.flt .f32)], true), some ([.w (.flt .f32)], true), some ([.c (.int .i8 0), .c (.int .i8 0), .c (.int .i8 0), .c (.int .i8 0)], true), some ([.c (.fn 76 [(.ptr 0 0), (.ptr 1 0), (.ptr 2 0)])], true), some ([.c (.slc 162 0 4 1)], true), some ([.w (.flt .f32)], true), some ([.c (.int .i64 4)], true), some ([.c (.fn 102 [(.ptr 4 0), (.ptr 5 0), (.ptr 6 0)])], true), none, some ([.c (.bool false), .c (.bool false), .c (.bool false), .c (.bool true)], true), some ([.c (.slc 164 0 1 1)], true), some ([.c (.slc 10 0 4 1)], true), some ([.c (.fn 105 [(.ptr 11 0), (.ptr 7 0), (.ptr 8 0), (.ptr 12 0), (.ptr 13 0)])], true), some ([.c (.int .i64 0)], true), none, some ([.c (.int .i64 1)], true), none, some ([.c (.int .i64 2)], true), none, some ([.c (.int .i64 3)], true), none, none, none, some ([.c (.int .i64 3)], true), none, some ([.c (.int .i64 2)], true), none, none, none, none, some ([.c (.int .i64 2)], true), none, some ([.c (.int .i64 1)], true), none, some ([.c (.int .i64 3)], true), none, none, none, none, some ([.c (.int .i64 3)], true), none, some ([.c (.int .i64 1)], true), none, none, none, none, some ([.c (.int .i64 3)], true), none, some ([.c (.int .i64 1)], true), none, some ([.c (.int .i64 2)], true), none, none, none, none, some ([.c (.int .i64 2)], true), none, some ([.c (.int .i64 1)], true), none, none, none, none, some ([.c (.int .i64 1)], true), none, some ([.c (.int .i64 0)], true), none, some ([.c (.int .i64 2)], true), none, some ([.c (.int .i64 3)], true), none, none, none, none, some ([.c (.int .i64 3)], true), none, some ([.c (.int .i64 2)], true), none, none, none, none, some ([.c (.int .i64 2)], true), none, some ([.c (.int .i64 0)], true), none, some ([.c (.int .i64 3)], true), none, none, none, none, some ([.c (.int .i64 3)], true), none, some ([.c (.int .i64 0)], true), none, none, none, none, some ([.c (.int .i64 3)], true), none, some ([.c (.int .i64 0)], true), none, some ([.c (.int .i64 2)], true), none, none, none, none, some ([.c (.int .i64 2)], true), none, some ([.c (.int .i64 0)], true), none, none, none, none, some ([.c (.int .i64 2)], true), none, some ([.c (.int .i64 0)], true), none, some ([.c (.int .i64 1)], true), none, some ([.c (.int .i64 3)], true), none, none, none, none, some ([.c (.int .i64 3)], true), none, some ([.c (.int .i64 1)], true), none, none, none, none, some ([.c (.int .i64 1)], true), none, some ([.c (.int .i64 0)], true), none, some ([.c (.int .i64 3)], true), none, none, none, none, some ([.c (.int .i64 3)], true), none, some ([.c (.int .i64 0)], true), none, none, none, none, some ([.c (.int .i64 3)], true), none, some ([.c (.int .i64 0)], true), none, some ([.c (.int .i64 1)], true), none, none, none, none, some ([.c (.int .i64 1)], true), none, some ([.c (.int .i64 0)], true), none, none, none, some ([.w (.int .i64), .w (.int .i64), .w (.int .i64), .w (.int .i64)], true), some ([.c (.int .i64 3)], true), some ([.c (.int .i64 3)], true)]

noncomputable def sr3_v_0 (x : Vars) : Vars := (driedR [(.agg [(.flt .f32 0), (.flt .f32 0), (.flt .f32 0), (.flt .f32 (farith .add .f32 0 (x.u 3)))]), (.flt .f32 (x.u 4)), (.flt .f32 (x.u 5))])

noncomputable def sr3_v_1 (x : Vars) : Vars := (driedR [(.agg [(.flt .f32 (farith .add .f32 ((sr3_v_0 x).u 0) (x.u 0))), (.flt .f32 ((sr3_v_0 x).u 1)), (.flt .f32 ((sr3_v_0 x).u 2)), (.flt .f32 ((sr3_v_0 x).u 3))]), (.flt .f32 (x.u 4)), (.flt .f32 (x.u 5))])

noncomputable def sr3_v_2 (x : Vars) : Vars := (driedR [(.agg [(.flt .f32 ((sr3_v_1 x).u 0)), (.flt .f32 (farith .add .f32 ((sr3_v_1 x).u 1) (x.u 1))), (.flt .f32 ((sr3_v_1 x).u 2)), (.flt .f32 ((sr3_v_1 x).u 3))]), (.flt .f32 (x.u 4)), (.flt .f32 (x.u 5))])

noncomputable def sr3_v_3 (x : Vars) : Vars := (driedR [(.agg [(.flt .f32 ((sr3_v_2 x).u 0)), (.flt .f32 ((sr3_v_2 x).u 1)), (.flt .f32 (farith .add .f32 ((sr3_v_2 x).u 2) (x.u 2))), (.flt .f32 ((sr3_v_2 x).u 3))]), (.flt .f32 (x.u 4)), (.flt .f32 (x.u 5))])

noncomputable def sr3_v_4 (x : Vars) : Nat := (bif (fcmp .lss .f32 (farith .add .f32 (farith .add .f32 (farith .add .f32 ((sr3_v_3 x).u 0) ((sr3_v_3 x).u 1)) ((sr3_v_3 x).u 2)) ((sr3_v_3 x).u 3)) (x.u 6)) then (farith .add .f32 (farith .add .f32 (farith .add .f32 ((sr3_v_3 x).u 0) ((sr3_v_3 x).u 1)) ((sr3_v_3 x).u 2)) ((sr3_v_3 x).u 3)) else (x.u 6))

noncomputable def sr3_v_5 (x : Vars) : Vars := (driedR [(.agg [(.flt .f32 ((sr3_v_1 x).u 0)), (.flt .f32 ((sr3_v_1 x).u 1)), (.flt .f32 (farith .add .f32 ((sr3_v_1 x).u 2) (x.u 2))), (.flt .f32 ((sr3_v_1 x).u 3))]), (.flt .f32 (x.u 4)), (.flt .f32 (x.u 5))])

noncomputable def sr3_v_6 (x : Vars) : Vars := (driedR [(.agg [(.flt .f32 ((sr3_v_5 x).u 0)), (.flt .f32 (farith .add .f32 ((sr3_v_5 x).u 1) (x.u 1))), (.flt .f32 ((sr3_v_5 x).u 2)), (.flt .f32 ((sr3_v_5 x).u 3))]), (.flt .f32 (x.u 4)), (.flt .f32 (x.u 5))])

noncomputable def sr3_v_7 (x : Vars) : Nat := (bif (fcmp .lss .f32 (farith .add .f32 (farith .add .f32 (farith .add .f32 ((sr3_v_6 x).u 0) ((sr3_v_6 x).u 1)) ((sr3_v_6 x).u 2)) ((sr3_v_6 x).u 3)) (sr3_v_4 x)) then (farith .add .f32 (farith .add .f32 (farith .add .f32 ((sr3_v_6 x).u 0) ((sr3_v_6 x).u 1)) ((sr3_v_6 x).u 2)) ((sr3_v_6 x).u 3)) else (sr3_v_4 x))

noncomputable def sr3_v_8 (x : Vars) : Vars := (driedR [(.agg [(.flt .f32 ((sr3_v_0 x).u 0)), (.flt .f32 (farith .add .f32 ((sr3_v_0 x).u 1) (x.u 1))), (.flt .f32 ((sr3_v_0 x).u 2)), (.flt .f32 ((sr3_v_0 x).u 3))]), (.flt .f32 (x.u 4)), (.flt .f32 (x.u 5))])

noncomputable def sr3_v_9 (x : Vars) : Vars := (driedR [(.agg [(.flt .f32 (farith .add .f32 ((sr3_v_8 x).u 0) (x.u 0))), (.flt .f32 ((sr3_v_8 x).u 1)), (.flt .f32 ((sr3_v_8 x).u 2)), (.flt .f32 ((sr3_v_8 x).u 3))]), (.flt .f32 (x.u 4)), (.flt .f32 (x.u 5))])

noncomputable def sr3_v_10 (x : Vars) : Vars := (driedR [(.agg [(.flt .f32 ((sr3_v_9 x).u 0)), (.flt .f32 ((sr3_v_9 x).u 1)), (.flt .f32 (farith .add .f32 ((sr3_v_9 x).u 2) (x.u 2))), (.flt .f32 ((sr3_v_9 x).u 3))]), (.flt .f32 (x.u 4)), (.flt .f32 (x.u 5))])

noncomputable def sr3_v_11 (x : Vars) : Nat := (bif (fcmp .lss .f32 (farith .add .f32 (farith .add .f32 (farith .add .f32 ((sr3_v_10 x).u 0) ((sr3_v_10 x).u 1)) ((sr3_v_10 x).u 2)) ((sr3_v_10 x).u 3)) (sr3_v_7 x)) then (farith .add .f32 (farith .add .f32 (farith .add .f32 ((sr3_v_10 x).u 0) ((sr3_v_10 x).u 1)) ((sr3_v_10 x).u 2)) ((sr3_v_10 x).u 3)) else (sr3_v_7 x))

noncomputable def sr3_v_12 (x : Vars) : Vars := (driedR [(.agg [(.flt .f32 ((sr3_v_8 x).u 0)), (.flt .f32 ((sr3_v_8 x).u 1)), (.flt .f32 (farith .add .f32 ((sr3_v_8 x).u 2) (x.u 2))), (.flt .f32 ((sr3_v_8 x).u 3))]), (.flt .f32 (x.u 4)), (.flt .f32 (x.u 5))])

noncomputable def sr3_v_13 (x : Vars) : Vars := (driedR [(.agg [(.flt .f32 (farith .add .f32 ((sr3_v_12 x).u 0) (x.u 0))), (.flt .f32 ((sr3_v_12 x).u 1)), (.flt .f32 ((sr3_v_12 x).u 2)), (.flt .f32 ((sr3_v_12 x).u 3))]), (.flt .f32 (x.u 4)), (.flt .f32 (x.u 5))])

noncomputable def sr3_v_14 (x : Vars) : Nat := (bif (fcmp .lss .f32 (farith .add .f32 (farith .add .f32 (farith .add .f32 ((sr3_v_13 x).u 0) ((sr3_v_13 x).u 1)) ((sr3_v_13 x).u 2)) ((sr3_v_13 x).u 3)) (sr3_v_11 x)) then (farith .add .f32 (farith .add .f32 (farith .add .f32 ((sr3_v_13 x).u 0) ((sr3_v_13 x).u 1)) ((sr3_v_13 x).u 2)) ((sr3_v_13 x).u 3)) else (sr3_v_11 x))

noncomputable def sr3_v_15 (x : Vars) : Vars := (driedR [(.agg [(.flt .f32 ((sr3_v_0 x).u 0)), (.flt .f32 ((sr3_v_0 x).u 1)), (.flt .f32 (farith .add .f32 ((sr3_v_0 x).u 2) (x.u 2))), (.flt .f32 ((sr3_v_0 x).u 3))]), (.flt .f32 (x.u 4)), (.flt .f32 (x.u 5))])

noncomputable def sr3_v_16 (x : Vars) : Vars := (driedR [(.agg [(.flt .f32 (farith .add .f32 ((sr3_v_15 x).u 0) (x.u 0))), (.flt .f32 ((sr3_v_15 x).u 1)), (.flt .f32 ((sr3_v_15 x).u 2)), (.flt .f32 ((sr3_v_15 x).u 3))]), (.flt .f32 (x.u 4)), (.flt .f32 (x.u 5))])

noncomputable def sr3_v_17 (x : Vars) : Vars := (driedR [(.agg [(.flt .f32 ((sr3_v_16 x).u 0)), (.flt .f32 (farith .add .f32 ((sr3_v_16 x).u 1) (x.u 1))), (.flt .f32 ((sr3_v_16 x).u 2)), (.flt .f32 ((sr3_v_16 x).u 3))]), (.flt .f32 (x.u 4)), (.flt .f32 (x.u 5))])

noncomputable def sr3_v_18 (x : Vars) : Nat := (bif (fcmp .lss .f32 (farith .add .f32 (farith .add .f32 (farith .add .f32 ((sr3_v_17 x).u 0) ((sr3_v_17 x).u 1)) ((sr3_v_17 x).u 2)) ((sr3_v_17 x).u 3)) (sr3_v_14 x)) then (farith .add .f32 (farith .add .f32 (farith .add .f32 ((sr3_v_17 x).u 0) ((sr3_v_17 x).u 1)) ((sr3_v_17 x).u 2)) ((sr3_v_17 x).u 3)) else (sr3_v_14 x))

noncomputable def sr3_v_19 (x : Vars) : Vars := (driedR [(.agg [(.flt .f32 ((sr3_v_15 x).u 0)), (.flt .f32 (farith .add .f32 ((sr3_v_15 x).u 1) (x.u 1))), (.flt .f32 ((sr3_v_15 x).u 2)), (.flt .f32 ((sr3_v_15 x).u 3))]), (.flt .f32 (x.u 4)), (.flt .f32 (x.u 5))])

noncomputable def sr3_v_20 (x : Vars) : Vars := (driedR [(.agg [(.flt .f32 (farith .add .f32 ((sr3_v_19 x).u 0) (x.u 0))), (.flt .f32 ((sr3_v_19 x).u 1)), (.flt .f32 ((sr3_v_19 x).u 2)), (.flt .f32 ((sr3_v_19 x).u 3))]), (.flt .f32 (x.u 4)), (.flt .f32 (x.u 5))])

noncomputable def sr3_v_21 (x : Vars) : Nat := (bif (fcmp .lss .f32 (farith .add .f32 (farith .add .f32 (farith .add .f32 ((sr3_v_20 x).u 0) ((sr3_v_20 x).u 1)) ((sr3_v_20 x).u 2)) ((sr3_v_20 x).u 3)) (sr3_v_18 x)) then (farith .add .f32 (farith .add .f32 (farith .add .f32 ((sr3_v_20 x).u 0) ((sr3_v_20 x).u 1)) ((sr3_v_20 x).u 2)) ((sr3_v_20 x).u 3)) else (sr3_v_18 x))

noncomputable def sr3_v_22 (x : Vars) : Int := (bif (fcmp .lss .f32 (farith .add .f32 (farith .add .f32 (farith .add .f32 ((sr3_v_3 x).u 0) ((sr3_v_3 x).u 1)) ((sr3_v_3 x).u 2)) ((sr3_v_3 x).u 3)) (x.u 6)) then 3 else (x.i 7))

noncomputable def sr3_v_23 (x : Vars) : Int := (bif (fcmp .lss .f32 (farith .add .f32 (farith .add .f32 (farith .add .f32 ((sr3_v_6 x).u 0) ((sr3_v_6 x).u 1)) ((sr3_v_6 x).u 2)) ((sr3_v_6 x).u 3)) (sr3_v_4 x)) then 3 else (sr3_v_22 x))

noncomputable def sr3_v_24 (x : Vars) : Int := (bif (fcmp .lss .f32 (farith .add .f32 (farith .add .f32 (farith .add .f32 ((sr3_v_10 x).u 0) ((sr3_v_10 x).u 1)) ((sr3_v_10 x).u 2)) ((sr3_v_10 x).u 3)) (sr3_v_7 x)) then 3 else (sr3_v_23 x))

noncomputable def sr3_v_25 (x : Vars) : Int := (bif (fcmp .lss .f32 (farith .add .f32 (farith .add .f32 (farith .add .f32 ((sr3_v_13 x).u 0) ((sr3_v_13 x).u 1)) ((sr3_v_13 x).u 2)) ((sr3_v_13 x).u 3)) (sr3_v_11 x)) then 3 else (sr3_v_24 x))

noncomputable def sr3_v_26 (x : Vars) : Int := (bif (fcmp .lss .f32 (farith .add .f32 (farith .add .f32 (farith .add .f32 ((sr3_v_17 x).u 0) ((sr3_v_17 x).u 1)) ((sr3_v_17 x).u 2)) ((sr3_v_17 x).u 3)) (sr3_v_14 x)) then 3 else (sr3_v_25 x))

noncomputable def sr3_v_27 (x : Vars) : Int := (bif (fcmp .lss .f32 (farith .add .f32 (farith .add .f32 (farith .add .f32 ((sr3_v_20 x).u 0) ((sr3_v_20 x).u 1)) ((sr3_v_20 x).u 2)) ((sr3_v_20 x).u 3)) (sr3_v_18 x)) then 3 else (sr3_v_26 x))

noncomputable def sr3_v_28 (x : Vars) : Int := (bif (fcmp .lss .f32 (farith .add .f32 (farith .add .f32 (farith .add .f32 ((sr3_v_3 x).u 0) ((sr3_v_3 x).u 1)) ((sr3_v_3 x).u 2)) ((sr3_v_3 x).u 3)) (x.u 6)) then 0 else (x.i 8))

noncomputable def sr3_v_29 (x : Vars) : Int := (bif (fcmp .lss .f32 (farith .add .f32 (farith .add .f32 (farith .add .f32 ((sr3_v_6 x).u 0) ((sr3_v_6 x).u 1)) ((sr3_v_6 x).u 2)) ((sr3_v_6 x).u 3)) (sr3_v_4 x)) then 0 else (sr3_v_28 x))

noncomputable def sr3_v_30 (x : Vars) : Int := (bif (fcmp .lss .f32 (farith .add .f32 (farith .add .f32 (farith .add .f32 ((sr3_v_10 x).u 0) ((sr3_v_10 x).u 1)) ((sr3_v_10 x).u 2)) ((sr3_v_10 x).u 3)) (sr3_v_7 x)) then 1 else (sr3_v_29 x))

noncomputable def sr3_v_31 (x : Vars) : Int := (bif (fcmp .lss .f32 (farith .add .f32 (farith .add .f32 (farith .add .f32 ((sr3_v_13 x).u 0) ((sr3_v_13 x).u 1)) ((sr3_v_13 x).u 2)) ((sr3_v_13 x).u 3)) (sr3_v_11 x)) then 1 else (sr3_v_30 x))

noncomputable def sr3_v_32 (x : Vars) : Int := (bif (fcmp .lss .f32 (farith .add .f32 (farith .add .f32 (farith .add .f32 ((sr3_v_17 x).u 0) ((sr3_v_17 x).u 1)) ((sr3_v_17 x).u 2)) ((sr3_v_17 x).u 3)) (sr3_v_14 x)) then 2 else (sr3_v_31 x))

noncomputable def sr3_v_33 (x : Vars) : Int := (bif (fcmp .lss .f32 (farith .add .f32 (farith .add .f32 (farith .add .f32 ((sr3_v_20 x).u 0) ((sr3_v_20 x).u 1)) ((sr3_v_20 x).u 2)) ((sr3_v_20 x).u 3)) (sr3_v_18 x)) then 2 else (sr3_v_32 x))

noncomputable def sr3_v_34 (x : Vars) : Int := (bif (fcmp .lss .f32 (farith .add .f32 (farith .add .f32 (farith .add .f32 ((sr3_v_3 x).u 0) ((sr3_v_3 x).u 1)) ((sr3_v_3 x).u 2)) ((sr3_v_3 x).u 3)) (x.u 6)) then 1 else (x.i 9))

noncomputable def sr3_v_35 (x : Vars) : Int := (bif (fcmp .lss .f32 (farith .add .f32 (farith .add .f32 (farith .add .f32 ((sr3_v_6 x).u 0) ((sr3_v_6 x).u 1)) ((sr3_v_6 x).u 2)) ((sr3_v_6 x).u 3)) (sr3_v_4 x)) then 2 else (sr3_v_34 x))

noncomputable def sr3_v_36 (x : Vars) : Int := (bif (fcmp .lss .f32 (farith .add .f32 (farith .add .f32 (farith .add .f32 ((sr3_v_10 x).u 0) ((sr3_v_10 x).u 1)) ((sr3_v_10 x).u 2)) ((sr3_v_10 x).u 3)) (sr3_v_7 x)) then 0 else (sr3_v_35 x))

noncomputable def sr3_v_37 (x : Vars) : Int := (bif (fcmp .lss .f32 (farith .add .f32 (farith .add .f32 (farith .add .f32 ((sr3_v_13 x).u 0) ((sr3_v_13 x).u 1)) ((sr3_v_13 x).u 2)) ((sr3_v_13 x).u 3)) (sr3_v_11 x)) then 2 else (sr3_v_36 x))

noncomputable def sr3_v_38 (x : Vars) : Int := (bif (fcmp .lss .f32 (farith .add .f32 (farith .add .f32 (farith .add .f32 ((sr3_v_17 x).u 0) ((sr3_v_17 x).u 1)) ((sr3_v_17 x).u 2)) ((sr3_v_17 x).u 3)) (sr3_v_14 x)) then 0 else (sr3_v_37 x))

noncomputable def sr3_v_39 (x : Vars) : Int := (bif (fcmp .lss .f32 (farith .add .f32 (farith .add .f32 (farith .add .f32 ((sr3_v_20 x).u 0) ((sr3_v_20 x).u 1)) ((sr3_v_20 x).u 2)) ((sr3_v_20 x).u 3)) (sr3_v_18 x)) then 1 else (sr3_v_38 x))

noncomputable def sr3_v_40 (x : Vars) : Int := (bif (fcmp .lss .f32 (farith .add .f32 (farith .add .f32 (farith .add .f32 ((sr3_v_3 x).u 0) ((sr3_v_3 x).u 1)) ((sr3_v_3 x).u 2)) ((sr3_v_3 x).u 3)) (x.u 6)) then 2 else (x.i 10))

noncomputable def sr3_v_41 (x : Vars) : Int := (bif (fcmp .lss .f32 (farith .add .f32 (farith .add .f32 (farith .add .f32 ((sr3_v_6 x).u 0) ((sr3_v_6 x).u 1)) ((sr3_v_6 x).u 2)) ((sr3_v_6 x).u 3)) (sr3_v_4 x)) then 1 else (sr3_v_40 x))

noncomputable def sr3_v_42 (x : Vars) : Int := (bif (fcmp .lss .f32 (farith .add .f32 (farith .add .f32 (farith .add .f32 ((sr3_v_10 x).u 0) ((sr3_v_10 x).u 1)) ((sr3_v_10 x).u 2)) ((sr3_v_10 x).u 3)) (sr3_v_7 x)) then 2 else (sr3_v_41 x))

noncomputable def sr3_v_43 (x : Vars) : Int := (bif (fcmp .lss .f32 (farith .add .f32 (farith .add .f32 (farith .add .f32 ((sr3_v_13 x).u 0) ((sr3_v_13 x).u 1)) ((sr3_v_13 x).u 2)) ((sr3_v_13 x).u 3)) (sr3_v_11 x)) then 0 else (sr3_v_42 x))

noncomputable def sr3_v_44 (x : Vars) : Int := (bif (fcmp .lss .f32 (farith .add .f32 (farith .add .f32 (farith .add .f32 ((sr3_v_17 x).u 0) ((sr3_v_17 x).u 1)) ((sr3_v_17 x).u 2)) ((sr3_v_17 x).u 3)) (sr3_v_14 x)) then 1 else (sr3_v_43 x))

noncomputable def sr3_v_45 (x : Vars) : Int := (bif (fcmp .lss .f32 (farith .add .f32 (farith .add .f32 (farith .add .f32 ((sr3_v_20 x).u 0) ((sr3_v_20 x).u 1)) ((sr3_v_20 x).u 2)) ((sr3_v_20 x).u 3)) (sr3_v_18 x)) then 0 else (sr3_v_44 x))

noncomputable def sr3_v_46 (x : Vars) : Bool := (!(fcmp .lss .f32 (farith .add .f32 (farith .add .f32 (farith .add .f32 ((sr3_v_20 x).u 0) ((sr3_v_20 x).u 1)) ((sr3_v_20 x).u 2)) ((sr3_v_20 x).u 3)) (sr3_v_18 x)))

noncomputable def sr3_v_47 (x : Vars) : Bool := ((fcmp .lss .f32 (farith .add .f32 (farith .add .f32 (farith .add .f32 ((sr3_v_20 x).u 0) ((sr3_v_20 x).u 1)) ((sr3_v_20 x).u 2)) ((sr3_v_20 x).u 3)) (sr3_v_18 x)) || (sr3_v_46 x))

noncomputable def sr3_v_48 (x : Vars) : Bool := (!(fcmp .lss .f32 (farith .add .f32 (farith .add .f32 (farith .add .f32 ((sr3_v_17 x).u 0) ((sr3_v_17 x).u 1)) ((sr3_v_17 x).u 2)) ((sr3_v_17 x).u 3)) (sr3_v_14 x)))

noncomputable def sr3_v_49 (x : Vars) : Bool := ((fcmp .lss .f32 (farith .add .f32 (farith .add .f32 (farith .add .f32 ((sr3_v_17 x).u 0) ((sr3_v_17 x).u 1)) ((sr3_v_17 x).u 2)) ((sr3_v_17 x).u 3)) (sr3_v_14 x)) || (sr3_v_48 x))

noncomputable def sr3_v_50 (x : Vars) : Bool := (!(fcmp .lss .f32 (farith .add .f32 (farith .add .f32 (farith .add .f32 ((sr3_v_13 x).u 0) ((sr3_v_13 x).u 1)) ((sr3_v_13 x).u 2)) ((sr3_v_13 x).u 3)) (sr3_v_11 x)))

noncomputable def sr3_v_51 (x : Vars) : Bool := ((fcmp .lss .f32 (farith .add .f32 (farith .add .f32 (farith .add .f32 ((sr3_v_13 x).u 0) ((sr3_v_13 x).u 1)) ((sr3_v_13 x).u 2)) ((sr3_v_13 x).u 3)) (sr3_v_11 x)) || (sr3_v_50 x))

noncomputable def sr3_v_52 (x : Vars) : Bool := (!(fcmp .lss .f32 (farith .add .f32 (farith .add .f32 (farith .add .f32 ((sr3_v_10 x).u 0) ((sr3_v_10 x).u 1)) ((sr3_v_10 x).u 2)) ((sr3_v_10 x).u 3)) (sr3_v_7 x)))

noncomputable def sr3_v_53 (x : Vars) : Bool := ((fcmp .lss .f32 (farith .add .f32 (farith .add .f32 (farith .add .f32 ((sr3_v_10 x).u 0) ((sr3_v_10 x).u 1)) ((sr3_v_10 x).u 2)) ((sr3_v_10 x).u 3)) (sr3_v_7 x)) || (sr3_v_52 x))

noncomputable def sr3_v_54 (x : Vars) : Bool := (!(fcmp .lss .f32 (farith .add .f32 (farith .add .f32 (farith .add .f32 ((sr3_v_6 x).u 0) ((sr3_v_6 x).u 1)) ((sr3_v_6 x).u 2)) ((sr3_v_6 x).u 3)) (sr3_v_4 x)))

noncomputable def sr3_v_55 (x : Vars) : Bool := ((fcmp .lss .f32 (farith .add .f32 (farith .add .f32 (farith .add .f32 ((sr3_v_6 x).u 0) ((sr3_v_6 x).u 1)) ((sr3_v_6 x).u 2)) ((sr3_v_6 x).u 3)) (sr3_v_4 x)) || (sr3_v_54 x))

noncomputable def sr3_v_56 (x : Vars) : Bool := (!(fcmp .lss .f32 (farith .add .f32 (farith .add .f32 (farith .add .f32 ((sr3_v_3 x).u 0) ((sr3_v_3 x).u 1)) ((sr3_v_3 x).u 2)) ((sr3_v_3 x).u 3)) (x.u 6)))

noncomputable def sr3_v_57 (x : Vars) : Bool := ((fcmp .lss .f32 (farith .add .f32 (farith .add .f32 (farith .add .f32 ((sr3_v_3 x).u 0) ((sr3_v_3 x).u 1)) ((sr3_v_3 x).u 2)) ((sr3_v_3 x).u 3)) (x.u 6)) || (sr3_v_56 x))

noncomputable def sr3Q (x : Vars) : Vars := varsOf [.flt .f32 (sr3_v_21 x), .sint .i64 (sr3_v_27 x), .sint .i64 (sr3_v_33 x), .sint .i64 (sr3_v_39 x), .sint .i64 (sr3_v_45 x)]

noncomputable def sr3R0 (l : List AV) : Vars := sr3Q (varsOf l)

noncomputable def sr3R : List AV → Vars := Classical.choose (⟨sr3R0, rfl⟩ : ∃ f, f = sr3R0)

theorem sr3R_eq : sr3R = sr3R0 := Classical.choose_spec (⟨sr3R0, rfl⟩ : ∃ f, f = sr3R0)

noncomputable def sr3B (l : List AV) : Mem := [some (.lit [.flt .f32 ((varsOf l).u 0), .flt .f32 ((varsOf l).u 1), .flt .f32 ((varsOf l).u 2), .flt .f32 ((varsOf l).u 3)] true), some (.lit [.flt .f32 ((varsOf l).u 4)] true), some (.lit [.flt .f32 ((varsOf l).u 5)] true), some (.lit [(.int .i8 0), (.int .i8 0), (.int .i8 0), (.int .i8 0)] true), some (.lit [(.fn 76 [(.ptr 0 0), (.ptr 1 0), (.ptr 2 0)])] true), some (.lit [(.slc 212 0 4 1)] true), some (.lit [.flt .f32 ((sr3R l).u 0)] true), some (.lit [(.int .i64 4)] true), some (.lit [(.fn 102 [(.ptr 4 0), (.ptr 5 0), (.ptr 6 0)])] true), none, some (.lit [(.bool false), (.bool false), (.bool false), (.bool true)] true), some (.lit [(.slc 209 0 1 1)] true), some (.lit [(.slc 10 0 4 1)] true), some (.lit [(.fn 105 [(.ptr 11 0), (.ptr 7 0), (.ptr 8 0), (.ptr 12 0), (.ptr 13 0)])] true), some (.lit [(.int .i64 0)] true), none, some (.lit [(.int .i64 1)] true), none, some (.lit [(.int .i64 2)] true), none, some (.lit [(.int .i64 3)] true), none, none, none, some (.lit [(.int .i64 3)] true), none, some (.lit [(.int .i64 2)] true), none, none, none, none, some (.lit [(.int .i64 2)] true), none, some (.lit [(.int .i64 1)] true), none, some (.lit [(.int .i64 3)] true), none, none, none, none, some (.lit [(.int .i64 3)] true), none, some (.lit [(.int .i64 1)] true), none, none, none, none, some (.lit [(.int .i64 3)] true), none, some (.lit [(.int .i64 1)] true), none, some (.lit [(.int .i64 2)] true), none, none, none, none, some (.lit [(.int .i64 2)] true), none, some (.lit [(.int .i64 1)] true), none, none, none, none, some (.lit [(.int .i64 1)] true), none, some (.lit [(.int .i64 0)] true), none, some (.lit [(.int .i64 2)] true), none, some (.lit [(.int .i64 3)] true), none, none, none, none, some (.lit [(.int .i64 3)] true), none, some (.lit [(.int .i64 2)] true), none, none, none, none, some (.lit [(.int .i64 2)] true), none, some (.lit [(.int .i64 0)] true), none, some (.lit [(.int .i64 3)] true), none, none, none, none, some (.lit [(.int .i64 3)] true), none, some (.lit [(.int .i64 0)] true), none, none, none, none, some (.lit [(.int .i64 3)] true), none, some (.lit [(.int .i64 0)] true), none, some (.lit [(.int .i64 2)] true), none, none, none, none, some (.lit [(.int .i64 2)] true), none, some (.lit [(.int .i64 0)] true), none, none, none, none, some (.lit [(.int .i64 2)] true), none, some (.lit [(.int .i64 0)] true), none, some (.lit [(.int .i64 1)] true), none, some (.lit [(.int .i64 3)] true), none, none, none, none, some (.lit [(.int .i64 3)] true), none, some (.lit [(.int .i64 1)] true), none, none, none, none, some (.lit [(.int .i64 1)] true), none, some (.lit [(.int .i64 0)] true), none, some (.lit [(.int .i64 3)] true), none, none, none, none, some (.lit [(.int .i64 3)] true), none, some (.lit [(.int .i64 0)] true), none, none, none, none, some (.lit [(.int .i64 3)] true), none, some (.lit [(.int .i64 0)] true), none, some (.lit [(.int .i64 1)] true), none, none, none, none, some (.lit [(.int .i64 1)] true), none, some (.lit [(.int .i64 0)] true), none, none, none, none, some (.lit [(.int .i64 3)] true), none, some (.lit [(.int .i64 0)] true), none, some (.lit [(.int .i64 1)] true), none, some (.lit [(.int .i64 2)] true), none, none, none, none, some (.lit [(.int .i64 2)] true), none, some (.lit [(.int .i64 1)] true), none, none, none, none, some (.lit [(.int .i64 1)] true), none, some (.lit [(.int .i64 0)] true), none, some (.lit [(.int .i64 2)] true), none, none, none, none, some (.lit [(.int .i64 2)] true), none, some (.lit [(.int .i64 0)] true), none, none, none, none, some (.lit [(.int .i64 2)] true), none, some (.lit [(.int .i64 0)] true), none, some (.lit [(.int .i64 1)] true), none, none, none, none, some (.lit [(.int .i64 1)] true), none, some (.lit [(.int .i64 0)] true), some (.lit [(.int .i64 3), (.int .i64 2), (.int .i64 1), (.int .i64 0)] true), none, none, some (.lit [.sint .i64 ((sr3R l).i 1), .sint .i64 ((sr3R l).i 2), .sint .i64 ((sr3R l).i 3), .sint .i64 ((sr3R l).i 4)] true)]

noncomputable def sr3_cs (x : Vars) : List Bool := [(sr3_v_47 x), (sr3_v_49 x), (sr3_v_51 x), (sr3_v_53 x), (sr3_v_55 x), (sr3_v_57 x)]

theorem sr3_t (x : Vars) : bodyJ Try.prog G14 1000 105 (asV x 0 sr3A) (asM x (nW sr3A) sr3M) = some (.tup [], [some (.lit [.flt .f32 (x.u 0), .flt .f32 (x.u 1), .flt .f32 (x.u 2), .flt .f32 (x.u 3)] true), some (.lit [.flt .f32 (x.u 4)] true), some (.lit [.flt .f32 (x.u 5)] true), some (.lit [(.int .i8 0), (.int .i8 0), (.int .i8 0), (.int .i8 0)] true), some (.lit [(.fn 76 [(.ptr 0 0), (.ptr 1 0), (.ptr 2 0)])] true), some (.lit [(.slc 212 0 4 1)] true), some (.lit [.flt .f32 ((sr3Q x).u 0)] true), some (.lit [(.int .i64 4)] true), some (.lit [(.fn 102 [(.ptr 4 0), (.ptr 5 0), (.ptr 6 0)])] true), none, some (.lit [(.bool false), (.bool false), (.bool false), (.bool true)] true), some (.lit [(.slc 209 0 1 1)] true), some (.lit [(.slc 10 0 4 1)] true), some (.lit [(.fn 105 [(.ptr 11 0), (.ptr 7 0), (.ptr 8 0), (.ptr 12 0), (.ptr 13 0)])] true), some (.lit [(.int .i64 0)] true), none, some (.lit [(.int .i64 1)] true), none, some (.lit [(.int .i64 2)] true), none, some (.lit [(.int .i64 3)] true), none, none, none, some (.lit [(.int .i64 3)] true), none, some (.lit [(.int .i64 2)] true), none, none, none, none, some (.lit [(.int .i64 2)] true), none, some (.lit [(.int .i64 1)] true), none, some (.lit [(.int .i64 3)] true), none, none, none, none, some (.lit [(.int .i64 3)] true), none, some (.lit [(.int .i64 1)] true), none, none, none, none, some (.lit [(.int .i64 3)] true), none, some (.lit [(.int .i64 1)] true), none, some (.lit [(.int .i64 2)] true), none, none, none, none, some (.lit [(.int .i64 2)] true), none, some (.lit [(.int .i64 1)] true), none, none, none, none, some (.lit [(.int .i64 1)] true), none, some (.lit [(.int .i64 0)] true), none, some (.lit [(.int .i64 2)] true), none, some (.lit [(.int .i64 3)] true), none, none, none, none, some (.lit [(.int .i64 3)] true), none, some (.lit [(.int .i64 2)] true), none, none, none, none, some (.lit [(.int .i64 2)] true), none, some (.lit [(.int .i64 0)] true), none, some (.lit [(.int .i64 3)] true), none, none, none, none, some (.lit [(.int .i64 3)] true), none, some (.lit [(.int .i64 0)] true), none, none, none, none, some (.lit [(.int .i64 3)] true), none, some (.lit [(.int .i64 0)] true), none, some (.lit [(.int .i64 2)] true), none, none, none, none, some (.lit [(.int .i64 2)] true), none, some (.lit [(.int .i64 0)] true), none, none, none, none, some (.lit [(.int .i64 2)] true), none, some (.lit [(.int .i64 0)] true), none, some (.lit [(.int .i64 1)] true), none, some (.lit [(.int .i64 3)] true), none, none, none, none, some (.lit [(.int .i64 3)] true), none, some (.lit [(.int .i64 1)] true), none, none, none, none, some (.lit [(.int .i64 1)] true), none, some (.lit [(.int .i64 0)] true), none, some (.lit [(.int .i64 3)] true), none, none, none, none, some (.lit [(.int .i64 3)] true), none, some (.lit [(.int .i64 0)] true), none, none, none, none, some (.lit [(.int .i64 3)] true), none, some (.lit [(.int .i64 0)] true), none, some (.lit [(.int .i64 1)] true), none, none, none, none, some (.lit [(.int .i64 1)] true), none, some (.lit [(.int .i64 0)] true), none, none, none, none, some (.lit [(.int .i64 3)] true), none, some (.lit [(.int .i64 0)] true), none, some (.lit [(.int .i64 1)] true), none, some (.lit [(.int .i64 2)] true), none, none, none, none, some (.lit [(.int .i64 2)] true), none, some (.lit [(.int .i64 1)] true), none, none, none, none, some (.lit [(.int .i64 1)] true), none, some (.lit [(.int .i64 0)] true), none, some (.lit [(.int .i64 2)] true), none, none, none, none, some (.lit [(.int .i64 2)] true), none, some (.lit [(.int .i64 0)] true), none, none, none, none, some (.lit [(.int .i64 2)] true), none, some (.lit [(.int .i64 0)] true), none, some (.lit [(.int .i64 1)] true), none, none, none, none, some (.lit [(.int .i64 1)] true), none, some (.lit [(.int .i64 0)] true), some (.lit [(.int .i64 3), (.int .i64 2), (.int .i64 1), (.int .i64 0)] true), none, none, some (.lit [.sint .i64 ((sr3Q x).i 1), .sint .i64 ((sr3Q x).i 2), .sint .i64 ((sr3Q x).i 3), .sint .i64 ((sr3Q x).i 4)] true)], sr3_cs x) := by kernel_rfl

theorem sr3_h (l : List AV) : bodyJ Try.prog G14 1000 105 (asV (varsOf l) 0 sr3A) (asM (varsOf l) (nW sr3A) sr3M) = some (.tup [], sr3B l, sr3_cs (varsOf l)) := by
  unfold sr3B
  rw [sr3R_eq]
  exact sr3_t (varsOf l)

theorem sr3_c (l : List AV) : ∀ b ∈ sr3_cs (varsOf l), b = true := by
  unfold sr3_cs
  simp [sr3_v_46, sr3_v_47, sr3_v_48, sr3_v_49, sr3_v_50, sr3_v_51, sr3_v_52, sr3_v_53, sr3_v_54, sr3_v_55, sr3_v_56, sr3_v_57]

noncomputable def G18 : Summ := cutA 105 sr3A sr3M (fun _ => .tup []) sr3B G17

theorem G18_ok : SoundG Try.prog G18 := SoundG.cutA G17_ok G14_ok mixed Try.call105 sr3_h sr3_c

noncomputable def G19 : Summ := inlWs Try.prog 1000 [105] G18

theorem G19_ok : SoundG Try.prog G19 := by
  refine SoundG.inlWs mixed G18_ok fun f hf => ?_
  simp only [List.mem_cons, List.not_mem_nil, or_false] at hf
  subst hf
  exact Try.call105

noncomputable def G20 : Summ := inlWs Try.prog 1000 [101] G19

theorem G20_ok : SoundG Try.prog G20 := by
  refine SoundG.inlWs mixed G19_ok fun f hf => ?_
  simp only [List.mem_cons, List.not_mem_nil, or_false] at hf
  subst hf
  exact Try.call101

noncomputable def G21 : Summ := inlWs Try.prog 1000 [75] G20

theorem G21_ok : SoundG Try.prog G21 := by
  refine SoundG.inlWs mixed G20_ok fun f hf => ?_
  simp only [List.mem_cons, List.not_mem_nil, or_false] at hf
  subst hf
  exact Try.call75

end Go.Proofs.Ytekilpllicggeaa

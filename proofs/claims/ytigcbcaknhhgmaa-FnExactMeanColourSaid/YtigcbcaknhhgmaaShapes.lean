/-
  Facts of this seat that its laws use; no conditions.
-/
import Derived.Test.YtigcbcaknhhgmaaBase
namespace Go.Proofs.Ytigcbcaknhhgmaa
open Go.Sim Go.ChangeShapes Go.WideShapes Go.ChangeAt Go.RowKit

noncomputable def G5 : Summ := inlGs Try.prog 1000 [84] G4

theorem G5_ok : SoundG Try.prog G5 := by
  refine SoundG.inls mixed G4_ok fun f hf => ?_
  simp only [List.mem_cons, List.not_mem_nil, or_false] at hf
  subst hf
  exact Try.call84

def kd1 : List Kd := [.flt .f32, .flt .f32, .flt .f32]

noncomputable def valid3R0 (l : List AV) : Vars := outV (funA Try.prog G5 1000 54 (argsP [.val (.ag kd1)] 0 l) (memP [.val (.ag kd1)] l) [])

noncomputable def valid3R : List AV → Vars := Classical.choose (⟨valid3R0, rfl⟩ : ∃ f, f = valid3R0)

theorem valid3R_eq : valid3R = valid3R0 := Classical.choose_spec (⟨valid3R0, rfl⟩ : ∃ f, f = valid3R0)

theorem valid3_x (x : Vars) : mkR (valid3R0 (mkL x 0 (kdsP [.val (.ag kd1)]))) [.sc (.bool)] = .sbool (((((isPartR [(.flt .f32 (x.u 0))]).b 0) && ((isPartR [(.flt .f32 (x.u 1))]).b 0)) && ((isPartR [(.flt .f32 (x.u 2))]).b 0))) := by kernel_rfl

theorem valid3_f54 (x : Vars) : (funA Try.prog G5 1000 54 (argsP [.val (.ag kd1)] 0 (mkL x 0 (kdsP [.val (.ag kd1)]))) (memP [.val (.ag kd1)] (mkL x 0 (kdsP [.val (.ag kd1)]))) []).map (fun r => (normR r.1, untupR r.1 && r.1.flat, r.2)) = some (.sbool (((((isPartR [(.flt .f32 (x.u 0))]).b 0) && ((isPartR [(.flt .f32 (x.u 1))]).b 0)) && ((isPartR [(.flt .f32 (x.u 2))]).b 0))), true, []) := by kernel_rfl

set_option maxRecDepth 100000 in
theorem valid3_e54 (x : Vars) : (funA Try.prog G5 1000 54 (argsP [.val (.ag kd1)] 0 (mkL x 0 (kdsP [.val (.ag kd1)]))) (memP [.val (.ag kd1)] (mkL x 0 (kdsP [.val (.ag kd1)]))) []).map (fun r => (normR r.1, untupR r.1 && r.1.flat, r.2)) = some (mkR (valid3R0 (mkL x 0 (kdsP [.val (.ag kd1)]))) [.sc (.bool)], true, []) := by
  rw [valid3_f54, valid3_x]


theorem valid3_ev54 (x : Vars) : EvP Try.prog G5 54 [.val (.ag kd1)] [.sc (.bool)] (mkL x 0 (kdsP [.val (.ag kd1)])) (valid3R0 (mkL x 0 (kdsP [.val (.ag kd1)]))) := EvP.of (mkL_norm ..) (valid3_e54 x) fun _ h => by cases h

theorem valid3_f38 (x : Vars) : (funA Try.prog G5 1000 38 (argsP [.val (.ag kd1)] 0 (mkL x 0 (kdsP [.val (.ag kd1)]))) (memP [.val (.ag kd1)] (mkL x 0 (kdsP [.val (.ag kd1)]))) []).map (fun r => (normR r.1, untupR r.1 && r.1.flat, r.2)) = some (.sbool ((bif (!((isPartR [(.flt .f32 (x.u 0))]).b 0)) then false else (bif (!((isPartR [(.flt .f32 (x.u 1))]).b 0)) then false else (!(!((isPartR [(.flt .f32 (x.u 2))]).b 0)))))), true, []) := by kernel_rfl

theorem valid3_b38 {p0 p1 p2 : Bool} : (bif (!p0) then false else (bif (!p1) then false else (!(!p2)))) = ((p0 && p1) && p2) := by
  cases p0 <;> cases p1 <;> cases p2 <;> rfl

set_option maxRecDepth 100000 in
theorem valid3_e38 (x : Vars) : (funA Try.prog G5 1000 38 (argsP [.val (.ag kd1)] 0 (mkL x 0 (kdsP [.val (.ag kd1)]))) (memP [.val (.ag kd1)] (mkL x 0 (kdsP [.val (.ag kd1)]))) []).map (fun r => (normR r.1, untupR r.1 && r.1.flat, r.2)) = some (mkR (valid3R0 (mkL x 0 (kdsP [.val (.ag kd1)]))) [.sc (.bool)], true, []) := by
  rw [valid3_f38, valid3_x]
  refine congrArg (fun b => some (AV.sbool b, true, ([] : List Bool))) ?_
  exact valid3_b38

theorem valid3_ev38 (x : Vars) : EvP Try.prog G5 38 [.val (.ag kd1)] [.sc (.bool)] (mkL x 0 (kdsP [.val (.ag kd1)])) (valid3R0 (mkL x 0 (kdsP [.val (.ag kd1)]))) := EvP.of (mkL_norm ..) (valid3_e38 x) fun _ h => by cases h

theorem valid3_f66 (x : Vars) : (funA Try.prog G5 1000 66 (argsP [.val (.ag kd1)] 0 (mkL x 0 (kdsP [.val (.ag kd1)]))) (memP [.val (.ag kd1)] (mkL x 0 (kdsP [.val (.ag kd1)]))) []).map (fun r => (normR r.1, untupR r.1 && r.1.flat, r.2)) = some (.sbool ((bif (!((isPartR [(.flt .f32 (x.u 0))]).b 0)) then false else (bif (!((isPartR [(.flt .f32 (x.u 1))]).b 0)) then false else (!(!((isPartR [(.flt .f32 (x.u 2))]).b 0)))))), true, []) := by kernel_rfl

theorem valid3_b66 {p0 p1 p2 : Bool} : (bif (!p0) then false else (bif (!p1) then false else (!(!p2)))) = ((p0 && p1) && p2) := by
  cases p0 <;> cases p1 <;> cases p2 <;> rfl

set_option maxRecDepth 100000 in
theorem valid3_e66 (x : Vars) : (funA Try.prog G5 1000 66 (argsP [.val (.ag kd1)] 0 (mkL x 0 (kdsP [.val (.ag kd1)]))) (memP [.val (.ag kd1)] (mkL x 0 (kdsP [.val (.ag kd1)]))) []).map (fun r => (normR r.1, untupR r.1 && r.1.flat, r.2)) = some (mkR (valid3R0 (mkL x 0 (kdsP [.val (.ag kd1)]))) [.sc (.bool)], true, []) := by
  rw [valid3_f66, valid3_x]
  refine congrArg (fun b => some (AV.sbool b, true, ([] : List Bool))) ?_
  exact valid3_b66

theorem valid3_ev66 (x : Vars) : EvP Try.prog G5 66 [.val (.ag kd1)] [.sc (.bool)] (mkL x 0 (kdsP [.val (.ag kd1)])) (valid3R0 (mkL x 0 (kdsP [.val (.ag kd1)]))) := EvP.of (mkL_norm ..) (valid3_e66 x) fun _ h => by cases h

noncomputable def G6 : Summ := addG 54 (sumP [.val (.ag kd1)] [.sc (.bool)] (fun _ => []) valid3R) G5

theorem G6_ok : SoundG Try.prog G6 := SoundG.sumP G5_ok mixed Try.call54 G5_ok (fun x hx hp => by rw [valid3R_eq]; exact (fun x _ _ => valid3_ev54 x) x hx hp)

noncomputable def G7 : Summ := addG 38 (sumP [.val (.ag kd1)] [.sc (.bool)] (fun _ => []) valid3R) G6

theorem G7_ok : SoundG Try.prog G7 := SoundG.sumP G6_ok mixed Try.call38 G5_ok (fun x hx hp => by rw [valid3R_eq]; exact (fun x _ _ => valid3_ev38 x) x hx hp)

noncomputable def G8 : Summ := addG 66 (sumP [.val (.ag kd1)] [.sc (.bool)] (fun _ => []) valid3R) G7

theorem G8_ok : SoundG Try.prog G8 := SoundG.sumP G7_ok mixed Try.call66 G5_ok (fun x hx hp => by rw [valid3R_eq]; exact (fun x _ _ => valid3_ev66 x) x hx hp)

noncomputable def G9 : Summ := inlGs Try.prog 1000 [55] G8

theorem G9_ok : SoundG Try.prog G9 := by
  refine SoundG.inls mixed G8_ok fun f hf => ?_
  simp only [List.mem_cons, List.not_mem_nil, or_false] at hf
  subst hf
  exact Try.call55

def kd2 : List Kd := [.flt .f32, .flt .f32, .flt .f32, .flt .f32, .flt .f32, .flt .f32, .flt .f32, .flt .f32, .flt .f32, .flt .f32, .flt .f32, .flt .f32, .flt .f32, .flt .f32, .flt .f32, .flt .f32, .flt .f32, .flt .f32, .flt .f32, .flt .f32, .flt .f32, .flt .f32, .flt .f32, .flt .f32]

noncomputable def validPR0 (l : List AV) : Vars := outV (funA Try.prog G9 1000 63 (argsP [.ptr kd2] 0 l) (memP [.ptr kd2] l) [])

noncomputable def validPR : List AV → Vars := Classical.choose (⟨validPR0, rfl⟩ : ∃ f, f = validPR0)

theorem validPR_eq : validPR = validPR0 := Classical.choose_spec (⟨validPR0, rfl⟩ : ∃ f, f = validPR0)

theorem validP_x (x : Vars) : mkR (validPR0 (mkL x 0 (kdsP [.ptr kd2]))) [.sc (.bool)] = .sbool ((bif (!((valid3R [(.flt .f32 (x.u 0)), (.flt .f32 (x.u 1)), (.flt .f32 (x.u 2))]).b 0)) then false else (bif (!((valid3R [(.flt .f32 (x.u 3)), (.flt .f32 (x.u 4)), (.flt .f32 (x.u 5))]).b 0)) then false else (bif (!((valid3R [(.flt .f32 (x.u 6)), (.flt .f32 (x.u 7)), (.flt .f32 (x.u 8))]).b 0)) then false else (bif (!((valid3R [(.flt .f32 (x.u 9)), (.flt .f32 (x.u 10)), (.flt .f32 (x.u 11))]).b 0)) then false else (bif (!((valid3R [(.flt .f32 (x.u 12)), (.flt .f32 (x.u 13)), (.flt .f32 (x.u 14))]).b 0)) then false else (bif (!((valid3R [(.flt .f32 (x.u 15)), (.flt .f32 (x.u 16)), (.flt .f32 (x.u 17))]).b 0)) then false else (bif (!((valid3R [(.flt .f32 (x.u 18)), (.flt .f32 (x.u 19)), (.flt .f32 (x.u 20))]).b 0)) then false else (!(!((valid3R [(.flt .f32 (x.u 21)), (.flt .f32 (x.u 22)), (.flt .f32 (x.u 23))]).b 0))))))))))) := by kernel_rfl

theorem validP_f63 (x : Vars) : (funA Try.prog G9 1000 63 (argsP [.ptr kd2] 0 (mkL x 0 (kdsP [.ptr kd2]))) (memP [.ptr kd2] (mkL x 0 (kdsP [.ptr kd2]))) []).map (fun r => (normR r.1, untupR r.1 && r.1.flat, r.2)) = some (.sbool ((bif (!((valid3R [(.flt .f32 (x.u 0)), (.flt .f32 (x.u 1)), (.flt .f32 (x.u 2))]).b 0)) then false else (bif (!((valid3R [(.flt .f32 (x.u 3)), (.flt .f32 (x.u 4)), (.flt .f32 (x.u 5))]).b 0)) then false else (bif (!((valid3R [(.flt .f32 (x.u 6)), (.flt .f32 (x.u 7)), (.flt .f32 (x.u 8))]).b 0)) then false else (bif (!((valid3R [(.flt .f32 (x.u 9)), (.flt .f32 (x.u 10)), (.flt .f32 (x.u 11))]).b 0)) then false else (bif (!((valid3R [(.flt .f32 (x.u 12)), (.flt .f32 (x.u 13)), (.flt .f32 (x.u 14))]).b 0)) then false else (bif (!((valid3R [(.flt .f32 (x.u 15)), (.flt .f32 (x.u 16)), (.flt .f32 (x.u 17))]).b 0)) then false else (bif (!((valid3R [(.flt .f32 (x.u 18)), (.flt .f32 (x.u 19)), (.flt .f32 (x.u 20))]).b 0)) then false else (!(!((valid3R [(.flt .f32 (x.u 21)), (.flt .f32 (x.u 22)), (.flt .f32 (x.u 23))]).b 0))))))))))), true, []) := by kernel_rfl

set_option maxRecDepth 100000 in
theorem validP_e63 (x : Vars) : (funA Try.prog G9 1000 63 (argsP [.ptr kd2] 0 (mkL x 0 (kdsP [.ptr kd2]))) (memP [.ptr kd2] (mkL x 0 (kdsP [.ptr kd2]))) []).map (fun r => (normR r.1, untupR r.1 && r.1.flat, r.2)) = some (mkR (validPR0 (mkL x 0 (kdsP [.ptr kd2]))) [.sc (.bool)], true, []) := by
  rw [validP_f63, validP_x]


theorem validP_ev63 (x : Vars) : EvP Try.prog G9 63 [.ptr kd2] [.sc (.bool)] (mkL x 0 (kdsP [.ptr kd2])) (validPR0 (mkL x 0 (kdsP [.ptr kd2]))) := EvP.of (mkL_norm ..) (validP_e63 x) fun _ h => by cases h

theorem validP_f65 (x : Vars) : (funA Try.prog G9 1000 65 (argsP [.val (.ag kd2)] 0 (mkL x 0 (kdsP [.ptr kd2]))) (memP [.val (.ag kd2)] (mkL x 0 (kdsP [.ptr kd2]))) []).map (fun r => (normR r.1, untupR r.1 && r.1.flat, r.2)) = some (.sbool ((bif (!((valid3R [(.flt .f32 (x.u 0)), (.flt .f32 (x.u 1)), (.flt .f32 (x.u 2))]).b 0)) then false else (bif (!((valid3R [(.flt .f32 (x.u 3)), (.flt .f32 (x.u 4)), (.flt .f32 (x.u 5))]).b 0)) then false else (bif (!((valid3R [(.flt .f32 (x.u 6)), (.flt .f32 (x.u 7)), (.flt .f32 (x.u 8))]).b 0)) then false else (bif (!((valid3R [(.flt .f32 (x.u 9)), (.flt .f32 (x.u 10)), (.flt .f32 (x.u 11))]).b 0)) then false else (bif (!((valid3R [(.flt .f32 (x.u 12)), (.flt .f32 (x.u 13)), (.flt .f32 (x.u 14))]).b 0)) then false else (bif (!((valid3R [(.flt .f32 (x.u 15)), (.flt .f32 (x.u 16)), (.flt .f32 (x.u 17))]).b 0)) then false else (bif (!((valid3R [(.flt .f32 (x.u 18)), (.flt .f32 (x.u 19)), (.flt .f32 (x.u 20))]).b 0)) then false else (!(!((valid3R [(.flt .f32 (x.u 21)), (.flt .f32 (x.u 22)), (.flt .f32 (x.u 23))]).b 0))))))))))), true, []) := by kernel_rfl

set_option maxRecDepth 100000 in
theorem validP_e65 (x : Vars) : (funA Try.prog G9 1000 65 (argsP [.val (.ag kd2)] 0 (mkL x 0 (kdsP [.ptr kd2]))) (memP [.val (.ag kd2)] (mkL x 0 (kdsP [.ptr kd2]))) []).map (fun r => (normR r.1, untupR r.1 && r.1.flat, r.2)) = some (mkR (validPR0 (mkL x 0 (kdsP [.ptr kd2]))) [.sc (.bool)], true, []) := by
  rw [validP_f65, validP_x]


theorem validP_ev65 (x : Vars) : EvP Try.prog G9 65 [.val (.ag kd2)] [.sc (.bool)] (mkL x 0 (kdsP [.ptr kd2])) (validPR0 (mkL x 0 (kdsP [.ptr kd2]))) := EvP.of (mkL_norm ..) (validP_e65 x) fun _ h => by cases h

noncomputable def G10 : Summ := addG 63 (sumP [.ptr kd2] [.sc (.bool)] (fun _ => []) validPR) G9

theorem G10_ok : SoundG Try.prog G10 := SoundG.sumP G9_ok mixed Try.call63 G9_ok (fun x hx hp => by rw [validPR_eq]; exact (fun x _ _ => validP_ev63 x) x hx hp)

noncomputable def G11 : Summ := addG 65 (sumP [.val (.ag kd2)] [.sc (.bool)] (fun _ => []) validPR) G10

theorem G11_ok : SoundG Try.prog G11 := SoundG.sumP G10_ok mixed Try.call65 G9_ok (fun x hx hp => by rw [validPR_eq]; exact (fun x _ _ => validP_ev65 x) x hx hp)

noncomputable def greyR0 (l : List AV) : Vars := outV (funA Try.prog G11 1000 58 (argsP [.val (.ag kd1)] 0 l) (memP [.val (.ag kd1)] l) [])

noncomputable def greyR : List AV → Vars := Classical.choose (⟨greyR0, rfl⟩ : ∃ f, f = greyR0)

theorem greyR_eq : greyR = greyR0 := Classical.choose_spec (⟨greyR0, rfl⟩ : ∃ f, f = greyR0)

theorem grey_x (x : Vars) : mkR (greyR0 (mkL x 0 (kdsP [.val (.ag kd1)]))) [.sc (.flt .f32)] = .flt .f32 ((bif (fcmp .lss .f32 (x.u 1) (x.u 0)) then (bif (fcmp .lss .f32 (x.u 2) (x.u 1)) then (x.u 2) else (x.u 1)) else (bif (fcmp .lss .f32 (x.u 2) (x.u 0)) then (x.u 2) else (x.u 0)))) := by kernel_rfl

theorem grey_f58 (x : Vars) : (funA Try.prog G11 1000 58 (argsP [.val (.ag kd1)] 0 (mkL x 0 (kdsP [.val (.ag kd1)]))) (memP [.val (.ag kd1)] (mkL x 0 (kdsP [.val (.ag kd1)]))) []).map (fun r => (normR r.1, untupR r.1 && r.1.flat, r.2)) = some (.flt .f32 ((bif (fcmp .lss .f32 (x.u 1) (x.u 0)) then (bif (fcmp .lss .f32 (x.u 2) (x.u 1)) then (x.u 2) else (x.u 1)) else (bif (fcmp .lss .f32 (x.u 2) (x.u 0)) then (x.u 2) else (x.u 0)))), true, []) := by kernel_rfl

set_option maxRecDepth 100000 in
theorem grey_e58 (x : Vars) : (funA Try.prog G11 1000 58 (argsP [.val (.ag kd1)] 0 (mkL x 0 (kdsP [.val (.ag kd1)]))) (memP [.val (.ag kd1)] (mkL x 0 (kdsP [.val (.ag kd1)]))) []).map (fun r => (normR r.1, untupR r.1 && r.1.flat, r.2)) = some (mkR (greyR0 (mkL x 0 (kdsP [.val (.ag kd1)]))) [.sc (.flt .f32)], true, []) := by
  rw [grey_f58, grey_x]


theorem grey_ev58 (x : Vars) : EvP Try.prog G11 58 [.val (.ag kd1)] [.sc (.flt .f32)] (mkL x 0 (kdsP [.val (.ag kd1)])) (greyR0 (mkL x 0 (kdsP [.val (.ag kd1)]))) := EvP.of (mkL_norm ..) (grey_e58 x) fun _ h => by cases h

theorem grey_f61 (x : Vars) : (funA Try.prog G11 1000 61 (argsP [.val (.ag kd1)] 0 (mkL x 0 (kdsP [.val (.ag kd1)]))) (memP [.val (.ag kd1)] (mkL x 0 (kdsP [.val (.ag kd1)]))) []).map (fun r => (normR r.1, untupR r.1 && r.1.flat, r.2)) = some (.flt .f32 ((bif (fcmp .lss .f32 (x.u 0) (x.u 0)) then (bif (fcmp .lss .f32 (x.u 1) (x.u 0)) then (bif (fcmp .lss .f32 (x.u 2) (x.u 1)) then (x.u 2) else (x.u 1)) else (bif (fcmp .lss .f32 (x.u 2) (x.u 0)) then (x.u 2) else (x.u 0))) else (bif (fcmp .lss .f32 (x.u 1) (x.u 0)) then (bif (fcmp .lss .f32 (x.u 2) (x.u 1)) then (x.u 2) else (x.u 1)) else (bif (fcmp .lss .f32 (x.u 2) (x.u 0)) then (x.u 2) else (x.u 0))))), true, []) := by kernel_rfl

set_option maxRecDepth 100000 in
theorem grey_e61 (x : Vars) : (funA Try.prog G11 1000 61 (argsP [.val (.ag kd1)] 0 (mkL x 0 (kdsP [.val (.ag kd1)]))) (memP [.val (.ag kd1)] (mkL x 0 (kdsP [.val (.ag kd1)]))) []).map (fun r => (normR r.1, untupR r.1 && r.1.flat, r.2)) = some (mkR (greyR0 (mkL x 0 (kdsP [.val (.ag kd1)]))) [.sc (.flt .f32)], true, []) := by
  rw [grey_f61, grey_x]
  rw [lss_self]
  rfl

theorem grey_ev61 (x : Vars) : EvP Try.prog G11 61 [.val (.ag kd1)] [.sc (.flt .f32)] (mkL x 0 (kdsP [.val (.ag kd1)])) (greyR0 (mkL x 0 (kdsP [.val (.ag kd1)]))) := EvP.of (mkL_norm ..) (grey_e61 x) fun _ h => by cases h

noncomputable def G12 : Summ := addG 58 (sumP [.val (.ag kd1)] [.sc (.flt .f32)] (fun _ => []) greyR) G11

theorem G12_ok : SoundG Try.prog G12 := SoundG.sumP G11_ok mixed Try.call58 G11_ok (fun x hx hp => by rw [greyR_eq]; exact (fun x _ _ => grey_ev58 x) x hx hp)

noncomputable def G13 : Summ := addG 61 (sumP [.val (.ag kd1)] [.sc (.flt .f32)] (fun _ => []) greyR) G12

theorem G13_ok : SoundG Try.prog G13 := SoundG.sumP G12_ok mixed Try.call61 G11_ok (fun x hx hp => by rw [greyR_eq]; exact (fun x _ _ => grey_ev61 x) x hx hp)

noncomputable def G14 : Summ := inlGs Try.prog 1000 [56, 78] G13

theorem G14_ok : SoundG Try.prog G14 := by
  refine SoundG.inls mixed G13_ok fun f hf => ?_
  simp only [List.mem_cons, List.not_mem_nil, or_false] at hf
  rcases hf with rfl | rfl
  · exact Try.call56
  · exact Try.call78

noncomputable def farR0 (l : List AV) : Vars := outV (funA Try.prog G14 1000 64 (argsP [.val (.ag kd1), .val (.ag kd1)] 0 l) (memP [.val (.ag kd1), .val (.ag kd1)] l) [])

noncomputable def farR : List AV → Vars := Classical.choose (⟨farR0, rfl⟩ : ∃ f, f = farR0)

theorem farR_eq : farR = farR0 := Classical.choose_spec (⟨farR0, rfl⟩ : ∃ f, f = farR0)

theorem far_x (x : Vars) : mkR (farR0 (mkL x 0 (kdsP [.val (.ag kd1), .val (.ag kd1)]))) [.sc (.flt .f32)] = .flt .f32 ((farith .add .f32 (farith .add .f32 (farith .mul .f32 (farith .sub .f32 (x.u 0) (x.u 3)) (farith .sub .f32 (x.u 0) (x.u 3))) (farith .mul .f32 (farith .sub .f32 (x.u 1) (x.u 4)) (farith .sub .f32 (x.u 1) (x.u 4)))) (farith .mul .f32 (farith .sub .f32 (x.u 2) (x.u 5)) (farith .sub .f32 (x.u 2) (x.u 5))))) := by kernel_rfl

theorem far_f64 (x : Vars) : (funA Try.prog G14 1000 64 (argsP [.val (.ag kd1), .val (.ag kd1)] 0 (mkL x 0 (kdsP [.val (.ag kd1), .val (.ag kd1)]))) (memP [.val (.ag kd1), .val (.ag kd1)] (mkL x 0 (kdsP [.val (.ag kd1), .val (.ag kd1)]))) []).map (fun r => (normR r.1, untupR r.1 && r.1.flat, r.2)) = some (.flt .f32 ((farith .add .f32 (farith .add .f32 (farith .mul .f32 (farith .sub .f32 (x.u 0) (x.u 3)) (farith .sub .f32 (x.u 0) (x.u 3))) (farith .mul .f32 (farith .sub .f32 (x.u 1) (x.u 4)) (farith .sub .f32 (x.u 1) (x.u 4)))) (farith .mul .f32 (farith .sub .f32 (x.u 2) (x.u 5)) (farith .sub .f32 (x.u 2) (x.u 5))))), true, []) := by kernel_rfl

set_option maxRecDepth 100000 in
theorem far_e64 (x : Vars) : (funA Try.prog G14 1000 64 (argsP [.val (.ag kd1), .val (.ag kd1)] 0 (mkL x 0 (kdsP [.val (.ag kd1), .val (.ag kd1)]))) (memP [.val (.ag kd1), .val (.ag kd1)] (mkL x 0 (kdsP [.val (.ag kd1), .val (.ag kd1)]))) []).map (fun r => (normR r.1, untupR r.1 && r.1.flat, r.2)) = some (mkR (farR0 (mkL x 0 (kdsP [.val (.ag kd1), .val (.ag kd1)]))) [.sc (.flt .f32)], true, []) := by
  rw [far_f64, far_x]


theorem far_ev64 (x : Vars) : EvP Try.prog G14 64 [.val (.ag kd1), .val (.ag kd1)] [.sc (.flt .f32)] (mkL x 0 (kdsP [.val (.ag kd1), .val (.ag kd1)])) (farR0 (mkL x 0 (kdsP [.val (.ag kd1), .val (.ag kd1)]))) := EvP.of (mkL_norm ..) (far_e64 x) fun _ h => by cases h

theorem far_f67 (x : Vars) : (funA Try.prog G14 1000 67 (argsP [.val (.ag kd1), .val (.ag kd1)] 0 (mkL x 0 (kdsP [.val (.ag kd1), .val (.ag kd1)]))) (memP [.val (.ag kd1), .val (.ag kd1)] (mkL x 0 (kdsP [.val (.ag kd1), .val (.ag kd1)]))) []).map (fun r => (normR r.1, untupR r.1 && r.1.flat, r.2)) = some (.flt .f32 ((farith .add .f32 (farith .add .f32 (farith .mul .f32 (farith .sub .f32 (x.u 0) (x.u 3)) (farith .sub .f32 (x.u 0) (x.u 3))) (farith .mul .f32 (farith .sub .f32 (x.u 1) (x.u 4)) (farith .sub .f32 (x.u 1) (x.u 4)))) (farith .mul .f32 (farith .sub .f32 (x.u 2) (x.u 5)) (farith .sub .f32 (x.u 2) (x.u 5))))), true, []) := by kernel_rfl

set_option maxRecDepth 100000 in
theorem far_e67 (x : Vars) : (funA Try.prog G14 1000 67 (argsP [.val (.ag kd1), .val (.ag kd1)] 0 (mkL x 0 (kdsP [.val (.ag kd1), .val (.ag kd1)]))) (memP [.val (.ag kd1), .val (.ag kd1)] (mkL x 0 (kdsP [.val (.ag kd1), .val (.ag kd1)]))) []).map (fun r => (normR r.1, untupR r.1 && r.1.flat, r.2)) = some (mkR (farR0 (mkL x 0 (kdsP [.val (.ag kd1), .val (.ag kd1)]))) [.sc (.flt .f32)], true, []) := by
  rw [far_f67, far_x]


theorem far_ev67 (x : Vars) : EvP Try.prog G14 67 [.val (.ag kd1), .val (.ag kd1)] [.sc (.flt .f32)] (mkL x 0 (kdsP [.val (.ag kd1), .val (.ag kd1)])) (farR0 (mkL x 0 (kdsP [.val (.ag kd1), .val (.ag kd1)]))) := EvP.of (mkL_norm ..) (far_e67 x) fun _ h => by cases h

noncomputable def G15 : Summ := addG 64 (sumP [.val (.ag kd1), .val (.ag kd1)] [.sc (.flt .f32)] (fun _ => []) farR) G14

theorem G15_ok : SoundG Try.prog G15 := SoundG.sumP G14_ok mixed Try.call64 G14_ok (fun x hx hp => by rw [farR_eq]; exact (fun x _ _ => far_ev64 x) x hx hp)

noncomputable def G16 : Summ := addG 67 (sumP [.val (.ag kd1), .val (.ag kd1)] [.sc (.flt .f32)] (fun _ => []) farR) G15

theorem G16_ok : SoundG Try.prog G16 := SoundG.sumP G15_ok mixed Try.call67 G14_ok (fun x hx hp => by rw [farR_eq]; exact (fun x _ _ => far_ev67 x) x hx hp)

noncomputable def G17 : Summ := inlGs Try.prog 1000 [94, 76, 56, 95, 78] G16

theorem G17_ok : SoundG Try.prog G17 := by
  refine SoundG.inls mixed G16_ok fun f hf => ?_
  simp only [List.mem_cons, List.not_mem_nil, or_false] at hf
  rcases hf with rfl | rfl | rfl | rfl | rfl
  · exact Try.call94
  · exact Try.call76
  · exact Try.call56
  · exact Try.call95
  · exact Try.call78

noncomputable def colourR0 (l : List AV) : Vars := outV (funA Try.prog G17 1000 68 (argsP [.ptr kd2, .val (.ag kd1)] 0 l) (memP [.ptr kd2, .val (.ag kd1)] l) [])

noncomputable def colourR : List AV → Vars := Classical.choose (⟨colourR0, rfl⟩ : ∃ f, f = colourR0)

theorem colourR_eq : colourR = colourR0 := Classical.choose_spec (⟨colourR0, rfl⟩ : ∃ f, f = colourR0)

theorem colour_x (x : Vars) : mkR (colourR0 (mkL x 0 (kdsP [.ptr kd2, .val (.ag kd1)]))) [.ag kd1] = .agg [.flt .f32 ((bif (fcmp .gtr .f32 (farith .add .f32 (farith .add .f32 (farith .add .f32 (farith .add .f32 (farith .add .f32 (farith .add .f32 (farith .add .f32 (farith .mul .f32 (farith .mul .f32 (farith .mul .f32 (farith .sub .f32 1065353216 (x.u 24)) (farith .sub .f32 1065353216 (x.u 25))) (farith .sub .f32 1065353216 (x.u 26))) (x.u 0)) (farith .mul .f32 (farith .mul .f32 (farith .mul .f32 (x.u 24) (farith .sub .f32 1065353216 (x.u 25))) (farith .sub .f32 1065353216 (x.u 26))) (x.u 3))) (farith .mul .f32 (farith .mul .f32 (farith .mul .f32 (farith .sub .f32 1065353216 (x.u 24)) (x.u 25)) (farith .sub .f32 1065353216 (x.u 26))) (x.u 6))) (farith .mul .f32 (farith .mul .f32 (farith .mul .f32 (x.u 24) (x.u 25)) (farith .sub .f32 1065353216 (x.u 26))) (x.u 9))) (farith .mul .f32 (farith .mul .f32 (farith .mul .f32 (farith .sub .f32 1065353216 (x.u 24)) (farith .sub .f32 1065353216 (x.u 25))) (x.u 26)) (x.u 12))) (farith .mul .f32 (farith .mul .f32 (farith .mul .f32 (x.u 24) (farith .sub .f32 1065353216 (x.u 25))) (x.u 26)) (x.u 15))) (farith .mul .f32 (farith .mul .f32 (farith .mul .f32 (farith .sub .f32 1065353216 (x.u 24)) (x.u 25)) (x.u 26)) (x.u 18))) (farith .mul .f32 (farith .mul .f32 (farith .mul .f32 (x.u 24) (x.u 25)) (x.u 26)) (x.u 21))) 1065353216) then 1065353216 else (farith .add .f32 (farith .add .f32 (farith .add .f32 (farith .add .f32 (farith .add .f32 (farith .add .f32 (farith .add .f32 (farith .mul .f32 (farith .mul .f32 (farith .mul .f32 (farith .sub .f32 1065353216 (x.u 24)) (farith .sub .f32 1065353216 (x.u 25))) (farith .sub .f32 1065353216 (x.u 26))) (x.u 0)) (farith .mul .f32 (farith .mul .f32 (farith .mul .f32 (x.u 24) (farith .sub .f32 1065353216 (x.u 25))) (farith .sub .f32 1065353216 (x.u 26))) (x.u 3))) (farith .mul .f32 (farith .mul .f32 (farith .mul .f32 (farith .sub .f32 1065353216 (x.u 24)) (x.u 25)) (farith .sub .f32 1065353216 (x.u 26))) (x.u 6))) (farith .mul .f32 (farith .mul .f32 (farith .mul .f32 (x.u 24) (x.u 25)) (farith .sub .f32 1065353216 (x.u 26))) (x.u 9))) (farith .mul .f32 (farith .mul .f32 (farith .mul .f32 (farith .sub .f32 1065353216 (x.u 24)) (farith .sub .f32 1065353216 (x.u 25))) (x.u 26)) (x.u 12))) (farith .mul .f32 (farith .mul .f32 (farith .mul .f32 (x.u 24) (farith .sub .f32 1065353216 (x.u 25))) (x.u 26)) (x.u 15))) (farith .mul .f32 (farith .mul .f32 (farith .mul .f32 (farith .sub .f32 1065353216 (x.u 24)) (x.u 25)) (x.u 26)) (x.u 18))) (farith .mul .f32 (farith .mul .f32 (farith .mul .f32 (x.u 24) (x.u 25)) (x.u 26)) (x.u 21))))), .flt .f32 ((bif (fcmp .gtr .f32 (farith .add .f32 (farith .add .f32 (farith .add .f32 (farith .add .f32 (farith .add .f32 (farith .add .f32 (farith .add .f32 (farith .mul .f32 (farith .mul .f32 (farith .mul .f32 (farith .sub .f32 1065353216 (x.u 24)) (farith .sub .f32 1065353216 (x.u 25))) (farith .sub .f32 1065353216 (x.u 26))) (x.u 1)) (farith .mul .f32 (farith .mul .f32 (farith .mul .f32 (x.u 24) (farith .sub .f32 1065353216 (x.u 25))) (farith .sub .f32 1065353216 (x.u 26))) (x.u 4))) (farith .mul .f32 (farith .mul .f32 (farith .mul .f32 (farith .sub .f32 1065353216 (x.u 24)) (x.u 25)) (farith .sub .f32 1065353216 (x.u 26))) (x.u 7))) (farith .mul .f32 (farith .mul .f32 (farith .mul .f32 (x.u 24) (x.u 25)) (farith .sub .f32 1065353216 (x.u 26))) (x.u 10))) (farith .mul .f32 (farith .mul .f32 (farith .mul .f32 (farith .sub .f32 1065353216 (x.u 24)) (farith .sub .f32 1065353216 (x.u 25))) (x.u 26)) (x.u 13))) (farith .mul .f32 (farith .mul .f32 (farith .mul .f32 (x.u 24) (farith .sub .f32 1065353216 (x.u 25))) (x.u 26)) (x.u 16))) (farith .mul .f32 (farith .mul .f32 (farith .mul .f32 (farith .sub .f32 1065353216 (x.u 24)) (x.u 25)) (x.u 26)) (x.u 19))) (farith .mul .f32 (farith .mul .f32 (farith .mul .f32 (x.u 24) (x.u 25)) (x.u 26)) (x.u 22))) 1065353216) then 1065353216 else (farith .add .f32 (farith .add .f32 (farith .add .f32 (farith .add .f32 (farith .add .f32 (farith .add .f32 (farith .add .f32 (farith .mul .f32 (farith .mul .f32 (farith .mul .f32 (farith .sub .f32 1065353216 (x.u 24)) (farith .sub .f32 1065353216 (x.u 25))) (farith .sub .f32 1065353216 (x.u 26))) (x.u 1)) (farith .mul .f32 (farith .mul .f32 (farith .mul .f32 (x.u 24) (farith .sub .f32 1065353216 (x.u 25))) (farith .sub .f32 1065353216 (x.u 26))) (x.u 4))) (farith .mul .f32 (farith .mul .f32 (farith .mul .f32 (farith .sub .f32 1065353216 (x.u 24)) (x.u 25)) (farith .sub .f32 1065353216 (x.u 26))) (x.u 7))) (farith .mul .f32 (farith .mul .f32 (farith .mul .f32 (x.u 24) (x.u 25)) (farith .sub .f32 1065353216 (x.u 26))) (x.u 10))) (farith .mul .f32 (farith .mul .f32 (farith .mul .f32 (farith .sub .f32 1065353216 (x.u 24)) (farith .sub .f32 1065353216 (x.u 25))) (x.u 26)) (x.u 13))) (farith .mul .f32 (farith .mul .f32 (farith .mul .f32 (x.u 24) (farith .sub .f32 1065353216 (x.u 25))) (x.u 26)) (x.u 16))) (farith .mul .f32 (farith .mul .f32 (farith .mul .f32 (farith .sub .f32 1065353216 (x.u 24)) (x.u 25)) (x.u 26)) (x.u 19))) (farith .mul .f32 (farith .mul .f32 (farith .mul .f32 (x.u 24) (x.u 25)) (x.u 26)) (x.u 22))))), .flt .f32 ((bif (fcmp .gtr .f32 (farith .add .f32 (farith .add .f32 (farith .add .f32 (farith .add .f32 (farith .add .f32 (farith .add .f32 (farith .add .f32 (farith .mul .f32 (farith .mul .f32 (farith .mul .f32 (farith .sub .f32 1065353216 (x.u 24)) (farith .sub .f32 1065353216 (x.u 25))) (farith .sub .f32 1065353216 (x.u 26))) (x.u 2)) (farith .mul .f32 (farith .mul .f32 (farith .mul .f32 (x.u 24) (farith .sub .f32 1065353216 (x.u 25))) (farith .sub .f32 1065353216 (x.u 26))) (x.u 5))) (farith .mul .f32 (farith .mul .f32 (farith .mul .f32 (farith .sub .f32 1065353216 (x.u 24)) (x.u 25)) (farith .sub .f32 1065353216 (x.u 26))) (x.u 8))) (farith .mul .f32 (farith .mul .f32 (farith .mul .f32 (x.u 24) (x.u 25)) (farith .sub .f32 1065353216 (x.u 26))) (x.u 11))) (farith .mul .f32 (farith .mul .f32 (farith .mul .f32 (farith .sub .f32 1065353216 (x.u 24)) (farith .sub .f32 1065353216 (x.u 25))) (x.u 26)) (x.u 14))) (farith .mul .f32 (farith .mul .f32 (farith .mul .f32 (x.u 24) (farith .sub .f32 1065353216 (x.u 25))) (x.u 26)) (x.u 17))) (farith .mul .f32 (farith .mul .f32 (farith .mul .f32 (farith .sub .f32 1065353216 (x.u 24)) (x.u 25)) (x.u 26)) (x.u 20))) (farith .mul .f32 (farith .mul .f32 (farith .mul .f32 (x.u 24) (x.u 25)) (x.u 26)) (x.u 23))) 1065353216) then 1065353216 else (farith .add .f32 (farith .add .f32 (farith .add .f32 (farith .add .f32 (farith .add .f32 (farith .add .f32 (farith .add .f32 (farith .mul .f32 (farith .mul .f32 (farith .mul .f32 (farith .sub .f32 1065353216 (x.u 24)) (farith .sub .f32 1065353216 (x.u 25))) (farith .sub .f32 1065353216 (x.u 26))) (x.u 2)) (farith .mul .f32 (farith .mul .f32 (farith .mul .f32 (x.u 24) (farith .sub .f32 1065353216 (x.u 25))) (farith .sub .f32 1065353216 (x.u 26))) (x.u 5))) (farith .mul .f32 (farith .mul .f32 (farith .mul .f32 (farith .sub .f32 1065353216 (x.u 24)) (x.u 25)) (farith .sub .f32 1065353216 (x.u 26))) (x.u 8))) (farith .mul .f32 (farith .mul .f32 (farith .mul .f32 (x.u 24) (x.u 25)) (farith .sub .f32 1065353216 (x.u 26))) (x.u 11))) (farith .mul .f32 (farith .mul .f32 (farith .mul .f32 (farith .sub .f32 1065353216 (x.u 24)) (farith .sub .f32 1065353216 (x.u 25))) (x.u 26)) (x.u 14))) (farith .mul .f32 (farith .mul .f32 (farith .mul .f32 (x.u 24) (farith .sub .f32 1065353216 (x.u 25))) (x.u 26)) (x.u 17))) (farith .mul .f32 (farith .mul .f32 (farith .mul .f32 (farith .sub .f32 1065353216 (x.u 24)) (x.u 25)) (x.u 26)) (x.u 20))) (farith .mul .f32 (farith .mul .f32 (farith .mul .f32 (x.u 24) (x.u 25)) (x.u 26)) (x.u 23)))))] := by kernel_rfl

theorem colour_f68 (x : Vars) : (funA Try.prog G17 1000 68 (argsP [.ptr kd2, .val (.ag kd1)] 0 (mkL x 0 (kdsP [.ptr kd2, .val (.ag kd1)]))) (memP [.ptr kd2, .val (.ag kd1)] (mkL x 0 (kdsP [.ptr kd2, .val (.ag kd1)]))) []).map (fun r => (normR r.1, untupR r.1 && r.1.flat, r.2)) = some (.agg [.flt .f32 ((bif (fcmp .gtr .f32 (farith .add .f32 (farith .add .f32 (farith .add .f32 (farith .add .f32 (farith .add .f32 (farith .add .f32 (farith .add .f32 (farith .mul .f32 (farith .mul .f32 (farith .mul .f32 (farith .sub .f32 1065353216 (x.u 24)) (farith .sub .f32 1065353216 (x.u 25))) (farith .sub .f32 1065353216 (x.u 26))) (x.u 0)) (farith .mul .f32 (farith .mul .f32 (farith .mul .f32 (x.u 24) (farith .sub .f32 1065353216 (x.u 25))) (farith .sub .f32 1065353216 (x.u 26))) (x.u 3))) (farith .mul .f32 (farith .mul .f32 (farith .mul .f32 (farith .sub .f32 1065353216 (x.u 24)) (x.u 25)) (farith .sub .f32 1065353216 (x.u 26))) (x.u 6))) (farith .mul .f32 (farith .mul .f32 (farith .mul .f32 (x.u 24) (x.u 25)) (farith .sub .f32 1065353216 (x.u 26))) (x.u 9))) (farith .mul .f32 (farith .mul .f32 (farith .mul .f32 (farith .sub .f32 1065353216 (x.u 24)) (farith .sub .f32 1065353216 (x.u 25))) (x.u 26)) (x.u 12))) (farith .mul .f32 (farith .mul .f32 (farith .mul .f32 (x.u 24) (farith .sub .f32 1065353216 (x.u 25))) (x.u 26)) (x.u 15))) (farith .mul .f32 (farith .mul .f32 (farith .mul .f32 (farith .sub .f32 1065353216 (x.u 24)) (x.u 25)) (x.u 26)) (x.u 18))) (farith .mul .f32 (farith .mul .f32 (farith .mul .f32 (x.u 24) (x.u 25)) (x.u 26)) (x.u 21))) 1065353216) then 1065353216 else (farith .add .f32 (farith .add .f32 (farith .add .f32 (farith .add .f32 (farith .add .f32 (farith .add .f32 (farith .add .f32 (farith .mul .f32 (farith .mul .f32 (farith .mul .f32 (farith .sub .f32 1065353216 (x.u 24)) (farith .sub .f32 1065353216 (x.u 25))) (farith .sub .f32 1065353216 (x.u 26))) (x.u 0)) (farith .mul .f32 (farith .mul .f32 (farith .mul .f32 (x.u 24) (farith .sub .f32 1065353216 (x.u 25))) (farith .sub .f32 1065353216 (x.u 26))) (x.u 3))) (farith .mul .f32 (farith .mul .f32 (farith .mul .f32 (farith .sub .f32 1065353216 (x.u 24)) (x.u 25)) (farith .sub .f32 1065353216 (x.u 26))) (x.u 6))) (farith .mul .f32 (farith .mul .f32 (farith .mul .f32 (x.u 24) (x.u 25)) (farith .sub .f32 1065353216 (x.u 26))) (x.u 9))) (farith .mul .f32 (farith .mul .f32 (farith .mul .f32 (farith .sub .f32 1065353216 (x.u 24)) (farith .sub .f32 1065353216 (x.u 25))) (x.u 26)) (x.u 12))) (farith .mul .f32 (farith .mul .f32 (farith .mul .f32 (x.u 24) (farith .sub .f32 1065353216 (x.u 25))) (x.u 26)) (x.u 15))) (farith .mul .f32 (farith .mul .f32 (farith .mul .f32 (farith .sub .f32 1065353216 (x.u 24)) (x.u 25)) (x.u 26)) (x.u 18))) (farith .mul .f32 (farith .mul .f32 (farith .mul .f32 (x.u 24) (x.u 25)) (x.u 26)) (x.u 21))))), .flt .f32 ((bif (fcmp .gtr .f32 (farith .add .f32 (farith .add .f32 (farith .add .f32 (farith .add .f32 (farith .add .f32 (farith .add .f32 (farith .add .f32 (farith .mul .f32 (farith .mul .f32 (farith .mul .f32 (farith .sub .f32 1065353216 (x.u 24)) (farith .sub .f32 1065353216 (x.u 25))) (farith .sub .f32 1065353216 (x.u 26))) (x.u 1)) (farith .mul .f32 (farith .mul .f32 (farith .mul .f32 (x.u 24) (farith .sub .f32 1065353216 (x.u 25))) (farith .sub .f32 1065353216 (x.u 26))) (x.u 4))) (farith .mul .f32 (farith .mul .f32 (farith .mul .f32 (farith .sub .f32 1065353216 (x.u 24)) (x.u 25)) (farith .sub .f32 1065353216 (x.u 26))) (x.u 7))) (farith .mul .f32 (farith .mul .f32 (farith .mul .f32 (x.u 24) (x.u 25)) (farith .sub .f32 1065353216 (x.u 26))) (x.u 10))) (farith .mul .f32 (farith .mul .f32 (farith .mul .f32 (farith .sub .f32 1065353216 (x.u 24)) (farith .sub .f32 1065353216 (x.u 25))) (x.u 26)) (x.u 13))) (farith .mul .f32 (farith .mul .f32 (farith .mul .f32 (x.u 24) (farith .sub .f32 1065353216 (x.u 25))) (x.u 26)) (x.u 16))) (farith .mul .f32 (farith .mul .f32 (farith .mul .f32 (farith .sub .f32 1065353216 (x.u 24)) (x.u 25)) (x.u 26)) (x.u 19))) (farith .mul .f32 (farith .mul .f32 (farith .mul .f32 (x.u 24) (x.u 25)) (x.u 26)) (x.u 22))) 1065353216) then 1065353216 else (farith .add .f32 (farith .add .f32 (farith .add .f32 (farith .add .f32 (farith .add .f32 (farith .add .f32 (farith .add .f32 (farith .mul .f32 (farith .mul .f32 (farith .mul .f32 (farith .sub .f32 1065353216 (x.u 24)) (farith .sub .f32 1065353216 (x.u 25))) (farith .sub .f32 1065353216 (x.u 26))) (x.u 1)) (farith .mul .f32 (farith .mul .f32 (farith .mul .f32 (x.u 24) (farith .sub .f32 1065353216 (x.u 25))) (farith .sub .f32 1065353216 (x.u 26))) (x.u 4))) (farith .mul .f32 (farith .mul .f32 (farith .mul .f32 (farith .sub .f32 1065353216 (x.u 24)) (x.u 25)) (farith .sub .f32 1065353216 (x.u 26))) (x.u 7))) (farith .mul .f32 (farith .mul .f32 (farith .mul .f32 (x.u 24) (x.u 25)) (farith .sub .f32 1065353216 (x.u 26))) (x.u 10))) (farith .mul .f32 (farith .mul .f32 (farith .mul .f32 (farith .sub .f32 1065353216 (x.u 24)) (farith .sub .f32 1065353216 (x.u 25))) (x.u 26)) (x.u 13))) (farith .mul .f32 (farith .mul .f32 (farith .mul .f32 (x.u 24) (farith .sub .f32 1065353216 (x.u 25))) (x.u 26)) (x.u 16))) (farith .mul .f32 (farith .mul .f32 (farith .mul .f32 (farith .sub .f32 1065353216 (x.u 24)) (x.u 25)) (x.u 26)) (x.u 19))) (farith .mul .f32 (farith .mul .f32 (farith .mul .f32 (x.u 24) (x.u 25)) (x.u 26)) (x.u 22))))), .flt .f32 ((bif (fcmp .gtr .f32 (farith .add .f32 (farith .add .f32 (farith .add .f32 (farith .add .f32 (farith .add .f32 (farith .add .f32 (farith .add .f32 (farith .mul .f32 (farith .mul .f32 (farith .mul .f32 (farith .sub .f32 1065353216 (x.u 24)) (farith .sub .f32 1065353216 (x.u 25))) (farith .sub .f32 1065353216 (x.u 26))) (x.u 2)) (farith .mul .f32 (farith .mul .f32 (farith .mul .f32 (x.u 24) (farith .sub .f32 1065353216 (x.u 25))) (farith .sub .f32 1065353216 (x.u 26))) (x.u 5))) (farith .mul .f32 (farith .mul .f32 (farith .mul .f32 (farith .sub .f32 1065353216 (x.u 24)) (x.u 25)) (farith .sub .f32 1065353216 (x.u 26))) (x.u 8))) (farith .mul .f32 (farith .mul .f32 (farith .mul .f32 (x.u 24) (x.u 25)) (farith .sub .f32 1065353216 (x.u 26))) (x.u 11))) (farith .mul .f32 (farith .mul .f32 (farith .mul .f32 (farith .sub .f32 1065353216 (x.u 24)) (farith .sub .f32 1065353216 (x.u 25))) (x.u 26)) (x.u 14))) (farith .mul .f32 (farith .mul .f32 (farith .mul .f32 (x.u 24) (farith .sub .f32 1065353216 (x.u 25))) (x.u 26)) (x.u 17))) (farith .mul .f32 (farith .mul .f32 (farith .mul .f32 (farith .sub .f32 1065353216 (x.u 24)) (x.u 25)) (x.u 26)) (x.u 20))) (farith .mul .f32 (farith .mul .f32 (farith .mul .f32 (x.u 24) (x.u 25)) (x.u 26)) (x.u 23))) 1065353216) then 1065353216 else (farith .add .f32 (farith .add .f32 (farith .add .f32 (farith .add .f32 (farith .add .f32 (farith .add .f32 (farith .add .f32 (farith .mul .f32 (farith .mul .f32 (farith .mul .f32 (farith .sub .f32 1065353216 (x.u 24)) (farith .sub .f32 1065353216 (x.u 25))) (farith .sub .f32 1065353216 (x.u 26))) (x.u 2)) (farith .mul .f32 (farith .mul .f32 (farith .mul .f32 (x.u 24) (farith .sub .f32 1065353216 (x.u 25))) (farith .sub .f32 1065353216 (x.u 26))) (x.u 5))) (farith .mul .f32 (farith .mul .f32 (farith .mul .f32 (farith .sub .f32 1065353216 (x.u 24)) (x.u 25)) (farith .sub .f32 1065353216 (x.u 26))) (x.u 8))) (farith .mul .f32 (farith .mul .f32 (farith .mul .f32 (x.u 24) (x.u 25)) (farith .sub .f32 1065353216 (x.u 26))) (x.u 11))) (farith .mul .f32 (farith .mul .f32 (farith .mul .f32 (farith .sub .f32 1065353216 (x.u 24)) (farith .sub .f32 1065353216 (x.u 25))) (x.u 26)) (x.u 14))) (farith .mul .f32 (farith .mul .f32 (farith .mul .f32 (x.u 24) (farith .sub .f32 1065353216 (x.u 25))) (x.u 26)) (x.u 17))) (farith .mul .f32 (farith .mul .f32 (farith .mul .f32 (farith .sub .f32 1065353216 (x.u 24)) (x.u 25)) (x.u 26)) (x.u 20))) (farith .mul .f32 (farith .mul .f32 (farith .mul .f32 (x.u 24) (x.u 25)) (x.u 26)) (x.u 23)))))], true, []) := by kernel_rfl

set_option maxRecDepth 100000 in
theorem colour_e68 (x : Vars) : (funA Try.prog G17 1000 68 (argsP [.ptr kd2, .val (.ag kd1)] 0 (mkL x 0 (kdsP [.ptr kd2, .val (.ag kd1)]))) (memP [.ptr kd2, .val (.ag kd1)] (mkL x 0 (kdsP [.ptr kd2, .val (.ag kd1)]))) []).map (fun r => (normR r.1, untupR r.1 && r.1.flat, r.2)) = some (mkR (colourR0 (mkL x 0 (kdsP [.ptr kd2, .val (.ag kd1)]))) [.ag kd1], true, []) := by
  rw [colour_f68, colour_x]


theorem colour_ev68 (x : Vars) : EvP Try.prog G17 68 [.ptr kd2, .val (.ag kd1)] [.ag kd1] (mkL x 0 (kdsP [.ptr kd2, .val (.ag kd1)])) (colourR0 (mkL x 0 (kdsP [.ptr kd2, .val (.ag kd1)]))) := EvP.of (mkL_norm ..) (colour_e68 x) fun _ h => by cases h

theorem colour_f69 (x : Vars) : (funA Try.prog G17 1000 69 (argsP [.val (.ag kd2), .val (.ag kd1)] 0 (mkL x 0 (kdsP [.ptr kd2, .val (.ag kd1)]))) (memP [.val (.ag kd2), .val (.ag kd1)] (mkL x 0 (kdsP [.ptr kd2, .val (.ag kd1)]))) []).map (fun r => (normR r.1, untupR r.1 && r.1.flat, r.2)) = some (.agg [.flt .f32 ((fmin .f32 (farith .add .f32 (farith .add .f32 (farith .add .f32 (farith .add .f32 (farith .add .f32 (farith .add .f32 (farith .add .f32 (farith .mul .f32 (farith .mul .f32 (farith .mul .f32 (farith .sub .f32 1065353216 (x.u 24)) (farith .sub .f32 1065353216 (x.u 25))) (farith .sub .f32 1065353216 (x.u 26))) (x.u 0)) (farith .mul .f32 (farith .mul .f32 (farith .mul .f32 (x.u 24) (farith .sub .f32 1065353216 (x.u 25))) (farith .sub .f32 1065353216 (x.u 26))) (x.u 3))) (farith .mul .f32 (farith .mul .f32 (farith .mul .f32 (farith .sub .f32 1065353216 (x.u 24)) (x.u 25)) (farith .sub .f32 1065353216 (x.u 26))) (x.u 6))) (farith .mul .f32 (farith .mul .f32 (farith .mul .f32 (x.u 24) (x.u 25)) (farith .sub .f32 1065353216 (x.u 26))) (x.u 9))) (farith .mul .f32 (farith .mul .f32 (farith .mul .f32 (farith .sub .f32 1065353216 (x.u 24)) (farith .sub .f32 1065353216 (x.u 25))) (x.u 26)) (x.u 12))) (farith .mul .f32 (farith .mul .f32 (farith .mul .f32 (x.u 24) (farith .sub .f32 1065353216 (x.u 25))) (x.u 26)) (x.u 15))) (farith .mul .f32 (farith .mul .f32 (farith .mul .f32 (farith .sub .f32 1065353216 (x.u 24)) (x.u 25)) (x.u 26)) (x.u 18))) (farith .mul .f32 (farith .mul .f32 (farith .mul .f32 (x.u 24) (x.u 25)) (x.u 26)) (x.u 21))) 1065353216)), .flt .f32 ((fmin .f32 (farith .add .f32 (farith .add .f32 (farith .add .f32 (farith .add .f32 (farith .add .f32 (farith .add .f32 (farith .add .f32 (farith .mul .f32 (farith .mul .f32 (farith .mul .f32 (farith .sub .f32 1065353216 (x.u 24)) (farith .sub .f32 1065353216 (x.u 25))) (farith .sub .f32 1065353216 (x.u 26))) (x.u 1)) (farith .mul .f32 (farith .mul .f32 (farith .mul .f32 (x.u 24) (farith .sub .f32 1065353216 (x.u 25))) (farith .sub .f32 1065353216 (x.u 26))) (x.u 4))) (farith .mul .f32 (farith .mul .f32 (farith .mul .f32 (farith .sub .f32 1065353216 (x.u 24)) (x.u 25)) (farith .sub .f32 1065353216 (x.u 26))) (x.u 7))) (farith .mul .f32 (farith .mul .f32 (farith .mul .f32 (x.u 24) (x.u 25)) (farith .sub .f32 1065353216 (x.u 26))) (x.u 10))) (farith .mul .f32 (farith .mul .f32 (farith .mul .f32 (farith .sub .f32 1065353216 (x.u 24)) (farith .sub .f32 1065353216 (x.u 25))) (x.u 26)) (x.u 13))) (farith .mul .f32 (farith .mul .f32 (farith .mul .f32 (x.u 24) (farith .sub .f32 1065353216 (x.u 25))) (x.u 26)) (x.u 16))) (farith .mul .f32 (farith .mul .f32 (farith .mul .f32 (farith .sub .f32 1065353216 (x.u 24)) (x.u 25)) (x.u 26)) (x.u 19))) (farith .mul .f32 (farith .mul .f32 (farith .mul .f32 (x.u 24) (x.u 25)) (x.u 26)) (x.u 22))) 1065353216)), .flt .f32 ((fmin .f32 (farith .add .f32 (farith .add .f32 (farith .add .f32 (farith .add .f32 (farith .add .f32 (farith .add .f32 (farith .add .f32 (farith .mul .f32 (farith .mul .f32 (farith .mul .f32 (farith .sub .f32 1065353216 (x.u 24)) (farith .sub .f32 1065353216 (x.u 25))) (farith .sub .f32 1065353216 (x.u 26))) (x.u 2)) (farith .mul .f32 (farith .mul .f32 (farith .mul .f32 (x.u 24) (farith .sub .f32 1065353216 (x.u 25))) (farith .sub .f32 1065353216 (x.u 26))) (x.u 5))) (farith .mul .f32 (farith .mul .f32 (farith .mul .f32 (farith .sub .f32 1065353216 (x.u 24)) (x.u 25)) (farith .sub .f32 1065353216 (x.u 26))) (x.u 8))) (farith .mul .f32 (farith .mul .f32 (farith .mul .f32 (x.u 24) (x.u 25)) (farith .sub .f32 1065353216 (x.u 26))) (x.u 11))) (farith .mul .f32 (farith .mul .f32 (farith .mul .f32 (farith .sub .f32 1065353216 (x.u 24)) (farith .sub .f32 1065353216 (x.u 25))) (x.u 26)) (x.u 14))) (farith .mul .f32 (farith .mul .f32 (farith .mul .f32 (x.u 24) (farith .sub .f32 1065353216 (x.u 25))) (x.u 26)) (x.u 17))) (farith .mul .f32 (farith .mul .f32 (farith .mul .f32 (farith .sub .f32 1065353216 (x.u 24)) (x.u 25)) (x.u 26)) (x.u 20))) (farith .mul .f32 (farith .mul .f32 (farith .mul .f32 (x.u 24) (x.u 25)) (x.u 26)) (x.u 23))) 1065353216))], true, []) := by kernel_rfl

set_option maxRecDepth 100000 in
theorem colour_e69 (x : Vars) : (funA Try.prog G17 1000 69 (argsP [.val (.ag kd2), .val (.ag kd1)] 0 (mkL x 0 (kdsP [.ptr kd2, .val (.ag kd1)]))) (memP [.val (.ag kd2), .val (.ag kd1)] (mkL x 0 (kdsP [.ptr kd2, .val (.ag kd1)]))) []).map (fun r => (normR r.1, untupR r.1 && r.1.flat, r.2)) = some (mkR (colourR0 (mkL x 0 (kdsP [.ptr kd2, .val (.ag kd1)]))) [.ag kd1], true, []) := by
  rw [colour_f69, colour_x]
  simp only [fmin_one]

theorem colour_ev69 (x : Vars) : EvP Try.prog G17 69 [.val (.ag kd2), .val (.ag kd1)] [.ag kd1] (mkL x 0 (kdsP [.ptr kd2, .val (.ag kd1)])) (colourR0 (mkL x 0 (kdsP [.ptr kd2, .val (.ag kd1)]))) := EvP.of (mkL_norm ..) (colour_e69 x) fun _ h => by cases h

noncomputable def G18 : Summ := addG 68 (sumP [.ptr kd2, .val (.ag kd1)] [.ag kd1] (fun _ => []) colourR) G17

theorem G18_ok : SoundG Try.prog G18 := SoundG.sumP G17_ok mixed Try.call68 G17_ok (fun x hx hp => by rw [colourR_eq]; exact (fun x _ _ => colour_ev68 x) x hx hp)

noncomputable def G19 : Summ := addG 69 (sumP [.val (.ag kd2), .val (.ag kd1)] [.ag kd1] (fun _ => []) colourR) G18

theorem G19_ok : SoundG Try.prog G19 := SoundG.sumP G18_ok mixed Try.call69 G17_ok (fun x hx hp => by rw [colourR_eq]; exact (fun x _ _ => colour_ev69 x) x hx hp)

end Go.Proofs.Ytigcbcaknhhgmaa

/-
  Facts of this seat that its laws use; no conditions.
-/
import Derived.Test.YtdagaggpaohmcaaOff
namespace Go.Proofs.Ytdagaggpaohmcaa
open Go.Sim Go.ChangeShapes Go.WideShapes Go.ChangeAt Go.RowKit

noncomputable def G20 : Summ := inlGs Try.prog 1000 [78] G19

theorem G20_ok : SoundG Try.prog G20 := by
  refine SoundG.inls mixed G19_ok fun f hf => ?_
  simp only [List.mem_cons, List.not_mem_nil, or_false] at hf
  subst hf
  exact Try.call78

noncomputable def isFilmR0 (l : List AV) : Vars := outV (funA Try.prog G20 1000 85 (argsP [.val (.sc (.flt .f32))] 0 l) (memP [.val (.sc (.flt .f32))] l) [])

noncomputable def isFilmR : List AV → Vars := Classical.choose (⟨isFilmR0, rfl⟩ : ∃ f, f = isFilmR0)

theorem isFilmR_eq : isFilmR = isFilmR0 := Classical.choose_spec (⟨isFilmR0, rfl⟩ : ∃ f, f = isFilmR0)

theorem isFilm_x (x : Vars) : mkR (isFilmR0 (mkL x 0 (kdsP [.val (.sc (.flt .f32))]))) [.sc (.bool)] = .sbool (((fcmp .geq .f32 (x.u 0) 0) && (fcmp .leq .f32 (x.u 0) 1233125376))) := by kernel_rfl

theorem isFilm_f85 (x : Vars) : (funA Try.prog G20 1000 85 (argsP [.val (.sc (.flt .f32))] 0 (mkL x 0 (kdsP [.val (.sc (.flt .f32))]))) (memP [.val (.sc (.flt .f32))] (mkL x 0 (kdsP [.val (.sc (.flt .f32))]))) []).map (fun r => (normR r.1, untupR r.1 && r.1.flat, r.2)) = some (.sbool (((fcmp .geq .f32 (x.u 0) 0) && (fcmp .leq .f32 (x.u 0) 1233125376))), true, []) := by kernel_rfl

set_option maxRecDepth 100000 in
theorem isFilm_e85 (x : Vars) : (funA Try.prog G20 1000 85 (argsP [.val (.sc (.flt .f32))] 0 (mkL x 0 (kdsP [.val (.sc (.flt .f32))]))) (memP [.val (.sc (.flt .f32))] (mkL x 0 (kdsP [.val (.sc (.flt .f32))]))) []).map (fun r => (normR r.1, untupR r.1 && r.1.flat, r.2)) = some (mkR (isFilmR0 (mkL x 0 (kdsP [.val (.sc (.flt .f32))]))) [.sc (.bool)], true, []) := by
  rw [isFilm_f85, isFilm_x]


theorem isFilm_ev85 (x : Vars) : EvP Try.prog G20 85 [.val (.sc (.flt .f32))] [.sc (.bool)] (mkL x 0 (kdsP [.val (.sc (.flt .f32))])) (isFilmR0 (mkL x 0 (kdsP [.val (.sc (.flt .f32))]))) := EvP.of (mkL_norm ..) (isFilm_e85 x) fun _ h => by cases h

theorem isFilm_f86 (x : Vars) : (funA Try.prog G20 1000 86 (argsP [.val (.sc (.flt .f32))] 0 (mkL x 0 (kdsP [.val (.sc (.flt .f32))]))) (memP [.val (.sc (.flt .f32))] (mkL x 0 (kdsP [.val (.sc (.flt .f32))]))) []).map (fun r => (normR r.1, untupR r.1 && r.1.flat, r.2)) = some (.sbool (((fcmp .geq .f32 (x.u 0) 0) && (fcmp .leq .f32 (x.u 0) 1233125376))), true, []) := by kernel_rfl

set_option maxRecDepth 100000 in
theorem isFilm_e86 (x : Vars) : (funA Try.prog G20 1000 86 (argsP [.val (.sc (.flt .f32))] 0 (mkL x 0 (kdsP [.val (.sc (.flt .f32))]))) (memP [.val (.sc (.flt .f32))] (mkL x 0 (kdsP [.val (.sc (.flt .f32))]))) []).map (fun r => (normR r.1, untupR r.1 && r.1.flat, r.2)) = some (mkR (isFilmR0 (mkL x 0 (kdsP [.val (.sc (.flt .f32))]))) [.sc (.bool)], true, []) := by
  rw [isFilm_f86, isFilm_x]


theorem isFilm_ev86 (x : Vars) : EvP Try.prog G20 86 [.val (.sc (.flt .f32))] [.sc (.bool)] (mkL x 0 (kdsP [.val (.sc (.flt .f32))])) (isFilmR0 (mkL x 0 (kdsP [.val (.sc (.flt .f32))]))) := EvP.of (mkL_norm ..) (isFilm_e86 x) fun _ h => by cases h

noncomputable def G21 : Summ := addG 85 (sumP [.val (.sc (.flt .f32))] [.sc (.bool)] (fun _ => []) isFilmR) G20

theorem G21_ok : SoundG Try.prog G21 := SoundG.sumP G20_ok mixed Try.call85 G20_ok (fun x hx hp => by rw [isFilmR_eq]; exact (fun x _ _ => isFilm_ev85 x) x hx hp)

noncomputable def G22 : Summ := addG 86 (sumP [.val (.sc (.flt .f32))] [.sc (.bool)] (fun _ => []) isFilmR) G21

theorem G22_ok : SoundG Try.prog G22 := SoundG.sumP G21_ok mixed Try.call86 G20_ok (fun x hx hp => by rw [isFilmR_eq]; exact (fun x _ _ => isFilm_ev86 x) x hx hp)

noncomputable def G23 : Summ := inlGs Try.prog 1000 [78] G22

theorem G23_ok : SoundG Try.prog G23 := by
  refine SoundG.inls mixed G22_ok fun f hf => ?_
  simp only [List.mem_cons, List.not_mem_nil, or_false] at hf
  subst hf
  exact Try.call78

noncomputable def isKeyR0 (l : List AV) : Vars := outV (funA Try.prog G23 1000 51 (argsP [.val (.sc (.flt .f32))] 0 l) (memP [.val (.sc (.flt .f32))] l) [])

noncomputable def isKeyR : List AV → Vars := Classical.choose (⟨isKeyR0, rfl⟩ : ∃ f, f = isKeyR0)

theorem isKeyR_eq : isKeyR = isKeyR0 := Classical.choose_spec (⟨isKeyR0, rfl⟩ : ∃ f, f = isKeyR0)

theorem isKey_x (x : Vars) : mkR (isKeyR0 (mkL x 0 (kdsP [.val (.sc (.flt .f32))]))) [.sc (.bool)] = .sbool (((fcmp .geq .f32 (x.u 0) 0) && (fcmp .leq .f32 (x.u 0) 1098907648))) := by kernel_rfl

theorem isKey_f51 (x : Vars) : (funA Try.prog G23 1000 51 (argsP [.val (.sc (.flt .f32))] 0 (mkL x 0 (kdsP [.val (.sc (.flt .f32))]))) (memP [.val (.sc (.flt .f32))] (mkL x 0 (kdsP [.val (.sc (.flt .f32))]))) []).map (fun r => (normR r.1, untupR r.1 && r.1.flat, r.2)) = some (.sbool (((fcmp .geq .f32 (x.u 0) 0) && (fcmp .leq .f32 (x.u 0) 1098907648))), true, []) := by kernel_rfl

set_option maxRecDepth 100000 in
theorem isKey_e51 (x : Vars) : (funA Try.prog G23 1000 51 (argsP [.val (.sc (.flt .f32))] 0 (mkL x 0 (kdsP [.val (.sc (.flt .f32))]))) (memP [.val (.sc (.flt .f32))] (mkL x 0 (kdsP [.val (.sc (.flt .f32))]))) []).map (fun r => (normR r.1, untupR r.1 && r.1.flat, r.2)) = some (mkR (isKeyR0 (mkL x 0 (kdsP [.val (.sc (.flt .f32))]))) [.sc (.bool)], true, []) := by
  rw [isKey_f51, isKey_x]


theorem isKey_ev51 (x : Vars) : EvP Try.prog G23 51 [.val (.sc (.flt .f32))] [.sc (.bool)] (mkL x 0 (kdsP [.val (.sc (.flt .f32))])) (isKeyR0 (mkL x 0 (kdsP [.val (.sc (.flt .f32))]))) := EvP.of (mkL_norm ..) (isKey_e51 x) fun _ h => by cases h

theorem isKey_f62 (x : Vars) : (funA Try.prog G23 1000 62 (argsP [.val (.sc (.flt .f32))] 0 (mkL x 0 (kdsP [.val (.sc (.flt .f32))]))) (memP [.val (.sc (.flt .f32))] (mkL x 0 (kdsP [.val (.sc (.flt .f32))]))) []).map (fun r => (normR r.1, untupR r.1 && r.1.flat, r.2)) = some (.sbool (((fcmp .geq .f32 (x.u 0) 0) && (fcmp .leq .f32 (x.u 0) 1098907648))), true, []) := by kernel_rfl

set_option maxRecDepth 100000 in
theorem isKey_e62 (x : Vars) : (funA Try.prog G23 1000 62 (argsP [.val (.sc (.flt .f32))] 0 (mkL x 0 (kdsP [.val (.sc (.flt .f32))]))) (memP [.val (.sc (.flt .f32))] (mkL x 0 (kdsP [.val (.sc (.flt .f32))]))) []).map (fun r => (normR r.1, untupR r.1 && r.1.flat, r.2)) = some (mkR (isKeyR0 (mkL x 0 (kdsP [.val (.sc (.flt .f32))]))) [.sc (.bool)], true, []) := by
  rw [isKey_f62, isKey_x]


theorem isKey_ev62 (x : Vars) : EvP Try.prog G23 62 [.val (.sc (.flt .f32))] [.sc (.bool)] (mkL x 0 (kdsP [.val (.sc (.flt .f32))])) (isKeyR0 (mkL x 0 (kdsP [.val (.sc (.flt .f32))]))) := EvP.of (mkL_norm ..) (isKey_e62 x) fun _ h => by cases h

noncomputable def G24 : Summ := addG 51 (sumP [.val (.sc (.flt .f32))] [.sc (.bool)] (fun _ => []) isKeyR) G23

theorem G24_ok : SoundG Try.prog G24 := SoundG.sumP G23_ok mixed Try.call51 G23_ok (fun x hx hp => by rw [isKeyR_eq]; exact (fun x _ _ => isKey_ev51 x) x hx hp)

noncomputable def G25 : Summ := addG 62 (sumP [.val (.sc (.flt .f32))] [.sc (.bool)] (fun _ => []) isKeyR) G24

theorem G25_ok : SoundG Try.prog G25 := SoundG.sumP G24_ok mixed Try.call62 G23_ok (fun x hx hp => by rw [isKeyR_eq]; exact (fun x _ _ => isKey_ev62 x) x hx hp)

noncomputable def validSettingR0 (l : List AV) : Vars := outV (funA Try.prog G25 1000 17 (argsP [.val (.ag kd4)] 0 l) (memP [.val (.ag kd4)] l) [])

noncomputable def validSettingR : List AV → Vars := Classical.choose (⟨validSettingR0, rfl⟩ : ∃ f, f = validSettingR0)

theorem validSettingR_eq : validSettingR = validSettingR0 := Classical.choose_spec (⟨validSettingR0, rfl⟩ : ∃ f, f = validSettingR0)

theorem validSetting_x (x : Vars) : mkR (validSettingR0 (mkL x 0 (kdsP [.val (.ag kd4)]))) [.sc (.bool)] = .sbool ((bif ((!((isPartR [(.flt .f32 (x.u 0))]).b 0)) || (!((isKeyR [(.flt .f32 (x.u 8))]).b 0))) then false else (bif ((!((isPartR [(.flt .f32 (x.u 1))]).b 0)) || (!((isKeyR [(.flt .f32 (x.u 9))]).b 0))) then false else (bif ((!((isPartR [(.flt .f32 (x.u 2))]).b 0)) || (!((isKeyR [(.flt .f32 (x.u 10))]).b 0))) then false else (bif ((!((isPartR [(.flt .f32 (x.u 3))]).b 0)) || (!((isKeyR [(.flt .f32 (x.u 11))]).b 0))) then false else (bif ((!((isPartR [(.flt .f32 (x.u 4))]).b 0)) || (!((isKeyR [(.flt .f32 (x.u 12))]).b 0))) then false else (bif ((!((isPartR [(.flt .f32 (x.u 5))]).b 0)) || (!((isKeyR [(.flt .f32 (x.u 13))]).b 0))) then false else (bif ((!((isPartR [(.flt .f32 (x.u 6))]).b 0)) || (!((isKeyR [(.flt .f32 (x.u 14))]).b 0))) then false else (bif ((!((isPartR [(.flt .f32 (x.u 7))]).b 0)) || (!((isKeyR [(.flt .f32 (x.u 15))]).b 0))) then false else ((((((fcmp .gtr .f32 (x.u 16) 0) && (fcmp .leq .f32 (x.u 16) 1098907648)) && (fcmp .gtr .f32 (x.u 17) 0)) && (fcmp .leq .f32 (x.u 17) 1082130432)) && (decide (1 ≤ (x.i 18)))) && (decide ((x.i 18) ≤ 50)))))))))))) := by kernel_rfl

theorem validSetting_f17 (x : Vars) : (funA Try.prog G25 1000 17 (argsP [.val (.ag kd4)] 0 (mkL x 0 (kdsP [.val (.ag kd4)]))) (memP [.val (.ag kd4)] (mkL x 0 (kdsP [.val (.ag kd4)]))) []).map (fun r => (normR r.1, untupR r.1 && r.1.flat, r.2)) = some (.sbool ((bif ((!((isPartR [(.flt .f32 (x.u 0))]).b 0)) || (!((isKeyR [(.flt .f32 (x.u 8))]).b 0))) then false else (bif ((!((isPartR [(.flt .f32 (x.u 1))]).b 0)) || (!((isKeyR [(.flt .f32 (x.u 9))]).b 0))) then false else (bif ((!((isPartR [(.flt .f32 (x.u 2))]).b 0)) || (!((isKeyR [(.flt .f32 (x.u 10))]).b 0))) then false else (bif ((!((isPartR [(.flt .f32 (x.u 3))]).b 0)) || (!((isKeyR [(.flt .f32 (x.u 11))]).b 0))) then false else (bif ((!((isPartR [(.flt .f32 (x.u 4))]).b 0)) || (!((isKeyR [(.flt .f32 (x.u 12))]).b 0))) then false else (bif ((!((isPartR [(.flt .f32 (x.u 5))]).b 0)) || (!((isKeyR [(.flt .f32 (x.u 13))]).b 0))) then false else (bif ((!((isPartR [(.flt .f32 (x.u 6))]).b 0)) || (!((isKeyR [(.flt .f32 (x.u 14))]).b 0))) then false else (bif ((!((isPartR [(.flt .f32 (x.u 7))]).b 0)) || (!((isKeyR [(.flt .f32 (x.u 15))]).b 0))) then false else ((((((fcmp .gtr .f32 (x.u 16) 0) && (fcmp .leq .f32 (x.u 16) 1098907648)) && (fcmp .gtr .f32 (x.u 17) 0)) && (fcmp .leq .f32 (x.u 17) 1082130432)) && (decide (1 ≤ (x.i 18)))) && (decide ((x.i 18) ≤ 50)))))))))))), true, []) := by kernel_rfl

set_option maxRecDepth 100000 in
theorem validSetting_e17 (x : Vars) : (funA Try.prog G25 1000 17 (argsP [.val (.ag kd4)] 0 (mkL x 0 (kdsP [.val (.ag kd4)]))) (memP [.val (.ag kd4)] (mkL x 0 (kdsP [.val (.ag kd4)]))) []).map (fun r => (normR r.1, untupR r.1 && r.1.flat, r.2)) = some (mkR (validSettingR0 (mkL x 0 (kdsP [.val (.ag kd4)]))) [.sc (.bool)], true, []) := by
  rw [validSetting_f17, validSetting_x]


theorem validSetting_ev17 (x : Vars) : EvP Try.prog G25 17 [.val (.ag kd4)] [.sc (.bool)] (mkL x 0 (kdsP [.val (.ag kd4)])) (validSettingR0 (mkL x 0 (kdsP [.val (.ag kd4)]))) := EvP.of (mkL_norm ..) (validSetting_e17 x) fun _ h => by cases h

theorem validSetting_f49 (x : Vars) : (funA Try.prog G25 1000 49 (argsP [.ptr kd4] 0 (mkL x 0 (kdsP [.val (.ag kd4)]))) (memP [.ptr kd4] (mkL x 0 (kdsP [.val (.ag kd4)]))) []).map (fun r => (normR r.1, untupR r.1 && r.1.flat, r.2)) = some (.sbool ((bif ((!((isPartR [(.flt .f32 (x.u 0))]).b 0)) || (!((isKeyR [(.flt .f32 (x.u 8))]).b 0))) then false else (bif ((!((isPartR [(.flt .f32 (x.u 1))]).b 0)) || (!((isKeyR [(.flt .f32 (x.u 9))]).b 0))) then false else (bif ((!((isPartR [(.flt .f32 (x.u 2))]).b 0)) || (!((isKeyR [(.flt .f32 (x.u 10))]).b 0))) then false else (bif ((!((isPartR [(.flt .f32 (x.u 3))]).b 0)) || (!((isKeyR [(.flt .f32 (x.u 11))]).b 0))) then false else (bif ((!((isPartR [(.flt .f32 (x.u 4))]).b 0)) || (!((isKeyR [(.flt .f32 (x.u 12))]).b 0))) then false else (bif ((!((isPartR [(.flt .f32 (x.u 5))]).b 0)) || (!((isKeyR [(.flt .f32 (x.u 13))]).b 0))) then false else (bif ((!((isPartR [(.flt .f32 (x.u 6))]).b 0)) || (!((isKeyR [(.flt .f32 (x.u 14))]).b 0))) then false else (bif ((!((isPartR [(.flt .f32 (x.u 7))]).b 0)) || (!((isKeyR [(.flt .f32 (x.u 15))]).b 0))) then false else ((((((fcmp .gtr .f32 (x.u 16) 0) && (fcmp .leq .f32 (x.u 16) 1098907648)) && (fcmp .gtr .f32 (x.u 17) 0)) && (fcmp .leq .f32 (x.u 17) 1082130432)) && (decide (1 ≤ (x.i 18)))) && (decide ((x.i 18) ≤ 50)))))))))))), true, []) := by kernel_rfl

set_option maxRecDepth 100000 in
theorem validSetting_e49 (x : Vars) : (funA Try.prog G25 1000 49 (argsP [.ptr kd4] 0 (mkL x 0 (kdsP [.val (.ag kd4)]))) (memP [.ptr kd4] (mkL x 0 (kdsP [.val (.ag kd4)]))) []).map (fun r => (normR r.1, untupR r.1 && r.1.flat, r.2)) = some (mkR (validSettingR0 (mkL x 0 (kdsP [.val (.ag kd4)]))) [.sc (.bool)], true, []) := by
  rw [validSetting_f49, validSetting_x]


theorem validSetting_ev49 (x : Vars) : EvP Try.prog G25 49 [.ptr kd4] [.sc (.bool)] (mkL x 0 (kdsP [.val (.ag kd4)])) (validSettingR0 (mkL x 0 (kdsP [.val (.ag kd4)]))) := EvP.of (mkL_norm ..) (validSetting_e49 x) fun _ h => by cases h

noncomputable def G26 : Summ := addG 17 (sumP [.val (.ag kd4)] [.sc (.bool)] (fun _ => []) validSettingR) G25

theorem G26_ok : SoundG Try.prog G26 := SoundG.sumP G25_ok mixed Try.call17 G25_ok (fun x hx hp => by rw [validSettingR_eq]; exact (fun x _ _ => validSetting_ev17 x) x hx hp)

noncomputable def G27 : Summ := addG 49 (sumP [.ptr kd4] [.sc (.bool)] (fun _ => []) validSettingR) G26

theorem G27_ok : SoundG Try.prog G27 := SoundG.sumP G26_ok mixed Try.call49 G25_ok (fun x hx hp => by rw [validSettingR_eq]; exact (fun x _ _ => validSetting_ev49 x) x hx hp)

noncomputable def askedB0 (l : List AV) : Bool := ((!((validUnitR (l.take 129)).b 0)) || (!((validSettingR ((l.drop 129).take 19)).b 0)))

theorem orF2 {a b : Bool} (h : ((!a) || (!b)) = false) : a = true ∧ b = true := by
  revert h
  cases a <;> cases b <;> intro h <;> first | exact ⟨rfl, rfl⟩ | cases h

theorem askedVal (x : Vars) (h0 : askedB0 (mkL x 0 (kdsP [.val (.ag kd2), .val (.ag kd4), .slc kd3 1 8])) = false) : (validUnitR (mkL x 0 (kdsP [.val (.ag kd2)]))).b 0 = true ∧ (validSettingR (List.take 19 (List.drop 129 (mkL x 0 (kdsP [.val (.ag kd2), .val (.ag kd4), .slc kd3 1 8]))))).b 0 = true :=
  orF2 ((show ((!((validUnitR (mkL x 0 (kdsP [.val (.ag kd2)]))).b 0)) || (!((validSettingR (List.take 19 (List.drop 129 (mkL x 0 (kdsP [.val (.ag kd2), .val (.ag kd4), .slc kd3 1 8]))))).b 0))) = askedB0 (mkL x 0 (kdsP [.val (.ag kd2), .val (.ag kd4), .slc kd3 1 8])) from by kernel_rfl).trans h0)

theorem askedRng (x : Vars) (h0 : askedB0 (mkL x 0 (kdsP [.val (.ag kd2), .val (.ag kd4), .slc kd3 1 8])) = false) : 1 ≤ x.i 0 ∧ x.i 0 ≤ 8 :=
  have F := validUnit_rng x (askedVal x h0).1
  ⟨F.1, F.2.1⟩



noncomputable def asked_vE0 (x : Vars) : AV := .sint .i64 (1)

noncomputable def askedZE0 (l : List AV) : Vars := outV (some (asked_vE0 (varsOf l), []))

theorem asked_xE0 (x : Vars) : mkR (askedZE0 (mkL x 0 (kdsP [.val (.ag kd2), .val (.ag kd4), .slc kd3 1 8]))) [.sc (.int .i64)] = asked_vE0 x := by kernel_rfl



noncomputable def asked_v1 (x : Vars) : AV := .sint .i64 ((bif (!((isFilmR [(.flt .f32 (x.u 148))]).b 0)) then 2 else 0))

noncomputable def askedZ1 (l : List AV) : Vars := outV (some (asked_v1 (varsOf l), []))

theorem asked_x1 (x : Vars) : mkR (askedZ1 (mkL x 0 (kdsP [.val (.ag kd2), .val (.ag kd4), .slc kd3 1 8]))) [.sc (.int .i64)] = asked_v1 x := by kernel_rfl


noncomputable def asked_2_n0 (x : Vars) (d v : Int) : Int := (bif (!((isFilmR [(.flt .f32 (x.u 148))]).b 0)) then d else (bif (!((isFilmR [(.flt .f32 (x.u 149))]).b 0)) then d else v))


noncomputable def asked_v2 (x : Vars) : AV := .sint .i64 ((asked_2_n0 x (2) (0)))

noncomputable def askedZ2 (l : List AV) : Vars := outV (some (asked_v2 (varsOf l), []))

theorem asked_x2 (x : Vars) : mkR (askedZ2 (mkL x 0 (kdsP [.val (.ag kd2), .val (.ag kd4), .slc kd3 1 8]))) [.sc (.int .i64)] = asked_v2 x := by kernel_rfl


noncomputable def asked_3_n0 (x : Vars) (d v : Int) : Int := (bif (!((isFilmR [(.flt .f32 (x.u 148))]).b 0)) then d else (bif (!((isFilmR [(.flt .f32 (x.u 149))]).b 0)) then d else (bif (!((isFilmR [(.flt .f32 (x.u 150))]).b 0)) then d else v)))


noncomputable def asked_v3 (x : Vars) : AV := .sint .i64 ((asked_3_n0 x (2) (0)))

noncomputable def askedZ3 (l : List AV) : Vars := outV (some (asked_v3 (varsOf l), []))

theorem asked_x3 (x : Vars) : mkR (askedZ3 (mkL x 0 (kdsP [.val (.ag kd2), .val (.ag kd4), .slc kd3 1 8]))) [.sc (.int .i64)] = asked_v3 x := by kernel_rfl


noncomputable def asked_4_n0 (x : Vars) (d v : Int) : Int := (bif (!((isFilmR [(.flt .f32 (x.u 148))]).b 0)) then d else (bif (!((isFilmR [(.flt .f32 (x.u 149))]).b 0)) then d else (bif (!((isFilmR [(.flt .f32 (x.u 150))]).b 0)) then d else (bif (!((isFilmR [(.flt .f32 (x.u 151))]).b 0)) then d else v))))


noncomputable def asked_v4 (x : Vars) : AV := .sint .i64 ((asked_4_n0 x (2) (0)))

noncomputable def askedZ4 (l : List AV) : Vars := outV (some (asked_v4 (varsOf l), []))

theorem asked_x4 (x : Vars) : mkR (askedZ4 (mkL x 0 (kdsP [.val (.ag kd2), .val (.ag kd4), .slc kd3 1 8]))) [.sc (.int .i64)] = asked_v4 x := by kernel_rfl


noncomputable def asked_5_n0 (x : Vars) (d v : Int) : Int := (bif (!((isFilmR [(.flt .f32 (x.u 148))]).b 0)) then d else (bif (!((isFilmR [(.flt .f32 (x.u 149))]).b 0)) then d else (bif (!((isFilmR [(.flt .f32 (x.u 150))]).b 0)) then d else (bif (!((isFilmR [(.flt .f32 (x.u 151))]).b 0)) then d else (bif (!((isFilmR [(.flt .f32 (x.u 152))]).b 0)) then d else v)))))


noncomputable def asked_v5 (x : Vars) : AV := .sint .i64 ((asked_5_n0 x (2) (0)))

noncomputable def askedZ5 (l : List AV) : Vars := outV (some (asked_v5 (varsOf l), []))

theorem asked_x5 (x : Vars) : mkR (askedZ5 (mkL x 0 (kdsP [.val (.ag kd2), .val (.ag kd4), .slc kd3 1 8]))) [.sc (.int .i64)] = asked_v5 x := by kernel_rfl


noncomputable def asked_6_n0 (x : Vars) (d v : Int) : Int := (bif (!((isFilmR [(.flt .f32 (x.u 148))]).b 0)) then d else (bif (!((isFilmR [(.flt .f32 (x.u 149))]).b 0)) then d else (bif (!((isFilmR [(.flt .f32 (x.u 150))]).b 0)) then d else (bif (!((isFilmR [(.flt .f32 (x.u 151))]).b 0)) then d else (bif (!((isFilmR [(.flt .f32 (x.u 152))]).b 0)) then d else (bif (!((isFilmR [(.flt .f32 (x.u 153))]).b 0)) then d else v))))))


noncomputable def asked_v6 (x : Vars) : AV := .sint .i64 ((asked_6_n0 x (2) (0)))

noncomputable def askedZ6 (l : List AV) : Vars := outV (some (asked_v6 (varsOf l), []))

theorem asked_x6 (x : Vars) : mkR (askedZ6 (mkL x 0 (kdsP [.val (.ag kd2), .val (.ag kd4), .slc kd3 1 8]))) [.sc (.int .i64)] = asked_v6 x := by kernel_rfl


noncomputable def asked_7_n0 (x : Vars) (d v : Int) : Int := (bif (!((isFilmR [(.flt .f32 (x.u 148))]).b 0)) then d else (bif (!((isFilmR [(.flt .f32 (x.u 149))]).b 0)) then d else (bif (!((isFilmR [(.flt .f32 (x.u 150))]).b 0)) then d else (bif (!((isFilmR [(.flt .f32 (x.u 151))]).b 0)) then d else (bif (!((isFilmR [(.flt .f32 (x.u 152))]).b 0)) then d else (bif (!((isFilmR [(.flt .f32 (x.u 153))]).b 0)) then d else (bif (!((isFilmR [(.flt .f32 (x.u 154))]).b 0)) then d else v)))))))


noncomputable def asked_v7 (x : Vars) : AV := .sint .i64 ((asked_7_n0 x (2) (0)))

noncomputable def askedZ7 (l : List AV) : Vars := outV (some (asked_v7 (varsOf l), []))

theorem asked_x7 (x : Vars) : mkR (askedZ7 (mkL x 0 (kdsP [.val (.ag kd2), .val (.ag kd4), .slc kd3 1 8]))) [.sc (.int .i64)] = asked_v7 x := by kernel_rfl


noncomputable def asked_8_n0 (x : Vars) (d v : Int) : Int := (bif (!((isFilmR [(.flt .f32 (x.u 148))]).b 0)) then d else (bif (!((isFilmR [(.flt .f32 (x.u 149))]).b 0)) then d else (bif (!((isFilmR [(.flt .f32 (x.u 150))]).b 0)) then d else (bif (!((isFilmR [(.flt .f32 (x.u 151))]).b 0)) then d else (bif (!((isFilmR [(.flt .f32 (x.u 152))]).b 0)) then d else (bif (!((isFilmR [(.flt .f32 (x.u 153))]).b 0)) then d else (bif (!((isFilmR [(.flt .f32 (x.u 154))]).b 0)) then d else (bif (!((isFilmR [(.flt .f32 (x.u 155))]).b 0)) then d else v))))))))


noncomputable def asked_v8 (x : Vars) : AV := .sint .i64 ((asked_8_n0 x (2) (0)))

noncomputable def askedZ8 (l : List AV) : Vars := outV (some (asked_v8 (varsOf l), []))

theorem asked_x8 (x : Vars) : mkR (askedZ8 (mkL x 0 (kdsP [.val (.ag kd2), .val (.ag kd4), .slc kd3 1 8]))) [.sc (.int .i64)] = asked_v8 x := by kernel_rfl

noncomputable def askedR0 (l : List AV) : Vars := bif askedB0 l then askedZE0 l else (bif decide (intOf (leafN l 0) = 1) then askedZ1 l else (bif decide (intOf (leafN l 0) = 2) then askedZ2 l else (bif decide (intOf (leafN l 0) = 3) then askedZ3 l else (bif decide (intOf (leafN l 0) = 4) then askedZ4 l else (bif decide (intOf (leafN l 0) = 5) then askedZ5 l else (bif decide (intOf (leafN l 0) = 6) then askedZ6 l else (bif decide (intOf (leafN l 0) = 7) then askedZ7 l else (askedZ8 l))))))))

noncomputable def askedR : List AV → Vars := Classical.choose (⟨askedR0, rfl⟩ : ∃ f, f = askedR0)

theorem askedR_eq : askedR = askedR0 := Classical.choose_spec (⟨askedR0, rfl⟩ : ∃ f, f = askedR0)

noncomputable def asked_70_E0_a0 (x : Vars) : Vars := validUnitR [(.sint .i8 (x.i 0)), (.flt .f32 (x.u 1)), (.flt .f32 (x.u 2)), (.flt .f32 (x.u 3)), (.flt .f32 (x.u 4)), (.flt .f32 (x.u 5)), (.flt .f32 (x.u 6)), (.flt .f32 (x.u 7)), (.flt .f32 (x.u 8)), (.sint .i8 (x.i 9)), (.flt .f32 (x.u 10)), (.flt .f32 (x.u 11)), (.flt .f32 (x.u 12)), (.flt .f32 (x.u 13)), (.flt .f32 (x.u 14)), (.flt .f32 (x.u 15)), (.flt .f32 (x.u 16)), (.flt .f32 (x.u 17)), (.flt .f32 (x.u 18)), (.flt .f32 (x.u 19)), (.flt .f32 (x.u 20)), (.flt .f32 (x.u 21)), (.flt .f32 (x.u 22)), (.flt .f32 (x.u 23)), (.sint .i8 (x.i 24)), (.flt .f32 (x.u 25)), (.flt .f32 (x.u 26)), (.flt .f32 (x.u 27)), (.flt .f32 (x.u 28)), (.flt .f32 (x.u 29)), (.flt .f32 (x.u 30)), (.flt .f32 (x.u 31)), (.flt .f32 (x.u 32)), (.flt .f32 (x.u 33)), (.flt .f32 (x.u 34)), (.flt .f32 (x.u 35)), (.flt .f32 (x.u 36)), (.flt .f32 (x.u 37)), (.flt .f32 (x.u 38)), (.sint .i8 (x.i 39)), (.flt .f32 (x.u 40)), (.flt .f32 (x.u 41)), (.flt .f32 (x.u 42)), (.flt .f32 (x.u 43)), (.flt .f32 (x.u 44)), (.flt .f32 (x.u 45)), (.flt .f32 (x.u 46)), (.flt .f32 (x.u 47)), (.flt .f32 (x.u 48)), (.flt .f32 (x.u 49)), (.flt .f32 (x.u 50)), (.flt .f32 (x.u 51)), (.flt .f32 (x.u 52)), (.flt .f32 (x.u 53)), (.sint .i8 (x.i 54)), (.flt .f32 (x.u 55)), (.flt .f32 (x.u 56)), (.flt .f32 (x.u 57)), (.flt .f32 (x.u 58)), (.flt .f32 (x.u 59)), (.flt .f32 (x.u 60)), (.flt .f32 (x.u 61)), (.flt .f32 (x.u 62)), (.flt .f32 (x.u 63)), (.flt .f32 (x.u 64)), (.flt .f32 (x.u 65)), (.flt .f32 (x.u 66)), (.flt .f32 (x.u 67)), (.flt .f32 (x.u 68)), (.sint .i8 (x.i 69)), (.flt .f32 (x.u 70)), (.flt .f32 (x.u 71)), (.flt .f32 (x.u 72)), (.flt .f32 (x.u 73)), (.flt .f32 (x.u 74)), (.flt .f32 (x.u 75)), (.flt .f32 (x.u 76)), (.flt .f32 (x.u 77)), (.flt .f32 (x.u 78)), (.flt .f32 (x.u 79)), (.flt .f32 (x.u 80)), (.flt .f32 (x.u 81)), (.flt .f32 (x.u 82)), (.flt .f32 (x.u 83)), (.sint .i8 (x.i 84)), (.flt .f32 (x.u 85)), (.flt .f32 (x.u 86)), (.flt .f32 (x.u 87)), (.flt .f32 (x.u 88)), (.flt .f32 (x.u 89)), (.flt .f32 (x.u 90)), (.flt .f32 (x.u 91)), (.flt .f32 (x.u 92)), (.flt .f32 (x.u 93)), (.flt .f32 (x.u 94)), (.flt .f32 (x.u 95)), (.flt .f32 (x.u 96)), (.flt .f32 (x.u 97)), (.flt .f32 (x.u 98)), (.sint .i8 (x.i 99)), (.flt .f32 (x.u 100)), (.flt .f32 (x.u 101)), (.flt .f32 (x.u 102)), (.flt .f32 (x.u 103)), (.flt .f32 (x.u 104)), (.flt .f32 (x.u 105)), (.flt .f32 (x.u 106)), (.flt .f32 (x.u 107)), (.flt .f32 (x.u 108)), (.flt .f32 (x.u 109)), (.flt .f32 (x.u 110)), (.flt .f32 (x.u 111)), (.flt .f32 (x.u 112)), (.flt .f32 (x.u 113)), (.sint .i8 (x.i 114)), (.flt .f32 (x.u 115)), (.flt .f32 (x.u 116)), (.flt .f32 (x.u 117)), (.flt .f32 (x.u 118)), (.flt .f32 (x.u 119)), (.flt .f32 (x.u 120)), (.flt .f32 (x.u 121)), (.flt .f32 (x.u 122)), (.flt .f32 (x.u 123)), (.flt .f32 (x.u 124)), (.flt .f32 (x.u 125)), (.flt .f32 (x.u 126)), (.flt .f32 (x.u 127)), (.flt .f32 (x.u 128))]

noncomputable def asked_70_E0_a1 (x : Vars) : Vars := validSettingR [(.flt .f32 (x.u 129)), (.flt .f32 (x.u 130)), (.flt .f32 (x.u 131)), (.flt .f32 (x.u 132)), (.flt .f32 (x.u 133)), (.flt .f32 (x.u 134)), (.flt .f32 (x.u 135)), (.flt .f32 (x.u 136)), (.flt .f32 (x.u 137)), (.flt .f32 (x.u 138)), (.flt .f32 (x.u 139)), (.flt .f32 (x.u 140)), (.flt .f32 (x.u 141)), (.flt .f32 (x.u 142)), (.flt .f32 (x.u 143)), (.flt .f32 (x.u 144)), (.flt .f32 (x.u 145)), (.flt .f32 (x.u 146)), (.sint .i16 (x.i 147))]


noncomputable def asked_cs70_E0 (x : Vars) : List Bool := [((!((asked_70_E0_a0 x).b 0)) || (!((asked_70_E0_a1 x).b 0)))]

set_option maxRecDepth 100000 in
theorem asked_c70_E0 (x : Vars) (h0 : askedB0 (mkL x 0 (kdsP [.val (.ag kd2), .val (.ag kd4), .slc kd3 1 8])) = true) : ∀ b ∈ asked_cs70_E0 x, b = true := by
  unfold asked_cs70_E0
  exact (allC ((show (_ : Bool) = askedB0 (mkL x 0 (kdsP [.val (.ag kd2), .val (.ag kd4), .slc kd3 1 8])) from by kernel_rfl).trans h0) allN)

theorem asked_f70_E0 (x : Vars) : (funH Try.prog G27 noLT true 1000 70 (argsP [.val (.ag kd2), .val (.ag kd4), .slc kd3 1 8] 0 (mkL x 0 (kdsP [.val (.ag kd2), .val (.ag kd4), .slc kd3 1 8]))) (memP [.val (.ag kd2), .val (.ag kd4), .slc kd3 1 8] (mkL x 0 (kdsP [.val (.ag kd2), .val (.ag kd4), .slc kd3 1 8]))) [true]).map (fun r => (normR r.1, untupR r.1 && r.1.flat, r.2)) = some (asked_vE0 x, true, asked_cs70_E0 x) := by kernel_rfl

noncomputable def asked_70_1_a0 (x : Vars) : Vars := validUnitR [(.sint .i8 1), (.flt .f32 (x.u 1)), (.flt .f32 (x.u 2)), (.flt .f32 (x.u 3)), (.flt .f32 (x.u 4)), (.flt .f32 (x.u 5)), (.flt .f32 (x.u 6)), (.flt .f32 (x.u 7)), (.flt .f32 (x.u 8)), (.sint .i8 (x.i 9)), (.flt .f32 (x.u 10)), (.flt .f32 (x.u 11)), (.flt .f32 (x.u 12)), (.flt .f32 (x.u 13)), (.flt .f32 (x.u 14)), (.flt .f32 (x.u 15)), (.flt .f32 (x.u 16)), (.flt .f32 (x.u 17)), (.flt .f32 (x.u 18)), (.flt .f32 (x.u 19)), (.flt .f32 (x.u 20)), (.flt .f32 (x.u 21)), (.flt .f32 (x.u 22)), (.flt .f32 (x.u 23)), (.sint .i8 (x.i 24)), (.flt .f32 (x.u 25)), (.flt .f32 (x.u 26)), (.flt .f32 (x.u 27)), (.flt .f32 (x.u 28)), (.flt .f32 (x.u 29)), (.flt .f32 (x.u 30)), (.flt .f32 (x.u 31)), (.flt .f32 (x.u 32)), (.flt .f32 (x.u 33)), (.flt .f32 (x.u 34)), (.flt .f32 (x.u 35)), (.flt .f32 (x.u 36)), (.flt .f32 (x.u 37)), (.flt .f32 (x.u 38)), (.sint .i8 (x.i 39)), (.flt .f32 (x.u 40)), (.flt .f32 (x.u 41)), (.flt .f32 (x.u 42)), (.flt .f32 (x.u 43)), (.flt .f32 (x.u 44)), (.flt .f32 (x.u 45)), (.flt .f32 (x.u 46)), (.flt .f32 (x.u 47)), (.flt .f32 (x.u 48)), (.flt .f32 (x.u 49)), (.flt .f32 (x.u 50)), (.flt .f32 (x.u 51)), (.flt .f32 (x.u 52)), (.flt .f32 (x.u 53)), (.sint .i8 (x.i 54)), (.flt .f32 (x.u 55)), (.flt .f32 (x.u 56)), (.flt .f32 (x.u 57)), (.flt .f32 (x.u 58)), (.flt .f32 (x.u 59)), (.flt .f32 (x.u 60)), (.flt .f32 (x.u 61)), (.flt .f32 (x.u 62)), (.flt .f32 (x.u 63)), (.flt .f32 (x.u 64)), (.flt .f32 (x.u 65)), (.flt .f32 (x.u 66)), (.flt .f32 (x.u 67)), (.flt .f32 (x.u 68)), (.sint .i8 (x.i 69)), (.flt .f32 (x.u 70)), (.flt .f32 (x.u 71)), (.flt .f32 (x.u 72)), (.flt .f32 (x.u 73)), (.flt .f32 (x.u 74)), (.flt .f32 (x.u 75)), (.flt .f32 (x.u 76)), (.flt .f32 (x.u 77)), (.flt .f32 (x.u 78)), (.flt .f32 (x.u 79)), (.flt .f32 (x.u 80)), (.flt .f32 (x.u 81)), (.flt .f32 (x.u 82)), (.flt .f32 (x.u 83)), (.sint .i8 (x.i 84)), (.flt .f32 (x.u 85)), (.flt .f32 (x.u 86)), (.flt .f32 (x.u 87)), (.flt .f32 (x.u 88)), (.flt .f32 (x.u 89)), (.flt .f32 (x.u 90)), (.flt .f32 (x.u 91)), (.flt .f32 (x.u 92)), (.flt .f32 (x.u 93)), (.flt .f32 (x.u 94)), (.flt .f32 (x.u 95)), (.flt .f32 (x.u 96)), (.flt .f32 (x.u 97)), (.flt .f32 (x.u 98)), (.sint .i8 (x.i 99)), (.flt .f32 (x.u 100)), (.flt .f32 (x.u 101)), (.flt .f32 (x.u 102)), (.flt .f32 (x.u 103)), (.flt .f32 (x.u 104)), (.flt .f32 (x.u 105)), (.flt .f32 (x.u 106)), (.flt .f32 (x.u 107)), (.flt .f32 (x.u 108)), (.flt .f32 (x.u 109)), (.flt .f32 (x.u 110)), (.flt .f32 (x.u 111)), (.flt .f32 (x.u 112)), (.flt .f32 (x.u 113)), (.sint .i8 (x.i 114)), (.flt .f32 (x.u 115)), (.flt .f32 (x.u 116)), (.flt .f32 (x.u 117)), (.flt .f32 (x.u 118)), (.flt .f32 (x.u 119)), (.flt .f32 (x.u 120)), (.flt .f32 (x.u 121)), (.flt .f32 (x.u 122)), (.flt .f32 (x.u 123)), (.flt .f32 (x.u 124)), (.flt .f32 (x.u 125)), (.flt .f32 (x.u 126)), (.flt .f32 (x.u 127)), (.flt .f32 (x.u 128))]

noncomputable def asked_70_1_a1 (x : Vars) : Vars := validSettingR [(.flt .f32 (x.u 129)), (.flt .f32 (x.u 130)), (.flt .f32 (x.u 131)), (.flt .f32 (x.u 132)), (.flt .f32 (x.u 133)), (.flt .f32 (x.u 134)), (.flt .f32 (x.u 135)), (.flt .f32 (x.u 136)), (.flt .f32 (x.u 137)), (.flt .f32 (x.u 138)), (.flt .f32 (x.u 139)), (.flt .f32 (x.u 140)), (.flt .f32 (x.u 141)), (.flt .f32 (x.u 142)), (.flt .f32 (x.u 143)), (.flt .f32 (x.u 144)), (.flt .f32 (x.u 145)), (.flt .f32 (x.u 146)), (.sint .i16 (x.i 147))]


noncomputable def asked_cs70_1 (x : Vars) : List Bool := [(!((!((asked_70_1_a0 x).b 0)) || (!((asked_70_1_a1 x).b 0))))]

set_option maxRecDepth 100000 in
theorem asked_c70_1 (x : Vars) (h0 : askedB0 (mkL x 0 (kdsP [.val (.ag kd2), .val (.ag kd4), .slc kd3 1 8])) = false) (hz : x.i 0 = 1) : ∀ b ∈ asked_cs70_1 x, b = true := by
  unfold asked_cs70_1
  exact (allC (notT ((show (_ : Bool) = askedB0 (normL (litL (mkL x 0 (kdsP [.val (.ag kd2), .val (.ag kd4), .slc kd3 1 8])) 0 1)) from by kernel_rfl).trans ((congrArg askedB0 (litL_mk hz)).trans h0))) allN)

theorem asked_f70_1 (x : Vars) : (funH Try.prog G27 noLT true 1000 70 (argsP [.val (.ag kd2), .val (.ag kd4), .slc kd3 1 8] 0 (litL (mkL x 0 (kdsP [.val (.ag kd2), .val (.ag kd4), .slc kd3 1 8])) 0 1)) (memP [.val (.ag kd2), .val (.ag kd4), .slc kd3 1 8] (litL (mkL x 0 (kdsP [.val (.ag kd2), .val (.ag kd4), .slc kd3 1 8])) 0 1)) [false]).map (fun r => (normR r.1, untupR r.1 && r.1.flat, r.2)) = some (asked_v1 x, true, asked_cs70_1 x) := by kernel_rfl

noncomputable def asked_70_2_a0 (x : Vars) : Vars := validUnitR [(.sint .i8 2), (.flt .f32 (x.u 1)), (.flt .f32 (x.u 2)), (.flt .f32 (x.u 3)), (.flt .f32 (x.u 4)), (.flt .f32 (x.u 5)), (.flt .f32 (x.u 6)), (.flt .f32 (x.u 7)), (.flt .f32 (x.u 8)), (.sint .i8 (x.i 9)), (.flt .f32 (x.u 10)), (.flt .f32 (x.u 11)), (.flt .f32 (x.u 12)), (.flt .f32 (x.u 13)), (.flt .f32 (x.u 14)), (.flt .f32 (x.u 15)), (.flt .f32 (x.u 16)), (.flt .f32 (x.u 17)), (.flt .f32 (x.u 18)), (.flt .f32 (x.u 19)), (.flt .f32 (x.u 20)), (.flt .f32 (x.u 21)), (.flt .f32 (x.u 22)), (.flt .f32 (x.u 23)), (.sint .i8 (x.i 24)), (.flt .f32 (x.u 25)), (.flt .f32 (x.u 26)), (.flt .f32 (x.u 27)), (.flt .f32 (x.u 28)), (.flt .f32 (x.u 29)), (.flt .f32 (x.u 30)), (.flt .f32 (x.u 31)), (.flt .f32 (x.u 32)), (.flt .f32 (x.u 33)), (.flt .f32 (x.u 34)), (.flt .f32 (x.u 35)), (.flt .f32 (x.u 36)), (.flt .f32 (x.u 37)), (.flt .f32 (x.u 38)), (.sint .i8 (x.i 39)), (.flt .f32 (x.u 40)), (.flt .f32 (x.u 41)), (.flt .f32 (x.u 42)), (.flt .f32 (x.u 43)), (.flt .f32 (x.u 44)), (.flt .f32 (x.u 45)), (.flt .f32 (x.u 46)), (.flt .f32 (x.u 47)), (.flt .f32 (x.u 48)), (.flt .f32 (x.u 49)), (.flt .f32 (x.u 50)), (.flt .f32 (x.u 51)), (.flt .f32 (x.u 52)), (.flt .f32 (x.u 53)), (.sint .i8 (x.i 54)), (.flt .f32 (x.u 55)), (.flt .f32 (x.u 56)), (.flt .f32 (x.u 57)), (.flt .f32 (x.u 58)), (.flt .f32 (x.u 59)), (.flt .f32 (x.u 60)), (.flt .f32 (x.u 61)), (.flt .f32 (x.u 62)), (.flt .f32 (x.u 63)), (.flt .f32 (x.u 64)), (.flt .f32 (x.u 65)), (.flt .f32 (x.u 66)), (.flt .f32 (x.u 67)), (.flt .f32 (x.u 68)), (.sint .i8 (x.i 69)), (.flt .f32 (x.u 70)), (.flt .f32 (x.u 71)), (.flt .f32 (x.u 72)), (.flt .f32 (x.u 73)), (.flt .f32 (x.u 74)), (.flt .f32 (x.u 75)), (.flt .f32 (x.u 76)), (.flt .f32 (x.u 77)), (.flt .f32 (x.u 78)), (.flt .f32 (x.u 79)), (.flt .f32 (x.u 80)), (.flt .f32 (x.u 81)), (.flt .f32 (x.u 82)), (.flt .f32 (x.u 83)), (.sint .i8 (x.i 84)), (.flt .f32 (x.u 85)), (.flt .f32 (x.u 86)), (.flt .f32 (x.u 87)), (.flt .f32 (x.u 88)), (.flt .f32 (x.u 89)), (.flt .f32 (x.u 90)), (.flt .f32 (x.u 91)), (.flt .f32 (x.u 92)), (.flt .f32 (x.u 93)), (.flt .f32 (x.u 94)), (.flt .f32 (x.u 95)), (.flt .f32 (x.u 96)), (.flt .f32 (x.u 97)), (.flt .f32 (x.u 98)), (.sint .i8 (x.i 99)), (.flt .f32 (x.u 100)), (.flt .f32 (x.u 101)), (.flt .f32 (x.u 102)), (.flt .f32 (x.u 103)), (.flt .f32 (x.u 104)), (.flt .f32 (x.u 105)), (.flt .f32 (x.u 106)), (.flt .f32 (x.u 107)), (.flt .f32 (x.u 108)), (.flt .f32 (x.u 109)), (.flt .f32 (x.u 110)), (.flt .f32 (x.u 111)), (.flt .f32 (x.u 112)), (.flt .f32 (x.u 113)), (.sint .i8 (x.i 114)), (.flt .f32 (x.u 115)), (.flt .f32 (x.u 116)), (.flt .f32 (x.u 117)), (.flt .f32 (x.u 118)), (.flt .f32 (x.u 119)), (.flt .f32 (x.u 120)), (.flt .f32 (x.u 121)), (.flt .f32 (x.u 122)), (.flt .f32 (x.u 123)), (.flt .f32 (x.u 124)), (.flt .f32 (x.u 125)), (.flt .f32 (x.u 126)), (.flt .f32 (x.u 127)), (.flt .f32 (x.u 128))]

noncomputable def asked_70_2_a1 (x : Vars) : Vars := validSettingR [(.flt .f32 (x.u 129)), (.flt .f32 (x.u 130)), (.flt .f32 (x.u 131)), (.flt .f32 (x.u 132)), (.flt .f32 (x.u 133)), (.flt .f32 (x.u 134)), (.flt .f32 (x.u 135)), (.flt .f32 (x.u 136)), (.flt .f32 (x.u 137)), (.flt .f32 (x.u 138)), (.flt .f32 (x.u 139)), (.flt .f32 (x.u 140)), (.flt .f32 (x.u 141)), (.flt .f32 (x.u 142)), (.flt .f32 (x.u 143)), (.flt .f32 (x.u 144)), (.flt .f32 (x.u 145)), (.flt .f32 (x.u 146)), (.sint .i16 (x.i 147))]


noncomputable def asked_cs70_2 (x : Vars) : List Bool := [(!((!((asked_70_2_a0 x).b 0)) || (!((asked_70_2_a1 x).b 0))))]

set_option maxRecDepth 100000 in
theorem asked_c70_2 (x : Vars) (h0 : askedB0 (mkL x 0 (kdsP [.val (.ag kd2), .val (.ag kd4), .slc kd3 1 8])) = false) (hz : x.i 0 = 2) : ∀ b ∈ asked_cs70_2 x, b = true := by
  unfold asked_cs70_2
  exact (allC (notT ((show (_ : Bool) = askedB0 (normL (litL (mkL x 0 (kdsP [.val (.ag kd2), .val (.ag kd4), .slc kd3 1 8])) 0 2)) from by kernel_rfl).trans ((congrArg askedB0 (litL_mk hz)).trans h0))) allN)

theorem asked_f70_2 (x : Vars) : (funH Try.prog G27 noLT true 1000 70 (argsP [.val (.ag kd2), .val (.ag kd4), .slc kd3 1 8] 0 (litL (mkL x 0 (kdsP [.val (.ag kd2), .val (.ag kd4), .slc kd3 1 8])) 0 2)) (memP [.val (.ag kd2), .val (.ag kd4), .slc kd3 1 8] (litL (mkL x 0 (kdsP [.val (.ag kd2), .val (.ag kd4), .slc kd3 1 8])) 0 2)) [false]).map (fun r => (normR r.1, untupR r.1 && r.1.flat, r.2)) = some (asked_v2 x, true, asked_cs70_2 x) := by kernel_rfl

noncomputable def asked_70_3_a0 (x : Vars) : Vars := validUnitR [(.sint .i8 3), (.flt .f32 (x.u 1)), (.flt .f32 (x.u 2)), (.flt .f32 (x.u 3)), (.flt .f32 (x.u 4)), (.flt .f32 (x.u 5)), (.flt .f32 (x.u 6)), (.flt .f32 (x.u 7)), (.flt .f32 (x.u 8)), (.sint .i8 (x.i 9)), (.flt .f32 (x.u 10)), (.flt .f32 (x.u 11)), (.flt .f32 (x.u 12)), (.flt .f32 (x.u 13)), (.flt .f32 (x.u 14)), (.flt .f32 (x.u 15)), (.flt .f32 (x.u 16)), (.flt .f32 (x.u 17)), (.flt .f32 (x.u 18)), (.flt .f32 (x.u 19)), (.flt .f32 (x.u 20)), (.flt .f32 (x.u 21)), (.flt .f32 (x.u 22)), (.flt .f32 (x.u 23)), (.sint .i8 (x.i 24)), (.flt .f32 (x.u 25)), (.flt .f32 (x.u 26)), (.flt .f32 (x.u 27)), (.flt .f32 (x.u 28)), (.flt .f32 (x.u 29)), (.flt .f32 (x.u 30)), (.flt .f32 (x.u 31)), (.flt .f32 (x.u 32)), (.flt .f32 (x.u 33)), (.flt .f32 (x.u 34)), (.flt .f32 (x.u 35)), (.flt .f32 (x.u 36)), (.flt .f32 (x.u 37)), (.flt .f32 (x.u 38)), (.sint .i8 (x.i 39)), (.flt .f32 (x.u 40)), (.flt .f32 (x.u 41)), (.flt .f32 (x.u 42)), (.flt .f32 (x.u 43)), (.flt .f32 (x.u 44)), (.flt .f32 (x.u 45)), (.flt .f32 (x.u 46)), (.flt .f32 (x.u 47)), (.flt .f32 (x.u 48)), (.flt .f32 (x.u 49)), (.flt .f32 (x.u 50)), (.flt .f32 (x.u 51)), (.flt .f32 (x.u 52)), (.flt .f32 (x.u 53)), (.sint .i8 (x.i 54)), (.flt .f32 (x.u 55)), (.flt .f32 (x.u 56)), (.flt .f32 (x.u 57)), (.flt .f32 (x.u 58)), (.flt .f32 (x.u 59)), (.flt .f32 (x.u 60)), (.flt .f32 (x.u 61)), (.flt .f32 (x.u 62)), (.flt .f32 (x.u 63)), (.flt .f32 (x.u 64)), (.flt .f32 (x.u 65)), (.flt .f32 (x.u 66)), (.flt .f32 (x.u 67)), (.flt .f32 (x.u 68)), (.sint .i8 (x.i 69)), (.flt .f32 (x.u 70)), (.flt .f32 (x.u 71)), (.flt .f32 (x.u 72)), (.flt .f32 (x.u 73)), (.flt .f32 (x.u 74)), (.flt .f32 (x.u 75)), (.flt .f32 (x.u 76)), (.flt .f32 (x.u 77)), (.flt .f32 (x.u 78)), (.flt .f32 (x.u 79)), (.flt .f32 (x.u 80)), (.flt .f32 (x.u 81)), (.flt .f32 (x.u 82)), (.flt .f32 (x.u 83)), (.sint .i8 (x.i 84)), (.flt .f32 (x.u 85)), (.flt .f32 (x.u 86)), (.flt .f32 (x.u 87)), (.flt .f32 (x.u 88)), (.flt .f32 (x.u 89)), (.flt .f32 (x.u 90)), (.flt .f32 (x.u 91)), (.flt .f32 (x.u 92)), (.flt .f32 (x.u 93)), (.flt .f32 (x.u 94)), (.flt .f32 (x.u 95)), (.flt .f32 (x.u 96)), (.flt .f32 (x.u 97)), (.flt .f32 (x.u 98)), (.sint .i8 (x.i 99)), (.flt .f32 (x.u 100)), (.flt .f32 (x.u 101)), (.flt .f32 (x.u 102)), (.flt .f32 (x.u 103)), (.flt .f32 (x.u 104)), (.flt .f32 (x.u 105)), (.flt .f32 (x.u 106)), (.flt .f32 (x.u 107)), (.flt .f32 (x.u 108)), (.flt .f32 (x.u 109)), (.flt .f32 (x.u 110)), (.flt .f32 (x.u 111)), (.flt .f32 (x.u 112)), (.flt .f32 (x.u 113)), (.sint .i8 (x.i 114)), (.flt .f32 (x.u 115)), (.flt .f32 (x.u 116)), (.flt .f32 (x.u 117)), (.flt .f32 (x.u 118)), (.flt .f32 (x.u 119)), (.flt .f32 (x.u 120)), (.flt .f32 (x.u 121)), (.flt .f32 (x.u 122)), (.flt .f32 (x.u 123)), (.flt .f32 (x.u 124)), (.flt .f32 (x.u 125)), (.flt .f32 (x.u 126)), (.flt .f32 (x.u 127)), (.flt .f32 (x.u 128))]

noncomputable def asked_70_3_a1 (x : Vars) : Vars := validSettingR [(.flt .f32 (x.u 129)), (.flt .f32 (x.u 130)), (.flt .f32 (x.u 131)), (.flt .f32 (x.u 132)), (.flt .f32 (x.u 133)), (.flt .f32 (x.u 134)), (.flt .f32 (x.u 135)), (.flt .f32 (x.u 136)), (.flt .f32 (x.u 137)), (.flt .f32 (x.u 138)), (.flt .f32 (x.u 139)), (.flt .f32 (x.u 140)), (.flt .f32 (x.u 141)), (.flt .f32 (x.u 142)), (.flt .f32 (x.u 143)), (.flt .f32 (x.u 144)), (.flt .f32 (x.u 145)), (.flt .f32 (x.u 146)), (.sint .i16 (x.i 147))]


noncomputable def asked_cs70_3 (x : Vars) : List Bool := [(!((!((asked_70_3_a0 x).b 0)) || (!((asked_70_3_a1 x).b 0))))]

set_option maxRecDepth 100000 in
theorem asked_c70_3 (x : Vars) (h0 : askedB0 (mkL x 0 (kdsP [.val (.ag kd2), .val (.ag kd4), .slc kd3 1 8])) = false) (hz : x.i 0 = 3) : ∀ b ∈ asked_cs70_3 x, b = true := by
  unfold asked_cs70_3
  exact (allC (notT ((show (_ : Bool) = askedB0 (normL (litL (mkL x 0 (kdsP [.val (.ag kd2), .val (.ag kd4), .slc kd3 1 8])) 0 3)) from by kernel_rfl).trans ((congrArg askedB0 (litL_mk hz)).trans h0))) allN)

theorem asked_f70_3 (x : Vars) : (funH Try.prog G27 noLT true 1000 70 (argsP [.val (.ag kd2), .val (.ag kd4), .slc kd3 1 8] 0 (litL (mkL x 0 (kdsP [.val (.ag kd2), .val (.ag kd4), .slc kd3 1 8])) 0 3)) (memP [.val (.ag kd2), .val (.ag kd4), .slc kd3 1 8] (litL (mkL x 0 (kdsP [.val (.ag kd2), .val (.ag kd4), .slc kd3 1 8])) 0 3)) [false]).map (fun r => (normR r.1, untupR r.1 && r.1.flat, r.2)) = some (asked_v3 x, true, asked_cs70_3 x) := by kernel_rfl

noncomputable def asked_70_4_a0 (x : Vars) : Vars := validUnitR [(.sint .i8 4), (.flt .f32 (x.u 1)), (.flt .f32 (x.u 2)), (.flt .f32 (x.u 3)), (.flt .f32 (x.u 4)), (.flt .f32 (x.u 5)), (.flt .f32 (x.u 6)), (.flt .f32 (x.u 7)), (.flt .f32 (x.u 8)), (.sint .i8 (x.i 9)), (.flt .f32 (x.u 10)), (.flt .f32 (x.u 11)), (.flt .f32 (x.u 12)), (.flt .f32 (x.u 13)), (.flt .f32 (x.u 14)), (.flt .f32 (x.u 15)), (.flt .f32 (x.u 16)), (.flt .f32 (x.u 17)), (.flt .f32 (x.u 18)), (.flt .f32 (x.u 19)), (.flt .f32 (x.u 20)), (.flt .f32 (x.u 21)), (.flt .f32 (x.u 22)), (.flt .f32 (x.u 23)), (.sint .i8 (x.i 24)), (.flt .f32 (x.u 25)), (.flt .f32 (x.u 26)), (.flt .f32 (x.u 27)), (.flt .f32 (x.u 28)), (.flt .f32 (x.u 29)), (.flt .f32 (x.u 30)), (.flt .f32 (x.u 31)), (.flt .f32 (x.u 32)), (.flt .f32 (x.u 33)), (.flt .f32 (x.u 34)), (.flt .f32 (x.u 35)), (.flt .f32 (x.u 36)), (.flt .f32 (x.u 37)), (.flt .f32 (x.u 38)), (.sint .i8 (x.i 39)), (.flt .f32 (x.u 40)), (.flt .f32 (x.u 41)), (.flt .f32 (x.u 42)), (.flt .f32 (x.u 43)), (.flt .f32 (x.u 44)), (.flt .f32 (x.u 45)), (.flt .f32 (x.u 46)), (.flt .f32 (x.u 47)), (.flt .f32 (x.u 48)), (.flt .f32 (x.u 49)), (.flt .f32 (x.u 50)), (.flt .f32 (x.u 51)), (.flt .f32 (x.u 52)), (.flt .f32 (x.u 53)), (.sint .i8 (x.i 54)), (.flt .f32 (x.u 55)), (.flt .f32 (x.u 56)), (.flt .f32 (x.u 57)), (.flt .f32 (x.u 58)), (.flt .f32 (x.u 59)), (.flt .f32 (x.u 60)), (.flt .f32 (x.u 61)), (.flt .f32 (x.u 62)), (.flt .f32 (x.u 63)), (.flt .f32 (x.u 64)), (.flt .f32 (x.u 65)), (.flt .f32 (x.u 66)), (.flt .f32 (x.u 67)), (.flt .f32 (x.u 68)), (.sint .i8 (x.i 69)), (.flt .f32 (x.u 70)), (.flt .f32 (x.u 71)), (.flt .f32 (x.u 72)), (.flt .f32 (x.u 73)), (.flt .f32 (x.u 74)), (.flt .f32 (x.u 75)), (.flt .f32 (x.u 76)), (.flt .f32 (x.u 77)), (.flt .f32 (x.u 78)), (.flt .f32 (x.u 79)), (.flt .f32 (x.u 80)), (.flt .f32 (x.u 81)), (.flt .f32 (x.u 82)), (.flt .f32 (x.u 83)), (.sint .i8 (x.i 84)), (.flt .f32 (x.u 85)), (.flt .f32 (x.u 86)), (.flt .f32 (x.u 87)), (.flt .f32 (x.u 88)), (.flt .f32 (x.u 89)), (.flt .f32 (x.u 90)), (.flt .f32 (x.u 91)), (.flt .f32 (x.u 92)), (.flt .f32 (x.u 93)), (.flt .f32 (x.u 94)), (.flt .f32 (x.u 95)), (.flt .f32 (x.u 96)), (.flt .f32 (x.u 97)), (.flt .f32 (x.u 98)), (.sint .i8 (x.i 99)), (.flt .f32 (x.u 100)), (.flt .f32 (x.u 101)), (.flt .f32 (x.u 102)), (.flt .f32 (x.u 103)), (.flt .f32 (x.u 104)), (.flt .f32 (x.u 105)), (.flt .f32 (x.u 106)), (.flt .f32 (x.u 107)), (.flt .f32 (x.u 108)), (.flt .f32 (x.u 109)), (.flt .f32 (x.u 110)), (.flt .f32 (x.u 111)), (.flt .f32 (x.u 112)), (.flt .f32 (x.u 113)), (.sint .i8 (x.i 114)), (.flt .f32 (x.u 115)), (.flt .f32 (x.u 116)), (.flt .f32 (x.u 117)), (.flt .f32 (x.u 118)), (.flt .f32 (x.u 119)), (.flt .f32 (x.u 120)), (.flt .f32 (x.u 121)), (.flt .f32 (x.u 122)), (.flt .f32 (x.u 123)), (.flt .f32 (x.u 124)), (.flt .f32 (x.u 125)), (.flt .f32 (x.u 126)), (.flt .f32 (x.u 127)), (.flt .f32 (x.u 128))]

noncomputable def asked_70_4_a1 (x : Vars) : Vars := validSettingR [(.flt .f32 (x.u 129)), (.flt .f32 (x.u 130)), (.flt .f32 (x.u 131)), (.flt .f32 (x.u 132)), (.flt .f32 (x.u 133)), (.flt .f32 (x.u 134)), (.flt .f32 (x.u 135)), (.flt .f32 (x.u 136)), (.flt .f32 (x.u 137)), (.flt .f32 (x.u 138)), (.flt .f32 (x.u 139)), (.flt .f32 (x.u 140)), (.flt .f32 (x.u 141)), (.flt .f32 (x.u 142)), (.flt .f32 (x.u 143)), (.flt .f32 (x.u 144)), (.flt .f32 (x.u 145)), (.flt .f32 (x.u 146)), (.sint .i16 (x.i 147))]


noncomputable def asked_cs70_4 (x : Vars) : List Bool := [(!((!((asked_70_4_a0 x).b 0)) || (!((asked_70_4_a1 x).b 0))))]

set_option maxRecDepth 100000 in
theorem asked_c70_4 (x : Vars) (h0 : askedB0 (mkL x 0 (kdsP [.val (.ag kd2), .val (.ag kd4), .slc kd3 1 8])) = false) (hz : x.i 0 = 4) : ∀ b ∈ asked_cs70_4 x, b = true := by
  unfold asked_cs70_4
  exact (allC (notT ((show (_ : Bool) = askedB0 (normL (litL (mkL x 0 (kdsP [.val (.ag kd2), .val (.ag kd4), .slc kd3 1 8])) 0 4)) from by kernel_rfl).trans ((congrArg askedB0 (litL_mk hz)).trans h0))) allN)

theorem asked_f70_4 (x : Vars) : (funH Try.prog G27 noLT true 1000 70 (argsP [.val (.ag kd2), .val (.ag kd4), .slc kd3 1 8] 0 (litL (mkL x 0 (kdsP [.val (.ag kd2), .val (.ag kd4), .slc kd3 1 8])) 0 4)) (memP [.val (.ag kd2), .val (.ag kd4), .slc kd3 1 8] (litL (mkL x 0 (kdsP [.val (.ag kd2), .val (.ag kd4), .slc kd3 1 8])) 0 4)) [false]).map (fun r => (normR r.1, untupR r.1 && r.1.flat, r.2)) = some (asked_v4 x, true, asked_cs70_4 x) := by kernel_rfl

noncomputable def asked_70_5_a0 (x : Vars) : Vars := validUnitR [(.sint .i8 5), (.flt .f32 (x.u 1)), (.flt .f32 (x.u 2)), (.flt .f32 (x.u 3)), (.flt .f32 (x.u 4)), (.flt .f32 (x.u 5)), (.flt .f32 (x.u 6)), (.flt .f32 (x.u 7)), (.flt .f32 (x.u 8)), (.sint .i8 (x.i 9)), (.flt .f32 (x.u 10)), (.flt .f32 (x.u 11)), (.flt .f32 (x.u 12)), (.flt .f32 (x.u 13)), (.flt .f32 (x.u 14)), (.flt .f32 (x.u 15)), (.flt .f32 (x.u 16)), (.flt .f32 (x.u 17)), (.flt .f32 (x.u 18)), (.flt .f32 (x.u 19)), (.flt .f32 (x.u 20)), (.flt .f32 (x.u 21)), (.flt .f32 (x.u 22)), (.flt .f32 (x.u 23)), (.sint .i8 (x.i 24)), (.flt .f32 (x.u 25)), (.flt .f32 (x.u 26)), (.flt .f32 (x.u 27)), (.flt .f32 (x.u 28)), (.flt .f32 (x.u 29)), (.flt .f32 (x.u 30)), (.flt .f32 (x.u 31)), (.flt .f32 (x.u 32)), (.flt .f32 (x.u 33)), (.flt .f32 (x.u 34)), (.flt .f32 (x.u 35)), (.flt .f32 (x.u 36)), (.flt .f32 (x.u 37)), (.flt .f32 (x.u 38)), (.sint .i8 (x.i 39)), (.flt .f32 (x.u 40)), (.flt .f32 (x.u 41)), (.flt .f32 (x.u 42)), (.flt .f32 (x.u 43)), (.flt .f32 (x.u 44)), (.flt .f32 (x.u 45)), (.flt .f32 (x.u 46)), (.flt .f32 (x.u 47)), (.flt .f32 (x.u 48)), (.flt .f32 (x.u 49)), (.flt .f32 (x.u 50)), (.flt .f32 (x.u 51)), (.flt .f32 (x.u 52)), (.flt .f32 (x.u 53)), (.sint .i8 (x.i 54)), (.flt .f32 (x.u 55)), (.flt .f32 (x.u 56)), (.flt .f32 (x.u 57)), (.flt .f32 (x.u 58)), (.flt .f32 (x.u 59)), (.flt .f32 (x.u 60)), (.flt .f32 (x.u 61)), (.flt .f32 (x.u 62)), (.flt .f32 (x.u 63)), (.flt .f32 (x.u 64)), (.flt .f32 (x.u 65)), (.flt .f32 (x.u 66)), (.flt .f32 (x.u 67)), (.flt .f32 (x.u 68)), (.sint .i8 (x.i 69)), (.flt .f32 (x.u 70)), (.flt .f32 (x.u 71)), (.flt .f32 (x.u 72)), (.flt .f32 (x.u 73)), (.flt .f32 (x.u 74)), (.flt .f32 (x.u 75)), (.flt .f32 (x.u 76)), (.flt .f32 (x.u 77)), (.flt .f32 (x.u 78)), (.flt .f32 (x.u 79)), (.flt .f32 (x.u 80)), (.flt .f32 (x.u 81)), (.flt .f32 (x.u 82)), (.flt .f32 (x.u 83)), (.sint .i8 (x.i 84)), (.flt .f32 (x.u 85)), (.flt .f32 (x.u 86)), (.flt .f32 (x.u 87)), (.flt .f32 (x.u 88)), (.flt .f32 (x.u 89)), (.flt .f32 (x.u 90)), (.flt .f32 (x.u 91)), (.flt .f32 (x.u 92)), (.flt .f32 (x.u 93)), (.flt .f32 (x.u 94)), (.flt .f32 (x.u 95)), (.flt .f32 (x.u 96)), (.flt .f32 (x.u 97)), (.flt .f32 (x.u 98)), (.sint .i8 (x.i 99)), (.flt .f32 (x.u 100)), (.flt .f32 (x.u 101)), (.flt .f32 (x.u 102)), (.flt .f32 (x.u 103)), (.flt .f32 (x.u 104)), (.flt .f32 (x.u 105)), (.flt .f32 (x.u 106)), (.flt .f32 (x.u 107)), (.flt .f32 (x.u 108)), (.flt .f32 (x.u 109)), (.flt .f32 (x.u 110)), (.flt .f32 (x.u 111)), (.flt .f32 (x.u 112)), (.flt .f32 (x.u 113)), (.sint .i8 (x.i 114)), (.flt .f32 (x.u 115)), (.flt .f32 (x.u 116)), (.flt .f32 (x.u 117)), (.flt .f32 (x.u 118)), (.flt .f32 (x.u 119)), (.flt .f32 (x.u 120)), (.flt .f32 (x.u 121)), (.flt .f32 (x.u 122)), (.flt .f32 (x.u 123)), (.flt .f32 (x.u 124)), (.flt .f32 (x.u 125)), (.flt .f32 (x.u 126)), (.flt .f32 (x.u 127)), (.flt .f32 (x.u 128))]

noncomputable def asked_70_5_a1 (x : Vars) : Vars := validSettingR [(.flt .f32 (x.u 129)), (.flt .f32 (x.u 130)), (.flt .f32 (x.u 131)), (.flt .f32 (x.u 132)), (.flt .f32 (x.u 133)), (.flt .f32 (x.u 134)), (.flt .f32 (x.u 135)), (.flt .f32 (x.u 136)), (.flt .f32 (x.u 137)), (.flt .f32 (x.u 138)), (.flt .f32 (x.u 139)), (.flt .f32 (x.u 140)), (.flt .f32 (x.u 141)), (.flt .f32 (x.u 142)), (.flt .f32 (x.u 143)), (.flt .f32 (x.u 144)), (.flt .f32 (x.u 145)), (.flt .f32 (x.u 146)), (.sint .i16 (x.i 147))]


noncomputable def asked_cs70_5 (x : Vars) : List Bool := [(!((!((asked_70_5_a0 x).b 0)) || (!((asked_70_5_a1 x).b 0))))]

set_option maxRecDepth 100000 in
theorem asked_c70_5 (x : Vars) (h0 : askedB0 (mkL x 0 (kdsP [.val (.ag kd2), .val (.ag kd4), .slc kd3 1 8])) = false) (hz : x.i 0 = 5) : ∀ b ∈ asked_cs70_5 x, b = true := by
  unfold asked_cs70_5
  exact (allC (notT ((show (_ : Bool) = askedB0 (normL (litL (mkL x 0 (kdsP [.val (.ag kd2), .val (.ag kd4), .slc kd3 1 8])) 0 5)) from by kernel_rfl).trans ((congrArg askedB0 (litL_mk hz)).trans h0))) allN)

theorem asked_f70_5 (x : Vars) : (funH Try.prog G27 noLT true 1000 70 (argsP [.val (.ag kd2), .val (.ag kd4), .slc kd3 1 8] 0 (litL (mkL x 0 (kdsP [.val (.ag kd2), .val (.ag kd4), .slc kd3 1 8])) 0 5)) (memP [.val (.ag kd2), .val (.ag kd4), .slc kd3 1 8] (litL (mkL x 0 (kdsP [.val (.ag kd2), .val (.ag kd4), .slc kd3 1 8])) 0 5)) [false]).map (fun r => (normR r.1, untupR r.1 && r.1.flat, r.2)) = some (asked_v5 x, true, asked_cs70_5 x) := by kernel_rfl

noncomputable def asked_70_6_a0 (x : Vars) : Vars := validUnitR [(.sint .i8 6), (.flt .f32 (x.u 1)), (.flt .f32 (x.u 2)), (.flt .f32 (x.u 3)), (.flt .f32 (x.u 4)), (.flt .f32 (x.u 5)), (.flt .f32 (x.u 6)), (.flt .f32 (x.u 7)), (.flt .f32 (x.u 8)), (.sint .i8 (x.i 9)), (.flt .f32 (x.u 10)), (.flt .f32 (x.u 11)), (.flt .f32 (x.u 12)), (.flt .f32 (x.u 13)), (.flt .f32 (x.u 14)), (.flt .f32 (x.u 15)), (.flt .f32 (x.u 16)), (.flt .f32 (x.u 17)), (.flt .f32 (x.u 18)), (.flt .f32 (x.u 19)), (.flt .f32 (x.u 20)), (.flt .f32 (x.u 21)), (.flt .f32 (x.u 22)), (.flt .f32 (x.u 23)), (.sint .i8 (x.i 24)), (.flt .f32 (x.u 25)), (.flt .f32 (x.u 26)), (.flt .f32 (x.u 27)), (.flt .f32 (x.u 28)), (.flt .f32 (x.u 29)), (.flt .f32 (x.u 30)), (.flt .f32 (x.u 31)), (.flt .f32 (x.u 32)), (.flt .f32 (x.u 33)), (.flt .f32 (x.u 34)), (.flt .f32 (x.u 35)), (.flt .f32 (x.u 36)), (.flt .f32 (x.u 37)), (.flt .f32 (x.u 38)), (.sint .i8 (x.i 39)), (.flt .f32 (x.u 40)), (.flt .f32 (x.u 41)), (.flt .f32 (x.u 42)), (.flt .f32 (x.u 43)), (.flt .f32 (x.u 44)), (.flt .f32 (x.u 45)), (.flt .f32 (x.u 46)), (.flt .f32 (x.u 47)), (.flt .f32 (x.u 48)), (.flt .f32 (x.u 49)), (.flt .f32 (x.u 50)), (.flt .f32 (x.u 51)), (.flt .f32 (x.u 52)), (.flt .f32 (x.u 53)), (.sint .i8 (x.i 54)), (.flt .f32 (x.u 55)), (.flt .f32 (x.u 56)), (.flt .f32 (x.u 57)), (.flt .f32 (x.u 58)), (.flt .f32 (x.u 59)), (.flt .f32 (x.u 60)), (.flt .f32 (x.u 61)), (.flt .f32 (x.u 62)), (.flt .f32 (x.u 63)), (.flt .f32 (x.u 64)), (.flt .f32 (x.u 65)), (.flt .f32 (x.u 66)), (.flt .f32 (x.u 67)), (.flt .f32 (x.u 68)), (.sint .i8 (x.i 69)), (.flt .f32 (x.u 70)), (.flt .f32 (x.u 71)), (.flt .f32 (x.u 72)), (.flt .f32 (x.u 73)), (.flt .f32 (x.u 74)), (.flt .f32 (x.u 75)), (.flt .f32 (x.u 76)), (.flt .f32 (x.u 77)), (.flt .f32 (x.u 78)), (.flt .f32 (x.u 79)), (.flt .f32 (x.u 80)), (.flt .f32 (x.u 81)), (.flt .f32 (x.u 82)), (.flt .f32 (x.u 83)), (.sint .i8 (x.i 84)), (.flt .f32 (x.u 85)), (.flt .f32 (x.u 86)), (.flt .f32 (x.u 87)), (.flt .f32 (x.u 88)), (.flt .f32 (x.u 89)), (.flt .f32 (x.u 90)), (.flt .f32 (x.u 91)), (.flt .f32 (x.u 92)), (.flt .f32 (x.u 93)), (.flt .f32 (x.u 94)), (.flt .f32 (x.u 95)), (.flt .f32 (x.u 96)), (.flt .f32 (x.u 97)), (.flt .f32 (x.u 98)), (.sint .i8 (x.i 99)), (.flt .f32 (x.u 100)), (.flt .f32 (x.u 101)), (.flt .f32 (x.u 102)), (.flt .f32 (x.u 103)), (.flt .f32 (x.u 104)), (.flt .f32 (x.u 105)), (.flt .f32 (x.u 106)), (.flt .f32 (x.u 107)), (.flt .f32 (x.u 108)), (.flt .f32 (x.u 109)), (.flt .f32 (x.u 110)), (.flt .f32 (x.u 111)), (.flt .f32 (x.u 112)), (.flt .f32 (x.u 113)), (.sint .i8 (x.i 114)), (.flt .f32 (x.u 115)), (.flt .f32 (x.u 116)), (.flt .f32 (x.u 117)), (.flt .f32 (x.u 118)), (.flt .f32 (x.u 119)), (.flt .f32 (x.u 120)), (.flt .f32 (x.u 121)), (.flt .f32 (x.u 122)), (.flt .f32 (x.u 123)), (.flt .f32 (x.u 124)), (.flt .f32 (x.u 125)), (.flt .f32 (x.u 126)), (.flt .f32 (x.u 127)), (.flt .f32 (x.u 128))]

noncomputable def asked_70_6_a1 (x : Vars) : Vars := validSettingR [(.flt .f32 (x.u 129)), (.flt .f32 (x.u 130)), (.flt .f32 (x.u 131)), (.flt .f32 (x.u 132)), (.flt .f32 (x.u 133)), (.flt .f32 (x.u 134)), (.flt .f32 (x.u 135)), (.flt .f32 (x.u 136)), (.flt .f32 (x.u 137)), (.flt .f32 (x.u 138)), (.flt .f32 (x.u 139)), (.flt .f32 (x.u 140)), (.flt .f32 (x.u 141)), (.flt .f32 (x.u 142)), (.flt .f32 (x.u 143)), (.flt .f32 (x.u 144)), (.flt .f32 (x.u 145)), (.flt .f32 (x.u 146)), (.sint .i16 (x.i 147))]


noncomputable def asked_cs70_6 (x : Vars) : List Bool := [(!((!((asked_70_6_a0 x).b 0)) || (!((asked_70_6_a1 x).b 0))))]

set_option maxRecDepth 100000 in
theorem asked_c70_6 (x : Vars) (h0 : askedB0 (mkL x 0 (kdsP [.val (.ag kd2), .val (.ag kd4), .slc kd3 1 8])) = false) (hz : x.i 0 = 6) : ∀ b ∈ asked_cs70_6 x, b = true := by
  unfold asked_cs70_6
  exact (allC (notT ((show (_ : Bool) = askedB0 (normL (litL (mkL x 0 (kdsP [.val (.ag kd2), .val (.ag kd4), .slc kd3 1 8])) 0 6)) from by kernel_rfl).trans ((congrArg askedB0 (litL_mk hz)).trans h0))) allN)

theorem asked_f70_6 (x : Vars) : (funH Try.prog G27 noLT true 1000 70 (argsP [.val (.ag kd2), .val (.ag kd4), .slc kd3 1 8] 0 (litL (mkL x 0 (kdsP [.val (.ag kd2), .val (.ag kd4), .slc kd3 1 8])) 0 6)) (memP [.val (.ag kd2), .val (.ag kd4), .slc kd3 1 8] (litL (mkL x 0 (kdsP [.val (.ag kd2), .val (.ag kd4), .slc kd3 1 8])) 0 6)) [false]).map (fun r => (normR r.1, untupR r.1 && r.1.flat, r.2)) = some (asked_v6 x, true, asked_cs70_6 x) := by kernel_rfl

noncomputable def asked_70_7_a0 (x : Vars) : Vars := validUnitR [(.sint .i8 7), (.flt .f32 (x.u 1)), (.flt .f32 (x.u 2)), (.flt .f32 (x.u 3)), (.flt .f32 (x.u 4)), (.flt .f32 (x.u 5)), (.flt .f32 (x.u 6)), (.flt .f32 (x.u 7)), (.flt .f32 (x.u 8)), (.sint .i8 (x.i 9)), (.flt .f32 (x.u 10)), (.flt .f32 (x.u 11)), (.flt .f32 (x.u 12)), (.flt .f32 (x.u 13)), (.flt .f32 (x.u 14)), (.flt .f32 (x.u 15)), (.flt .f32 (x.u 16)), (.flt .f32 (x.u 17)), (.flt .f32 (x.u 18)), (.flt .f32 (x.u 19)), (.flt .f32 (x.u 20)), (.flt .f32 (x.u 21)), (.flt .f32 (x.u 22)), (.flt .f32 (x.u 23)), (.sint .i8 (x.i 24)), (.flt .f32 (x.u 25)), (.flt .f32 (x.u 26)), (.flt .f32 (x.u 27)), (.flt .f32 (x.u 28)), (.flt .f32 (x.u 29)), (.flt .f32 (x.u 30)), (.flt .f32 (x.u 31)), (.flt .f32 (x.u 32)), (.flt .f32 (x.u 33)), (.flt .f32 (x.u 34)), (.flt .f32 (x.u 35)), (.flt .f32 (x.u 36)), (.flt .f32 (x.u 37)), (.flt .f32 (x.u 38)), (.sint .i8 (x.i 39)), (.flt .f32 (x.u 40)), (.flt .f32 (x.u 41)), (.flt .f32 (x.u 42)), (.flt .f32 (x.u 43)), (.flt .f32 (x.u 44)), (.flt .f32 (x.u 45)), (.flt .f32 (x.u 46)), (.flt .f32 (x.u 47)), (.flt .f32 (x.u 48)), (.flt .f32 (x.u 49)), (.flt .f32 (x.u 50)), (.flt .f32 (x.u 51)), (.flt .f32 (x.u 52)), (.flt .f32 (x.u 53)), (.sint .i8 (x.i 54)), (.flt .f32 (x.u 55)), (.flt .f32 (x.u 56)), (.flt .f32 (x.u 57)), (.flt .f32 (x.u 58)), (.flt .f32 (x.u 59)), (.flt .f32 (x.u 60)), (.flt .f32 (x.u 61)), (.flt .f32 (x.u 62)), (.flt .f32 (x.u 63)), (.flt .f32 (x.u 64)), (.flt .f32 (x.u 65)), (.flt .f32 (x.u 66)), (.flt .f32 (x.u 67)), (.flt .f32 (x.u 68)), (.sint .i8 (x.i 69)), (.flt .f32 (x.u 70)), (.flt .f32 (x.u 71)), (.flt .f32 (x.u 72)), (.flt .f32 (x.u 73)), (.flt .f32 (x.u 74)), (.flt .f32 (x.u 75)), (.flt .f32 (x.u 76)), (.flt .f32 (x.u 77)), (.flt .f32 (x.u 78)), (.flt .f32 (x.u 79)), (.flt .f32 (x.u 80)), (.flt .f32 (x.u 81)), (.flt .f32 (x.u 82)), (.flt .f32 (x.u 83)), (.sint .i8 (x.i 84)), (.flt .f32 (x.u 85)), (.flt .f32 (x.u 86)), (.flt .f32 (x.u 87)), (.flt .f32 (x.u 88)), (.flt .f32 (x.u 89)), (.flt .f32 (x.u 90)), (.flt .f32 (x.u 91)), (.flt .f32 (x.u 92)), (.flt .f32 (x.u 93)), (.flt .f32 (x.u 94)), (.flt .f32 (x.u 95)), (.flt .f32 (x.u 96)), (.flt .f32 (x.u 97)), (.flt .f32 (x.u 98)), (.sint .i8 (x.i 99)), (.flt .f32 (x.u 100)), (.flt .f32 (x.u 101)), (.flt .f32 (x.u 102)), (.flt .f32 (x.u 103)), (.flt .f32 (x.u 104)), (.flt .f32 (x.u 105)), (.flt .f32 (x.u 106)), (.flt .f32 (x.u 107)), (.flt .f32 (x.u 108)), (.flt .f32 (x.u 109)), (.flt .f32 (x.u 110)), (.flt .f32 (x.u 111)), (.flt .f32 (x.u 112)), (.flt .f32 (x.u 113)), (.sint .i8 (x.i 114)), (.flt .f32 (x.u 115)), (.flt .f32 (x.u 116)), (.flt .f32 (x.u 117)), (.flt .f32 (x.u 118)), (.flt .f32 (x.u 119)), (.flt .f32 (x.u 120)), (.flt .f32 (x.u 121)), (.flt .f32 (x.u 122)), (.flt .f32 (x.u 123)), (.flt .f32 (x.u 124)), (.flt .f32 (x.u 125)), (.flt .f32 (x.u 126)), (.flt .f32 (x.u 127)), (.flt .f32 (x.u 128))]

noncomputable def asked_70_7_a1 (x : Vars) : Vars := validSettingR [(.flt .f32 (x.u 129)), (.flt .f32 (x.u 130)), (.flt .f32 (x.u 131)), (.flt .f32 (x.u 132)), (.flt .f32 (x.u 133)), (.flt .f32 (x.u 134)), (.flt .f32 (x.u 135)), (.flt .f32 (x.u 136)), (.flt .f32 (x.u 137)), (.flt .f32 (x.u 138)), (.flt .f32 (x.u 139)), (.flt .f32 (x.u 140)), (.flt .f32 (x.u 141)), (.flt .f32 (x.u 142)), (.flt .f32 (x.u 143)), (.flt .f32 (x.u 144)), (.flt .f32 (x.u 145)), (.flt .f32 (x.u 146)), (.sint .i16 (x.i 147))]


noncomputable def asked_cs70_7 (x : Vars) : List Bool := [(!((!((asked_70_7_a0 x).b 0)) || (!((asked_70_7_a1 x).b 0))))]

set_option maxRecDepth 100000 in
theorem asked_c70_7 (x : Vars) (h0 : askedB0 (mkL x 0 (kdsP [.val (.ag kd2), .val (.ag kd4), .slc kd3 1 8])) = false) (hz : x.i 0 = 7) : ∀ b ∈ asked_cs70_7 x, b = true := by
  unfold asked_cs70_7
  exact (allC (notT ((show (_ : Bool) = askedB0 (normL (litL (mkL x 0 (kdsP [.val (.ag kd2), .val (.ag kd4), .slc kd3 1 8])) 0 7)) from by kernel_rfl).trans ((congrArg askedB0 (litL_mk hz)).trans h0))) allN)

theorem asked_f70_7 (x : Vars) : (funH Try.prog G27 noLT true 1000 70 (argsP [.val (.ag kd2), .val (.ag kd4), .slc kd3 1 8] 0 (litL (mkL x 0 (kdsP [.val (.ag kd2), .val (.ag kd4), .slc kd3 1 8])) 0 7)) (memP [.val (.ag kd2), .val (.ag kd4), .slc kd3 1 8] (litL (mkL x 0 (kdsP [.val (.ag kd2), .val (.ag kd4), .slc kd3 1 8])) 0 7)) [false]).map (fun r => (normR r.1, untupR r.1 && r.1.flat, r.2)) = some (asked_v7 x, true, asked_cs70_7 x) := by kernel_rfl

noncomputable def asked_70_8_a0 (x : Vars) : Vars := validUnitR [(.sint .i8 8), (.flt .f32 (x.u 1)), (.flt .f32 (x.u 2)), (.flt .f32 (x.u 3)), (.flt .f32 (x.u 4)), (.flt .f32 (x.u 5)), (.flt .f32 (x.u 6)), (.flt .f32 (x.u 7)), (.flt .f32 (x.u 8)), (.sint .i8 (x.i 9)), (.flt .f32 (x.u 10)), (.flt .f32 (x.u 11)), (.flt .f32 (x.u 12)), (.flt .f32 (x.u 13)), (.flt .f32 (x.u 14)), (.flt .f32 (x.u 15)), (.flt .f32 (x.u 16)), (.flt .f32 (x.u 17)), (.flt .f32 (x.u 18)), (.flt .f32 (x.u 19)), (.flt .f32 (x.u 20)), (.flt .f32 (x.u 21)), (.flt .f32 (x.u 22)), (.flt .f32 (x.u 23)), (.sint .i8 (x.i 24)), (.flt .f32 (x.u 25)), (.flt .f32 (x.u 26)), (.flt .f32 (x.u 27)), (.flt .f32 (x.u 28)), (.flt .f32 (x.u 29)), (.flt .f32 (x.u 30)), (.flt .f32 (x.u 31)), (.flt .f32 (x.u 32)), (.flt .f32 (x.u 33)), (.flt .f32 (x.u 34)), (.flt .f32 (x.u 35)), (.flt .f32 (x.u 36)), (.flt .f32 (x.u 37)), (.flt .f32 (x.u 38)), (.sint .i8 (x.i 39)), (.flt .f32 (x.u 40)), (.flt .f32 (x.u 41)), (.flt .f32 (x.u 42)), (.flt .f32 (x.u 43)), (.flt .f32 (x.u 44)), (.flt .f32 (x.u 45)), (.flt .f32 (x.u 46)), (.flt .f32 (x.u 47)), (.flt .f32 (x.u 48)), (.flt .f32 (x.u 49)), (.flt .f32 (x.u 50)), (.flt .f32 (x.u 51)), (.flt .f32 (x.u 52)), (.flt .f32 (x.u 53)), (.sint .i8 (x.i 54)), (.flt .f32 (x.u 55)), (.flt .f32 (x.u 56)), (.flt .f32 (x.u 57)), (.flt .f32 (x.u 58)), (.flt .f32 (x.u 59)), (.flt .f32 (x.u 60)), (.flt .f32 (x.u 61)), (.flt .f32 (x.u 62)), (.flt .f32 (x.u 63)), (.flt .f32 (x.u 64)), (.flt .f32 (x.u 65)), (.flt .f32 (x.u 66)), (.flt .f32 (x.u 67)), (.flt .f32 (x.u 68)), (.sint .i8 (x.i 69)), (.flt .f32 (x.u 70)), (.flt .f32 (x.u 71)), (.flt .f32 (x.u 72)), (.flt .f32 (x.u 73)), (.flt .f32 (x.u 74)), (.flt .f32 (x.u 75)), (.flt .f32 (x.u 76)), (.flt .f32 (x.u 77)), (.flt .f32 (x.u 78)), (.flt .f32 (x.u 79)), (.flt .f32 (x.u 80)), (.flt .f32 (x.u 81)), (.flt .f32 (x.u 82)), (.flt .f32 (x.u 83)), (.sint .i8 (x.i 84)), (.flt .f32 (x.u 85)), (.flt .f32 (x.u 86)), (.flt .f32 (x.u 87)), (.flt .f32 (x.u 88)), (.flt .f32 (x.u 89)), (.flt .f32 (x.u 90)), (.flt .f32 (x.u 91)), (.flt .f32 (x.u 92)), (.flt .f32 (x.u 93)), (.flt .f32 (x.u 94)), (.flt .f32 (x.u 95)), (.flt .f32 (x.u 96)), (.flt .f32 (x.u 97)), (.flt .f32 (x.u 98)), (.sint .i8 (x.i 99)), (.flt .f32 (x.u 100)), (.flt .f32 (x.u 101)), (.flt .f32 (x.u 102)), (.flt .f32 (x.u 103)), (.flt .f32 (x.u 104)), (.flt .f32 (x.u 105)), (.flt .f32 (x.u 106)), (.flt .f32 (x.u 107)), (.flt .f32 (x.u 108)), (.flt .f32 (x.u 109)), (.flt .f32 (x.u 110)), (.flt .f32 (x.u 111)), (.flt .f32 (x.u 112)), (.flt .f32 (x.u 113)), (.sint .i8 (x.i 114)), (.flt .f32 (x.u 115)), (.flt .f32 (x.u 116)), (.flt .f32 (x.u 117)), (.flt .f32 (x.u 118)), (.flt .f32 (x.u 119)), (.flt .f32 (x.u 120)), (.flt .f32 (x.u 121)), (.flt .f32 (x.u 122)), (.flt .f32 (x.u 123)), (.flt .f32 (x.u 124)), (.flt .f32 (x.u 125)), (.flt .f32 (x.u 126)), (.flt .f32 (x.u 127)), (.flt .f32 (x.u 128))]

noncomputable def asked_70_8_a1 (x : Vars) : Vars := validSettingR [(.flt .f32 (x.u 129)), (.flt .f32 (x.u 130)), (.flt .f32 (x.u 131)), (.flt .f32 (x.u 132)), (.flt .f32 (x.u 133)), (.flt .f32 (x.u 134)), (.flt .f32 (x.u 135)), (.flt .f32 (x.u 136)), (.flt .f32 (x.u 137)), (.flt .f32 (x.u 138)), (.flt .f32 (x.u 139)), (.flt .f32 (x.u 140)), (.flt .f32 (x.u 141)), (.flt .f32 (x.u 142)), (.flt .f32 (x.u 143)), (.flt .f32 (x.u 144)), (.flt .f32 (x.u 145)), (.flt .f32 (x.u 146)), (.sint .i16 (x.i 147))]


noncomputable def asked_cs70_8 (x : Vars) : List Bool := [(!((!((asked_70_8_a0 x).b 0)) || (!((asked_70_8_a1 x).b 0))))]

set_option maxRecDepth 100000 in
theorem asked_c70_8 (x : Vars) (h0 : askedB0 (mkL x 0 (kdsP [.val (.ag kd2), .val (.ag kd4), .slc kd3 1 8])) = false) (hz : x.i 0 = 8) : ∀ b ∈ asked_cs70_8 x, b = true := by
  unfold asked_cs70_8
  exact (allC (notT ((show (_ : Bool) = askedB0 (normL (litL (mkL x 0 (kdsP [.val (.ag kd2), .val (.ag kd4), .slc kd3 1 8])) 0 8)) from by kernel_rfl).trans ((congrArg askedB0 (litL_mk hz)).trans h0))) allN)

theorem asked_f70_8 (x : Vars) : (funH Try.prog G27 noLT true 1000 70 (argsP [.val (.ag kd2), .val (.ag kd4), .slc kd3 1 8] 0 (litL (mkL x 0 (kdsP [.val (.ag kd2), .val (.ag kd4), .slc kd3 1 8])) 0 8)) (memP [.val (.ag kd2), .val (.ag kd4), .slc kd3 1 8] (litL (mkL x 0 (kdsP [.val (.ag kd2), .val (.ag kd4), .slc kd3 1 8])) 0 8)) [false]).map (fun r => (normR r.1, untupR r.1 && r.1.flat, r.2)) = some (asked_v8 x, true, asked_cs70_8 x) := by kernel_rfl

theorem asked_ev70 (x : Vars) (_ho : OkV (kdsP [.val (.ag kd2), .val (.ag kd4), .slc kd3 1 8]) x) : EvP Try.prog G27 70 [.val (.ag kd2), .val (.ag kd4), .slc kd3 1 8] [.sc (.int .i64)] (mkL x 0 (kdsP [.val (.ag kd2), .val (.ag kd4), .slc kd3 1 8])) (askedR0 (mkL x 0 (kdsP [.val (.ag kd2), .val (.ag kd4), .slc kd3 1 8]))) := by
  cases h0 : askedB0 (mkL x 0 (kdsP [.val (.ag kd2), .val (.ag kd4), .slc kd3 1 8])) with
  | true =>
    have e : askedR0 (mkL x 0 (kdsP [.val (.ag kd2), .val (.ag kd4), .slc kd3 1 8])) = askedZE0 (mkL x 0 (kdsP [.val (.ag kd2), .val (.ag kd4), .slc kd3 1 8])) := by unfold askedR0; rw [h0]; rfl
    rw [e]
    exact EvP.ofH (H := noLT) (J := true) (HFun.none Try.prog _ 70) (mkL_norm ..) (by rw [asked_xE0]; exact asked_f70_E0 x) (asked_c70_E0 x h0)
  | false =>
  have hr := askedRng x h0
  have : x.i 0 = 1 ∨ x.i 0 = 2 ∨ x.i 0 = 3 ∨ x.i 0 = 4 ∨ x.i 0 = 5 ∨ x.i 0 = 6 ∨ x.i 0 = 7 ∨ x.i 0 = 8 := by omega
  rcases this with hz | hz | hz | hz | hz | hz | hz | hz
  · have e : askedR0 (mkL x 0 (kdsP [.val (.ag kd2), .val (.ag kd4), .slc kd3 1 8])) = askedZ1 (mkL x 0 (kdsP [.val (.ag kd2), .val (.ag kd4), .slc kd3 1 8])) := by
      unfold askedR0
      have hz : intOf (leafN (mkL x 0 (kdsP [.val (.ag kd2), .val (.ag kd4), .slc kd3 1 8])) 0) = 1 := hz
      rw [h0, hz]
      rfl
    rw [e]
    exact EvP.ofH (H := noLT) (J := true) (HFun.none Try.prog _ 70) (litL_mk hz) (by rw [asked_x1]; exact asked_f70_1 x) (asked_c70_1 x h0 hz)
  · have e : askedR0 (mkL x 0 (kdsP [.val (.ag kd2), .val (.ag kd4), .slc kd3 1 8])) = askedZ2 (mkL x 0 (kdsP [.val (.ag kd2), .val (.ag kd4), .slc kd3 1 8])) := by
      unfold askedR0
      have hz : intOf (leafN (mkL x 0 (kdsP [.val (.ag kd2), .val (.ag kd4), .slc kd3 1 8])) 0) = 2 := hz
      rw [h0, hz]
      rfl
    rw [e]
    exact EvP.ofH (H := noLT) (J := true) (HFun.none Try.prog _ 70) (litL_mk hz) (by rw [asked_x2]; exact asked_f70_2 x) (asked_c70_2 x h0 hz)
  · have e : askedR0 (mkL x 0 (kdsP [.val (.ag kd2), .val (.ag kd4), .slc kd3 1 8])) = askedZ3 (mkL x 0 (kdsP [.val (.ag kd2), .val (.ag kd4), .slc kd3 1 8])) := by
      unfold askedR0
      have hz : intOf (leafN (mkL x 0 (kdsP [.val (.ag kd2), .val (.ag kd4), .slc kd3 1 8])) 0) = 3 := hz
      rw [h0, hz]
      rfl
    rw [e]
    exact EvP.ofH (H := noLT) (J := true) (HFun.none Try.prog _ 70) (litL_mk hz) (by rw [asked_x3]; exact asked_f70_3 x) (asked_c70_3 x h0 hz)
  · have e : askedR0 (mkL x 0 (kdsP [.val (.ag kd2), .val (.ag kd4), .slc kd3 1 8])) = askedZ4 (mkL x 0 (kdsP [.val (.ag kd2), .val (.ag kd4), .slc kd3 1 8])) := by
      unfold askedR0
      have hz : intOf (leafN (mkL x 0 (kdsP [.val (.ag kd2), .val (.ag kd4), .slc kd3 1 8])) 0) = 4 := hz
      rw [h0, hz]
      rfl
    rw [e]
    exact EvP.ofH (H := noLT) (J := true) (HFun.none Try.prog _ 70) (litL_mk hz) (by rw [asked_x4]; exact asked_f70_4 x) (asked_c70_4 x h0 hz)
  · have e : askedR0 (mkL x 0 (kdsP [.val (.ag kd2), .val (.ag kd4), .slc kd3 1 8])) = askedZ5 (mkL x 0 (kdsP [.val (.ag kd2), .val (.ag kd4), .slc kd3 1 8])) := by
      unfold askedR0
      have hz : intOf (leafN (mkL x 0 (kdsP [.val (.ag kd2), .val (.ag kd4), .slc kd3 1 8])) 0) = 5 := hz
      rw [h0, hz]
      rfl
    rw [e]
    exact EvP.ofH (H := noLT) (J := true) (HFun.none Try.prog _ 70) (litL_mk hz) (by rw [asked_x5]; exact asked_f70_5 x) (asked_c70_5 x h0 hz)
  · have e : askedR0 (mkL x 0 (kdsP [.val (.ag kd2), .val (.ag kd4), .slc kd3 1 8])) = askedZ6 (mkL x 0 (kdsP [.val (.ag kd2), .val (.ag kd4), .slc kd3 1 8])) := by
      unfold askedR0
      have hz : intOf (leafN (mkL x 0 (kdsP [.val (.ag kd2), .val (.ag kd4), .slc kd3 1 8])) 0) = 6 := hz
      rw [h0, hz]
      rfl
    rw [e]
    exact EvP.ofH (H := noLT) (J := true) (HFun.none Try.prog _ 70) (litL_mk hz) (by rw [asked_x6]; exact asked_f70_6 x) (asked_c70_6 x h0 hz)
  · have e : askedR0 (mkL x 0 (kdsP [.val (.ag kd2), .val (.ag kd4), .slc kd3 1 8])) = askedZ7 (mkL x 0 (kdsP [.val (.ag kd2), .val (.ag kd4), .slc kd3 1 8])) := by
      unfold askedR0
      have hz : intOf (leafN (mkL x 0 (kdsP [.val (.ag kd2), .val (.ag kd4), .slc kd3 1 8])) 0) = 7 := hz
      rw [h0, hz]
      rfl
    rw [e]
    exact EvP.ofH (H := noLT) (J := true) (HFun.none Try.prog _ 70) (litL_mk hz) (by rw [asked_x7]; exact asked_f70_7 x) (asked_c70_7 x h0 hz)
  · have e : askedR0 (mkL x 0 (kdsP [.val (.ag kd2), .val (.ag kd4), .slc kd3 1 8])) = askedZ8 (mkL x 0 (kdsP [.val (.ag kd2), .val (.ag kd4), .slc kd3 1 8])) := by
      unfold askedR0
      have hz : intOf (leafN (mkL x 0 (kdsP [.val (.ag kd2), .val (.ag kd4), .slc kd3 1 8])) 0) = 8 := hz
      rw [h0, hz]
      rfl
    rw [e]
    exact EvP.ofH (H := noLT) (J := true) (HFun.none Try.prog _ 70) (litL_mk hz) (by rw [asked_x8]; exact asked_f70_8 x) (asked_c70_8 x h0 hz)

noncomputable def asked_68_E0_a0 (x : Vars) : Vars := validUnitR [(.sint .i8 (x.i 0)), (.flt .f32 (x.u 1)), (.flt .f32 (x.u 2)), (.flt .f32 (x.u 3)), (.flt .f32 (x.u 4)), (.flt .f32 (x.u 5)), (.flt .f32 (x.u 6)), (.flt .f32 (x.u 7)), (.flt .f32 (x.u 8)), (.sint .i8 (x.i 9)), (.flt .f32 (x.u 10)), (.flt .f32 (x.u 11)), (.flt .f32 (x.u 12)), (.flt .f32 (x.u 13)), (.flt .f32 (x.u 14)), (.flt .f32 (x.u 15)), (.flt .f32 (x.u 16)), (.flt .f32 (x.u 17)), (.flt .f32 (x.u 18)), (.flt .f32 (x.u 19)), (.flt .f32 (x.u 20)), (.flt .f32 (x.u 21)), (.flt .f32 (x.u 22)), (.flt .f32 (x.u 23)), (.sint .i8 (x.i 24)), (.flt .f32 (x.u 25)), (.flt .f32 (x.u 26)), (.flt .f32 (x.u 27)), (.flt .f32 (x.u 28)), (.flt .f32 (x.u 29)), (.flt .f32 (x.u 30)), (.flt .f32 (x.u 31)), (.flt .f32 (x.u 32)), (.flt .f32 (x.u 33)), (.flt .f32 (x.u 34)), (.flt .f32 (x.u 35)), (.flt .f32 (x.u 36)), (.flt .f32 (x.u 37)), (.flt .f32 (x.u 38)), (.sint .i8 (x.i 39)), (.flt .f32 (x.u 40)), (.flt .f32 (x.u 41)), (.flt .f32 (x.u 42)), (.flt .f32 (x.u 43)), (.flt .f32 (x.u 44)), (.flt .f32 (x.u 45)), (.flt .f32 (x.u 46)), (.flt .f32 (x.u 47)), (.flt .f32 (x.u 48)), (.flt .f32 (x.u 49)), (.flt .f32 (x.u 50)), (.flt .f32 (x.u 51)), (.flt .f32 (x.u 52)), (.flt .f32 (x.u 53)), (.sint .i8 (x.i 54)), (.flt .f32 (x.u 55)), (.flt .f32 (x.u 56)), (.flt .f32 (x.u 57)), (.flt .f32 (x.u 58)), (.flt .f32 (x.u 59)), (.flt .f32 (x.u 60)), (.flt .f32 (x.u 61)), (.flt .f32 (x.u 62)), (.flt .f32 (x.u 63)), (.flt .f32 (x.u 64)), (.flt .f32 (x.u 65)), (.flt .f32 (x.u 66)), (.flt .f32 (x.u 67)), (.flt .f32 (x.u 68)), (.sint .i8 (x.i 69)), (.flt .f32 (x.u 70)), (.flt .f32 (x.u 71)), (.flt .f32 (x.u 72)), (.flt .f32 (x.u 73)), (.flt .f32 (x.u 74)), (.flt .f32 (x.u 75)), (.flt .f32 (x.u 76)), (.flt .f32 (x.u 77)), (.flt .f32 (x.u 78)), (.flt .f32 (x.u 79)), (.flt .f32 (x.u 80)), (.flt .f32 (x.u 81)), (.flt .f32 (x.u 82)), (.flt .f32 (x.u 83)), (.sint .i8 (x.i 84)), (.flt .f32 (x.u 85)), (.flt .f32 (x.u 86)), (.flt .f32 (x.u 87)), (.flt .f32 (x.u 88)), (.flt .f32 (x.u 89)), (.flt .f32 (x.u 90)), (.flt .f32 (x.u 91)), (.flt .f32 (x.u 92)), (.flt .f32 (x.u 93)), (.flt .f32 (x.u 94)), (.flt .f32 (x.u 95)), (.flt .f32 (x.u 96)), (.flt .f32 (x.u 97)), (.flt .f32 (x.u 98)), (.sint .i8 (x.i 99)), (.flt .f32 (x.u 100)), (.flt .f32 (x.u 101)), (.flt .f32 (x.u 102)), (.flt .f32 (x.u 103)), (.flt .f32 (x.u 104)), (.flt .f32 (x.u 105)), (.flt .f32 (x.u 106)), (.flt .f32 (x.u 107)), (.flt .f32 (x.u 108)), (.flt .f32 (x.u 109)), (.flt .f32 (x.u 110)), (.flt .f32 (x.u 111)), (.flt .f32 (x.u 112)), (.flt .f32 (x.u 113)), (.sint .i8 (x.i 114)), (.flt .f32 (x.u 115)), (.flt .f32 (x.u 116)), (.flt .f32 (x.u 117)), (.flt .f32 (x.u 118)), (.flt .f32 (x.u 119)), (.flt .f32 (x.u 120)), (.flt .f32 (x.u 121)), (.flt .f32 (x.u 122)), (.flt .f32 (x.u 123)), (.flt .f32 (x.u 124)), (.flt .f32 (x.u 125)), (.flt .f32 (x.u 126)), (.flt .f32 (x.u 127)), (.flt .f32 (x.u 128))]

noncomputable def asked_68_E0_a1 (x : Vars) : Vars := validSettingR [(.flt .f32 (x.u 129)), (.flt .f32 (x.u 130)), (.flt .f32 (x.u 131)), (.flt .f32 (x.u 132)), (.flt .f32 (x.u 133)), (.flt .f32 (x.u 134)), (.flt .f32 (x.u 135)), (.flt .f32 (x.u 136)), (.flt .f32 (x.u 137)), (.flt .f32 (x.u 138)), (.flt .f32 (x.u 139)), (.flt .f32 (x.u 140)), (.flt .f32 (x.u 141)), (.flt .f32 (x.u 142)), (.flt .f32 (x.u 143)), (.flt .f32 (x.u 144)), (.flt .f32 (x.u 145)), (.flt .f32 (x.u 146)), (.sint .i16 (x.i 147))]


noncomputable def asked_cs68_E0 (x : Vars) : List Bool := [((!((asked_68_E0_a0 x).b 0)) || (!((asked_68_E0_a1 x).b 0)))]

set_option maxRecDepth 100000 in
theorem asked_c68_E0 (x : Vars) (h0 : askedB0 (mkL x 0 (kdsP [.val (.ag kd2), .val (.ag kd4), .slc kd3 1 8])) = true) : ∀ b ∈ asked_cs68_E0 x, b = true := by
  unfold asked_cs68_E0
  exact (allC ((show (_ : Bool) = askedB0 (mkL x 0 (kdsP [.val (.ag kd2), .val (.ag kd4), .slc kd3 1 8])) from by kernel_rfl).trans h0) allN)

theorem asked_f68_E0 (x : Vars) : (funH Try.prog G27 noLT true 1000 68 (argsP [.ptr kd2, .ptr kd4, .slc kd3 1 8] 0 (mkL x 0 (kdsP [.val (.ag kd2), .val (.ag kd4), .slc kd3 1 8]))) (memP [.ptr kd2, .ptr kd4, .slc kd3 1 8] (mkL x 0 (kdsP [.val (.ag kd2), .val (.ag kd4), .slc kd3 1 8]))) [true]).map (fun r => (normR r.1, untupR r.1 && r.1.flat, r.2)) = some (asked_vE0 x, true, asked_cs68_E0 x) := by kernel_rfl

noncomputable def asked_68_1_a0 (x : Vars) : Vars := validUnitR [(.sint .i8 1), (.flt .f32 (x.u 1)), (.flt .f32 (x.u 2)), (.flt .f32 (x.u 3)), (.flt .f32 (x.u 4)), (.flt .f32 (x.u 5)), (.flt .f32 (x.u 6)), (.flt .f32 (x.u 7)), (.flt .f32 (x.u 8)), (.sint .i8 (x.i 9)), (.flt .f32 (x.u 10)), (.flt .f32 (x.u 11)), (.flt .f32 (x.u 12)), (.flt .f32 (x.u 13)), (.flt .f32 (x.u 14)), (.flt .f32 (x.u 15)), (.flt .f32 (x.u 16)), (.flt .f32 (x.u 17)), (.flt .f32 (x.u 18)), (.flt .f32 (x.u 19)), (.flt .f32 (x.u 20)), (.flt .f32 (x.u 21)), (.flt .f32 (x.u 22)), (.flt .f32 (x.u 23)), (.sint .i8 (x.i 24)), (.flt .f32 (x.u 25)), (.flt .f32 (x.u 26)), (.flt .f32 (x.u 27)), (.flt .f32 (x.u 28)), (.flt .f32 (x.u 29)), (.flt .f32 (x.u 30)), (.flt .f32 (x.u 31)), (.flt .f32 (x.u 32)), (.flt .f32 (x.u 33)), (.flt .f32 (x.u 34)), (.flt .f32 (x.u 35)), (.flt .f32 (x.u 36)), (.flt .f32 (x.u 37)), (.flt .f32 (x.u 38)), (.sint .i8 (x.i 39)), (.flt .f32 (x.u 40)), (.flt .f32 (x.u 41)), (.flt .f32 (x.u 42)), (.flt .f32 (x.u 43)), (.flt .f32 (x.u 44)), (.flt .f32 (x.u 45)), (.flt .f32 (x.u 46)), (.flt .f32 (x.u 47)), (.flt .f32 (x.u 48)), (.flt .f32 (x.u 49)), (.flt .f32 (x.u 50)), (.flt .f32 (x.u 51)), (.flt .f32 (x.u 52)), (.flt .f32 (x.u 53)), (.sint .i8 (x.i 54)), (.flt .f32 (x.u 55)), (.flt .f32 (x.u 56)), (.flt .f32 (x.u 57)), (.flt .f32 (x.u 58)), (.flt .f32 (x.u 59)), (.flt .f32 (x.u 60)), (.flt .f32 (x.u 61)), (.flt .f32 (x.u 62)), (.flt .f32 (x.u 63)), (.flt .f32 (x.u 64)), (.flt .f32 (x.u 65)), (.flt .f32 (x.u 66)), (.flt .f32 (x.u 67)), (.flt .f32 (x.u 68)), (.sint .i8 (x.i 69)), (.flt .f32 (x.u 70)), (.flt .f32 (x.u 71)), (.flt .f32 (x.u 72)), (.flt .f32 (x.u 73)), (.flt .f32 (x.u 74)), (.flt .f32 (x.u 75)), (.flt .f32 (x.u 76)), (.flt .f32 (x.u 77)), (.flt .f32 (x.u 78)), (.flt .f32 (x.u 79)), (.flt .f32 (x.u 80)), (.flt .f32 (x.u 81)), (.flt .f32 (x.u 82)), (.flt .f32 (x.u 83)), (.sint .i8 (x.i 84)), (.flt .f32 (x.u 85)), (.flt .f32 (x.u 86)), (.flt .f32 (x.u 87)), (.flt .f32 (x.u 88)), (.flt .f32 (x.u 89)), (.flt .f32 (x.u 90)), (.flt .f32 (x.u 91)), (.flt .f32 (x.u 92)), (.flt .f32 (x.u 93)), (.flt .f32 (x.u 94)), (.flt .f32 (x.u 95)), (.flt .f32 (x.u 96)), (.flt .f32 (x.u 97)), (.flt .f32 (x.u 98)), (.sint .i8 (x.i 99)), (.flt .f32 (x.u 100)), (.flt .f32 (x.u 101)), (.flt .f32 (x.u 102)), (.flt .f32 (x.u 103)), (.flt .f32 (x.u 104)), (.flt .f32 (x.u 105)), (.flt .f32 (x.u 106)), (.flt .f32 (x.u 107)), (.flt .f32 (x.u 108)), (.flt .f32 (x.u 109)), (.flt .f32 (x.u 110)), (.flt .f32 (x.u 111)), (.flt .f32 (x.u 112)), (.flt .f32 (x.u 113)), (.sint .i8 (x.i 114)), (.flt .f32 (x.u 115)), (.flt .f32 (x.u 116)), (.flt .f32 (x.u 117)), (.flt .f32 (x.u 118)), (.flt .f32 (x.u 119)), (.flt .f32 (x.u 120)), (.flt .f32 (x.u 121)), (.flt .f32 (x.u 122)), (.flt .f32 (x.u 123)), (.flt .f32 (x.u 124)), (.flt .f32 (x.u 125)), (.flt .f32 (x.u 126)), (.flt .f32 (x.u 127)), (.flt .f32 (x.u 128))]

noncomputable def asked_68_1_a1 (x : Vars) : Vars := validSettingR [(.flt .f32 (x.u 129)), (.flt .f32 (x.u 130)), (.flt .f32 (x.u 131)), (.flt .f32 (x.u 132)), (.flt .f32 (x.u 133)), (.flt .f32 (x.u 134)), (.flt .f32 (x.u 135)), (.flt .f32 (x.u 136)), (.flt .f32 (x.u 137)), (.flt .f32 (x.u 138)), (.flt .f32 (x.u 139)), (.flt .f32 (x.u 140)), (.flt .f32 (x.u 141)), (.flt .f32 (x.u 142)), (.flt .f32 (x.u 143)), (.flt .f32 (x.u 144)), (.flt .f32 (x.u 145)), (.flt .f32 (x.u 146)), (.sint .i16 (x.i 147))]


noncomputable def asked_cs68_1 (x : Vars) : List Bool := [(!((!((asked_68_1_a0 x).b 0)) || (!((asked_68_1_a1 x).b 0))))]

set_option maxRecDepth 100000 in
theorem asked_c68_1 (x : Vars) (h0 : askedB0 (mkL x 0 (kdsP [.val (.ag kd2), .val (.ag kd4), .slc kd3 1 8])) = false) (hz : x.i 0 = 1) : ∀ b ∈ asked_cs68_1 x, b = true := by
  unfold asked_cs68_1
  exact (allC (notT ((show (_ : Bool) = askedB0 (normL (litL (mkL x 0 (kdsP [.val (.ag kd2), .val (.ag kd4), .slc kd3 1 8])) 0 1)) from by kernel_rfl).trans ((congrArg askedB0 (litL_mk hz)).trans h0))) allN)

theorem asked_f68_1 (x : Vars) : (funH Try.prog G27 noLT true 1000 68 (argsP [.ptr kd2, .ptr kd4, .slc kd3 1 8] 0 (litL (mkL x 0 (kdsP [.val (.ag kd2), .val (.ag kd4), .slc kd3 1 8])) 0 1)) (memP [.ptr kd2, .ptr kd4, .slc kd3 1 8] (litL (mkL x 0 (kdsP [.val (.ag kd2), .val (.ag kd4), .slc kd3 1 8])) 0 1)) [false]).map (fun r => (normR r.1, untupR r.1 && r.1.flat, r.2)) = some (asked_v1 x, true, asked_cs68_1 x) := by kernel_rfl

noncomputable def asked_68_2_a0 (x : Vars) : Vars := validUnitR [(.sint .i8 2), (.flt .f32 (x.u 1)), (.flt .f32 (x.u 2)), (.flt .f32 (x.u 3)), (.flt .f32 (x.u 4)), (.flt .f32 (x.u 5)), (.flt .f32 (x.u 6)), (.flt .f32 (x.u 7)), (.flt .f32 (x.u 8)), (.sint .i8 (x.i 9)), (.flt .f32 (x.u 10)), (.flt .f32 (x.u 11)), (.flt .f32 (x.u 12)), (.flt .f32 (x.u 13)), (.flt .f32 (x.u 14)), (.flt .f32 (x.u 15)), (.flt .f32 (x.u 16)), (.flt .f32 (x.u 17)), (.flt .f32 (x.u 18)), (.flt .f32 (x.u 19)), (.flt .f32 (x.u 20)), (.flt .f32 (x.u 21)), (.flt .f32 (x.u 22)), (.flt .f32 (x.u 23)), (.sint .i8 (x.i 24)), (.flt .f32 (x.u 25)), (.flt .f32 (x.u 26)), (.flt .f32 (x.u 27)), (.flt .f32 (x.u 28)), (.flt .f32 (x.u 29)), (.flt .f32 (x.u 30)), (.flt .f32 (x.u 31)), (.flt .f32 (x.u 32)), (.flt .f32 (x.u 33)), (.flt .f32 (x.u 34)), (.flt .f32 (x.u 35)), (.flt .f32 (x.u 36)), (.flt .f32 (x.u 37)), (.flt .f32 (x.u 38)), (.sint .i8 (x.i 39)), (.flt .f32 (x.u 40)), (.flt .f32 (x.u 41)), (.flt .f32 (x.u 42)), (.flt .f32 (x.u 43)), (.flt .f32 (x.u 44)), (.flt .f32 (x.u 45)), (.flt .f32 (x.u 46)), (.flt .f32 (x.u 47)), (.flt .f32 (x.u 48)), (.flt .f32 (x.u 49)), (.flt .f32 (x.u 50)), (.flt .f32 (x.u 51)), (.flt .f32 (x.u 52)), (.flt .f32 (x.u 53)), (.sint .i8 (x.i 54)), (.flt .f32 (x.u 55)), (.flt .f32 (x.u 56)), (.flt .f32 (x.u 57)), (.flt .f32 (x.u 58)), (.flt .f32 (x.u 59)), (.flt .f32 (x.u 60)), (.flt .f32 (x.u 61)), (.flt .f32 (x.u 62)), (.flt .f32 (x.u 63)), (.flt .f32 (x.u 64)), (.flt .f32 (x.u 65)), (.flt .f32 (x.u 66)), (.flt .f32 (x.u 67)), (.flt .f32 (x.u 68)), (.sint .i8 (x.i 69)), (.flt .f32 (x.u 70)), (.flt .f32 (x.u 71)), (.flt .f32 (x.u 72)), (.flt .f32 (x.u 73)), (.flt .f32 (x.u 74)), (.flt .f32 (x.u 75)), (.flt .f32 (x.u 76)), (.flt .f32 (x.u 77)), (.flt .f32 (x.u 78)), (.flt .f32 (x.u 79)), (.flt .f32 (x.u 80)), (.flt .f32 (x.u 81)), (.flt .f32 (x.u 82)), (.flt .f32 (x.u 83)), (.sint .i8 (x.i 84)), (.flt .f32 (x.u 85)), (.flt .f32 (x.u 86)), (.flt .f32 (x.u 87)), (.flt .f32 (x.u 88)), (.flt .f32 (x.u 89)), (.flt .f32 (x.u 90)), (.flt .f32 (x.u 91)), (.flt .f32 (x.u 92)), (.flt .f32 (x.u 93)), (.flt .f32 (x.u 94)), (.flt .f32 (x.u 95)), (.flt .f32 (x.u 96)), (.flt .f32 (x.u 97)), (.flt .f32 (x.u 98)), (.sint .i8 (x.i 99)), (.flt .f32 (x.u 100)), (.flt .f32 (x.u 101)), (.flt .f32 (x.u 102)), (.flt .f32 (x.u 103)), (.flt .f32 (x.u 104)), (.flt .f32 (x.u 105)), (.flt .f32 (x.u 106)), (.flt .f32 (x.u 107)), (.flt .f32 (x.u 108)), (.flt .f32 (x.u 109)), (.flt .f32 (x.u 110)), (.flt .f32 (x.u 111)), (.flt .f32 (x.u 112)), (.flt .f32 (x.u 113)), (.sint .i8 (x.i 114)), (.flt .f32 (x.u 115)), (.flt .f32 (x.u 116)), (.flt .f32 (x.u 117)), (.flt .f32 (x.u 118)), (.flt .f32 (x.u 119)), (.flt .f32 (x.u 120)), (.flt .f32 (x.u 121)), (.flt .f32 (x.u 122)), (.flt .f32 (x.u 123)), (.flt .f32 (x.u 124)), (.flt .f32 (x.u 125)), (.flt .f32 (x.u 126)), (.flt .f32 (x.u 127)), (.flt .f32 (x.u 128))]

noncomputable def asked_68_2_a1 (x : Vars) : Vars := validSettingR [(.flt .f32 (x.u 129)), (.flt .f32 (x.u 130)), (.flt .f32 (x.u 131)), (.flt .f32 (x.u 132)), (.flt .f32 (x.u 133)), (.flt .f32 (x.u 134)), (.flt .f32 (x.u 135)), (.flt .f32 (x.u 136)), (.flt .f32 (x.u 137)), (.flt .f32 (x.u 138)), (.flt .f32 (x.u 139)), (.flt .f32 (x.u 140)), (.flt .f32 (x.u 141)), (.flt .f32 (x.u 142)), (.flt .f32 (x.u 143)), (.flt .f32 (x.u 144)), (.flt .f32 (x.u 145)), (.flt .f32 (x.u 146)), (.sint .i16 (x.i 147))]


noncomputable def asked_cs68_2 (x : Vars) : List Bool := [(!((!((asked_68_2_a0 x).b 0)) || (!((asked_68_2_a1 x).b 0))))]

set_option maxRecDepth 100000 in
theorem asked_c68_2 (x : Vars) (h0 : askedB0 (mkL x 0 (kdsP [.val (.ag kd2), .val (.ag kd4), .slc kd3 1 8])) = false) (hz : x.i 0 = 2) : ∀ b ∈ asked_cs68_2 x, b = true := by
  unfold asked_cs68_2
  exact (allC (notT ((show (_ : Bool) = askedB0 (normL (litL (mkL x 0 (kdsP [.val (.ag kd2), .val (.ag kd4), .slc kd3 1 8])) 0 2)) from by kernel_rfl).trans ((congrArg askedB0 (litL_mk hz)).trans h0))) allN)

theorem asked_f68_2 (x : Vars) : (funH Try.prog G27 noLT true 1000 68 (argsP [.ptr kd2, .ptr kd4, .slc kd3 1 8] 0 (litL (mkL x 0 (kdsP [.val (.ag kd2), .val (.ag kd4), .slc kd3 1 8])) 0 2)) (memP [.ptr kd2, .ptr kd4, .slc kd3 1 8] (litL (mkL x 0 (kdsP [.val (.ag kd2), .val (.ag kd4), .slc kd3 1 8])) 0 2)) [false]).map (fun r => (normR r.1, untupR r.1 && r.1.flat, r.2)) = some (asked_v2 x, true, asked_cs68_2 x) := by kernel_rfl

noncomputable def asked_68_3_a0 (x : Vars) : Vars := validUnitR [(.sint .i8 3), (.flt .f32 (x.u 1)), (.flt .f32 (x.u 2)), (.flt .f32 (x.u 3)), (.flt .f32 (x.u 4)), (.flt .f32 (x.u 5)), (.flt .f32 (x.u 6)), (.flt .f32 (x.u 7)), (.flt .f32 (x.u 8)), (.sint .i8 (x.i 9)), (.flt .f32 (x.u 10)), (.flt .f32 (x.u 11)), (.flt .f32 (x.u 12)), (.flt .f32 (x.u 13)), (.flt .f32 (x.u 14)), (.flt .f32 (x.u 15)), (.flt .f32 (x.u 16)), (.flt .f32 (x.u 17)), (.flt .f32 (x.u 18)), (.flt .f32 (x.u 19)), (.flt .f32 (x.u 20)), (.flt .f32 (x.u 21)), (.flt .f32 (x.u 22)), (.flt .f32 (x.u 23)), (.sint .i8 (x.i 24)), (.flt .f32 (x.u 25)), (.flt .f32 (x.u 26)), (.flt .f32 (x.u 27)), (.flt .f32 (x.u 28)), (.flt .f32 (x.u 29)), (.flt .f32 (x.u 30)), (.flt .f32 (x.u 31)), (.flt .f32 (x.u 32)), (.flt .f32 (x.u 33)), (.flt .f32 (x.u 34)), (.flt .f32 (x.u 35)), (.flt .f32 (x.u 36)), (.flt .f32 (x.u 37)), (.flt .f32 (x.u 38)), (.sint .i8 (x.i 39)), (.flt .f32 (x.u 40)), (.flt .f32 (x.u 41)), (.flt .f32 (x.u 42)), (.flt .f32 (x.u 43)), (.flt .f32 (x.u 44)), (.flt .f32 (x.u 45)), (.flt .f32 (x.u 46)), (.flt .f32 (x.u 47)), (.flt .f32 (x.u 48)), (.flt .f32 (x.u 49)), (.flt .f32 (x.u 50)), (.flt .f32 (x.u 51)), (.flt .f32 (x.u 52)), (.flt .f32 (x.u 53)), (.sint .i8 (x.i 54)), (.flt .f32 (x.u 55)), (.flt .f32 (x.u 56)), (.flt .f32 (x.u 57)), (.flt .f32 (x.u 58)), (.flt .f32 (x.u 59)), (.flt .f32 (x.u 60)), (.flt .f32 (x.u 61)), (.flt .f32 (x.u 62)), (.flt .f32 (x.u 63)), (.flt .f32 (x.u 64)), (.flt .f32 (x.u 65)), (.flt .f32 (x.u 66)), (.flt .f32 (x.u 67)), (.flt .f32 (x.u 68)), (.sint .i8 (x.i 69)), (.flt .f32 (x.u 70)), (.flt .f32 (x.u 71)), (.flt .f32 (x.u 72)), (.flt .f32 (x.u 73)), (.flt .f32 (x.u 74)), (.flt .f32 (x.u 75)), (.flt .f32 (x.u 76)), (.flt .f32 (x.u 77)), (.flt .f32 (x.u 78)), (.flt .f32 (x.u 79)), (.flt .f32 (x.u 80)), (.flt .f32 (x.u 81)), (.flt .f32 (x.u 82)), (.flt .f32 (x.u 83)), (.sint .i8 (x.i 84)), (.flt .f32 (x.u 85)), (.flt .f32 (x.u 86)), (.flt .f32 (x.u 87)), (.flt .f32 (x.u 88)), (.flt .f32 (x.u 89)), (.flt .f32 (x.u 90)), (.flt .f32 (x.u 91)), (.flt .f32 (x.u 92)), (.flt .f32 (x.u 93)), (.flt .f32 (x.u 94)), (.flt .f32 (x.u 95)), (.flt .f32 (x.u 96)), (.flt .f32 (x.u 97)), (.flt .f32 (x.u 98)), (.sint .i8 (x.i 99)), (.flt .f32 (x.u 100)), (.flt .f32 (x.u 101)), (.flt .f32 (x.u 102)), (.flt .f32 (x.u 103)), (.flt .f32 (x.u 104)), (.flt .f32 (x.u 105)), (.flt .f32 (x.u 106)), (.flt .f32 (x.u 107)), (.flt .f32 (x.u 108)), (.flt .f32 (x.u 109)), (.flt .f32 (x.u 110)), (.flt .f32 (x.u 111)), (.flt .f32 (x.u 112)), (.flt .f32 (x.u 113)), (.sint .i8 (x.i 114)), (.flt .f32 (x.u 115)), (.flt .f32 (x.u 116)), (.flt .f32 (x.u 117)), (.flt .f32 (x.u 118)), (.flt .f32 (x.u 119)), (.flt .f32 (x.u 120)), (.flt .f32 (x.u 121)), (.flt .f32 (x.u 122)), (.flt .f32 (x.u 123)), (.flt .f32 (x.u 124)), (.flt .f32 (x.u 125)), (.flt .f32 (x.u 126)), (.flt .f32 (x.u 127)), (.flt .f32 (x.u 128))]

noncomputable def asked_68_3_a1 (x : Vars) : Vars := validSettingR [(.flt .f32 (x.u 129)), (.flt .f32 (x.u 130)), (.flt .f32 (x.u 131)), (.flt .f32 (x.u 132)), (.flt .f32 (x.u 133)), (.flt .f32 (x.u 134)), (.flt .f32 (x.u 135)), (.flt .f32 (x.u 136)), (.flt .f32 (x.u 137)), (.flt .f32 (x.u 138)), (.flt .f32 (x.u 139)), (.flt .f32 (x.u 140)), (.flt .f32 (x.u 141)), (.flt .f32 (x.u 142)), (.flt .f32 (x.u 143)), (.flt .f32 (x.u 144)), (.flt .f32 (x.u 145)), (.flt .f32 (x.u 146)), (.sint .i16 (x.i 147))]


noncomputable def asked_cs68_3 (x : Vars) : List Bool := [(!((!((asked_68_3_a0 x).b 0)) || (!((asked_68_3_a1 x).b 0))))]

set_option maxRecDepth 100000 in
theorem asked_c68_3 (x : Vars) (h0 : askedB0 (mkL x 0 (kdsP [.val (.ag kd2), .val (.ag kd4), .slc kd3 1 8])) = false) (hz : x.i 0 = 3) : ∀ b ∈ asked_cs68_3 x, b = true := by
  unfold asked_cs68_3
  exact (allC (notT ((show (_ : Bool) = askedB0 (normL (litL (mkL x 0 (kdsP [.val (.ag kd2), .val (.ag kd4), .slc kd3 1 8])) 0 3)) from by kernel_rfl).trans ((congrArg askedB0 (litL_mk hz)).trans h0))) allN)

theorem asked_f68_3 (x : Vars) : (funH Try.prog G27 noLT true 1000 68 (argsP [.ptr kd2, .ptr kd4, .slc kd3 1 8] 0 (litL (mkL x 0 (kdsP [.val (.ag kd2), .val (.ag kd4), .slc kd3 1 8])) 0 3)) (memP [.ptr kd2, .ptr kd4, .slc kd3 1 8] (litL (mkL x 0 (kdsP [.val (.ag kd2), .val (.ag kd4), .slc kd3 1 8])) 0 3)) [false]).map (fun r => (normR r.1, untupR r.1 && r.1.flat, r.2)) = some (asked_v3 x, true, asked_cs68_3 x) := by kernel_rfl

noncomputable def asked_68_4_a0 (x : Vars) : Vars := validUnitR [(.sint .i8 4), (.flt .f32 (x.u 1)), (.flt .f32 (x.u 2)), (.flt .f32 (x.u 3)), (.flt .f32 (x.u 4)), (.flt .f32 (x.u 5)), (.flt .f32 (x.u 6)), (.flt .f32 (x.u 7)), (.flt .f32 (x.u 8)), (.sint .i8 (x.i 9)), (.flt .f32 (x.u 10)), (.flt .f32 (x.u 11)), (.flt .f32 (x.u 12)), (.flt .f32 (x.u 13)), (.flt .f32 (x.u 14)), (.flt .f32 (x.u 15)), (.flt .f32 (x.u 16)), (.flt .f32 (x.u 17)), (.flt .f32 (x.u 18)), (.flt .f32 (x.u 19)), (.flt .f32 (x.u 20)), (.flt .f32 (x.u 21)), (.flt .f32 (x.u 22)), (.flt .f32 (x.u 23)), (.sint .i8 (x.i 24)), (.flt .f32 (x.u 25)), (.flt .f32 (x.u 26)), (.flt .f32 (x.u 27)), (.flt .f32 (x.u 28)), (.flt .f32 (x.u 29)), (.flt .f32 (x.u 30)), (.flt .f32 (x.u 31)), (.flt .f32 (x.u 32)), (.flt .f32 (x.u 33)), (.flt .f32 (x.u 34)), (.flt .f32 (x.u 35)), (.flt .f32 (x.u 36)), (.flt .f32 (x.u 37)), (.flt .f32 (x.u 38)), (.sint .i8 (x.i 39)), (.flt .f32 (x.u 40)), (.flt .f32 (x.u 41)), (.flt .f32 (x.u 42)), (.flt .f32 (x.u 43)), (.flt .f32 (x.u 44)), (.flt .f32 (x.u 45)), (.flt .f32 (x.u 46)), (.flt .f32 (x.u 47)), (.flt .f32 (x.u 48)), (.flt .f32 (x.u 49)), (.flt .f32 (x.u 50)), (.flt .f32 (x.u 51)), (.flt .f32 (x.u 52)), (.flt .f32 (x.u 53)), (.sint .i8 (x.i 54)), (.flt .f32 (x.u 55)), (.flt .f32 (x.u 56)), (.flt .f32 (x.u 57)), (.flt .f32 (x.u 58)), (.flt .f32 (x.u 59)), (.flt .f32 (x.u 60)), (.flt .f32 (x.u 61)), (.flt .f32 (x.u 62)), (.flt .f32 (x.u 63)), (.flt .f32 (x.u 64)), (.flt .f32 (x.u 65)), (.flt .f32 (x.u 66)), (.flt .f32 (x.u 67)), (.flt .f32 (x.u 68)), (.sint .i8 (x.i 69)), (.flt .f32 (x.u 70)), (.flt .f32 (x.u 71)), (.flt .f32 (x.u 72)), (.flt .f32 (x.u 73)), (.flt .f32 (x.u 74)), (.flt .f32 (x.u 75)), (.flt .f32 (x.u 76)), (.flt .f32 (x.u 77)), (.flt .f32 (x.u 78)), (.flt .f32 (x.u 79)), (.flt .f32 (x.u 80)), (.flt .f32 (x.u 81)), (.flt .f32 (x.u 82)), (.flt .f32 (x.u 83)), (.sint .i8 (x.i 84)), (.flt .f32 (x.u 85)), (.flt .f32 (x.u 86)), (.flt .f32 (x.u 87)), (.flt .f32 (x.u 88)), (.flt .f32 (x.u 89)), (.flt .f32 (x.u 90)), (.flt .f32 (x.u 91)), (.flt .f32 (x.u 92)), (.flt .f32 (x.u 93)), (.flt .f32 (x.u 94)), (.flt .f32 (x.u 95)), (.flt .f32 (x.u 96)), (.flt .f32 (x.u 97)), (.flt .f32 (x.u 98)), (.sint .i8 (x.i 99)), (.flt .f32 (x.u 100)), (.flt .f32 (x.u 101)), (.flt .f32 (x.u 102)), (.flt .f32 (x.u 103)), (.flt .f32 (x.u 104)), (.flt .f32 (x.u 105)), (.flt .f32 (x.u 106)), (.flt .f32 (x.u 107)), (.flt .f32 (x.u 108)), (.flt .f32 (x.u 109)), (.flt .f32 (x.u 110)), (.flt .f32 (x.u 111)), (.flt .f32 (x.u 112)), (.flt .f32 (x.u 113)), (.sint .i8 (x.i 114)), (.flt .f32 (x.u 115)), (.flt .f32 (x.u 116)), (.flt .f32 (x.u 117)), (.flt .f32 (x.u 118)), (.flt .f32 (x.u 119)), (.flt .f32 (x.u 120)), (.flt .f32 (x.u 121)), (.flt .f32 (x.u 122)), (.flt .f32 (x.u 123)), (.flt .f32 (x.u 124)), (.flt .f32 (x.u 125)), (.flt .f32 (x.u 126)), (.flt .f32 (x.u 127)), (.flt .f32 (x.u 128))]

noncomputable def asked_68_4_a1 (x : Vars) : Vars := validSettingR [(.flt .f32 (x.u 129)), (.flt .f32 (x.u 130)), (.flt .f32 (x.u 131)), (.flt .f32 (x.u 132)), (.flt .f32 (x.u 133)), (.flt .f32 (x.u 134)), (.flt .f32 (x.u 135)), (.flt .f32 (x.u 136)), (.flt .f32 (x.u 137)), (.flt .f32 (x.u 138)), (.flt .f32 (x.u 139)), (.flt .f32 (x.u 140)), (.flt .f32 (x.u 141)), (.flt .f32 (x.u 142)), (.flt .f32 (x.u 143)), (.flt .f32 (x.u 144)), (.flt .f32 (x.u 145)), (.flt .f32 (x.u 146)), (.sint .i16 (x.i 147))]


noncomputable def asked_cs68_4 (x : Vars) : List Bool := [(!((!((asked_68_4_a0 x).b 0)) || (!((asked_68_4_a1 x).b 0))))]

set_option maxRecDepth 100000 in
theorem asked_c68_4 (x : Vars) (h0 : askedB0 (mkL x 0 (kdsP [.val (.ag kd2), .val (.ag kd4), .slc kd3 1 8])) = false) (hz : x.i 0 = 4) : ∀ b ∈ asked_cs68_4 x, b = true := by
  unfold asked_cs68_4
  exact (allC (notT ((show (_ : Bool) = askedB0 (normL (litL (mkL x 0 (kdsP [.val (.ag kd2), .val (.ag kd4), .slc kd3 1 8])) 0 4)) from by kernel_rfl).trans ((congrArg askedB0 (litL_mk hz)).trans h0))) allN)

theorem asked_f68_4 (x : Vars) : (funH Try.prog G27 noLT true 1000 68 (argsP [.ptr kd2, .ptr kd4, .slc kd3 1 8] 0 (litL (mkL x 0 (kdsP [.val (.ag kd2), .val (.ag kd4), .slc kd3 1 8])) 0 4)) (memP [.ptr kd2, .ptr kd4, .slc kd3 1 8] (litL (mkL x 0 (kdsP [.val (.ag kd2), .val (.ag kd4), .slc kd3 1 8])) 0 4)) [false]).map (fun r => (normR r.1, untupR r.1 && r.1.flat, r.2)) = some (asked_v4 x, true, asked_cs68_4 x) := by kernel_rfl

noncomputable def asked_68_5_a0 (x : Vars) : Vars := validUnitR [(.sint .i8 5), (.flt .f32 (x.u 1)), (.flt .f32 (x.u 2)), (.flt .f32 (x.u 3)), (.flt .f32 (x.u 4)), (.flt .f32 (x.u 5)), (.flt .f32 (x.u 6)), (.flt .f32 (x.u 7)), (.flt .f32 (x.u 8)), (.sint .i8 (x.i 9)), (.flt .f32 (x.u 10)), (.flt .f32 (x.u 11)), (.flt .f32 (x.u 12)), (.flt .f32 (x.u 13)), (.flt .f32 (x.u 14)), (.flt .f32 (x.u 15)), (.flt .f32 (x.u 16)), (.flt .f32 (x.u 17)), (.flt .f32 (x.u 18)), (.flt .f32 (x.u 19)), (.flt .f32 (x.u 20)), (.flt .f32 (x.u 21)), (.flt .f32 (x.u 22)), (.flt .f32 (x.u 23)), (.sint .i8 (x.i 24)), (.flt .f32 (x.u 25)), (.flt .f32 (x.u 26)), (.flt .f32 (x.u 27)), (.flt .f32 (x.u 28)), (.flt .f32 (x.u 29)), (.flt .f32 (x.u 30)), (.flt .f32 (x.u 31)), (.flt .f32 (x.u 32)), (.flt .f32 (x.u 33)), (.flt .f32 (x.u 34)), (.flt .f32 (x.u 35)), (.flt .f32 (x.u 36)), (.flt .f32 (x.u 37)), (.flt .f32 (x.u 38)), (.sint .i8 (x.i 39)), (.flt .f32 (x.u 40)), (.flt .f32 (x.u 41)), (.flt .f32 (x.u 42)), (.flt .f32 (x.u 43)), (.flt .f32 (x.u 44)), (.flt .f32 (x.u 45)), (.flt .f32 (x.u 46)), (.flt .f32 (x.u 47)), (.flt .f32 (x.u 48)), (.flt .f32 (x.u 49)), (.flt .f32 (x.u 50)), (.flt .f32 (x.u 51)), (.flt .f32 (x.u 52)), (.flt .f32 (x.u 53)), (.sint .i8 (x.i 54)), (.flt .f32 (x.u 55)), (.flt .f32 (x.u 56)), (.flt .f32 (x.u 57)), (.flt .f32 (x.u 58)), (.flt .f32 (x.u 59)), (.flt .f32 (x.u 60)), (.flt .f32 (x.u 61)), (.flt .f32 (x.u 62)), (.flt .f32 (x.u 63)), (.flt .f32 (x.u 64)), (.flt .f32 (x.u 65)), (.flt .f32 (x.u 66)), (.flt .f32 (x.u 67)), (.flt .f32 (x.u 68)), (.sint .i8 (x.i 69)), (.flt .f32 (x.u 70)), (.flt .f32 (x.u 71)), (.flt .f32 (x.u 72)), (.flt .f32 (x.u 73)), (.flt .f32 (x.u 74)), (.flt .f32 (x.u 75)), (.flt .f32 (x.u 76)), (.flt .f32 (x.u 77)), (.flt .f32 (x.u 78)), (.flt .f32 (x.u 79)), (.flt .f32 (x.u 80)), (.flt .f32 (x.u 81)), (.flt .f32 (x.u 82)), (.flt .f32 (x.u 83)), (.sint .i8 (x.i 84)), (.flt .f32 (x.u 85)), (.flt .f32 (x.u 86)), (.flt .f32 (x.u 87)), (.flt .f32 (x.u 88)), (.flt .f32 (x.u 89)), (.flt .f32 (x.u 90)), (.flt .f32 (x.u 91)), (.flt .f32 (x.u 92)), (.flt .f32 (x.u 93)), (.flt .f32 (x.u 94)), (.flt .f32 (x.u 95)), (.flt .f32 (x.u 96)), (.flt .f32 (x.u 97)), (.flt .f32 (x.u 98)), (.sint .i8 (x.i 99)), (.flt .f32 (x.u 100)), (.flt .f32 (x.u 101)), (.flt .f32 (x.u 102)), (.flt .f32 (x.u 103)), (.flt .f32 (x.u 104)), (.flt .f32 (x.u 105)), (.flt .f32 (x.u 106)), (.flt .f32 (x.u 107)), (.flt .f32 (x.u 108)), (.flt .f32 (x.u 109)), (.flt .f32 (x.u 110)), (.flt .f32 (x.u 111)), (.flt .f32 (x.u 112)), (.flt .f32 (x.u 113)), (.sint .i8 (x.i 114)), (.flt .f32 (x.u 115)), (.flt .f32 (x.u 116)), (.flt .f32 (x.u 117)), (.flt .f32 (x.u 118)), (.flt .f32 (x.u 119)), (.flt .f32 (x.u 120)), (.flt .f32 (x.u 121)), (.flt .f32 (x.u 122)), (.flt .f32 (x.u 123)), (.flt .f32 (x.u 124)), (.flt .f32 (x.u 125)), (.flt .f32 (x.u 126)), (.flt .f32 (x.u 127)), (.flt .f32 (x.u 128))]

noncomputable def asked_68_5_a1 (x : Vars) : Vars := validSettingR [(.flt .f32 (x.u 129)), (.flt .f32 (x.u 130)), (.flt .f32 (x.u 131)), (.flt .f32 (x.u 132)), (.flt .f32 (x.u 133)), (.flt .f32 (x.u 134)), (.flt .f32 (x.u 135)), (.flt .f32 (x.u 136)), (.flt .f32 (x.u 137)), (.flt .f32 (x.u 138)), (.flt .f32 (x.u 139)), (.flt .f32 (x.u 140)), (.flt .f32 (x.u 141)), (.flt .f32 (x.u 142)), (.flt .f32 (x.u 143)), (.flt .f32 (x.u 144)), (.flt .f32 (x.u 145)), (.flt .f32 (x.u 146)), (.sint .i16 (x.i 147))]


noncomputable def asked_cs68_5 (x : Vars) : List Bool := [(!((!((asked_68_5_a0 x).b 0)) || (!((asked_68_5_a1 x).b 0))))]

set_option maxRecDepth 100000 in
theorem asked_c68_5 (x : Vars) (h0 : askedB0 (mkL x 0 (kdsP [.val (.ag kd2), .val (.ag kd4), .slc kd3 1 8])) = false) (hz : x.i 0 = 5) : ∀ b ∈ asked_cs68_5 x, b = true := by
  unfold asked_cs68_5
  exact (allC (notT ((show (_ : Bool) = askedB0 (normL (litL (mkL x 0 (kdsP [.val (.ag kd2), .val (.ag kd4), .slc kd3 1 8])) 0 5)) from by kernel_rfl).trans ((congrArg askedB0 (litL_mk hz)).trans h0))) allN)

theorem asked_f68_5 (x : Vars) : (funH Try.prog G27 noLT true 1000 68 (argsP [.ptr kd2, .ptr kd4, .slc kd3 1 8] 0 (litL (mkL x 0 (kdsP [.val (.ag kd2), .val (.ag kd4), .slc kd3 1 8])) 0 5)) (memP [.ptr kd2, .ptr kd4, .slc kd3 1 8] (litL (mkL x 0 (kdsP [.val (.ag kd2), .val (.ag kd4), .slc kd3 1 8])) 0 5)) [false]).map (fun r => (normR r.1, untupR r.1 && r.1.flat, r.2)) = some (asked_v5 x, true, asked_cs68_5 x) := by kernel_rfl

noncomputable def asked_68_6_a0 (x : Vars) : Vars := validUnitR [(.sint .i8 6), (.flt .f32 (x.u 1)), (.flt .f32 (x.u 2)), (.flt .f32 (x.u 3)), (.flt .f32 (x.u 4)), (.flt .f32 (x.u 5)), (.flt .f32 (x.u 6)), (.flt .f32 (x.u 7)), (.flt .f32 (x.u 8)), (.sint .i8 (x.i 9)), (.flt .f32 (x.u 10)), (.flt .f32 (x.u 11)), (.flt .f32 (x.u 12)), (.flt .f32 (x.u 13)), (.flt .f32 (x.u 14)), (.flt .f32 (x.u 15)), (.flt .f32 (x.u 16)), (.flt .f32 (x.u 17)), (.flt .f32 (x.u 18)), (.flt .f32 (x.u 19)), (.flt .f32 (x.u 20)), (.flt .f32 (x.u 21)), (.flt .f32 (x.u 22)), (.flt .f32 (x.u 23)), (.sint .i8 (x.i 24)), (.flt .f32 (x.u 25)), (.flt .f32 (x.u 26)), (.flt .f32 (x.u 27)), (.flt .f32 (x.u 28)), (.flt .f32 (x.u 29)), (.flt .f32 (x.u 30)), (.flt .f32 (x.u 31)), (.flt .f32 (x.u 32)), (.flt .f32 (x.u 33)), (.flt .f32 (x.u 34)), (.flt .f32 (x.u 35)), (.flt .f32 (x.u 36)), (.flt .f32 (x.u 37)), (.flt .f32 (x.u 38)), (.sint .i8 (x.i 39)), (.flt .f32 (x.u 40)), (.flt .f32 (x.u 41)), (.flt .f32 (x.u 42)), (.flt .f32 (x.u 43)), (.flt .f32 (x.u 44)), (.flt .f32 (x.u 45)), (.flt .f32 (x.u 46)), (.flt .f32 (x.u 47)), (.flt .f32 (x.u 48)), (.flt .f32 (x.u 49)), (.flt .f32 (x.u 50)), (.flt .f32 (x.u 51)), (.flt .f32 (x.u 52)), (.flt .f32 (x.u 53)), (.sint .i8 (x.i 54)), (.flt .f32 (x.u 55)), (.flt .f32 (x.u 56)), (.flt .f32 (x.u 57)), (.flt .f32 (x.u 58)), (.flt .f32 (x.u 59)), (.flt .f32 (x.u 60)), (.flt .f32 (x.u 61)), (.flt .f32 (x.u 62)), (.flt .f32 (x.u 63)), (.flt .f32 (x.u 64)), (.flt .f32 (x.u 65)), (.flt .f32 (x.u 66)), (.flt .f32 (x.u 67)), (.flt .f32 (x.u 68)), (.sint .i8 (x.i 69)), (.flt .f32 (x.u 70)), (.flt .f32 (x.u 71)), (.flt .f32 (x.u 72)), (.flt .f32 (x.u 73)), (.flt .f32 (x.u 74)), (.flt .f32 (x.u 75)), (.flt .f32 (x.u 76)), (.flt .f32 (x.u 77)), (.flt .f32 (x.u 78)), (.flt .f32 (x.u 79)), (.flt .f32 (x.u 80)), (.flt .f32 (x.u 81)), (.flt .f32 (x.u 82)), (.flt .f32 (x.u 83)), (.sint .i8 (x.i 84)), (.flt .f32 (x.u 85)), (.flt .f32 (x.u 86)), (.flt .f32 (x.u 87)), (.flt .f32 (x.u 88)), (.flt .f32 (x.u 89)), (.flt .f32 (x.u 90)), (.flt .f32 (x.u 91)), (.flt .f32 (x.u 92)), (.flt .f32 (x.u 93)), (.flt .f32 (x.u 94)), (.flt .f32 (x.u 95)), (.flt .f32 (x.u 96)), (.flt .f32 (x.u 97)), (.flt .f32 (x.u 98)), (.sint .i8 (x.i 99)), (.flt .f32 (x.u 100)), (.flt .f32 (x.u 101)), (.flt .f32 (x.u 102)), (.flt .f32 (x.u 103)), (.flt .f32 (x.u 104)), (.flt .f32 (x.u 105)), (.flt .f32 (x.u 106)), (.flt .f32 (x.u 107)), (.flt .f32 (x.u 108)), (.flt .f32 (x.u 109)), (.flt .f32 (x.u 110)), (.flt .f32 (x.u 111)), (.flt .f32 (x.u 112)), (.flt .f32 (x.u 113)), (.sint .i8 (x.i 114)), (.flt .f32 (x.u 115)), (.flt .f32 (x.u 116)), (.flt .f32 (x.u 117)), (.flt .f32 (x.u 118)), (.flt .f32 (x.u 119)), (.flt .f32 (x.u 120)), (.flt .f32 (x.u 121)), (.flt .f32 (x.u 122)), (.flt .f32 (x.u 123)), (.flt .f32 (x.u 124)), (.flt .f32 (x.u 125)), (.flt .f32 (x.u 126)), (.flt .f32 (x.u 127)), (.flt .f32 (x.u 128))]

noncomputable def asked_68_6_a1 (x : Vars) : Vars := validSettingR [(.flt .f32 (x.u 129)), (.flt .f32 (x.u 130)), (.flt .f32 (x.u 131)), (.flt .f32 (x.u 132)), (.flt .f32 (x.u 133)), (.flt .f32 (x.u 134)), (.flt .f32 (x.u 135)), (.flt .f32 (x.u 136)), (.flt .f32 (x.u 137)), (.flt .f32 (x.u 138)), (.flt .f32 (x.u 139)), (.flt .f32 (x.u 140)), (.flt .f32 (x.u 141)), (.flt .f32 (x.u 142)), (.flt .f32 (x.u 143)), (.flt .f32 (x.u 144)), (.flt .f32 (x.u 145)), (.flt .f32 (x.u 146)), (.sint .i16 (x.i 147))]


noncomputable def asked_cs68_6 (x : Vars) : List Bool := [(!((!((asked_68_6_a0 x).b 0)) || (!((asked_68_6_a1 x).b 0))))]

set_option maxRecDepth 100000 in
theorem asked_c68_6 (x : Vars) (h0 : askedB0 (mkL x 0 (kdsP [.val (.ag kd2), .val (.ag kd4), .slc kd3 1 8])) = false) (hz : x.i 0 = 6) : ∀ b ∈ asked_cs68_6 x, b = true := by
  unfold asked_cs68_6
  exact (allC (notT ((show (_ : Bool) = askedB0 (normL (litL (mkL x 0 (kdsP [.val (.ag kd2), .val (.ag kd4), .slc kd3 1 8])) 0 6)) from by kernel_rfl).trans ((congrArg askedB0 (litL_mk hz)).trans h0))) allN)

theorem asked_f68_6 (x : Vars) : (funH Try.prog G27 noLT true 1000 68 (argsP [.ptr kd2, .ptr kd4, .slc kd3 1 8] 0 (litL (mkL x 0 (kdsP [.val (.ag kd2), .val (.ag kd4), .slc kd3 1 8])) 0 6)) (memP [.ptr kd2, .ptr kd4, .slc kd3 1 8] (litL (mkL x 0 (kdsP [.val (.ag kd2), .val (.ag kd4), .slc kd3 1 8])) 0 6)) [false]).map (fun r => (normR r.1, untupR r.1 && r.1.flat, r.2)) = some (asked_v6 x, true, asked_cs68_6 x) := by kernel_rfl

noncomputable def asked_68_7_a0 (x : Vars) : Vars := validUnitR [(.sint .i8 7), (.flt .f32 (x.u 1)), (.flt .f32 (x.u 2)), (.flt .f32 (x.u 3)), (.flt .f32 (x.u 4)), (.flt .f32 (x.u 5)), (.flt .f32 (x.u 6)), (.flt .f32 (x.u 7)), (.flt .f32 (x.u 8)), (.sint .i8 (x.i 9)), (.flt .f32 (x.u 10)), (.flt .f32 (x.u 11)), (.flt .f32 (x.u 12)), (.flt .f32 (x.u 13)), (.flt .f32 (x.u 14)), (.flt .f32 (x.u 15)), (.flt .f32 (x.u 16)), (.flt .f32 (x.u 17)), (.flt .f32 (x.u 18)), (.flt .f32 (x.u 19)), (.flt .f32 (x.u 20)), (.flt .f32 (x.u 21)), (.flt .f32 (x.u 22)), (.flt .f32 (x.u 23)), (.sint .i8 (x.i 24)), (.flt .f32 (x.u 25)), (.flt .f32 (x.u 26)), (.flt .f32 (x.u 27)), (.flt .f32 (x.u 28)), (.flt .f32 (x.u 29)), (.flt .f32 (x.u 30)), (.flt .f32 (x.u 31)), (.flt .f32 (x.u 32)), (.flt .f32 (x.u 33)), (.flt .f32 (x.u 34)), (.flt .f32 (x.u 35)), (.flt .f32 (x.u 36)), (.flt .f32 (x.u 37)), (.flt .f32 (x.u 38)), (.sint .i8 (x.i 39)), (.flt .f32 (x.u 40)), (.flt .f32 (x.u 41)), (.flt .f32 (x.u 42)), (.flt .f32 (x.u 43)), (.flt .f32 (x.u 44)), (.flt .f32 (x.u 45)), (.flt .f32 (x.u 46)), (.flt .f32 (x.u 47)), (.flt .f32 (x.u 48)), (.flt .f32 (x.u 49)), (.flt .f32 (x.u 50)), (.flt .f32 (x.u 51)), (.flt .f32 (x.u 52)), (.flt .f32 (x.u 53)), (.sint .i8 (x.i 54)), (.flt .f32 (x.u 55)), (.flt .f32 (x.u 56)), (.flt .f32 (x.u 57)), (.flt .f32 (x.u 58)), (.flt .f32 (x.u 59)), (.flt .f32 (x.u 60)), (.flt .f32 (x.u 61)), (.flt .f32 (x.u 62)), (.flt .f32 (x.u 63)), (.flt .f32 (x.u 64)), (.flt .f32 (x.u 65)), (.flt .f32 (x.u 66)), (.flt .f32 (x.u 67)), (.flt .f32 (x.u 68)), (.sint .i8 (x.i 69)), (.flt .f32 (x.u 70)), (.flt .f32 (x.u 71)), (.flt .f32 (x.u 72)), (.flt .f32 (x.u 73)), (.flt .f32 (x.u 74)), (.flt .f32 (x.u 75)), (.flt .f32 (x.u 76)), (.flt .f32 (x.u 77)), (.flt .f32 (x.u 78)), (.flt .f32 (x.u 79)), (.flt .f32 (x.u 80)), (.flt .f32 (x.u 81)), (.flt .f32 (x.u 82)), (.flt .f32 (x.u 83)), (.sint .i8 (x.i 84)), (.flt .f32 (x.u 85)), (.flt .f32 (x.u 86)), (.flt .f32 (x.u 87)), (.flt .f32 (x.u 88)), (.flt .f32 (x.u 89)), (.flt .f32 (x.u 90)), (.flt .f32 (x.u 91)), (.flt .f32 (x.u 92)), (.flt .f32 (x.u 93)), (.flt .f32 (x.u 94)), (.flt .f32 (x.u 95)), (.flt .f32 (x.u 96)), (.flt .f32 (x.u 97)), (.flt .f32 (x.u 98)), (.sint .i8 (x.i 99)), (.flt .f32 (x.u 100)), (.flt .f32 (x.u 101)), (.flt .f32 (x.u 102)), (.flt .f32 (x.u 103)), (.flt .f32 (x.u 104)), (.flt .f32 (x.u 105)), (.flt .f32 (x.u 106)), (.flt .f32 (x.u 107)), (.flt .f32 (x.u 108)), (.flt .f32 (x.u 109)), (.flt .f32 (x.u 110)), (.flt .f32 (x.u 111)), (.flt .f32 (x.u 112)), (.flt .f32 (x.u 113)), (.sint .i8 (x.i 114)), (.flt .f32 (x.u 115)), (.flt .f32 (x.u 116)), (.flt .f32 (x.u 117)), (.flt .f32 (x.u 118)), (.flt .f32 (x.u 119)), (.flt .f32 (x.u 120)), (.flt .f32 (x.u 121)), (.flt .f32 (x.u 122)), (.flt .f32 (x.u 123)), (.flt .f32 (x.u 124)), (.flt .f32 (x.u 125)), (.flt .f32 (x.u 126)), (.flt .f32 (x.u 127)), (.flt .f32 (x.u 128))]

noncomputable def asked_68_7_a1 (x : Vars) : Vars := validSettingR [(.flt .f32 (x.u 129)), (.flt .f32 (x.u 130)), (.flt .f32 (x.u 131)), (.flt .f32 (x.u 132)), (.flt .f32 (x.u 133)), (.flt .f32 (x.u 134)), (.flt .f32 (x.u 135)), (.flt .f32 (x.u 136)), (.flt .f32 (x.u 137)), (.flt .f32 (x.u 138)), (.flt .f32 (x.u 139)), (.flt .f32 (x.u 140)), (.flt .f32 (x.u 141)), (.flt .f32 (x.u 142)), (.flt .f32 (x.u 143)), (.flt .f32 (x.u 144)), (.flt .f32 (x.u 145)), (.flt .f32 (x.u 146)), (.sint .i16 (x.i 147))]


noncomputable def asked_cs68_7 (x : Vars) : List Bool := [(!((!((asked_68_7_a0 x).b 0)) || (!((asked_68_7_a1 x).b 0))))]

set_option maxRecDepth 100000 in
theorem asked_c68_7 (x : Vars) (h0 : askedB0 (mkL x 0 (kdsP [.val (.ag kd2), .val (.ag kd4), .slc kd3 1 8])) = false) (hz : x.i 0 = 7) : ∀ b ∈ asked_cs68_7 x, b = true := by
  unfold asked_cs68_7
  exact (allC (notT ((show (_ : Bool) = askedB0 (normL (litL (mkL x 0 (kdsP [.val (.ag kd2), .val (.ag kd4), .slc kd3 1 8])) 0 7)) from by kernel_rfl).trans ((congrArg askedB0 (litL_mk hz)).trans h0))) allN)

theorem asked_f68_7 (x : Vars) : (funH Try.prog G27 noLT true 1000 68 (argsP [.ptr kd2, .ptr kd4, .slc kd3 1 8] 0 (litL (mkL x 0 (kdsP [.val (.ag kd2), .val (.ag kd4), .slc kd3 1 8])) 0 7)) (memP [.ptr kd2, .ptr kd4, .slc kd3 1 8] (litL (mkL x 0 (kdsP [.val (.ag kd2), .val (.ag kd4), .slc kd3 1 8])) 0 7)) [false]).map (fun r => (normR r.1, untupR r.1 && r.1.flat, r.2)) = some (asked_v7 x, true, asked_cs68_7 x) := by kernel_rfl

noncomputable def asked_68_8_a0 (x : Vars) : Vars := validUnitR [(.sint .i8 8), (.flt .f32 (x.u 1)), (.flt .f32 (x.u 2)), (.flt .f32 (x.u 3)), (.flt .f32 (x.u 4)), (.flt .f32 (x.u 5)), (.flt .f32 (x.u 6)), (.flt .f32 (x.u 7)), (.flt .f32 (x.u 8)), (.sint .i8 (x.i 9)), (.flt .f32 (x.u 10)), (.flt .f32 (x.u 11)), (.flt .f32 (x.u 12)), (.flt .f32 (x.u 13)), (.flt .f32 (x.u 14)), (.flt .f32 (x.u 15)), (.flt .f32 (x.u 16)), (.flt .f32 (x.u 17)), (.flt .f32 (x.u 18)), (.flt .f32 (x.u 19)), (.flt .f32 (x.u 20)), (.flt .f32 (x.u 21)), (.flt .f32 (x.u 22)), (.flt .f32 (x.u 23)), (.sint .i8 (x.i 24)), (.flt .f32 (x.u 25)), (.flt .f32 (x.u 26)), (.flt .f32 (x.u 27)), (.flt .f32 (x.u 28)), (.flt .f32 (x.u 29)), (.flt .f32 (x.u 30)), (.flt .f32 (x.u 31)), (.flt .f32 (x.u 32)), (.flt .f32 (x.u 33)), (.flt .f32 (x.u 34)), (.flt .f32 (x.u 35)), (.flt .f32 (x.u 36)), (.flt .f32 (x.u 37)), (.flt .f32 (x.u 38)), (.sint .i8 (x.i 39)), (.flt .f32 (x.u 40)), (.flt .f32 (x.u 41)), (.flt .f32 (x.u 42)), (.flt .f32 (x.u 43)), (.flt .f32 (x.u 44)), (.flt .f32 (x.u 45)), (.flt .f32 (x.u 46)), (.flt .f32 (x.u 47)), (.flt .f32 (x.u 48)), (.flt .f32 (x.u 49)), (.flt .f32 (x.u 50)), (.flt .f32 (x.u 51)), (.flt .f32 (x.u 52)), (.flt .f32 (x.u 53)), (.sint .i8 (x.i 54)), (.flt .f32 (x.u 55)), (.flt .f32 (x.u 56)), (.flt .f32 (x.u 57)), (.flt .f32 (x.u 58)), (.flt .f32 (x.u 59)), (.flt .f32 (x.u 60)), (.flt .f32 (x.u 61)), (.flt .f32 (x.u 62)), (.flt .f32 (x.u 63)), (.flt .f32 (x.u 64)), (.flt .f32 (x.u 65)), (.flt .f32 (x.u 66)), (.flt .f32 (x.u 67)), (.flt .f32 (x.u 68)), (.sint .i8 (x.i 69)), (.flt .f32 (x.u 70)), (.flt .f32 (x.u 71)), (.flt .f32 (x.u 72)), (.flt .f32 (x.u 73)), (.flt .f32 (x.u 74)), (.flt .f32 (x.u 75)), (.flt .f32 (x.u 76)), (.flt .f32 (x.u 77)), (.flt .f32 (x.u 78)), (.flt .f32 (x.u 79)), (.flt .f32 (x.u 80)), (.flt .f32 (x.u 81)), (.flt .f32 (x.u 82)), (.flt .f32 (x.u 83)), (.sint .i8 (x.i 84)), (.flt .f32 (x.u 85)), (.flt .f32 (x.u 86)), (.flt .f32 (x.u 87)), (.flt .f32 (x.u 88)), (.flt .f32 (x.u 89)), (.flt .f32 (x.u 90)), (.flt .f32 (x.u 91)), (.flt .f32 (x.u 92)), (.flt .f32 (x.u 93)), (.flt .f32 (x.u 94)), (.flt .f32 (x.u 95)), (.flt .f32 (x.u 96)), (.flt .f32 (x.u 97)), (.flt .f32 (x.u 98)), (.sint .i8 (x.i 99)), (.flt .f32 (x.u 100)), (.flt .f32 (x.u 101)), (.flt .f32 (x.u 102)), (.flt .f32 (x.u 103)), (.flt .f32 (x.u 104)), (.flt .f32 (x.u 105)), (.flt .f32 (x.u 106)), (.flt .f32 (x.u 107)), (.flt .f32 (x.u 108)), (.flt .f32 (x.u 109)), (.flt .f32 (x.u 110)), (.flt .f32 (x.u 111)), (.flt .f32 (x.u 112)), (.flt .f32 (x.u 113)), (.sint .i8 (x.i 114)), (.flt .f32 (x.u 115)), (.flt .f32 (x.u 116)), (.flt .f32 (x.u 117)), (.flt .f32 (x.u 118)), (.flt .f32 (x.u 119)), (.flt .f32 (x.u 120)), (.flt .f32 (x.u 121)), (.flt .f32 (x.u 122)), (.flt .f32 (x.u 123)), (.flt .f32 (x.u 124)), (.flt .f32 (x.u 125)), (.flt .f32 (x.u 126)), (.flt .f32 (x.u 127)), (.flt .f32 (x.u 128))]

noncomputable def asked_68_8_a1 (x : Vars) : Vars := validSettingR [(.flt .f32 (x.u 129)), (.flt .f32 (x.u 130)), (.flt .f32 (x.u 131)), (.flt .f32 (x.u 132)), (.flt .f32 (x.u 133)), (.flt .f32 (x.u 134)), (.flt .f32 (x.u 135)), (.flt .f32 (x.u 136)), (.flt .f32 (x.u 137)), (.flt .f32 (x.u 138)), (.flt .f32 (x.u 139)), (.flt .f32 (x.u 140)), (.flt .f32 (x.u 141)), (.flt .f32 (x.u 142)), (.flt .f32 (x.u 143)), (.flt .f32 (x.u 144)), (.flt .f32 (x.u 145)), (.flt .f32 (x.u 146)), (.sint .i16 (x.i 147))]


noncomputable def asked_cs68_8 (x : Vars) : List Bool := [(!((!((asked_68_8_a0 x).b 0)) || (!((asked_68_8_a1 x).b 0))))]

set_option maxRecDepth 100000 in
theorem asked_c68_8 (x : Vars) (h0 : askedB0 (mkL x 0 (kdsP [.val (.ag kd2), .val (.ag kd4), .slc kd3 1 8])) = false) (hz : x.i 0 = 8) : ∀ b ∈ asked_cs68_8 x, b = true := by
  unfold asked_cs68_8
  exact (allC (notT ((show (_ : Bool) = askedB0 (normL (litL (mkL x 0 (kdsP [.val (.ag kd2), .val (.ag kd4), .slc kd3 1 8])) 0 8)) from by kernel_rfl).trans ((congrArg askedB0 (litL_mk hz)).trans h0))) allN)

theorem asked_f68_8 (x : Vars) : (funH Try.prog G27 noLT true 1000 68 (argsP [.ptr kd2, .ptr kd4, .slc kd3 1 8] 0 (litL (mkL x 0 (kdsP [.val (.ag kd2), .val (.ag kd4), .slc kd3 1 8])) 0 8)) (memP [.ptr kd2, .ptr kd4, .slc kd3 1 8] (litL (mkL x 0 (kdsP [.val (.ag kd2), .val (.ag kd4), .slc kd3 1 8])) 0 8)) [false]).map (fun r => (normR r.1, untupR r.1 && r.1.flat, r.2)) = some (asked_v8 x, true, asked_cs68_8 x) := by kernel_rfl

theorem asked_ev68 (x : Vars) (_ho : OkV (kdsP [.val (.ag kd2), .val (.ag kd4), .slc kd3 1 8]) x) : EvP Try.prog G27 68 [.ptr kd2, .ptr kd4, .slc kd3 1 8] [.sc (.int .i64)] (mkL x 0 (kdsP [.val (.ag kd2), .val (.ag kd4), .slc kd3 1 8])) (askedR0 (mkL x 0 (kdsP [.val (.ag kd2), .val (.ag kd4), .slc kd3 1 8]))) := by
  cases h0 : askedB0 (mkL x 0 (kdsP [.val (.ag kd2), .val (.ag kd4), .slc kd3 1 8])) with
  | true =>
    have e : askedR0 (mkL x 0 (kdsP [.val (.ag kd2), .val (.ag kd4), .slc kd3 1 8])) = askedZE0 (mkL x 0 (kdsP [.val (.ag kd2), .val (.ag kd4), .slc kd3 1 8])) := by unfold askedR0; rw [h0]; rfl
    rw [e]
    exact EvP.ofH (H := noLT) (J := true) (HFun.none Try.prog _ 68) (mkL_norm ..) (by rw [asked_xE0]; exact asked_f68_E0 x) (asked_c68_E0 x h0)
  | false =>
  have hr := askedRng x h0
  have : x.i 0 = 1 ∨ x.i 0 = 2 ∨ x.i 0 = 3 ∨ x.i 0 = 4 ∨ x.i 0 = 5 ∨ x.i 0 = 6 ∨ x.i 0 = 7 ∨ x.i 0 = 8 := by omega
  rcases this with hz | hz | hz | hz | hz | hz | hz | hz
  · have e : askedR0 (mkL x 0 (kdsP [.val (.ag kd2), .val (.ag kd4), .slc kd3 1 8])) = askedZ1 (mkL x 0 (kdsP [.val (.ag kd2), .val (.ag kd4), .slc kd3 1 8])) := by
      unfold askedR0
      have hz : intOf (leafN (mkL x 0 (kdsP [.val (.ag kd2), .val (.ag kd4), .slc kd3 1 8])) 0) = 1 := hz
      rw [h0, hz]
      rfl
    rw [e]
    exact EvP.ofH (H := noLT) (J := true) (HFun.none Try.prog _ 68) (litL_mk hz) (by rw [asked_x1]; exact asked_f68_1 x) (asked_c68_1 x h0 hz)
  · have e : askedR0 (mkL x 0 (kdsP [.val (.ag kd2), .val (.ag kd4), .slc kd3 1 8])) = askedZ2 (mkL x 0 (kdsP [.val (.ag kd2), .val (.ag kd4), .slc kd3 1 8])) := by
      unfold askedR0
      have hz : intOf (leafN (mkL x 0 (kdsP [.val (.ag kd2), .val (.ag kd4), .slc kd3 1 8])) 0) = 2 := hz
      rw [h0, hz]
      rfl
    rw [e]
    exact EvP.ofH (H := noLT) (J := true) (HFun.none Try.prog _ 68) (litL_mk hz) (by rw [asked_x2]; exact asked_f68_2 x) (asked_c68_2 x h0 hz)
  · have e : askedR0 (mkL x 0 (kdsP [.val (.ag kd2), .val (.ag kd4), .slc kd3 1 8])) = askedZ3 (mkL x 0 (kdsP [.val (.ag kd2), .val (.ag kd4), .slc kd3 1 8])) := by
      unfold askedR0
      have hz : intOf (leafN (mkL x 0 (kdsP [.val (.ag kd2), .val (.ag kd4), .slc kd3 1 8])) 0) = 3 := hz
      rw [h0, hz]
      rfl
    rw [e]
    exact EvP.ofH (H := noLT) (J := true) (HFun.none Try.prog _ 68) (litL_mk hz) (by rw [asked_x3]; exact asked_f68_3 x) (asked_c68_3 x h0 hz)
  · have e : askedR0 (mkL x 0 (kdsP [.val (.ag kd2), .val (.ag kd4), .slc kd3 1 8])) = askedZ4 (mkL x 0 (kdsP [.val (.ag kd2), .val (.ag kd4), .slc kd3 1 8])) := by
      unfold askedR0
      have hz : intOf (leafN (mkL x 0 (kdsP [.val (.ag kd2), .val (.ag kd4), .slc kd3 1 8])) 0) = 4 := hz
      rw [h0, hz]
      rfl
    rw [e]
    exact EvP.ofH (H := noLT) (J := true) (HFun.none Try.prog _ 68) (litL_mk hz) (by rw [asked_x4]; exact asked_f68_4 x) (asked_c68_4 x h0 hz)
  · have e : askedR0 (mkL x 0 (kdsP [.val (.ag kd2), .val (.ag kd4), .slc kd3 1 8])) = askedZ5 (mkL x 0 (kdsP [.val (.ag kd2), .val (.ag kd4), .slc kd3 1 8])) := by
      unfold askedR0
      have hz : intOf (leafN (mkL x 0 (kdsP [.val (.ag kd2), .val (.ag kd4), .slc kd3 1 8])) 0) = 5 := hz
      rw [h0, hz]
      rfl
    rw [e]
    exact EvP.ofH (H := noLT) (J := true) (HFun.none Try.prog _ 68) (litL_mk hz) (by rw [asked_x5]; exact asked_f68_5 x) (asked_c68_5 x h0 hz)
  · have e : askedR0 (mkL x 0 (kdsP [.val (.ag kd2), .val (.ag kd4), .slc kd3 1 8])) = askedZ6 (mkL x 0 (kdsP [.val (.ag kd2), .val (.ag kd4), .slc kd3 1 8])) := by
      unfold askedR0
      have hz : intOf (leafN (mkL x 0 (kdsP [.val (.ag kd2), .val (.ag kd4), .slc kd3 1 8])) 0) = 6 := hz
      rw [h0, hz]
      rfl
    rw [e]
    exact EvP.ofH (H := noLT) (J := true) (HFun.none Try.prog _ 68) (litL_mk hz) (by rw [asked_x6]; exact asked_f68_6 x) (asked_c68_6 x h0 hz)
  · have e : askedR0 (mkL x 0 (kdsP [.val (.ag kd2), .val (.ag kd4), .slc kd3 1 8])) = askedZ7 (mkL x 0 (kdsP [.val (.ag kd2), .val (.ag kd4), .slc kd3 1 8])) := by
      unfold askedR0
      have hz : intOf (leafN (mkL x 0 (kdsP [.val (.ag kd2), .val (.ag kd4), .slc kd3 1 8])) 0) = 7 := hz
      rw [h0, hz]
      rfl
    rw [e]
    exact EvP.ofH (H := noLT) (J := true) (HFun.none Try.prog _ 68) (litL_mk hz) (by rw [asked_x7]; exact asked_f68_7 x) (asked_c68_7 x h0 hz)
  · have e : askedR0 (mkL x 0 (kdsP [.val (.ag kd2), .val (.ag kd4), .slc kd3 1 8])) = askedZ8 (mkL x 0 (kdsP [.val (.ag kd2), .val (.ag kd4), .slc kd3 1 8])) := by
      unfold askedR0
      have hz : intOf (leafN (mkL x 0 (kdsP [.val (.ag kd2), .val (.ag kd4), .slc kd3 1 8])) 0) = 8 := hz
      rw [h0, hz]
      rfl
    rw [e]
    exact EvP.ofH (H := noLT) (J := true) (HFun.none Try.prog _ 68) (litL_mk hz) (by rw [asked_x8]; exact asked_f68_8 x) (asked_c68_8 x h0 hz)

noncomputable def G28 : Summ := addG 70 (sumP [.val (.ag kd2), .val (.ag kd4), .slc kd3 1 8] [.sc (.int .i64)] (fun _ => []) askedR) G27

theorem G28_ok : SoundG Try.prog G28 := SoundG.sumP G27_ok mixed Try.call70 G27_ok (fun x hx hp => by rw [askedR_eq]; exact (fun x ho _ => asked_ev70 x ho) x hx hp)

noncomputable def G29 : Summ := addG 68 (sumP [.ptr kd2, .ptr kd4, .slc kd3 1 8] [.sc (.int .i64)] (fun _ => []) askedR) G28

theorem G29_ok : SoundG Try.prog G29 := SoundG.sumP G28_ok mixed Try.call68 G27_ok (fun x hx hp => by rw [askedR_eq]; exact (fun x ho _ => asked_ev68 x ho) x hx hp)

end Go.Proofs.Ytdagaggpaohmcaa

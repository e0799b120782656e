/-
  Facts of this seat that its laws use; no conditions.
-/
import Derived.Test.YtdagaggpaohmcaaOff
import Derived.Test.YtdagaggpaohmcaaSimRd
namespace Go.Proofs.Ytdagaggpaohmcaa
open Go.Sim Go.ChangeShapes Go.WideShapes Go.ChangeAt Go.RowKit

def fl (x : Vars) : Nat → Nat → List AV
  | _, 0 => []
  | a, n + 1 => .flt .f32 (x.u a) :: fl x (a + 1) n

def apl (a b : List AV) : List AV := a ++ b


noncomputable def G20 : Summ := inlGs Try.prog 1000 [78] G19

theorem G20_ok : SoundG Try.prog G20 := by
  refine SoundG.inls mixed G19_ok fun f hf => ?_
  simp only [List.mem_cons, List.not_mem_nil, or_false] at hf
  subst hf
  exact Try.call78

noncomputable def isFilmR0 (l : List AV) : Vars := outV (funA Try.prog G20 1000 85 (argsP [.val (.sc (.flt .f32))] 0 l) (memP [.val (.sc (.flt .f32))] l) [])

noncomputable def isFilmR : List AV → Vars := Classical.choose (⟨isFilmR0, rfl⟩ : ∃ f, f = isFilmR0)

theorem isFilmR_eq : isFilmR = isFilmR0 := Classical.choose_spec (⟨isFilmR0, rfl⟩ : ∃ f, f = isFilmR0)

theorem isFilm_x (x : Vars) : mkR (isFilmR0 (mkL x 0 (kdsP [.val (.sc (.flt .f32))]))) [.sc (.bool)] = .sbool (((fcmp .geq .f32 (x.u 0) 0) && (fcmp .leq .f32 (x.u 0) 1233125376))) := by kernel_rfl

theorem isFilm_f85 (x : Vars) : (funA Try.prog G20 1000 85 (argsP [.val (.sc (.flt .f32))] 0 (mkL x 0 (kdsP [.val (.sc (.flt .f32))]))) (memP [.val (.sc (.flt .f32))] (mkL x 0 (kdsP [.val (.sc (.flt .f32))]))) []).map (fun r => (normR r.1, untupR r.1 && r.1.flat, r.2)) = some (.sbool (((fcmp .geq .f32 (x.u 0) 0) && (fcmp .leq .f32 (x.u 0) 1233125376))), true, []) := by kernel_rfl

set_option maxRecDepth 100000 in
theorem isFilm_e85 (x : Vars) : (funA Try.prog G20 1000 85 (argsP [.val (.sc (.flt .f32))] 0 (mkL x 0 (kdsP [.val (.sc (.flt .f32))]))) (memP [.val (.sc (.flt .f32))] (mkL x 0 (kdsP [.val (.sc (.flt .f32))]))) []).map (fun r => (normR r.1, untupR r.1 && r.1.flat, r.2)) = some (mkR (isFilmR0 (mkL x 0 (kdsP [.val (.sc (.flt .f32))]))) [.sc (.bool)], true, []) := by
  rw [isFilm_f85, isFilm_x]


theorem isFilm_ev85 (x : Vars) : EvP Try.prog G20 85 [.val (.sc (.flt .f32))] [.sc (.bool)] (mkL x 0 (kdsP [.val (.sc (.flt .f32))])) (isFilmR0 (mkL x 0 (kdsP [.val (.sc (.flt .f32))]))) := EvP.of (mkL_norm ..) (isFilm_e85 x) fun _ h => by cases h

theorem isFilm_f86 (x : Vars) : (funA Try.prog G20 1000 86 (argsP [.val (.sc (.flt .f32))] 0 (mkL x 0 (kdsP [.val (.sc (.flt .f32))]))) (memP [.val (.sc (.flt .f32))] (mkL x 0 (kdsP [.val (.sc (.flt .f32))]))) []).map (fun r => (normR r.1, untupR r.1 && r.1.flat, r.2)) = some (.sbool (((fcmp .geq .f32 (x.u 0) 0) && (fcmp .leq .f32 (x.u 0) 1233125376))), true, []) := by kernel_rfl

set_option maxRecDepth 100000 in
theorem isFilm_e86 (x : Vars) : (funA Try.prog G20 1000 86 (argsP [.val (.sc (.flt .f32))] 0 (mkL x 0 (kdsP [.val (.sc (.flt .f32))]))) (memP [.val (.sc (.flt .f32))] (mkL x 0 (kdsP [.val (.sc (.flt .f32))]))) []).map (fun r => (normR r.1, untupR r.1 && r.1.flat, r.2)) = some (mkR (isFilmR0 (mkL x 0 (kdsP [.val (.sc (.flt .f32))]))) [.sc (.bool)], true, []) := by
  rw [isFilm_f86, isFilm_x]


theorem isFilm_ev86 (x : Vars) : EvP Try.prog G20 86 [.val (.sc (.flt .f32))] [.sc (.bool)] (mkL x 0 (kdsP [.val (.sc (.flt .f32))])) (isFilmR0 (mkL x 0 (kdsP [.val (.sc (.flt .f32))]))) := EvP.of (mkL_norm ..) (isFilm_e86 x) fun _ h => by cases h

noncomputable def G21 : Summ := addG 85 (sumP [.val (.sc (.flt .f32))] [.sc (.bool)] (fun _ => []) isFilmR) G20

theorem G21_ok : SoundG Try.prog G21 := SoundG.sumP G20_ok mixed Try.call85 G20_ok (fun x hx hp => by rw [isFilmR_eq]; exact (fun x _ _ => isFilm_ev85 x) x hx hp)

noncomputable def G22 : Summ := addG 86 (sumP [.val (.sc (.flt .f32))] [.sc (.bool)] (fun _ => []) isFilmR) G21

theorem G22_ok : SoundG Try.prog G22 := SoundG.sumP G21_ok mixed Try.call86 G20_ok (fun x hx hp => by rw [isFilmR_eq]; exact (fun x _ _ => isFilm_ev86 x) x hx hp)

noncomputable def G23 : Summ := inlGs Try.prog 1000 [78] G22

theorem G23_ok : SoundG Try.prog G23 := by
  refine SoundG.inls mixed G22_ok fun f hf => ?_
  simp only [List.mem_cons, List.not_mem_nil, or_false] at hf
  subst hf
  exact Try.call78

noncomputable def isKeyR0 (l : List AV) : Vars := outV (funA Try.prog G23 1000 51 (argsP [.val (.sc (.flt .f32))] 0 l) (memP [.val (.sc (.flt .f32))] l) [])

noncomputable def isKeyR : List AV → Vars := Classical.choose (⟨isKeyR0, rfl⟩ : ∃ f, f = isKeyR0)

theorem isKeyR_eq : isKeyR = isKeyR0 := Classical.choose_spec (⟨isKeyR0, rfl⟩ : ∃ f, f = isKeyR0)

theorem isKey_x (x : Vars) : mkR (isKeyR0 (mkL x 0 (kdsP [.val (.sc (.flt .f32))]))) [.sc (.bool)] = .sbool (((fcmp .geq .f32 (x.u 0) 0) && (fcmp .leq .f32 (x.u 0) 1098907648))) := by kernel_rfl

theorem isKey_f51 (x : Vars) : (funA Try.prog G23 1000 51 (argsP [.val (.sc (.flt .f32))] 0 (mkL x 0 (kdsP [.val (.sc (.flt .f32))]))) (memP [.val (.sc (.flt .f32))] (mkL x 0 (kdsP [.val (.sc (.flt .f32))]))) []).map (fun r => (normR r.1, untupR r.1 && r.1.flat, r.2)) = some (.sbool (((fcmp .geq .f32 (x.u 0) 0) && (fcmp .leq .f32 (x.u 0) 1098907648))), true, []) := by kernel_rfl

set_option maxRecDepth 100000 in
theorem isKey_e51 (x : Vars) : (funA Try.prog G23 1000 51 (argsP [.val (.sc (.flt .f32))] 0 (mkL x 0 (kdsP [.val (.sc (.flt .f32))]))) (memP [.val (.sc (.flt .f32))] (mkL x 0 (kdsP [.val (.sc (.flt .f32))]))) []).map (fun r => (normR r.1, untupR r.1 && r.1.flat, r.2)) = some (mkR (isKeyR0 (mkL x 0 (kdsP [.val (.sc (.flt .f32))]))) [.sc (.bool)], true, []) := by
  rw [isKey_f51, isKey_x]


theorem isKey_ev51 (x : Vars) : EvP Try.prog G23 51 [.val (.sc (.flt .f32))] [.sc (.bool)] (mkL x 0 (kdsP [.val (.sc (.flt .f32))])) (isKeyR0 (mkL x 0 (kdsP [.val (.sc (.flt .f32))]))) := EvP.of (mkL_norm ..) (isKey_e51 x) fun _ h => by cases h

theorem isKey_f62 (x : Vars) : (funA Try.prog G23 1000 62 (argsP [.val (.sc (.flt .f32))] 0 (mkL x 0 (kdsP [.val (.sc (.flt .f32))]))) (memP [.val (.sc (.flt .f32))] (mkL x 0 (kdsP [.val (.sc (.flt .f32))]))) []).map (fun r => (normR r.1, untupR r.1 && r.1.flat, r.2)) = some (.sbool (((fcmp .geq .f32 (x.u 0) 0) && (fcmp .leq .f32 (x.u 0) 1098907648))), true, []) := by kernel_rfl

set_option maxRecDepth 100000 in
theorem isKey_e62 (x : Vars) : (funA Try.prog G23 1000 62 (argsP [.val (.sc (.flt .f32))] 0 (mkL x 0 (kdsP [.val (.sc (.flt .f32))]))) (memP [.val (.sc (.flt .f32))] (mkL x 0 (kdsP [.val (.sc (.flt .f32))]))) []).map (fun r => (normR r.1, untupR r.1 && r.1.flat, r.2)) = some (mkR (isKeyR0 (mkL x 0 (kdsP [.val (.sc (.flt .f32))]))) [.sc (.bool)], true, []) := by
  rw [isKey_f62, isKey_x]


theorem isKey_ev62 (x : Vars) : EvP Try.prog G23 62 [.val (.sc (.flt .f32))] [.sc (.bool)] (mkL x 0 (kdsP [.val (.sc (.flt .f32))])) (isKeyR0 (mkL x 0 (kdsP [.val (.sc (.flt .f32))]))) := EvP.of (mkL_norm ..) (isKey_e62 x) fun _ h => by cases h

noncomputable def G24 : Summ := addG 51 (sumP [.val (.sc (.flt .f32))] [.sc (.bool)] (fun _ => []) isKeyR) G23

theorem G24_ok : SoundG Try.prog G24 := SoundG.sumP G23_ok mixed Try.call51 G23_ok (fun x hx hp => by rw [isKeyR_eq]; exact (fun x _ _ => isKey_ev51 x) x hx hp)

noncomputable def G25 : Summ := addG 62 (sumP [.val (.sc (.flt .f32))] [.sc (.bool)] (fun _ => []) isKeyR) G24

theorem G25_ok : SoundG Try.prog G25 := SoundG.sumP G24_ok mixed Try.call62 G23_ok (fun x hx hp => by rw [isKeyR_eq]; exact (fun x _ _ => isKey_ev62 x) x hx hp)

noncomputable def validSettingR0 (l : List AV) : Vars := outV (funA Try.prog G25 1000 17 (argsP [.val (.ag kd4)] 0 l) (memP [.val (.ag kd4)] l) [])

noncomputable def validSettingR : List AV → Vars := Classical.choose (⟨validSettingR0, rfl⟩ : ∃ f, f = validSettingR0)

theorem validSettingR_eq : validSettingR = validSettingR0 := Classical.choose_spec (⟨validSettingR0, rfl⟩ : ∃ f, f = validSettingR0)

theorem validSetting_x (x : Vars) : mkR (validSettingR0 (mkL x 0 (kdsP [.val (.ag kd4)]))) [.sc (.bool)] = .sbool ((bif ((!((isPartR [(.flt .f32 (x.u 0))]).b 0)) || (!((isKeyR [(.flt .f32 (x.u 8))]).b 0))) then false else (bif ((!((isPartR [(.flt .f32 (x.u 1))]).b 0)) || (!((isKeyR [(.flt .f32 (x.u 9))]).b 0))) then false else (bif ((!((isPartR [(.flt .f32 (x.u 2))]).b 0)) || (!((isKeyR [(.flt .f32 (x.u 10))]).b 0))) then false else (bif ((!((isPartR [(.flt .f32 (x.u 3))]).b 0)) || (!((isKeyR [(.flt .f32 (x.u 11))]).b 0))) then false else (bif ((!((isPartR [(.flt .f32 (x.u 4))]).b 0)) || (!((isKeyR [(.flt .f32 (x.u 12))]).b 0))) then false else (bif ((!((isPartR [(.flt .f32 (x.u 5))]).b 0)) || (!((isKeyR [(.flt .f32 (x.u 13))]).b 0))) then false else (bif ((!((isPartR [(.flt .f32 (x.u 6))]).b 0)) || (!((isKeyR [(.flt .f32 (x.u 14))]).b 0))) then false else (bif ((!((isPartR [(.flt .f32 (x.u 7))]).b 0)) || (!((isKeyR [(.flt .f32 (x.u 15))]).b 0))) then false else ((((((fcmp .gtr .f32 (x.u 16) 0) && (fcmp .leq .f32 (x.u 16) 1098907648)) && (fcmp .gtr .f32 (x.u 17) 0)) && (fcmp .leq .f32 (x.u 17) 1082130432)) && (decide (1 ≤ (x.i 18)))) && (decide ((x.i 18) ≤ 50)))))))))))) := by kernel_rfl

theorem validSetting_f17 (x : Vars) : (funA Try.prog G25 1000 17 (argsP [.val (.ag kd4)] 0 (mkL x 0 (kdsP [.val (.ag kd4)]))) (memP [.val (.ag kd4)] (mkL x 0 (kdsP [.val (.ag kd4)]))) []).map (fun r => (normR r.1, untupR r.1 && r.1.flat, r.2)) = some (.sbool ((bif ((!((isPartR [(.flt .f32 (x.u 0))]).b 0)) || (!((isKeyR [(.flt .f32 (x.u 8))]).b 0))) then false else (bif ((!((isPartR [(.flt .f32 (x.u 1))]).b 0)) || (!((isKeyR [(.flt .f32 (x.u 9))]).b 0))) then false else (bif ((!((isPartR [(.flt .f32 (x.u 2))]).b 0)) || (!((isKeyR [(.flt .f32 (x.u 10))]).b 0))) then false else (bif ((!((isPartR [(.flt .f32 (x.u 3))]).b 0)) || (!((isKeyR [(.flt .f32 (x.u 11))]).b 0))) then false else (bif ((!((isPartR [(.flt .f32 (x.u 4))]).b 0)) || (!((isKeyR [(.flt .f32 (x.u 12))]).b 0))) then false else (bif ((!((isPartR [(.flt .f32 (x.u 5))]).b 0)) || (!((isKeyR [(.flt .f32 (x.u 13))]).b 0))) then false else (bif ((!((isPartR [(.flt .f32 (x.u 6))]).b 0)) || (!((isKeyR [(.flt .f32 (x.u 14))]).b 0))) then false else (bif ((!((isPartR [(.flt .f32 (x.u 7))]).b 0)) || (!((isKeyR [(.flt .f32 (x.u 15))]).b 0))) then false else ((((((fcmp .gtr .f32 (x.u 16) 0) && (fcmp .leq .f32 (x.u 16) 1098907648)) && (fcmp .gtr .f32 (x.u 17) 0)) && (fcmp .leq .f32 (x.u 17) 1082130432)) && (decide (1 ≤ (x.i 18)))) && (decide ((x.i 18) ≤ 50)))))))))))), true, []) := by kernel_rfl

set_option maxRecDepth 100000 in
theorem validSetting_e17 (x : Vars) : (funA Try.prog G25 1000 17 (argsP [.val (.ag kd4)] 0 (mkL x 0 (kdsP [.val (.ag kd4)]))) (memP [.val (.ag kd4)] (mkL x 0 (kdsP [.val (.ag kd4)]))) []).map (fun r => (normR r.1, untupR r.1 && r.1.flat, r.2)) = some (mkR (validSettingR0 (mkL x 0 (kdsP [.val (.ag kd4)]))) [.sc (.bool)], true, []) := by
  rw [validSetting_f17, validSetting_x]


theorem validSetting_ev17 (x : Vars) : EvP Try.prog G25 17 [.val (.ag kd4)] [.sc (.bool)] (mkL x 0 (kdsP [.val (.ag kd4)])) (validSettingR0 (mkL x 0 (kdsP [.val (.ag kd4)]))) := EvP.of (mkL_norm ..) (validSetting_e17 x) fun _ h => by cases h

theorem validSetting_f49 (x : Vars) : (funA Try.prog G25 1000 49 (argsP [.ptr kd4] 0 (mkL x 0 (kdsP [.val (.ag kd4)]))) (memP [.ptr kd4] (mkL x 0 (kdsP [.val (.ag kd4)]))) []).map (fun r => (normR r.1, untupR r.1 && r.1.flat, r.2)) = some (.sbool ((bif ((!((isPartR [(.flt .f32 (x.u 0))]).b 0)) || (!((isKeyR [(.flt .f32 (x.u 8))]).b 0))) then false else (bif ((!((isPartR [(.flt .f32 (x.u 1))]).b 0)) || (!((isKeyR [(.flt .f32 (x.u 9))]).b 0))) then false else (bif ((!((isPartR [(.flt .f32 (x.u 2))]).b 0)) || (!((isKeyR [(.flt .f32 (x.u 10))]).b 0))) then false else (bif ((!((isPartR [(.flt .f32 (x.u 3))]).b 0)) || (!((isKeyR [(.flt .f32 (x.u 11))]).b 0))) then false else (bif ((!((isPartR [(.flt .f32 (x.u 4))]).b 0)) || (!((isKeyR [(.flt .f32 (x.u 12))]).b 0))) then false else (bif ((!((isPartR [(.flt .f32 (x.u 5))]).b 0)) || (!((isKeyR [(.flt .f32 (x.u 13))]).b 0))) then false else (bif ((!((isPartR [(.flt .f32 (x.u 6))]).b 0)) || (!((isKeyR [(.flt .f32 (x.u 14))]).b 0))) then false else (bif ((!((isPartR [(.flt .f32 (x.u 7))]).b 0)) || (!((isKeyR [(.flt .f32 (x.u 15))]).b 0))) then false else ((((((fcmp .gtr .f32 (x.u 16) 0) && (fcmp .leq .f32 (x.u 16) 1098907648)) && (fcmp .gtr .f32 (x.u 17) 0)) && (fcmp .leq .f32 (x.u 17) 1082130432)) && (decide (1 ≤ (x.i 18)))) && (decide ((x.i 18) ≤ 50)))))))))))), true, []) := by kernel_rfl

set_option maxRecDepth 100000 in
theorem validSetting_e49 (x : Vars) : (funA Try.prog G25 1000 49 (argsP [.ptr kd4] 0 (mkL x 0 (kdsP [.val (.ag kd4)]))) (memP [.ptr kd4] (mkL x 0 (kdsP [.val (.ag kd4)]))) []).map (fun r => (normR r.1, untupR r.1 && r.1.flat, r.2)) = some (mkR (validSettingR0 (mkL x 0 (kdsP [.val (.ag kd4)]))) [.sc (.bool)], true, []) := by
  rw [validSetting_f49, validSetting_x]


theorem validSetting_ev49 (x : Vars) : EvP Try.prog G25 49 [.ptr kd4] [.sc (.bool)] (mkL x 0 (kdsP [.val (.ag kd4)])) (validSettingR0 (mkL x 0 (kdsP [.val (.ag kd4)]))) := EvP.of (mkL_norm ..) (validSetting_e49 x) fun _ h => by cases h

noncomputable def G26 : Summ := addG 17 (sumP [.val (.ag kd4)] [.sc (.bool)] (fun _ => []) validSettingR) G25

theorem G26_ok : SoundG Try.prog G26 := SoundG.sumP G25_ok mixed Try.call17 G25_ok (fun x hx hp => by rw [validSettingR_eq]; exact (fun x _ _ => validSetting_ev17 x) x hx hp)

noncomputable def G27 : Summ := addG 49 (sumP [.ptr kd4] [.sc (.bool)] (fun _ => []) validSettingR) G26

theorem G27_ok : SoundG Try.prog G27 := SoundG.sumP G26_ok mixed Try.call49 G25_ok (fun x hx hp => by rw [validSettingR_eq]; exact (fun x _ _ => validSetting_ev49 x) x hx hp)

theorem chain2 {a : Bool} {r : Int} (h : (bif (!a) then 2 else r) = 0) : a = true ∧ r = 0 := by
  cases a with
  | true => exact ⟨rfl, h⟩
  | false => cases h

theorem isFilm_in {v : Nat} (h : (isFilmR [.flt .f32 v]).b 0 = true) : isNan .f32 v = false ∧ v % 2147483648 ≤ 1233125376 := by
  rw [isFilmR_eq] at h
  have e := sb_inj (isFilm_x ⟨fun _ => v, fun _ => 0, fun _ => false, fun _ => .empty⟩)
  have w := within_rung (c := 1233125376) (by decide) (e.symm.trans h)
  exact ⟨w.1, w.2.1⟩

theorem isKey_in {v : Nat} (h : (isKeyR [.flt .f32 v]).b 0 = true) : isNan .f32 v = false ∧ v % 2147483648 ≤ 1098907648 := by
  rw [isKeyR_eq] at h
  have e := sb_inj (isKey_x ⟨fun _ => v, fun _ => 0, fun _ => false, fun _ => .empty⟩)
  have w := within_rung (c := 1098907648) (by decide) (e.symm.trans h)
  exact ⟨w.1, w.2.1⟩

theorem setStep {p k r : Bool} (h : (bif ((!p) || (!k)) then false else r) = true) : k = true ∧ r = true := by
  revert h
  cases p <;> cases k <;> intro h <;> first | exact ⟨rfl, h⟩ | cases h

set_option maxRecDepth 100000 in
theorem validSetting_key (x : Vars) (h : (validSettingR (mkL x 0 (kdsP [.val (.ag kd4)]))).b 0 = true) : (isKeyR [.flt .f32 (x.u 8)]).b 0 = true ∧ (isKeyR [.flt .f32 (x.u 9)]).b 0 = true ∧ (isKeyR [.flt .f32 (x.u 10)]).b 0 = true ∧ (isKeyR [.flt .f32 (x.u 11)]).b 0 = true ∧ (isKeyR [.flt .f32 (x.u 12)]).b 0 = true ∧ (isKeyR [.flt .f32 (x.u 13)]).b 0 = true ∧ (isKeyR [.flt .f32 (x.u 14)]).b 0 = true ∧ (isKeyR [.flt .f32 (x.u 15)]).b 0 = true := by
  rw [validSettingR_eq] at h
  have e := sb_inj (validSetting_x x)
  have h' := e.symm.trans h
  obtain ⟨a0, h'⟩ := setStep h'
  obtain ⟨a1, h'⟩ := setStep h'
  obtain ⟨a2, h'⟩ := setStep h'
  obtain ⟨a3, h'⟩ := setStep h'
  obtain ⟨a4, h'⟩ := setStep h'
  obtain ⟨a5, h'⟩ := setStep h'
  obtain ⟨a6, h'⟩ := setStep h'
  obtain ⟨a7, h'⟩ := setStep h'
  exact ⟨a0, a1, a2, a3, a4, a5, a6, a7⟩

theorem notDec {a b : Int} (h : (!(decide (a = b))) = false) : a = b := by
  cases hd : decide (a = b) with
  | true => exact of_decide_eq_true hd
  | false => rw [hd] at h; cases h

end Go.Proofs.Ytdagaggpaohmcaa

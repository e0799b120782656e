/-
  Facts of this seat that its laws use; no conditions.
-/
import Derived.Test.YtagkkkplmilkhaaOff
import Derived.Test.YtagkkkplmilkhaaSimZb
namespace Go.Proofs.Ytagkkkplmilkhaa
open Go.Sim Go.ChangeShapes Go.WideShapes Go.ChangeAt Go.RowKit

def fl (x : Vars) : Nat → Nat → List AV
  | _, 0 => []
  | a, n + 1 => .flt .f32 (x.u a) :: fl x (a + 1) n

def apl (a b : List AV) : List AV := a ++ b


noncomputable def G20 : Summ := inlGs Try.prog 1000 [130] G19

theorem G20_ok : SoundG Try.prog G20 := by
  refine SoundG.inls mixed G19_ok fun f hf => ?_
  simp only [List.mem_cons, List.not_mem_nil, or_false] at hf
  subst hf
  exact Try.call130

noncomputable def isFilmR0 (l : List AV) : Vars := outV (funA Try.prog G20 1000 127 (argsP [.val (.sc (.flt .f32))] 0 l) (memP [.val (.sc (.flt .f32))] l) [])

noncomputable def isFilmR : List AV → Vars := Classical.choose (⟨isFilmR0, rfl⟩ : ∃ f, f = isFilmR0)

theorem isFilmR_eq : isFilmR = isFilmR0 := Classical.choose_spec (⟨isFilmR0, rfl⟩ : ∃ f, f = isFilmR0)

theorem isFilm_x (x : Vars) : mkR (isFilmR0 (mkL x 0 (kdsP [.val (.sc (.flt .f32))]))) [.sc (.bool)] = .sbool (((fcmp .geq .f32 (x.u 0) 0) && (fcmp .leq .f32 (x.u 0) 1233125376))) := by kernel_rfl

theorem isFilm_f127 (x : Vars) : (funA Try.prog G20 1000 127 (argsP [.val (.sc (.flt .f32))] 0 (mkL x 0 (kdsP [.val (.sc (.flt .f32))]))) (memP [.val (.sc (.flt .f32))] (mkL x 0 (kdsP [.val (.sc (.flt .f32))]))) []).map (fun r => (normR r.1, untupR r.1 && r.1.flat, r.2)) = some (.sbool (((fcmp .geq .f32 (x.u 0) 0) && (fcmp .leq .f32 (x.u 0) 1233125376))), true, []) := by kernel_rfl

set_option maxRecDepth 100000 in
theorem isFilm_e127 (x : Vars) : (funA Try.prog G20 1000 127 (argsP [.val (.sc (.flt .f32))] 0 (mkL x 0 (kdsP [.val (.sc (.flt .f32))]))) (memP [.val (.sc (.flt .f32))] (mkL x 0 (kdsP [.val (.sc (.flt .f32))]))) []).map (fun r => (normR r.1, untupR r.1 && r.1.flat, r.2)) = some (mkR (isFilmR0 (mkL x 0 (kdsP [.val (.sc (.flt .f32))]))) [.sc (.bool)], true, []) := by
  rw [isFilm_f127, isFilm_x]


theorem isFilm_ev127 (x : Vars) : EvP Try.prog G20 127 [.val (.sc (.flt .f32))] [.sc (.bool)] (mkL x 0 (kdsP [.val (.sc (.flt .f32))])) (isFilmR0 (mkL x 0 (kdsP [.val (.sc (.flt .f32))]))) := EvP.of (mkL_norm ..) (isFilm_e127 x) fun _ h => by cases h

theorem isFilm_f112 (x : Vars) : (funA Try.prog G20 1000 112 (argsP [.val (.sc (.flt .f32))] 0 (mkL x 0 (kdsP [.val (.sc (.flt .f32))]))) (memP [.val (.sc (.flt .f32))] (mkL x 0 (kdsP [.val (.sc (.flt .f32))]))) []).map (fun r => (normR r.1, untupR r.1 && r.1.flat, r.2)) = some (.sbool (((fcmp .geq .f32 (x.u 0) 0) && (fcmp .leq .f32 (x.u 0) 1233125376))), true, []) := by kernel_rfl

set_option maxRecDepth 100000 in
theorem isFilm_e112 (x : Vars) : (funA Try.prog G20 1000 112 (argsP [.val (.sc (.flt .f32))] 0 (mkL x 0 (kdsP [.val (.sc (.flt .f32))]))) (memP [.val (.sc (.flt .f32))] (mkL x 0 (kdsP [.val (.sc (.flt .f32))]))) []).map (fun r => (normR r.1, untupR r.1 && r.1.flat, r.2)) = some (mkR (isFilmR0 (mkL x 0 (kdsP [.val (.sc (.flt .f32))]))) [.sc (.bool)], true, []) := by
  rw [isFilm_f112, isFilm_x]


theorem isFilm_ev112 (x : Vars) : EvP Try.prog G20 112 [.val (.sc (.flt .f32))] [.sc (.bool)] (mkL x 0 (kdsP [.val (.sc (.flt .f32))])) (isFilmR0 (mkL x 0 (kdsP [.val (.sc (.flt .f32))]))) := EvP.of (mkL_norm ..) (isFilm_e112 x) fun _ h => by cases h

noncomputable def G21 : Summ := addG 127 (sumP [.val (.sc (.flt .f32))] [.sc (.bool)] (fun _ => []) isFilmR) G20

theorem G21_ok : SoundG Try.prog G21 := SoundG.sumP G20_ok mixed Try.call127 G20_ok (fun x hx hp => by rw [isFilmR_eq]; exact (fun x _ _ => isFilm_ev127 x) x hx hp)

noncomputable def G22 : Summ := addG 112 (sumP [.val (.sc (.flt .f32))] [.sc (.bool)] (fun _ => []) isFilmR) G21

theorem G22_ok : SoundG Try.prog G22 := SoundG.sumP G21_ok mixed Try.call112 G20_ok (fun x hx hp => by rw [isFilmR_eq]; exact (fun x _ _ => isFilm_ev112 x) x hx hp)

noncomputable def G23 : Summ := inlGs Try.prog 1000 [130] G22

theorem G23_ok : SoundG Try.prog G23 := by
  refine SoundG.inls mixed G22_ok fun f hf => ?_
  simp only [List.mem_cons, List.not_mem_nil, or_false] at hf
  subst hf
  exact Try.call130

noncomputable def isKeyR0 (l : List AV) : Vars := outV (funA Try.prog G23 1000 88 (argsP [.val (.sc (.flt .f32))] 0 l) (memP [.val (.sc (.flt .f32))] l) [])

noncomputable def isKeyR : List AV → Vars := Classical.choose (⟨isKeyR0, rfl⟩ : ∃ f, f = isKeyR0)

theorem isKeyR_eq : isKeyR = isKeyR0 := Classical.choose_spec (⟨isKeyR0, rfl⟩ : ∃ f, f = isKeyR0)

theorem isKey_x (x : Vars) : mkR (isKeyR0 (mkL x 0 (kdsP [.val (.sc (.flt .f32))]))) [.sc (.bool)] = .sbool (((fcmp .geq .f32 (x.u 0) 0) && (fcmp .leq .f32 (x.u 0) 1098907648))) := by kernel_rfl

theorem isKey_f88 (x : Vars) : (funA Try.prog G23 1000 88 (argsP [.val (.sc (.flt .f32))] 0 (mkL x 0 (kdsP [.val (.sc (.flt .f32))]))) (memP [.val (.sc (.flt .f32))] (mkL x 0 (kdsP [.val (.sc (.flt .f32))]))) []).map (fun r => (normR r.1, untupR r.1 && r.1.flat, r.2)) = some (.sbool (((fcmp .geq .f32 (x.u 0) 0) && (fcmp .leq .f32 (x.u 0) 1098907648))), true, []) := by kernel_rfl

set_option maxRecDepth 100000 in
theorem isKey_e88 (x : Vars) : (funA Try.prog G23 1000 88 (argsP [.val (.sc (.flt .f32))] 0 (mkL x 0 (kdsP [.val (.sc (.flt .f32))]))) (memP [.val (.sc (.flt .f32))] (mkL x 0 (kdsP [.val (.sc (.flt .f32))]))) []).map (fun r => (normR r.1, untupR r.1 && r.1.flat, r.2)) = some (mkR (isKeyR0 (mkL x 0 (kdsP [.val (.sc (.flt .f32))]))) [.sc (.bool)], true, []) := by
  rw [isKey_f88, isKey_x]


theorem isKey_ev88 (x : Vars) : EvP Try.prog G23 88 [.val (.sc (.flt .f32))] [.sc (.bool)] (mkL x 0 (kdsP [.val (.sc (.flt .f32))])) (isKeyR0 (mkL x 0 (kdsP [.val (.sc (.flt .f32))]))) := EvP.of (mkL_norm ..) (isKey_e88 x) fun _ h => by cases h

theorem isKey_f123 (x : Vars) : (funA Try.prog G23 1000 123 (argsP [.val (.sc (.flt .f32))] 0 (mkL x 0 (kdsP [.val (.sc (.flt .f32))]))) (memP [.val (.sc (.flt .f32))] (mkL x 0 (kdsP [.val (.sc (.flt .f32))]))) []).map (fun r => (normR r.1, untupR r.1 && r.1.flat, r.2)) = some (.sbool (((fcmp .geq .f32 (x.u 0) 0) && (fcmp .leq .f32 (x.u 0) 1098907648))), true, []) := by kernel_rfl

set_option maxRecDepth 100000 in
theorem isKey_e123 (x : Vars) : (funA Try.prog G23 1000 123 (argsP [.val (.sc (.flt .f32))] 0 (mkL x 0 (kdsP [.val (.sc (.flt .f32))]))) (memP [.val (.sc (.flt .f32))] (mkL x 0 (kdsP [.val (.sc (.flt .f32))]))) []).map (fun r => (normR r.1, untupR r.1 && r.1.flat, r.2)) = some (mkR (isKeyR0 (mkL x 0 (kdsP [.val (.sc (.flt .f32))]))) [.sc (.bool)], true, []) := by
  rw [isKey_f123, isKey_x]


theorem isKey_ev123 (x : Vars) : EvP Try.prog G23 123 [.val (.sc (.flt .f32))] [.sc (.bool)] (mkL x 0 (kdsP [.val (.sc (.flt .f32))])) (isKeyR0 (mkL x 0 (kdsP [.val (.sc (.flt .f32))]))) := EvP.of (mkL_norm ..) (isKey_e123 x) fun _ h => by cases h

noncomputable def G24 : Summ := addG 88 (sumP [.val (.sc (.flt .f32))] [.sc (.bool)] (fun _ => []) isKeyR) G23

theorem G24_ok : SoundG Try.prog G24 := SoundG.sumP G23_ok mixed Try.call88 G23_ok (fun x hx hp => by rw [isKeyR_eq]; exact (fun x _ _ => isKey_ev88 x) x hx hp)

noncomputable def G25 : Summ := addG 123 (sumP [.val (.sc (.flt .f32))] [.sc (.bool)] (fun _ => []) isKeyR) G24

theorem G25_ok : SoundG Try.prog G25 := SoundG.sumP G24_ok mixed Try.call123 G23_ok (fun x hx hp => by rw [isKeyR_eq]; exact (fun x _ _ => isKey_ev123 x) x hx hp)

noncomputable def validSettingR0 (l : List AV) : Vars := outV (funA Try.prog G25 1000 126 (argsP [.val (.ag kd4)] 0 l) (memP [.val (.ag kd4)] l) [])

noncomputable def validSettingR : List AV → Vars := Classical.choose (⟨validSettingR0, rfl⟩ : ∃ f, f = validSettingR0)

theorem validSettingR_eq : validSettingR = validSettingR0 := Classical.choose_spec (⟨validSettingR0, rfl⟩ : ∃ f, f = validSettingR0)

theorem validSetting_x (x : Vars) : mkR (validSettingR0 (mkL x 0 (kdsP [.val (.ag kd4)]))) [.sc (.bool)] = .sbool ((bif ((!((isPartR [(.flt .f32 (x.u 0))]).b 0)) || (!((isKeyR [(.flt .f32 (x.u 8))]).b 0))) then false else (bif ((!((isPartR [(.flt .f32 (x.u 1))]).b 0)) || (!((isKeyR [(.flt .f32 (x.u 9))]).b 0))) then false else (bif ((!((isPartR [(.flt .f32 (x.u 2))]).b 0)) || (!((isKeyR [(.flt .f32 (x.u 10))]).b 0))) then false else (bif ((!((isPartR [(.flt .f32 (x.u 3))]).b 0)) || (!((isKeyR [(.flt .f32 (x.u 11))]).b 0))) then false else (bif ((!((isPartR [(.flt .f32 (x.u 4))]).b 0)) || (!((isKeyR [(.flt .f32 (x.u 12))]).b 0))) then false else (bif ((!((isPartR [(.flt .f32 (x.u 5))]).b 0)) || (!((isKeyR [(.flt .f32 (x.u 13))]).b 0))) then false else (bif ((!((isPartR [(.flt .f32 (x.u 6))]).b 0)) || (!((isKeyR [(.flt .f32 (x.u 14))]).b 0))) then false else (bif ((!((isPartR [(.flt .f32 (x.u 7))]).b 0)) || (!((isKeyR [(.flt .f32 (x.u 15))]).b 0))) then false else ((((((fcmp .gtr .f32 (x.u 16) 0) && (fcmp .leq .f32 (x.u 16) 1098907648)) && (fcmp .gtr .f32 (x.u 17) 0)) && (fcmp .leq .f32 (x.u 17) 1082130432)) && (decide (1 ≤ (x.i 18)))) && (decide ((x.i 18) ≤ 50)))))))))))) := by kernel_rfl

theorem validSetting_f126 (x : Vars) : (funA Try.prog G25 1000 126 (argsP [.val (.ag kd4)] 0 (mkL x 0 (kdsP [.val (.ag kd4)]))) (memP [.val (.ag kd4)] (mkL x 0 (kdsP [.val (.ag kd4)]))) []).map (fun r => (normR r.1, untupR r.1 && r.1.flat, r.2)) = some (.sbool ((bif ((!((isPartR [(.flt .f32 (x.u 0))]).b 0)) || (!((isKeyR [(.flt .f32 (x.u 8))]).b 0))) then false else (bif ((!((isPartR [(.flt .f32 (x.u 1))]).b 0)) || (!((isKeyR [(.flt .f32 (x.u 9))]).b 0))) then false else (bif ((!((isPartR [(.flt .f32 (x.u 2))]).b 0)) || (!((isKeyR [(.flt .f32 (x.u 10))]).b 0))) then false else (bif ((!((isPartR [(.flt .f32 (x.u 3))]).b 0)) || (!((isKeyR [(.flt .f32 (x.u 11))]).b 0))) then false else (bif ((!((isPartR [(.flt .f32 (x.u 4))]).b 0)) || (!((isKeyR [(.flt .f32 (x.u 12))]).b 0))) then false else (bif ((!((isPartR [(.flt .f32 (x.u 5))]).b 0)) || (!((isKeyR [(.flt .f32 (x.u 13))]).b 0))) then false else (bif ((!((isPartR [(.flt .f32 (x.u 6))]).b 0)) || (!((isKeyR [(.flt .f32 (x.u 14))]).b 0))) then false else (bif ((!((isPartR [(.flt .f32 (x.u 7))]).b 0)) || (!((isKeyR [(.flt .f32 (x.u 15))]).b 0))) then false else ((((((fcmp .gtr .f32 (x.u 16) 0) && (fcmp .leq .f32 (x.u 16) 1098907648)) && (fcmp .gtr .f32 (x.u 17) 0)) && (fcmp .leq .f32 (x.u 17) 1082130432)) && (decide (1 ≤ (x.i 18)))) && (decide ((x.i 18) ≤ 50)))))))))))), true, []) := by kernel_rfl

set_option maxRecDepth 100000 in
theorem validSetting_e126 (x : Vars) : (funA Try.prog G25 1000 126 (argsP [.val (.ag kd4)] 0 (mkL x 0 (kdsP [.val (.ag kd4)]))) (memP [.val (.ag kd4)] (mkL x 0 (kdsP [.val (.ag kd4)]))) []).map (fun r => (normR r.1, untupR r.1 && r.1.flat, r.2)) = some (mkR (validSettingR0 (mkL x 0 (kdsP [.val (.ag kd4)]))) [.sc (.bool)], true, []) := by
  rw [validSetting_f126, validSetting_x]


theorem validSetting_ev126 (x : Vars) : EvP Try.prog G25 126 [.val (.ag kd4)] [.sc (.bool)] (mkL x 0 (kdsP [.val (.ag kd4)])) (validSettingR0 (mkL x 0 (kdsP [.val (.ag kd4)]))) := EvP.of (mkL_norm ..) (validSetting_e126 x) fun _ h => by cases h

theorem validSetting_f111 (x : Vars) : (funA Try.prog G25 1000 111 (argsP [.ptr kd4] 0 (mkL x 0 (kdsP [.val (.ag kd4)]))) (memP [.ptr kd4] (mkL x 0 (kdsP [.val (.ag kd4)]))) []).map (fun r => (normR r.1, untupR r.1 && r.1.flat, r.2)) = some (.sbool ((bif ((!((isPartR [(.flt .f32 (x.u 0))]).b 0)) || (!((isKeyR [(.flt .f32 (x.u 8))]).b 0))) then false else (bif ((!((isPartR [(.flt .f32 (x.u 1))]).b 0)) || (!((isKeyR [(.flt .f32 (x.u 9))]).b 0))) then false else (bif ((!((isPartR [(.flt .f32 (x.u 2))]).b 0)) || (!((isKeyR [(.flt .f32 (x.u 10))]).b 0))) then false else (bif ((!((isPartR [(.flt .f32 (x.u 3))]).b 0)) || (!((isKeyR [(.flt .f32 (x.u 11))]).b 0))) then false else (bif ((!((isPartR [(.flt .f32 (x.u 4))]).b 0)) || (!((isKeyR [(.flt .f32 (x.u 12))]).b 0))) then false else (bif ((!((isPartR [(.flt .f32 (x.u 5))]).b 0)) || (!((isKeyR [(.flt .f32 (x.u 13))]).b 0))) then false else (bif ((!((isPartR [(.flt .f32 (x.u 6))]).b 0)) || (!((isKeyR [(.flt .f32 (x.u 14))]).b 0))) then false else (bif ((!((isPartR [(.flt .f32 (x.u 7))]).b 0)) || (!((isKeyR [(.flt .f32 (x.u 15))]).b 0))) then false else ((((((fcmp .gtr .f32 (x.u 16) 0) && (fcmp .leq .f32 (x.u 16) 1098907648)) && (fcmp .gtr .f32 (x.u 17) 0)) && (fcmp .leq .f32 (x.u 17) 1082130432)) && (decide (1 ≤ (x.i 18)))) && (decide ((x.i 18) ≤ 50)))))))))))), true, []) := by kernel_rfl

set_option maxRecDepth 100000 in
theorem validSetting_e111 (x : Vars) : (funA Try.prog G25 1000 111 (argsP [.ptr kd4] 0 (mkL x 0 (kdsP [.val (.ag kd4)]))) (memP [.ptr kd4] (mkL x 0 (kdsP [.val (.ag kd4)]))) []).map (fun r => (normR r.1, untupR r.1 && r.1.flat, r.2)) = some (mkR (validSettingR0 (mkL x 0 (kdsP [.val (.ag kd4)]))) [.sc (.bool)], true, []) := by
  rw [validSetting_f111, validSetting_x]


theorem validSetting_ev111 (x : Vars) : EvP Try.prog G25 111 [.ptr kd4] [.sc (.bool)] (mkL x 0 (kdsP [.val (.ag kd4)])) (validSettingR0 (mkL x 0 (kdsP [.val (.ag kd4)]))) := EvP.of (mkL_norm ..) (validSetting_e111 x) fun _ h => by cases h

noncomputable def G26 : Summ := addG 126 (sumP [.val (.ag kd4)] [.sc (.bool)] (fun _ => []) validSettingR) G25

theorem G26_ok : SoundG Try.prog G26 := SoundG.sumP G25_ok mixed Try.call126 G25_ok (fun x hx hp => by rw [validSettingR_eq]; exact (fun x _ _ => validSetting_ev126 x) x hx hp)

noncomputable def G27 : Summ := addG 111 (sumP [.ptr kd4] [.sc (.bool)] (fun _ => []) validSettingR) G26

theorem G27_ok : SoundG Try.prog G27 := SoundG.sumP G26_ok mixed Try.call111 G25_ok (fun x hx hp => by rw [validSettingR_eq]; exact (fun x _ _ => validSetting_ev111 x) x hx hp)

theorem eightI {P : Nat → Prop} (h0 : P 0) (h1 : P 1) (h2 : P 2) (h3 : P 3) (h4 : P 4) (h5 : P 5) (h6 : P 6) (h7 : P 7) : ∀ i, i < 8 → P i := fun i hi =>
  match i, hi with
  | 0, _ => h0
  | 1, _ => h1
  | 2, _ => h2
  | 3, _ => h3
  | 4, _ => h4
  | 5, _ => h5
  | 6, _ => h6
  | 7, _ => h7

/-- Whether the first zones of a row are films. -/
noncomputable def rowOk (z : Nat) (y : Vars) (k : Nat) : Bool := (List.range z).all fun i => (isFilmR [.flt .f32 (y.u (8 * k + i))]).b 0

theorem idxS (i : Nat) (k : Int) : padd i (pmul (itn k) 8) = 8 * k.toNat + i := by
  unfold padd pmul itn
  omega

theorem idxI (i : Nat) (k : Int) : padd (padd 0 (pmul (itn k) 8)) i = 8 * k.toNat + i := by
  unfold padd pmul itn
  omega

/-- A loop that is left at the first row that is not as told. -/
theorem ask_run {T : SV → Tr} {N X E : SV → SV} (P : SV → Prop) (fk : Nat → Bool)
    (hp : ∀ s, P s → s.x.i 0 < s.len 0 → (T s).pick = (bif fk (s.x.i 0).toNat then .next (N s) else .out 1 (X s)))
    (hn : ∀ s, P s → (N s).x.i 0 = s.x.i 0 + 1 ∧ (N s).len 0 = s.len 0 ∧ P (N s))
    (he : ∀ s, P s → ¬ s.x.i 0 < s.len 0 → (T s).pick = .out 0 (E s)) :
    ∀ n s, P s → 0 ≤ s.x.i 0 → s.x.i 0 ≤ s.len 0 → ((s.len 0 : Int) - s.x.i 0).toNat < n →
      ((∀ j : Nat, s.x.i 0 ≤ j → j < s.len 0 → fk j = true) → (Go.Sim.runT T n s).1 = 0) ∧ ((¬ ∀ j : Nat, s.x.i 0 ≤ j → j < s.len 0 → fk j = true) → (Go.Sim.runT T n s).1 = 1) := by
  intro n
  induction n with
  | zero => intro s _ _ _ h; omega
  | succ n ih =>
    intro s hs h0 h1 h2
    simp only [Go.Sim.runT]
    by_cases hlt : s.x.i 0 < s.len 0
    · rw [hp s hs hlt]
      cases hf : fk (s.x.i 0).toNat with
      | false =>
        refine ⟨fun h => ?_, fun _ => rfl⟩
        have := h (s.x.i 0).toNat (by omega) (by omega)
        rw [hf] at this
        cases this
      | true =>
        obtain ⟨e0, e1, e2⟩ := hn s hs
        obtain ⟨g1, g2⟩ := ih (N s) e2 (by omega) (by omega) (by omega)
        refine ⟨fun h => g1 fun j hj hl => h j (by omega) (by omega), fun h => g2 fun h' => h fun j hj hl => ?_⟩
        by_cases hj2 : (j : Int) = s.x.i 0
        · rw [show j = (s.x.i 0).toNat by omega]; exact hf
        · exact h' j (by omega) (by omega)
    · rw [he s hs hlt]
      refine ⟨fun _ => rfl, fun h => absurd (fun j hj hl => ?_) h⟩
      omega

def uT : List VSh := [.sc (.flt .f32), .sc (.flt .f32), .sc (.flt .f32), .sc (.flt .f32), .sc (.flt .f32), .sc (.flt .f32), .sc (.flt .f32), .sc (.flt .f32), .sc (.int .i8), .sc (.flt .f32), .sc (.flt .f32), .sc (.flt .f32), .sc (.flt .f32), .sc (.flt .f32), .sc (.flt .f32), .sc (.flt .f32), .sc (.flt .f32), .sc (.flt .f32), .sc (.flt .f32), .sc (.flt .f32), .sc (.flt .f32), .sc (.flt .f32), .sc (.flt .f32), .sc (.int .i8), .sc (.flt .f32), .sc (.flt .f32), .sc (.flt .f32), .sc (.flt .f32), .sc (.flt .f32), .sc (.flt .f32), .sc (.flt .f32), .sc (.flt .f32), .sc (.flt .f32), .sc (.flt .f32), .sc (.flt .f32), .sc (.flt .f32), .sc (.flt .f32), .sc (.flt .f32), .sc (.int .i8), .sc (.flt .f32), .sc (.flt .f32), .sc (.flt .f32), .sc (.flt .f32), .sc (.flt .f32), .sc (.flt .f32), .sc (.flt .f32), .sc (.flt .f32), .sc (.flt .f32), .sc (.flt .f32), .sc (.flt .f32), .sc (.flt .f32), .sc (.flt .f32), .sc (.flt .f32), .sc (.int .i8), .sc (.flt .f32), .sc (.flt .f32), .sc (.flt .f32), .sc (.flt .f32), .sc (.flt .f32), .sc (.flt .f32), .sc (.flt .f32), .sc (.flt .f32), .sc (.flt .f32), .sc (.flt .f32), .sc (.flt .f32), .sc (.flt .f32), .sc (.flt .f32), .sc (.flt .f32), .sc (.int .i8), .sc (.flt .f32), .sc (.flt .f32), .sc (.flt .f32), .sc (.flt .f32), .sc (.flt .f32), .sc (.flt .f32), .sc (.flt .f32), .sc (.flt .f32), .sc (.flt .f32), .sc (.flt .f32), .sc (.flt .f32), .sc (.flt .f32), .sc (.flt .f32), .sc (.flt .f32), .sc (.int .i8), .sc (.flt .f32), .sc (.flt .f32), .sc (.flt .f32), .sc (.flt .f32), .sc (.flt .f32), .sc (.flt .f32), .sc (.flt .f32), .sc (.flt .f32), .sc (.flt .f32), .sc (.flt .f32), .sc (.flt .f32), .sc (.flt .f32), .sc (.flt .f32), .sc (.flt .f32), .sc (.int .i8), .sc (.flt .f32), .sc (.flt .f32), .sc (.flt .f32), .sc (.flt .f32), .sc (.flt .f32), .sc (.flt .f32), .sc (.flt .f32), .sc (.flt .f32), .sc (.flt .f32), .sc (.flt .f32), .sc (.flt .f32), .sc (.flt .f32), .sc (.flt .f32), .sc (.flt .f32), .sc (.int .i8), .sc (.flt .f32), .sc (.flt .f32), .sc (.flt .f32), .sc (.flt .f32), .sc (.flt .f32), .sc (.flt .f32), .sc (.flt .f32), .sc (.flt .f32), .sc (.flt .f32), .sc (.flt .f32), .sc (.flt .f32), .sc (.flt .f32), .sc (.flt .f32), .sc (.flt .f32)]
def sC : List VSh := [.sc (.flt .f32), .sc (.flt .f32), .sc (.flt .f32), .sc (.flt .f32), .sc (.flt .f32), .sc (.flt .f32), .sc (.flt .f32), .sc (.flt .f32), .sc (.flt .f32), .sc (.flt .f32), .sc (.flt .f32), .sc (.flt .f32), .sc (.flt .f32), .sc (.flt .f32), .sc (.flt .f32), .sc (.flt .f32), .sc (.flt .f32), .sc (.flt .f32), .sc (.int .i16)]

noncomputable def G28 : Summ := inlJ Try.prog 1000 84 G27

theorem G28_ok : SoundG Try.prog G28 := SoundG.inlJ G27_ok mixed Try.call84

noncomputable def G29 : Summ := inlJ Try.prog 1000 54 G28

theorem G29_ok : SoundG Try.prog G29 := SoundG.inlJ G28_ok mixed Try.call54

noncomputable def G30 : Summ := inlGs Try.prog 1000 [79, 53, 57] G29

theorem G30_ok : SoundG Try.prog G30 := by
  refine SoundG.inls mixed G29_ok fun f hf => ?_
  simp only [List.mem_cons, List.not_mem_nil, or_false] at hf
  rcases hf with rfl | rfl | rfl
  · exact Try.call79
  · exact Try.call53
  · exact Try.call57

noncomputable def asS1L : LP := { A := 3, ts := [7, 2, 0], F := ⟨[.sc (.int .i64), .ssl 2 0 8, .ptr 0 0], [.lit (.cst (.int .i8 1) :: uT) false, .lit sC false, .sym (.flt .f32) false]⟩, xs := [(.exit 0, [], ⟨[], [.lit (.cst (.int .i8 1) :: uT) false, .lit sC false, .sym (.flt .f32) false]⟩), (.ret, [6], ⟨[.cst (.int .i64 2)], [.lit (.cst (.int .i8 1) :: uT) false, .lit sC false, .sym (.flt .f32) false]⟩)] }

noncomputable def asI1L : LP := { A := 1, ts := [21, 20, 19, 3], F := ⟨[.sc (.int .i64), .sc (.int .i64), .ssl 0 0 8, .ptr 1 0], [.sym (.flt .f32) false, .lit (.cst (.int .i8 1) :: uT) false]⟩, xs := [(.exit 0, [], ⟨[], [.sym (.flt .f32) false]⟩), (.ret, [6], ⟨[.cst (.int .i64 2)], [.sym (.flt .f32) false]⟩)] }

noncomputable def cnS1L : LP := { A := 1, ts := [10, 9, 2, 3, 4], F := ⟨[.sc (.int .i64), .sc (.int .i64), .ssl 0 0 8, .ptr 1 0, .ptr 2 0], [.sym (.flt .f32) false, .lit (.cst (.int .i8 1) :: uT) false, .lit sC false]⟩, xs := [(.exit 0, [9], ⟨[.sc (.int .i64)], [.sym (.flt .f32) false]⟩)] }

noncomputable def gdI1L : LP := { A := 1, ts := [24, 23, 22, 3, 4, 9], F := ⟨[.sc (.int .i64), .sc (.int .i64), .ssl 0 0 8, .ptr 1 0, .ptr 2 0, .ssl 3 0 1], [.sym (.flt .f32) false, .lit (.cst (.int .i8 1) :: uT) false, .lit sC false, .sym .bool true]⟩, xs := [(.exit 0, [9], ⟨[.ssl 1 0 1], [.sym (.flt .f32) false, .sym .bool true]⟩)] }

noncomputable def asS1_v_0 (s : SV) : Vars := (isFilmR [(.flt .f32 ((s.y 2).u (padd 0 (pmul (itn (s.x.i 0)) 8))))])

noncomputable def asS1N (s : SV) : SV := (mkSV (apl [(.sint .i64 (iadd (s.x.i 0) 1))] (apl (fl s.x 1 8) (apl [(.sint .i8 (s.x.i 9))] (apl (fl s.x 10 14) (apl [(.sint .i8 (s.x.i 24))] (apl (fl s.x 25 14) (apl [(.sint .i8 (s.x.i 39))] (apl (fl s.x 40 14) (apl [(.sint .i8 (s.x.i 54))] (apl (fl s.x 55 14) (apl [(.sint .i8 (s.x.i 69))] (apl (fl s.x 70 14) (apl [(.sint .i8 (s.x.i 84))] (apl (fl s.x 85 14) (apl [(.sint .i8 (s.x.i 99))] (apl (fl s.x 100 14) (apl [(.sint .i8 (s.x.i 114))] (apl (fl s.x 115 32) ([(.sint .i16 (s.x.i 147))]))))))))))))))))))) [(s.len 0)] [0, 0, (s.n 2)] [zeroV, zeroV, (s.y 2)])
noncomputable def asS1X (s : SV) : SV := (mkSV (apl (fl s.x 1 8) (apl [(.sint .i8 (s.x.i 9))] (apl (fl s.x 10 14) (apl [(.sint .i8 (s.x.i 24))] (apl (fl s.x 25 14) (apl [(.sint .i8 (s.x.i 39))] (apl (fl s.x 40 14) (apl [(.sint .i8 (s.x.i 54))] (apl (fl s.x 55 14) (apl [(.sint .i8 (s.x.i 69))] (apl (fl s.x 70 14) (apl [(.sint .i8 (s.x.i 84))] (apl (fl s.x 85 14) (apl [(.sint .i8 (s.x.i 99))] (apl (fl s.x 100 14) (apl [(.sint .i8 (s.x.i 114))] (apl (fl s.x 115 32) ([(.sint .i16 (s.x.i 147))])))))))))))))))))) [] [0, 0, (s.n 2)] [zeroV, zeroV, (s.y 2)])
noncomputable def asS1E (s : SV) : SV := (mkSV (apl (fl s.x 1 8) (apl [(.sint .i8 (s.x.i 9))] (apl (fl s.x 10 14) (apl [(.sint .i8 (s.x.i 24))] (apl (fl s.x 25 14) (apl [(.sint .i8 (s.x.i 39))] (apl (fl s.x 40 14) (apl [(.sint .i8 (s.x.i 54))] (apl (fl s.x 55 14) (apl [(.sint .i8 (s.x.i 69))] (apl (fl s.x 70 14) (apl [(.sint .i8 (s.x.i 84))] (apl (fl s.x 85 14) (apl [(.sint .i8 (s.x.i 99))] (apl (fl s.x 100 14) (apl [(.sint .i8 (s.x.i 114))] (apl (fl s.x 115 32) ([(.sint .i16 (s.x.i 147))])))))))))))))))))) [] [0, 0, (s.n 2)] [zeroV, zeroV, (s.y 2)])

noncomputable def asS1T (s : SV) : Tr := .node [((decide ((-(9223372036854775807 + 1)) ≤ (ofN (s.len 0)))) && (decide ((ofN (s.len 0)) ≤ 9223372036854775807)))] (decide ((s.x.i 0) < (ofN (s.len 0)))) (.node [(decide ((padd 0 (pmul (itn (s.x.i 0)) 8)) < (s.n 2))), (decide (0 ≤ (s.x.i 0))), (decide ((s.x.i 0) < (s.len 0)))] (!((asS1_v_0 s).b 0)) (.out 1 (asS1X s) []) (.next (asS1N s) [((decide ((-(9223372036854775807 + 1)) ≤ (iadd (s.x.i 0) 1))) && (decide ((iadd (s.x.i 0) 1) ≤ 9223372036854775807)))])) (.out 0 (asS1E s) [])

theorem asS1_t (s : SV) : Go.Sim.stepT Try.prog G30 (ntOf Try.prog 53) noLT true 1000 asS1L (loopOf Try.prog 53 0) s = some (asS1T s) := by kernel_rfl

def asS1P (s : SV) : Prop := 0 ≤ s.x.i 0 ∧ s.x.i 0 ≤ s.len 0 ∧ s.len 0 ≤ 1048576 ∧ s.n 2 = 8 * s.len 0

noncomputable def asS1B (s : SV) : Bool := @decide (asS1P s) (Classical.propDecidable _)
theorem asS1B_of {s : SV} (h : asS1B s = true) : asS1P s := @of_decide_eq_true _ (Classical.propDecidable _) h
theorem asS1B_to {s : SV} (h : asS1P s) : asS1B s = true := @decide_eq_true _ (Classical.propDecidable _) h

theorem asS1N_k (s : SV) : (asS1N s).x.i 0 = s.x.i 0 + 1 ∧ (asS1N s).len 0 = s.len 0 ∧ (asS1N s).n 2 = s.n 2 ∧ (asS1N s).y 2 = s.y 2 := ⟨by kernel_rfl, by kernel_rfl, by kernel_rfl, by kernel_rfl⟩

def asS1Mu (s : SV) : Nat := ((s.len 0 : Int) - s.x.i 0).toNat

theorem asS1_pick (s : SV) (hlt : (decide ((s.x.i 0) < (ofN (s.len 0)))) = true) : (asS1T s).pick = (bif rowOk 1 (s.y 2) (s.x.i 0).toNat then .next (asS1N s) else .out 1 (asS1X s)) := by
  have f0 : (isFilmR [.flt .f32 ((s.y 2).u (8 * (s.x.i 0).toNat + 0))]).b 0 = (asS1_v_0 s).b 0 := by
    rw [← idxS 0 (s.x.i 0)]
    rfl
  unfold asS1T
  rw [hlt]
  show _ = (bif ((isFilmR [.flt .f32 ((s.y 2).u (8 * (s.x.i 0).toNat + 0))]).b 0 && (true)) then _ else _)
  rw [f0]
  cases v0 : (asS1_v_0 s).b 0 with
  | false =>
    rfl
  | true =>
    rfl

theorem asS1_go (s : SV) (hp : ∀ b ∈ [asS1B s], b = true) :
    (asS1T s).ok ∧ (∀ k s', (asS1T s).pick = .out k s' → k < 2) ∧ ∀ s', (asS1T s).pick = .next s' → (∀ b ∈ [asS1B s'], b = true) ∧ asS1Mu s' < asS1Mu s := by
  obtain ⟨i1, i2, i3, i4⟩ := asS1B_of (hp _ (List.mem_cons_self ..))
  cases hc : (decide ((s.x.i 0) < (ofN (s.len 0)))) with
  | false =>
    have hk : (asS1T s).pick = .out 0 (asS1E s) := by unfold asS1T; rw [hc]; rfl
    refine ⟨?_, fun k s' h => ?_, fun s' h => ?_⟩
    · unfold asS1T
      exact ⟨(allC (andT (decide_eq_true (by unfold ofN; omega)) (decide_eq_true (by unfold ofN; omega))) allN), (fun h => by rw [hc] at h; cases h), (fun _ b hb => by cases hb)⟩
    · rw [hk] at h; cases h; decide
    · rw [hk] at h; cases h
  | true =>
    have hlt := of_decide_eq_true hc
    (try unfold ofN at hlt)
    refine ⟨?_, fun k s' h => ?_, fun s' h => ?_⟩
    · unfold asS1T
      exact ⟨(allC (andT (decide_eq_true (by unfold ofN; omega)) (decide_eq_true (by unfold ofN; omega))) allN), (fun _ => ⟨(allC (decide_eq_true (by unfold padd pmul itn; omega)) (allC (decide_eq_true (by omega)) (allC (decide_eq_true (by omega)) allN))), (fun _ b hb => by cases hb), (fun _ => (allC (andT (decide_eq_true (by unfold iadd; omega)) (decide_eq_true (by unfold iadd; omega))) allN))⟩), (fun h => by rw [hc] at h; cases h)⟩
    · rw [asS1_pick s hc] at h
      cases hr : rowOk 1 (s.y 2) (s.x.i 0).toNat with
      | false => rw [hr] at h; cases h; decide
      | true => rw [hr] at h; cases h
    · rw [asS1_pick s hc] at h
      cases hr : rowOk 1 (s.y 2) (s.x.i 0).toNat with
      | false => rw [hr] at h; cases h
      | true =>
        rw [hr] at h
        cases h
        obtain ⟨e0, l0, n0, y0⟩ := asS1N_k s
        refine ⟨fun b hb => ?_, by unfold asS1Mu; omega⟩
        rw [List.mem_singleton.1 hb]
        exact asS1B_to ⟨by omega, by omega, by omega, by omega⟩

noncomputable def asS1F0 (s : SV) : Nat × SV := Go.Sim.runT asS1T (asS1Mu s + 1) s

noncomputable def asS1F : SV → Nat × SV := Classical.choose (⟨asS1F0, rfl⟩ : ∃ f, f = asS1F0)

theorem asS1F_eq : asS1F = asS1F0 := Classical.choose_spec (⟨asS1F0, rfl⟩ : ∃ f, f = asS1F0)

noncomputable def asS1Pre (s : SV) : List Bool := [asS1B s]

noncomputable def HasS1 : LTab := hookL 0 asS1L asS1Pre asS1F noLT

theorem HasS1_ok : HFun Try.prog 3 HasS1 53 := by
  unfold HasS1
  rw [asS1F_eq]
  exact HFun.loop G30_ok mixed (J := true) (n := 1000) (L := asS1L) (T := asS1T) (pre := asS1Pre) (μ := asS1Mu) (HFun.none Try.prog 3 53) (by kernel_rfl) (by decide) (by decide) asS1_t asS1_go

theorem asS1_yes (s : SV) (h0 : 0 ≤ s.x.i 0) (h1 : s.x.i 0 ≤ s.len 0) :
    ((∀ j : Nat, s.x.i 0 ≤ j → j < s.len 0 → rowOk 1 (s.y 2) j = true) → (asS1F s).1 = 0) ∧ ((¬ ∀ j : Nat, s.x.i 0 ≤ j → j < s.len 0 → rowOk 1 (s.y 2) j = true) → (asS1F s).1 = 1) := by
  rw [asS1F_eq]
  refine ask_run (T := asS1T) (N := asS1N) (X := asS1X) (E := asS1E) (fun r => r.y 2 = s.y 2) (rowOk 1 (s.y 2)) (fun r hr hlt => ?_) (fun r hr => ?_) (fun r hr hlt => ?_) _ s rfl h0 h1 (Nat.lt_succ_self _)
  · have hy := hr
    rw [← hy]
    exact asS1_pick r (decide_eq_true (show r.x.i 0 < ofN (r.len 0) from hlt))
  · obtain ⟨e0, l0, n0, y0⟩ := asS1N_k r
    exact ⟨e0, l0, y0.trans hr⟩
  · unfold asS1T
    rw [decide_eq_false (show ¬ r.x.i 0 < ofN (r.len 0) from hlt)]
    rfl

noncomputable def asI1_v_0 (s : SV) : Vars := (isFilmR [(.flt .f32 ((s.y 0).u (padd (padd 0 (pmul (itn (s.x.i 0)) 8)) 0)))])

noncomputable def asI1N (s : SV) : SV := (mkSV (apl [(.sint .i64 (iadd (s.x.i 0) 1)), (.sint .i64 (s.x.i 1))] (apl (fl s.x 2 8) (apl [(.sint .i8 (s.x.i 10))] (apl (fl s.x 11 14) (apl [(.sint .i8 (s.x.i 25))] (apl (fl s.x 26 14) (apl [(.sint .i8 (s.x.i 40))] (apl (fl s.x 41 14) (apl [(.sint .i8 (s.x.i 55))] (apl (fl s.x 56 14) (apl [(.sint .i8 (s.x.i 70))] (apl (fl s.x 71 14) (apl [(.sint .i8 (s.x.i 85))] (apl (fl s.x 86 14) (apl [(.sint .i8 (s.x.i 100))] (apl (fl s.x 101 14) (apl [(.sint .i8 (s.x.i 115))] (fl s.x 116 14)))))))))))))))))) [(s.len 0)] [(s.n 0), 0] [(s.y 0), zeroV])
noncomputable def asI1X (s : SV) : SV := (mkSV [] [] [(s.n 0)] [(s.y 0)])
noncomputable def asI1E (s : SV) : SV := (mkSV [] [] [(s.n 0)] [(s.y 0)])

noncomputable def asI1T (s : SV) : Tr := .node [] (decide ((s.x.i 0) < (s.x.i 1))) (.node [(decide ((padd (padd 0 (pmul (itn (s.x.i 0)) 8)) 8) ≤ (s.n 0))), (decide (0 ≤ (s.x.i 0))), (decide ((s.x.i 0) < (s.len 0)))] (!((asI1_v_0 s).b 0)) (.out 1 (asI1X s) []) (.next (asI1N s) [((decide ((-(9223372036854775807 + 1)) ≤ (iadd (s.x.i 0) 1))) && (decide ((iadd (s.x.i 0) 1) ≤ 9223372036854775807)))])) (.out 0 (asI1E s) [])

theorem asI1_t (s : SV) : Go.Sim.stepT Try.prog G30 (ntOf Try.prog 79) noLT true 1000 asI1L (loopOf Try.prog 79 0) s = some (asI1T s) := by kernel_rfl

def asI1P (s : SV) : Prop := 0 ≤ s.x.i 0 ∧ s.x.i 0 ≤ s.len 0 ∧ s.len 0 ≤ 1048576 ∧ s.n 0 = 8 * s.len 0 ∧ s.x.i 1 = s.len 0

noncomputable def asI1B (s : SV) : Bool := @decide (asI1P s) (Classical.propDecidable _)
theorem asI1B_of {s : SV} (h : asI1B s = true) : asI1P s := @of_decide_eq_true _ (Classical.propDecidable _) h
theorem asI1B_to {s : SV} (h : asI1P s) : asI1B s = true := @decide_eq_true _ (Classical.propDecidable _) h

theorem asI1N_k (s : SV) : (asI1N s).x.i 0 = s.x.i 0 + 1 ∧ (asI1N s).len 0 = s.len 0 ∧ (asI1N s).n 0 = s.n 0 ∧ (asI1N s).y 0 = s.y 0 ∧ (asI1N s).x.i 1 = s.x.i 1 := ⟨by kernel_rfl, by kernel_rfl, by kernel_rfl, by kernel_rfl, by kernel_rfl⟩

def asI1Mu (s : SV) : Nat := ((s.len 0 : Int) - s.x.i 0).toNat

theorem asI1_pick (s : SV) (hlt : (decide ((s.x.i 0) < (s.x.i 1))) = true) : (asI1T s).pick = (bif rowOk 1 (s.y 0) (s.x.i 0).toNat then .next (asI1N s) else .out 1 (asI1X s)) := by
  have f0 : (isFilmR [.flt .f32 ((s.y 0).u (8 * (s.x.i 0).toNat + 0))]).b 0 = (asI1_v_0 s).b 0 := by
    rw [← idxI 0 (s.x.i 0)]
    rfl
  unfold asI1T
  rw [hlt]
  show _ = (bif ((isFilmR [.flt .f32 ((s.y 0).u (8 * (s.x.i 0).toNat + 0))]).b 0 && (true)) then _ else _)
  rw [f0]
  cases v0 : (asI1_v_0 s).b 0 with
  | false =>
    rfl
  | true =>
    rfl

theorem asI1_go (s : SV) (hp : ∀ b ∈ [asI1B s], b = true) :
    (asI1T s).ok ∧ (∀ k s', (asI1T s).pick = .out k s' → k < 2) ∧ ∀ s', (asI1T s).pick = .next s' → (∀ b ∈ [asI1B s'], b = true) ∧ asI1Mu s' < asI1Mu s := by
  obtain ⟨i1, i2, i3, i4, i5⟩ := asI1B_of (hp _ (List.mem_cons_self ..))
  cases hc : (decide ((s.x.i 0) < (s.x.i 1))) with
  | false =>
    have hk : (asI1T s).pick = .out 0 (asI1E s) := by unfold asI1T; rw [hc]; rfl
    refine ⟨?_, fun k s' h => ?_, fun s' h => ?_⟩
    · unfold asI1T
      exact ⟨allN, (fun h => by rw [hc] at h; cases h), (fun _ b hb => by cases hb)⟩
    · rw [hk] at h; cases h; decide
    · rw [hk] at h; cases h
  | true =>
    have hlt := of_decide_eq_true hc
    (try unfold ofN at hlt)
    refine ⟨?_, fun k s' h => ?_, fun s' h => ?_⟩
    · unfold asI1T
      exact ⟨allN, (fun _ => ⟨(allC (decide_eq_true (by unfold padd pmul itn; omega)) (allC (decide_eq_true (by omega)) (allC (decide_eq_true (by omega)) allN))), (fun _ b hb => by cases hb), (fun _ => (allC (andT (decide_eq_true (by unfold iadd; omega)) (decide_eq_true (by unfold iadd; omega))) allN))⟩), (fun h => by rw [hc] at h; cases h)⟩
    · rw [asI1_pick s hc] at h
      cases hr : rowOk 1 (s.y 0) (s.x.i 0).toNat with
      | false => rw [hr] at h; cases h; decide
      | true => rw [hr] at h; cases h
    · rw [asI1_pick s hc] at h
      cases hr : rowOk 1 (s.y 0) (s.x.i 0).toNat with
      | false => rw [hr] at h; cases h
      | true =>
        rw [hr] at h
        cases h
        obtain ⟨e0, l0, n0, y0, x1⟩ := asI1N_k s
        refine ⟨fun b hb => ?_, by unfold asI1Mu; omega⟩
        rw [List.mem_singleton.1 hb]
        exact asI1B_to ⟨by omega, by omega, by omega, by omega, by omega⟩

noncomputable def asI1F0 (s : SV) : Nat × SV := Go.Sim.runT asI1T (asI1Mu s + 1) s

noncomputable def asI1F : SV → Nat × SV := Classical.choose (⟨asI1F0, rfl⟩ : ∃ f, f = asI1F0)

theorem asI1F_eq : asI1F = asI1F0 := Classical.choose_spec (⟨asI1F0, rfl⟩ : ∃ f, f = asI1F0)

noncomputable def asI1Pre (s : SV) : List Bool := [asI1B s]

noncomputable def HasI1 : LTab := hookL 0 asI1L asI1Pre asI1F noLT

theorem HasI1_ok : HFun Try.prog 1 HasI1 79 := by
  unfold HasI1
  rw [asI1F_eq]
  exact HFun.loop G30_ok mixed (J := true) (n := 1000) (L := asI1L) (T := asI1T) (pre := asI1Pre) (μ := asI1Mu) (HFun.none Try.prog 1 79) (by kernel_rfl) (by decide) (by decide) asI1_t asI1_go

theorem asI1_yes (s : SV) (h0 : 0 ≤ s.x.i 0) (h1 : s.x.i 0 ≤ s.len 0) (hx : s.x.i 1 = s.len 0) :
    ((∀ j : Nat, s.x.i 0 ≤ j → j < s.len 0 → rowOk 1 (s.y 0) j = true) → (asI1F s).1 = 0) ∧ ((¬ ∀ j : Nat, s.x.i 0 ≤ j → j < s.len 0 → rowOk 1 (s.y 0) j = true) → (asI1F s).1 = 1) := by
  rw [asI1F_eq]
  refine ask_run (T := asI1T) (N := asI1N) (X := asI1X) (E := asI1E) (fun r => r.y 0 = s.y 0 ∧ r.x.i 1 = r.len 0) (rowOk 1 (s.y 0)) (fun r hr hlt => ?_) (fun r hr => ?_) (fun r hr hlt => ?_) _ s ⟨rfl, hx⟩ h0 h1 (Nat.lt_succ_self _)
  · have hy := hr.1
    rw [← hy]
    exact asI1_pick r (decide_eq_true (by have := hr.2; omega))
  · obtain ⟨e0, l0, n0, y0, x1⟩ := asI1N_k r
    exact ⟨e0, l0, ⟨y0.trans hr.1, by have := hr.2; omega⟩⟩
  · unfold asI1T
    rw [decide_eq_false (by have := hr.2; omega)]
    rfl

noncomputable def asS2L : LP := { A := 3, ts := [7, 2, 0], F := ⟨[.sc (.int .i64), .ssl 2 0 8, .ptr 0 0], [.lit (.cst (.int .i8 2) :: uT) false, .lit sC false, .sym (.flt .f32) false]⟩, xs := [(.exit 0, [], ⟨[], [.lit (.cst (.int .i8 2) :: uT) false, .lit sC false, .sym (.flt .f32) false]⟩), (.ret, [6], ⟨[.cst (.int .i64 2)], [.lit (.cst (.int .i8 2) :: uT) false, .lit sC false, .sym (.flt .f32) false]⟩)] }

noncomputable def asI2L : LP := { A := 1, ts := [21, 20, 19, 3], F := ⟨[.sc (.int .i64), .sc (.int .i64), .ssl 0 0 8, .ptr 1 0], [.sym (.flt .f32) false, .lit (.cst (.int .i8 2) :: uT) false]⟩, xs := [(.exit 0, [], ⟨[], [.sym (.flt .f32) false]⟩), (.ret, [6], ⟨[.cst (.int .i64 2)], [.sym (.flt .f32) false]⟩)] }

noncomputable def cnS2L : LP := { A := 1, ts := [10, 9, 2, 3, 4], F := ⟨[.sc (.int .i64), .sc (.int .i64), .ssl 0 0 8, .ptr 1 0, .ptr 2 0], [.sym (.flt .f32) false, .lit (.cst (.int .i8 2) :: uT) false, .lit sC false]⟩, xs := [(.exit 0, [9], ⟨[.sc (.int .i64)], [.sym (.flt .f32) false]⟩)] }

noncomputable def gdI2L : LP := { A := 1, ts := [24, 23, 22, 3, 4, 9], F := ⟨[.sc (.int .i64), .sc (.int .i64), .ssl 0 0 8, .ptr 1 0, .ptr 2 0, .ssl 3 0 1], [.sym (.flt .f32) false, .lit (.cst (.int .i8 2) :: uT) false, .lit sC false, .sym .bool true]⟩, xs := [(.exit 0, [9], ⟨[.ssl 1 0 1], [.sym (.flt .f32) false, .sym .bool true]⟩)] }

noncomputable def asS2_v_0 (s : SV) : Vars := (isFilmR [(.flt .f32 ((s.y 2).u (padd 0 (pmul (itn (s.x.i 0)) 8))))])

noncomputable def asS2_v_1 (s : SV) : Vars := (isFilmR [(.flt .f32 ((s.y 2).u (padd 1 (pmul (itn (s.x.i 0)) 8))))])

noncomputable def asS2N (s : SV) : SV := (mkSV (apl [(.sint .i64 (iadd (s.x.i 0) 1))] (apl (fl s.x 1 8) (apl [(.sint .i8 (s.x.i 9))] (apl (fl s.x 10 14) (apl [(.sint .i8 (s.x.i 24))] (apl (fl s.x 25 14) (apl [(.sint .i8 (s.x.i 39))] (apl (fl s.x 40 14) (apl [(.sint .i8 (s.x.i 54))] (apl (fl s.x 55 14) (apl [(.sint .i8 (s.x.i 69))] (apl (fl s.x 70 14) (apl [(.sint .i8 (s.x.i 84))] (apl (fl s.x 85 14) (apl [(.sint .i8 (s.x.i 99))] (apl (fl s.x 100 14) (apl [(.sint .i8 (s.x.i 114))] (apl (fl s.x 115 32) ([(.sint .i16 (s.x.i 147))]))))))))))))))))))) [(s.len 0)] [0, 0, (s.n 2)] [zeroV, zeroV, (s.y 2)])
noncomputable def asS2X (s : SV) : SV := (mkSV (apl (fl s.x 1 8) (apl [(.sint .i8 (s.x.i 9))] (apl (fl s.x 10 14) (apl [(.sint .i8 (s.x.i 24))] (apl (fl s.x 25 14) (apl [(.sint .i8 (s.x.i 39))] (apl (fl s.x 40 14) (apl [(.sint .i8 (s.x.i 54))] (apl (fl s.x 55 14) (apl [(.sint .i8 (s.x.i 69))] (apl (fl s.x 70 14) (apl [(.sint .i8 (s.x.i 84))] (apl (fl s.x 85 14) (apl [(.sint .i8 (s.x.i 99))] (apl (fl s.x 100 14) (apl [(.sint .i8 (s.x.i 114))] (apl (fl s.x 115 32) ([(.sint .i16 (s.x.i 147))])))))))))))))))))) [] [0, 0, (s.n 2)] [zeroV, zeroV, (s.y 2)])
noncomputable def asS2E (s : SV) : SV := (mkSV (apl (fl s.x 1 8) (apl [(.sint .i8 (s.x.i 9))] (apl (fl s.x 10 14) (apl [(.sint .i8 (s.x.i 24))] (apl (fl s.x 25 14) (apl [(.sint .i8 (s.x.i 39))] (apl (fl s.x 40 14) (apl [(.sint .i8 (s.x.i 54))] (apl (fl s.x 55 14) (apl [(.sint .i8 (s.x.i 69))] (apl (fl s.x 70 14) (apl [(.sint .i8 (s.x.i 84))] (apl (fl s.x 85 14) (apl [(.sint .i8 (s.x.i 99))] (apl (fl s.x 100 14) (apl [(.sint .i8 (s.x.i 114))] (apl (fl s.x 115 32) ([(.sint .i16 (s.x.i 147))])))))))))))))))))) [] [0, 0, (s.n 2)] [zeroV, zeroV, (s.y 2)])

noncomputable def asS2T (s : SV) : Tr := .node [((decide ((-(9223372036854775807 + 1)) ≤ (ofN (s.len 0)))) && (decide ((ofN (s.len 0)) ≤ 9223372036854775807)))] (decide ((s.x.i 0) < (ofN (s.len 0)))) (.node [(decide ((padd 0 (pmul (itn (s.x.i 0)) 8)) < (s.n 2))), (decide (0 ≤ (s.x.i 0))), (decide ((s.x.i 0) < (s.len 0)))] (!((asS2_v_0 s).b 0)) (.out 1 (asS2X s) []) (.node [(decide ((padd 1 (pmul (itn (s.x.i 0)) 8)) < (s.n 2))), (decide (0 ≤ (s.x.i 0))), (decide ((s.x.i 0) < (s.len 0)))] (!((asS2_v_1 s).b 0)) (.out 1 (asS2X s) []) (.next (asS2N s) [((decide ((-(9223372036854775807 + 1)) ≤ (iadd (s.x.i 0) 1))) && (decide ((iadd (s.x.i 0) 1) ≤ 9223372036854775807)))]))) (.out 0 (asS2E s) [])

theorem asS2_t (s : SV) : Go.Sim.stepT Try.prog G30 (ntOf Try.prog 53) noLT true 1000 asS2L (loopOf Try.prog 53 0) s = some (asS2T s) := by kernel_rfl

def asS2P (s : SV) : Prop := 0 ≤ s.x.i 0 ∧ s.x.i 0 ≤ s.len 0 ∧ s.len 0 ≤ 1048576 ∧ s.n 2 = 8 * s.len 0

noncomputable def asS2B (s : SV) : Bool := @decide (asS2P s) (Classical.propDecidable _)
theorem asS2B_of {s : SV} (h : asS2B s = true) : asS2P s := @of_decide_eq_true _ (Classical.propDecidable _) h
theorem asS2B_to {s : SV} (h : asS2P s) : asS2B s = true := @decide_eq_true _ (Classical.propDecidable _) h

theorem asS2N_k (s : SV) : (asS2N s).x.i 0 = s.x.i 0 + 1 ∧ (asS2N s).len 0 = s.len 0 ∧ (asS2N s).n 2 = s.n 2 ∧ (asS2N s).y 2 = s.y 2 := ⟨by kernel_rfl, by kernel_rfl, by kernel_rfl, by kernel_rfl⟩

def asS2Mu (s : SV) : Nat := ((s.len 0 : Int) - s.x.i 0).toNat

theorem asS2_pick (s : SV) (hlt : (decide ((s.x.i 0) < (ofN (s.len 0)))) = true) : (asS2T s).pick = (bif rowOk 2 (s.y 2) (s.x.i 0).toNat then .next (asS2N s) else .out 1 (asS2X s)) := by
  have f0 : (isFilmR [.flt .f32 ((s.y 2).u (8 * (s.x.i 0).toNat + 0))]).b 0 = (asS2_v_0 s).b 0 := by
    rw [← idxS 0 (s.x.i 0)]
    rfl
  have f1 : (isFilmR [.flt .f32 ((s.y 2).u (8 * (s.x.i 0).toNat + 1))]).b 0 = (asS2_v_1 s).b 0 := by
    rw [← idxS 1 (s.x.i 0)]
    rfl
  unfold asS2T
  rw [hlt]
  show _ = (bif ((isFilmR [.flt .f32 ((s.y 2).u (8 * (s.x.i 0).toNat + 0))]).b 0 && ((isFilmR [.flt .f32 ((s.y 2).u (8 * (s.x.i 0).toNat + 1))]).b 0 && (true))) then _ else _)
  rw [f0, f1]
  cases v0 : (asS2_v_0 s).b 0 with
  | false =>
    rfl
  | true =>
    cases v1 : (asS2_v_1 s).b 0 with
    | false =>
      rfl
    | true =>
      rfl

theorem asS2_go (s : SV) (hp : ∀ b ∈ [asS2B s], b = true) :
    (asS2T s).ok ∧ (∀ k s', (asS2T s).pick = .out k s' → k < 2) ∧ ∀ s', (asS2T s).pick = .next s' → (∀ b ∈ [asS2B s'], b = true) ∧ asS2Mu s' < asS2Mu s := by
  obtain ⟨i1, i2, i3, i4⟩ := asS2B_of (hp _ (List.mem_cons_self ..))
  cases hc : (decide ((s.x.i 0) < (ofN (s.len 0)))) with
  | false =>
    have hk : (asS2T s).pick = .out 0 (asS2E s) := by unfold asS2T; rw [hc]; rfl
    refine ⟨?_, fun k s' h => ?_, fun s' h => ?_⟩
    · unfold asS2T
      exact ⟨(allC (andT (decide_eq_true (by unfold ofN; omega)) (decide_eq_true (by unfold ofN; omega))) allN), (fun h => by rw [hc] at h; cases h), (fun _ b hb => by cases hb)⟩
    · rw [hk] at h; cases h; decide
    · rw [hk] at h; cases h
  | true =>
    have hlt := of_decide_eq_true hc
    (try unfold ofN at hlt)
    refine ⟨?_, fun k s' h => ?_, fun s' h => ?_⟩
    · unfold asS2T
      exact ⟨(allC (andT (decide_eq_true (by unfold ofN; omega)) (decide_eq_true (by unfold ofN; omega))) allN), (fun _ => ⟨(allC (decide_eq_true (by unfold padd pmul itn; omega)) (allC (decide_eq_true (by omega)) (allC (decide_eq_true (by omega)) allN))), (fun _ b hb => by cases hb), (fun _ => ⟨(allC (decide_eq_true (by unfold padd pmul itn; omega)) (allC (decide_eq_true (by omega)) (allC (decide_eq_true (by omega)) allN))), (fun _ b hb => by cases hb), (fun _ => (allC (andT (decide_eq_true (by unfold iadd; omega)) (decide_eq_true (by unfold iadd; omega))) allN))⟩)⟩), (fun h => by rw [hc] at h; cases h)⟩
    · rw [asS2_pick s hc] at h
      cases hr : rowOk 2 (s.y 2) (s.x.i 0).toNat with
      | false => rw [hr] at h; cases h; decide
      | true => rw [hr] at h; cases h
    · rw [asS2_pick s hc] at h
      cases hr : rowOk 2 (s.y 2) (s.x.i 0).toNat with
      | false => rw [hr] at h; cases h
      | true =>
        rw [hr] at h
        cases h
        obtain ⟨e0, l0, n0, y0⟩ := asS2N_k s
        refine ⟨fun b hb => ?_, by unfold asS2Mu; omega⟩
        rw [List.mem_singleton.1 hb]
        exact asS2B_to ⟨by omega, by omega, by omega, by omega⟩

noncomputable def asS2F0 (s : SV) : Nat × SV := Go.Sim.runT asS2T (asS2Mu s + 1) s

noncomputable def asS2F : SV → Nat × SV := Classical.choose (⟨asS2F0, rfl⟩ : ∃ f, f = asS2F0)

theorem asS2F_eq : asS2F = asS2F0 := Classical.choose_spec (⟨asS2F0, rfl⟩ : ∃ f, f = asS2F0)

noncomputable def asS2Pre (s : SV) : List Bool := [asS2B s]

noncomputable def HasS2 : LTab := hookL 0 asS2L asS2Pre asS2F noLT

theorem HasS2_ok : HFun Try.prog 3 HasS2 53 := by
  unfold HasS2
  rw [asS2F_eq]
  exact HFun.loop G30_ok mixed (J := true) (n := 1000) (L := asS2L) (T := asS2T) (pre := asS2Pre) (μ := asS2Mu) (HFun.none Try.prog 3 53) (by kernel_rfl) (by decide) (by decide) asS2_t asS2_go

theorem asS2_yes (s : SV) (h0 : 0 ≤ s.x.i 0) (h1 : s.x.i 0 ≤ s.len 0) :
    ((∀ j : Nat, s.x.i 0 ≤ j → j < s.len 0 → rowOk 2 (s.y 2) j = true) → (asS2F s).1 = 0) ∧ ((¬ ∀ j : Nat, s.x.i 0 ≤ j → j < s.len 0 → rowOk 2 (s.y 2) j = true) → (asS2F s).1 = 1) := by
  rw [asS2F_eq]
  refine ask_run (T := asS2T) (N := asS2N) (X := asS2X) (E := asS2E) (fun r => r.y 2 = s.y 2) (rowOk 2 (s.y 2)) (fun r hr hlt => ?_) (fun r hr => ?_) (fun r hr hlt => ?_) _ s rfl h0 h1 (Nat.lt_succ_self _)
  · have hy := hr
    rw [← hy]
    exact asS2_pick r (decide_eq_true (show r.x.i 0 < ofN (r.len 0) from hlt))
  · obtain ⟨e0, l0, n0, y0⟩ := asS2N_k r
    exact ⟨e0, l0, y0.trans hr⟩
  · unfold asS2T
    rw [decide_eq_false (show ¬ r.x.i 0 < ofN (r.len 0) from hlt)]
    rfl

noncomputable def asI2_v_0 (s : SV) : Vars := (isFilmR [(.flt .f32 ((s.y 0).u (padd (padd 0 (pmul (itn (s.x.i 0)) 8)) 0)))])

noncomputable def asI2_v_1 (s : SV) : Vars := (isFilmR [(.flt .f32 ((s.y 0).u (padd (padd 0 (pmul (itn (s.x.i 0)) 8)) 1)))])

noncomputable def asI2N (s : SV) : SV := (mkSV (apl [(.sint .i64 (iadd (s.x.i 0) 1)), (.sint .i64 (s.x.i 1))] (apl (fl s.x 2 8) (apl [(.sint .i8 (s.x.i 10))] (apl (fl s.x 11 14) (apl [(.sint .i8 (s.x.i 25))] (apl (fl s.x 26 14) (apl [(.sint .i8 (s.x.i 40))] (apl (fl s.x 41 14) (apl [(.sint .i8 (s.x.i 55))] (apl (fl s.x 56 14) (apl [(.sint .i8 (s.x.i 70))] (apl (fl s.x 71 14) (apl [(.sint .i8 (s.x.i 85))] (apl (fl s.x 86 14) (apl [(.sint .i8 (s.x.i 100))] (apl (fl s.x 101 14) (apl [(.sint .i8 (s.x.i 115))] (fl s.x 116 14)))))))))))))))))) [(s.len 0)] [(s.n 0), 0] [(s.y 0), zeroV])
noncomputable def asI2X (s : SV) : SV := (mkSV [] [] [(s.n 0)] [(s.y 0)])
noncomputable def asI2E (s : SV) : SV := (mkSV [] [] [(s.n 0)] [(s.y 0)])

noncomputable def asI2T (s : SV) : Tr := .node [] (decide ((s.x.i 0) < (s.x.i 1))) (.node [(decide ((padd (padd 0 (pmul (itn (s.x.i 0)) 8)) 8) ≤ (s.n 0))), (decide (0 ≤ (s.x.i 0))), (decide ((s.x.i 0) < (s.len 0)))] (!((asI2_v_0 s).b 0)) (.out 1 (asI2X s) []) (.node [] (!((asI2_v_1 s).b 0)) (.out 1 (asI2X s) []) (.next (asI2N s) [((decide ((-(9223372036854775807 + 1)) ≤ (iadd (s.x.i 0) 1))) && (decide ((iadd (s.x.i 0) 1) ≤ 9223372036854775807)))]))) (.out 0 (asI2E s) [])

theorem asI2_t (s : SV) : Go.Sim.stepT Try.prog G30 (ntOf Try.prog 79) noLT true 1000 asI2L (loopOf Try.prog 79 0) s = some (asI2T s) := by kernel_rfl

def asI2P (s : SV) : Prop := 0 ≤ s.x.i 0 ∧ s.x.i 0 ≤ s.len 0 ∧ s.len 0 ≤ 1048576 ∧ s.n 0 = 8 * s.len 0 ∧ s.x.i 1 = s.len 0

noncomputable def asI2B (s : SV) : Bool := @decide (asI2P s) (Classical.propDecidable _)
theorem asI2B_of {s : SV} (h : asI2B s = true) : asI2P s := @of_decide_eq_true _ (Classical.propDecidable _) h
theorem asI2B_to {s : SV} (h : asI2P s) : asI2B s = true := @decide_eq_true _ (Classical.propDecidable _) h

theorem asI2N_k (s : SV) : (asI2N s).x.i 0 = s.x.i 0 + 1 ∧ (asI2N s).len 0 = s.len 0 ∧ (asI2N s).n 0 = s.n 0 ∧ (asI2N s).y 0 = s.y 0 ∧ (asI2N s).x.i 1 = s.x.i 1 := ⟨by kernel_rfl, by kernel_rfl, by kernel_rfl, by kernel_rfl, by kernel_rfl⟩

def asI2Mu (s : SV) : Nat := ((s.len 0 : Int) - s.x.i 0).toNat

theorem asI2_pick (s : SV) (hlt : (decide ((s.x.i 0) < (s.x.i 1))) = true) : (asI2T s).pick = (bif rowOk 2 (s.y 0) (s.x.i 0).toNat then .next (asI2N s) else .out 1 (asI2X s)) := by
  have f0 : (isFilmR [.flt .f32 ((s.y 0).u (8 * (s.x.i 0).toNat + 0))]).b 0 = (asI2_v_0 s).b 0 := by
    rw [← idxI 0 (s.x.i 0)]
    rfl
  have f1 : (isFilmR [.flt .f32 ((s.y 0).u (8 * (s.x.i 0).toNat + 1))]).b 0 = (asI2_v_1 s).b 0 := by
    rw [← idxI 1 (s.x.i 0)]
    rfl
  unfold asI2T
  rw [hlt]
  show _ = (bif ((isFilmR [.flt .f32 ((s.y 0).u (8 * (s.x.i 0).toNat + 0))]).b 0 && ((isFilmR [.flt .f32 ((s.y 0).u (8 * (s.x.i 0).toNat + 1))]).b 0 && (true))) then _ else _)
  rw [f0, f1]
  cases v0 : (asI2_v_0 s).b 0 with
  | false =>
    rfl
  | true =>
    cases v1 : (asI2_v_1 s).b 0 with
    | false =>
      rfl
    | true =>
      rfl

theorem asI2_go (s : SV) (hp : ∀ b ∈ [asI2B s], b = true) :
    (asI2T s).ok ∧ (∀ k s', (asI2T s).pick = .out k s' → k < 2) ∧ ∀ s', (asI2T s).pick = .next s' → (∀ b ∈ [asI2B s'], b = true) ∧ asI2Mu s' < asI2Mu s := by
  obtain ⟨i1, i2, i3, i4, i5⟩ := asI2B_of (hp _ (List.mem_cons_self ..))
  cases hc : (decide ((s.x.i 0) < (s.x.i 1))) with
  | false =>
    have hk : (asI2T s).pick = .out 0 (asI2E s) := by unfold asI2T; rw [hc]; rfl
    refine ⟨?_, fun k s' h => ?_, fun s' h => ?_⟩
    · unfold asI2T
      exact ⟨allN, (fun h => by rw [hc] at h; cases h), (fun _ b hb => by cases hb)⟩
    · rw [hk] at h; cases h; decide
    · rw [hk] at h; cases h
  | true =>
    have hlt := of_decide_eq_true hc
    (try unfold ofN at hlt)
    refine ⟨?_, fun k s' h => ?_, fun s' h => ?_⟩
    · unfold asI2T
      exact ⟨allN, (fun _ => ⟨(allC (decide_eq_true (by unfold padd pmul itn; omega)) (allC (decide_eq_true (by omega)) (allC (decide_eq_true (by omega)) allN))), (fun _ b hb => by cases hb), (fun _ => ⟨allN, (fun _ b hb => by cases hb), (fun _ => (allC (andT (decide_eq_true (by unfold iadd; omega)) (decide_eq_true (by unfold iadd; omega))) allN))⟩)⟩), (fun h => by rw [hc] at h; cases h)⟩
    · rw [asI2_pick s hc] at h
      cases hr : rowOk 2 (s.y 0) (s.x.i 0).toNat with
      | false => rw [hr] at h; cases h; decide
      | true => rw [hr] at h; cases h
    · rw [asI2_pick s hc] at h
      cases hr : rowOk 2 (s.y 0) (s.x.i 0).toNat with
      | false => rw [hr] at h; cases h
      | true =>
        rw [hr] at h
        cases h
        obtain ⟨e0, l0, n0, y0, x1⟩ := asI2N_k s
        refine ⟨fun b hb => ?_, by unfold asI2Mu; omega⟩
        rw [List.mem_singleton.1 hb]
        exact asI2B_to ⟨by omega, by omega, by omega, by omega, by omega⟩

noncomputable def asI2F0 (s : SV) : Nat × SV := Go.Sim.runT asI2T (asI2Mu s + 1) s

noncomputable def asI2F : SV → Nat × SV := Classical.choose (⟨asI2F0, rfl⟩ : ∃ f, f = asI2F0)

theorem asI2F_eq : asI2F = asI2F0 := Classical.choose_spec (⟨asI2F0, rfl⟩ : ∃ f, f = asI2F0)

noncomputable def asI2Pre (s : SV) : List Bool := [asI2B s]

noncomputable def HasI2 : LTab := hookL 0 asI2L asI2Pre asI2F noLT

theorem HasI2_ok : HFun Try.prog 1 HasI2 79 := by
  unfold HasI2
  rw [asI2F_eq]
  exact HFun.loop G30_ok mixed (J := true) (n := 1000) (L := asI2L) (T := asI2T) (pre := asI2Pre) (μ := asI2Mu) (HFun.none Try.prog 1 79) (by kernel_rfl) (by decide) (by decide) asI2_t asI2_go

theorem asI2_yes (s : SV) (h0 : 0 ≤ s.x.i 0) (h1 : s.x.i 0 ≤ s.len 0) (hx : s.x.i 1 = s.len 0) :
    ((∀ j : Nat, s.x.i 0 ≤ j → j < s.len 0 → rowOk 2 (s.y 0) j = true) → (asI2F s).1 = 0) ∧ ((¬ ∀ j : Nat, s.x.i 0 ≤ j → j < s.len 0 → rowOk 2 (s.y 0) j = true) → (asI2F s).1 = 1) := by
  rw [asI2F_eq]
  refine ask_run (T := asI2T) (N := asI2N) (X := asI2X) (E := asI2E) (fun r => r.y 0 = s.y 0 ∧ r.x.i 1 = r.len 0) (rowOk 2 (s.y 0)) (fun r hr hlt => ?_) (fun r hr => ?_) (fun r hr hlt => ?_) _ s ⟨rfl, hx⟩ h0 h1 (Nat.lt_succ_self _)
  · have hy := hr.1
    rw [← hy]
    exact asI2_pick r (decide_eq_true (by have := hr.2; omega))
  · obtain ⟨e0, l0, n0, y0, x1⟩ := asI2N_k r
    exact ⟨e0, l0, ⟨y0.trans hr.1, by have := hr.2; omega⟩⟩
  · unfold asI2T
    rw [decide_eq_false (by have := hr.2; omega)]
    rfl

noncomputable def asS3L : LP := { A := 3, ts := [7, 2, 0], F := ⟨[.sc (.int .i64), .ssl 2 0 8, .ptr 0 0], [.lit (.cst (.int .i8 3) :: uT) false, .lit sC false, .sym (.flt .f32) false]⟩, xs := [(.exit 0, [], ⟨[], [.lit (.cst (.int .i8 3) :: uT) false, .lit sC false, .sym (.flt .f32) false]⟩), (.ret, [6], ⟨[.cst (.int .i64 2)], [.lit (.cst (.int .i8 3) :: uT) false, .lit sC false, .sym (.flt .f32) false]⟩)] }

noncomputable def asI3L : LP := { A := 1, ts := [21, 20, 19, 3], F := ⟨[.sc (.int .i64), .sc (.int .i64), .ssl 0 0 8, .ptr 1 0], [.sym (.flt .f32) false, .lit (.cst (.int .i8 3) :: uT) false]⟩, xs := [(.exit 0, [], ⟨[], [.sym (.flt .f32) false]⟩), (.ret, [6], ⟨[.cst (.int .i64 2)], [.sym (.flt .f32) false]⟩)] }

noncomputable def cnS3L : LP := { A := 1, ts := [10, 9, 2, 3, 4], F := ⟨[.sc (.int .i64), .sc (.int .i64), .ssl 0 0 8, .ptr 1 0, .ptr 2 0], [.sym (.flt .f32) false, .lit (.cst (.int .i8 3) :: uT) false, .lit sC false]⟩, xs := [(.exit 0, [9], ⟨[.sc (.int .i64)], [.sym (.flt .f32) false]⟩)] }

noncomputable def gdI3L : LP := { A := 1, ts := [24, 23, 22, 3, 4, 9], F := ⟨[.sc (.int .i64), .sc (.int .i64), .ssl 0 0 8, .ptr 1 0, .ptr 2 0, .ssl 3 0 1], [.sym (.flt .f32) false, .lit (.cst (.int .i8 3) :: uT) false, .lit sC false, .sym .bool true]⟩, xs := [(.exit 0, [9], ⟨[.ssl 1 0 1], [.sym (.flt .f32) false, .sym .bool true]⟩)] }

noncomputable def asS3_v_0 (s : SV) : Vars := (isFilmR [(.flt .f32 ((s.y 2).u (padd 0 (pmul (itn (s.x.i 0)) 8))))])

noncomputable def asS3_v_1 (s : SV) : Vars := (isFilmR [(.flt .f32 ((s.y 2).u (padd 1 (pmul (itn (s.x.i 0)) 8))))])

noncomputable def asS3_v_2 (s : SV) : Vars := (isFilmR [(.flt .f32 ((s.y 2).u (padd 2 (pmul (itn (s.x.i 0)) 8))))])

noncomputable def asS3N (s : SV) : SV := (mkSV (apl [(.sint .i64 (iadd (s.x.i 0) 1))] (apl (fl s.x 1 8) (apl [(.sint .i8 (s.x.i 9))] (apl (fl s.x 10 14) (apl [(.sint .i8 (s.x.i 24))] (apl (fl s.x 25 14) (apl [(.sint .i8 (s.x.i 39))] (apl (fl s.x 40 14) (apl [(.sint .i8 (s.x.i 54))] (apl (fl s.x 55 14) (apl [(.sint .i8 (s.x.i 69))] (apl (fl s.x 70 14) (apl [(.sint .i8 (s.x.i 84))] (apl (fl s.x 85 14) (apl [(.sint .i8 (s.x.i 99))] (apl (fl s.x 100 14) (apl [(.sint .i8 (s.x.i 114))] (apl (fl s.x 115 32) ([(.sint .i16 (s.x.i 147))]))))))))))))))))))) [(s.len 0)] [0, 0, (s.n 2)] [zeroV, zeroV, (s.y 2)])
noncomputable def asS3X (s : SV) : SV := (mkSV (apl (fl s.x 1 8) (apl [(.sint .i8 (s.x.i 9))] (apl (fl s.x 10 14) (apl [(.sint .i8 (s.x.i 24))] (apl (fl s.x 25 14) (apl [(.sint .i8 (s.x.i 39))] (apl (fl s.x 40 14) (apl [(.sint .i8 (s.x.i 54))] (apl (fl s.x 55 14) (apl [(.sint .i8 (s.x.i 69))] (apl (fl s.x 70 14) (apl [(.sint .i8 (s.x.i 84))] (apl (fl s.x 85 14) (apl [(.sint .i8 (s.x.i 99))] (apl (fl s.x 100 14) (apl [(.sint .i8 (s.x.i 114))] (apl (fl s.x 115 32) ([(.sint .i16 (s.x.i 147))])))))))))))))))))) [] [0, 0, (s.n 2)] [zeroV, zeroV, (s.y 2)])
noncomputable def asS3E (s : SV) : SV := (mkSV (apl (fl s.x 1 8) (apl [(.sint .i8 (s.x.i 9))] (apl (fl s.x 10 14) (apl [(.sint .i8 (s.x.i 24))] (apl (fl s.x 25 14) (apl [(.sint .i8 (s.x.i 39))] (apl (fl s.x 40 14) (apl [(.sint .i8 (s.x.i 54))] (apl (fl s.x 55 14) (apl [(.sint .i8 (s.x.i 69))] (apl (fl s.x 70 14) (apl [(.sint .i8 (s.x.i 84))] (apl (fl s.x 85 14) (apl [(.sint .i8 (s.x.i 99))] (apl (fl s.x 100 14) (apl [(.sint .i8 (s.x.i 114))] (apl (fl s.x 115 32) ([(.sint .i16 (s.x.i 147))])))))))))))))))))) [] [0, 0, (s.n 2)] [zeroV, zeroV, (s.y 2)])

noncomputable def asS3T (s : SV) : Tr := .node [((decide ((-(9223372036854775807 + 1)) ≤ (ofN (s.len 0)))) && (decide ((ofN (s.len 0)) ≤ 9223372036854775807)))] (decide ((s.x.i 0) < (ofN (s.len 0)))) (.node [(decide ((padd 0 (pmul (itn (s.x.i 0)) 8)) < (s.n 2))), (decide (0 ≤ (s.x.i 0))), (decide ((s.x.i 0) < (s.len 0)))] (!((asS3_v_0 s).b 0)) (.out 1 (asS3X s) []) (.node [(decide ((padd 1 (pmul (itn (s.x.i 0)) 8)) < (s.n 2))), (decide (0 ≤ (s.x.i 0))), (decide ((s.x.i 0) < (s.len 0)))] (!((asS3_v_1 s).b 0)) (.out 1 (asS3X s) []) (.node [(decide ((padd 2 (pmul (itn (s.x.i 0)) 8)) < (s.n 2))), (decide (0 ≤ (s.x.i 0))), (decide ((s.x.i 0) < (s.len 0)))] (!((asS3_v_2 s).b 0)) (.out 1 (asS3X s) []) (.next (asS3N s) [((decide ((-(9223372036854775807 + 1)) ≤ (iadd (s.x.i 0) 1))) && (decide ((iadd (s.x.i 0) 1) ≤ 9223372036854775807)))])))) (.out 0 (asS3E s) [])

theorem asS3_t (s : SV) : Go.Sim.stepT Try.prog G30 (ntOf Try.prog 53) noLT true 1000 asS3L (loopOf Try.prog 53 0) s = some (asS3T s) := by kernel_rfl

def asS3P (s : SV) : Prop := 0 ≤ s.x.i 0 ∧ s.x.i 0 ≤ s.len 0 ∧ s.len 0 ≤ 1048576 ∧ s.n 2 = 8 * s.len 0

noncomputable def asS3B (s : SV) : Bool := @decide (asS3P s) (Classical.propDecidable _)
theorem asS3B_of {s : SV} (h : asS3B s = true) : asS3P s := @of_decide_eq_true _ (Classical.propDecidable _) h
theorem asS3B_to {s : SV} (h : asS3P s) : asS3B s = true := @decide_eq_true _ (Classical.propDecidable _) h

theorem asS3N_k (s : SV) : (asS3N s).x.i 0 = s.x.i 0 + 1 ∧ (asS3N s).len 0 = s.len 0 ∧ (asS3N s).n 2 = s.n 2 ∧ (asS3N s).y 2 = s.y 2 := ⟨by kernel_rfl, by kernel_rfl, by kernel_rfl, by kernel_rfl⟩

def asS3Mu (s : SV) : Nat := ((s.len 0 : Int) - s.x.i 0).toNat

theorem asS3_pick (s : SV) (hlt : (decide ((s.x.i 0) < (ofN (s.len 0)))) = true) : (asS3T s).pick = (bif rowOk 3 (s.y 2) (s.x.i 0).toNat then .next (asS3N s) else .out 1 (asS3X s)) := by
  have f0 : (isFilmR [.flt .f32 ((s.y 2).u (8 * (s.x.i 0).toNat + 0))]).b 0 = (asS3_v_0 s).b 0 := by
    rw [← idxS 0 (s.x.i 0)]
    rfl
  have f1 : (isFilmR [.flt .f32 ((s.y 2).u (8 * (s.x.i 0).toNat + 1))]).b 0 = (asS3_v_1 s).b 0 := by
    rw [← idxS 1 (s.x.i 0)]
    rfl
  have f2 : (isFilmR [.flt .f32 ((s.y 2).u (8 * (s.x.i 0).toNat + 2))]).b 0 = (asS3_v_2 s).b 0 := by
    rw [← idxS 2 (s.x.i 0)]
    rfl
  unfold asS3T
  rw [hlt]
  show _ = (bif ((isFilmR [.flt .f32 ((s.y 2).u (8 * (s.x.i 0).toNat + 0))]).b 0 && ((isFilmR [.flt .f32 ((s.y 2).u (8 * (s.x.i 0).toNat + 1))]).b 0 && ((isFilmR [.flt .f32 ((s.y 2).u (8 * (s.x.i 0).toNat + 2))]).b 0 && (true)))) then _ else _)
  rw [f0, f1, f2]
  cases v0 : (asS3_v_0 s).b 0 with
  | false =>
    rfl
  | true =>
    cases v1 : (asS3_v_1 s).b 0 with
    | false =>
      rfl
    | true =>
      cases v2 : (asS3_v_2 s).b 0 with
      | false =>
        rfl
      | true =>
        rfl

theorem asS3_go (s : SV) (hp : ∀ b ∈ [asS3B s], b = true) :
    (asS3T s).ok ∧ (∀ k s', (asS3T s).pick = .out k s' → k < 2) ∧ ∀ s', (asS3T s).pick = .next s' → (∀ b ∈ [asS3B s'], b = true) ∧ asS3Mu s' < asS3Mu s := by
  obtain ⟨i1, i2, i3, i4⟩ := asS3B_of (hp _ (List.mem_cons_self ..))
  cases hc : (decide ((s.x.i 0) < (ofN (s.len 0)))) with
  | false =>
    have hk : (asS3T s).pick = .out 0 (asS3E s) := by unfold asS3T; rw [hc]; rfl
    refine ⟨?_, fun k s' h => ?_, fun s' h => ?_⟩
    · unfold asS3T
      exact ⟨(allC (andT (decide_eq_true (by unfold ofN; omega)) (decide_eq_true (by unfold ofN; omega))) allN), (fun h => by rw [hc] at h; cases h), (fun _ b hb => by cases hb)⟩
    · rw [hk] at h; cases h; decide
    · rw [hk] at h; cases h
  | true =>
    have hlt := of_decide_eq_true hc
    (try unfold ofN at hlt)
    refine ⟨?_, fun k s' h => ?_, fun s' h => ?_⟩
    · unfold asS3T
      exact ⟨(allC (andT (decide_eq_true (by unfold ofN; omega)) (decide_eq_true (by unfold ofN; omega))) allN), (fun _ => ⟨(allC (decide_eq_true (by unfold padd pmul itn; omega)) (allC (decide_eq_true (by omega)) (allC (decide_eq_true (by omega)) allN))), (fun _ b hb => by cases hb), (fun _ => ⟨(allC (decide_eq_true (by unfold padd pmul itn; omega)) (allC (decide_eq_true (by omega)) (allC (decide_eq_true (by omega)) allN))), (fun _ b hb => by cases hb), (fun _ => ⟨(allC (decide_eq_true (by unfold padd pmul itn; omega)) (allC (decide_eq_true (by omega)) (allC (decide_eq_true (by omega)) allN))), (fun _ b hb => by cases hb), (fun _ => (allC (andT (decide_eq_true (by unfold iadd; omega)) (decide_eq_true (by unfold iadd; omega))) allN))⟩)⟩)⟩), (fun h => by rw [hc] at h; cases h)⟩
    · rw [asS3_pick s hc] at h
      cases hr : rowOk 3 (s.y 2) (s.x.i 0).toNat with
      | false => rw [hr] at h; cases h; decide
      | true => rw [hr] at h; cases h
    · rw [asS3_pick s hc] at h
      cases hr : rowOk 3 (s.y 2) (s.x.i 0).toNat with
      | false => rw [hr] at h; cases h
      | true =>
        rw [hr] at h
        cases h
        obtain ⟨e0, l0, n0, y0⟩ := asS3N_k s
        refine ⟨fun b hb => ?_, by unfold asS3Mu; omega⟩
        rw [List.mem_singleton.1 hb]
        exact asS3B_to ⟨by omega, by omega, by omega, by omega⟩

noncomputable def asS3F0 (s : SV) : Nat × SV := Go.Sim.runT asS3T (asS3Mu s + 1) s

noncomputable def asS3F : SV → Nat × SV := Classical.choose (⟨asS3F0, rfl⟩ : ∃ f, f = asS3F0)

theorem asS3F_eq : asS3F = asS3F0 := Classical.choose_spec (⟨asS3F0, rfl⟩ : ∃ f, f = asS3F0)

noncomputable def asS3Pre (s : SV) : List Bool := [asS3B s]

noncomputable def HasS3 : LTab := hookL 0 asS3L asS3Pre asS3F noLT

theorem HasS3_ok : HFun Try.prog 3 HasS3 53 := by
  unfold HasS3
  rw [asS3F_eq]
  exact HFun.loop G30_ok mixed (J := true) (n := 1000) (L := asS3L) (T := asS3T) (pre := asS3Pre) (μ := asS3Mu) (HFun.none Try.prog 3 53) (by kernel_rfl) (by decide) (by decide) asS3_t asS3_go

theorem asS3_yes (s : SV) (h0 : 0 ≤ s.x.i 0) (h1 : s.x.i 0 ≤ s.len 0) :
    ((∀ j : Nat, s.x.i 0 ≤ j → j < s.len 0 → rowOk 3 (s.y 2) j = true) → (asS3F s).1 = 0) ∧ ((¬ ∀ j : Nat, s.x.i 0 ≤ j → j < s.len 0 → rowOk 3 (s.y 2) j = true) → (asS3F s).1 = 1) := by
  rw [asS3F_eq]
  refine ask_run (T := asS3T) (N := asS3N) (X := asS3X) (E := asS3E) (fun r => r.y 2 = s.y 2) (rowOk 3 (s.y 2)) (fun r hr hlt => ?_) (fun r hr => ?_) (fun r hr hlt => ?_) _ s rfl h0 h1 (Nat.lt_succ_self _)
  · have hy := hr
    rw [← hy]
    exact asS3_pick r (decide_eq_true (show r.x.i 0 < ofN (r.len 0) from hlt))
  · obtain ⟨e0, l0, n0, y0⟩ := asS3N_k r
    exact ⟨e0, l0, y0.trans hr⟩
  · unfold asS3T
    rw [decide_eq_false (show ¬ r.x.i 0 < ofN (r.len 0) from hlt)]
    rfl

noncomputable def asI3_v_0 (s : SV) : Vars := (isFilmR [(.flt .f32 ((s.y 0).u (padd (padd 0 (pmul (itn (s.x.i 0)) 8)) 0)))])

noncomputable def asI3_v_1 (s : SV) : Vars := (isFilmR [(.flt .f32 ((s.y 0).u (padd (padd 0 (pmul (itn (s.x.i 0)) 8)) 1)))])

noncomputable def asI3_v_2 (s : SV) : Vars := (isFilmR [(.flt .f32 ((s.y 0).u (padd (padd 0 (pmul (itn (s.x.i 0)) 8)) 2)))])

noncomputable def asI3N (s : SV) : SV := (mkSV (apl [(.sint .i64 (iadd (s.x.i 0) 1)), (.sint .i64 (s.x.i 1))] (apl (fl s.x 2 8) (apl [(.sint .i8 (s.x.i 10))] (apl (fl s.x 11 14) (apl [(.sint .i8 (s.x.i 25))] (apl (fl s.x 26 14) (apl [(.sint .i8 (s.x.i 40))] (apl (fl s.x 41 14) (apl [(.sint .i8 (s.x.i 55))] (apl (fl s.x 56 14) (apl [(.sint .i8 (s.x.i 70))] (apl (fl s.x 71 14) (apl [(.sint .i8 (s.x.i 85))] (apl (fl s.x 86 14) (apl [(.sint .i8 (s.x.i 100))] (apl (fl s.x 101 14) (apl [(.sint .i8 (s.x.i 115))] (fl s.x 116 14)))))))))))))))))) [(s.len 0)] [(s.n 0), 0] [(s.y 0), zeroV])
noncomputable def asI3X (s : SV) : SV := (mkSV [] [] [(s.n 0)] [(s.y 0)])
noncomputable def asI3E (s : SV) : SV := (mkSV [] [] [(s.n 0)] [(s.y 0)])

noncomputable def asI3T (s : SV) : Tr := .node [] (decide ((s.x.i 0) < (s.x.i 1))) (.node [(decide ((padd (padd 0 (pmul (itn (s.x.i 0)) 8)) 8) ≤ (s.n 0))), (decide (0 ≤ (s.x.i 0))), (decide ((s.x.i 0) < (s.len 0)))] (!((asI3_v_0 s).b 0)) (.out 1 (asI3X s) []) (.node [] (!((asI3_v_1 s).b 0)) (.out 1 (asI3X s) []) (.node [] (!((asI3_v_2 s).b 0)) (.out 1 (asI3X s) []) (.next (asI3N s) [((decide ((-(9223372036854775807 + 1)) ≤ (iadd (s.x.i 0) 1))) && (decide ((iadd (s.x.i 0) 1) ≤ 9223372036854775807)))])))) (.out 0 (asI3E s) [])

theorem asI3_t (s : SV) : Go.Sim.stepT Try.prog G30 (ntOf Try.prog 79) noLT true 1000 asI3L (loopOf Try.prog 79 0) s = some (asI3T s) := by kernel_rfl

def asI3P (s : SV) : Prop := 0 ≤ s.x.i 0 ∧ s.x.i 0 ≤ s.len 0 ∧ s.len 0 ≤ 1048576 ∧ s.n 0 = 8 * s.len 0 ∧ s.x.i 1 = s.len 0

noncomputable def asI3B (s : SV) : Bool := @decide (asI3P s) (Classical.propDecidable _)
theorem asI3B_of {s : SV} (h : asI3B s = true) : asI3P s := @of_decide_eq_true _ (Classical.propDecidable _) h
theorem asI3B_to {s : SV} (h : asI3P s) : asI3B s = true := @decide_eq_true _ (Classical.propDecidable _) h

theorem asI3N_k (s : SV) : (asI3N s).x.i 0 = s.x.i 0 + 1 ∧ (asI3N s).len 0 = s.len 0 ∧ (asI3N s).n 0 = s.n 0 ∧ (asI3N s).y 0 = s.y 0 ∧ (asI3N s).x.i 1 = s.x.i 1 := ⟨by kernel_rfl, by kernel_rfl, by kernel_rfl, by kernel_rfl, by kernel_rfl⟩

def asI3Mu (s : SV) : Nat := ((s.len 0 : Int) - s.x.i 0).toNat

theorem asI3_pick (s : SV) (hlt : (decide ((s.x.i 0) < (s.x.i 1))) = true) : (asI3T s).pick = (bif rowOk 3 (s.y 0) (s.x.i 0).toNat then .next (asI3N s) else .out 1 (asI3X s)) := by
  have f0 : (isFilmR [.flt .f32 ((s.y 0).u (8 * (s.x.i 0).toNat + 0))]).b 0 = (asI3_v_0 s).b 0 := by
    rw [← idxI 0 (s.x.i 0)]
    rfl
  have f1 : (isFilmR [.flt .f32 ((s.y 0).u (8 * (s.x.i 0).toNat + 1))]).b 0 = (asI3_v_1 s).b 0 := by
    rw [← idxI 1 (s.x.i 0)]
    rfl
  have f2 : (isFilmR [.flt .f32 ((s.y 0).u (8 * (s.x.i 0).toNat + 2))]).b 0 = (asI3_v_2 s).b 0 := by
    rw [← idxI 2 (s.x.i 0)]
    rfl
  unfold asI3T
  rw [hlt]
  show _ = (bif ((isFilmR [.flt .f32 ((s.y 0).u (8 * (s.x.i 0).toNat + 0))]).b 0 && ((isFilmR [.flt .f32 ((s.y 0).u (8 * (s.x.i 0).toNat + 1))]).b 0 && ((isFilmR [.flt .f32 ((s.y 0).u (8 * (s.x.i 0).toNat + 2))]).b 0 && (true)))) then _ else _)
  rw [f0, f1, f2]
  cases v0 : (asI3_v_0 s).b 0 with
  | false =>
    rfl
  | true =>
    cases v1 : (asI3_v_1 s).b 0 with
    | false =>
      rfl
    | true =>
      cases v2 : (asI3_v_2 s).b 0 with
      | false =>
        rfl
      | true =>
        rfl

theorem asI3_go (s : SV) (hp : ∀ b ∈ [asI3B s], b = true) :
    (asI3T s).ok ∧ (∀ k s', (asI3T s).pick = .out k s' → k < 2) ∧ ∀ s', (asI3T s).pick = .next s' → (∀ b ∈ [asI3B s'], b = true) ∧ asI3Mu s' < asI3Mu s := by
  obtain ⟨i1, i2, i3, i4, i5⟩ := asI3B_of (hp _ (List.mem_cons_self ..))
  cases hc : (decide ((s.x.i 0) < (s.x.i 1))) with
  | false =>
    have hk : (asI3T s).pick = .out 0 (asI3E s) := by unfold asI3T; rw [hc]; rfl
    refine ⟨?_, fun k s' h => ?_, fun s' h => ?_⟩
    · unfold asI3T
      exact ⟨allN, (fun h => by rw [hc] at h; cases h), (fun _ b hb => by cases hb)⟩
    · rw [hk] at h; cases h; decide
    · rw [hk] at h; cases h
  | true =>
    have hlt := of_decide_eq_true hc
    (try unfold ofN at hlt)
    refine ⟨?_, fun k s' h => ?_, fun s' h => ?_⟩
    · unfold asI3T
      exact ⟨allN, (fun _ => ⟨(allC (decide_eq_true (by unfold padd pmul itn; omega)) (allC (decide_eq_true (by omega)) (allC (decide_eq_true (by omega)) allN))), (fun _ b hb => by cases hb), (fun _ => ⟨allN, (fun _ b hb => by cases hb), (fun _ => ⟨allN, (fun _ b hb => by cases hb), (fun _ => (allC (andT (decide_eq_true (by unfold iadd; omega)) (decide_eq_true (by unfold iadd; omega))) allN))⟩)⟩)⟩), (fun h => by rw [hc] at h; cases h)⟩
    · rw [asI3_pick s hc] at h
      cases hr : rowOk 3 (s.y 0) (s.x.i 0).toNat with
      | false => rw [hr] at h; cases h; decide
      | true => rw [hr] at h; cases h
    · rw [asI3_pick s hc] at h
      cases hr : rowOk 3 (s.y 0) (s.x.i 0).toNat with
      | false => rw [hr] at h; cases h
      | true =>
        rw [hr] at h
        cases h
        obtain ⟨e0, l0, n0, y0, x1⟩ := asI3N_k s
        refine ⟨fun b hb => ?_, by unfold asI3Mu; omega⟩
        rw [List.mem_singleton.1 hb]
        exact asI3B_to ⟨by omega, by omega, by omega, by omega, by omega⟩

noncomputable def asI3F0 (s : SV) : Nat × SV := Go.Sim.runT asI3T (asI3Mu s + 1) s

noncomputable def asI3F : SV → Nat × SV := Classical.choose (⟨asI3F0, rfl⟩ : ∃ f, f = asI3F0)

theorem asI3F_eq : asI3F = asI3F0 := Classical.choose_spec (⟨asI3F0, rfl⟩ : ∃ f, f = asI3F0)

noncomputable def asI3Pre (s : SV) : List Bool := [asI3B s]

noncomputable def HasI3 : LTab := hookL 0 asI3L asI3Pre asI3F noLT

theorem HasI3_ok : HFun Try.prog 1 HasI3 79 := by
  unfold HasI3
  rw [asI3F_eq]
  exact HFun.loop G30_ok mixed (J := true) (n := 1000) (L := asI3L) (T := asI3T) (pre := asI3Pre) (μ := asI3Mu) (HFun.none Try.prog 1 79) (by kernel_rfl) (by decide) (by decide) asI3_t asI3_go

theorem asI3_yes (s : SV) (h0 : 0 ≤ s.x.i 0) (h1 : s.x.i 0 ≤ s.len 0) (hx : s.x.i 1 = s.len 0) :
    ((∀ j : Nat, s.x.i 0 ≤ j → j < s.len 0 → rowOk 3 (s.y 0) j = true) → (asI3F s).1 = 0) ∧ ((¬ ∀ j : Nat, s.x.i 0 ≤ j → j < s.len 0 → rowOk 3 (s.y 0) j = true) → (asI3F s).1 = 1) := by
  rw [asI3F_eq]
  refine ask_run (T := asI3T) (N := asI3N) (X := asI3X) (E := asI3E) (fun r => r.y 0 = s.y 0 ∧ r.x.i 1 = r.len 0) (rowOk 3 (s.y 0)) (fun r hr hlt => ?_) (fun r hr => ?_) (fun r hr hlt => ?_) _ s ⟨rfl, hx⟩ h0 h1 (Nat.lt_succ_self _)
  · have hy := hr.1
    rw [← hy]
    exact asI3_pick r (decide_eq_true (by have := hr.2; omega))
  · obtain ⟨e0, l0, n0, y0, x1⟩ := asI3N_k r
    exact ⟨e0, l0, ⟨y0.trans hr.1, by have := hr.2; omega⟩⟩
  · unfold asI3T
    rw [decide_eq_false (by have := hr.2; omega)]
    rfl

noncomputable def asS4L : LP := { A := 3, ts := [7, 2, 0], F := ⟨[.sc (.int .i64), .ssl 2 0 8, .ptr 0 0], [.lit (.cst (.int .i8 4) :: uT) false, .lit sC false, .sym (.flt .f32) false]⟩, xs := [(.exit 0, [], ⟨[], [.lit (.cst (.int .i8 4) :: uT) false, .lit sC false, .sym (.flt .f32) false]⟩), (.ret, [6], ⟨[.cst (.int .i64 2)], [.lit (.cst (.int .i8 4) :: uT) false, .lit sC false, .sym (.flt .f32) false]⟩)] }

noncomputable def asI4L : LP := { A := 1, ts := [21, 20, 19, 3], F := ⟨[.sc (.int .i64), .sc (.int .i64), .ssl 0 0 8, .ptr 1 0], [.sym (.flt .f32) false, .lit (.cst (.int .i8 4) :: uT) false]⟩, xs := [(.exit 0, [], ⟨[], [.sym (.flt .f32) false]⟩), (.ret, [6], ⟨[.cst (.int .i64 2)], [.sym (.flt .f32) false]⟩)] }

noncomputable def cnS4L : LP := { A := 1, ts := [10, 9, 2, 3, 4], F := ⟨[.sc (.int .i64), .sc (.int .i64), .ssl 0 0 8, .ptr 1 0, .ptr 2 0], [.sym (.flt .f32) false, .lit (.cst (.int .i8 4) :: uT) false, .lit sC false]⟩, xs := [(.exit 0, [9], ⟨[.sc (.int .i64)], [.sym (.flt .f32) false]⟩)] }

noncomputable def gdI4L : LP := { A := 1, ts := [24, 23, 22, 3, 4, 9], F := ⟨[.sc (.int .i64), .sc (.int .i64), .ssl 0 0 8, .ptr 1 0, .ptr 2 0, .ssl 3 0 1], [.sym (.flt .f32) false, .lit (.cst (.int .i8 4) :: uT) false, .lit sC false, .sym .bool true]⟩, xs := [(.exit 0, [9], ⟨[.ssl 1 0 1], [.sym (.flt .f32) false, .sym .bool true]⟩)] }

noncomputable def asS4_v_0 (s : SV) : Vars := (isFilmR [(.flt .f32 ((s.y 2).u (padd 0 (pmul (itn (s.x.i 0)) 8))))])

noncomputable def asS4_v_1 (s : SV) : Vars := (isFilmR [(.flt .f32 ((s.y 2).u (padd 1 (pmul (itn (s.x.i 0)) 8))))])

noncomputable def asS4_v_2 (s : SV) : Vars := (isFilmR [(.flt .f32 ((s.y 2).u (padd 2 (pmul (itn (s.x.i 0)) 8))))])

noncomputable def asS4_v_3 (s : SV) : Vars := (isFilmR [(.flt .f32 ((s.y 2).u (padd 3 (pmul (itn (s.x.i 0)) 8))))])

noncomputable def asS4N (s : SV) : SV := (mkSV (apl [(.sint .i64 (iadd (s.x.i 0) 1))] (apl (fl s.x 1 8) (apl [(.sint .i8 (s.x.i 9))] (apl (fl s.x 10 14) (apl [(.sint .i8 (s.x.i 24))] (apl (fl s.x 25 14) (apl [(.sint .i8 (s.x.i 39))] (apl (fl s.x 40 14) (apl [(.sint .i8 (s.x.i 54))] (apl (fl s.x 55 14) (apl [(.sint .i8 (s.x.i 69))] (apl (fl s.x 70 14) (apl [(.sint .i8 (s.x.i 84))] (apl (fl s.x 85 14) (apl [(.sint .i8 (s.x.i 99))] (apl (fl s.x 100 14) (apl [(.sint .i8 (s.x.i 114))] (apl (fl s.x 115 32) ([(.sint .i16 (s.x.i 147))]))))))))))))))))))) [(s.len 0)] [0, 0, (s.n 2)] [zeroV, zeroV, (s.y 2)])
noncomputable def asS4X (s : SV) : SV := (mkSV (apl (fl s.x 1 8) (apl [(.sint .i8 (s.x.i 9))] (apl (fl s.x 10 14) (apl [(.sint .i8 (s.x.i 24))] (apl (fl s.x 25 14) (apl [(.sint .i8 (s.x.i 39))] (apl (fl s.x 40 14) (apl [(.sint .i8 (s.x.i 54))] (apl (fl s.x 55 14) (apl [(.sint .i8 (s.x.i 69))] (apl (fl s.x 70 14) (apl [(.sint .i8 (s.x.i 84))] (apl (fl s.x 85 14) (apl [(.sint .i8 (s.x.i 99))] (apl (fl s.x 100 14) (apl [(.sint .i8 (s.x.i 114))] (apl (fl s.x 115 32) ([(.sint .i16 (s.x.i 147))])))))))))))))))))) [] [0, 0, (s.n 2)] [zeroV, zeroV, (s.y 2)])
noncomputable def asS4E (s : SV) : SV := (mkSV (apl (fl s.x 1 8) (apl [(.sint .i8 (s.x.i 9))] (apl (fl s.x 10 14) (apl [(.sint .i8 (s.x.i 24))] (apl (fl s.x 25 14) (apl [(.sint .i8 (s.x.i 39))] (apl (fl s.x 40 14) (apl [(.sint .i8 (s.x.i 54))] (apl (fl s.x 55 14) (apl [(.sint .i8 (s.x.i 69))] (apl (fl s.x 70 14) (apl [(.sint .i8 (s.x.i 84))] (apl (fl s.x 85 14) (apl [(.sint .i8 (s.x.i 99))] (apl (fl s.x 100 14) (apl [(.sint .i8 (s.x.i 114))] (apl (fl s.x 115 32) ([(.sint .i16 (s.x.i 147))])))))))))))))))))) [] [0, 0, (s.n 2)] [zeroV, zeroV, (s.y 2)])

noncomputable def asS4T (s : SV) : Tr := .node [((decide ((-(9223372036854775807 + 1)) ≤ (ofN (s.len 0)))) && (decide ((ofN (s.len 0)) ≤ 9223372036854775807)))] (decide ((s.x.i 0) < (ofN (s.len 0)))) (.node [(decide ((padd 0 (pmul (itn (s.x.i 0)) 8)) < (s.n 2))), (decide (0 ≤ (s.x.i 0))), (decide ((s.x.i 0) < (s.len 0)))] (!((asS4_v_0 s).b 0)) (.out 1 (asS4X s) []) (.node [(decide ((padd 1 (pmul (itn (s.x.i 0)) 8)) < (s.n 2))), (decide (0 ≤ (s.x.i 0))), (decide ((s.x.i 0) < (s.len 0)))] (!((asS4_v_1 s).b 0)) (.out 1 (asS4X s) []) (.node [(decide ((padd 2 (pmul (itn (s.x.i 0)) 8)) < (s.n 2))), (decide (0 ≤ (s.x.i 0))), (decide ((s.x.i 0) < (s.len 0)))] (!((asS4_v_2 s).b 0)) (.out 1 (asS4X s) []) (.node [(decide ((padd 3 (pmul (itn (s.x.i 0)) 8)) < (s.n 2))), (decide (0 ≤ (s.x.i 0))), (decide ((s.x.i 0) < (s.len 0)))] (!((asS4_v_3 s).b 0)) (.out 1 (asS4X s) []) (.next (asS4N s) [((decide ((-(9223372036854775807 + 1)) ≤ (iadd (s.x.i 0) 1))) && (decide ((iadd (s.x.i 0) 1) ≤ 9223372036854775807)))]))))) (.out 0 (asS4E s) [])

theorem asS4_t (s : SV) : Go.Sim.stepT Try.prog G30 (ntOf Try.prog 53) noLT true 1000 asS4L (loopOf Try.prog 53 0) s = some (asS4T s) := by kernel_rfl

def asS4P (s : SV) : Prop := 0 ≤ s.x.i 0 ∧ s.x.i 0 ≤ s.len 0 ∧ s.len 0 ≤ 1048576 ∧ s.n 2 = 8 * s.len 0

noncomputable def asS4B (s : SV) : Bool := @decide (asS4P s) (Classical.propDecidable _)
theorem asS4B_of {s : SV} (h : asS4B s = true) : asS4P s := @of_decide_eq_true _ (Classical.propDecidable _) h
theorem asS4B_to {s : SV} (h : asS4P s) : asS4B s = true := @decide_eq_true _ (Classical.propDecidable _) h

theorem asS4N_k (s : SV) : (asS4N s).x.i 0 = s.x.i 0 + 1 ∧ (asS4N s).len 0 = s.len 0 ∧ (asS4N s).n 2 = s.n 2 ∧ (asS4N s).y 2 = s.y 2 := ⟨by kernel_rfl, by kernel_rfl, by kernel_rfl, by kernel_rfl⟩

def asS4Mu (s : SV) : Nat := ((s.len 0 : Int) - s.x.i 0).toNat

theorem asS4_pick (s : SV) (hlt : (decide ((s.x.i 0) < (ofN (s.len 0)))) = true) : (asS4T s).pick = (bif rowOk 4 (s.y 2) (s.x.i 0).toNat then .next (asS4N s) else .out 1 (asS4X s)) := by
  have f0 : (isFilmR [.flt .f32 ((s.y 2).u (8 * (s.x.i 0).toNat + 0))]).b 0 = (asS4_v_0 s).b 0 := by
    rw [← idxS 0 (s.x.i 0)]
    rfl
  have f1 : (isFilmR [.flt .f32 ((s.y 2).u (8 * (s.x.i 0).toNat + 1))]).b 0 = (asS4_v_1 s).b 0 := by
    rw [← idxS 1 (s.x.i 0)]
    rfl
  have f2 : (isFilmR [.flt .f32 ((s.y 2).u (8 * (s.x.i 0).toNat + 2))]).b 0 = (asS4_v_2 s).b 0 := by
    rw [← idxS 2 (s.x.i 0)]
    rfl
  have f3 : (isFilmR [.flt .f32 ((s.y 2).u (8 * (s.x.i 0).toNat + 3))]).b 0 = (asS4_v_3 s).b 0 := by
    rw [← idxS 3 (s.x.i 0)]
    rfl
  unfold asS4T
  rw [hlt]
  show _ = (bif ((isFilmR [.flt .f32 ((s.y 2).u (8 * (s.x.i 0).toNat + 0))]).b 0 && ((isFilmR [.flt .f32 ((s.y 2).u (8 * (s.x.i 0).toNat + 1))]).b 0 && ((isFilmR [.flt .f32 ((s.y 2).u (8 * (s.x.i 0).toNat + 2))]).b 0 && ((isFilmR [.flt .f32 ((s.y 2).u (8 * (s.x.i 0).toNat + 3))]).b 0 && (true))))) then _ else _)
  rw [f0, f1, f2, f3]
  cases v0 : (asS4_v_0 s).b 0 with
  | false =>
    rfl
  | true =>
    cases v1 : (asS4_v_1 s).b 0 with
    | false =>
      rfl
    | true =>
      cases v2 : (asS4_v_2 s).b 0 with
      | false =>
        rfl
      | true =>
        cases v3 : (asS4_v_3 s).b 0 with
        | false =>
          rfl
        | true =>
          rfl

theorem asS4_go (s : SV) (hp : ∀ b ∈ [asS4B s], b = true) :
    (asS4T s).ok ∧ (∀ k s', (asS4T s).pick = .out k s' → k < 2) ∧ ∀ s', (asS4T s).pick = .next s' → (∀ b ∈ [asS4B s'], b = true) ∧ asS4Mu s' < asS4Mu s := by
  obtain ⟨i1, i2, i3, i4⟩ := asS4B_of (hp _ (List.mem_cons_self ..))
  cases hc : (decide ((s.x.i 0) < (ofN (s.len 0)))) with
  | false =>
    have hk : (asS4T s).pick = .out 0 (asS4E s) := by unfold asS4T; rw [hc]; rfl
    refine ⟨?_, fun k s' h => ?_, fun s' h => ?_⟩
    · unfold asS4T
      exact ⟨(allC (andT (decide_eq_true (by unfold ofN; omega)) (decide_eq_true (by unfold ofN; omega))) allN), (fun h => by rw [hc] at h; cases h), (fun _ b hb => by cases hb)⟩
    · rw [hk] at h; cases h; decide
    · rw [hk] at h; cases h
  | true =>
    have hlt := of_decide_eq_true hc
    (try unfold ofN at hlt)
    refine ⟨?_, fun k s' h => ?_, fun s' h => ?_⟩
    · unfold asS4T
      exact ⟨(allC (andT (decide_eq_true (by unfold ofN; omega)) (decide_eq_true (by unfold ofN; omega))) allN), (fun _ => ⟨(allC (decide_eq_true (by unfold padd pmul itn; omega)) (allC (decide_eq_true (by omega)) (allC (decide_eq_true (by omega)) allN))), (fun _ b hb => by cases hb), (fun _ => ⟨(allC (decide_eq_true (by unfold padd pmul itn; omega)) (allC (decide_eq_true (by omega)) (allC (decide_eq_true (by omega)) allN))), (fun _ b hb => by cases hb), (fun _ => ⟨(allC (decide_eq_true (by unfold padd pmul itn; omega)) (allC (decide_eq_true (by omega)) (allC (decide_eq_true (by omega)) allN))), (fun _ b hb => by cases hb), (fun _ => ⟨(allC (decide_eq_true (by unfold padd pmul itn; omega)) (allC (decide_eq_true (by omega)) (allC (decide_eq_true (by omega)) allN))), (fun _ b hb => by cases hb), (fun _ => (allC (andT (decide_eq_true (by unfold iadd; omega)) (decide_eq_true (by unfold iadd; omega))) allN))⟩)⟩)⟩)⟩), (fun h => by rw [hc] at h; cases h)⟩
    · rw [asS4_pick s hc] at h
      cases hr : rowOk 4 (s.y 2) (s.x.i 0).toNat with
      | false => rw [hr] at h; cases h; decide
      | true => rw [hr] at h; cases h
    · rw [asS4_pick s hc] at h
      cases hr : rowOk 4 (s.y 2) (s.x.i 0).toNat with
      | false => rw [hr] at h; cases h
      | true =>
        rw [hr] at h
        cases h
        obtain ⟨e0, l0, n0, y0⟩ := asS4N_k s
        refine ⟨fun b hb => ?_, by unfold asS4Mu; omega⟩
        rw [List.mem_singleton.1 hb]
        exact asS4B_to ⟨by omega, by omega, by omega, by omega⟩

noncomputable def asS4F0 (s : SV) : Nat × SV := Go.Sim.runT asS4T (asS4Mu s + 1) s

noncomputable def asS4F : SV → Nat × SV := Classical.choose (⟨asS4F0, rfl⟩ : ∃ f, f = asS4F0)

theorem asS4F_eq : asS4F = asS4F0 := Classical.choose_spec (⟨asS4F0, rfl⟩ : ∃ f, f = asS4F0)

noncomputable def asS4Pre (s : SV) : List Bool := [asS4B s]

noncomputable def HasS4 : LTab := hookL 0 asS4L asS4Pre asS4F noLT

theorem HasS4_ok : HFun Try.prog 3 HasS4 53 := by
  unfold HasS4
  rw [asS4F_eq]
  exact HFun.loop G30_ok mixed (J := true) (n := 1000) (L := asS4L) (T := asS4T) (pre := asS4Pre) (μ := asS4Mu) (HFun.none Try.prog 3 53) (by kernel_rfl) (by decide) (by decide) asS4_t asS4_go

theorem asS4_yes (s : SV) (h0 : 0 ≤ s.x.i 0) (h1 : s.x.i 0 ≤ s.len 0) :
    ((∀ j : Nat, s.x.i 0 ≤ j → j < s.len 0 → rowOk 4 (s.y 2) j = true) → (asS4F s).1 = 0) ∧ ((¬ ∀ j : Nat, s.x.i 0 ≤ j → j < s.len 0 → rowOk 4 (s.y 2) j = true) → (asS4F s).1 = 1) := by
  rw [asS4F_eq]
  refine ask_run (T := asS4T) (N := asS4N) (X := asS4X) (E := asS4E) (fun r => r.y 2 = s.y 2) (rowOk 4 (s.y 2)) (fun r hr hlt => ?_) (fun r hr => ?_) (fun r hr hlt => ?_) _ s rfl h0 h1 (Nat.lt_succ_self _)
  · have hy := hr
    rw [← hy]
    exact asS4_pick r (decide_eq_true (show r.x.i 0 < ofN (r.len 0) from hlt))
  · obtain ⟨e0, l0, n0, y0⟩ := asS4N_k r
    exact ⟨e0, l0, y0.trans hr⟩
  · unfold asS4T
    rw [decide_eq_false (show ¬ r.x.i 0 < ofN (r.len 0) from hlt)]
    rfl

noncomputable def asI4_v_0 (s : SV) : Vars := (isFilmR [(.flt .f32 ((s.y 0).u (padd (padd 0 (pmul (itn (s.x.i 0)) 8)) 0)))])

noncomputable def asI4_v_1 (s : SV) : Vars := (isFilmR [(.flt .f32 ((s.y 0).u (padd (padd 0 (pmul (itn (s.x.i 0)) 8)) 1)))])

noncomputable def asI4_v_2 (s : SV) : Vars := (isFilmR [(.flt .f32 ((s.y 0).u (padd (padd 0 (pmul (itn (s.x.i 0)) 8)) 2)))])

noncomputable def asI4_v_3 (s : SV) : Vars := (isFilmR [(.flt .f32 ((s.y 0).u (padd (padd 0 (pmul (itn (s.x.i 0)) 8)) 3)))])

noncomputable def asI4N (s : SV) : SV := (mkSV (apl [(.sint .i64 (iadd (s.x.i 0) 1)), (.sint .i64 (s.x.i 1))] (apl (fl s.x 2 8) (apl [(.sint .i8 (s.x.i 10))] (apl (fl s.x 11 14) (apl [(.sint .i8 (s.x.i 25))] (apl (fl s.x 26 14) (apl [(.sint .i8 (s.x.i 40))] (apl (fl s.x 41 14) (apl [(.sint .i8 (s.x.i 55))] (apl (fl s.x 56 14) (apl [(.sint .i8 (s.x.i 70))] (apl (fl s.x 71 14) (apl [(.sint .i8 (s.x.i 85))] (apl (fl s.x 86 14) (apl [(.sint .i8 (s.x.i 100))] (apl (fl s.x 101 14) (apl [(.sint .i8 (s.x.i 115))] (fl s.x 116 14)))))))))))))))))) [(s.len 0)] [(s.n 0), 0] [(s.y 0), zeroV])
noncomputable def asI4X (s : SV) : SV := (mkSV [] [] [(s.n 0)] [(s.y 0)])
noncomputable def asI4E (s : SV) : SV := (mkSV [] [] [(s.n 0)] [(s.y 0)])

noncomputable def asI4T (s : SV) : Tr := .node [] (decide ((s.x.i 0) < (s.x.i 1))) (.node [(decide ((padd (padd 0 (pmul (itn (s.x.i 0)) 8)) 8) ≤ (s.n 0))), (decide (0 ≤ (s.x.i 0))), (decide ((s.x.i 0) < (s.len 0)))] (!((asI4_v_0 s).b 0)) (.out 1 (asI4X s) []) (.node [] (!((asI4_v_1 s).b 0)) (.out 1 (asI4X s) []) (.node [] (!((asI4_v_2 s).b 0)) (.out 1 (asI4X s) []) (.node [] (!((asI4_v_3 s).b 0)) (.out 1 (asI4X s) []) (.next (asI4N s) [((decide ((-(9223372036854775807 + 1)) ≤ (iadd (s.x.i 0) 1))) && (decide ((iadd (s.x.i 0) 1) ≤ 9223372036854775807)))]))))) (.out 0 (asI4E s) [])

theorem asI4_t (s : SV) : Go.Sim.stepT Try.prog G30 (ntOf Try.prog 79) noLT true 1000 asI4L (loopOf Try.prog 79 0) s = some (asI4T s) := by kernel_rfl

def asI4P (s : SV) : Prop := 0 ≤ s.x.i 0 ∧ s.x.i 0 ≤ s.len 0 ∧ s.len 0 ≤ 1048576 ∧ s.n 0 = 8 * s.len 0 ∧ s.x.i 1 = s.len 0

noncomputable def asI4B (s : SV) : Bool := @decide (asI4P s) (Classical.propDecidable _)
theorem asI4B_of {s : SV} (h : asI4B s = true) : asI4P s := @of_decide_eq_true _ (Classical.propDecidable _) h
theorem asI4B_to {s : SV} (h : asI4P s) : asI4B s = true := @decide_eq_true _ (Classical.propDecidable _) h

theorem asI4N_k (s : SV) : (asI4N s).x.i 0 = s.x.i 0 + 1 ∧ (asI4N s).len 0 = s.len 0 ∧ (asI4N s).n 0 = s.n 0 ∧ (asI4N s).y 0 = s.y 0 ∧ (asI4N s).x.i 1 = s.x.i 1 := ⟨by kernel_rfl, by kernel_rfl, by kernel_rfl, by kernel_rfl, by kernel_rfl⟩

def asI4Mu (s : SV) : Nat := ((s.len 0 : Int) - s.x.i 0).toNat

theorem asI4_pick (s : SV) (hlt : (decide ((s.x.i 0) < (s.x.i 1))) = true) : (asI4T s).pick = (bif rowOk 4 (s.y 0) (s.x.i 0).toNat then .next (asI4N s) else .out 1 (asI4X s)) := by
  have f0 : (isFilmR [.flt .f32 ((s.y 0).u (8 * (s.x.i 0).toNat + 0))]).b 0 = (asI4_v_0 s).b 0 := by
    rw [← idxI 0 (s.x.i 0)]
    rfl
  have f1 : (isFilmR [.flt .f32 ((s.y 0).u (8 * (s.x.i 0).toNat + 1))]).b 0 = (asI4_v_1 s).b 0 := by
    rw [← idxI 1 (s.x.i 0)]
    rfl
  have f2 : (isFilmR [.flt .f32 ((s.y 0).u (8 * (s.x.i 0).toNat + 2))]).b 0 = (asI4_v_2 s).b 0 := by
    rw [← idxI 2 (s.x.i 0)]
    rfl
  have f3 : (isFilmR [.flt .f32 ((s.y 0).u (8 * (s.x.i 0).toNat + 3))]).b 0 = (asI4_v_3 s).b 0 := by
    rw [← idxI 3 (s.x.i 0)]
    rfl
  unfold asI4T
  rw [hlt]
  show _ = (bif ((isFilmR [.flt .f32 ((s.y 0).u (8 * (s.x.i 0).toNat + 0))]).b 0 && ((isFilmR [.flt .f32 ((s.y 0).u (8 * (s.x.i 0).toNat + 1))]).b 0 && ((isFilmR [.flt .f32 ((s.y 0).u (8 * (s.x.i 0).toNat + 2))]).b 0 && ((isFilmR [.flt .f32 ((s.y 0).u (8 * (s.x.i 0).toNat + 3))]).b 0 && (true))))) then _ else _)
  rw [f0, f1, f2, f3]
  cases v0 : (asI4_v_0 s).b 0 with
  | false =>
    rfl
  | true =>
    cases v1 : (asI4_v_1 s).b 0 with
    | false =>
      rfl
    | true =>
      cases v2 : (asI4_v_2 s).b 0 with
      | false =>
        rfl
      | true =>
        cases v3 : (asI4_v_3 s).b 0 with
        | false =>
          rfl
        | true =>
          rfl

theorem asI4_go (s : SV) (hp : ∀ b ∈ [asI4B s], b = true) :
    (asI4T s).ok ∧ (∀ k s', (asI4T s).pick = .out k s' → k < 2) ∧ ∀ s', (asI4T s).pick = .next s' → (∀ b ∈ [asI4B s'], b = true) ∧ asI4Mu s' < asI4Mu s := by
  obtain ⟨i1, i2, i3, i4, i5⟩ := asI4B_of (hp _ (List.mem_cons_self ..))
  cases hc : (decide ((s.x.i 0) < (s.x.i 1))) with
  | false =>
    have hk : (asI4T s).pick = .out 0 (asI4E s) := by unfold asI4T; rw [hc]; rfl
    refine ⟨?_, fun k s' h => ?_, fun s' h => ?_⟩
    · unfold asI4T
      exact ⟨allN, (fun h => by rw [hc] at h; cases h), (fun _ b hb => by cases hb)⟩
    · rw [hk] at h; cases h; decide
    · rw [hk] at h; cases h
  | true =>
    have hlt := of_decide_eq_true hc
    (try unfold ofN at hlt)
    refine ⟨?_, fun k s' h => ?_, fun s' h => ?_⟩
    · unfold asI4T
      exact ⟨allN, (fun _ => ⟨(allC (decide_eq_true (by unfold padd pmul itn; omega)) (allC (decide_eq_true (by omega)) (allC (decide_eq_true (by omega)) allN))), (fun _ b hb => by cases hb), (fun _ => ⟨allN, (fun _ b hb => by cases hb), (fun _ => ⟨allN, (fun _ b hb => by cases hb), (fun _ => ⟨allN, (fun _ b hb => by cases hb), (fun _ => (allC (andT (decide_eq_true (by unfold iadd; omega)) (decide_eq_true (by unfold iadd; omega))) allN))⟩)⟩)⟩)⟩), (fun h => by rw [hc] at h; cases h)⟩
    · rw [asI4_pick s hc] at h
      cases hr : rowOk 4 (s.y 0) (s.x.i 0).toNat with
      | false => rw [hr] at h; cases h; decide
      | true => rw [hr] at h; cases h
    · rw [asI4_pick s hc] at h
      cases hr : rowOk 4 (s.y 0) (s.x.i 0).toNat with
      | false => rw [hr] at h; cases h
      | true =>
        rw [hr] at h
        cases h
        obtain ⟨e0, l0, n0, y0, x1⟩ := asI4N_k s
        refine ⟨fun b hb => ?_, by unfold asI4Mu; omega⟩
        rw [List.mem_singleton.1 hb]
        exact asI4B_to ⟨by omega, by omega, by omega, by omega, by omega⟩

noncomputable def asI4F0 (s : SV) : Nat × SV := Go.Sim.runT asI4T (asI4Mu s + 1) s

noncomputable def asI4F : SV → Nat × SV := Classical.choose (⟨asI4F0, rfl⟩ : ∃ f, f = asI4F0)

theorem asI4F_eq : asI4F = asI4F0 := Classical.choose_spec (⟨asI4F0, rfl⟩ : ∃ f, f = asI4F0)

noncomputable def asI4Pre (s : SV) : List Bool := [asI4B s]

noncomputable def HasI4 : LTab := hookL 0 asI4L asI4Pre asI4F noLT

theorem HasI4_ok : HFun Try.prog 1 HasI4 79 := by
  unfold HasI4
  rw [asI4F_eq]
  exact HFun.loop G30_ok mixed (J := true) (n := 1000) (L := asI4L) (T := asI4T) (pre := asI4Pre) (μ := asI4Mu) (HFun.none Try.prog 1 79) (by kernel_rfl) (by decide) (by decide) asI4_t asI4_go

theorem asI4_yes (s : SV) (h0 : 0 ≤ s.x.i 0) (h1 : s.x.i 0 ≤ s.len 0) (hx : s.x.i 1 = s.len 0) :
    ((∀ j : Nat, s.x.i 0 ≤ j → j < s.len 0 → rowOk 4 (s.y 0) j = true) → (asI4F s).1 = 0) ∧ ((¬ ∀ j : Nat, s.x.i 0 ≤ j → j < s.len 0 → rowOk 4 (s.y 0) j = true) → (asI4F s).1 = 1) := by
  rw [asI4F_eq]
  refine ask_run (T := asI4T) (N := asI4N) (X := asI4X) (E := asI4E) (fun r => r.y 0 = s.y 0 ∧ r.x.i 1 = r.len 0) (rowOk 4 (s.y 0)) (fun r hr hlt => ?_) (fun r hr => ?_) (fun r hr hlt => ?_) _ s ⟨rfl, hx⟩ h0 h1 (Nat.lt_succ_self _)
  · have hy := hr.1
    rw [← hy]
    exact asI4_pick r (decide_eq_true (by have := hr.2; omega))
  · obtain ⟨e0, l0, n0, y0, x1⟩ := asI4N_k r
    exact ⟨e0, l0, ⟨y0.trans hr.1, by have := hr.2; omega⟩⟩
  · unfold asI4T
    rw [decide_eq_false (by have := hr.2; omega)]
    rfl

noncomputable def asS5L : LP := { A := 3, ts := [7, 2, 0], F := ⟨[.sc (.int .i64), .ssl 2 0 8, .ptr 0 0], [.lit (.cst (.int .i8 5) :: uT) false, .lit sC false, .sym (.flt .f32) false]⟩, xs := [(.exit 0, [], ⟨[], [.lit (.cst (.int .i8 5) :: uT) false, .lit sC false, .sym (.flt .f32) false]⟩), (.ret, [6], ⟨[.cst (.int .i64 2)], [.lit (.cst (.int .i8 5) :: uT) false, .lit sC false, .sym (.flt .f32) false]⟩)] }

noncomputable def asI5L : LP := { A := 1, ts := [21, 20, 19, 3], F := ⟨[.sc (.int .i64), .sc (.int .i64), .ssl 0 0 8, .ptr 1 0], [.sym (.flt .f32) false, .lit (.cst (.int .i8 5) :: uT) false]⟩, xs := [(.exit 0, [], ⟨[], [.sym (.flt .f32) false]⟩), (.ret, [6], ⟨[.cst (.int .i64 2)], [.sym (.flt .f32) false]⟩)] }

noncomputable def cnS5L : LP := { A := 1, ts := [10, 9, 2, 3, 4], F := ⟨[.sc (.int .i64), .sc (.int .i64), .ssl 0 0 8, .ptr 1 0, .ptr 2 0], [.sym (.flt .f32) false, .lit (.cst (.int .i8 5) :: uT) false, .lit sC false]⟩, xs := [(.exit 0, [9], ⟨[.sc (.int .i64)], [.sym (.flt .f32) false]⟩)] }

noncomputable def gdI5L : LP := { A := 1, ts := [24, 23, 22, 3, 4, 9], F := ⟨[.sc (.int .i64), .sc (.int .i64), .ssl 0 0 8, .ptr 1 0, .ptr 2 0, .ssl 3 0 1], [.sym (.flt .f32) false, .lit (.cst (.int .i8 5) :: uT) false, .lit sC false, .sym .bool true]⟩, xs := [(.exit 0, [9], ⟨[.ssl 1 0 1], [.sym (.flt .f32) false, .sym .bool true]⟩)] }

noncomputable def asS5_v_0 (s : SV) : Vars := (isFilmR [(.flt .f32 ((s.y 2).u (padd 0 (pmul (itn (s.x.i 0)) 8))))])

noncomputable def asS5_v_1 (s : SV) : Vars := (isFilmR [(.flt .f32 ((s.y 2).u (padd 1 (pmul (itn (s.x.i 0)) 8))))])

noncomputable def asS5_v_2 (s : SV) : Vars := (isFilmR [(.flt .f32 ((s.y 2).u (padd 2 (pmul (itn (s.x.i 0)) 8))))])

noncomputable def asS5_v_3 (s : SV) : Vars := (isFilmR [(.flt .f32 ((s.y 2).u (padd 3 (pmul (itn (s.x.i 0)) 8))))])

noncomputable def asS5_v_4 (s : SV) : Vars := (isFilmR [(.flt .f32 ((s.y 2).u (padd 4 (pmul (itn (s.x.i 0)) 8))))])

noncomputable def asS5N (s : SV) : SV := (mkSV (apl [(.sint .i64 (iadd (s.x.i 0) 1))] (apl (fl s.x 1 8) (apl [(.sint .i8 (s.x.i 9))] (apl (fl s.x 10 14) (apl [(.sint .i8 (s.x.i 24))] (apl (fl s.x 25 14) (apl [(.sint .i8 (s.x.i 39))] (apl (fl s.x 40 14) (apl [(.sint .i8 (s.x.i 54))] (apl (fl s.x 55 14) (apl [(.sint .i8 (s.x.i 69))] (apl (fl s.x 70 14) (apl [(.sint .i8 (s.x.i 84))] (apl (fl s.x 85 14) (apl [(.sint .i8 (s.x.i 99))] (apl (fl s.x 100 14) (apl [(.sint .i8 (s.x.i 114))] (apl (fl s.x 115 32) ([(.sint .i16 (s.x.i 147))]))))))))))))))))))) [(s.len 0)] [0, 0, (s.n 2)] [zeroV, zeroV, (s.y 2)])
noncomputable def asS5X (s : SV) : SV := (mkSV (apl (fl s.x 1 8) (apl [(.sint .i8 (s.x.i 9))] (apl (fl s.x 10 14) (apl [(.sint .i8 (s.x.i 24))] (apl (fl s.x 25 14) (apl [(.sint .i8 (s.x.i 39))] (apl (fl s.x 40 14) (apl [(.sint .i8 (s.x.i 54))] (apl (fl s.x 55 14) (apl [(.sint .i8 (s.x.i 69))] (apl (fl s.x 70 14) (apl [(.sint .i8 (s.x.i 84))] (apl (fl s.x 85 14) (apl [(.sint .i8 (s.x.i 99))] (apl (fl s.x 100 14) (apl [(.sint .i8 (s.x.i 114))] (apl (fl s.x 115 32) ([(.sint .i16 (s.x.i 147))])))))))))))))))))) [] [0, 0, (s.n 2)] [zeroV, zeroV, (s.y 2)])
noncomputable def asS5E (s : SV) : SV := (mkSV (apl (fl s.x 1 8) (apl [(.sint .i8 (s.x.i 9))] (apl (fl s.x 10 14) (apl [(.sint .i8 (s.x.i 24))] (apl (fl s.x 25 14) (apl [(.sint .i8 (s.x.i 39))] (apl (fl s.x 40 14) (apl [(.sint .i8 (s.x.i 54))] (apl (fl s.x 55 14) (apl [(.sint .i8 (s.x.i 69))] (apl (fl s.x 70 14) (apl [(.sint .i8 (s.x.i 84))] (apl (fl s.x 85 14) (apl [(.sint .i8 (s.x.i 99))] (apl (fl s.x 100 14) (apl [(.sint .i8 (s.x.i 114))] (apl (fl s.x 115 32) ([(.sint .i16 (s.x.i 147))])))))))))))))))))) [] [0, 0, (s.n 2)] [zeroV, zeroV, (s.y 2)])

noncomputable def asS5T (s : SV) : Tr := .node [((decide ((-(9223372036854775807 + 1)) ≤ (ofN (s.len 0)))) && (decide ((ofN (s.len 0)) ≤ 9223372036854775807)))] (decide ((s.x.i 0) < (ofN (s.len 0)))) (.node [(decide ((padd 0 (pmul (itn (s.x.i 0)) 8)) < (s.n 2))), (decide (0 ≤ (s.x.i 0))), (decide ((s.x.i 0) < (s.len 0)))] (!((asS5_v_0 s).b 0)) (.out 1 (asS5X s) []) (.node [(decide ((padd 1 (pmul (itn (s.x.i 0)) 8)) < (s.n 2))), (decide (0 ≤ (s.x.i 0))), (decide ((s.x.i 0) < (s.len 0)))] (!((asS5_v_1 s).b 0)) (.out 1 (asS5X s) []) (.node [(decide ((padd 2 (pmul (itn (s.x.i 0)) 8)) < (s.n 2))), (decide (0 ≤ (s.x.i 0))), (decide ((s.x.i 0) < (s.len 0)))] (!((asS5_v_2 s).b 0)) (.out 1 (asS5X s) []) (.node [(decide ((padd 3 (pmul (itn (s.x.i 0)) 8)) < (s.n 2))), (decide (0 ≤ (s.x.i 0))), (decide ((s.x.i 0) < (s.len 0)))] (!((asS5_v_3 s).b 0)) (.out 1 (asS5X s) []) (.node [(decide ((padd 4 (pmul (itn (s.x.i 0)) 8)) < (s.n 2))), (decide (0 ≤ (s.x.i 0))), (decide ((s.x.i 0) < (s.len 0)))] (!((asS5_v_4 s).b 0)) (.out 1 (asS5X s) []) (.next (asS5N s) [((decide ((-(9223372036854775807 + 1)) ≤ (iadd (s.x.i 0) 1))) && (decide ((iadd (s.x.i 0) 1) ≤ 9223372036854775807)))])))))) (.out 0 (asS5E s) [])

theorem asS5_t (s : SV) : Go.Sim.stepT Try.prog G30 (ntOf Try.prog 53) noLT true 1000 asS5L (loopOf Try.prog 53 0) s = some (asS5T s) := by kernel_rfl

def asS5P (s : SV) : Prop := 0 ≤ s.x.i 0 ∧ s.x.i 0 ≤ s.len 0 ∧ s.len 0 ≤ 1048576 ∧ s.n 2 = 8 * s.len 0

noncomputable def asS5B (s : SV) : Bool := @decide (asS5P s) (Classical.propDecidable _)
theorem asS5B_of {s : SV} (h : asS5B s = true) : asS5P s := @of_decide_eq_true _ (Classical.propDecidable _) h
theorem asS5B_to {s : SV} (h : asS5P s) : asS5B s = true := @decide_eq_true _ (Classical.propDecidable _) h

theorem asS5N_k (s : SV) : (asS5N s).x.i 0 = s.x.i 0 + 1 ∧ (asS5N s).len 0 = s.len 0 ∧ (asS5N s).n 2 = s.n 2 ∧ (asS5N s).y 2 = s.y 2 := ⟨by kernel_rfl, by kernel_rfl, by kernel_rfl, by kernel_rfl⟩

def asS5Mu (s : SV) : Nat := ((s.len 0 : Int) - s.x.i 0).toNat

theorem asS5_pick (s : SV) (hlt : (decide ((s.x.i 0) < (ofN (s.len 0)))) = true) : (asS5T s).pick = (bif rowOk 5 (s.y 2) (s.x.i 0).toNat then .next (asS5N s) else .out 1 (asS5X s)) := by
  have f0 : (isFilmR [.flt .f32 ((s.y 2).u (8 * (s.x.i 0).toNat + 0))]).b 0 = (asS5_v_0 s).b 0 := by
    rw [← idxS 0 (s.x.i 0)]
    rfl
  have f1 : (isFilmR [.flt .f32 ((s.y 2).u (8 * (s.x.i 0).toNat + 1))]).b 0 = (asS5_v_1 s).b 0 := by
    rw [← idxS 1 (s.x.i 0)]
    rfl
  have f2 : (isFilmR [.flt .f32 ((s.y 2).u (8 * (s.x.i 0).toNat + 2))]).b 0 = (asS5_v_2 s).b 0 := by
    rw [← idxS 2 (s.x.i 0)]
    rfl
  have f3 : (isFilmR [.flt .f32 ((s.y 2).u (8 * (s.x.i 0).toNat + 3))]).b 0 = (asS5_v_3 s).b 0 := by
    rw [← idxS 3 (s.x.i 0)]
    rfl
  have f4 : (isFilmR [.flt .f32 ((s.y 2).u (8 * (s.x.i 0).toNat + 4))]).b 0 = (asS5_v_4 s).b 0 := by
    rw [← idxS 4 (s.x.i 0)]
    rfl
  unfold asS5T
  rw [hlt]
  show _ = (bif ((isFilmR [.flt .f32 ((s.y 2).u (8 * (s.x.i 0).toNat + 0))]).b 0 && ((isFilmR [.flt .f32 ((s.y 2).u (8 * (s.x.i 0).toNat + 1))]).b 0 && ((isFilmR [.flt .f32 ((s.y 2).u (8 * (s.x.i 0).toNat + 2))]).b 0 && ((isFilmR [.flt .f32 ((s.y 2).u (8 * (s.x.i 0).toNat + 3))]).b 0 && ((isFilmR [.flt .f32 ((s.y 2).u (8 * (s.x.i 0).toNat + 4))]).b 0 && (true)))))) then _ else _)
  rw [f0, f1, f2, f3, f4]
  cases v0 : (asS5_v_0 s).b 0 with
  | false =>
    rfl
  | true =>
    cases v1 : (asS5_v_1 s).b 0 with
    | false =>
      rfl
    | true =>
      cases v2 : (asS5_v_2 s).b 0 with
      | false =>
        rfl
      | true =>
        cases v3 : (asS5_v_3 s).b 0 with
        | false =>
          rfl
        | true =>
          cases v4 : (asS5_v_4 s).b 0 with
          | false =>
            rfl
          | true =>
            rfl

theorem asS5_go (s : SV) (hp : ∀ b ∈ [asS5B s], b = true) :
    (asS5T s).ok ∧ (∀ k s', (asS5T s).pick = .out k s' → k < 2) ∧ ∀ s', (asS5T s).pick = .next s' → (∀ b ∈ [asS5B s'], b = true) ∧ asS5Mu s' < asS5Mu s := by
  obtain ⟨i1, i2, i3, i4⟩ := asS5B_of (hp _ (List.mem_cons_self ..))
  cases hc : (decide ((s.x.i 0) < (ofN (s.len 0)))) with
  | false =>
    have hk : (asS5T s).pick = .out 0 (asS5E s) := by unfold asS5T; rw [hc]; rfl
    refine ⟨?_, fun k s' h => ?_, fun s' h => ?_⟩
    · unfold asS5T
      exact ⟨(allC (andT (decide_eq_true (by unfold ofN; omega)) (decide_eq_true (by unfold ofN; omega))) allN), (fun h => by rw [hc] at h; cases h), (fun _ b hb => by cases hb)⟩
    · rw [hk] at h; cases h; decide
    · rw [hk] at h; cases h
  | true =>
    have hlt := of_decide_eq_true hc
    (try unfold ofN at hlt)
    refine ⟨?_, fun k s' h => ?_, fun s' h => ?_⟩
    · unfold asS5T
      exact ⟨(allC (andT (decide_eq_true (by unfold ofN; omega)) (decide_eq_true (by unfold ofN; omega))) allN), (fun _ => ⟨(allC (decide_eq_true (by unfold padd pmul itn; omega)) (allC (decide_eq_true (by omega)) (allC (decide_eq_true (by omega)) allN))), (fun _ b hb => by cases hb), (fun _ => ⟨(allC (decide_eq_true (by unfold padd pmul itn; omega)) (allC (decide_eq_true (by omega)) (allC (decide_eq_true (by omega)) allN))), (fun _ b hb => by cases hb), (fun _ => ⟨(allC (decide_eq_true (by unfold padd pmul itn; omega)) (allC (decide_eq_true (by omega)) (allC (decide_eq_true (by omega)) allN))), (fun _ b hb => by cases hb), (fun _ => ⟨(allC (decide_eq_true (by unfold padd pmul itn; omega)) (allC (decide_eq_true (by omega)) (allC (decide_eq_true (by omega)) allN))), (fun _ b hb => by cases hb), (fun _ => ⟨(allC (decide_eq_true (by unfold padd pmul itn; omega)) (allC (decide_eq_true (by omega)) (allC (decide_eq_true (by omega)) allN))), (fun _ b hb => by cases hb), (fun _ => (allC (andT (decide_eq_true (by unfold iadd; omega)) (decide_eq_true (by unfold iadd; omega))) allN))⟩)⟩)⟩)⟩)⟩), (fun h => by rw [hc] at h; cases h)⟩
    · rw [asS5_pick s hc] at h
      cases hr : rowOk 5 (s.y 2) (s.x.i 0).toNat with
      | false => rw [hr] at h; cases h; decide
      | true => rw [hr] at h; cases h
    · rw [asS5_pick s hc] at h
      cases hr : rowOk 5 (s.y 2) (s.x.i 0).toNat with
      | false => rw [hr] at h; cases h
      | true =>
        rw [hr] at h
        cases h
        obtain ⟨e0, l0, n0, y0⟩ := asS5N_k s
        refine ⟨fun b hb => ?_, by unfold asS5Mu; omega⟩
        rw [List.mem_singleton.1 hb]
        exact asS5B_to ⟨by omega, by omega, by omega, by omega⟩

noncomputable def asS5F0 (s : SV) : Nat × SV := Go.Sim.runT asS5T (asS5Mu s + 1) s

noncomputable def asS5F : SV → Nat × SV := Classical.choose (⟨asS5F0, rfl⟩ : ∃ f, f = asS5F0)

theorem asS5F_eq : asS5F = asS5F0 := Classical.choose_spec (⟨asS5F0, rfl⟩ : ∃ f, f = asS5F0)

noncomputable def asS5Pre (s : SV) : List Bool := [asS5B s]

noncomputable def HasS5 : LTab := hookL 0 asS5L asS5Pre asS5F noLT

theorem HasS5_ok : HFun Try.prog 3 HasS5 53 := by
  unfold HasS5
  rw [asS5F_eq]
  exact HFun.loop G30_ok mixed (J := true) (n := 1000) (L := asS5L) (T := asS5T) (pre := asS5Pre) (μ := asS5Mu) (HFun.none Try.prog 3 53) (by kernel_rfl) (by decide) (by decide) asS5_t asS5_go

theorem asS5_yes (s : SV) (h0 : 0 ≤ s.x.i 0) (h1 : s.x.i 0 ≤ s.len 0) :
    ((∀ j : Nat, s.x.i 0 ≤ j → j < s.len 0 → rowOk 5 (s.y 2) j = true) → (asS5F s).1 = 0) ∧ ((¬ ∀ j : Nat, s.x.i 0 ≤ j → j < s.len 0 → rowOk 5 (s.y 2) j = true) → (asS5F s).1 = 1) := by
  rw [asS5F_eq]
  refine ask_run (T := asS5T) (N := asS5N) (X := asS5X) (E := asS5E) (fun r => r.y 2 = s.y 2) (rowOk 5 (s.y 2)) (fun r hr hlt => ?_) (fun r hr => ?_) (fun r hr hlt => ?_) _ s rfl h0 h1 (Nat.lt_succ_self _)
  · have hy := hr
    rw [← hy]
    exact asS5_pick r (decide_eq_true (show r.x.i 0 < ofN (r.len 0) from hlt))
  · obtain ⟨e0, l0, n0, y0⟩ := asS5N_k r
    exact ⟨e0, l0, y0.trans hr⟩
  · unfold asS5T
    rw [decide_eq_false (show ¬ r.x.i 0 < ofN (r.len 0) from hlt)]
    rfl

noncomputable def asI5_v_0 (s : SV) : Vars := (isFilmR [(.flt .f32 ((s.y 0).u (padd (padd 0 (pmul (itn (s.x.i 0)) 8)) 0)))])

noncomputable def asI5_v_1 (s : SV) : Vars := (isFilmR [(.flt .f32 ((s.y 0).u (padd (padd 0 (pmul (itn (s.x.i 0)) 8)) 1)))])

noncomputable def asI5_v_2 (s : SV) : Vars := (isFilmR [(.flt .f32 ((s.y 0).u (padd (padd 0 (pmul (itn (s.x.i 0)) 8)) 2)))])

noncomputable def asI5_v_3 (s : SV) : Vars := (isFilmR [(.flt .f32 ((s.y 0).u (padd (padd 0 (pmul (itn (s.x.i 0)) 8)) 3)))])

noncomputable def asI5_v_4 (s : SV) : Vars := (isFilmR [(.flt .f32 ((s.y 0).u (padd (padd 0 (pmul (itn (s.x.i 0)) 8)) 4)))])

noncomputable def asI5N (s : SV) : SV := (mkSV (apl [(.sint .i64 (iadd (s.x.i 0) 1)), (.sint .i64 (s.x.i 1))] (apl (fl s.x 2 8) (apl [(.sint .i8 (s.x.i 10))] (apl (fl s.x 11 14) (apl [(.sint .i8 (s.x.i 25))] (apl (fl s.x 26 14) (apl [(.sint .i8 (s.x.i 40))] (apl (fl s.x 41 14) (apl [(.sint .i8 (s.x.i 55))] (apl (fl s.x 56 14) (apl [(.sint .i8 (s.x.i 70))] (apl (fl s.x 71 14) (apl [(.sint .i8 (s.x.i 85))] (apl (fl s.x 86 14) (apl [(.sint .i8 (s.x.i 100))] (apl (fl s.x 101 14) (apl [(.sint .i8 (s.x.i 115))] (fl s.x 116 14)))))))))))))))))) [(s.len 0)] [(s.n 0), 0] [(s.y 0), zeroV])
noncomputable def asI5X (s : SV) : SV := (mkSV [] [] [(s.n 0)] [(s.y 0)])
noncomputable def asI5E (s : SV) : SV := (mkSV [] [] [(s.n 0)] [(s.y 0)])

noncomputable def asI5T (s : SV) : Tr := .node [] (decide ((s.x.i 0) < (s.x.i 1))) (.node [(decide ((padd (padd 0 (pmul (itn (s.x.i 0)) 8)) 8) ≤ (s.n 0))), (decide (0 ≤ (s.x.i 0))), (decide ((s.x.i 0) < (s.len 0)))] (!((asI5_v_0 s).b 0)) (.out 1 (asI5X s) []) (.node [] (!((asI5_v_1 s).b 0)) (.out 1 (asI5X s) []) (.node [] (!((asI5_v_2 s).b 0)) (.out 1 (asI5X s) []) (.node [] (!((asI5_v_3 s).b 0)) (.out 1 (asI5X s) []) (.node [] (!((asI5_v_4 s).b 0)) (.out 1 (asI5X s) []) (.next (asI5N s) [((decide ((-(9223372036854775807 + 1)) ≤ (iadd (s.x.i 0) 1))) && (decide ((iadd (s.x.i 0) 1) ≤ 9223372036854775807)))])))))) (.out 0 (asI5E s) [])

theorem asI5_t (s : SV) : Go.Sim.stepT Try.prog G30 (ntOf Try.prog 79) noLT true 1000 asI5L (loopOf Try.prog 79 0) s = some (asI5T s) := by kernel_rfl

def asI5P (s : SV) : Prop := 0 ≤ s.x.i 0 ∧ s.x.i 0 ≤ s.len 0 ∧ s.len 0 ≤ 1048576 ∧ s.n 0 = 8 * s.len 0 ∧ s.x.i 1 = s.len 0

noncomputable def asI5B (s : SV) : Bool := @decide (asI5P s) (Classical.propDecidable _)
theorem asI5B_of {s : SV} (h : asI5B s = true) : asI5P s := @of_decide_eq_true _ (Classical.propDecidable _) h
theorem asI5B_to {s : SV} (h : asI5P s) : asI5B s = true := @decide_eq_true _ (Classical.propDecidable _) h

theorem asI5N_k (s : SV) : (asI5N s).x.i 0 = s.x.i 0 + 1 ∧ (asI5N s).len 0 = s.len 0 ∧ (asI5N s).n 0 = s.n 0 ∧ (asI5N s).y 0 = s.y 0 ∧ (asI5N s).x.i 1 = s.x.i 1 := ⟨by kernel_rfl, by kernel_rfl, by kernel_rfl, by kernel_rfl, by kernel_rfl⟩

def asI5Mu (s : SV) : Nat := ((s.len 0 : Int) - s.x.i 0).toNat

theorem asI5_pick (s : SV) (hlt : (decide ((s.x.i 0) < (s.x.i 1))) = true) : (asI5T s).pick = (bif rowOk 5 (s.y 0) (s.x.i 0).toNat then .next (asI5N s) else .out 1 (asI5X s)) := by
  have f0 : (isFilmR [.flt .f32 ((s.y 0).u (8 * (s.x.i 0).toNat + 0))]).b 0 = (asI5_v_0 s).b 0 := by
    rw [← idxI 0 (s.x.i 0)]
    rfl
  have f1 : (isFilmR [.flt .f32 ((s.y 0).u (8 * (s.x.i 0).toNat + 1))]).b 0 = (asI5_v_1 s).b 0 := by
    rw [← idxI 1 (s.x.i 0)]
    rfl
  have f2 : (isFilmR [.flt .f32 ((s.y 0).u (8 * (s.x.i 0).toNat + 2))]).b 0 = (asI5_v_2 s).b 0 := by
    rw [← idxI 2 (s.x.i 0)]
    rfl
  have f3 : (isFilmR [.flt .f32 ((s.y 0).u (8 * (s.x.i 0).toNat + 3))]).b 0 = (asI5_v_3 s).b 0 := by
    rw [← idxI 3 (s.x.i 0)]
    rfl
  have f4 : (isFilmR [.flt .f32 ((s.y 0).u (8 * (s.x.i 0).toNat + 4))]).b 0 = (asI5_v_4 s).b 0 := by
    rw [← idxI 4 (s.x.i 0)]
    rfl
  unfold asI5T
  rw [hlt]
  show _ = (bif ((isFilmR [.flt .f32 ((s.y 0).u (8 * (s.x.i 0).toNat + 0))]).b 0 && ((isFilmR [.flt .f32 ((s.y 0).u (8 * (s.x.i 0).toNat + 1))]).b 0 && ((isFilmR [.flt .f32 ((s.y 0).u (8 * (s.x.i 0).toNat + 2))]).b 0 && ((isFilmR [.flt .f32 ((s.y 0).u (8 * (s.x.i 0).toNat + 3))]).b 0 && ((isFilmR [.flt .f32 ((s.y 0).u (8 * (s.x.i 0).toNat + 4))]).b 0 && (true)))))) then _ else _)
  rw [f0, f1, f2, f3, f4]
  cases v0 : (asI5_v_0 s).b 0 with
  | false =>
    rfl
  | true =>
    cases v1 : (asI5_v_1 s).b 0 with
    | false =>
      rfl
    | true =>
      cases v2 : (asI5_v_2 s).b 0 with
      | false =>
        rfl
      | true =>
        cases v3 : (asI5_v_3 s).b 0 with
        | false =>
          rfl
        | true =>
          cases v4 : (asI5_v_4 s).b 0 with
          | false =>
            rfl
          | true =>
            rfl

theorem asI5_go (s : SV) (hp : ∀ b ∈ [asI5B s], b = true) :
    (asI5T s).ok ∧ (∀ k s', (asI5T s).pick = .out k s' → k < 2) ∧ ∀ s', (asI5T s).pick = .next s' → (∀ b ∈ [asI5B s'], b = true) ∧ asI5Mu s' < asI5Mu s := by
  obtain ⟨i1, i2, i3, i4, i5⟩ := asI5B_of (hp _ (List.mem_cons_self ..))
  cases hc : (decide ((s.x.i 0) < (s.x.i 1))) with
  | false =>
    have hk : (asI5T s).pick = .out 0 (asI5E s) := by unfold asI5T; rw [hc]; rfl
    refine ⟨?_, fun k s' h => ?_, fun s' h => ?_⟩
    · unfold asI5T
      exact ⟨allN, (fun h => by rw [hc] at h; cases h), (fun _ b hb => by cases hb)⟩
    · rw [hk] at h; cases h; decide
    · rw [hk] at h; cases h
  | true =>
    have hlt := of_decide_eq_true hc
    (try unfold ofN at hlt)
    refine ⟨?_, fun k s' h => ?_, fun s' h => ?_⟩
    · unfold asI5T
      exact ⟨allN, (fun _ => ⟨(allC (decide_eq_true (by unfold padd pmul itn; omega)) (allC (decide_eq_true (by omega)) (allC (decide_eq_true (by omega)) allN))), (fun _ b hb => by cases hb), (fun _ => ⟨allN, (fun _ b hb => by cases hb), (fun _ => ⟨allN, (fun _ b hb => by cases hb), (fun _ => ⟨allN, (fun _ b hb => by cases hb), (fun _ => ⟨allN, (fun _ b hb => by cases hb), (fun _ => (allC (andT (decide_eq_true (by unfold iadd; omega)) (decide_eq_true (by unfold iadd; omega))) allN))⟩)⟩)⟩)⟩)⟩), (fun h => by rw [hc] at h; cases h)⟩
    · rw [asI5_pick s hc] at h
      cases hr : rowOk 5 (s.y 0) (s.x.i 0).toNat with
      | false => rw [hr] at h; cases h; decide
      | true => rw [hr] at h; cases h
    · rw [asI5_pick s hc] at h
      cases hr : rowOk 5 (s.y 0) (s.x.i 0).toNat with
      | false => rw [hr] at h; cases h
      | true =>
        rw [hr] at h
        cases h
        obtain ⟨e0, l0, n0, y0, x1⟩ := asI5N_k s
        refine ⟨fun b hb => ?_, by unfold asI5Mu; omega⟩
        rw [List.mem_singleton.1 hb]
        exact asI5B_to ⟨by omega, by omega, by omega, by omega, by omega⟩

noncomputable def asI5F0 (s : SV) : Nat × SV := Go.Sim.runT asI5T (asI5Mu s + 1) s

noncomputable def asI5F : SV → Nat × SV := Classical.choose (⟨asI5F0, rfl⟩ : ∃ f, f = asI5F0)

theorem asI5F_eq : asI5F = asI5F0 := Classical.choose_spec (⟨asI5F0, rfl⟩ : ∃ f, f = asI5F0)

noncomputable def asI5Pre (s : SV) : List Bool := [asI5B s]

noncomputable def HasI5 : LTab := hookL 0 asI5L asI5Pre asI5F noLT

theorem HasI5_ok : HFun Try.prog 1 HasI5 79 := by
  unfold HasI5
  rw [asI5F_eq]
  exact HFun.loop G30_ok mixed (J := true) (n := 1000) (L := asI5L) (T := asI5T) (pre := asI5Pre) (μ := asI5Mu) (HFun.none Try.prog 1 79) (by kernel_rfl) (by decide) (by decide) asI5_t asI5_go

theorem asI5_yes (s : SV) (h0 : 0 ≤ s.x.i 0) (h1 : s.x.i 0 ≤ s.len 0) (hx : s.x.i 1 = s.len 0) :
    ((∀ j : Nat, s.x.i 0 ≤ j → j < s.len 0 → rowOk 5 (s.y 0) j = true) → (asI5F s).1 = 0) ∧ ((¬ ∀ j : Nat, s.x.i 0 ≤ j → j < s.len 0 → rowOk 5 (s.y 0) j = true) → (asI5F s).1 = 1) := by
  rw [asI5F_eq]
  refine ask_run (T := asI5T) (N := asI5N) (X := asI5X) (E := asI5E) (fun r => r.y 0 = s.y 0 ∧ r.x.i 1 = r.len 0) (rowOk 5 (s.y 0)) (fun r hr hlt => ?_) (fun r hr => ?_) (fun r hr hlt => ?_) _ s ⟨rfl, hx⟩ h0 h1 (Nat.lt_succ_self _)
  · have hy := hr.1
    rw [← hy]
    exact asI5_pick r (decide_eq_true (by have := hr.2; omega))
  · obtain ⟨e0, l0, n0, y0, x1⟩ := asI5N_k r
    exact ⟨e0, l0, ⟨y0.trans hr.1, by have := hr.2; omega⟩⟩
  · unfold asI5T
    rw [decide_eq_false (by have := hr.2; omega)]
    rfl

noncomputable def asS6L : LP := { A := 3, ts := [7, 2, 0], F := ⟨[.sc (.int .i64), .ssl 2 0 8, .ptr 0 0], [.lit (.cst (.int .i8 6) :: uT) false, .lit sC false, .sym (.flt .f32) false]⟩, xs := [(.exit 0, [], ⟨[], [.lit (.cst (.int .i8 6) :: uT) false, .lit sC false, .sym (.flt .f32) false]⟩), (.ret, [6], ⟨[.cst (.int .i64 2)], [.lit (.cst (.int .i8 6) :: uT) false, .lit sC false, .sym (.flt .f32) false]⟩)] }

noncomputable def asI6L : LP := { A := 1, ts := [21, 20, 19, 3], F := ⟨[.sc (.int .i64), .sc (.int .i64), .ssl 0 0 8, .ptr 1 0], [.sym (.flt .f32) false, .lit (.cst (.int .i8 6) :: uT) false]⟩, xs := [(.exit 0, [], ⟨[], [.sym (.flt .f32) false]⟩), (.ret, [6], ⟨[.cst (.int .i64 2)], [.sym (.flt .f32) false]⟩)] }

noncomputable def cnS6L : LP := { A := 1, ts := [10, 9, 2, 3, 4], F := ⟨[.sc (.int .i64), .sc (.int .i64), .ssl 0 0 8, .ptr 1 0, .ptr 2 0], [.sym (.flt .f32) false, .lit (.cst (.int .i8 6) :: uT) false, .lit sC false]⟩, xs := [(.exit 0, [9], ⟨[.sc (.int .i64)], [.sym (.flt .f32) false]⟩)] }

noncomputable def gdI6L : LP := { A := 1, ts := [24, 23, 22, 3, 4, 9], F := ⟨[.sc (.int .i64), .sc (.int .i64), .ssl 0 0 8, .ptr 1 0, .ptr 2 0, .ssl 3 0 1], [.sym (.flt .f32) false, .lit (.cst (.int .i8 6) :: uT) false, .lit sC false, .sym .bool true]⟩, xs := [(.exit 0, [9], ⟨[.ssl 1 0 1], [.sym (.flt .f32) false, .sym .bool true]⟩)] }

noncomputable def asS6_v_0 (s : SV) : Vars := (isFilmR [(.flt .f32 ((s.y 2).u (padd 0 (pmul (itn (s.x.i 0)) 8))))])

noncomputable def asS6_v_1 (s : SV) : Vars := (isFilmR [(.flt .f32 ((s.y 2).u (padd 1 (pmul (itn (s.x.i 0)) 8))))])

noncomputable def asS6_v_2 (s : SV) : Vars := (isFilmR [(.flt .f32 ((s.y 2).u (padd 2 (pmul (itn (s.x.i 0)) 8))))])

noncomputable def asS6_v_3 (s : SV) : Vars := (isFilmR [(.flt .f32 ((s.y 2).u (padd 3 (pmul (itn (s.x.i 0)) 8))))])

noncomputable def asS6_v_4 (s : SV) : Vars := (isFilmR [(.flt .f32 ((s.y 2).u (padd 4 (pmul (itn (s.x.i 0)) 8))))])

noncomputable def asS6_v_5 (s : SV) : Vars := (isFilmR [(.flt .f32 ((s.y 2).u (padd 5 (pmul (itn (s.x.i 0)) 8))))])

noncomputable def asS6N (s : SV) : SV := (mkSV (apl [(.sint .i64 (iadd (s.x.i 0) 1))] (apl (fl s.x 1 8) (apl [(.sint .i8 (s.x.i 9))] (apl (fl s.x 10 14) (apl [(.sint .i8 (s.x.i 24))] (apl (fl s.x 25 14) (apl [(.sint .i8 (s.x.i 39))] (apl (fl s.x 40 14) (apl [(.sint .i8 (s.x.i 54))] (apl (fl s.x 55 14) (apl [(.sint .i8 (s.x.i 69))] (apl (fl s.x 70 14) (apl [(.sint .i8 (s.x.i 84))] (apl (fl s.x 85 14) (apl [(.sint .i8 (s.x.i 99))] (apl (fl s.x 100 14) (apl [(.sint .i8 (s.x.i 114))] (apl (fl s.x 115 32) ([(.sint .i16 (s.x.i 147))]))))))))))))))))))) [(s.len 0)] [0, 0, (s.n 2)] [zeroV, zeroV, (s.y 2)])
noncomputable def asS6X (s : SV) : SV := (mkSV (apl (fl s.x 1 8) (apl [(.sint .i8 (s.x.i 9))] (apl (fl s.x 10 14) (apl [(.sint .i8 (s.x.i 24))] (apl (fl s.x 25 14) (apl [(.sint .i8 (s.x.i 39))] (apl (fl s.x 40 14) (apl [(.sint .i8 (s.x.i 54))] (apl (fl s.x 55 14) (apl [(.sint .i8 (s.x.i 69))] (apl (fl s.x 70 14) (apl [(.sint .i8 (s.x.i 84))] (apl (fl s.x 85 14) (apl [(.sint .i8 (s.x.i 99))] (apl (fl s.x 100 14) (apl [(.sint .i8 (s.x.i 114))] (apl (fl s.x 115 32) ([(.sint .i16 (s.x.i 147))])))))))))))))))))) [] [0, 0, (s.n 2)] [zeroV, zeroV, (s.y 2)])
noncomputable def asS6E (s : SV) : SV := (mkSV (apl (fl s.x 1 8) (apl [(.sint .i8 (s.x.i 9))] (apl (fl s.x 10 14) (apl [(.sint .i8 (s.x.i 24))] (apl (fl s.x 25 14) (apl [(.sint .i8 (s.x.i 39))] (apl (fl s.x 40 14) (apl [(.sint .i8 (s.x.i 54))] (apl (fl s.x 55 14) (apl [(.sint .i8 (s.x.i 69))] (apl (fl s.x 70 14) (apl [(.sint .i8 (s.x.i 84))] (apl (fl s.x 85 14) (apl [(.sint .i8 (s.x.i 99))] (apl (fl s.x 100 14) (apl [(.sint .i8 (s.x.i 114))] (apl (fl s.x 115 32) ([(.sint .i16 (s.x.i 147))])))))))))))))))))) [] [0, 0, (s.n 2)] [zeroV, zeroV, (s.y 2)])

noncomputable def asS6T (s : SV) : Tr := .node [((decide ((-(9223372036854775807 + 1)) ≤ (ofN (s.len 0)))) && (decide ((ofN (s.len 0)) ≤ 9223372036854775807)))] (decide ((s.x.i 0) < (ofN (s.len 0)))) (.node [(decide ((padd 0 (pmul (itn (s.x.i 0)) 8)) < (s.n 2))), (decide (0 ≤ (s.x.i 0))), (decide ((s.x.i 0) < (s.len 0)))] (!((asS6_v_0 s).b 0)) (.out 1 (asS6X s) []) (.node [(decide ((padd 1 (pmul (itn (s.x.i 0)) 8)) < (s.n 2))), (decide (0 ≤ (s.x.i 0))), (decide ((s.x.i 0) < (s.len 0)))] (!((asS6_v_1 s).b 0)) (.out 1 (asS6X s) []) (.node [(decide ((padd 2 (pmul (itn (s.x.i 0)) 8)) < (s.n 2))), (decide (0 ≤ (s.x.i 0))), (decide ((s.x.i 0) < (s.len 0)))] (!((asS6_v_2 s).b 0)) (.out 1 (asS6X s) []) (.node [(decide ((padd 3 (pmul (itn (s.x.i 0)) 8)) < (s.n 2))), (decide (0 ≤ (s.x.i 0))), (decide ((s.x.i 0) < (s.len 0)))] (!((asS6_v_3 s).b 0)) (.out 1 (asS6X s) []) (.node [(decide ((padd 4 (pmul (itn (s.x.i 0)) 8)) < (s.n 2))), (decide (0 ≤ (s.x.i 0))), (decide ((s.x.i 0) < (s.len 0)))] (!((asS6_v_4 s).b 0)) (.out 1 (asS6X s) []) (.node [(decide ((padd 5 (pmul (itn (s.x.i 0)) 8)) < (s.n 2))), (decide (0 ≤ (s.x.i 0))), (decide ((s.x.i 0) < (s.len 0)))] (!((asS6_v_5 s).b 0)) (.out 1 (asS6X s) []) (.next (asS6N s) [((decide ((-(9223372036854775807 + 1)) ≤ (iadd (s.x.i 0) 1))) && (decide ((iadd (s.x.i 0) 1) ≤ 9223372036854775807)))]))))))) (.out 0 (asS6E s) [])

theorem asS6_t (s : SV) : Go.Sim.stepT Try.prog G30 (ntOf Try.prog 53) noLT true 1000 asS6L (loopOf Try.prog 53 0) s = some (asS6T s) := by kernel_rfl

def asS6P (s : SV) : Prop := 0 ≤ s.x.i 0 ∧ s.x.i 0 ≤ s.len 0 ∧ s.len 0 ≤ 1048576 ∧ s.n 2 = 8 * s.len 0

noncomputable def asS6B (s : SV) : Bool := @decide (asS6P s) (Classical.propDecidable _)
theorem asS6B_of {s : SV} (h : asS6B s = true) : asS6P s := @of_decide_eq_true _ (Classical.propDecidable _) h
theorem asS6B_to {s : SV} (h : asS6P s) : asS6B s = true := @decide_eq_true _ (Classical.propDecidable _) h

theorem asS6N_k (s : SV) : (asS6N s).x.i 0 = s.x.i 0 + 1 ∧ (asS6N s).len 0 = s.len 0 ∧ (asS6N s).n 2 = s.n 2 ∧ (asS6N s).y 2 = s.y 2 := ⟨by kernel_rfl, by kernel_rfl, by kernel_rfl, by kernel_rfl⟩

def asS6Mu (s : SV) : Nat := ((s.len 0 : Int) - s.x.i 0).toNat

theorem asS6_pick (s : SV) (hlt : (decide ((s.x.i 0) < (ofN (s.len 0)))) = true) : (asS6T s).pick = (bif rowOk 6 (s.y 2) (s.x.i 0).toNat then .next (asS6N s) else .out 1 (asS6X s)) := by
  have f0 : (isFilmR [.flt .f32 ((s.y 2).u (8 * (s.x.i 0).toNat + 0))]).b 0 = (asS6_v_0 s).b 0 := by
    rw [← idxS 0 (s.x.i 0)]
    rfl
  have f1 : (isFilmR [.flt .f32 ((s.y 2).u (8 * (s.x.i 0).toNat + 1))]).b 0 = (asS6_v_1 s).b 0 := by
    rw [← idxS 1 (s.x.i 0)]
    rfl
  have f2 : (isFilmR [.flt .f32 ((s.y 2).u (8 * (s.x.i 0).toNat + 2))]).b 0 = (asS6_v_2 s).b 0 := by
    rw [← idxS 2 (s.x.i 0)]
    rfl
  have f3 : (isFilmR [.flt .f32 ((s.y 2).u (8 * (s.x.i 0).toNat + 3))]).b 0 = (asS6_v_3 s).b 0 := by
    rw [← idxS 3 (s.x.i 0)]
    rfl
  have f4 : (isFilmR [.flt .f32 ((s.y 2).u (8 * (s.x.i 0).toNat + 4))]).b 0 = (asS6_v_4 s).b 0 := by
    rw [← idxS 4 (s.x.i 0)]
    rfl
  have f5 : (isFilmR [.flt .f32 ((s.y 2).u (8 * (s.x.i 0).toNat + 5))]).b 0 = (asS6_v_5 s).b 0 := by
    rw [← idxS 5 (s.x.i 0)]
    rfl
  unfold asS6T
  rw [hlt]
  show _ = (bif ((isFilmR [.flt .f32 ((s.y 2).u (8 * (s.x.i 0).toNat + 0))]).b 0 && ((isFilmR [.flt .f32 ((s.y 2).u (8 * (s.x.i 0).toNat + 1))]).b 0 && ((isFilmR [.flt .f32 ((s.y 2).u (8 * (s.x.i 0).toNat + 2))]).b 0 && ((isFilmR [.flt .f32 ((s.y 2).u (8 * (s.x.i 0).toNat + 3))]).b 0 && ((isFilmR [.flt .f32 ((s.y 2).u (8 * (s.x.i 0).toNat + 4))]).b 0 && ((isFilmR [.flt .f32 ((s.y 2).u (8 * (s.x.i 0).toNat + 5))]).b 0 && (true))))))) then _ else _)
  rw [f0, f1, f2, f3, f4, f5]
  cases v0 : (asS6_v_0 s).b 0 with
  | false =>
    rfl
  | true =>
    cases v1 : (asS6_v_1 s).b 0 with
    | false =>
      rfl
    | true =>
      cases v2 : (asS6_v_2 s).b 0 with
      | false =>
        rfl
      | true =>
        cases v3 : (asS6_v_3 s).b 0 with
        | false =>
          rfl
        | true =>
          cases v4 : (asS6_v_4 s).b 0 with
          | false =>
            rfl
          | true =>
            cases v5 : (asS6_v_5 s).b 0 with
            | false =>
              rfl
            | true =>
              rfl

theorem asS6_go (s : SV) (hp : ∀ b ∈ [asS6B s], b = true) :
    (asS6T s).ok ∧ (∀ k s', (asS6T s).pick = .out k s' → k < 2) ∧ ∀ s', (asS6T s).pick = .next s' → (∀ b ∈ [asS6B s'], b = true) ∧ asS6Mu s' < asS6Mu s := by
  obtain ⟨i1, i2, i3, i4⟩ := asS6B_of (hp _ (List.mem_cons_self ..))
  cases hc : (decide ((s.x.i 0) < (ofN (s.len 0)))) with
  | false =>
    have hk : (asS6T s).pick = .out 0 (asS6E s) := by unfold asS6T; rw [hc]; rfl
    refine ⟨?_, fun k s' h => ?_, fun s' h => ?_⟩
    · unfold asS6T
      exact ⟨(allC (andT (decide_eq_true (by unfold ofN; omega)) (decide_eq_true (by unfold ofN; omega))) allN), (fun h => by rw [hc] at h; cases h), (fun _ b hb => by cases hb)⟩
    · rw [hk] at h; cases h; decide
    · rw [hk] at h; cases h
  | true =>
    have hlt := of_decide_eq_true hc
    (try unfold ofN at hlt)
    refine ⟨?_, fun k s' h => ?_, fun s' h => ?_⟩
    · unfold asS6T
      exact ⟨(allC (andT (decide_eq_true (by unfold ofN; omega)) (decide_eq_true (by unfold ofN; omega))) allN), (fun _ => ⟨(allC (decide_eq_true (by unfold padd pmul itn; omega)) (allC (decide_eq_true (by omega)) (allC (decide_eq_true (by omega)) allN))), (fun _ b hb => by cases hb), (fun _ => ⟨(allC (decide_eq_true (by unfold padd pmul itn; omega)) (allC (decide_eq_true (by omega)) (allC (decide_eq_true (by omega)) allN))), (fun _ b hb => by cases hb), (fun _ => ⟨(allC (decide_eq_true (by unfold padd pmul itn; omega)) (allC (decide_eq_true (by omega)) (allC (decide_eq_true (by omega)) allN))), (fun _ b hb => by cases hb), (fun _ => ⟨(allC (decide_eq_true (by unfold padd pmul itn; omega)) (allC (decide_eq_true (by omega)) (allC (decide_eq_true (by omega)) allN))), (fun _ b hb => by cases hb), (fun _ => ⟨(allC (decide_eq_true (by unfold padd pmul itn; omega)) (allC (decide_eq_true (by omega)) (allC (decide_eq_true (by omega)) allN))), (fun _ b hb => by cases hb), (fun _ => ⟨(allC (decide_eq_true (by unfold padd pmul itn; omega)) (allC (decide_eq_true (by omega)) (allC (decide_eq_true (by omega)) allN))), (fun _ b hb => by cases hb), (fun _ => (allC (andT (decide_eq_true (by unfold iadd; omega)) (decide_eq_true (by unfold iadd; omega))) allN))⟩)⟩)⟩)⟩)⟩)⟩), (fun h => by rw [hc] at h; cases h)⟩
    · rw [asS6_pick s hc] at h
      cases hr : rowOk 6 (s.y 2) (s.x.i 0).toNat with
      | false => rw [hr] at h; cases h; decide
      | true => rw [hr] at h; cases h
    · rw [asS6_pick s hc] at h
      cases hr : rowOk 6 (s.y 2) (s.x.i 0).toNat with
      | false => rw [hr] at h; cases h
      | true =>
        rw [hr] at h
        cases h
        obtain ⟨e0, l0, n0, y0⟩ := asS6N_k s
        refine ⟨fun b hb => ?_, by unfold asS6Mu; omega⟩
        rw [List.mem_singleton.1 hb]
        exact asS6B_to ⟨by omega, by omega, by omega, by omega⟩

noncomputable def asS6F0 (s : SV) : Nat × SV := Go.Sim.runT asS6T (asS6Mu s + 1) s

noncomputable def asS6F : SV → Nat × SV := Classical.choose (⟨asS6F0, rfl⟩ : ∃ f, f = asS6F0)

theorem asS6F_eq : asS6F = asS6F0 := Classical.choose_spec (⟨asS6F0, rfl⟩ : ∃ f, f = asS6F0)

noncomputable def asS6Pre (s : SV) : List Bool := [asS6B s]

noncomputable def HasS6 : LTab := hookL 0 asS6L asS6Pre asS6F noLT

theorem HasS6_ok : HFun Try.prog 3 HasS6 53 := by
  unfold HasS6
  rw [asS6F_eq]
  exact HFun.loop G30_ok mixed (J := true) (n := 1000) (L := asS6L) (T := asS6T) (pre := asS6Pre) (μ := asS6Mu) (HFun.none Try.prog 3 53) (by kernel_rfl) (by decide) (by decide) asS6_t asS6_go

theorem asS6_yes (s : SV) (h0 : 0 ≤ s.x.i 0) (h1 : s.x.i 0 ≤ s.len 0) :
    ((∀ j : Nat, s.x.i 0 ≤ j → j < s.len 0 → rowOk 6 (s.y 2) j = true) → (asS6F s).1 = 0) ∧ ((¬ ∀ j : Nat, s.x.i 0 ≤ j → j < s.len 0 → rowOk 6 (s.y 2) j = true) → (asS6F s).1 = 1) := by
  rw [asS6F_eq]
  refine ask_run (T := asS6T) (N := asS6N) (X := asS6X) (E := asS6E) (fun r => r.y 2 = s.y 2) (rowOk 6 (s.y 2)) (fun r hr hlt => ?_) (fun r hr => ?_) (fun r hr hlt => ?_) _ s rfl h0 h1 (Nat.lt_succ_self _)
  · have hy := hr
    rw [← hy]
    exact asS6_pick r (decide_eq_true (show r.x.i 0 < ofN (r.len 0) from hlt))
  · obtain ⟨e0, l0, n0, y0⟩ := asS6N_k r
    exact ⟨e0, l0, y0.trans hr⟩
  · unfold asS6T
    rw [decide_eq_false (show ¬ r.x.i 0 < ofN (r.len 0) from hlt)]
    rfl

noncomputable def asI6_v_0 (s : SV) : Vars := (isFilmR [(.flt .f32 ((s.y 0).u (padd (padd 0 (pmul (itn (s.x.i 0)) 8)) 0)))])

noncomputable def asI6_v_1 (s : SV) : Vars := (isFilmR [(.flt .f32 ((s.y 0).u (padd (padd 0 (pmul (itn (s.x.i 0)) 8)) 1)))])

noncomputable def asI6_v_2 (s : SV) : Vars := (isFilmR [(.flt .f32 ((s.y 0).u (padd (padd 0 (pmul (itn (s.x.i 0)) 8)) 2)))])

noncomputable def asI6_v_3 (s : SV) : Vars := (isFilmR [(.flt .f32 ((s.y 0).u (padd (padd 0 (pmul (itn (s.x.i 0)) 8)) 3)))])

noncomputable def asI6_v_4 (s : SV) : Vars := (isFilmR [(.flt .f32 ((s.y 0).u (padd (padd 0 (pmul (itn (s.x.i 0)) 8)) 4)))])

noncomputable def asI6_v_5 (s : SV) : Vars := (isFilmR [(.flt .f32 ((s.y 0).u (padd (padd 0 (pmul (itn (s.x.i 0)) 8)) 5)))])

noncomputable def asI6N (s : SV) : SV := (mkSV (apl [(.sint .i64 (iadd (s.x.i 0) 1)), (.sint .i64 (s.x.i 1))] (apl (fl s.x 2 8) (apl [(.sint .i8 (s.x.i 10))] (apl (fl s.x 11 14) (apl [(.sint .i8 (s.x.i 25))] (apl (fl s.x 26 14) (apl [(.sint .i8 (s.x.i 40))] (apl (fl s.x 41 14) (apl [(.sint .i8 (s.x.i 55))] (apl (fl s.x 56 14) (apl [(.sint .i8 (s.x.i 70))] (apl (fl s.x 71 14) (apl [(.sint .i8 (s.x.i 85))] (apl (fl s.x 86 14) (apl [(.sint .i8 (s.x.i 100))] (apl (fl s.x 101 14) (apl [(.sint .i8 (s.x.i 115))] (fl s.x 116 14)))))))))))))))))) [(s.len 0)] [(s.n 0), 0] [(s.y 0), zeroV])
noncomputable def asI6X (s : SV) : SV := (mkSV [] [] [(s.n 0)] [(s.y 0)])
noncomputable def asI6E (s : SV) : SV := (mkSV [] [] [(s.n 0)] [(s.y 0)])

noncomputable def asI6T (s : SV) : Tr := .node [] (decide ((s.x.i 0) < (s.x.i 1))) (.node [(decide ((padd (padd 0 (pmul (itn (s.x.i 0)) 8)) 8) ≤ (s.n 0))), (decide (0 ≤ (s.x.i 0))), (decide ((s.x.i 0) < (s.len 0)))] (!((asI6_v_0 s).b 0)) (.out 1 (asI6X s) []) (.node [] (!((asI6_v_1 s).b 0)) (.out 1 (asI6X s) []) (.node [] (!((asI6_v_2 s).b 0)) (.out 1 (asI6X s) []) (.node [] (!((asI6_v_3 s).b 0)) (.out 1 (asI6X s) []) (.node [] (!((asI6_v_4 s).b 0)) (.out 1 (asI6X s) []) (.node [] (!((asI6_v_5 s).b 0)) (.out 1 (asI6X s) []) (.next (asI6N s) [((decide ((-(9223372036854775807 + 1)) ≤ (iadd (s.x.i 0) 1))) && (decide ((iadd (s.x.i 0) 1) ≤ 9223372036854775807)))]))))))) (.out 0 (asI6E s) [])

theorem asI6_t (s : SV) : Go.Sim.stepT Try.prog G30 (ntOf Try.prog 79) noLT true 1000 asI6L (loopOf Try.prog 79 0) s = some (asI6T s) := by kernel_rfl

def asI6P (s : SV) : Prop := 0 ≤ s.x.i 0 ∧ s.x.i 0 ≤ s.len 0 ∧ s.len 0 ≤ 1048576 ∧ s.n 0 = 8 * s.len 0 ∧ s.x.i 1 = s.len 0

noncomputable def asI6B (s : SV) : Bool := @decide (asI6P s) (Classical.propDecidable _)
theorem asI6B_of {s : SV} (h : asI6B s = true) : asI6P s := @of_decide_eq_true _ (Classical.propDecidable _) h
theorem asI6B_to {s : SV} (h : asI6P s) : asI6B s = true := @decide_eq_true _ (Classical.propDecidable _) h

theorem asI6N_k (s : SV) : (asI6N s).x.i 0 = s.x.i 0 + 1 ∧ (asI6N s).len 0 = s.len 0 ∧ (asI6N s).n 0 = s.n 0 ∧ (asI6N s).y 0 = s.y 0 ∧ (asI6N s).x.i 1 = s.x.i 1 := ⟨by kernel_rfl, by kernel_rfl, by kernel_rfl, by kernel_rfl, by kernel_rfl⟩

def asI6Mu (s : SV) : Nat := ((s.len 0 : Int) - s.x.i 0).toNat

theorem asI6_pick (s : SV) (hlt : (decide ((s.x.i 0) < (s.x.i 1))) = true) : (asI6T s).pick = (bif rowOk 6 (s.y 0) (s.x.i 0).toNat then .next (asI6N s) else .out 1 (asI6X s)) := by
  have f0 : (isFilmR [.flt .f32 ((s.y 0).u (8 * (s.x.i 0).toNat + 0))]).b 0 = (asI6_v_0 s).b 0 := by
    rw [← idxI 0 (s.x.i 0)]
    rfl
  have f1 : (isFilmR [.flt .f32 ((s.y 0).u (8 * (s.x.i 0).toNat + 1))]).b 0 = (asI6_v_1 s).b 0 := by
    rw [← idxI 1 (s.x.i 0)]
    rfl
  have f2 : (isFilmR [.flt .f32 ((s.y 0).u (8 * (s.x.i 0).toNat + 2))]).b 0 = (asI6_v_2 s).b 0 := by
    rw [← idxI 2 (s.x.i 0)]
    rfl
  have f3 : (isFilmR [.flt .f32 ((s.y 0).u (8 * (s.x.i 0).toNat + 3))]).b 0 = (asI6_v_3 s).b 0 := by
    rw [← idxI 3 (s.x.i 0)]
    rfl
  have f4 : (isFilmR [.flt .f32 ((s.y 0).u (8 * (s.x.i 0).toNat + 4))]).b 0 = (asI6_v_4 s).b 0 := by
    rw [← idxI 4 (s.x.i 0)]
    rfl
  have f5 : (isFilmR [.flt .f32 ((s.y 0).u (8 * (s.x.i 0).toNat + 5))]).b 0 = (asI6_v_5 s).b 0 := by
    rw [← idxI 5 (s.x.i 0)]
    rfl
  unfold asI6T
  rw [hlt]
  show _ = (bif ((isFilmR [.flt .f32 ((s.y 0).u (8 * (s.x.i 0).toNat + 0))]).b 0 && ((isFilmR [.flt .f32 ((s.y 0).u (8 * (s.x.i 0).toNat + 1))]).b 0 && ((isFilmR [.flt .f32 ((s.y 0).u (8 * (s.x.i 0).toNat + 2))]).b 0 && ((isFilmR [.flt .f32 ((s.y 0).u (8 * (s.x.i 0).toNat + 3))]).b 0 && ((isFilmR [.flt .f32 ((s.y 0).u (8 * (s.x.i 0).toNat + 4))]).b 0 && ((isFilmR [.flt .f32 ((s.y 0).u (8 * (s.x.i 0).toNat + 5))]).b 0 && (true))))))) then _ else _)
  rw [f0, f1, f2, f3, f4, f5]
  cases v0 : (asI6_v_0 s).b 0 with
  | false =>
    rfl
  | true =>
    cases v1 : (asI6_v_1 s).b 0 with
    | false =>
      rfl
    | true =>
      cases v2 : (asI6_v_2 s).b 0 with
      | false =>
        rfl
      | true =>
        cases v3 : (asI6_v_3 s).b 0 with
        | false =>
          rfl
        | true =>
          cases v4 : (asI6_v_4 s).b 0 with
          | false =>
            rfl
          | true =>
            cases v5 : (asI6_v_5 s).b 0 with
            | false =>
              rfl
            | true =>
              rfl

theorem asI6_go (s : SV) (hp : ∀ b ∈ [asI6B s], b = true) :
    (asI6T s).ok ∧ (∀ k s', (asI6T s).pick = .out k s' → k < 2) ∧ ∀ s', (asI6T s).pick = .next s' → (∀ b ∈ [asI6B s'], b = true) ∧ asI6Mu s' < asI6Mu s := by
  obtain ⟨i1, i2, i3, i4, i5⟩ := asI6B_of (hp _ (List.mem_cons_self ..))
  cases hc : (decide ((s.x.i 0) < (s.x.i 1))) with
  | false =>
    have hk : (asI6T s).pick = .out 0 (asI6E s) := by unfold asI6T; rw [hc]; rfl
    refine ⟨?_, fun k s' h => ?_, fun s' h => ?_⟩
    · unfold asI6T
      exact ⟨allN, (fun h => by rw [hc] at h; cases h), (fun _ b hb => by cases hb)⟩
    · rw [hk] at h; cases h; decide
    · rw [hk] at h; cases h
  | true =>
    have hlt := of_decide_eq_true hc
    (try unfold ofN at hlt)
    refine ⟨?_, fun k s' h => ?_, fun s' h => ?_⟩
    · unfold asI6T
      exact ⟨allN, (fun _ => ⟨(allC (decide_eq_true (by unfold padd pmul itn; omega)) (allC (decide_eq_true (by omega)) (allC (decide_eq_true (by omega)) allN))), (fun _ b hb => by cases hb), (fun _ => ⟨allN, (fun _ b hb => by cases hb), (fun _ => ⟨allN, (fun _ b hb => by cases hb), (fun _ => ⟨allN, (fun _ b hb => by cases hb), (fun _ => ⟨allN, (fun _ b hb => by cases hb), (fun _ => ⟨allN, (fun _ b hb => by cases hb), (fun _ => (allC (andT (decide_eq_true (by unfold iadd; omega)) (decide_eq_true (by unfold iadd; omega))) allN))⟩)⟩)⟩)⟩)⟩)⟩), (fun h => by rw [hc] at h; cases h)⟩
    · rw [asI6_pick s hc] at h
      cases hr : rowOk 6 (s.y 0) (s.x.i 0).toNat with
      | false => rw [hr] at h; cases h; decide
      | true => rw [hr] at h; cases h
    · rw [asI6_pick s hc] at h
      cases hr : rowOk 6 (s.y 0) (s.x.i 0).toNat with
      | false => rw [hr] at h; cases h
      | true =>
        rw [hr] at h
        cases h
        obtain ⟨e0, l0, n0, y0, x1⟩ := asI6N_k s
        refine ⟨fun b hb => ?_, by unfold asI6Mu; omega⟩
        rw [List.mem_singleton.1 hb]
        exact asI6B_to ⟨by omega, by omega, by omega, by omega, by omega⟩

noncomputable def asI6F0 (s : SV) : Nat × SV := Go.Sim.runT asI6T (asI6Mu s + 1) s

noncomputable def asI6F : SV → Nat × SV := Classical.choose (⟨asI6F0, rfl⟩ : ∃ f, f = asI6F0)

theorem asI6F_eq : asI6F = asI6F0 := Classical.choose_spec (⟨asI6F0, rfl⟩ : ∃ f, f = asI6F0)

noncomputable def asI6Pre (s : SV) : List Bool := [asI6B s]

noncomputable def HasI6 : LTab := hookL 0 asI6L asI6Pre asI6F noLT

theorem HasI6_ok : HFun Try.prog 1 HasI6 79 := by
  unfold HasI6
  rw [asI6F_eq]
  exact HFun.loop G30_ok mixed (J := true) (n := 1000) (L := asI6L) (T := asI6T) (pre := asI6Pre) (μ := asI6Mu) (HFun.none Try.prog 1 79) (by kernel_rfl) (by decide) (by decide) asI6_t asI6_go

theorem asI6_yes (s : SV) (h0 : 0 ≤ s.x.i 0) (h1 : s.x.i 0 ≤ s.len 0) (hx : s.x.i 1 = s.len 0) :
    ((∀ j : Nat, s.x.i 0 ≤ j → j < s.len 0 → rowOk 6 (s.y 0) j = true) → (asI6F s).1 = 0) ∧ ((¬ ∀ j : Nat, s.x.i 0 ≤ j → j < s.len 0 → rowOk 6 (s.y 0) j = true) → (asI6F s).1 = 1) := by
  rw [asI6F_eq]
  refine ask_run (T := asI6T) (N := asI6N) (X := asI6X) (E := asI6E) (fun r => r.y 0 = s.y 0 ∧ r.x.i 1 = r.len 0) (rowOk 6 (s.y 0)) (fun r hr hlt => ?_) (fun r hr => ?_) (fun r hr hlt => ?_) _ s ⟨rfl, hx⟩ h0 h1 (Nat.lt_succ_self _)
  · have hy := hr.1
    rw [← hy]
    exact asI6_pick r (decide_eq_true (by have := hr.2; omega))
  · obtain ⟨e0, l0, n0, y0, x1⟩ := asI6N_k r
    exact ⟨e0, l0, ⟨y0.trans hr.1, by have := hr.2; omega⟩⟩
  · unfold asI6T
    rw [decide_eq_false (by have := hr.2; omega)]
    rfl

noncomputable def asS7L : LP := { A := 3, ts := [7, 2, 0], F := ⟨[.sc (.int .i64), .ssl 2 0 8, .ptr 0 0], [.lit (.cst (.int .i8 7) :: uT) false, .lit sC false, .sym (.flt .f32) false]⟩, xs := [(.exit 0, [], ⟨[], [.lit (.cst (.int .i8 7) :: uT) false, .lit sC false, .sym (.flt .f32) false]⟩), (.ret, [6], ⟨[.cst (.int .i64 2)], [.lit (.cst (.int .i8 7) :: uT) false, .lit sC false, .sym (.flt .f32) false]⟩)] }

noncomputable def asI7L : LP := { A := 1, ts := [21, 20, 19, 3], F := ⟨[.sc (.int .i64), .sc (.int .i64), .ssl 0 0 8, .ptr 1 0], [.sym (.flt .f32) false, .lit (.cst (.int .i8 7) :: uT) false]⟩, xs := [(.exit 0, [], ⟨[], [.sym (.flt .f32) false]⟩), (.ret, [6], ⟨[.cst (.int .i64 2)], [.sym (.flt .f32) false]⟩)] }

noncomputable def cnS7L : LP := { A := 1, ts := [10, 9, 2, 3, 4], F := ⟨[.sc (.int .i64), .sc (.int .i64), .ssl 0 0 8, .ptr 1 0, .ptr 2 0], [.sym (.flt .f32) false, .lit (.cst (.int .i8 7) :: uT) false, .lit sC false]⟩, xs := [(.exit 0, [9], ⟨[.sc (.int .i64)], [.sym (.flt .f32) false]⟩)] }

noncomputable def gdI7L : LP := { A := 1, ts := [24, 23, 22, 3, 4, 9], F := ⟨[.sc (.int .i64), .sc (.int .i64), .ssl 0 0 8, .ptr 1 0, .ptr 2 0, .ssl 3 0 1], [.sym (.flt .f32) false, .lit (.cst (.int .i8 7) :: uT) false, .lit sC false, .sym .bool true]⟩, xs := [(.exit 0, [9], ⟨[.ssl 1 0 1], [.sym (.flt .f32) false, .sym .bool true]⟩)] }

noncomputable def asS7_v_0 (s : SV) : Vars := (isFilmR [(.flt .f32 ((s.y 2).u (padd 0 (pmul (itn (s.x.i 0)) 8))))])

noncomputable def asS7_v_1 (s : SV) : Vars := (isFilmR [(.flt .f32 ((s.y 2).u (padd 1 (pmul (itn (s.x.i 0)) 8))))])

end Go.Proofs.Ytagkkkplmilkhaa

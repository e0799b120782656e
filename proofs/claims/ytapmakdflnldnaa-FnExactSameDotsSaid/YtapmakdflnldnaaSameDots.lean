/-
  The law FnExactSameDots returns true whatever the input, and its arguments read as they did; no conditions.
-/
import Derived.Test.YtapmakdflnldnaaBase
namespace Go.Proofs.Ytapmakdflnldnaa
open Go.Sim Go.ChangeShapes Go.WideShapes Go.ChangeAt Go.RowKit

theorem ext71 (b : Nat) (w : World) : (callFunc 71 #[.float .f32 b]).run Try.prog w = .ok (.value (.int .u32 b)) w := by kernel_rfl

noncomputable def G15 : Summ := addG 71 bits32 G8

theorem G15_ok : SoundG Try.prog G15 := SoundG.addBits32 G8_ok ext71

theorem ext73 (b : Nat) (w : World) : (callFunc 73 #[.float .f64 b]).run Try.prog w = .ok (.value (.int .u64 b)) w := by kernel_rfl

noncomputable def G16 : Summ := addG 73 bits64 G15

theorem G16_ok : SoundG Try.prog G16 := SoundG.addBits64 G15_ok ext73

noncomputable def sameNum (a0 a1 : Nat) : Bool := Go.Sim.sameNum a0 a1

theorem sameNum_ev67 (a0 a1 : Nat) : funA Try.prog G16 1000 67 [.flt .f32 a0, .flt .f32 a1] [] [] = some (.sbool (sameNum a0 a1), [(((fcmp .neq .f32 a0 a0) || (fcmp .neq .f32 a1 a1)) || (!(isNan .f32 a1))), (((fcmp .neq .f32 a0 a0) || (fcmp .neq .f32 a1 a1)) || (!(isNan .f32 a0)))]) := by kernel_rfl

theorem sameNum_cs67 (a0 a1 : Nat) : ∀ b ∈ [(((fcmp .neq .f32 a0 a0) || (fcmp .neq .f32 a1 a1)) || (!(isNan .f32 a1))), (((fcmp .neq .f32 a0 a0) || (fcmp .neq .f32 a1 a1)) || (!(isNan .f32 a0)))], b = true := by
  intro b hb
  have k1 := @notNan_of a0
  have k2 := @notNan_of a1
  have w1 := @notNan_wide a0
  have w2 := @notNan_wide a1
  simp only [List.mem_cons, List.not_mem_nil, or_false] at hb
  rcases hb with rfl | rfl <;> cases h1 : fcmp .neq .f32 a0 a0 <;> cases h2 : fcmp .neq .f32 a1 a1 <;> simp_all

noncomputable def sameNum_s : List AV → Option AV
  | [.flt .f32 a0, .flt .f32 a1] => some (.sbool (sameNum a0 a1))
  | _ => none

noncomputable def G17 : Summ := addG 67 (fun xs _ => (sameNum_s xs).map fun v => { v := v }) G16

theorem G17_ok : SoundG Try.prog G17 := by
  refine SoundG.add0' G16_ok mixed Try.call67 fun xs v h => ?_
  unfold sameNum_s at h
  split at h
  · cases h
    exact ⟨rfl, rfl, G16, G16_ok, 1000, [], _, sameNum_ev67 .., sameNum_cs67 _ _⟩
  · cases h

noncomputable def G18 : Summ := inlGs Try.prog 1000 [72] G17

theorem G18_ok : SoundG Try.prog G18 := by
  refine SoundG.inls mixed G17_ok fun f hf => ?_
  simp only [List.mem_cons, List.not_mem_nil, or_false] at hf
  subst hf
  exact Try.call72

noncomputable def sameNumI (a0 a1 : Nat) : Bool := Go.Sim.sameNum' a0 a1

theorem sameNumI_ev68 (a0 a1 : Nat) : funA Try.prog G18 1000 68 [.flt .f32 a0, .flt .f32 a1] [] [] = some (.sbool (sameNumI a0 a1), [(((fcmp .neq .f32 a0 a0) || (fcmp .neq .f32 a1 a1)) || (!(isNan .f64 (fconv .f32 .f64 a1)))), (((fcmp .neq .f32 a0 a0) || (fcmp .neq .f32 a1 a1)) || (!(isNan .f64 (fconv .f32 .f64 a0))))]) := by kernel_rfl

theorem sameNumI_cs68 (a0 a1 : Nat) : ∀ b ∈ [(((fcmp .neq .f32 a0 a0) || (fcmp .neq .f32 a1 a1)) || (!(isNan .f64 (fconv .f32 .f64 a1)))), (((fcmp .neq .f32 a0 a0) || (fcmp .neq .f32 a1 a1)) || (!(isNan .f64 (fconv .f32 .f64 a0))))], b = true := by
  intro b hb
  have k1 := @notNan_of a0
  have k2 := @notNan_of a1
  have w1 := @notNan_wide a0
  have w2 := @notNan_wide a1
  simp only [List.mem_cons, List.not_mem_nil, or_false] at hb
  rcases hb with rfl | rfl <;> cases h1 : fcmp .neq .f32 a0 a0 <;> cases h2 : fcmp .neq .f32 a1 a1 <;> simp_all

noncomputable def sameNumI_s : List AV → Option AV
  | [.flt .f32 a0, .flt .f32 a1] => some (.sbool (sameNumI a0 a1))
  | _ => none

noncomputable def G19 : Summ := addG 68 (fun xs _ => (sameNumI_s xs).map fun v => { v := v }) G18

theorem G19_ok : SoundG Try.prog G19 := by
  refine SoundG.add0' G18_ok mixed Try.call68 fun xs v h => ?_
  unfold sameNumI_s at h
  split at h
  · cases h
    exact ⟨rfl, rfl, G18, G18_ok, 1000, [], _, sameNumI_ev68 .., sameNumI_cs68 _ _⟩
  · cases h

noncomputable def G20 : Summ := inlGs Try.prog 1000 [19, 48, 23, 49, 24] G19

theorem G20_ok : SoundG Try.prog G20 := by
  refine SoundG.inls mixed G19_ok fun f hf => ?_
  simp only [List.mem_cons, List.not_mem_nil, or_false] at hf
  rcases hf with rfl | rfl | rfl | rfl | rfl
  · exact Try.call19
  · exact Try.call48
  · exact Try.call23
  · exact Try.call49
  · exact Try.call24

noncomputable def fnExactSameDotsT (a0 a1 a2 a3 a4 a5 : Nat) : Bool := (!(!((bif (!(sameNumI a0 a3)) then false else (bif (!(sameNumI a1 a4)) then false else (!(!(sameNumI a2 a5))))) == (((sameNum a0 a3) && (sameNum a1 a4)) && (sameNum a2 a5)))))

theorem fnExactSameDots_eval (a0 a1 a2 a3 a4 a5 : Nat) : funA Try.prog G20 1000 6 [.agg [.flt .f32 a0, .flt .f32 a1, .flt .f32 a2], .agg [.flt .f32 a3, .flt .f32 a4, .flt .f32 a5]] [] [] = some (.sbool (fnExactSameDotsT a0 a1 a2 a3 a4 a5), []) := by kernel_rfl

theorem fnExactSameDots_true (a0 a1 a2 a3 a4 a5 : Nat) (hb : (a0 < 4294967296 ∧ a1 < 4294967296 ∧ a2 < 4294967296) ∧ a3 < 4294967296 ∧ a4 < 4294967296 ∧ a5 < 4294967296) : fnExactSameDotsT a0 a1 a2 a3 a4 a5 = true := by
  obtain ⟨⟨h0, h1, h2⟩, h3, h4, h5⟩ := hb
  unfold fnExactSameDotsT sameNum sameNumI
  rw [sameNum_eq h0 h3, sameNum_eq h1 h4, sameNum_eq h2 h5]
  cases Go.Sim.sameNum a0 a3 <;> cases Go.Sim.sameNum a1 a4 <;> cases Go.Sim.sameNum a2 a5 <;> rfl

set_option maxRecDepth 100000 in
theorem fnExactSameDots_lifted (os : Os) (started : os.Started) (H : Type) (enc : TypeId × Value → H) :
    ReturnsInHanded {} Try.checked os 6 .any (Rows.fnExactSameDotsSpec.pre6 enc Try.prog Try.f6 Rows.fnExactSameDotsRow.domain false) (Rows.fnExactSameDotsSpec.post enc Try.prog Try.f6 false true false false) := by
  refine law_lift (C := Try.checked) (tb := 4) Try.own started (by kernel_rfl) Try.func6 Try.laidOut (by kernel_rfl) rfl rfl Try.underlying4 ?_
    (ChangeSpec.witness6 (enc := enc) (C := Try.checked) false ⟨#[], #[.agg #[.float .f32 0, .float .f32 0, .float .f32 0], .agg #[.float .f32 0, .float .f32 0, .float .f32 0]], []⟩ 8 (by kernel_rfl) (by kernel_rfl) (by kernel_rfl) (by kernel_rfl)) ?_
  · intro ds hl
    rw [Try.params6] at hl
    match ds, hl with
    | [d0, d1], _ => rfl
  · intro W base args ds before hval hA
    have hval : ∀ (j : Nat) t v, Try.f6.params[j]? = some t → args[j]? = some v → Value.okWide Try.prog W .any base t v := hval
    have hA : DataW.TrodAll enc Try.prog W 0 (fun _ => true) true Try.f6.params.toList args.toList ds before := hA
    rw [Try.params6] at hA hval
    obtain ⟨v0, v1, d0, d1, p0, p1, rfl, rfl, rfl, h0, h1⟩ := trodAll_two hA
    obtain ⟨b0, b1, b2, x0, f0⟩ := open23 (hval 0 23 v0 rfl rfl)
    obtain ⟨b3, b4, b5, x1, f1⟩ := open23 (hval 1 23 v1 rfl rfl)
    exact law_call G20_ok mixed (fnExactSameDots_eval b0 b1 b2 b3 b4 b5) (fnExactSameDots_true b0 b1 b2 b3 b4 b5 ⟨f0, f1⟩) (fun _ h => by simp at h) (.cons _ _ _ _ x0 (.cons _ _ _ _ x1 .nil))

theorem fnExactSameDots_holds : Rows.FnExactSameDotsSaid :=
  OpenClaim.holds_of_wide 6 Try.f6 rfl rfl rfl rfl rfl rfl rfl ⟨rfl, rfl, rfl, rfl, rfl⟩ rfl rfl rfl rfl rfl (by kernel_rfl) Try.func6 (by kernel_rfl)
    (of_decide_eq_true (by kernel_rfl)) (by unfold Func.isWrapper; first | (rw [if_pos (by decide +kernel)]; kernel_rfl) | (rw [if_neg (by decide +kernel)]; exact ⟨rfl, rfl⟩))
    (fun os started H enc _ => fnExactSameDots_lifted os started H enc)

end Go.Proofs.Ytapmakdflnldnaa

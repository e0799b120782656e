/-
  The law FnExactValidPrimaries returns true whatever the input, and its arguments read as they did; no conditions.
-/
import Derived.Test.YtapmakdflnldnaaBase
namespace Go.Proofs.Ytapmakdflnldnaa
open Go.Sim Go.ChangeShapes Go.WideShapes Go.ChangeAt Go.RowKit

theorem kd34 : aggKds Try.prog 34 = some [.flt .f32, .flt .f32, .flt .f32, .flt .f32, .flt .f32, .flt .f32, .flt .f32, .flt .f32, .flt .f32, .flt .f32, .flt .f32, .flt .f32, .flt .f32, .flt .f32, .flt .f32, .flt .f32, .flt .f32, .flt .f32, .flt .f32, .flt .f32, .flt .f32, .flt .f32, .flt .f32, .flt .f32] := by kernel_rfl

theorem open34 {W : World} {base : Nat} {v : Value} (h : Value.okWide Try.prog W .any base 34 v) : ∃ a0 a1 a2 a3 a4 a5 a6 a7 a8 a9 a10 a11 a12 a13 a14 a15 a16 a17 a18 a19 a20 a21 a22 a23, VR (fun _ => none) (.agg [.flt .f32 a0, .flt .f32 a1, .flt .f32 a2, .flt .f32 a3, .flt .f32 a4, .flt .f32 a5, .flt .f32 a6, .flt .f32 a7, .flt .f32 a8, .flt .f32 a9, .flt .f32 a10, .flt .f32 a11, .flt .f32 a12, .flt .f32 a13, .flt .f32 a14, .flt .f32 a15, .flt .f32 a16, .flt .f32 a17, .flt .f32 a18, .flt .f32 a19, .flt .f32 a20, .flt .f32 a21, .flt .f32 a22, .flt .f32 a23]) v ∧ a0 < 4294967296 ∧ a1 < 4294967296 ∧ a2 < 4294967296 ∧ a3 < 4294967296 ∧ a4 < 4294967296 ∧ a5 < 4294967296 ∧ a6 < 4294967296 ∧ a7 < 4294967296 ∧ a8 < 4294967296 ∧ a9 < 4294967296 ∧ a10 < 4294967296 ∧ a11 < 4294967296 ∧ a12 < 4294967296 ∧ a13 < 4294967296 ∧ a14 < 4294967296 ∧ a15 < 4294967296 ∧ a16 < 4294967296 ∧ a17 < 4294967296 ∧ a18 < 4294967296 ∧ a19 < 4294967296 ∧ a20 < 4294967296 ∧ a21 < 4294967296 ∧ a22 < 4294967296 ∧ a23 < 4294967296 := by
  obtain ⟨xs, h1, h2⟩ := open_aggr (β := fun _ => none) kd34 h
  match xs, h2 with
  | [x0, x1, x2, x3, x4, x5, x6, x7, x8, x9, x10, x11, x12, x13, x14, x15, x16, x17, x18, x19, x20, x21, x22, x23], h2 =>
    obtain ⟨⟨_, rfl, e0⟩, ⟨_, rfl, e1⟩, ⟨_, rfl, e2⟩, ⟨_, rfl, e3⟩, ⟨_, rfl, e4⟩, ⟨_, rfl, e5⟩, ⟨_, rfl, e6⟩, ⟨_, rfl, e7⟩, ⟨_, rfl, e8⟩, ⟨_, rfl, e9⟩, ⟨_, rfl, e10⟩, ⟨_, rfl, e11⟩, ⟨_, rfl, e12⟩, ⟨_, rfl, e13⟩, ⟨_, rfl, e14⟩, ⟨_, rfl, e15⟩, ⟨_, rfl, e16⟩, ⟨_, rfl, e17⟩, ⟨_, rfl, e18⟩, ⟨_, rfl, e19⟩, ⟨_, rfl, e20⟩, ⟨_, rfl, e21⟩, ⟨_, rfl, e22⟩, ⟨_, rfl, e23⟩, _⟩ := h2
    exact ⟨_, _, _, _, _, _, _, _, _, _, _, _, _, _, _, _, _, _, _, _, _, _, _, _, h1, ⟨canon_lt e0, canon_lt e1, canon_lt e2, canon_lt e3, canon_lt e4, canon_lt e5, canon_lt e6, canon_lt e7, canon_lt e8, canon_lt e9, canon_lt e10, canon_lt e11, canon_lt e12, canon_lt e13, canon_lt e14, canon_lt e15, canon_lt e16, canon_lt e17, canon_lt e18, canon_lt e19, canon_lt e20, canon_lt e21, canon_lt e22, canon_lt e23⟩⟩

noncomputable def G9 : Summ := inlGs Try.prog 1000 [50, 51] G8

theorem G9_ok : SoundG Try.prog G9 := by
  refine SoundG.inls mixed G8_ok fun f hf => ?_
  simp only [List.mem_cons, List.not_mem_nil, or_false] at hf
  rcases hf with rfl | rfl
  · exact Try.call50
  · exact Try.call51

noncomputable def validPrimaries (a0 a1 a2 a3 a4 a5 a6 a7 a8 a9 a10 a11 a12 a13 a14 a15 a16 a17 a18 a19 a20 a21 a22 a23 : Nat) : Bool := boolOf (leafAt 0 (funA Try.prog G9 1000 25 [.agg [.flt .f32 a0, .flt .f32 a1, .flt .f32 a2, .flt .f32 a3, .flt .f32 a4, .flt .f32 a5, .flt .f32 a6, .flt .f32 a7, .flt .f32 a8, .flt .f32 a9, .flt .f32 a10, .flt .f32 a11, .flt .f32 a12, .flt .f32 a13, .flt .f32 a14, .flt .f32 a15, .flt .f32 a16, .flt .f32 a17, .flt .f32 a18, .flt .f32 a19, .flt .f32 a20, .flt .f32 a21, .flt .f32 a22, .flt .f32 a23]] [] []))

theorem validPrimaries_ev25 (a0 a1 a2 a3 a4 a5 a6 a7 a8 a9 a10 a11 a12 a13 a14 a15 a16 a17 a18 a19 a20 a21 a22 a23 : Nat) : funA Try.prog G9 1000 25 [.agg [.flt .f32 a0, .flt .f32 a1, .flt .f32 a2, .flt .f32 a3, .flt .f32 a4, .flt .f32 a5, .flt .f32 a6, .flt .f32 a7, .flt .f32 a8, .flt .f32 a9, .flt .f32 a10, .flt .f32 a11, .flt .f32 a12, .flt .f32 a13, .flt .f32 a14, .flt .f32 a15, .flt .f32 a16, .flt .f32 a17, .flt .f32 a18, .flt .f32 a19, .flt .f32 a20, .flt .f32 a21, .flt .f32 a22, .flt .f32 a23]] [] [] = some (.sbool (validPrimaries a0 a1 a2 a3 a4 a5 a6 a7 a8 a9 a10 a11 a12 a13 a14 a15 a16 a17 a18 a19 a20 a21 a22 a23), []) := by kernel_rfl

theorem validPrimaries_ev27 (a0 a1 a2 a3 a4 a5 a6 a7 a8 a9 a10 a11 a12 a13 a14 a15 a16 a17 a18 a19 a20 a21 a22 a23 : Nat) : funA Try.prog G9 1000 27 [.agg [.flt .f32 a0, .flt .f32 a1, .flt .f32 a2, .flt .f32 a3, .flt .f32 a4, .flt .f32 a5, .flt .f32 a6, .flt .f32 a7, .flt .f32 a8, .flt .f32 a9, .flt .f32 a10, .flt .f32 a11, .flt .f32 a12, .flt .f32 a13, .flt .f32 a14, .flt .f32 a15, .flt .f32 a16, .flt .f32 a17, .flt .f32 a18, .flt .f32 a19, .flt .f32 a20, .flt .f32 a21, .flt .f32 a22, .flt .f32 a23]] [] [] = some (.sbool (validPrimaries a0 a1 a2 a3 a4 a5 a6 a7 a8 a9 a10 a11 a12 a13 a14 a15 a16 a17 a18 a19 a20 a21 a22 a23), []) := by kernel_rfl

noncomputable def validPrimaries_s : List AV → Option AV
  | [.agg [.flt .f32 a0, .flt .f32 a1, .flt .f32 a2, .flt .f32 a3, .flt .f32 a4, .flt .f32 a5, .flt .f32 a6, .flt .f32 a7, .flt .f32 a8, .flt .f32 a9, .flt .f32 a10, .flt .f32 a11, .flt .f32 a12, .flt .f32 a13, .flt .f32 a14, .flt .f32 a15, .flt .f32 a16, .flt .f32 a17, .flt .f32 a18, .flt .f32 a19, .flt .f32 a20, .flt .f32 a21, .flt .f32 a22, .flt .f32 a23]] => some (.sbool (validPrimaries a0 a1 a2 a3 a4 a5 a6 a7 a8 a9 a10 a11 a12 a13 a14 a15 a16 a17 a18 a19 a20 a21 a22 a23))
  | _ => none

noncomputable def G10 : Summ := addG 25 (fun xs _ => (validPrimaries_s xs).map fun v => { v := v }) G9

theorem G10_ok : SoundG Try.prog G10 := by
  refine SoundG.add0' G9_ok mixed Try.call25 fun xs v h => ?_
  unfold validPrimaries_s at h
  split at h
  · cases h
    exact ⟨rfl, rfl, G9, G9_ok, 1000, [], [], validPrimaries_ev25 .., fun _ hb => by cases hb⟩
  · cases h

noncomputable def G11 : Summ := addG 27 (fun xs _ => (validPrimaries_s xs).map fun v => { v := v }) G10

theorem G11_ok : SoundG Try.prog G11 := by
  refine SoundG.add0' G10_ok mixed Try.call27 fun xs v h => ?_
  unfold validPrimaries_s at h
  split at h
  · cases h
    exact ⟨rfl, rfl, G9, G9_ok, 1000, [], [], validPrimaries_ev27 .., fun _ hb => by cases hb⟩
  · cases h

noncomputable def G12 : Summ := inlGs Try.prog 1000 [16, 26] G11

theorem G12_ok : SoundG Try.prog G12 := by
  refine SoundG.inls mixed G11_ok fun f hf => ?_
  simp only [List.mem_cons, List.not_mem_nil, or_false] at hf
  rcases hf with rfl | rfl
  · exact Try.call16
  · exact Try.call26

noncomputable def fnExactValidPrimariesT (a0 a1 a2 a3 a4 a5 a6 a7 a8 a9 a10 a11 a12 a13 a14 a15 a16 a17 a18 a19 a20 a21 a22 a23 : Nat) : Bool := (!(!((validPrimaries a0 a1 a2 a3 a4 a5 a6 a7 a8 a9 a10 a11 a12 a13 a14 a15 a16 a17 a18 a19 a20 a21 a22 a23) == (validPrimaries a0 a1 a2 a3 a4 a5 a6 a7 a8 a9 a10 a11 a12 a13 a14 a15 a16 a17 a18 a19 a20 a21 a22 a23))))

theorem fnExactValidPrimaries_eval (a0 a1 a2 a3 a4 a5 a6 a7 a8 a9 a10 a11 a12 a13 a14 a15 a16 a17 a18 a19 a20 a21 a22 a23 : Nat) : funA Try.prog G12 1000 7 [.agg [.flt .f32 a0, .flt .f32 a1, .flt .f32 a2, .flt .f32 a3, .flt .f32 a4, .flt .f32 a5, .flt .f32 a6, .flt .f32 a7, .flt .f32 a8, .flt .f32 a9, .flt .f32 a10, .flt .f32 a11, .flt .f32 a12, .flt .f32 a13, .flt .f32 a14, .flt .f32 a15, .flt .f32 a16, .flt .f32 a17, .flt .f32 a18, .flt .f32 a19, .flt .f32 a20, .flt .f32 a21, .flt .f32 a22, .flt .f32 a23]] [] [] = some (.sbool (fnExactValidPrimariesT a0 a1 a2 a3 a4 a5 a6 a7 a8 a9 a10 a11 a12 a13 a14 a15 a16 a17 a18 a19 a20 a21 a22 a23), []) := by kernel_rfl

theorem fnExactValidPrimaries_true (a0 a1 a2 a3 a4 a5 a6 a7 a8 a9 a10 a11 a12 a13 a14 a15 a16 a17 a18 a19 a20 a21 a22 a23 : Nat) : fnExactValidPrimariesT a0 a1 a2 a3 a4 a5 a6 a7 a8 a9 a10 a11 a12 a13 a14 a15 a16 a17 a18 a19 a20 a21 a22 a23 = true := by
  unfold fnExactValidPrimariesT
  simp

set_option maxRecDepth 100000 in
theorem fnExactValidPrimaries_lifted (os : Os) (started : os.Started) (H : Type) (enc : TypeId × Value → H) :
    ReturnsInHanded {} Try.checked os 7 .any (Rows.fnExactValidPrimariesSpec.pre6 enc Try.prog Try.f7 Rows.fnExactValidPrimariesRow.domain false) (Rows.fnExactValidPrimariesSpec.post enc Try.prog Try.f7 false true false false) := by
  refine law_lift (C := Try.checked) (tb := 4) Try.own started (by kernel_rfl) Try.func7 Try.laidOut (by kernel_rfl) rfl rfl Try.underlying4 ?_
    (ChangeSpec.witness6 (enc := enc) (C := Try.checked) false ⟨#[], #[.agg #[.float .f32 0, .float .f32 0, .float .f32 0, .float .f32 0, .float .f32 0, .float .f32 0, .float .f32 0, .float .f32 0, .float .f32 0, .float .f32 0, .float .f32 0, .float .f32 0, .float .f32 0, .float .f32 0, .float .f32 0, .float .f32 0, .float .f32 0, .float .f32 0, .float .f32 0, .float .f32 0, .float .f32 0, .float .f32 0, .float .f32 0, .float .f32 0]], []⟩ 8 (by kernel_rfl) (by kernel_rfl) (by kernel_rfl) (by kernel_rfl)) ?_
  · intro ds hl
    rw [Try.params7] at hl
    match ds, hl with
    | [d0], _ => rfl
  · intro W base args ds before hval hA
    have hval : ∀ (j : Nat) t v, Try.f7.params[j]? = some t → args[j]? = some v → Value.okWide Try.prog W .any base t v := hval
    have hA : DataW.TrodAll enc Try.prog W 0 (fun _ => true) true Try.f7.params.toList args.toList ds before := hA
    rw [Try.params7] at hA hval
    obtain ⟨v0, d0, rfl, rfl, h0⟩ := trodAll_one hA
    obtain ⟨b0, b1, b2, b3, b4, b5, b6, b7, b8, b9, b10, b11, b12, b13, b14, b15, b16, b17, b18, b19, b20, b21, b22, b23, x0, f0⟩ := open34 (hval 0 34 v0 rfl rfl)
    exact law_call G12_ok mixed (fnExactValidPrimaries_eval b0 b1 b2 b3 b4 b5 b6 b7 b8 b9 b10 b11 b12 b13 b14 b15 b16 b17 b18 b19 b20 b21 b22 b23) (fnExactValidPrimaries_true b0 b1 b2 b3 b4 b5 b6 b7 b8 b9 b10 b11 b12 b13 b14 b15 b16 b17 b18 b19 b20 b21 b22 b23) (fun _ h => by simp at h) (.cons _ _ _ _ x0 .nil)

theorem fnExactValidPrimaries_holds : Rows.FnExactValidPrimariesSaid :=
  OpenClaim.holds_of_wide 7 Try.f7 rfl rfl rfl rfl rfl rfl rfl ⟨rfl, rfl, rfl, rfl, rfl⟩ rfl rfl rfl rfl rfl (by kernel_rfl) Try.func7 (by kernel_rfl)
    (of_decide_eq_true (by kernel_rfl)) (by unfold Func.isWrapper; first | (rw [if_pos (by decide +kernel)]; kernel_rfl) | (rw [if_neg (by decide +kernel)]; exact ⟨rfl, rfl⟩))
    (fun os started H enc _ => fnExactValidPrimaries_lifted os started H enc)

end Go.Proofs.Ytapmakdflnldnaa

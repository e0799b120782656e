/-
  The law FnExactValidSetting returns true whatever the input, and its arguments read as they did; no conditions.
-/
import Derived.Test.YtdagaggpaohmcaaBase
namespace Go.Proofs.Ytdagaggpaohmcaa
open Go.Sim Go.ChangeShapes Go.WideShapes Go.ChangeAt Go.RowKit

noncomputable def G5 : Summ := inlGs Try.prog 1000 [62, 49, 78, 51] G4

theorem G5_ok : SoundG Try.prog G5 := by
  refine SoundG.inls mixed G4_ok fun f hf => ?_
  simp only [List.mem_cons, List.not_mem_nil, or_false] at hf
  rcases hf with rfl | rfl | rfl | rfl
  · exact Try.call62
  · exact Try.call49
  · exact Try.call78
  · exact Try.call51

def kd1 : List Kd := [.flt .f32, .flt .f32, .flt .f32, .flt .f32, .flt .f32, .flt .f32, .flt .f32, .flt .f32, .flt .f32, .flt .f32, .flt .f32, .flt .f32, .flt .f32, .flt .f32, .flt .f32, .flt .f32, .flt .f32, .flt .f32, .int .i16]

noncomputable def validSettingR (xs : List AV) : Vars := outV (funA Try.prog G5 1000 15 xs [] [])

theorem validSetting_ev15 (x : Vars) : funA Try.prog G5 1000 15 (mkAs x 0 [.ag kd1]) [] [] = some (mkR (validSettingR (mkAs x 0 [.ag kd1])) [.sc (.bool)], []) := by kernel_rfl

theorem validSetting_ev17 (x : Vars) : funA Try.prog G5 1000 17 (mkAs x 0 [.ag kd1]) [] [] = some (mkR (validSettingR (mkAs x 0 [.ag kd1])) [.sc (.bool)], []) := by kernel_rfl

noncomputable def G6 : Summ := addG 15 (sumG [.ag kd1] [.sc (.bool)] validSettingR) G5

theorem G6_ok : SoundG Try.prog G6 := SoundG.sum G5_ok mixed Try.call15 G5_ok fun x => ⟨_, validSetting_ev15 x, fun _ h => by cases h⟩

noncomputable def G7 : Summ := addG 17 (sumG [.ag kd1] [.sc (.bool)] validSettingR) G6

theorem G7_ok : SoundG Try.prog G7 := SoundG.sum G6_ok mixed Try.call17 G5_ok fun x => ⟨_, validSetting_ev17 x, fun _ h => by cases h⟩

noncomputable def G8 : Summ := inlGs Try.prog 1000 [30, 16] G7

theorem G8_ok : SoundG Try.prog G8 := by
  refine SoundG.inls mixed G7_ok fun f hf => ?_
  simp only [List.mem_cons, List.not_mem_nil, or_false] at hf
  rcases hf with rfl | rfl
  · exact Try.call30
  · exact Try.call16

noncomputable def fnExactValidSettingT (x : Vars) : Bool := (!(!(((validSettingR [(.agg [(.flt .f32 (x.u 0)), (.flt .f32 (x.u 1)), (.flt .f32 (x.u 2)), (.flt .f32 (x.u 3)), (.flt .f32 (x.u 4)), (.flt .f32 (x.u 5)), (.flt .f32 (x.u 6)), (.flt .f32 (x.u 7)), (.flt .f32 (x.u 8)), (.flt .f32 (x.u 9)), (.flt .f32 (x.u 10)), (.flt .f32 (x.u 11)), (.flt .f32 (x.u 12)), (.flt .f32 (x.u 13)), (.flt .f32 (x.u 14)), (.flt .f32 (x.u 15)), (.flt .f32 (x.u 16)), (.flt .f32 (x.u 17)), (.sint .i16 (x.i 18))])]).b 0) == ((validSettingR [(.agg [(.flt .f32 (x.u 0)), (.flt .f32 (x.u 1)), (.flt .f32 (x.u 2)), (.flt .f32 (x.u 3)), (.flt .f32 (x.u 4)), (.flt .f32 (x.u 5)), (.flt .f32 (x.u 6)), (.flt .f32 (x.u 7)), (.flt .f32 (x.u 8)), (.flt .f32 (x.u 9)), (.flt .f32 (x.u 10)), (.flt .f32 (x.u 11)), (.flt .f32 (x.u 12)), (.flt .f32 (x.u 13)), (.flt .f32 (x.u 14)), (.flt .f32 (x.u 15)), (.flt .f32 (x.u 16)), (.flt .f32 (x.u 17)), (.sint .i16 (x.i 18))])]).b 0))))

theorem fnExactValidSetting_eval (x : Vars) : funA Try.prog G8 1000 3 (mkAs x 0 [.ag kd1]) [] [] = some (.sbool (fnExactValidSettingT x), []) := by kernel_rfl

theorem fnExactValidSetting_true (x : Vars) (_hx : AllSh [.ag kd1] (mkAs x 0 [.ag kd1])) : fnExactValidSettingT x = true := by
  unfold fnExactValidSettingT
  simp

set_option maxRecDepth 100000 in
theorem fnExactValidSetting_lifted (os : Os) (started : os.Started) (H : Type) (enc : TypeId × Value → H) :
    ReturnsInHanded {} Try.checked os 3 .any (Rows.fnExactValidSettingSpec.pre6 enc Try.prog Try.f3 Rows.fnExactValidSettingRow.domain false) (Rows.fnExactValidSettingSpec.post enc Try.prog Try.f3 false true false false) := by
  refine law_row (C := Try.checked) (tb := 4) (KS := [.ag kd1]) Try.own started (by kernel_rfl) Try.func3 Try.laidOut (by kernel_rfl) rfl rfl Try.underlying4 ?_
    (ChangeSpec.witness6 (enc := enc) (C := Try.checked) false ⟨#[], #[.agg #[.float .f32 0, .float .f32 0, .float .f32 0, .float .f32 0, .float .f32 0, .float .f32 0, .float .f32 0, .float .f32 0, .float .f32 0, .float .f32 0, .float .f32 0, .float .f32 0, .float .f32 0, .float .f32 0, .float .f32 0, .float .f32 0, .float .f32 0, .float .f32 0, .int .i16 0]], []⟩ 8 (by kernel_rfl) (by kernel_rfl) (by kernel_rfl) (by kernel_rfl)) mixed (by kernel_rfl) G8_ok
    fun x hx => ⟨_, _, fnExactValidSetting_eval x, fnExactValidSetting_true x hx, fun _ h => by cases h⟩
  intro ds hl
  rw [Try.params3] at hl
  match ds, hl with
  | [d0], _ => rfl

theorem fnExactValidSetting_holds : Rows.FnExactValidSettingSaid :=
  OpenClaim.holds_of_wide 3 Try.f3 rfl rfl rfl rfl rfl rfl rfl ⟨rfl, rfl, rfl, rfl, rfl⟩ rfl rfl rfl rfl rfl (by kernel_rfl) Try.func3 (by kernel_rfl)
    (of_decide_eq_true (by kernel_rfl)) (by unfold Func.isWrapper; first | (rw [if_pos (by decide +kernel)]; kernel_rfl) | (rw [if_neg (by decide +kernel)]; exact ⟨rfl, rfl⟩))
    (fun os started H enc _ => fnExactValidSetting_lifted os started H enc)

end Go.Proofs.Ytdagaggpaohmcaa

/-
  Facts of this seat that its laws use; no conditions.
-/
import Derived.Test.YtekilpllicggeaaBase
import Derived.Test.YtekilpllicggeaaSimZc
import Derived.Test.YtekilpllicggeaaSimRc
namespace Go.Proofs.Ytekilpllicggeaa
open Go.Sim Go.ChangeShapes Go.WideShapes Go.ChangeAt Go.RowKit

noncomputable def G2 : Summ := inlGs Try.prog 1000 [99] G1

theorem G2_ok : SoundG Try.prog G2 := by
  refine SoundG.inls mixed G1_ok fun f hf => ?_
  simp only [List.mem_cons, List.not_mem_nil, or_false] at hf
  subst hf
  exact Try.call99

noncomputable def wetR0 (xs : List AV) : Vars := outV (funA Try.prog G2 1000 64 xs [] [])

noncomputable def wetR : List AV → Vars := Classical.choose (⟨wetR0, rfl⟩ : ∃ f, f = wetR0)

theorem wetR_eq : wetR = wetR0 := Classical.choose_spec (⟨wetR0, rfl⟩ : ∃ f, f = wetR0)

theorem wet_ev64 (x : Vars) : funA Try.prog G2 1000 64 (mkAs x 0 [.sc (.flt .f32)]) [] [] = some (mkR (wetR0 (mkAs x 0 [.sc (.flt .f32)])) [.sc (.bool)], []) := by kernel_rfl

theorem wet_ev69 (x : Vars) : funA Try.prog G2 1000 69 (mkAs x 0 [.sc (.flt .f32)]) [] [] = some (mkR (wetR0 (mkAs x 0 [.sc (.flt .f32)])) [.sc (.bool)], []) := by kernel_rfl

noncomputable def G3 : Summ := addG 64 (sumG [.sc (.flt .f32)] [.sc (.bool)] wetR) G2

theorem G3_ok : SoundG Try.prog G3 := SoundG.sum G2_ok mixed Try.call64 G2_ok fun x => ⟨_, (by rw [wetR_eq]; exact wet_ev64 x), fun _ h => by cases h⟩

noncomputable def G4 : Summ := addG 69 (sumG [.sc (.flt .f32)] [.sc (.bool)] wetR) G3

theorem G4_ok : SoundG Try.prog G4 := SoundG.sum G3_ok mixed Try.call69 G2_ok fun x => ⟨_, (by rw [wetR_eq]; exact wet_ev69 x), fun _ h => by cases h⟩

noncomputable def G5 : Summ := inlGs Try.prog 1000 [99] G4

theorem G5_ok : SoundG Try.prog G5 := by
  refine SoundG.inls mixed G4_ok fun f hf => ?_
  simp only [List.mem_cons, List.not_mem_nil, or_false] at hf
  subst hf
  exact Try.call99

noncomputable def rateR0 (xs : List AV) : Vars := outV (funA Try.prog G5 1000 91 xs [] [])

noncomputable def rateR : List AV → Vars := Classical.choose (⟨rateR0, rfl⟩ : ∃ f, f = rateR0)

theorem rateR_eq : rateR = rateR0 := Classical.choose_spec (⟨rateR0, rfl⟩ : ∃ f, f = rateR0)

theorem rate_ev91 (x : Vars) : funA Try.prog G5 1000 91 (mkAs x 0 [.sc (.flt .f32)]) [] [] = some (mkR (rateR0 (mkAs x 0 [.sc (.flt .f32)])) [.sc (.bool)], []) := by kernel_rfl

theorem rate_ev95 (x : Vars) : funA Try.prog G5 1000 95 (mkAs x 0 [.sc (.flt .f32)]) [] [] = some (mkR (rateR0 (mkAs x 0 [.sc (.flt .f32)])) [.sc (.bool)], []) := by kernel_rfl

noncomputable def G6 : Summ := addG 91 (sumG [.sc (.flt .f32)] [.sc (.bool)] rateR) G5

theorem G6_ok : SoundG Try.prog G6 := SoundG.sum G5_ok mixed Try.call91 G5_ok fun x => ⟨_, (by rw [rateR_eq]; exact rate_ev91 x), fun _ h => by cases h⟩

noncomputable def G7 : Summ := addG 95 (sumG [.sc (.flt .f32)] [.sc (.bool)] rateR) G6

theorem G7_ok : SoundG Try.prog G7 := SoundG.sum G6_ok mixed Try.call95 G5_ok fun x => ⟨_, (by rw [rateR_eq]; exact rate_ev95 x), fun _ h => by cases h⟩

noncomputable def G8 : Summ := inlGs Try.prog 1000 [99] G7

theorem G8_ok : SoundG Try.prog G8 := by
  refine SoundG.inls mixed G7_ok fun f hf => ?_
  simp only [List.mem_cons, List.not_mem_nil, or_false] at hf
  subst hf
  exact Try.call99

noncomputable def fastR0 (xs : List AV) : Vars := outV (funA Try.prog G8 1000 65 xs [] [])

noncomputable def fastR : List AV → Vars := Classical.choose (⟨fastR0, rfl⟩ : ∃ f, f = fastR0)

theorem fastR_eq : fastR = fastR0 := Classical.choose_spec (⟨fastR0, rfl⟩ : ∃ f, f = fastR0)

theorem fast_ev65 (x : Vars) : funA Try.prog G8 1000 65 (mkAs x 0 [.sc (.flt .f32)]) [] [] = some (mkR (fastR0 (mkAs x 0 [.sc (.flt .f32)])) [.sc (.bool)], []) := by kernel_rfl

theorem fast_ev70 (x : Vars) : funA Try.prog G8 1000 70 (mkAs x 0 [.sc (.flt .f32)]) [] [] = some (mkR (fastR0 (mkAs x 0 [.sc (.flt .f32)])) [.sc (.bool)], []) := by kernel_rfl

noncomputable def G9 : Summ := addG 65 (sumG [.sc (.flt .f32)] [.sc (.bool)] fastR) G8

theorem G9_ok : SoundG Try.prog G9 := SoundG.sum G8_ok mixed Try.call65 G8_ok fun x => ⟨_, (by rw [fastR_eq]; exact fast_ev65 x), fun _ h => by cases h⟩

noncomputable def G10 : Summ := addG 70 (sumG [.sc (.flt .f32)] [.sc (.bool)] fastR) G9

theorem G10_ok : SoundG Try.prog G10 := SoundG.sum G9_ok mixed Try.call70 G8_ok fun x => ⟨_, (by rw [fastR_eq]; exact fast_ev70 x), fun _ h => by cases h⟩

noncomputable def G11 : Summ := inlGs Try.prog 1000 [87] G10

theorem G11_ok : SoundG Try.prog G11 := by
  refine SoundG.inls mixed G10_ok fun f hf => ?_
  simp only [List.mem_cons, List.not_mem_nil, or_false] at hf
  subst hf
  exact Try.call87

noncomputable def dryR0 (xs : List AV) : Vars := outV (funA Try.prog G11 1000 97 xs [] [])

noncomputable def dryR : List AV → Vars := Classical.choose (⟨dryR0, rfl⟩ : ∃ f, f = dryR0)

theorem dryR_eq : dryR = dryR0 := Classical.choose_spec (⟨dryR0, rfl⟩ : ∃ f, f = dryR0)

theorem dry_ev97 (x : Vars) : funA Try.prog G11 1000 97 (mkAs x 0 [.sc (.flt .f32), .sc (.flt .f32), .sc (.flt .f32)]) [] [] = some (mkR (dryR0 (mkAs x 0 [.sc (.flt .f32), .sc (.flt .f32), .sc (.flt .f32)])) [.sc (.flt .f32)], []) := by kernel_rfl

theorem dry_ev100 (x : Vars) : funA Try.prog G11 1000 100 (mkAs x 0 [.sc (.flt .f32), .sc (.flt .f32), .sc (.flt .f32)]) [] [] = some (mkR (dryR0 (mkAs x 0 [.sc (.flt .f32), .sc (.flt .f32), .sc (.flt .f32)])) [.sc (.flt .f32)], []) := by kernel_rfl

noncomputable def G12 : Summ := addG 97 (sumG [.sc (.flt .f32), .sc (.flt .f32), .sc (.flt .f32)] [.sc (.flt .f32)] dryR) G11

theorem G12_ok : SoundG Try.prog G12 := SoundG.sum G11_ok mixed Try.call97 G11_ok fun x => ⟨_, (by rw [dryR_eq]; exact dry_ev97 x), fun _ h => by cases h⟩

noncomputable def G13 : Summ := addG 100 (sumG [.sc (.flt .f32), .sc (.flt .f32), .sc (.flt .f32)] [.sc (.flt .f32)] dryR) G12

theorem G13_ok : SoundG Try.prog G13 := SoundG.sum G12_ok mixed Try.call100 G11_ok fun x => ⟨_, (by rw [dryR_eq]; exact dry_ev100 x), fun _ h => by cases h⟩

def kd1 : List Kd := [.flt .f32, .flt .f32]

noncomputable def ovenR0 (xs : List AV) : Vars := outV (funA Try.prog G13 1000 96 xs [] [])

noncomputable def ovenR : List AV → Vars := Classical.choose (⟨ovenR0, rfl⟩ : ∃ f, f = ovenR0)

theorem ovenR_eq : ovenR = ovenR0 := Classical.choose_spec (⟨ovenR0, rfl⟩ : ∃ f, f = ovenR0)

theorem oven_ev96 (x : Vars) : funA Try.prog G13 1000 96 (mkAs x 0 [.ag kd1]) [] [] = some (mkR (ovenR0 (mkAs x 0 [.ag kd1])) [.sc (.bool)], []) := by kernel_rfl

theorem oven_ev98 (x : Vars) : funA Try.prog G13 1000 98 (mkAs x 0 [.ag kd1]) [] [] = some (mkR (ovenR0 (mkAs x 0 [.ag kd1])) [.sc (.bool)], []) := by kernel_rfl

noncomputable def G14 : Summ := addG 96 (sumG [.ag kd1] [.sc (.bool)] ovenR) G13

theorem G14_ok : SoundG Try.prog G14 := SoundG.sum G13_ok mixed Try.call96 G13_ok fun x => ⟨_, (by rw [ovenR_eq]; exact oven_ev96 x), fun _ h => by cases h⟩

noncomputable def G15 : Summ := addG 98 (sumG [.ag kd1] [.sc (.bool)] ovenR) G14

theorem G15_ok : SoundG Try.prog G15 := SoundG.sum G14_ok mixed Try.call98 G13_ok fun x => ⟨_, (by rw [ovenR_eq]; exact oven_ev98 x), fun _ h => by cases h⟩

end Go.Proofs.Ytekilpllicggeaa

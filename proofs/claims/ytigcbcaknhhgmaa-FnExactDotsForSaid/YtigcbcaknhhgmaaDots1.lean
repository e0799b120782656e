/-
  Facts of this seat that its laws use; no conditions.
-/
import Derived.Test.YtigcbcaknhhgmaaShapes
import Derived.Test.YtigcbcaknhhgmaaSimZ
namespace Go.Proofs.Ytigcbcaknhhgmaa
open Go.Sim Go.ChangeShapes Go.WideShapes Go.ChangeAt Go.RowKit

noncomputable def clampR0 (xs : List AV) : Vars := outV (funA Try.prog G19 1000 62 xs [] [])

noncomputable def clampR : List AV → Vars := Classical.choose (⟨clampR0, rfl⟩ : ∃ f, f = clampR0)

theorem clampR_eq : clampR = clampR0 := Classical.choose_spec (⟨clampR0, rfl⟩ : ∃ f, f = clampR0)

theorem clamp_ev62 (x : Vars) : funA Try.prog G19 1000 62 (mkAs x 0 [.sc (.flt .f32), .sc (.flt .f32)]) [] [] = some (mkR (clampR0 (mkAs x 0 [.sc (.flt .f32), .sc (.flt .f32)])) [.sc (.flt .f32)], []) := by kernel_rfl

noncomputable def G20 : Summ := addG 62 (sumG [.sc (.flt .f32), .sc (.flt .f32)] [.sc (.flt .f32)] clampR) G19

theorem G20_ok : SoundG Try.prog G20 := SoundG.sum G19_ok mixed Try.call62 G19_ok fun x => ⟨_, (by rw [clampR_eq]; exact clamp_ev62 x), fun _ h => by cases h⟩

noncomputable def clipR0 (xs : List AV) : Vars := outV (funA Try.prog G20 1000 59 xs [] [])

noncomputable def clipR : List AV → Vars := Classical.choose (⟨clipR0, rfl⟩ : ∃ f, f = clipR0)

theorem clipR_eq : clipR = clipR0 := Classical.choose_spec (⟨clipR0, rfl⟩ : ∃ f, f = clipR0)

theorem clip_ev59 (x : Vars) : funA Try.prog G20 1000 59 (mkAs x 0 [.sc (.flt .f32)]) [] [] = some (mkR (clipR0 (mkAs x 0 [.sc (.flt .f32)])) [.sc (.flt .f32)], []) := by kernel_rfl

noncomputable def G21 : Summ := addG 59 (sumG [.sc (.flt .f32)] [.sc (.flt .f32)] clipR) G20

theorem G21_ok : SoundG Try.prog G21 := SoundG.sum G20_ok mixed Try.call59 G20_ok fun x => ⟨_, (by rw [clipR_eq]; exact clip_ev59 x), fun _ h => by cases h⟩

theorem clamp_clip (a : Nat) : (clampR [.flt .f32 a, .flt .f32 1065353216]).u 0 = (clipR [.flt .f32 a]).u 0 := by
  rw [clampR_eq, clipR_eq]
  kernel_rfl

noncomputable def ds0L : LP := { A := 0, ts := [9, 10, 11, 12, 13, 15, 2, 3, 4, 8, 14], F := ⟨[.sc (.flt .f32), .sc (.flt .f32), .sc (.int .i64), .sc .bool, .cst (.int .i64 0), .cst (.int .i64 0), .ptr 0 0, .ptr 1 0, .ptr 2 0, .ptr 3 0, .ptr 4 0], [.lit [.sc (.flt .f32), .sc (.flt .f32), .sc (.flt .f32), .sc (.flt .f32), .sc (.flt .f32), .sc (.flt .f32), .sc (.flt .f32), .sc (.flt .f32), .sc (.flt .f32), .sc (.flt .f32), .sc (.flt .f32), .sc (.flt .f32), .sc (.flt .f32), .sc (.flt .f32), .sc (.flt .f32), .sc (.flt .f32), .sc (.flt .f32), .sc (.flt .f32), .sc (.flt .f32), .sc (.flt .f32), .sc (.flt .f32), .sc (.flt .f32), .sc (.flt .f32), .sc (.flt .f32)] false, .lit [.sc (.flt .f32), .sc (.flt .f32), .sc (.flt .f32)] false, .lit [.sc (.flt .f32), .sc (.flt .f32), .sc (.flt .f32)] true, .lit [.sc (.flt .f32), .sc (.flt .f32), .sc (.flt .f32)] true, .lit [.sc (.flt .f32), .sc (.flt .f32)] false]⟩, xs := [(.exit 4, [9, 10, 11, 12, 13, 2, 3, 4, 8], ⟨[.sc (.flt .f32), .sc (.flt .f32), .sc (.int .i64), .sc .bool, .cst (.int .i64 0), .ptr 0 0, .ptr 1 0, .ptr 2 0, .ptr 3 0], [.lit [.sc (.flt .f32), .sc (.flt .f32), .sc (.flt .f32), .sc (.flt .f32), .sc (.flt .f32), .sc (.flt .f32), .sc (.flt .f32), .sc (.flt .f32), .sc (.flt .f32), .sc (.flt .f32), .sc (.flt .f32), .sc (.flt .f32), .sc (.flt .f32), .sc (.flt .f32), .sc (.flt .f32), .sc (.flt .f32), .sc (.flt .f32), .sc (.flt .f32), .sc (.flt .f32), .sc (.flt .f32), .sc (.flt .f32), .sc (.flt .f32), .sc (.flt .f32), .sc (.flt .f32)] false, .lit [.sc (.flt .f32), .sc (.flt .f32), .sc (.flt .f32)] false, .lit [.sc (.flt .f32), .sc (.flt .f32), .sc (.flt .f32)] true, .lit [.sc (.flt .f32), .sc (.flt .f32), .sc (.flt .f32)] true]⟩)] }

noncomputable def di0L : LP := { A := 0, ts := [11, 9, 10, 12, 13, 42, 58, 59, 2, 3, 4, 8, 57], F := ⟨[.sc (.flt .f32), .sc (.flt .f32), .sc (.int .i64), .sc .bool, .cst (.int .i64 0), .cst (.int .i64 0), .cst (.int .i64 2), .cst (.int .i64 0), .ptr 0 0, .ptr 1 0, .ptr 2 0, .ptr 3 0, .slc 4 0 2 1], [.lit [.sc (.flt .f32), .sc (.flt .f32), .sc (.flt .f32), .sc (.flt .f32), .sc (.flt .f32), .sc (.flt .f32), .sc (.flt .f32), .sc (.flt .f32), .sc (.flt .f32), .sc (.flt .f32), .sc (.flt .f32), .sc (.flt .f32), .sc (.flt .f32), .sc (.flt .f32), .sc (.flt .f32), .sc (.flt .f32), .sc (.flt .f32), .sc (.flt .f32), .sc (.flt .f32), .sc (.flt .f32), .sc (.flt .f32), .sc (.flt .f32), .sc (.flt .f32), .sc (.flt .f32)] false, .lit [.sc (.flt .f32), .sc (.flt .f32), .sc (.flt .f32)] false, .lit [.sc (.flt .f32), .sc (.flt .f32), .sc (.flt .f32)] true, .lit [.sc (.flt .f32), .sc (.flt .f32), .sc (.flt .f32)] true, .lit [.sc (.flt .f32), .sc (.flt .f32)] false]⟩, xs := [(.exit 4, [11, 9, 10, 12, 42, 2, 3, 4, 8], ⟨[.sc (.flt .f32), .sc (.flt .f32), .sc (.int .i64), .sc .bool, .cst (.int .i64 0), .ptr 0 0, .ptr 1 0, .ptr 2 0, .ptr 3 0], [.lit [.sc (.flt .f32), .sc (.flt .f32), .sc (.flt .f32), .sc (.flt .f32), .sc (.flt .f32), .sc (.flt .f32), .sc (.flt .f32), .sc (.flt .f32), .sc (.flt .f32), .sc (.flt .f32), .sc (.flt .f32), .sc (.flt .f32), .sc (.flt .f32), .sc (.flt .f32), .sc (.flt .f32), .sc (.flt .f32), .sc (.flt .f32), .sc (.flt .f32), .sc (.flt .f32), .sc (.flt .f32), .sc (.flt .f32), .sc (.flt .f32), .sc (.flt .f32), .sc (.flt .f32)] false, .lit [.sc (.flt .f32), .sc (.flt .f32), .sc (.flt .f32)] false, .lit [.sc (.flt .f32), .sc (.flt .f32), .sc (.flt .f32)] true, .lit [.sc (.flt .f32), .sc (.flt .f32), .sc (.flt .f32)] true]⟩)] }

noncomputable def ds1L : LP := { A := 0, ts := [9, 10, 11, 12, 13, 15, 2, 3, 4, 8, 14], F := ⟨[.sc (.flt .f32), .sc (.flt .f32), .sc (.int .i64), .sc .bool, .cst (.int .i64 1), .cst (.int .i64 0), .ptr 0 0, .ptr 1 0, .ptr 2 0, .ptr 3 0, .ptr 4 0], [.lit [.sc (.flt .f32), .sc (.flt .f32), .sc (.flt .f32), .sc (.flt .f32), .sc (.flt .f32), .sc (.flt .f32), .sc (.flt .f32), .sc (.flt .f32), .sc (.flt .f32), .sc (.flt .f32), .sc (.flt .f32), .sc (.flt .f32), .sc (.flt .f32), .sc (.flt .f32), .sc (.flt .f32), .sc (.flt .f32), .sc (.flt .f32), .sc (.flt .f32), .sc (.flt .f32), .sc (.flt .f32), .sc (.flt .f32), .sc (.flt .f32), .sc (.flt .f32), .sc (.flt .f32)] false, .lit [.sc (.flt .f32), .sc (.flt .f32), .sc (.flt .f32)] false, .lit [.sc (.flt .f32), .sc (.flt .f32), .sc (.flt .f32)] true, .lit [.sc (.flt .f32), .sc (.flt .f32), .sc (.flt .f32)] true, .lit [.sc (.flt .f32), .sc (.flt .f32)] false]⟩, xs := [(.exit 4, [9, 10, 11, 12, 13, 2, 3, 4, 8], ⟨[.sc (.flt .f32), .sc (.flt .f32), .sc (.int .i64), .sc .bool, .cst (.int .i64 1), .ptr 0 0, .ptr 1 0, .ptr 2 0, .ptr 3 0], [.lit [.sc (.flt .f32), .sc (.flt .f32), .sc (.flt .f32), .sc (.flt .f32), .sc (.flt .f32), .sc (.flt .f32), .sc (.flt .f32), .sc (.flt .f32), .sc (.flt .f32), .sc (.flt .f32), .sc (.flt .f32), .sc (.flt .f32), .sc (.flt .f32), .sc (.flt .f32), .sc (.flt .f32), .sc (.flt .f32), .sc (.flt .f32), .sc (.flt .f32), .sc (.flt .f32), .sc (.flt .f32), .sc (.flt .f32), .sc (.flt .f32), .sc (.flt .f32), .sc (.flt .f32)] false, .lit [.sc (.flt .f32), .sc (.flt .f32), .sc (.flt .f32)] false, .lit [.sc (.flt .f32), .sc (.flt .f32), .sc (.flt .f32)] true, .lit [.sc (.flt .f32), .sc (.flt .f32), .sc (.flt .f32)] true]⟩)] }

noncomputable def di1L : LP := { A := 0, ts := [11, 9, 10, 12, 13, 42, 58, 59, 2, 3, 4, 8, 57], F := ⟨[.sc (.flt .f32), .sc (.flt .f32), .sc (.int .i64), .sc .bool, .cst (.int .i64 1), .cst (.int .i64 1), .cst (.int .i64 2), .cst (.int .i64 0), .ptr 0 0, .ptr 1 0, .ptr 2 0, .ptr 3 0, .slc 4 0 2 1], [.lit [.sc (.flt .f32), .sc (.flt .f32), .sc (.flt .f32), .sc (.flt .f32), .sc (.flt .f32), .sc (.flt .f32), .sc (.flt .f32), .sc (.flt .f32), .sc (.flt .f32), .sc (.flt .f32), .sc (.flt .f32), .sc (.flt .f32), .sc (.flt .f32), .sc (.flt .f32), .sc (.flt .f32), .sc (.flt .f32), .sc (.flt .f32), .sc (.flt .f32), .sc (.flt .f32), .sc (.flt .f32), .sc (.flt .f32), .sc (.flt .f32), .sc (.flt .f32), .sc (.flt .f32)] false, .lit [.sc (.flt .f32), .sc (.flt .f32), .sc (.flt .f32)] false, .lit [.sc (.flt .f32), .sc (.flt .f32), .sc (.flt .f32)] true, .lit [.sc (.flt .f32), .sc (.flt .f32), .sc (.flt .f32)] true, .lit [.sc (.flt .f32), .sc (.flt .f32)] false]⟩, xs := [(.exit 4, [11, 9, 10, 12, 42, 2, 3, 4, 8], ⟨[.sc (.flt .f32), .sc (.flt .f32), .sc (.int .i64), .sc .bool, .cst (.int .i64 1), .ptr 0 0, .ptr 1 0, .ptr 2 0, .ptr 3 0], [.lit [.sc (.flt .f32), .sc (.flt .f32), .sc (.flt .f32), .sc (.flt .f32), .sc (.flt .f32), .sc (.flt .f32), .sc (.flt .f32), .sc (.flt .f32), .sc (.flt .f32), .sc (.flt .f32), .sc (.flt .f32), .sc (.flt .f32), .sc (.flt .f32), .sc (.flt .f32), .sc (.flt .f32), .sc (.flt .f32), .sc (.flt .f32), .sc (.flt .f32), .sc (.flt .f32), .sc (.flt .f32), .sc (.flt .f32), .sc (.flt .f32), .sc (.flt .f32), .sc (.flt .f32)] false, .lit [.sc (.flt .f32), .sc (.flt .f32), .sc (.flt .f32)] false, .lit [.sc (.flt .f32), .sc (.flt .f32), .sc (.flt .f32)] true, .lit [.sc (.flt .f32), .sc (.flt .f32), .sc (.flt .f32)] true]⟩)] }

noncomputable def ds2L : LP := { A := 0, ts := [9, 10, 11, 12, 13, 15, 2, 3, 4, 8, 14], F := ⟨[.sc (.flt .f32), .sc (.flt .f32), .sc (.int .i64), .sc .bool, .cst (.int .i64 2), .cst (.int .i64 0), .ptr 0 0, .ptr 1 0, .ptr 2 0, .ptr 3 0, .ptr 4 0], [.lit [.sc (.flt .f32), .sc (.flt .f32), .sc (.flt .f32), .sc (.flt .f32), .sc (.flt .f32), .sc (.flt .f32), .sc (.flt .f32), .sc (.flt .f32), .sc (.flt .f32), .sc (.flt .f32), .sc (.flt .f32), .sc (.flt .f32), .sc (.flt .f32), .sc (.flt .f32), .sc (.flt .f32), .sc (.flt .f32), .sc (.flt .f32), .sc (.flt .f32), .sc (.flt .f32), .sc (.flt .f32), .sc (.flt .f32), .sc (.flt .f32), .sc (.flt .f32), .sc (.flt .f32)] false, .lit [.sc (.flt .f32), .sc (.flt .f32), .sc (.flt .f32)] false, .lit [.sc (.flt .f32), .sc (.flt .f32), .sc (.flt .f32)] true, .lit [.sc (.flt .f32), .sc (.flt .f32), .sc (.flt .f32)] true, .lit [.sc (.flt .f32), .sc (.flt .f32)] false]⟩, xs := [(.exit 4, [9, 10, 11, 12, 13, 2, 3, 4, 8], ⟨[.sc (.flt .f32), .sc (.flt .f32), .sc (.int .i64), .sc .bool, .cst (.int .i64 2), .ptr 0 0, .ptr 1 0, .ptr 2 0, .ptr 3 0], [.lit [.sc (.flt .f32), .sc (.flt .f32), .sc (.flt .f32), .sc (.flt .f32), .sc (.flt .f32), .sc (.flt .f32), .sc (.flt .f32), .sc (.flt .f32), .sc (.flt .f32), .sc (.flt .f32), .sc (.flt .f32), .sc (.flt .f32), .sc (.flt .f32), .sc (.flt .f32), .sc (.flt .f32), .sc (.flt .f32), .sc (.flt .f32), .sc (.flt .f32), .sc (.flt .f32), .sc (.flt .f32), .sc (.flt .f32), .sc (.flt .f32), .sc (.flt .f32), .sc (.flt .f32)] false, .lit [.sc (.flt .f32), .sc (.flt .f32), .sc (.flt .f32)] false, .lit [.sc (.flt .f32), .sc (.flt .f32), .sc (.flt .f32)] true, .lit [.sc (.flt .f32), .sc (.flt .f32), .sc (.flt .f32)] true]⟩)] }

noncomputable def di2L : LP := { A := 0, ts := [11, 9, 10, 12, 13, 42, 58, 59, 2, 3, 4, 8, 57], F := ⟨[.sc (.flt .f32), .sc (.flt .f32), .sc (.int .i64), .sc .bool, .cst (.int .i64 2), .cst (.int .i64 2), .cst (.int .i64 2), .cst (.int .i64 0), .ptr 0 0, .ptr 1 0, .ptr 2 0, .ptr 3 0, .slc 4 0 2 1], [.lit [.sc (.flt .f32), .sc (.flt .f32), .sc (.flt .f32), .sc (.flt .f32), .sc (.flt .f32), .sc (.flt .f32), .sc (.flt .f32), .sc (.flt .f32), .sc (.flt .f32), .sc (.flt .f32), .sc (.flt .f32), .sc (.flt .f32), .sc (.flt .f32), .sc (.flt .f32), .sc (.flt .f32), .sc (.flt .f32), .sc (.flt .f32), .sc (.flt .f32), .sc (.flt .f32), .sc (.flt .f32), .sc (.flt .f32), .sc (.flt .f32), .sc (.flt .f32), .sc (.flt .f32)] false, .lit [.sc (.flt .f32), .sc (.flt .f32), .sc (.flt .f32)] false, .lit [.sc (.flt .f32), .sc (.flt .f32), .sc (.flt .f32)] true, .lit [.sc (.flt .f32), .sc (.flt .f32), .sc (.flt .f32)] true, .lit [.sc (.flt .f32), .sc (.flt .f32)] false]⟩, xs := [(.exit 4, [11, 9, 10, 12, 42, 2, 3, 4, 8], ⟨[.sc (.flt .f32), .sc (.flt .f32), .sc (.int .i64), .sc .bool, .cst (.int .i64 2), .ptr 0 0, .ptr 1 0, .ptr 2 0, .ptr 3 0], [.lit [.sc (.flt .f32), .sc (.flt .f32), .sc (.flt .f32), .sc (.flt .f32), .sc (.flt .f32), .sc (.flt .f32), .sc (.flt .f32), .sc (.flt .f32), .sc (.flt .f32), .sc (.flt .f32), .sc (.flt .f32), .sc (.flt .f32), .sc (.flt .f32), .sc (.flt .f32), .sc (.flt .f32), .sc (.flt .f32), .sc (.flt .f32), .sc (.flt .f32), .sc (.flt .f32), .sc (.flt .f32), .sc (.flt .f32), .sc (.flt .f32), .sc (.flt .f32), .sc (.flt .f32)] false, .lit [.sc (.flt .f32), .sc (.flt .f32), .sc (.flt .f32)] false, .lit [.sc (.flt .f32), .sc (.flt .f32), .sc (.flt .f32)] true, .lit [.sc (.flt .f32), .sc (.flt .f32), .sc (.flt .f32)] true]⟩)] }

noncomputable def dsL : LP := { A := 0, ts := [9, 10, 11, 2, 3, 4, 8], F := ⟨[.sc (.flt .f32), .sc (.flt .f32), .sc (.int .i64), .ptr 0 0, .ptr 1 0, .ptr 2 0, .ptr 3 0], [.lit [.sc (.flt .f32), .sc (.flt .f32), .sc (.flt .f32), .sc (.flt .f32), .sc (.flt .f32), .sc (.flt .f32), .sc (.flt .f32), .sc (.flt .f32), .sc (.flt .f32), .sc (.flt .f32), .sc (.flt .f32), .sc (.flt .f32), .sc (.flt .f32), .sc (.flt .f32), .sc (.flt .f32), .sc (.flt .f32), .sc (.flt .f32), .sc (.flt .f32), .sc (.flt .f32), .sc (.flt .f32), .sc (.flt .f32), .sc (.flt .f32), .sc (.flt .f32), .sc (.flt .f32)] false, .lit [.sc (.flt .f32), .sc (.flt .f32), .sc (.flt .f32)] false, .lit [.sc (.flt .f32), .sc (.flt .f32), .sc (.flt .f32)] true, .lit [.sc (.flt .f32), .sc (.flt .f32), .sc (.flt .f32)] true]⟩, xs := [(.exit 0, [9, 10, 11, 2, 3, 4, 8], ⟨[.sc (.flt .f32), .sc (.flt .f32), .sc (.int .i64), .ptr 0 0, .ptr 1 0, .ptr 2 0, .ptr 3 0], [.lit [.sc (.flt .f32), .sc (.flt .f32), .sc (.flt .f32), .sc (.flt .f32), .sc (.flt .f32), .sc (.flt .f32), .sc (.flt .f32), .sc (.flt .f32), .sc (.flt .f32), .sc (.flt .f32), .sc (.flt .f32), .sc (.flt .f32), .sc (.flt .f32), .sc (.flt .f32), .sc (.flt .f32), .sc (.flt .f32), .sc (.flt .f32), .sc (.flt .f32), .sc (.flt .f32), .sc (.flt .f32), .sc (.flt .f32), .sc (.flt .f32), .sc (.flt .f32), .sc (.flt .f32)] false, .lit [.sc (.flt .f32), .sc (.flt .f32), .sc (.flt .f32)] false, .lit [.sc (.flt .f32), .sc (.flt .f32), .sc (.flt .f32)] true, .lit [.sc (.flt .f32), .sc (.flt .f32), .sc (.flt .f32)] true]⟩)] }

noncomputable def diL : LP := { A := 0, ts := [11, 9, 10, 2, 3, 4, 8], F := ⟨[.sc (.flt .f32), .sc (.flt .f32), .sc (.int .i64), .ptr 0 0, .ptr 1 0, .ptr 2 0, .ptr 3 0], [.lit [.sc (.flt .f32), .sc (.flt .f32), .sc (.flt .f32), .sc (.flt .f32), .sc (.flt .f32), .sc (.flt .f32), .sc (.flt .f32), .sc (.flt .f32), .sc (.flt .f32), .sc (.flt .f32), .sc (.flt .f32), .sc (.flt .f32), .sc (.flt .f32), .sc (.flt .f32), .sc (.flt .f32), .sc (.flt .f32), .sc (.flt .f32), .sc (.flt .f32), .sc (.flt .f32), .sc (.flt .f32), .sc (.flt .f32), .sc (.flt .f32), .sc (.flt .f32), .sc (.flt .f32)] false, .lit [.sc (.flt .f32), .sc (.flt .f32), .sc (.flt .f32)] false, .lit [.sc (.flt .f32), .sc (.flt .f32), .sc (.flt .f32)] true, .lit [.sc (.flt .f32), .sc (.flt .f32), .sc (.flt .f32)] true]⟩, xs := [(.exit 0, [11, 9, 10, 2, 3, 4, 8], ⟨[.sc (.flt .f32), .sc (.flt .f32), .sc (.int .i64), .ptr 0 0, .ptr 1 0, .ptr 2 0, .ptr 3 0], [.lit [.sc (.flt .f32), .sc (.flt .f32), .sc (.flt .f32), .sc (.flt .f32), .sc (.flt .f32), .sc (.flt .f32), .sc (.flt .f32), .sc (.flt .f32), .sc (.flt .f32), .sc (.flt .f32), .sc (.flt .f32), .sc (.flt .f32), .sc (.flt .f32), .sc (.flt .f32), .sc (.flt .f32), .sc (.flt .f32), .sc (.flt .f32), .sc (.flt .f32), .sc (.flt .f32), .sc (.flt .f32), .sc (.flt .f32), .sc (.flt .f32), .sc (.flt .f32), .sc (.flt .f32)] false, .lit [.sc (.flt .f32), .sc (.flt .f32), .sc (.flt .f32)] false, .lit [.sc (.flt .f32), .sc (.flt .f32), .sc (.flt .f32)] true, .lit [.sc (.flt .f32), .sc (.flt .f32), .sc (.flt .f32)] true]⟩)] }

noncomputable def ds0_v_0 (s : SV) : Vars := (clipR [(.flt .f32 (farith .add .f32 (s.x.u 34) (s.x.u 37)))])

noncomputable def ds0_v_1 (s : SV) : Vars := (colourR [(.flt .f32 (s.x.u 4)), (.flt .f32 (s.x.u 5)), (.flt .f32 (s.x.u 6)), (.flt .f32 (s.x.u 7)), (.flt .f32 (s.x.u 8)), (.flt .f32 (s.x.u 9)), (.flt .f32 (s.x.u 10)), (.flt .f32 (s.x.u 11)), (.flt .f32 (s.x.u 12)), (.flt .f32 (s.x.u 13)), (.flt .f32 (s.x.u 14)), (.flt .f32 (s.x.u 15)), (.flt .f32 (s.x.u 16)), (.flt .f32 (s.x.u 17)), (.flt .f32 (s.x.u 18)), (.flt .f32 (s.x.u 19)), (.flt .f32 (s.x.u 20)), (.flt .f32 (s.x.u 21)), (.flt .f32 (s.x.u 22)), (.flt .f32 (s.x.u 23)), (.flt .f32 (s.x.u 24)), (.flt .f32 (s.x.u 25)), (.flt .f32 (s.x.u 26)), (.flt .f32 (s.x.u 27)), (.flt .f32 ((ds0_v_0 s).u 0)), (.flt .f32 (s.x.u 35)), (.flt .f32 (s.x.u 36))])

noncomputable def ds0_v_2 (s : SV) : Vars := (farR [(.flt .f32 ((ds0_v_1 s).u 0)), (.flt .f32 ((ds0_v_1 s).u 1)), (.flt .f32 ((ds0_v_1 s).u 2)), (.flt .f32 (s.x.u 28)), (.flt .f32 (s.x.u 29)), (.flt .f32 (s.x.u 30))])

noncomputable def ds0_v_3 (s : SV) : Vars := (clipR [(.flt .f32 (farith .add .f32 (s.x.u 34) (s.x.u 38)))])

noncomputable def ds0_v_4 (s : SV) : Vars := (colourR [(.flt .f32 (s.x.u 4)), (.flt .f32 (s.x.u 5)), (.flt .f32 (s.x.u 6)), (.flt .f32 (s.x.u 7)), (.flt .f32 (s.x.u 8)), (.flt .f32 (s.x.u 9)), (.flt .f32 (s.x.u 10)), (.flt .f32 (s.x.u 11)), (.flt .f32 (s.x.u 12)), (.flt .f32 (s.x.u 13)), (.flt .f32 (s.x.u 14)), (.flt .f32 (s.x.u 15)), (.flt .f32 (s.x.u 16)), (.flt .f32 (s.x.u 17)), (.flt .f32 (s.x.u 18)), (.flt .f32 (s.x.u 19)), (.flt .f32 (s.x.u 20)), (.flt .f32 (s.x.u 21)), (.flt .f32 (s.x.u 22)), (.flt .f32 (s.x.u 23)), (.flt .f32 (s.x.u 24)), (.flt .f32 (s.x.u 25)), (.flt .f32 (s.x.u 26)), (.flt .f32 (s.x.u 27)), (.flt .f32 ((ds0_v_3 s).u 0)), (.flt .f32 (s.x.u 35)), (.flt .f32 (s.x.u 36))])

noncomputable def ds0_v_5 (s : SV) : Vars := (farR [(.flt .f32 ((ds0_v_4 s).u 0)), (.flt .f32 ((ds0_v_4 s).u 1)), (.flt .f32 ((ds0_v_4 s).u 2)), (.flt .f32 (s.x.u 28)), (.flt .f32 (s.x.u 29)), (.flt .f32 (s.x.u 30))])

noncomputable def ds0T (s : SV) : Tr := (.node [] (fcmp .lss .f32 ((ds0_v_2 s).u 0) (s.x.u 0)) (.out 0 (mkSV [(.flt .f32 ((ds0_v_2 s).u 0)), (.flt .f32 (s.x.u 1)), (.sint .i64 (s.x.i 2)), (.bool true), (.flt .f32 (s.x.u 4)), (.flt .f32 (s.x.u 5)), (.flt .f32 (s.x.u 6)), (.flt .f32 (s.x.u 7)), (.flt .f32 (s.x.u 8)), (.flt .f32 (s.x.u 9)), (.flt .f32 (s.x.u 10)), (.flt .f32 (s.x.u 11)), (.flt .f32 (s.x.u 12)), (.flt .f32 (s.x.u 13)), (.flt .f32 (s.x.u 14)), (.flt .f32 (s.x.u 15)), (.flt .f32 (s.x.u 16)), (.flt .f32 (s.x.u 17)), (.flt .f32 (s.x.u 18)), (.flt .f32 (s.x.u 19)), (.flt .f32 (s.x.u 20)), (.flt .f32 (s.x.u 21)), (.flt .f32 (s.x.u 22)), (.flt .f32 (s.x.u 23)), (.flt .f32 (s.x.u 24)), (.flt .f32 (s.x.u 25)), (.flt .f32 (s.x.u 26)), (.flt .f32 (s.x.u 27)), (.flt .f32 (s.x.u 28)), (.flt .f32 (s.x.u 29)), (.flt .f32 (s.x.u 30)), (.flt .f32 (s.x.u 31)), (.flt .f32 (s.x.u 32)), (.flt .f32 (s.x.u 33)), (.flt .f32 ((ds0_v_0 s).u 0)), (.flt .f32 (s.x.u 35)), (.flt .f32 (s.x.u 36))] [] [0, 0, 0, 0] [zeroV, zeroV, zeroV, zeroV]) []) (.node [] (fcmp .lss .f32 ((ds0_v_5 s).u 0) (s.x.u 0)) (.out 0 (mkSV [(.flt .f32 ((ds0_v_5 s).u 0)), (.flt .f32 (s.x.u 1)), (.sint .i64 (s.x.i 2)), (.bool true), (.flt .f32 (s.x.u 4)), (.flt .f32 (s.x.u 5)), (.flt .f32 (s.x.u 6)), (.flt .f32 (s.x.u 7)), (.flt .f32 (s.x.u 8)), (.flt .f32 (s.x.u 9)), (.flt .f32 (s.x.u 10)), (.flt .f32 (s.x.u 11)), (.flt .f32 (s.x.u 12)), (.flt .f32 (s.x.u 13)), (.flt .f32 (s.x.u 14)), (.flt .f32 (s.x.u 15)), (.flt .f32 (s.x.u 16)), (.flt .f32 (s.x.u 17)), (.flt .f32 (s.x.u 18)), (.flt .f32 (s.x.u 19)), (.flt .f32 (s.x.u 20)), (.flt .f32 (s.x.u 21)), (.flt .f32 (s.x.u 22)), (.flt .f32 (s.x.u 23)), (.flt .f32 (s.x.u 24)), (.flt .f32 (s.x.u 25)), (.flt .f32 (s.x.u 26)), (.flt .f32 (s.x.u 27)), (.flt .f32 (s.x.u 28)), (.flt .f32 (s.x.u 29)), (.flt .f32 (s.x.u 30)), (.flt .f32 (s.x.u 31)), (.flt .f32 (s.x.u 32)), (.flt .f32 (s.x.u 33)), (.flt .f32 ((ds0_v_3 s).u 0)), (.flt .f32 (s.x.u 35)), (.flt .f32 (s.x.u 36))] [] [0, 0, 0, 0] [zeroV, zeroV, zeroV, zeroV]) []) (.out 0 (mkSV [(.flt .f32 (s.x.u 0)), (.flt .f32 (s.x.u 1)), (.sint .i64 (s.x.i 2)), (.sbool (s.x.b 3)), (.flt .f32 (s.x.u 4)), (.flt .f32 (s.x.u 5)), (.flt .f32 (s.x.u 6)), (.flt .f32 (s.x.u 7)), (.flt .f32 (s.x.u 8)), (.flt .f32 (s.x.u 9)), (.flt .f32 (s.x.u 10)), (.flt .f32 (s.x.u 11)), (.flt .f32 (s.x.u 12)), (.flt .f32 (s.x.u 13)), (.flt .f32 (s.x.u 14)), (.flt .f32 (s.x.u 15)), (.flt .f32 (s.x.u 16)), (.flt .f32 (s.x.u 17)), (.flt .f32 (s.x.u 18)), (.flt .f32 (s.x.u 19)), (.flt .f32 (s.x.u 20)), (.flt .f32 (s.x.u 21)), (.flt .f32 (s.x.u 22)), (.flt .f32 (s.x.u 23)), (.flt .f32 (s.x.u 24)), (.flt .f32 (s.x.u 25)), (.flt .f32 (s.x.u 26)), (.flt .f32 (s.x.u 27)), (.flt .f32 (s.x.u 28)), (.flt .f32 (s.x.u 29)), (.flt .f32 (s.x.u 30)), (.flt .f32 (s.x.u 31)), (.flt .f32 (s.x.u 32)), (.flt .f32 (s.x.u 33)), (.flt .f32 (s.x.u 34)), (.flt .f32 (s.x.u 35)), (.flt .f32 (s.x.u 36))] [] [0, 0, 0, 0] [zeroV, zeroV, zeroV, zeroV]) [])))

theorem ds0_t (s : SV) : Go.Sim.stepB Try.prog G21 (ntOf Try.prog 26) noLT true 1000 ds0L (blkOf Try.prog 26 4) s = some (ds0T s) := by kernel_rfl

noncomputable def ds0F0 (s : SV) : Nat × SV := endT (ds0T s)

noncomputable def ds0F : SV → Nat × SV := Classical.choose (⟨ds0F0, rfl⟩ : ∃ f, f = ds0F0)

theorem ds0F_eq : ds0F = ds0F0 := Classical.choose_spec (⟨ds0F0, rfl⟩ : ∃ f, f = ds0F0)

noncomputable def ds0Pre (_s : SV) : List Bool := []

noncomputable def Hds0 : LTab := hookL 4 ds0L ds0Pre ds0F noLT

theorem Hds0_ok : HFun Try.prog 0 Hds0 26 := by
  unfold Hds0
  rw [ds0F_eq]
  exact HFun.blk G21_ok mixed (J := true) (n := 1000) (L := ds0L) (T := ds0T) (pre := ds0Pre) (HFun.none Try.prog 0 26) (by kernel_rfl) (by decide) (by decide) ds0_t (fun _ _ => by unfold ds0T; simp [Tr.ok])

theorem ds0_keep (s : SV) : (ds0F s).2.x.i 2 = s.x.i 2 ∧ (ds0F s).2.x.u 1 = s.x.u 1 := by
  rw [ds0F_eq]
  unfold ds0F0 ds0T endT
  simp only [Tr.pick]
  cases (fcmp .lss .f32 ((ds0_v_2 s).u 0) (s.x.u 0)) <;> cases (fcmp .lss .f32 ((ds0_v_5 s).u 0) (s.x.u 0)) <;> exact ⟨rfl, rfl⟩

noncomputable def ds1_v_0 (s : SV) : Vars := (clipR [(.flt .f32 (farith .add .f32 (s.x.u 35) (s.x.u 37)))])

noncomputable def ds1_v_1 (s : SV) : Vars := (colourR [(.flt .f32 (s.x.u 4)), (.flt .f32 (s.x.u 5)), (.flt .f32 (s.x.u 6)), (.flt .f32 (s.x.u 7)), (.flt .f32 (s.x.u 8)), (.flt .f32 (s.x.u 9)), (.flt .f32 (s.x.u 10)), (.flt .f32 (s.x.u 11)), (.flt .f32 (s.x.u 12)), (.flt .f32 (s.x.u 13)), (.flt .f32 (s.x.u 14)), (.flt .f32 (s.x.u 15)), (.flt .f32 (s.x.u 16)), (.flt .f32 (s.x.u 17)), (.flt .f32 (s.x.u 18)), (.flt .f32 (s.x.u 19)), (.flt .f32 (s.x.u 20)), (.flt .f32 (s.x.u 21)), (.flt .f32 (s.x.u 22)), (.flt .f32 (s.x.u 23)), (.flt .f32 (s.x.u 24)), (.flt .f32 (s.x.u 25)), (.flt .f32 (s.x.u 26)), (.flt .f32 (s.x.u 27)), (.flt .f32 (s.x.u 34)), (.flt .f32 ((ds1_v_0 s).u 0)), (.flt .f32 (s.x.u 36))])

noncomputable def ds1_v_2 (s : SV) : Vars := (farR [(.flt .f32 ((ds1_v_1 s).u 0)), (.flt .f32 ((ds1_v_1 s).u 1)), (.flt .f32 ((ds1_v_1 s).u 2)), (.flt .f32 (s.x.u 28)), (.flt .f32 (s.x.u 29)), (.flt .f32 (s.x.u 30))])

noncomputable def ds1_v_3 (s : SV) : Vars := (clipR [(.flt .f32 (farith .add .f32 (s.x.u 35) (s.x.u 38)))])

noncomputable def ds1_v_4 (s : SV) : Vars := (colourR [(.flt .f32 (s.x.u 4)), (.flt .f32 (s.x.u 5)), (.flt .f32 (s.x.u 6)), (.flt .f32 (s.x.u 7)), (.flt .f32 (s.x.u 8)), (.flt .f32 (s.x.u 9)), (.flt .f32 (s.x.u 10)), (.flt .f32 (s.x.u 11)), (.flt .f32 (s.x.u 12)), (.flt .f32 (s.x.u 13)), (.flt .f32 (s.x.u 14)), (.flt .f32 (s.x.u 15)), (.flt .f32 (s.x.u 16)), (.flt .f32 (s.x.u 17)), (.flt .f32 (s.x.u 18)), (.flt .f32 (s.x.u 19)), (.flt .f32 (s.x.u 20)), (.flt .f32 (s.x.u 21)), (.flt .f32 (s.x.u 22)), (.flt .f32 (s.x.u 23)), (.flt .f32 (s.x.u 24)), (.flt .f32 (s.x.u 25)), (.flt .f32 (s.x.u 26)), (.flt .f32 (s.x.u 27)), (.flt .f32 (s.x.u 34)), (.flt .f32 ((ds1_v_3 s).u 0)), (.flt .f32 (s.x.u 36))])

noncomputable def ds1_v_5 (s : SV) : Vars := (farR [(.flt .f32 ((ds1_v_4 s).u 0)), (.flt .f32 ((ds1_v_4 s).u 1)), (.flt .f32 ((ds1_v_4 s).u 2)), (.flt .f32 (s.x.u 28)), (.flt .f32 (s.x.u 29)), (.flt .f32 (s.x.u 30))])

noncomputable def ds1T (s : SV) : Tr := (.node [] (fcmp .lss .f32 ((ds1_v_2 s).u 0) (s.x.u 0)) (.out 0 (mkSV [(.flt .f32 ((ds1_v_2 s).u 0)), (.flt .f32 (s.x.u 1)), (.sint .i64 (s.x.i 2)), (.bool true), (.flt .f32 (s.x.u 4)), (.flt .f32 (s.x.u 5)), (.flt .f32 (s.x.u 6)), (.flt .f32 (s.x.u 7)), (.flt .f32 (s.x.u 8)), (.flt .f32 (s.x.u 9)), (.flt .f32 (s.x.u 10)), (.flt .f32 (s.x.u 11)), (.flt .f32 (s.x.u 12)), (.flt .f32 (s.x.u 13)), (.flt .f32 (s.x.u 14)), (.flt .f32 (s.x.u 15)), (.flt .f32 (s.x.u 16)), (.flt .f32 (s.x.u 17)), (.flt .f32 (s.x.u 18)), (.flt .f32 (s.x.u 19)), (.flt .f32 (s.x.u 20)), (.flt .f32 (s.x.u 21)), (.flt .f32 (s.x.u 22)), (.flt .f32 (s.x.u 23)), (.flt .f32 (s.x.u 24)), (.flt .f32 (s.x.u 25)), (.flt .f32 (s.x.u 26)), (.flt .f32 (s.x.u 27)), (.flt .f32 (s.x.u 28)), (.flt .f32 (s.x.u 29)), (.flt .f32 (s.x.u 30)), (.flt .f32 (s.x.u 31)), (.flt .f32 (s.x.u 32)), (.flt .f32 (s.x.u 33)), (.flt .f32 (s.x.u 34)), (.flt .f32 ((ds1_v_0 s).u 0)), (.flt .f32 (s.x.u 36))] [] [0, 0, 0, 0] [zeroV, zeroV, zeroV, zeroV]) []) (.node [] (fcmp .lss .f32 ((ds1_v_5 s).u 0) (s.x.u 0)) (.out 0 (mkSV [(.flt .f32 ((ds1_v_5 s).u 0)), (.flt .f32 (s.x.u 1)), (.sint .i64 (s.x.i 2)), (.bool true), (.flt .f32 (s.x.u 4)), (.flt .f32 (s.x.u 5)), (.flt .f32 (s.x.u 6)), (.flt .f32 (s.x.u 7)), (.flt .f32 (s.x.u 8)), (.flt .f32 (s.x.u 9)), (.flt .f32 (s.x.u 10)), (.flt .f32 (s.x.u 11)), (.flt .f32 (s.x.u 12)), (.flt .f32 (s.x.u 13)), (.flt .f32 (s.x.u 14)), (.flt .f32 (s.x.u 15)), (.flt .f32 (s.x.u 16)), (.flt .f32 (s.x.u 17)), (.flt .f32 (s.x.u 18)), (.flt .f32 (s.x.u 19)), (.flt .f32 (s.x.u 20)), (.flt .f32 (s.x.u 21)), (.flt .f32 (s.x.u 22)), (.flt .f32 (s.x.u 23)), (.flt .f32 (s.x.u 24)), (.flt .f32 (s.x.u 25)), (.flt .f32 (s.x.u 26)), (.flt .f32 (s.x.u 27)), (.flt .f32 (s.x.u 28)), (.flt .f32 (s.x.u 29)), (.flt .f32 (s.x.u 30)), (.flt .f32 (s.x.u 31)), (.flt .f32 (s.x.u 32)), (.flt .f32 (s.x.u 33)), (.flt .f32 (s.x.u 34)), (.flt .f32 ((ds1_v_3 s).u 0)), (.flt .f32 (s.x.u 36))] [] [0, 0, 0, 0] [zeroV, zeroV, zeroV, zeroV]) []) (.out 0 (mkSV [(.flt .f32 (s.x.u 0)), (.flt .f32 (s.x.u 1)), (.sint .i64 (s.x.i 2)), (.sbool (s.x.b 3)), (.flt .f32 (s.x.u 4)), (.flt .f32 (s.x.u 5)), (.flt .f32 (s.x.u 6)), (.flt .f32 (s.x.u 7)), (.flt .f32 (s.x.u 8)), (.flt .f32 (s.x.u 9)), (.flt .f32 (s.x.u 10)), (.flt .f32 (s.x.u 11)), (.flt .f32 (s.x.u 12)), (.flt .f32 (s.x.u 13)), (.flt .f32 (s.x.u 14)), (.flt .f32 (s.x.u 15)), (.flt .f32 (s.x.u 16)), (.flt .f32 (s.x.u 17)), (.flt .f32 (s.x.u 18)), (.flt .f32 (s.x.u 19)), (.flt .f32 (s.x.u 20)), (.flt .f32 (s.x.u 21)), (.flt .f32 (s.x.u 22)), (.flt .f32 (s.x.u 23)), (.flt .f32 (s.x.u 24)), (.flt .f32 (s.x.u 25)), (.flt .f32 (s.x.u 26)), (.flt .f32 (s.x.u 27)), (.flt .f32 (s.x.u 28)), (.flt .f32 (s.x.u 29)), (.flt .f32 (s.x.u 30)), (.flt .f32 (s.x.u 31)), (.flt .f32 (s.x.u 32)), (.flt .f32 (s.x.u 33)), (.flt .f32 (s.x.u 34)), (.flt .f32 (s.x.u 35)), (.flt .f32 (s.x.u 36))] [] [0, 0, 0, 0] [zeroV, zeroV, zeroV, zeroV]) [])))

theorem ds1_t (s : SV) : Go.Sim.stepB Try.prog G21 (ntOf Try.prog 26) Hds0 true 1000 ds1L (blkOf Try.prog 26 4) s = some (ds1T s) := by kernel_rfl

noncomputable def ds1F0 (s : SV) : Nat × SV := endT (ds1T s)

noncomputable def ds1F : SV → Nat × SV := Classical.choose (⟨ds1F0, rfl⟩ : ∃ f, f = ds1F0)

theorem ds1F_eq : ds1F = ds1F0 := Classical.choose_spec (⟨ds1F0, rfl⟩ : ∃ f, f = ds1F0)

noncomputable def ds1Pre (_s : SV) : List Bool := []

noncomputable def Hds1 : LTab := hookL 4 ds1L ds1Pre ds1F Hds0

theorem Hds1_ok : HFun Try.prog 0 Hds1 26 := by
  unfold Hds1
  rw [ds1F_eq]
  exact HFun.blk G21_ok mixed (J := true) (n := 1000) (L := ds1L) (T := ds1T) (pre := ds1Pre) Hds0_ok (by kernel_rfl) (by decide) (by decide) ds1_t (fun _ _ => by unfold ds1T; simp [Tr.ok])

theorem ds1_keep (s : SV) : (ds1F s).2.x.i 2 = s.x.i 2 ∧ (ds1F s).2.x.u 1 = s.x.u 1 := by
  rw [ds1F_eq]
  unfold ds1F0 ds1T endT
  simp only [Tr.pick]
  cases (fcmp .lss .f32 ((ds1_v_2 s).u 0) (s.x.u 0)) <;> cases (fcmp .lss .f32 ((ds1_v_5 s).u 0) (s.x.u 0)) <;> exact ⟨rfl, rfl⟩

noncomputable def ds2_v_0 (s : SV) : Vars := (clipR [(.flt .f32 (farith .add .f32 (s.x.u 36) (s.x.u 37)))])

noncomputable def ds2_v_1 (s : SV) : Vars := (colourR [(.flt .f32 (s.x.u 4)), (.flt .f32 (s.x.u 5)), (.flt .f32 (s.x.u 6)), (.flt .f32 (s.x.u 7)), (.flt .f32 (s.x.u 8)), (.flt .f32 (s.x.u 9)), (.flt .f32 (s.x.u 10)), (.flt .f32 (s.x.u 11)), (.flt .f32 (s.x.u 12)), (.flt .f32 (s.x.u 13)), (.flt .f32 (s.x.u 14)), (.flt .f32 (s.x.u 15)), (.flt .f32 (s.x.u 16)), (.flt .f32 (s.x.u 17)), (.flt .f32 (s.x.u 18)), (.flt .f32 (s.x.u 19)), (.flt .f32 (s.x.u 20)), (.flt .f32 (s.x.u 21)), (.flt .f32 (s.x.u 22)), (.flt .f32 (s.x.u 23)), (.flt .f32 (s.x.u 24)), (.flt .f32 (s.x.u 25)), (.flt .f32 (s.x.u 26)), (.flt .f32 (s.x.u 27)), (.flt .f32 (s.x.u 34)), (.flt .f32 (s.x.u 35)), (.flt .f32 ((ds2_v_0 s).u 0))])

noncomputable def ds2_v_2 (s : SV) : Vars := (farR [(.flt .f32 ((ds2_v_1 s).u 0)), (.flt .f32 ((ds2_v_1 s).u 1)), (.flt .f32 ((ds2_v_1 s).u 2)), (.flt .f32 (s.x.u 28)), (.flt .f32 (s.x.u 29)), (.flt .f32 (s.x.u 30))])

noncomputable def ds2_v_3 (s : SV) : Vars := (clipR [(.flt .f32 (farith .add .f32 (s.x.u 36) (s.x.u 38)))])

noncomputable def ds2_v_4 (s : SV) : Vars := (colourR [(.flt .f32 (s.x.u 4)), (.flt .f32 (s.x.u 5)), (.flt .f32 (s.x.u 6)), (.flt .f32 (s.x.u 7)), (.flt .f32 (s.x.u 8)), (.flt .f32 (s.x.u 9)), (.flt .f32 (s.x.u 10)), (.flt .f32 (s.x.u 11)), (.flt .f32 (s.x.u 12)), (.flt .f32 (s.x.u 13)), (.flt .f32 (s.x.u 14)), (.flt .f32 (s.x.u 15)), (.flt .f32 (s.x.u 16)), (.flt .f32 (s.x.u 17)), (.flt .f32 (s.x.u 18)), (.flt .f32 (s.x.u 19)), (.flt .f32 (s.x.u 20)), (.flt .f32 (s.x.u 21)), (.flt .f32 (s.x.u 22)), (.flt .f32 (s.x.u 23)), (.flt .f32 (s.x.u 24)), (.flt .f32 (s.x.u 25)), (.flt .f32 (s.x.u 26)), (.flt .f32 (s.x.u 27)), (.flt .f32 (s.x.u 34)), (.flt .f32 (s.x.u 35)), (.flt .f32 ((ds2_v_3 s).u 0))])

noncomputable def ds2_v_5 (s : SV) : Vars := (farR [(.flt .f32 ((ds2_v_4 s).u 0)), (.flt .f32 ((ds2_v_4 s).u 1)), (.flt .f32 ((ds2_v_4 s).u 2)), (.flt .f32 (s.x.u 28)), (.flt .f32 (s.x.u 29)), (.flt .f32 (s.x.u 30))])

noncomputable def ds2T (s : SV) : Tr := (.node [] (fcmp .lss .f32 ((ds2_v_2 s).u 0) (s.x.u 0)) (.out 0 (mkSV [(.flt .f32 ((ds2_v_2 s).u 0)), (.flt .f32 (s.x.u 1)), (.sint .i64 (s.x.i 2)), (.bool true), (.flt .f32 (s.x.u 4)), (.flt .f32 (s.x.u 5)), (.flt .f32 (s.x.u 6)), (.flt .f32 (s.x.u 7)), (.flt .f32 (s.x.u 8)), (.flt .f32 (s.x.u 9)), (.flt .f32 (s.x.u 10)), (.flt .f32 (s.x.u 11)), (.flt .f32 (s.x.u 12)), (.flt .f32 (s.x.u 13)), (.flt .f32 (s.x.u 14)), (.flt .f32 (s.x.u 15)), (.flt .f32 (s.x.u 16)), (.flt .f32 (s.x.u 17)), (.flt .f32 (s.x.u 18)), (.flt .f32 (s.x.u 19)), (.flt .f32 (s.x.u 20)), (.flt .f32 (s.x.u 21)), (.flt .f32 (s.x.u 22)), (.flt .f32 (s.x.u 23)), (.flt .f32 (s.x.u 24)), (.flt .f32 (s.x.u 25)), (.flt .f32 (s.x.u 26)), (.flt .f32 (s.x.u 27)), (.flt .f32 (s.x.u 28)), (.flt .f32 (s.x.u 29)), (.flt .f32 (s.x.u 30)), (.flt .f32 (s.x.u 31)), (.flt .f32 (s.x.u 32)), (.flt .f32 (s.x.u 33)), (.flt .f32 (s.x.u 34)), (.flt .f32 (s.x.u 35)), (.flt .f32 ((ds2_v_0 s).u 0))] [] [0, 0, 0, 0] [zeroV, zeroV, zeroV, zeroV]) []) (.node [] (fcmp .lss .f32 ((ds2_v_5 s).u 0) (s.x.u 0)) (.out 0 (mkSV [(.flt .f32 ((ds2_v_5 s).u 0)), (.flt .f32 (s.x.u 1)), (.sint .i64 (s.x.i 2)), (.bool true), (.flt .f32 (s.x.u 4)), (.flt .f32 (s.x.u 5)), (.flt .f32 (s.x.u 6)), (.flt .f32 (s.x.u 7)), (.flt .f32 (s.x.u 8)), (.flt .f32 (s.x.u 9)), (.flt .f32 (s.x.u 10)), (.flt .f32 (s.x.u 11)), (.flt .f32 (s.x.u 12)), (.flt .f32 (s.x.u 13)), (.flt .f32 (s.x.u 14)), (.flt .f32 (s.x.u 15)), (.flt .f32 (s.x.u 16)), (.flt .f32 (s.x.u 17)), (.flt .f32 (s.x.u 18)), (.flt .f32 (s.x.u 19)), (.flt .f32 (s.x.u 20)), (.flt .f32 (s.x.u 21)), (.flt .f32 (s.x.u 22)), (.flt .f32 (s.x.u 23)), (.flt .f32 (s.x.u 24)), (.flt .f32 (s.x.u 25)), (.flt .f32 (s.x.u 26)), (.flt .f32 (s.x.u 27)), (.flt .f32 (s.x.u 28)), (.flt .f32 (s.x.u 29)), (.flt .f32 (s.x.u 30)), (.flt .f32 (s.x.u 31)), (.flt .f32 (s.x.u 32)), (.flt .f32 (s.x.u 33)), (.flt .f32 (s.x.u 34)), (.flt .f32 (s.x.u 35)), (.flt .f32 ((ds2_v_3 s).u 0))] [] [0, 0, 0, 0] [zeroV, zeroV, zeroV, zeroV]) []) (.out 0 (mkSV [(.flt .f32 (s.x.u 0)), (.flt .f32 (s.x.u 1)), (.sint .i64 (s.x.i 2)), (.sbool (s.x.b 3)), (.flt .f32 (s.x.u 4)), (.flt .f32 (s.x.u 5)), (.flt .f32 (s.x.u 6)), (.flt .f32 (s.x.u 7)), (.flt .f32 (s.x.u 8)), (.flt .f32 (s.x.u 9)), (.flt .f32 (s.x.u 10)), (.flt .f32 (s.x.u 11)), (.flt .f32 (s.x.u 12)), (.flt .f32 (s.x.u 13)), (.flt .f32 (s.x.u 14)), (.flt .f32 (s.x.u 15)), (.flt .f32 (s.x.u 16)), (.flt .f32 (s.x.u 17)), (.flt .f32 (s.x.u 18)), (.flt .f32 (s.x.u 19)), (.flt .f32 (s.x.u 20)), (.flt .f32 (s.x.u 21)), (.flt .f32 (s.x.u 22)), (.flt .f32 (s.x.u 23)), (.flt .f32 (s.x.u 24)), (.flt .f32 (s.x.u 25)), (.flt .f32 (s.x.u 26)), (.flt .f32 (s.x.u 27)), (.flt .f32 (s.x.u 28)), (.flt .f32 (s.x.u 29)), (.flt .f32 (s.x.u 30)), (.flt .f32 (s.x.u 31)), (.flt .f32 (s.x.u 32)), (.flt .f32 (s.x.u 33)), (.flt .f32 (s.x.u 34)), (.flt .f32 (s.x.u 35)), (.flt .f32 (s.x.u 36))] [] [0, 0, 0, 0] [zeroV, zeroV, zeroV, zeroV]) [])))

theorem ds2_t (s : SV) : Go.Sim.stepB Try.prog G21 (ntOf Try.prog 26) Hds1 true 1000 ds2L (blkOf Try.prog 26 4) s = some (ds2T s) := by kernel_rfl

noncomputable def ds2F0 (s : SV) : Nat × SV := endT (ds2T s)

noncomputable def ds2F : SV → Nat × SV := Classical.choose (⟨ds2F0, rfl⟩ : ∃ f, f = ds2F0)

theorem ds2F_eq : ds2F = ds2F0 := Classical.choose_spec (⟨ds2F0, rfl⟩ : ∃ f, f = ds2F0)

noncomputable def ds2Pre (_s : SV) : List Bool := []

noncomputable def Hds2 : LTab := hookL 4 ds2L ds2Pre ds2F Hds1

theorem Hds2_ok : HFun Try.prog 0 Hds2 26 := by
  unfold Hds2
  rw [ds2F_eq]
  exact HFun.blk G21_ok mixed (J := true) (n := 1000) (L := ds2L) (T := ds2T) (pre := ds2Pre) Hds1_ok (by kernel_rfl) (by decide) (by decide) ds2_t (fun _ _ => by unfold ds2T; simp [Tr.ok])

theorem ds2_keep (s : SV) : (ds2F s).2.x.i 2 = s.x.i 2 ∧ (ds2F s).2.x.u 1 = s.x.u 1 := by
  rw [ds2F_eq]
  unfold ds2F0 ds2T endT
  simp only [Tr.pick]
  cases (fcmp .lss .f32 ((ds2_v_2 s).u 0) (s.x.u 0)) <;> cases (fcmp .lss .f32 ((ds2_v_5 s).u 0) (s.x.u 0)) <;> exact ⟨rfl, rfl⟩

noncomputable def ds_v_0 (s : SV) : Nat × SV := (ds0F (mkSV [(.flt .f32 (s.x.u 0)), (.flt .f32 (s.x.u 1)), (.sint .i64 (iadd (s.x.i 2) 1)), (.bool false), (.flt .f32 (s.x.u 3)), (.flt .f32 (s.x.u 4)), (.flt .f32 (s.x.u 5)), (.flt .f32 (s.x.u 6)), (.flt .f32 (s.x.u 7)), (.flt .f32 (s.x.u 8)), (.flt .f32 (s.x.u 9)), (.flt .f32 (s.x.u 10)), (.flt .f32 (s.x.u 11)), (.flt .f32 (s.x.u 12)), (.flt .f32 (s.x.u 13)), (.flt .f32 (s.x.u 14)), (.flt .f32 (s.x.u 15)), (.flt .f32 (s.x.u 16)), (.flt .f32 (s.x.u 17)), (.flt .f32 (s.x.u 18)), (.flt .f32 (s.x.u 19)), (.flt .f32 (s.x.u 20)), (.flt .f32 (s.x.u 21)), (.flt .f32 (s.x.u 22)), (.flt .f32 (s.x.u 23)), (.flt .f32 (s.x.u 24)), (.flt .f32 (s.x.u 25)), (.flt .f32 (s.x.u 26)), (.flt .f32 (s.x.u 27)), (.flt .f32 (s.x.u 28)), (.flt .f32 (s.x.u 29)), (.flt .f32 (s.x.u 30)), (.flt .f32 (s.x.u 31)), (.flt .f32 (s.x.u 32)), (.flt .f32 (s.x.u 33)), (.flt .f32 (s.x.u 34)), (.flt .f32 (s.x.u 35)), (.flt .f32 (s.x.u 1)), (.flt .f32 (fneg .f32 (s.x.u 1)))] [] [0, 0, 0, 0, 0] [zeroV, zeroV, zeroV, zeroV, zeroV]))

noncomputable def ds_v_1 (s : SV) : Nat × SV := (ds1F (mkSV [(.flt .f32 ((ds_v_0 s).2.x.u 0)), (.flt .f32 ((ds_v_0 s).2.x.u 1)), (.sint .i64 ((ds_v_0 s).2.x.i 2)), (.sbool ((ds_v_0 s).2.x.b 3)), (.flt .f32 ((ds_v_0 s).2.x.u 4)), (.flt .f32 ((ds_v_0 s).2.x.u 5)), (.flt .f32 ((ds_v_0 s).2.x.u 6)), (.flt .f32 ((ds_v_0 s).2.x.u 7)), (.flt .f32 ((ds_v_0 s).2.x.u 8)), (.flt .f32 ((ds_v_0 s).2.x.u 9)), (.flt .f32 ((ds_v_0 s).2.x.u 10)), (.flt .f32 ((ds_v_0 s).2.x.u 11)), (.flt .f32 ((ds_v_0 s).2.x.u 12)), (.flt .f32 ((ds_v_0 s).2.x.u 13)), (.flt .f32 ((ds_v_0 s).2.x.u 14)), (.flt .f32 ((ds_v_0 s).2.x.u 15)), (.flt .f32 ((ds_v_0 s).2.x.u 16)), (.flt .f32 ((ds_v_0 s).2.x.u 17)), (.flt .f32 ((ds_v_0 s).2.x.u 18)), (.flt .f32 ((ds_v_0 s).2.x.u 19)), (.flt .f32 ((ds_v_0 s).2.x.u 20)), (.flt .f32 ((ds_v_0 s).2.x.u 21)), (.flt .f32 ((ds_v_0 s).2.x.u 22)), (.flt .f32 ((ds_v_0 s).2.x.u 23)), (.flt .f32 ((ds_v_0 s).2.x.u 24)), (.flt .f32 ((ds_v_0 s).2.x.u 25)), (.flt .f32 ((ds_v_0 s).2.x.u 26)), (.flt .f32 ((ds_v_0 s).2.x.u 27)), (.flt .f32 ((ds_v_0 s).2.x.u 28)), (.flt .f32 ((ds_v_0 s).2.x.u 29)), (.flt .f32 ((ds_v_0 s).2.x.u 30)), (.flt .f32 ((ds_v_0 s).2.x.u 31)), (.flt .f32 ((ds_v_0 s).2.x.u 32)), (.flt .f32 ((ds_v_0 s).2.x.u 33)), (.flt .f32 ((ds_v_0 s).2.x.u 34)), (.flt .f32 ((ds_v_0 s).2.x.u 35)), (.flt .f32 ((ds_v_0 s).2.x.u 36)), (.flt .f32 ((ds_v_0 s).2.x.u 1)), (.flt .f32 (fneg .f32 ((ds_v_0 s).2.x.u 1)))] [] [0, 0, 0, 0, 0] [zeroV, zeroV, zeroV, zeroV, zeroV]))

noncomputable def ds_v_2 (s : SV) : Nat × SV := (ds2F (mkSV [(.flt .f32 ((ds_v_1 s).2.x.u 0)), (.flt .f32 ((ds_v_1 s).2.x.u 1)), (.sint .i64 ((ds_v_1 s).2.x.i 2)), (.sbool ((ds_v_1 s).2.x.b 3)), (.flt .f32 ((ds_v_1 s).2.x.u 4)), (.flt .f32 ((ds_v_1 s).2.x.u 5)), (.flt .f32 ((ds_v_1 s).2.x.u 6)), (.flt .f32 ((ds_v_1 s).2.x.u 7)), (.flt .f32 ((ds_v_1 s).2.x.u 8)), (.flt .f32 ((ds_v_1 s).2.x.u 9)), (.flt .f32 ((ds_v_1 s).2.x.u 10)), (.flt .f32 ((ds_v_1 s).2.x.u 11)), (.flt .f32 ((ds_v_1 s).2.x.u 12)), (.flt .f32 ((ds_v_1 s).2.x.u 13)), (.flt .f32 ((ds_v_1 s).2.x.u 14)), (.flt .f32 ((ds_v_1 s).2.x.u 15)), (.flt .f32 ((ds_v_1 s).2.x.u 16)), (.flt .f32 ((ds_v_1 s).2.x.u 17)), (.flt .f32 ((ds_v_1 s).2.x.u 18)), (.flt .f32 ((ds_v_1 s).2.x.u 19)), (.flt .f32 ((ds_v_1 s).2.x.u 20)), (.flt .f32 ((ds_v_1 s).2.x.u 21)), (.flt .f32 ((ds_v_1 s).2.x.u 22)), (.flt .f32 ((ds_v_1 s).2.x.u 23)), (.flt .f32 ((ds_v_1 s).2.x.u 24)), (.flt .f32 ((ds_v_1 s).2.x.u 25)), (.flt .f32 ((ds_v_1 s).2.x.u 26)), (.flt .f32 ((ds_v_1 s).2.x.u 27)), (.flt .f32 ((ds_v_1 s).2.x.u 28)), (.flt .f32 ((ds_v_1 s).2.x.u 29)), (.flt .f32 ((ds_v_1 s).2.x.u 30)), (.flt .f32 ((ds_v_1 s).2.x.u 31)), (.flt .f32 ((ds_v_1 s).2.x.u 32)), (.flt .f32 ((ds_v_1 s).2.x.u 33)), (.flt .f32 ((ds_v_1 s).2.x.u 34)), (.flt .f32 ((ds_v_1 s).2.x.u 35)), (.flt .f32 ((ds_v_1 s).2.x.u 36)), (.flt .f32 ((ds_v_1 s).2.x.u 1)), (.flt .f32 (fneg .f32 ((ds_v_1 s).2.x.u 1)))] [] [0, 0, 0, 0, 0] [zeroV, zeroV, zeroV, zeroV, zeroV]))

noncomputable def dsN (s : SV) : SV := (mkSV [(.flt .f32 (bif (!((ds_v_2 s).2.x.b 3)) then ((ds_v_2 s).2.x.u 0) else ((ds_v_2 s).2.x.u 0))), (.flt .f32 (bif (!((ds_v_2 s).2.x.b 3)) then (farith .quo .f32 ((ds_v_2 s).2.x.u 1) 1073741824) else ((ds_v_2 s).2.x.u 1))), (.sint .i64 (bif (!((ds_v_2 s).2.x.b 3)) then ((ds_v_2 s).2.x.i 2) else ((ds_v_2 s).2.x.i 2))), (.flt .f32 ((ds_v_2 s).2.x.u 4)), (.flt .f32 ((ds_v_2 s).2.x.u 5)), (.flt .f32 ((ds_v_2 s).2.x.u 6)), (.flt .f32 ((ds_v_2 s).2.x.u 7)), (.flt .f32 ((ds_v_2 s).2.x.u 8)), (.flt .f32 ((ds_v_2 s).2.x.u 9)), (.flt .f32 ((ds_v_2 s).2.x.u 10)), (.flt .f32 ((ds_v_2 s).2.x.u 11)), (.flt .f32 ((ds_v_2 s).2.x.u 12)), (.flt .f32 ((ds_v_2 s).2.x.u 13)), (.flt .f32 ((ds_v_2 s).2.x.u 14)), (.flt .f32 ((ds_v_2 s).2.x.u 15)), (.flt .f32 ((ds_v_2 s).2.x.u 16)), (.flt .f32 ((ds_v_2 s).2.x.u 17)), (.flt .f32 ((ds_v_2 s).2.x.u 18)), (.flt .f32 ((ds_v_2 s).2.x.u 19)), (.flt .f32 ((ds_v_2 s).2.x.u 20)), (.flt .f32 ((ds_v_2 s).2.x.u 21)), (.flt .f32 ((ds_v_2 s).2.x.u 22)), (.flt .f32 ((ds_v_2 s).2.x.u 23)), (.flt .f32 ((ds_v_2 s).2.x.u 24)), (.flt .f32 ((ds_v_2 s).2.x.u 25)), (.flt .f32 ((ds_v_2 s).2.x.u 26)), (.flt .f32 ((ds_v_2 s).2.x.u 27)), (.flt .f32 ((ds_v_2 s).2.x.u 28)), (.flt .f32 ((ds_v_2 s).2.x.u 29)), (.flt .f32 ((ds_v_2 s).2.x.u 30)), (.flt .f32 ((ds_v_2 s).2.x.u 31)), (.flt .f32 ((ds_v_2 s).2.x.u 32)), (.flt .f32 ((ds_v_2 s).2.x.u 33)), (.flt .f32 ((ds_v_2 s).2.x.u 34)), (.flt .f32 ((ds_v_2 s).2.x.u 35)), (.flt .f32 ((ds_v_2 s).2.x.u 36))] [] [0, 0, 0, 0] [zeroV, zeroV, zeroV, zeroV])

noncomputable def dsT (s : SV) : Tr := (.node [] ((fcmp .geq .f32 (s.x.u 1) 981668463) && (decide ((s.x.i 2) < 400))) (.next (dsN s) [((decide ((-(9223372036854775807 + 1)) ≤ (iadd (s.x.i 2) 1))) && (decide ((iadd (s.x.i 2) 1) ≤ 9223372036854775807)))]) (.out 0 (mkSV [(.flt .f32 (s.x.u 0)), (.flt .f32 (s.x.u 1)), (.sint .i64 (s.x.i 2)), (.flt .f32 (s.x.u 3)), (.flt .f32 (s.x.u 4)), (.flt .f32 (s.x.u 5)), (.flt .f32 (s.x.u 6)), (.flt .f32 (s.x.u 7)), (.flt .f32 (s.x.u 8)), (.flt .f32 (s.x.u 9)), (.flt .f32 (s.x.u 10)), (.flt .f32 (s.x.u 11)), (.flt .f32 (s.x.u 12)), (.flt .f32 (s.x.u 13)), (.flt .f32 (s.x.u 14)), (.flt .f32 (s.x.u 15)), (.flt .f32 (s.x.u 16)), (.flt .f32 (s.x.u 17)), (.flt .f32 (s.x.u 18)), (.flt .f32 (s.x.u 19)), (.flt .f32 (s.x.u 20)), (.flt .f32 (s.x.u 21)), (.flt .f32 (s.x.u 22)), (.flt .f32 (s.x.u 23)), (.flt .f32 (s.x.u 24)), (.flt .f32 (s.x.u 25)), (.flt .f32 (s.x.u 26)), (.flt .f32 (s.x.u 27)), (.flt .f32 (s.x.u 28)), (.flt .f32 (s.x.u 29)), (.flt .f32 (s.x.u 30)), (.flt .f32 (s.x.u 31)), (.flt .f32 (s.x.u 32)), (.flt .f32 (s.x.u 33)), (.flt .f32 (s.x.u 34)), (.flt .f32 (s.x.u 35))] [] [0, 0, 0, 0] [zeroV, zeroV, zeroV, zeroV]) []))

theorem ds_t (s : SV) : Go.Sim.stepT Try.prog G21 (ntOf Try.prog 26) Hds2 true 1000 dsL (loopOf Try.prog 26 0) s = some (dsT s) := by kernel_rfl

def dsMu (s : SV) : Nat := (400 - s.x.i 2).toNat

noncomputable def dsF0 (s : SV) : Nat × SV := Go.Sim.runT dsT (dsMu s + 1) s

noncomputable def dsF : SV → Nat × SV := Classical.choose (⟨dsF0, rfl⟩ : ∃ f, f = dsF0)

theorem dsF_eq : dsF = dsF0 := Classical.choose_spec (⟨dsF0, rfl⟩ : ∃ f, f = dsF0)

noncomputable def dsPre (s : SV) : List Bool := [decide (0 ≤ s.x.i 2), decide (s.x.i 2 ≤ 400)]

noncomputable def Hds : LTab := hookL 0 dsL dsPre dsF Hds2

noncomputable def di0_v_0 (s : SV) : Vars := (colourR [(.flt .f32 (s.x.u 4)), (.flt .f32 (s.x.u 5)), (.flt .f32 (s.x.u 6)), (.flt .f32 (s.x.u 7)), (.flt .f32 (s.x.u 8)), (.flt .f32 (s.x.u 9)), (.flt .f32 (s.x.u 10)), (.flt .f32 (s.x.u 11)), (.flt .f32 (s.x.u 12)), (.flt .f32 (s.x.u 13)), (.flt .f32 (s.x.u 14)), (.flt .f32 (s.x.u 15)), (.flt .f32 (s.x.u 16)), (.flt .f32 (s.x.u 17)), (.flt .f32 (s.x.u 18)), (.flt .f32 (s.x.u 19)), (.flt .f32 (s.x.u 20)), (.flt .f32 (s.x.u 21)), (.flt .f32 (s.x.u 22)), (.flt .f32 (s.x.u 23)), (.flt .f32 (s.x.u 24)), (.flt .f32 (s.x.u 25)), (.flt .f32 (s.x.u 26)), (.flt .f32 (s.x.u 27)), (.flt .f32 (s.x.u 37)), (.flt .f32 (s.x.u 35)), (.flt .f32 (s.x.u 36))])

noncomputable def di0_v_1 (s : SV) : Vars := (farR [(.flt .f32 ((di0_v_0 s).u 0)), (.flt .f32 ((di0_v_0 s).u 1)), (.flt .f32 ((di0_v_0 s).u 2)), (.flt .f32 (s.x.u 28)), (.flt .f32 (s.x.u 29)), (.flt .f32 (s.x.u 30))])

noncomputable def di0_v_2 (s : SV) : Vars := (colourR [(.flt .f32 (s.x.u 4)), (.flt .f32 (s.x.u 5)), (.flt .f32 (s.x.u 6)), (.flt .f32 (s.x.u 7)), (.flt .f32 (s.x.u 8)), (.flt .f32 (s.x.u 9)), (.flt .f32 (s.x.u 10)), (.flt .f32 (s.x.u 11)), (.flt .f32 (s.x.u 12)), (.flt .f32 (s.x.u 13)), (.flt .f32 (s.x.u 14)), (.flt .f32 (s.x.u 15)), (.flt .f32 (s.x.u 16)), (.flt .f32 (s.x.u 17)), (.flt .f32 (s.x.u 18)), (.flt .f32 (s.x.u 19)), (.flt .f32 (s.x.u 20)), (.flt .f32 (s.x.u 21)), (.flt .f32 (s.x.u 22)), (.flt .f32 (s.x.u 23)), (.flt .f32 (s.x.u 24)), (.flt .f32 (s.x.u 25)), (.flt .f32 (s.x.u 26)), (.flt .f32 (s.x.u 27)), (.flt .f32 (s.x.u 38)), (.flt .f32 (s.x.u 35)), (.flt .f32 (s.x.u 36))])

noncomputable def di0_v_3 (s : SV) : Vars := (farR [(.flt .f32 ((di0_v_2 s).u 0)), (.flt .f32 ((di0_v_2 s).u 1)), (.flt .f32 ((di0_v_2 s).u 2)), (.flt .f32 (s.x.u 28)), (.flt .f32 (s.x.u 29)), (.flt .f32 (s.x.u 30))])

noncomputable def di0T (s : SV) : Tr := (.node [] (fcmp .lss .f32 ((di0_v_1 s).u 0) (s.x.u 0)) (.out 0 (mkSV [(.flt .f32 ((di0_v_1 s).u 0)), (.flt .f32 (s.x.u 1)), (.sint .i64 (s.x.i 2)), (.bool true), (.flt .f32 (s.x.u 4)), (.flt .f32 (s.x.u 5)), (.flt .f32 (s.x.u 6)), (.flt .f32 (s.x.u 7)), (.flt .f32 (s.x.u 8)), (.flt .f32 (s.x.u 9)), (.flt .f32 (s.x.u 10)), (.flt .f32 (s.x.u 11)), (.flt .f32 (s.x.u 12)), (.flt .f32 (s.x.u 13)), (.flt .f32 (s.x.u 14)), (.flt .f32 (s.x.u 15)), (.flt .f32 (s.x.u 16)), (.flt .f32 (s.x.u 17)), (.flt .f32 (s.x.u 18)), (.flt .f32 (s.x.u 19)), (.flt .f32 (s.x.u 20)), (.flt .f32 (s.x.u 21)), (.flt .f32 (s.x.u 22)), (.flt .f32 (s.x.u 23)), (.flt .f32 (s.x.u 24)), (.flt .f32 (s.x.u 25)), (.flt .f32 (s.x.u 26)), (.flt .f32 (s.x.u 27)), (.flt .f32 (s.x.u 28)), (.flt .f32 (s.x.u 29)), (.flt .f32 (s.x.u 30)), (.flt .f32 (s.x.u 31)), (.flt .f32 (s.x.u 32)), (.flt .f32 (s.x.u 33)), (.flt .f32 (s.x.u 37)), (.flt .f32 (s.x.u 35)), (.flt .f32 (s.x.u 36))] [] [0, 0, 0, 0] [zeroV, zeroV, zeroV, zeroV]) []) (.node [] (fcmp .lss .f32 ((di0_v_3 s).u 0) (s.x.u 0)) (.out 0 (mkSV [(.flt .f32 ((di0_v_3 s).u 0)), (.flt .f32 (s.x.u 1)), (.sint .i64 (s.x.i 2)), (.bool true), (.flt .f32 (s.x.u 4)), (.flt .f32 (s.x.u 5)), (.flt .f32 (s.x.u 6)), (.flt .f32 (s.x.u 7)), (.flt .f32 (s.x.u 8)), (.flt .f32 (s.x.u 9)), (.flt .f32 (s.x.u 10)), (.flt .f32 (s.x.u 11)), (.flt .f32 (s.x.u 12)), (.flt .f32 (s.x.u 13)), (.flt .f32 (s.x.u 14)), (.flt .f32 (s.x.u 15)), (.flt .f32 (s.x.u 16)), (.flt .f32 (s.x.u 17)), (.flt .f32 (s.x.u 18)), (.flt .f32 (s.x.u 19)), (.flt .f32 (s.x.u 20)), (.flt .f32 (s.x.u 21)), (.flt .f32 (s.x.u 22)), (.flt .f32 (s.x.u 23)), (.flt .f32 (s.x.u 24)), (.flt .f32 (s.x.u 25)), (.flt .f32 (s.x.u 26)), (.flt .f32 (s.x.u 27)), (.flt .f32 (s.x.u 28)), (.flt .f32 (s.x.u 29)), (.flt .f32 (s.x.u 30)), (.flt .f32 (s.x.u 31)), (.flt .f32 (s.x.u 32)), (.flt .f32 (s.x.u 33)), (.flt .f32 (s.x.u 38)), (.flt .f32 (s.x.u 35)), (.flt .f32 (s.x.u 36))] [] [0, 0, 0, 0] [zeroV, zeroV, zeroV, zeroV]) []) (.out 0 (mkSV [(.flt .f32 (s.x.u 0)), (.flt .f32 (s.x.u 1)), (.sint .i64 (s.x.i 2)), (.sbool (s.x.b 3)), (.flt .f32 (s.x.u 4)), (.flt .f32 (s.x.u 5)), (.flt .f32 (s.x.u 6)), (.flt .f32 (s.x.u 7)), (.flt .f32 (s.x.u 8)), (.flt .f32 (s.x.u 9)), (.flt .f32 (s.x.u 10)), (.flt .f32 (s.x.u 11)), (.flt .f32 (s.x.u 12)), (.flt .f32 (s.x.u 13)), (.flt .f32 (s.x.u 14)), (.flt .f32 (s.x.u 15)), (.flt .f32 (s.x.u 16)), (.flt .f32 (s.x.u 17)), (.flt .f32 (s.x.u 18)), (.flt .f32 (s.x.u 19)), (.flt .f32 (s.x.u 20)), (.flt .f32 (s.x.u 21)), (.flt .f32 (s.x.u 22)), (.flt .f32 (s.x.u 23)), (.flt .f32 (s.x.u 24)), (.flt .f32 (s.x.u 25)), (.flt .f32 (s.x.u 26)), (.flt .f32 (s.x.u 27)), (.flt .f32 (s.x.u 28)), (.flt .f32 (s.x.u 29)), (.flt .f32 (s.x.u 30)), (.flt .f32 (s.x.u 31)), (.flt .f32 (s.x.u 32)), (.flt .f32 (s.x.u 33)), (.flt .f32 (s.x.u 34)), (.flt .f32 (s.x.u 35)), (.flt .f32 (s.x.u 36))] [] [0, 0, 0, 0] [zeroV, zeroV, zeroV, zeroV]) [])))

theorem di0_t (s : SV) : Go.Sim.stepB Try.prog G21 (ntOf Try.prog 27) noLT true 1000 di0L (blkOf Try.prog 27 4) s = some (di0T s) := by kernel_rfl

noncomputable def di0F0 (s : SV) : Nat × SV := endT (di0T s)

noncomputable def di0F : SV → Nat × SV := Classical.choose (⟨di0F0, rfl⟩ : ∃ f, f = di0F0)

theorem di0F_eq : di0F = di0F0 := Classical.choose_spec (⟨di0F0, rfl⟩ : ∃ f, f = di0F0)

noncomputable def di0Pre (_s : SV) : List Bool := []

noncomputable def Hdi0 : LTab := hookL 4 di0L di0Pre di0F noLT

theorem Hdi0_ok : HFun Try.prog 0 Hdi0 27 := by
  unfold Hdi0
  rw [di0F_eq]
  exact HFun.blk G21_ok mixed (J := true) (n := 1000) (L := di0L) (T := di0T) (pre := di0Pre) (HFun.none Try.prog 0 27) (by kernel_rfl) (by decide) (by decide) di0_t (fun _ _ => by unfold di0T; simp [Tr.ok])

theorem di0_keep (s : SV) : (di0F s).2.x.i 2 = s.x.i 2 ∧ (di0F s).2.x.u 1 = s.x.u 1 := by
  rw [di0F_eq]
  unfold di0F0 di0T endT
  simp only [Tr.pick]
  cases (fcmp .lss .f32 ((di0_v_1 s).u 0) (s.x.u 0)) <;> cases (fcmp .lss .f32 ((di0_v_3 s).u 0) (s.x.u 0)) <;> exact ⟨rfl, rfl⟩

noncomputable def di1_v_0 (s : SV) : Vars := (colourR [(.flt .f32 (s.x.u 4)), (.flt .f32 (s.x.u 5)), (.flt .f32 (s.x.u 6)), (.flt .f32 (s.x.u 7)), (.flt .f32 (s.x.u 8)), (.flt .f32 (s.x.u 9)), (.flt .f32 (s.x.u 10)), (.flt .f32 (s.x.u 11)), (.flt .f32 (s.x.u 12)), (.flt .f32 (s.x.u 13)), (.flt .f32 (s.x.u 14)), (.flt .f32 (s.x.u 15)), (.flt .f32 (s.x.u 16)), (.flt .f32 (s.x.u 17)), (.flt .f32 (s.x.u 18)), (.flt .f32 (s.x.u 19)), (.flt .f32 (s.x.u 20)), (.flt .f32 (s.x.u 21)), (.flt .f32 (s.x.u 22)), (.flt .f32 (s.x.u 23)), (.flt .f32 (s.x.u 24)), (.flt .f32 (s.x.u 25)), (.flt .f32 (s.x.u 26)), (.flt .f32 (s.x.u 27)), (.flt .f32 (s.x.u 34)), (.flt .f32 (s.x.u 37)), (.flt .f32 (s.x.u 36))])

noncomputable def di1_v_1 (s : SV) : Vars := (farR [(.flt .f32 ((di1_v_0 s).u 0)), (.flt .f32 ((di1_v_0 s).u 1)), (.flt .f32 ((di1_v_0 s).u 2)), (.flt .f32 (s.x.u 28)), (.flt .f32 (s.x.u 29)), (.flt .f32 (s.x.u 30))])

noncomputable def di1_v_2 (s : SV) : Vars := (colourR [(.flt .f32 (s.x.u 4)), (.flt .f32 (s.x.u 5)), (.flt .f32 (s.x.u 6)), (.flt .f32 (s.x.u 7)), (.flt .f32 (s.x.u 8)), (.flt .f32 (s.x.u 9)), (.flt .f32 (s.x.u 10)), (.flt .f32 (s.x.u 11)), (.flt .f32 (s.x.u 12)), (.flt .f32 (s.x.u 13)), (.flt .f32 (s.x.u 14)), (.flt .f32 (s.x.u 15)), (.flt .f32 (s.x.u 16)), (.flt .f32 (s.x.u 17)), (.flt .f32 (s.x.u 18)), (.flt .f32 (s.x.u 19)), (.flt .f32 (s.x.u 20)), (.flt .f32 (s.x.u 21)), (.flt .f32 (s.x.u 22)), (.flt .f32 (s.x.u 23)), (.flt .f32 (s.x.u 24)), (.flt .f32 (s.x.u 25)), (.flt .f32 (s.x.u 26)), (.flt .f32 (s.x.u 27)), (.flt .f32 (s.x.u 34)), (.flt .f32 (s.x.u 38)), (.flt .f32 (s.x.u 36))])

noncomputable def di1_v_3 (s : SV) : Vars := (farR [(.flt .f32 ((di1_v_2 s).u 0)), (.flt .f32 ((di1_v_2 s).u 1)), (.flt .f32 ((di1_v_2 s).u 2)), (.flt .f32 (s.x.u 28)), (.flt .f32 (s.x.u 29)), (.flt .f32 (s.x.u 30))])

noncomputable def di1T (s : SV) : Tr := (.node [] (fcmp .lss .f32 ((di1_v_1 s).u 0) (s.x.u 0)) (.out 0 (mkSV [(.flt .f32 ((di1_v_1 s).u 0)), (.flt .f32 (s.x.u 1)), (.sint .i64 (s.x.i 2)), (.bool true), (.flt .f32 (s.x.u 4)), (.flt .f32 (s.x.u 5)), (.flt .f32 (s.x.u 6)), (.flt .f32 (s.x.u 7)), (.flt .f32 (s.x.u 8)), (.flt .f32 (s.x.u 9)), (.flt .f32 (s.x.u 10)), (.flt .f32 (s.x.u 11)), (.flt .f32 (s.x.u 12)), (.flt .f32 (s.x.u 13)), (.flt .f32 (s.x.u 14)), (.flt .f32 (s.x.u 15)), (.flt .f32 (s.x.u 16)), (.flt .f32 (s.x.u 17)), (.flt .f32 (s.x.u 18)), (.flt .f32 (s.x.u 19)), (.flt .f32 (s.x.u 20)), (.flt .f32 (s.x.u 21)), (.flt .f32 (s.x.u 22)), (.flt .f32 (s.x.u 23)), (.flt .f32 (s.x.u 24)), (.flt .f32 (s.x.u 25)), (.flt .f32 (s.x.u 26)), (.flt .f32 (s.x.u 27)), (.flt .f32 (s.x.u 28)), (.flt .f32 (s.x.u 29)), (.flt .f32 (s.x.u 30)), (.flt .f32 (s.x.u 31)), (.flt .f32 (s.x.u 32)), (.flt .f32 (s.x.u 33)), (.flt .f32 (s.x.u 34)), (.flt .f32 (s.x.u 37)), (.flt .f32 (s.x.u 36))] [] [0, 0, 0, 0] [zeroV, zeroV, zeroV, zeroV]) []) (.node [] (fcmp .lss .f32 ((di1_v_3 s).u 0) (s.x.u 0)) (.out 0 (mkSV [(.flt .f32 ((di1_v_3 s).u 0)), (.flt .f32 (s.x.u 1)), (.sint .i64 (s.x.i 2)), (.bool true), (.flt .f32 (s.x.u 4)), (.flt .f32 (s.x.u 5)), (.flt .f32 (s.x.u 6)), (.flt .f32 (s.x.u 7)), (.flt .f32 (s.x.u 8)), (.flt .f32 (s.x.u 9)), (.flt .f32 (s.x.u 10)), (.flt .f32 (s.x.u 11)), (.flt .f32 (s.x.u 12)), (.flt .f32 (s.x.u 13)), (.flt .f32 (s.x.u 14)), (.flt .f32 (s.x.u 15)), (.flt .f32 (s.x.u 16)), (.flt .f32 (s.x.u 17)), (.flt .f32 (s.x.u 18)), (.flt .f32 (s.x.u 19)), (.flt .f32 (s.x.u 20)), (.flt .f32 (s.x.u 21)), (.flt .f32 (s.x.u 22)), (.flt .f32 (s.x.u 23)), (.flt .f32 (s.x.u 24)), (.flt .f32 (s.x.u 25)), (.flt .f32 (s.x.u 26)), (.flt .f32 (s.x.u 27)), (.flt .f32 (s.x.u 28)), (.flt .f32 (s.x.u 29)), (.flt .f32 (s.x.u 30)), (.flt .f32 (s.x.u 31)), (.flt .f32 (s.x.u 32)), (.flt .f32 (s.x.u 33)), (.flt .f32 (s.x.u 34)), (.flt .f32 (s.x.u 38)), (.flt .f32 (s.x.u 36))] [] [0, 0, 0, 0] [zeroV, zeroV, zeroV, zeroV]) []) (.out 0 (mkSV [(.flt .f32 (s.x.u 0)), (.flt .f32 (s.x.u 1)), (.sint .i64 (s.x.i 2)), (.sbool (s.x.b 3)), (.flt .f32 (s.x.u 4)), (.flt .f32 (s.x.u 5)), (.flt .f32 (s.x.u 6)), (.flt .f32 (s.x.u 7)), (.flt .f32 (s.x.u 8)), (.flt .f32 (s.x.u 9)), (.flt .f32 (s.x.u 10)), (.flt .f32 (s.x.u 11)), (.flt .f32 (s.x.u 12)), (.flt .f32 (s.x.u 13)), (.flt .f32 (s.x.u 14)), (.flt .f32 (s.x.u 15)), (.flt .f32 (s.x.u 16)), (.flt .f32 (s.x.u 17)), (.flt .f32 (s.x.u 18)), (.flt .f32 (s.x.u 19)), (.flt .f32 (s.x.u 20)), (.flt .f32 (s.x.u 21)), (.flt .f32 (s.x.u 22)), (.flt .f32 (s.x.u 23)), (.flt .f32 (s.x.u 24)), (.flt .f32 (s.x.u 25)), (.flt .f32 (s.x.u 26)), (.flt .f32 (s.x.u 27)), (.flt .f32 (s.x.u 28)), (.flt .f32 (s.x.u 29)), (.flt .f32 (s.x.u 30)), (.flt .f32 (s.x.u 31)), (.flt .f32 (s.x.u 32)), (.flt .f32 (s.x.u 33)), (.flt .f32 (s.x.u 34)), (.flt .f32 (s.x.u 35)), (.flt .f32 (s.x.u 36))] [] [0, 0, 0, 0] [zeroV, zeroV, zeroV, zeroV]) [])))

theorem di1_t (s : SV) : Go.Sim.stepB Try.prog G21 (ntOf Try.prog 27) Hdi0 true 1000 di1L (blkOf Try.prog 27 4) s = some (di1T s) := by kernel_rfl

noncomputable def di1F0 (s : SV) : Nat × SV := endT (di1T s)

noncomputable def di1F : SV → Nat × SV := Classical.choose (⟨di1F0, rfl⟩ : ∃ f, f = di1F0)

theorem di1F_eq : di1F = di1F0 := Classical.choose_spec (⟨di1F0, rfl⟩ : ∃ f, f = di1F0)

noncomputable def di1Pre (_s : SV) : List Bool := []

noncomputable def Hdi1 : LTab := hookL 4 di1L di1Pre di1F Hdi0

theorem Hdi1_ok : HFun Try.prog 0 Hdi1 27 := by
  unfold Hdi1
  rw [di1F_eq]
  exact HFun.blk G21_ok mixed (J := true) (n := 1000) (L := di1L) (T := di1T) (pre := di1Pre) Hdi0_ok (by kernel_rfl) (by decide) (by decide) di1_t (fun _ _ => by unfold di1T; simp [Tr.ok])

theorem di1_keep (s : SV) : (di1F s).2.x.i 2 = s.x.i 2 ∧ (di1F s).2.x.u 1 = s.x.u 1 := by
  rw [di1F_eq]
  unfold di1F0 di1T endT
  simp only [Tr.pick]
  cases (fcmp .lss .f32 ((di1_v_1 s).u 0) (s.x.u 0)) <;> cases (fcmp .lss .f32 ((di1_v_3 s).u 0) (s.x.u 0)) <;> exact ⟨rfl, rfl⟩

noncomputable def di2_v_0 (s : SV) : Vars := (colourR [(.flt .f32 (s.x.u 4)), (.flt .f32 (s.x.u 5)), (.flt .f32 (s.x.u 6)), (.flt .f32 (s.x.u 7)), (.flt .f32 (s.x.u 8)), (.flt .f32 (s.x.u 9)), (.flt .f32 (s.x.u 10)), (.flt .f32 (s.x.u 11)), (.flt .f32 (s.x.u 12)), (.flt .f32 (s.x.u 13)), (.flt .f32 (s.x.u 14)), (.flt .f32 (s.x.u 15)), (.flt .f32 (s.x.u 16)), (.flt .f32 (s.x.u 17)), (.flt .f32 (s.x.u 18)), (.flt .f32 (s.x.u 19)), (.flt .f32 (s.x.u 20)), (.flt .f32 (s.x.u 21)), (.flt .f32 (s.x.u 22)), (.flt .f32 (s.x.u 23)), (.flt .f32 (s.x.u 24)), (.flt .f32 (s.x.u 25)), (.flt .f32 (s.x.u 26)), (.flt .f32 (s.x.u 27)), (.flt .f32 (s.x.u 34)), (.flt .f32 (s.x.u 35)), (.flt .f32 (s.x.u 37))])

noncomputable def di2_v_1 (s : SV) : Vars := (farR [(.flt .f32 ((di2_v_0 s).u 0)), (.flt .f32 ((di2_v_0 s).u 1)), (.flt .f32 ((di2_v_0 s).u 2)), (.flt .f32 (s.x.u 28)), (.flt .f32 (s.x.u 29)), (.flt .f32 (s.x.u 30))])

noncomputable def di2_v_2 (s : SV) : Vars := (colourR [(.flt .f32 (s.x.u 4)), (.flt .f32 (s.x.u 5)), (.flt .f32 (s.x.u 6)), (.flt .f32 (s.x.u 7)), (.flt .f32 (s.x.u 8)), (.flt .f32 (s.x.u 9)), (.flt .f32 (s.x.u 10)), (.flt .f32 (s.x.u 11)), (.flt .f32 (s.x.u 12)), (.flt .f32 (s.x.u 13)), (.flt .f32 (s.x.u 14)), (.flt .f32 (s.x.u 15)), (.flt .f32 (s.x.u 16)), (.flt .f32 (s.x.u 17)), (.flt .f32 (s.x.u 18)), (.flt .f32 (s.x.u 19)), (.flt .f32 (s.x.u 20)), (.flt .f32 (s.x.u 21)), (.flt .f32 (s.x.u 22)), (.flt .f32 (s.x.u 23)), (.flt .f32 (s.x.u 24)), (.flt .f32 (s.x.u 25)), (.flt .f32 (s.x.u 26)), (.flt .f32 (s.x.u 27)), (.flt .f32 (s.x.u 34)), (.flt .f32 (s.x.u 35)), (.flt .f32 (s.x.u 38))])

noncomputable def di2_v_3 (s : SV) : Vars := (farR [(.flt .f32 ((di2_v_2 s).u 0)), (.flt .f32 ((di2_v_2 s).u 1)), (.flt .f32 ((di2_v_2 s).u 2)), (.flt .f32 (s.x.u 28)), (.flt .f32 (s.x.u 29)), (.flt .f32 (s.x.u 30))])

noncomputable def di2T (s : SV) : Tr := (.node [] (fcmp .lss .f32 ((di2_v_1 s).u 0) (s.x.u 0)) (.out 0 (mkSV [(.flt .f32 ((di2_v_1 s).u 0)), (.flt .f32 (s.x.u 1)), (.sint .i64 (s.x.i 2)), (.bool true), (.flt .f32 (s.x.u 4)), (.flt .f32 (s.x.u 5)), (.flt .f32 (s.x.u 6)), (.flt .f32 (s.x.u 7)), (.flt .f32 (s.x.u 8)), (.flt .f32 (s.x.u 9)), (.flt .f32 (s.x.u 10)), (.flt .f32 (s.x.u 11)), (.flt .f32 (s.x.u 12)), (.flt .f32 (s.x.u 13)), (.flt .f32 (s.x.u 14)), (.flt .f32 (s.x.u 15)), (.flt .f32 (s.x.u 16)), (.flt .f32 (s.x.u 17)), (.flt .f32 (s.x.u 18)), (.flt .f32 (s.x.u 19)), (.flt .f32 (s.x.u 20)), (.flt .f32 (s.x.u 21)), (.flt .f32 (s.x.u 22)), (.flt .f32 (s.x.u 23)), (.flt .f32 (s.x.u 24)), (.flt .f32 (s.x.u 25)), (.flt .f32 (s.x.u 26)), (.flt .f32 (s.x.u 27)), (.flt .f32 (s.x.u 28)), (.flt .f32 (s.x.u 29)), (.flt .f32 (s.x.u 30)), (.flt .f32 (s.x.u 31)), (.flt .f32 (s.x.u 32)), (.flt .f32 (s.x.u 33)), (.flt .f32 (s.x.u 34)), (.flt .f32 (s.x.u 35)), (.flt .f32 (s.x.u 37))] [] [0, 0, 0, 0] [zeroV, zeroV, zeroV, zeroV]) []) (.node [] (fcmp .lss .f32 ((di2_v_3 s).u 0) (s.x.u 0)) (.out 0 (mkSV [(.flt .f32 ((di2_v_3 s).u 0)), (.flt .f32 (s.x.u 1)), (.sint .i64 (s.x.i 2)), (.bool true), (.flt .f32 (s.x.u 4)), (.flt .f32 (s.x.u 5)), (.flt .f32 (s.x.u 6)), (.flt .f32 (s.x.u 7)), (.flt .f32 (s.x.u 8)), (.flt .f32 (s.x.u 9)), (.flt .f32 (s.x.u 10)), (.flt .f32 (s.x.u 11)), (.flt .f32 (s.x.u 12)), (.flt .f32 (s.x.u 13)), (.flt .f32 (s.x.u 14)), (.flt .f32 (s.x.u 15)), (.flt .f32 (s.x.u 16)), (.flt .f32 (s.x.u 17)), (.flt .f32 (s.x.u 18)), (.flt .f32 (s.x.u 19)), (.flt .f32 (s.x.u 20)), (.flt .f32 (s.x.u 21)), (.flt .f32 (s.x.u 22)), (.flt .f32 (s.x.u 23)), (.flt .f32 (s.x.u 24)), (.flt .f32 (s.x.u 25)), (.flt .f32 (s.x.u 26)), (.flt .f32 (s.x.u 27)), (.flt .f32 (s.x.u 28)), (.flt .f32 (s.x.u 29)), (.flt .f32 (s.x.u 30)), (.flt .f32 (s.x.u 31)), (.flt .f32 (s.x.u 32)), (.flt .f32 (s.x.u 33)), (.flt .f32 (s.x.u 34)), (.flt .f32 (s.x.u 35)), (.flt .f32 (s.x.u 38))] [] [0, 0, 0, 0] [zeroV, zeroV, zeroV, zeroV]) []) (.out 0 (mkSV [(.flt .f32 (s.x.u 0)), (.flt .f32 (s.x.u 1)), (.sint .i64 (s.x.i 2)), (.sbool (s.x.b 3)), (.flt .f32 (s.x.u 4)), (.flt .f32 (s.x.u 5)), (.flt .f32 (s.x.u 6)), (.flt .f32 (s.x.u 7)), (.flt .f32 (s.x.u 8)), (.flt .f32 (s.x.u 9)), (.flt .f32 (s.x.u 10)), (.flt .f32 (s.x.u 11)), (.flt .f32 (s.x.u 12)), (.flt .f32 (s.x.u 13)), (.flt .f32 (s.x.u 14)), (.flt .f32 (s.x.u 15)), (.flt .f32 (s.x.u 16)), (.flt .f32 (s.x.u 17)), (.flt .f32 (s.x.u 18)), (.flt .f32 (s.x.u 19)), (.flt .f32 (s.x.u 20)), (.flt .f32 (s.x.u 21)), (.flt .f32 (s.x.u 22)), (.flt .f32 (s.x.u 23)), (.flt .f32 (s.x.u 24)), (.flt .f32 (s.x.u 25)), (.flt .f32 (s.x.u 26)), (.flt .f32 (s.x.u 27)), (.flt .f32 (s.x.u 28)), (.flt .f32 (s.x.u 29)), (.flt .f32 (s.x.u 30)), (.flt .f32 (s.x.u 31)), (.flt .f32 (s.x.u 32)), (.flt .f32 (s.x.u 33)), (.flt .f32 (s.x.u 34)), (.flt .f32 (s.x.u 35)), (.flt .f32 (s.x.u 36))] [] [0, 0, 0, 0] [zeroV, zeroV, zeroV, zeroV]) [])))

theorem di2_t (s : SV) : Go.Sim.stepB Try.prog G21 (ntOf Try.prog 27) Hdi1 true 1000 di2L (blkOf Try.prog 27 4) s = some (di2T s) := by kernel_rfl

noncomputable def di2F0 (s : SV) : Nat × SV := endT (di2T s)

noncomputable def di2F : SV → Nat × SV := Classical.choose (⟨di2F0, rfl⟩ : ∃ f, f = di2F0)

theorem di2F_eq : di2F = di2F0 := Classical.choose_spec (⟨di2F0, rfl⟩ : ∃ f, f = di2F0)

noncomputable def di2Pre (_s : SV) : List Bool := []

noncomputable def Hdi2 : LTab := hookL 4 di2L di2Pre di2F Hdi1

theorem Hdi2_ok : HFun Try.prog 0 Hdi2 27 := by
  unfold Hdi2
  rw [di2F_eq]
  exact HFun.blk G21_ok mixed (J := true) (n := 1000) (L := di2L) (T := di2T) (pre := di2Pre) Hdi1_ok (by kernel_rfl) (by decide) (by decide) di2_t (fun _ _ => by unfold di2T; simp [Tr.ok])

theorem di2_keep (s : SV) : (di2F s).2.x.i 2 = s.x.i 2 ∧ (di2F s).2.x.u 1 = s.x.u 1 := by
  rw [di2F_eq]
  unfold di2F0 di2T endT
  simp only [Tr.pick]
  cases (fcmp .lss .f32 ((di2_v_1 s).u 0) (s.x.u 0)) <;> cases (fcmp .lss .f32 ((di2_v_3 s).u 0) (s.x.u 0)) <;> exact ⟨rfl, rfl⟩

noncomputable def di_v_0 (s : SV) : Vars := (clampR [(.flt .f32 (farith .add .f32 (s.x.u 33) (s.x.u 1))), (.flt .f32 1065353216)])

noncomputable def di_v_1 (s : SV) : Vars := (clampR [(.flt .f32 (farith .sub .f32 (s.x.u 33) (s.x.u 1))), (.flt .f32 1065353216)])

noncomputable def di_v_2 (s : SV) : Nat × SV := (di0F (mkSV [(.flt .f32 (s.x.u 0)), (.flt .f32 (s.x.u 1)), (.sint .i64 (s.x.i 2)), (.bool false), (.flt .f32 (s.x.u 3)), (.flt .f32 (s.x.u 4)), (.flt .f32 (s.x.u 5)), (.flt .f32 (s.x.u 6)), (.flt .f32 (s.x.u 7)), (.flt .f32 (s.x.u 8)), (.flt .f32 (s.x.u 9)), (.flt .f32 (s.x.u 10)), (.flt .f32 (s.x.u 11)), (.flt .f32 (s.x.u 12)), (.flt .f32 (s.x.u 13)), (.flt .f32 (s.x.u 14)), (.flt .f32 (s.x.u 15)), (.flt .f32 (s.x.u 16)), (.flt .f32 (s.x.u 17)), (.flt .f32 (s.x.u 18)), (.flt .f32 (s.x.u 19)), (.flt .f32 (s.x.u 20)), (.flt .f32 (s.x.u 21)), (.flt .f32 (s.x.u 22)), (.flt .f32 (s.x.u 23)), (.flt .f32 (s.x.u 24)), (.flt .f32 (s.x.u 25)), (.flt .f32 (s.x.u 26)), (.flt .f32 (s.x.u 27)), (.flt .f32 (s.x.u 28)), (.flt .f32 (s.x.u 29)), (.flt .f32 (s.x.u 30)), (.flt .f32 (s.x.u 31)), (.flt .f32 (s.x.u 32)), (.flt .f32 (s.x.u 33)), (.flt .f32 (s.x.u 34)), (.flt .f32 (s.x.u 35)), (.flt .f32 ((di_v_0 s).u 0)), (.flt .f32 ((di_v_1 s).u 0))] [] [0, 0, 0, 0, 0] [zeroV, zeroV, zeroV, zeroV, zeroV]))

noncomputable def di_v_3 (s : SV) : Vars := (clampR [(.flt .f32 (farith .add .f32 ((di_v_2 s).2.x.u 35) ((di_v_2 s).2.x.u 1))), (.flt .f32 1065353216)])

noncomputable def di_v_4 (s : SV) : Vars := (clampR [(.flt .f32 (farith .sub .f32 ((di_v_2 s).2.x.u 35) ((di_v_2 s).2.x.u 1))), (.flt .f32 1065353216)])

noncomputable def di_v_5 (s : SV) : Nat × SV := (di1F (mkSV [(.flt .f32 ((di_v_2 s).2.x.u 0)), (.flt .f32 ((di_v_2 s).2.x.u 1)), (.sint .i64 ((di_v_2 s).2.x.i 2)), (.sbool ((di_v_2 s).2.x.b 3)), (.flt .f32 ((di_v_2 s).2.x.u 4)), (.flt .f32 ((di_v_2 s).2.x.u 5)), (.flt .f32 ((di_v_2 s).2.x.u 6)), (.flt .f32 ((di_v_2 s).2.x.u 7)), (.flt .f32 ((di_v_2 s).2.x.u 8)), (.flt .f32 ((di_v_2 s).2.x.u 9)), (.flt .f32 ((di_v_2 s).2.x.u 10)), (.flt .f32 ((di_v_2 s).2.x.u 11)), (.flt .f32 ((di_v_2 s).2.x.u 12)), (.flt .f32 ((di_v_2 s).2.x.u 13)), (.flt .f32 ((di_v_2 s).2.x.u 14)), (.flt .f32 ((di_v_2 s).2.x.u 15)), (.flt .f32 ((di_v_2 s).2.x.u 16)), (.flt .f32 ((di_v_2 s).2.x.u 17)), (.flt .f32 ((di_v_2 s).2.x.u 18)), (.flt .f32 ((di_v_2 s).2.x.u 19)), (.flt .f32 ((di_v_2 s).2.x.u 20)), (.flt .f32 ((di_v_2 s).2.x.u 21)), (.flt .f32 ((di_v_2 s).2.x.u 22)), (.flt .f32 ((di_v_2 s).2.x.u 23)), (.flt .f32 ((di_v_2 s).2.x.u 24)), (.flt .f32 ((di_v_2 s).2.x.u 25)), (.flt .f32 ((di_v_2 s).2.x.u 26)), (.flt .f32 ((di_v_2 s).2.x.u 27)), (.flt .f32 ((di_v_2 s).2.x.u 28)), (.flt .f32 ((di_v_2 s).2.x.u 29)), (.flt .f32 ((di_v_2 s).2.x.u 30)), (.flt .f32 ((di_v_2 s).2.x.u 31)), (.flt .f32 ((di_v_2 s).2.x.u 32)), (.flt .f32 ((di_v_2 s).2.x.u 33)), (.flt .f32 ((di_v_2 s).2.x.u 34)), (.flt .f32 ((di_v_2 s).2.x.u 35)), (.flt .f32 ((di_v_2 s).2.x.u 36)), (.flt .f32 ((di_v_3 s).u 0)), (.flt .f32 ((di_v_4 s).u 0))] [] [0, 0, 0, 0, 0] [zeroV, zeroV, zeroV, zeroV, zeroV]))

noncomputable def di_v_6 (s : SV) : Vars := (clampR [(.flt .f32 (farith .add .f32 ((di_v_5 s).2.x.u 36) ((di_v_5 s).2.x.u 1))), (.flt .f32 1065353216)])

noncomputable def di_v_7 (s : SV) : Vars := (clampR [(.flt .f32 (farith .sub .f32 ((di_v_5 s).2.x.u 36) ((di_v_5 s).2.x.u 1))), (.flt .f32 1065353216)])

noncomputable def di_v_8 (s : SV) : Nat × SV := (di2F (mkSV [(.flt .f32 ((di_v_5 s).2.x.u 0)), (.flt .f32 ((di_v_5 s).2.x.u 1)), (.sint .i64 ((di_v_5 s).2.x.i 2)), (.sbool ((di_v_5 s).2.x.b 3)), (.flt .f32 ((di_v_5 s).2.x.u 4)), (.flt .f32 ((di_v_5 s).2.x.u 5)), (.flt .f32 ((di_v_5 s).2.x.u 6)), (.flt .f32 ((di_v_5 s).2.x.u 7)), (.flt .f32 ((di_v_5 s).2.x.u 8)), (.flt .f32 ((di_v_5 s).2.x.u 9)), (.flt .f32 ((di_v_5 s).2.x.u 10)), (.flt .f32 ((di_v_5 s).2.x.u 11)), (.flt .f32 ((di_v_5 s).2.x.u 12)), (.flt .f32 ((di_v_5 s).2.x.u 13)), (.flt .f32 ((di_v_5 s).2.x.u 14)), (.flt .f32 ((di_v_5 s).2.x.u 15)), (.flt .f32 ((di_v_5 s).2.x.u 16)), (.flt .f32 ((di_v_5 s).2.x.u 17)), (.flt .f32 ((di_v_5 s).2.x.u 18)), (.flt .f32 ((di_v_5 s).2.x.u 19)), (.flt .f32 ((di_v_5 s).2.x.u 20)), (.flt .f32 ((di_v_5 s).2.x.u 21)), (.flt .f32 ((di_v_5 s).2.x.u 22)), (.flt .f32 ((di_v_5 s).2.x.u 23)), (.flt .f32 ((di_v_5 s).2.x.u 24)), (.flt .f32 ((di_v_5 s).2.x.u 25)), (.flt .f32 ((di_v_5 s).2.x.u 26)), (.flt .f32 ((di_v_5 s).2.x.u 27)), (.flt .f32 ((di_v_5 s).2.x.u 28)), (.flt .f32 ((di_v_5 s).2.x.u 29)), (.flt .f32 ((di_v_5 s).2.x.u 30)), (.flt .f32 ((di_v_5 s).2.x.u 31)), (.flt .f32 ((di_v_5 s).2.x.u 32)), (.flt .f32 ((di_v_5 s).2.x.u 33)), (.flt .f32 ((di_v_5 s).2.x.u 34)), (.flt .f32 ((di_v_5 s).2.x.u 35)), (.flt .f32 ((di_v_5 s).2.x.u 36)), (.flt .f32 ((di_v_6 s).u 0)), (.flt .f32 ((di_v_7 s).u 0))] [] [0, 0, 0, 0, 0] [zeroV, zeroV, zeroV, zeroV, zeroV]))

noncomputable def diN (s : SV) : SV := (mkSV [(.flt .f32 (bif (!((di_v_8 s).2.x.b 3)) then ((di_v_8 s).2.x.u 0) else ((di_v_8 s).2.x.u 0))), (.flt .f32 (bif (!((di_v_8 s).2.x.b 3)) then (farith .quo .f32 ((di_v_8 s).2.x.u 1) 1073741824) else ((di_v_8 s).2.x.u 1))), (.sint .i64 (iadd (bif (!((di_v_8 s).2.x.b 3)) then ((di_v_8 s).2.x.i 2) else ((di_v_8 s).2.x.i 2)) 1)), (.flt .f32 ((di_v_8 s).2.x.u 4)), (.flt .f32 ((di_v_8 s).2.x.u 5)), (.flt .f32 ((di_v_8 s).2.x.u 6)), (.flt .f32 ((di_v_8 s).2.x.u 7)), (.flt .f32 ((di_v_8 s).2.x.u 8)), (.flt .f32 ((di_v_8 s).2.x.u 9)), (.flt .f32 ((di_v_8 s).2.x.u 10)), (.flt .f32 ((di_v_8 s).2.x.u 11)), (.flt .f32 ((di_v_8 s).2.x.u 12)), (.flt .f32 ((di_v_8 s).2.x.u 13)), (.flt .f32 ((di_v_8 s).2.x.u 14)), (.flt .f32 ((di_v_8 s).2.x.u 15)), (.flt .f32 ((di_v_8 s).2.x.u 16)), (.flt .f32 ((di_v_8 s).2.x.u 17)), (.flt .f32 ((di_v_8 s).2.x.u 18)), (.flt .f32 ((di_v_8 s).2.x.u 19)), (.flt .f32 ((di_v_8 s).2.x.u 20)), (.flt .f32 ((di_v_8 s).2.x.u 21)), (.flt .f32 ((di_v_8 s).2.x.u 22)), (.flt .f32 ((di_v_8 s).2.x.u 23)), (.flt .f32 ((di_v_8 s).2.x.u 24)), (.flt .f32 ((di_v_8 s).2.x.u 25)), (.flt .f32 ((di_v_8 s).2.x.u 26)), (.flt .f32 ((di_v_8 s).2.x.u 27)), (.flt .f32 ((di_v_8 s).2.x.u 28)), (.flt .f32 ((di_v_8 s).2.x.u 29)), (.flt .f32 ((di_v_8 s).2.x.u 30)), (.flt .f32 ((di_v_8 s).2.x.u 31)), (.flt .f32 ((di_v_8 s).2.x.u 32)), (.flt .f32 ((di_v_8 s).2.x.u 33)), (.flt .f32 ((di_v_8 s).2.x.u 34)), (.flt .f32 ((di_v_8 s).2.x.u 35)), (.flt .f32 ((di_v_8 s).2.x.u 36))] [] [0, 0, 0, 0] [zeroV, zeroV, zeroV, zeroV])

noncomputable def diT (s : SV) : Tr := (.node [] ((!(fcmp .lss .f32 (s.x.u 1) 981668463)) && (decide ((s.x.i 2) < 400))) (.next (diN s) [((decide ((-(9223372036854775807 + 1)) ≤ (iadd (bif (!((di_v_8 s).2.x.b 3)) then ((di_v_8 s).2.x.i 2) else ((di_v_8 s).2.x.i 2)) 1))) && (decide ((iadd (bif (!((di_v_8 s).2.x.b 3)) then ((di_v_8 s).2.x.i 2) else ((di_v_8 s).2.x.i 2)) 1) ≤ 9223372036854775807)))]) (.out 0 (mkSV [(.flt .f32 (s.x.u 0)), (.flt .f32 (s.x.u 1)), (.sint .i64 (s.x.i 2)), (.flt .f32 (s.x.u 3)), (.flt .f32 (s.x.u 4)), (.flt .f32 (s.x.u 5)), (.flt .f32 (s.x.u 6)), (.flt .f32 (s.x.u 7)), (.flt .f32 (s.x.u 8)), (.flt .f32 (s.x.u 9)), (.flt .f32 (s.x.u 10)), (.flt .f32 (s.x.u 11)), (.flt .f32 (s.x.u 12)), (.flt .f32 (s.x.u 13)), (.flt .f32 (s.x.u 14)), (.flt .f32 (s.x.u 15)), (.flt .f32 (s.x.u 16)), (.flt .f32 (s.x.u 17)), (.flt .f32 (s.x.u 18)), (.flt .f32 (s.x.u 19)), (.flt .f32 (s.x.u 20)), (.flt .f32 (s.x.u 21)), (.flt .f32 (s.x.u 22)), (.flt .f32 (s.x.u 23)), (.flt .f32 (s.x.u 24)), (.flt .f32 (s.x.u 25)), (.flt .f32 (s.x.u 26)), (.flt .f32 (s.x.u 27)), (.flt .f32 (s.x.u 28)), (.flt .f32 (s.x.u 29)), (.flt .f32 (s.x.u 30)), (.flt .f32 (s.x.u 31)), (.flt .f32 (s.x.u 32)), (.flt .f32 (s.x.u 33)), (.flt .f32 (s.x.u 34)), (.flt .f32 (s.x.u 35))] [] [0, 0, 0, 0] [zeroV, zeroV, zeroV, zeroV]) []))

theorem di_t (s : SV) : Go.Sim.stepT Try.prog G21 (ntOf Try.prog 27) Hdi2 true 1000 diL (loopOf Try.prog 27 0) s = some (diT s) := by kernel_rfl

def diMu (s : SV) : Nat := (400 - s.x.i 2).toNat

noncomputable def diF0 (s : SV) : Nat × SV := Go.Sim.runT diT (diMu s + 1) s

noncomputable def diF : SV → Nat × SV := Classical.choose (⟨diF0, rfl⟩ : ∃ f, f = diF0)

theorem diF_eq : diF = diF0 := Classical.choose_spec (⟨diF0, rfl⟩ : ∃ f, f = diF0)

noncomputable def diPre (s : SV) : List Bool := [decide (0 ≤ s.x.i 2), decide (s.x.i 2 ≤ 400)]

noncomputable def Hdi : LTab := hookL 0 diL diPre diF Hdi2

theorem blk0 (s t : SV) (h : (List.range 37).map t.x.u = (List.range 37).map s.x.u) (hb : t.x.b 3 = s.x.b 3) (ha : t.x.u 37 = (clipR [(.flt .f32 (farith .add .f32 (s.x.u 34) (s.x.u 37)))]).u 0) (hc : t.x.u 38 = (clipR [(.flt .f32 (farith .add .f32 (s.x.u 34) (s.x.u 38)))]).u 0) :
    (List.range 37).map (di0F t).2.x.u = (List.range 37).map (ds0F s).2.x.u ∧ (di0F t).2.x.b 3 = (ds0F s).2.x.b 3 := by
  have h0 : t.x.u 0 = s.x.u 0 := congrArg (fun l : List Nat => l.getD 0 0) h
  have h1 : t.x.u 1 = s.x.u 1 := congrArg (fun l : List Nat => l.getD 1 0) h
  have h2 : t.x.u 2 = s.x.u 2 := congrArg (fun l : List Nat => l.getD 2 0) h
  have h3 : t.x.u 3 = s.x.u 3 := congrArg (fun l : List Nat => l.getD 3 0) h
  have h4 : t.x.u 4 = s.x.u 4 := congrArg (fun l : List Nat => l.getD 4 0) h
  have h5 : t.x.u 5 = s.x.u 5 := congrArg (fun l : List Nat => l.getD 5 0) h
  have h6 : t.x.u 6 = s.x.u 6 := congrArg (fun l : List Nat => l.getD 6 0) h
  have h7 : t.x.u 7 = s.x.u 7 := congrArg (fun l : List Nat => l.getD 7 0) h
  have h8 : t.x.u 8 = s.x.u 8 := congrArg (fun l : List Nat => l.getD 8 0) h
  have h9 : t.x.u 9 = s.x.u 9 := congrArg (fun l : List Nat => l.getD 9 0) h
  have h10 : t.x.u 10 = s.x.u 10 := congrArg (fun l : List Nat => l.getD 10 0) h
  have h11 : t.x.u 11 = s.x.u 11 := congrArg (fun l : List Nat => l.getD 11 0) h
  have h12 : t.x.u 12 = s.x.u 12 := congrArg (fun l : List Nat => l.getD 12 0) h
  have h13 : t.x.u 13 = s.x.u 13 := congrArg (fun l : List Nat => l.getD 13 0) h
  have h14 : t.x.u 14 = s.x.u 14 := congrArg (fun l : List Nat => l.getD 14 0) h
  have h15 : t.x.u 15 = s.x.u 15 := congrArg (fun l : List Nat => l.getD 15 0) h
  have h16 : t.x.u 16 = s.x.u 16 := congrArg (fun l : List Nat => l.getD 16 0) h
  have h17 : t.x.u 17 = s.x.u 17 := congrArg (fun l : List Nat => l.getD 17 0) h
  have h18 : t.x.u 18 = s.x.u 18 := congrArg (fun l : List Nat => l.getD 18 0) h
  have h19 : t.x.u 19 = s.x.u 19 := congrArg (fun l : List Nat => l.getD 19 0) h
  have h20 : t.x.u 20 = s.x.u 20 := congrArg (fun l : List Nat => l.getD 20 0) h
  have h21 : t.x.u 21 = s.x.u 21 := congrArg (fun l : List Nat => l.getD 21 0) h
  have h22 : t.x.u 22 = s.x.u 22 := congrArg (fun l : List Nat => l.getD 22 0) h
  have h23 : t.x.u 23 = s.x.u 23 := congrArg (fun l : List Nat => l.getD 23 0) h
  have h24 : t.x.u 24 = s.x.u 24 := congrArg (fun l : List Nat => l.getD 24 0) h
  have h25 : t.x.u 25 = s.x.u 25 := congrArg (fun l : List Nat => l.getD 25 0) h
  have h26 : t.x.u 26 = s.x.u 26 := congrArg (fun l : List Nat => l.getD 26 0) h
  have h27 : t.x.u 27 = s.x.u 27 := congrArg (fun l : List Nat => l.getD 27 0) h
  have h28 : t.x.u 28 = s.x.u 28 := congrArg (fun l : List Nat => l.getD 28 0) h
  have h29 : t.x.u 29 = s.x.u 29 := congrArg (fun l : List Nat => l.getD 29 0) h
  have h30 : t.x.u 30 = s.x.u 30 := congrArg (fun l : List Nat => l.getD 30 0) h
  have h31 : t.x.u 31 = s.x.u 31 := congrArg (fun l : List Nat => l.getD 31 0) h
  have h32 : t.x.u 32 = s.x.u 32 := congrArg (fun l : List Nat => l.getD 32 0) h
  have h33 : t.x.u 33 = s.x.u 33 := congrArg (fun l : List Nat => l.getD 33 0) h
  have h34 : t.x.u 34 = s.x.u 34 := congrArg (fun l : List Nat => l.getD 34 0) h
  have h35 : t.x.u 35 = s.x.u 35 := congrArg (fun l : List Nat => l.getD 35 0) h
  have h36 : t.x.u 36 = s.x.u 36 := congrArg (fun l : List Nat => l.getD 36 0) h
  have f1 : (di0_v_1 t).u 0 = (ds0_v_2 s).u 0 := by
    simp only [di0_v_1, di0_v_0, ds0_v_2, ds0_v_1, ds0_v_0, *]
  have f2 : (di0_v_3 t).u 0 = (ds0_v_5 s).u 0 := by
    simp only [di0_v_3, di0_v_2, ds0_v_5, ds0_v_4, ds0_v_3, *]
  rw [di0F_eq, ds0F_eq]
  unfold di0F0 ds0F0 di0T ds0T endT
  simp only [Tr.pick]
  rw [f1, f2, h0]
  generalize (fcmp .lss .f32 ((ds0_v_2 s).u 0) (s.x.u 0)) = c1
  generalize (fcmp .lss .f32 ((ds0_v_5 s).u 0) (s.x.u 0)) = c2
  generalize (ds0_v_2 s).u 0 = r1
  generalize (ds0_v_5 s).u 0 = r2
  simp only [ds0_v_0, ds0_v_3, *]
  cases c1 <;> cases c2 <;> exact ⟨rfl, rfl⟩

theorem blk1 (s t : SV) (h : (List.range 37).map t.x.u = (List.range 37).map s.x.u) (hb : t.x.b 3 = s.x.b 3) (ha : t.x.u 37 = (clipR [(.flt .f32 (farith .add .f32 (s.x.u 35) (s.x.u 37)))]).u 0) (hc : t.x.u 38 = (clipR [(.flt .f32 (farith .add .f32 (s.x.u 35) (s.x.u 38)))]).u 0) :
    (List.range 37).map (di1F t).2.x.u = (List.range 37).map (ds1F s).2.x.u ∧ (di1F t).2.x.b 3 = (ds1F s).2.x.b 3 := by
  have h0 : t.x.u 0 = s.x.u 0 := congrArg (fun l : List Nat => l.getD 0 0) h
  have h1 : t.x.u 1 = s.x.u 1 := congrArg (fun l : List Nat => l.getD 1 0) h
  have h2 : t.x.u 2 = s.x.u 2 := congrArg (fun l : List Nat => l.getD 2 0) h
  have h3 : t.x.u 3 = s.x.u 3 := congrArg (fun l : List Nat => l.getD 3 0) h
  have h4 : t.x.u 4 = s.x.u 4 := congrArg (fun l : List Nat => l.getD 4 0) h
  have h5 : t.x.u 5 = s.x.u 5 := congrArg (fun l : List Nat => l.getD 5 0) h
  have h6 : t.x.u 6 = s.x.u 6 := congrArg (fun l : List Nat => l.getD 6 0) h
  have h7 : t.x.u 7 = s.x.u 7 := congrArg (fun l : List Nat => l.getD 7 0) h
  have h8 : t.x.u 8 = s.x.u 8 := congrArg (fun l : List Nat => l.getD 8 0) h
  have h9 : t.x.u 9 = s.x.u 9 := congrArg (fun l : List Nat => l.getD 9 0) h
  have h10 : t.x.u 10 = s.x.u 10 := congrArg (fun l : List Nat => l.getD 10 0) h
  have h11 : t.x.u 11 = s.x.u 11 := congrArg (fun l : List Nat => l.getD 11 0) h
  have h12 : t.x.u 12 = s.x.u 12 := congrArg (fun l : List Nat => l.getD 12 0) h
  have h13 : t.x.u 13 = s.x.u 13 := congrArg (fun l : List Nat => l.getD 13 0) h
  have h14 : t.x.u 14 = s.x.u 14 := congrArg (fun l : List Nat => l.getD 14 0) h
  have h15 : t.x.u 15 = s.x.u 15 := congrArg (fun l : List Nat => l.getD 15 0) h
  have h16 : t.x.u 16 = s.x.u 16 := congrArg (fun l : List Nat => l.getD 16 0) h
  have h17 : t.x.u 17 = s.x.u 17 := congrArg (fun l : List Nat => l.getD 17 0) h
  have h18 : t.x.u 18 = s.x.u 18 := congrArg (fun l : List Nat => l.getD 18 0) h
  have h19 : t.x.u 19 = s.x.u 19 := congrArg (fun l : List Nat => l.getD 19 0) h
  have h20 : t.x.u 20 = s.x.u 20 := congrArg (fun l : List Nat => l.getD 20 0) h
  have h21 : t.x.u 21 = s.x.u 21 := congrArg (fun l : List Nat => l.getD 21 0) h
  have h22 : t.x.u 22 = s.x.u 22 := congrArg (fun l : List Nat => l.getD 22 0) h
  have h23 : t.x.u 23 = s.x.u 23 := congrArg (fun l : List Nat => l.getD 23 0) h
  have h24 : t.x.u 24 = s.x.u 24 := congrArg (fun l : List Nat => l.getD 24 0) h
  have h25 : t.x.u 25 = s.x.u 25 := congrArg (fun l : List Nat => l.getD 25 0) h
  have h26 : t.x.u 26 = s.x.u 26 := congrArg (fun l : List Nat => l.getD 26 0) h
  have h27 : t.x.u 27 = s.x.u 27 := congrArg (fun l : List Nat => l.getD 27 0) h
  have h28 : t.x.u 28 = s.x.u 28 := congrArg (fun l : List Nat => l.getD 28 0) h
  have h29 : t.x.u 29 = s.x.u 29 := congrArg (fun l : List Nat => l.getD 29 0) h
  have h30 : t.x.u 30 = s.x.u 30 := congrArg (fun l : List Nat => l.getD 30 0) h
  have h31 : t.x.u 31 = s.x.u 31 := congrArg (fun l : List Nat => l.getD 31 0) h
  have h32 : t.x.u 32 = s.x.u 32 := congrArg (fun l : List Nat => l.getD 32 0) h
  have h33 : t.x.u 33 = s.x.u 33 := congrArg (fun l : List Nat => l.getD 33 0) h
  have h34 : t.x.u 34 = s.x.u 34 := congrArg (fun l : List Nat => l.getD 34 0) h
  have h35 : t.x.u 35 = s.x.u 35 := congrArg (fun l : List Nat => l.getD 35 0) h
  have h36 : t.x.u 36 = s.x.u 36 := congrArg (fun l : List Nat => l.getD 36 0) h
  have f1 : (di1_v_1 t).u 0 = (ds1_v_2 s).u 0 := by
    simp only [di1_v_1, di1_v_0, ds1_v_2, ds1_v_1, ds1_v_0, *]
  have f2 : (di1_v_3 t).u 0 = (ds1_v_5 s).u 0 := by
    simp only [di1_v_3, di1_v_2, ds1_v_5, ds1_v_4, ds1_v_3, *]
  rw [di1F_eq, ds1F_eq]
  unfold di1F0 ds1F0 di1T ds1T endT
  simp only [Tr.pick]
  rw [f1, f2, h0]
  generalize (fcmp .lss .f32 ((ds1_v_2 s).u 0) (s.x.u 0)) = c1
  generalize (fcmp .lss .f32 ((ds1_v_5 s).u 0) (s.x.u 0)) = c2
  generalize (ds1_v_2 s).u 0 = r1
  generalize (ds1_v_5 s).u 0 = r2
  simp only [ds1_v_0, ds1_v_3, *]
  cases c1 <;> cases c2 <;> exact ⟨rfl, rfl⟩

theorem blk2 (s t : SV) (h : (List.range 37).map t.x.u = (List.range 37).map s.x.u) (hb : t.x.b 3 = s.x.b 3) (ha : t.x.u 37 = (clipR [(.flt .f32 (farith .add .f32 (s.x.u 36) (s.x.u 37)))]).u 0) (hc : t.x.u 38 = (clipR [(.flt .f32 (farith .add .f32 (s.x.u 36) (s.x.u 38)))]).u 0) :
    (List.range 37).map (di2F t).2.x.u = (List.range 37).map (ds2F s).2.x.u ∧ (di2F t).2.x.b 3 = (ds2F s).2.x.b 3 := by
  have h0 : t.x.u 0 = s.x.u 0 := congrArg (fun l : List Nat => l.getD 0 0) h
  have h1 : t.x.u 1 = s.x.u 1 := congrArg (fun l : List Nat => l.getD 1 0) h
  have h2 : t.x.u 2 = s.x.u 2 := congrArg (fun l : List Nat => l.getD 2 0) h
  have h3 : t.x.u 3 = s.x.u 3 := congrArg (fun l : List Nat => l.getD 3 0) h
  have h4 : t.x.u 4 = s.x.u 4 := congrArg (fun l : List Nat => l.getD 4 0) h
  have h5 : t.x.u 5 = s.x.u 5 := congrArg (fun l : List Nat => l.getD 5 0) h
  have h6 : t.x.u 6 = s.x.u 6 := congrArg (fun l : List Nat => l.getD 6 0) h
  have h7 : t.x.u 7 = s.x.u 7 := congrArg (fun l : List Nat => l.getD 7 0) h
  have h8 : t.x.u 8 = s.x.u 8 := congrArg (fun l : List Nat => l.getD 8 0) h
  have h9 : t.x.u 9 = s.x.u 9 := congrArg (fun l : List Nat => l.getD 9 0) h
  have h10 : t.x.u 10 = s.x.u 10 := congrArg (fun l : List Nat => l.getD 10 0) h
  have h11 : t.x.u 11 = s.x.u 11 := congrArg (fun l : List Nat => l.getD 11 0) h
  have h12 : t.x.u 12 = s.x.u 12 := congrArg (fun l : List Nat => l.getD 12 0) h
  have h13 : t.x.u 13 = s.x.u 13 := congrArg (fun l : List Nat => l.getD 13 0) h
  have h14 : t.x.u 14 = s.x.u 14 := congrArg (fun l : List Nat => l.getD 14 0) h
  have h15 : t.x.u 15 = s.x.u 15 := congrArg (fun l : List Nat => l.getD 15 0) h
  have h16 : t.x.u 16 = s.x.u 16 := congrArg (fun l : List Nat => l.getD 16 0) h
  have h17 : t.x.u 17 = s.x.u 17 := congrArg (fun l : List Nat => l.getD 17 0) h
  have h18 : t.x.u 18 = s.x.u 18 := congrArg (fun l : List Nat => l.getD 18 0) h
  have h19 : t.x.u 19 = s.x.u 19 := congrArg (fun l : List Nat => l.getD 19 0) h
  have h20 : t.x.u 20 = s.x.u 20 := congrArg (fun l : List Nat => l.getD 20 0) h
  have h21 : t.x.u 21 = s.x.u 21 := congrArg (fun l : List Nat => l.getD 21 0) h
  have h22 : t.x.u 22 = s.x.u 22 := congrArg (fun l : List Nat => l.getD 22 0) h
  have h23 : t.x.u 23 = s.x.u 23 := congrArg (fun l : List Nat => l.getD 23 0) h
  have h24 : t.x.u 24 = s.x.u 24 := congrArg (fun l : List Nat => l.getD 24 0) h
  have h25 : t.x.u 25 = s.x.u 25 := congrArg (fun l : List Nat => l.getD 25 0) h
  have h26 : t.x.u 26 = s.x.u 26 := congrArg (fun l : List Nat => l.getD 26 0) h
  have h27 : t.x.u 27 = s.x.u 27 := congrArg (fun l : List Nat => l.getD 27 0) h
  have h28 : t.x.u 28 = s.x.u 28 := congrArg (fun l : List Nat => l.getD 28 0) h
  have h29 : t.x.u 29 = s.x.u 29 := congrArg (fun l : List Nat => l.getD 29 0) h
  have h30 : t.x.u 30 = s.x.u 30 := congrArg (fun l : List Nat => l.getD 30 0) h
  have h31 : t.x.u 31 = s.x.u 31 := congrArg (fun l : List Nat => l.getD 31 0) h
  have h32 : t.x.u 32 = s.x.u 32 := congrArg (fun l : List Nat => l.getD 32 0) h
  have h33 : t.x.u 33 = s.x.u 33 := congrArg (fun l : List Nat => l.getD 33 0) h
  have h34 : t.x.u 34 = s.x.u 34 := congrArg (fun l : List Nat => l.getD 34 0) h
  have h35 : t.x.u 35 = s.x.u 35 := congrArg (fun l : List Nat => l.getD 35 0) h
  have h36 : t.x.u 36 = s.x.u 36 := congrArg (fun l : List Nat => l.getD 36 0) h
  have f1 : (di2_v_1 t).u 0 = (ds2_v_2 s).u 0 := by
    simp only [di2_v_1, di2_v_0, ds2_v_2, ds2_v_1, ds2_v_0, *]
  have f2 : (di2_v_3 t).u 0 = (ds2_v_5 s).u 0 := by
    simp only [di2_v_3, di2_v_2, ds2_v_5, ds2_v_4, ds2_v_3, *]
  rw [di2F_eq, ds2F_eq]
  unfold di2F0 ds2F0 di2T ds2T endT
  simp only [Tr.pick]
  rw [f1, f2, h0]
  generalize (fcmp .lss .f32 ((ds2_v_2 s).u 0) (s.x.u 0)) = c1
  generalize (fcmp .lss .f32 ((ds2_v_5 s).u 0) (s.x.u 0)) = c2
  generalize (ds2_v_2 s).u 0 = r1
  generalize (ds2_v_5 s).u 0 = r2
  simp only [ds2_v_0, ds2_v_3, *]
  cases c1 <;> cases c2 <;> exact ⟨rfl, rfl⟩

end Go.Proofs.Ytigcbcaknhhgmaa

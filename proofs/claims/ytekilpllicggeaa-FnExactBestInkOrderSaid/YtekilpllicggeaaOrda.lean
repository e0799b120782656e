/-
  Facts of this seat that its laws use; no conditions.
-/
import Derived.Test.YtekilpllicggeaaBase
import Derived.Test.YtekilpllicggeaaSimZi
namespace Go.Proofs.Ytekilpllicggeaa
open Go.Sim Go.ChangeShapes Go.WideShapes Go.ChangeAt Go.RowKit

noncomputable def G2 : Summ := inlGs Try.prog 1000 [57] G1

theorem G2_ok : SoundG Try.prog G2 := by
  refine SoundG.inls mixed G1_ok fun f hf => ?_
  simp only [List.mem_cons, List.not_mem_nil, or_false] at hf
  subst hf
  exact Try.call57

noncomputable def lo0L : LP := { A := 2, ts := [0, 3, 4], F := ⟨[.cst (.int .i64 4), .slc 2 0 1 1, .cst (.int .i64 0)], [.lit [.sc (.flt .f32), .sc (.flt .f32), .sc (.flt .f32), .sc (.flt .f32)] true, .lit [.cst (.int .i8 0), .cst (.int .i8 0), .cst (.int .i8 0), .cst (.int .i8 0)] true, .lit [.slc 3 0 0 1] true, .lit [] true]⟩, xs := [(.normal, [0, 3, 4], ⟨[.cst (.int .i64 4), .slc 2 0 4 1, .cst (.int .i64 0)], [.lit [.sc (.flt .f32), .sc (.flt .f32), .sc (.flt .f32), .sc (.flt .f32)] true, .lit [.cst (.int .i8 0), .cst (.int .i8 0), .cst (.int .i8 0), .cst (.int .i8 0)] true, .lit [.slc 3 0 1 1, .slc 4 0 1 1, .slc 5 0 1 1, .slc 6 0 1 1] true, .lit [.cst (.int .i64 0)] true, .lit [.cst (.int .i64 1)] true, .lit [.cst (.int .i64 2)] true, .lit [.cst (.int .i64 3)] true]⟩)] }

noncomputable def lo0T (s : SV) : Tr := (.out 0 (mkSV [(.flt .f32 (s.x.u 0)), (.flt .f32 (s.x.u 1)), (.flt .f32 (s.x.u 2)), (.flt .f32 (s.x.u 3))] [] [0, 0, 0, 0, 0, 0, 0] [zeroV, zeroV, zeroV, zeroV, zeroV, zeroV, zeroV]) [])

theorem lo0_t (s : SV) : Go.Sim.stepB Try.prog G2 (ntOf Try.prog 73) noLT true 1000 lo0L (blkOf Try.prog 73 1) s = some (lo0T s) := by kernel_rfl

noncomputable def lo0F0 (s : SV) : Nat × SV := endT (lo0T s)

noncomputable def lo0F : SV → Nat × SV := Classical.choose (⟨lo0F0, rfl⟩ : ∃ f, f = lo0F0)

theorem lo0F_eq : lo0F = lo0F0 := Classical.choose_spec (⟨lo0F0, rfl⟩ : ∃ f, f = lo0F0)

noncomputable def lo0Pre (_s : SV) : List Bool := []

noncomputable def Hlo0 : LTab := hookL 1 lo0L lo0Pre lo0F noLT

theorem Hlo0_ok : HFun Try.prog 2 Hlo0 73 := by
  unfold Hlo0
  rw [lo0F_eq]
  exact HFun.blk G2_ok mixed (J := true) (n := 1000) (L := lo0L) (T := lo0T) (pre := lo0Pre) (HFun.none Try.prog 2 73) (by kernel_rfl) (by decide) (by decide) lo0_t (fun _ _ => by unfold lo0T; simp [Tr.ok])

noncomputable def lo1L : LP := { A := 2, ts := [0, 3, 4], F := ⟨[.cst (.int .i64 4), .slc 2 0 4 1, .cst (.int .i64 1)], [.lit [.sc (.flt .f32), .sc (.flt .f32), .sc (.flt .f32), .sc (.flt .f32)] true, .lit [.cst (.int .i8 0), .cst (.int .i8 0), .cst (.int .i8 0), .cst (.int .i8 0)] true, .lit [.slc 3 0 1 1, .slc 4 0 1 1, .slc 5 0 1 1, .slc 6 0 1 1] true, .lit [.cst (.int .i64 0)] true, .lit [.cst (.int .i64 1)] true, .lit [.cst (.int .i64 2)] true, .lit [.cst (.int .i64 3)] true]⟩, xs := [(.normal, [0, 3, 4], ⟨[.cst (.int .i64 4), .slc 2 0 12 1, .cst (.int .i64 1)], [.lit [.sc (.flt .f32), .sc (.flt .f32), .sc (.flt .f32), .sc (.flt .f32)] true, .lit [.cst (.int .i8 0), .cst (.int .i8 0), .cst (.int .i8 0), .cst (.int .i8 0)] true, .lit [.slc 3 0 2 1, .slc 4 0 2 1, .slc 5 0 2 1, .slc 6 0 2 1, .slc 7 0 2 1, .slc 8 0 2 1, .slc 9 0 2 1, .slc 10 0 2 1, .slc 11 0 2 1, .slc 12 0 2 1, .slc 13 0 2 1, .slc 14 0 2 1] true, .lit [.cst (.int .i64 0), .cst (.int .i64 1)] true, .lit [.cst (.int .i64 0), .cst (.int .i64 2)] true, .lit [.cst (.int .i64 0), .cst (.int .i64 3)] true, .lit [.cst (.int .i64 1), .cst (.int .i64 0)] true, .lit [.cst (.int .i64 1), .cst (.int .i64 2)] true, .lit [.cst (.int .i64 1), .cst (.int .i64 3)] true, .lit [.cst (.int .i64 2), .cst (.int .i64 0)] true, .lit [.cst (.int .i64 2), .cst (.int .i64 1)] true, .lit [.cst (.int .i64 2), .cst (.int .i64 3)] true, .lit [.cst (.int .i64 3), .cst (.int .i64 0)] true, .lit [.cst (.int .i64 3), .cst (.int .i64 1)] true, .lit [.cst (.int .i64 3), .cst (.int .i64 2)] true]⟩)] }

noncomputable def lo1T (s : SV) : Tr := (.out 0 (mkSV [(.flt .f32 (s.x.u 0)), (.flt .f32 (s.x.u 1)), (.flt .f32 (s.x.u 2)), (.flt .f32 (s.x.u 3))] [] [0, 0, 0, 0, 0, 0, 0, 0, 0, 0, 0, 0, 0, 0, 0] [zeroV, zeroV, zeroV, zeroV, zeroV, zeroV, zeroV, zeroV, zeroV, zeroV, zeroV, zeroV, zeroV, zeroV, zeroV]) [])

theorem lo1_t (s : SV) : Go.Sim.stepB Try.prog G2 (ntOf Try.prog 73) Hlo0 true 1000 lo1L (blkOf Try.prog 73 1) s = some (lo1T s) := by kernel_rfl

noncomputable def lo1F0 (s : SV) : Nat × SV := endT (lo1T s)

noncomputable def lo1F : SV → Nat × SV := Classical.choose (⟨lo1F0, rfl⟩ : ∃ f, f = lo1F0)

theorem lo1F_eq : lo1F = lo1F0 := Classical.choose_spec (⟨lo1F0, rfl⟩ : ∃ f, f = lo1F0)

noncomputable def lo1Pre (_s : SV) : List Bool := []

noncomputable def Hlo1 : LTab := hookL 1 lo1L lo1Pre lo1F Hlo0

theorem Hlo1_ok : HFun Try.prog 2 Hlo1 73 := by
  unfold Hlo1
  rw [lo1F_eq]
  exact HFun.blk G2_ok mixed (J := true) (n := 1000) (L := lo1L) (T := lo1T) (pre := lo1Pre) Hlo0_ok (by kernel_rfl) (by decide) (by decide) lo1_t (fun _ _ => by unfold lo1T; simp [Tr.ok])

noncomputable def lo2L : LP := { A := 2, ts := [0, 3, 4], F := ⟨[.cst (.int .i64 4), .slc 2 0 12 1, .cst (.int .i64 2)], [.lit [.sc (.flt .f32), .sc (.flt .f32), .sc (.flt .f32), .sc (.flt .f32)] true, .lit [.cst (.int .i8 0), .cst (.int .i8 0), .cst (.int .i8 0), .cst (.int .i8 0)] true, .lit [.slc 3 0 2 1, .slc 4 0 2 1, .slc 5 0 2 1, .slc 6 0 2 1, .slc 7 0 2 1, .slc 8 0 2 1, .slc 9 0 2 1, .slc 10 0 2 1, .slc 11 0 2 1, .slc 12 0 2 1, .slc 13 0 2 1, .slc 14 0 2 1] true, .lit [.cst (.int .i64 0), .cst (.int .i64 1)] true, .lit [.cst (.int .i64 0), .cst (.int .i64 2)] true, .lit [.cst (.int .i64 0), .cst (.int .i64 3)] true, .lit [.cst (.int .i64 1), .cst (.int .i64 0)] true, .lit [.cst (.int .i64 1), .cst (.int .i64 2)] true, .lit [.cst (.int .i64 1), .cst (.int .i64 3)] true, .lit [.cst (.int .i64 2), .cst (.int .i64 0)] true, .lit [.cst (.int .i64 2), .cst (.int .i64 1)] true, .lit [.cst (.int .i64 2), .cst (.int .i64 3)] true, .lit [.cst (.int .i64 3), .cst (.int .i64 0)] true, .lit [.cst (.int .i64 3), .cst (.int .i64 1)] true, .lit [.cst (.int .i64 3), .cst (.int .i64 2)] true]⟩, xs := [(.normal, [0, 3, 4], ⟨[.cst (.int .i64 4), .slc 2 0 24 1, .cst (.int .i64 2)], [.lit [.sc (.flt .f32), .sc (.flt .f32), .sc (.flt .f32), .sc (.flt .f32)] true, .lit [.cst (.int .i8 0), .cst (.int .i8 0), .cst (.int .i8 0), .cst (.int .i8 0)] true, .lit [.slc 3 0 3 1, .slc 4 0 3 1, .slc 5 0 3 1, .slc 6 0 3 1, .slc 7 0 3 1, .slc 8 0 3 1, .slc 9 0 3 1, .slc 10 0 3 1, .slc 11 0 3 1, .slc 12 0 3 1, .slc 13 0 3 1, .slc 14 0 3 1, .slc 15 0 3 1, .slc 16 0 3 1, .slc 17 0 3 1, .slc 18 0 3 1, .slc 19 0 3 1, .slc 20 0 3 1, .slc 21 0 3 1, .slc 22 0 3 1, .slc 23 0 3 1, .slc 24 0 3 1, .slc 25 0 3 1, .slc 26 0 3 1] true, .lit [.cst (.int .i64 0), .cst (.int .i64 1), .cst (.int .i64 2)] true, .lit [.cst (.int .i64 0), .cst (.int .i64 1), .cst (.int .i64 3)] true, .lit [.cst (.int .i64 0), .cst (.int .i64 2), .cst (.int .i64 1)] true, .lit [.cst (.int .i64 0), .cst (.int .i64 2), .cst (.int .i64 3)] true, .lit [.cst (.int .i64 0), .cst (.int .i64 3), .cst (.int .i64 1)] true, .lit [.cst (.int .i64 0), .cst (.int .i64 3), .cst (.int .i64 2)] true, .lit [.cst (.int .i64 1), .cst (.int .i64 0), .cst (.int .i64 2)] true, .lit [.cst (.int .i64 1), .cst (.int .i64 0), .cst (.int .i64 3)] true, .lit [.cst (.int .i64 1), .cst (.int .i64 2), .cst (.int .i64 0)] true, .lit [.cst (.int .i64 1), .cst (.int .i64 2), .cst (.int .i64 3)] true, .lit [.cst (.int .i64 1), .cst (.int .i64 3), .cst (.int .i64 0)] true, .lit [.cst (.int .i64 1), .cst (.int .i64 3), .cst (.int .i64 2)] true, .lit [.cst (.int .i64 2), .cst (.int .i64 0), .cst (.int .i64 1)] true, .lit [.cst (.int .i64 2), .cst (.int .i64 0), .cst (.int .i64 3)] true, .lit [.cst (.int .i64 2), .cst (.int .i64 1), .cst (.int .i64 0)] true, .lit [.cst (.int .i64 2), .cst (.int .i64 1), .cst (.int .i64 3)] true, .lit [.cst (.int .i64 2), .cst (.int .i64 3), .cst (.int .i64 0)] true, .lit [.cst (.int .i64 2), .cst (.int .i64 3), .cst (.int .i64 1)] true, .lit [.cst (.int .i64 3), .cst (.int .i64 0), .cst (.int .i64 1)] true, .lit [.cst (.int .i64 3), .cst (.int .i64 0), .cst (.int .i64 2)] true, .lit [.cst (.int .i64 3), .cst (.int .i64 1), .cst (.int .i64 0)] true, .lit [.cst (.int .i64 3), .cst (.int .i64 1), .cst (.int .i64 2)] true, .lit [.cst (.int .i64 3), .cst (.int .i64 2), .cst (.int .i64 0)] true, .lit [.cst (.int .i64 3), .cst (.int .i64 2), .cst (.int .i64 1)] true]⟩)] }

noncomputable def lo2T (s : SV) : Tr := (.out 0 (mkSV [(.flt .f32 (s.x.u 0)), (.flt .f32 (s.x.u 1)), (.flt .f32 (s.x.u 2)), (.flt .f32 (s.x.u 3))] [] [0, 0, 0, 0, 0, 0, 0, 0, 0, 0, 0, 0, 0, 0, 0, 0, 0, 0, 0, 0, 0, 0, 0, 0, 0, 0, 0] [zeroV, zeroV, zeroV, zeroV, zeroV, zeroV, zeroV, zeroV, zeroV, zeroV, zeroV, zeroV, zeroV, zeroV, zeroV, zeroV, zeroV, zeroV, zeroV, zeroV, zeroV, zeroV, zeroV, zeroV, zeroV, zeroV, zeroV]) [])

theorem lo2_t (s : SV) : Go.Sim.stepB Try.prog G2 (ntOf Try.prog 73) Hlo1 true 1000 lo2L (blkOf Try.prog 73 1) s = some (lo2T s) := by kernel_rfl

noncomputable def lo2F0 (s : SV) : Nat × SV := endT (lo2T s)

noncomputable def lo2F : SV → Nat × SV := Classical.choose (⟨lo2F0, rfl⟩ : ∃ f, f = lo2F0)

theorem lo2F_eq : lo2F = lo2F0 := Classical.choose_spec (⟨lo2F0, rfl⟩ : ∃ f, f = lo2F0)

noncomputable def lo2Pre (_s : SV) : List Bool := []

noncomputable def Hlo2 : LTab := hookL 1 lo2L lo2Pre lo2F Hlo1

theorem Hlo2_ok : HFun Try.prog 2 Hlo2 73 := by
  unfold Hlo2
  rw [lo2F_eq]
  exact HFun.blk G2_ok mixed (J := true) (n := 1000) (L := lo2L) (T := lo2T) (pre := lo2Pre) Hlo1_ok (by kernel_rfl) (by decide) (by decide) lo2_t (fun _ _ => by unfold lo2T; simp [Tr.ok])

noncomputable def lo3L : LP := { A := 2, ts := [0, 3, 4], F := ⟨[.cst (.int .i64 4), .slc 2 0 24 1, .cst (.int .i64 3)], [.lit [.sc (.flt .f32), .sc (.flt .f32), .sc (.flt .f32), .sc (.flt .f32)] true, .lit [.cst (.int .i8 0), .cst (.int .i8 0), .cst (.int .i8 0), .cst (.int .i8 0)] true, .lit [.slc 3 0 3 1, .slc 4 0 3 1, .slc 5 0 3 1, .slc 6 0 3 1, .slc 7 0 3 1, .slc 8 0 3 1, .slc 9 0 3 1, .slc 10 0 3 1, .slc 11 0 3 1, .slc 12 0 3 1, .slc 13 0 3 1, .slc 14 0 3 1, .slc 15 0 3 1, .slc 16 0 3 1, .slc 17 0 3 1, .slc 18 0 3 1, .slc 19 0 3 1, .slc 20 0 3 1, .slc 21 0 3 1, .slc 22 0 3 1, .slc 23 0 3 1, .slc 24 0 3 1, .slc 25 0 3 1, .slc 26 0 3 1] true, .lit [.cst (.int .i64 0), .cst (.int .i64 1), .cst (.int .i64 2)] true, .lit [.cst (.int .i64 0), .cst (.int .i64 1), .cst (.int .i64 3)] true, .lit [.cst (.int .i64 0), .cst (.int .i64 2), .cst (.int .i64 1)] true, .lit [.cst (.int .i64 0), .cst (.int .i64 2), .cst (.int .i64 3)] true, .lit [.cst (.int .i64 0), .cst (.int .i64 3), .cst (.int .i64 1)] true, .lit [.cst (.int .i64 0), .cst (.int .i64 3), .cst (.int .i64 2)] true, .lit [.cst (.int .i64 1), .cst (.int .i64 0), .cst (.int .i64 2)] true, .lit [.cst (.int .i64 1), .cst (.int .i64 0), .cst (.int .i64 3)] true, .lit [.cst (.int .i64 1), .cst (.int .i64 2), .cst (.int .i64 0)] true, .lit [.cst (.int .i64 1), .cst (.int .i64 2), .cst (.int .i64 3)] true, .lit [.cst (.int .i64 1), .cst (.int .i64 3), .cst (.int .i64 0)] true, .lit [.cst (.int .i64 1), .cst (.int .i64 3), .cst (.int .i64 2)] true, .lit [.cst (.int .i64 2), .cst (.int .i64 0), .cst (.int .i64 1)] true, .lit [.cst (.int .i64 2), .cst (.int .i64 0), .cst (.int .i64 3)] true, .lit [.cst (.int .i64 2), .cst (.int .i64 1), .cst (.int .i64 0)] true, .lit [.cst (.int .i64 2), .cst (.int .i64 1), .cst (.int .i64 3)] true, .lit [.cst (.int .i64 2), .cst (.int .i64 3), .cst (.int .i64 0)] true, .lit [.cst (.int .i64 2), .cst (.int .i64 3), .cst (.int .i64 1)] true, .lit [.cst (.int .i64 3), .cst (.int .i64 0), .cst (.int .i64 1)] true, .lit [.cst (.int .i64 3), .cst (.int .i64 0), .cst (.int .i64 2)] true, .lit [.cst (.int .i64 3), .cst (.int .i64 1), .cst (.int .i64 0)] true, .lit [.cst (.int .i64 3), .cst (.int .i64 1), .cst (.int .i64 2)] true, .lit [.cst (.int .i64 3), .cst (.int .i64 2), .cst (.int .i64 0)] true, .lit [.cst (.int .i64 3), .cst (.int .i64 2), .cst (.int .i64 1)] true]⟩, xs := [(.normal, [0, 3, 4], ⟨[.cst (.int .i64 4), .slc 2 0 24 1, .cst (.int .i64 3)], [.lit [.sc (.flt .f32), .sc (.flt .f32), .sc (.flt .f32), .sc (.flt .f32)] true, .lit [.cst (.int .i8 0), .cst (.int .i8 0), .cst (.int .i8 0), .cst (.int .i8 0)] true, .lit [.slc 3 0 4 1, .slc 4 0 4 1, .slc 5 0 4 1, .slc 6 0 4 1, .slc 7 0 4 1, .slc 8 0 4 1, .slc 9 0 4 1, .slc 10 0 4 1, .slc 11 0 4 1, .slc 12 0 4 1, .slc 13 0 4 1, .slc 14 0 4 1, .slc 15 0 4 1, .slc 16 0 4 1, .slc 17 0 4 1, .slc 18 0 4 1, .slc 19 0 4 1, .slc 20 0 4 1, .slc 21 0 4 1, .slc 22 0 4 1, .slc 23 0 4 1, .slc 24 0 4 1, .slc 25 0 4 1, .slc 26 0 4 1] true, .lit [.cst (.int .i64 0), .cst (.int .i64 1), .cst (.int .i64 2), .cst (.int .i64 3)] true, .lit [.cst (.int .i64 0), .cst (.int .i64 1), .cst (.int .i64 3), .cst (.int .i64 2)] true, .lit [.cst (.int .i64 0), .cst (.int .i64 2), .cst (.int .i64 1), .cst (.int .i64 3)] true, .lit [.cst (.int .i64 0), .cst (.int .i64 2), .cst (.int .i64 3), .cst (.int .i64 1)] true, .lit [.cst (.int .i64 0), .cst (.int .i64 3), .cst (.int .i64 1), .cst (.int .i64 2)] true, .lit [.cst (.int .i64 0), .cst (.int .i64 3), .cst (.int .i64 2), .cst (.int .i64 1)] true, .lit [.cst (.int .i64 1), .cst (.int .i64 0), .cst (.int .i64 2), .cst (.int .i64 3)] true, .lit [.cst (.int .i64 1), .cst (.int .i64 0), .cst (.int .i64 3), .cst (.int .i64 2)] true, .lit [.cst (.int .i64 1), .cst (.int .i64 2), .cst (.int .i64 0), .cst (.int .i64 3)] true, .lit [.cst (.int .i64 1), .cst (.int .i64 2), .cst (.int .i64 3), .cst (.int .i64 0)] true, .lit [.cst (.int .i64 1), .cst (.int .i64 3), .cst (.int .i64 0), .cst (.int .i64 2)] true, .lit [.cst (.int .i64 1), .cst (.int .i64 3), .cst (.int .i64 2), .cst (.int .i64 0)] true, .lit [.cst (.int .i64 2), .cst (.int .i64 0), .cst (.int .i64 1), .cst (.int .i64 3)] true, .lit [.cst (.int .i64 2), .cst (.int .i64 0), .cst (.int .i64 3), .cst (.int .i64 1)] true, .lit [.cst (.int .i64 2), .cst (.int .i64 1), .cst (.int .i64 0), .cst (.int .i64 3)] true, .lit [.cst (.int .i64 2), .cst (.int .i64 1), .cst (.int .i64 3), .cst (.int .i64 0)] true, .lit [.cst (.int .i64 2), .cst (.int .i64 3), .cst (.int .i64 0), .cst (.int .i64 1)] true, .lit [.cst (.int .i64 2), .cst (.int .i64 3), .cst (.int .i64 1), .cst (.int .i64 0)] true, .lit [.cst (.int .i64 3), .cst (.int .i64 0), .cst (.int .i64 1), .cst (.int .i64 2)] true, .lit [.cst (.int .i64 3), .cst (.int .i64 0), .cst (.int .i64 2), .cst (.int .i64 1)] true, .lit [.cst (.int .i64 3), .cst (.int .i64 1), .cst (.int .i64 0), .cst (.int .i64 2)] true, .lit [.cst (.int .i64 3), .cst (.int .i64 1), .cst (.int .i64 2), .cst (.int .i64 0)] true, .lit [.cst (.int .i64 3), .cst (.int .i64 2), .cst (.int .i64 0), .cst (.int .i64 1)] true, .lit [.cst (.int .i64 3), .cst (.int .i64 2), .cst (.int .i64 1), .cst (.int .i64 0)] true]⟩)] }

noncomputable def lo3T (s : SV) : Tr := (.out 0 (mkSV [(.flt .f32 (s.x.u 0)), (.flt .f32 (s.x.u 1)), (.flt .f32 (s.x.u 2)), (.flt .f32 (s.x.u 3))] [] [0, 0, 0, 0, 0, 0, 0, 0, 0, 0, 0, 0, 0, 0, 0, 0, 0, 0, 0, 0, 0, 0, 0, 0, 0, 0, 0] [zeroV, zeroV, zeroV, zeroV, zeroV, zeroV, zeroV, zeroV, zeroV, zeroV, zeroV, zeroV, zeroV, zeroV, zeroV, zeroV, zeroV, zeroV, zeroV, zeroV, zeroV, zeroV, zeroV, zeroV, zeroV, zeroV, zeroV]) [])

theorem lo3_t (s : SV) : Go.Sim.stepB Try.prog G2 (ntOf Try.prog 73) Hlo2 true 1000 lo3L (blkOf Try.prog 73 1) s = some (lo3T s) := by kernel_rfl

noncomputable def lo3F0 (s : SV) : Nat × SV := endT (lo3T s)

noncomputable def lo3F : SV → Nat × SV := Classical.choose (⟨lo3F0, rfl⟩ : ∃ f, f = lo3F0)

theorem lo3F_eq : lo3F = lo3F0 := Classical.choose_spec (⟨lo3F0, rfl⟩ : ∃ f, f = lo3F0)

noncomputable def lo3Pre (_s : SV) : List Bool := []

noncomputable def Hlo3 : LTab := hookL 1 lo3L lo3Pre lo3F Hlo2

theorem Hlo3_ok : HFun Try.prog 2 Hlo3 73 := by
  unfold Hlo3
  rw [lo3F_eq]
  exact HFun.blk G2_ok mixed (J := true) (n := 1000) (L := lo3L) (T := lo3T) (pre := lo3Pre) Hlo2_ok (by kernel_rfl) (by decide) (by decide) lo3_t (fun _ _ => by unfold lo3T; simp [Tr.ok])

noncomputable def G3 : Summ := inlWH Try.prog 1000 2 Hlo3 73 G2

theorem G3_ok : SoundG Try.prog G3 := SoundG.inlWH G2_ok mixed Hlo3_ok Try.call73

end Go.Proofs.Ytekilpllicggeaa

/-
  Facts of this seat that its laws use; no conditions.
-/
import Derived.Test.YtdagaggpaohmcaaSheetF
namespace Go.Proofs.Ytdagaggpaohmcaa
open Go.Sim Go.ChangeShapes Go.WideShapes Go.ChangeAt Go.RowKit

noncomputable def coverB0 (l : List AV) : Bool := (!((validUnitR (l.take 129)).b 0))

theorem coverVal (x : Vars) (h0 : coverB0 (mkL x 0 (kdsP [.val (.ag kd2), .val (.ag kd3)])) = false) : (validUnitR (mkL x 0 (kdsP [.val (.ag kd2)]))).b 0 = true :=
  notBF ((show (!((validUnitR (mkL x 0 (kdsP [.val (.ag kd2)]))).b 0)) = coverB0 (mkL x 0 (kdsP [.val (.ag kd2), .val (.ag kd3)])) from by kernel_rfl).trans h0)

theorem coverRng (x : Vars) (h0 : coverB0 (mkL x 0 (kdsP [.val (.ag kd2), .val (.ag kd3)])) = false) : 1 ≤ x.i 0 ∧ x.i 0 ≤ 8 :=
  have F := validUnit_rng x (coverVal x h0)
  ⟨F.1, F.2.1⟩

noncomputable def G33 : Summ := inlGs Try.prog 1000 [84] G32

theorem G33_ok : SoundG Try.prog G33 := by
  refine SoundG.inls mixed G32_ok fun f hf => ?_
  simp only [List.mem_cons, List.not_mem_nil, or_false] at hf
  subst hf
  exact Try.call84



noncomputable def cover_vE0 (x : Vars) : AV := .sint .i64 (1)

noncomputable def coverZE0 (l : List AV) : Vars := outV (some (cover_vE0 (varsOf l), []))

theorem cover_xE0 (x : Vars) : mkR (coverZE0 (mkL x 0 (kdsP [.val (.ag kd2), .val (.ag kd3)]))) [.sc (.int .i64)] = cover_vE0 x := by kernel_rfl



noncomputable def cover_v1 (x : Vars) : AV := .sint .i64 ((bif (!(!(!((isPartR [(.flt .f32 (x.u 129))]).b 0)))) then 2 else 0))

noncomputable def coverZ1 (l : List AV) : Vars := outV (some (cover_v1 (varsOf l), []))

theorem cover_x1 (x : Vars) : mkR (coverZ1 (mkL x 0 (kdsP [.val (.ag kd2), .val (.ag kd3)]))) [.sc (.int .i64)] = cover_v1 x := by kernel_rfl



noncomputable def cover_v2 (x : Vars) : AV := .sint .i64 ((bif (!(bif (!((isPartR [(.flt .f32 (x.u 129))]).b 0)) then false else (!(!((isPartR [(.flt .f32 (x.u 130))]).b 0))))) then 2 else 0))

noncomputable def coverZ2 (l : List AV) : Vars := outV (some (cover_v2 (varsOf l), []))

theorem cover_x2 (x : Vars) : mkR (coverZ2 (mkL x 0 (kdsP [.val (.ag kd2), .val (.ag kd3)]))) [.sc (.int .i64)] = cover_v2 x := by kernel_rfl



noncomputable def cover_v3 (x : Vars) : AV := .sint .i64 ((bif (!(bif (!((isPartR [(.flt .f32 (x.u 129))]).b 0)) then false else (bif (!((isPartR [(.flt .f32 (x.u 130))]).b 0)) then false else (!(!((isPartR [(.flt .f32 (x.u 131))]).b 0)))))) then 2 else 0))

noncomputable def coverZ3 (l : List AV) : Vars := outV (some (cover_v3 (varsOf l), []))

theorem cover_x3 (x : Vars) : mkR (coverZ3 (mkL x 0 (kdsP [.val (.ag kd2), .val (.ag kd3)]))) [.sc (.int .i64)] = cover_v3 x := by kernel_rfl



noncomputable def cover_v4 (x : Vars) : AV := .sint .i64 ((bif (!(bif (!((isPartR [(.flt .f32 (x.u 129))]).b 0)) then false else (bif (!((isPartR [(.flt .f32 (x.u 130))]).b 0)) then false else (bif (!((isPartR [(.flt .f32 (x.u 131))]).b 0)) then false else (!(!((isPartR [(.flt .f32 (x.u 132))]).b 0))))))) then 2 else 0))

noncomputable def coverZ4 (l : List AV) : Vars := outV (some (cover_v4 (varsOf l), []))

theorem cover_x4 (x : Vars) : mkR (coverZ4 (mkL x 0 (kdsP [.val (.ag kd2), .val (.ag kd3)]))) [.sc (.int .i64)] = cover_v4 x := by kernel_rfl



noncomputable def cover_v5 (x : Vars) : AV := .sint .i64 ((bif (!(bif (!((isPartR [(.flt .f32 (x.u 129))]).b 0)) then false else (bif (!((isPartR [(.flt .f32 (x.u 130))]).b 0)) then false else (bif (!((isPartR [(.flt .f32 (x.u 131))]).b 0)) then false else (bif (!((isPartR [(.flt .f32 (x.u 132))]).b 0)) then false else (!(!((isPartR [(.flt .f32 (x.u 133))]).b 0)))))))) then 2 else 0))

noncomputable def coverZ5 (l : List AV) : Vars := outV (some (cover_v5 (varsOf l), []))

theorem cover_x5 (x : Vars) : mkR (coverZ5 (mkL x 0 (kdsP [.val (.ag kd2), .val (.ag kd3)]))) [.sc (.int .i64)] = cover_v5 x := by kernel_rfl



noncomputable def cover_v6 (x : Vars) : AV := .sint .i64 ((bif (!(bif (!((isPartR [(.flt .f32 (x.u 129))]).b 0)) then false else (bif (!((isPartR [(.flt .f32 (x.u 130))]).b 0)) then false else (bif (!((isPartR [(.flt .f32 (x.u 131))]).b 0)) then false else (bif (!((isPartR [(.flt .f32 (x.u 132))]).b 0)) then false else (bif (!((isPartR [(.flt .f32 (x.u 133))]).b 0)) then false else (!(!((isPartR [(.flt .f32 (x.u 134))]).b 0))))))))) then 2 else 0))

noncomputable def coverZ6 (l : List AV) : Vars := outV (some (cover_v6 (varsOf l), []))

theorem cover_x6 (x : Vars) : mkR (coverZ6 (mkL x 0 (kdsP [.val (.ag kd2), .val (.ag kd3)]))) [.sc (.int .i64)] = cover_v6 x := by kernel_rfl



noncomputable def cover_v7 (x : Vars) : AV := .sint .i64 ((bif (!(bif (!((isPartR [(.flt .f32 (x.u 129))]).b 0)) then false else (bif (!((isPartR [(.flt .f32 (x.u 130))]).b 0)) then false else (bif (!((isPartR [(.flt .f32 (x.u 131))]).b 0)) then false else (bif (!((isPartR [(.flt .f32 (x.u 132))]).b 0)) then false else (bif (!((isPartR [(.flt .f32 (x.u 133))]).b 0)) then false else (bif (!((isPartR [(.flt .f32 (x.u 134))]).b 0)) then false else (!(!((isPartR [(.flt .f32 (x.u 135))]).b 0)))))))))) then 2 else 0))

noncomputable def coverZ7 (l : List AV) : Vars := outV (some (cover_v7 (varsOf l), []))

theorem cover_x7 (x : Vars) : mkR (coverZ7 (mkL x 0 (kdsP [.val (.ag kd2), .val (.ag kd3)]))) [.sc (.int .i64)] = cover_v7 x := by kernel_rfl



noncomputable def cover_v8 (x : Vars) : AV := .sint .i64 ((bif (!(bif (!((isPartR [(.flt .f32 (x.u 129))]).b 0)) then false else (bif (!((isPartR [(.flt .f32 (x.u 130))]).b 0)) then false else (bif (!((isPartR [(.flt .f32 (x.u 131))]).b 0)) then false else (bif (!((isPartR [(.flt .f32 (x.u 132))]).b 0)) then false else (bif (!((isPartR [(.flt .f32 (x.u 133))]).b 0)) then false else (bif (!((isPartR [(.flt .f32 (x.u 134))]).b 0)) then false else (bif (!((isPartR [(.flt .f32 (x.u 135))]).b 0)) then false else (!(!((isPartR [(.flt .f32 (x.u 136))]).b 0))))))))))) then 2 else 0))

noncomputable def coverZ8 (l : List AV) : Vars := outV (some (cover_v8 (varsOf l), []))

theorem cover_x8 (x : Vars) : mkR (coverZ8 (mkL x 0 (kdsP [.val (.ag kd2), .val (.ag kd3)]))) [.sc (.int .i64)] = cover_v8 x := by kernel_rfl

noncomputable def coverR0 (l : List AV) : Vars := bif coverB0 l then coverZE0 l else (bif decide (intOf (leafN l 0) = 1) then (coverZ1 l) else (bif decide (intOf (leafN l 0) = 2) then (coverZ2 l) else (bif decide (intOf (leafN l 0) = 3) then (coverZ3 l) else (bif decide (intOf (leafN l 0) = 4) then (coverZ4 l) else (bif decide (intOf (leafN l 0) = 5) then (coverZ5 l) else (bif decide (intOf (leafN l 0) = 6) then (coverZ6 l) else (bif decide (intOf (leafN l 0) = 7) then (coverZ7 l) else (coverZ8 l))))))))

noncomputable def coverR : List AV → Vars := Classical.choose (⟨coverR0, rfl⟩ : ∃ f, f = coverR0)

theorem coverR_eq : coverR = coverR0 := Classical.choose_spec (⟨coverR0, rfl⟩ : ∃ f, f = coverR0)

noncomputable def cover_66_E0_a0 (x : Vars) : Vars := validUnitR (apl [(.sint .i8 (x.i 0))] (apl (fl x 1 8) (apl [(.sint .i8 (x.i 9))] (apl (fl x 10 14) (apl [(.sint .i8 (x.i 24))] (apl (fl x 25 14) (apl [(.sint .i8 (x.i 39))] (apl (fl x 40 14) (apl [(.sint .i8 (x.i 54))] (apl (fl x 55 14) (apl [(.sint .i8 (x.i 69))] (apl (fl x 70 14) (apl [(.sint .i8 (x.i 84))] (apl (fl x 85 14) (apl [(.sint .i8 (x.i 99))] (apl (fl x 100 14) (apl [(.sint .i8 (x.i 114))] (fl x 115 14))))))))))))))))))


noncomputable def cover_cs66_E0 (x : Vars) : List Bool := [(!((cover_66_E0_a0 x).b 0))]

set_option maxRecDepth 100000 in
theorem cover_c66_E0 (x : Vars) (ho : OkV (kdsP [.val (.ag kd2), .val (.ag kd3)]) x) (h0 : coverB0 (mkL x 0 (kdsP [.val (.ag kd2), .val (.ag kd3)])) = true) : ∀ b ∈ cover_cs66_E0 x, b = true := by
  unfold cover_cs66_E0
  exact (allC ((show (_ : Bool) = coverB0 (mkL x 0 (kdsP [.val (.ag kd2), .val (.ag kd3)])) from by kernel_rfl).trans h0) allN)

theorem cover_f66_E0 (x : Vars) : (funH Try.prog G33 noLT true 1000 66 (argsP [.val (.ag kd2), .val (.ag kd3)] 0 (mkL x 0 (kdsP [.val (.ag kd2), .val (.ag kd3)]))) (memP [.val (.ag kd2), .val (.ag kd3)] (mkL x 0 (kdsP [.val (.ag kd2), .val (.ag kd3)]))) [true]).map (fun r => (normR r.1, untupR r.1 && r.1.flat, r.2)) = some (cover_vE0 x, true, cover_cs66_E0 x) := by kernel_rfl

noncomputable def cover_66_1_a0 (x : Vars) : Vars := validUnitR (apl [(.sint .i8 1)] (apl (fl x 1 8) (apl [(.sint .i8 (x.i 9))] (apl (fl x 10 14) (apl [(.sint .i8 (x.i 24))] (apl (fl x 25 14) (apl [(.sint .i8 (x.i 39))] (apl (fl x 40 14) (apl [(.sint .i8 (x.i 54))] (apl (fl x 55 14) (apl [(.sint .i8 (x.i 69))] (apl (fl x 70 14) (apl [(.sint .i8 (x.i 84))] (apl (fl x 85 14) (apl [(.sint .i8 (x.i 99))] (apl (fl x 100 14) (apl [(.sint .i8 (x.i 114))] (fl x 115 14))))))))))))))))))


noncomputable def cover_cs66_1 (x : Vars) : List Bool := [(!(!((cover_66_1_a0 x).b 0)))]

set_option maxRecDepth 100000 in
theorem cover_c66_1 (x : Vars) (ho : OkV (kdsP [.val (.ag kd2), .val (.ag kd3)]) x) (h0 : coverB0 (mkL x 0 (kdsP [.val (.ag kd2), .val (.ag kd3)])) = false) (hz : x.i 0 = 1) : ∀ b ∈ cover_cs66_1 x, b = true := by
  unfold cover_cs66_1
  exact (allC (notT ((show (_ : Bool) = coverB0 (normL (litL (mkL x 0 (kdsP [.val (.ag kd2), .val (.ag kd3)])) 0 1)) from by kernel_rfl).trans ((congrArg coverB0 (litL_mk hz)).trans h0))) allN)

theorem cover_f66_1 (x : Vars) : (funH Try.prog G33 noLT true 1000 66 (argsP [.val (.ag kd2), .val (.ag kd3)] 0 (litL (mkL x 0 (kdsP [.val (.ag kd2), .val (.ag kd3)])) 0 1)) (memP [.val (.ag kd2), .val (.ag kd3)] (litL (mkL x 0 (kdsP [.val (.ag kd2), .val (.ag kd3)])) 0 1)) [false]).map (fun r => (normR r.1, untupR r.1 && r.1.flat, r.2)) = some (cover_v1 x, true, cover_cs66_1 x) := by kernel_rfl

noncomputable def cover_66_2_a0 (x : Vars) : Vars := validUnitR (apl [(.sint .i8 2)] (apl (fl x 1 8) (apl [(.sint .i8 (x.i 9))] (apl (fl x 10 14) (apl [(.sint .i8 (x.i 24))] (apl (fl x 25 14) (apl [(.sint .i8 (x.i 39))] (apl (fl x 40 14) (apl [(.sint .i8 (x.i 54))] (apl (fl x 55 14) (apl [(.sint .i8 (x.i 69))] (apl (fl x 70 14) (apl [(.sint .i8 (x.i 84))] (apl (fl x 85 14) (apl [(.sint .i8 (x.i 99))] (apl (fl x 100 14) (apl [(.sint .i8 (x.i 114))] (fl x 115 14))))))))))))))))))


noncomputable def cover_cs66_2 (x : Vars) : List Bool := [(!(!((cover_66_2_a0 x).b 0)))]

set_option maxRecDepth 100000 in
theorem cover_c66_2 (x : Vars) (ho : OkV (kdsP [.val (.ag kd2), .val (.ag kd3)]) x) (h0 : coverB0 (mkL x 0 (kdsP [.val (.ag kd2), .val (.ag kd3)])) = false) (hz : x.i 0 = 2) : ∀ b ∈ cover_cs66_2 x, b = true := by
  unfold cover_cs66_2
  exact (allC (notT ((show (_ : Bool) = coverB0 (normL (litL (mkL x 0 (kdsP [.val (.ag kd2), .val (.ag kd3)])) 0 2)) from by kernel_rfl).trans ((congrArg coverB0 (litL_mk hz)).trans h0))) allN)

theorem cover_f66_2 (x : Vars) : (funH Try.prog G33 noLT true 1000 66 (argsP [.val (.ag kd2), .val (.ag kd3)] 0 (litL (mkL x 0 (kdsP [.val (.ag kd2), .val (.ag kd3)])) 0 2)) (memP [.val (.ag kd2), .val (.ag kd3)] (litL (mkL x 0 (kdsP [.val (.ag kd2), .val (.ag kd3)])) 0 2)) [false]).map (fun r => (normR r.1, untupR r.1 && r.1.flat, r.2)) = some (cover_v2 x, true, cover_cs66_2 x) := by kernel_rfl

noncomputable def cover_66_3_a0 (x : Vars) : Vars := validUnitR (apl [(.sint .i8 3)] (apl (fl x 1 8) (apl [(.sint .i8 (x.i 9))] (apl (fl x 10 14) (apl [(.sint .i8 (x.i 24))] (apl (fl x 25 14) (apl [(.sint .i8 (x.i 39))] (apl (fl x 40 14) (apl [(.sint .i8 (x.i 54))] (apl (fl x 55 14) (apl [(.sint .i8 (x.i 69))] (apl (fl x 70 14) (apl [(.sint .i8 (x.i 84))] (apl (fl x 85 14) (apl [(.sint .i8 (x.i 99))] (apl (fl x 100 14) (apl [(.sint .i8 (x.i 114))] (fl x 115 14))))))))))))))))))


noncomputable def cover_cs66_3 (x : Vars) : List Bool := [(!(!((cover_66_3_a0 x).b 0)))]

set_option maxRecDepth 100000 in
theorem cover_c66_3 (x : Vars) (ho : OkV (kdsP [.val (.ag kd2), .val (.ag kd3)]) x) (h0 : coverB0 (mkL x 0 (kdsP [.val (.ag kd2), .val (.ag kd3)])) = false) (hz : x.i 0 = 3) : ∀ b ∈ cover_cs66_3 x, b = true := by
  unfold cover_cs66_3
  exact (allC (notT ((show (_ : Bool) = coverB0 (normL (litL (mkL x 0 (kdsP [.val (.ag kd2), .val (.ag kd3)])) 0 3)) from by kernel_rfl).trans ((congrArg coverB0 (litL_mk hz)).trans h0))) allN)

theorem cover_f66_3 (x : Vars) : (funH Try.prog G33 noLT true 1000 66 (argsP [.val (.ag kd2), .val (.ag kd3)] 0 (litL (mkL x 0 (kdsP [.val (.ag kd2), .val (.ag kd3)])) 0 3)) (memP [.val (.ag kd2), .val (.ag kd3)] (litL (mkL x 0 (kdsP [.val (.ag kd2), .val (.ag kd3)])) 0 3)) [false]).map (fun r => (normR r.1, untupR r.1 && r.1.flat, r.2)) = some (cover_v3 x, true, cover_cs66_3 x) := by kernel_rfl

noncomputable def cover_66_4_a0 (x : Vars) : Vars := validUnitR (apl [(.sint .i8 4)] (apl (fl x 1 8) (apl [(.sint .i8 (x.i 9))] (apl (fl x 10 14) (apl [(.sint .i8 (x.i 24))] (apl (fl x 25 14) (apl [(.sint .i8 (x.i 39))] (apl (fl x 40 14) (apl [(.sint .i8 (x.i 54))] (apl (fl x 55 14) (apl [(.sint .i8 (x.i 69))] (apl (fl x 70 14) (apl [(.sint .i8 (x.i 84))] (apl (fl x 85 14) (apl [(.sint .i8 (x.i 99))] (apl (fl x 100 14) (apl [(.sint .i8 (x.i 114))] (fl x 115 14))))))))))))))))))


noncomputable def cover_cs66_4 (x : Vars) : List Bool := [(!(!((cover_66_4_a0 x).b 0)))]

set_option maxRecDepth 100000 in
theorem cover_c66_4 (x : Vars) (ho : OkV (kdsP [.val (.ag kd2), .val (.ag kd3)]) x) (h0 : coverB0 (mkL x 0 (kdsP [.val (.ag kd2), .val (.ag kd3)])) = false) (hz : x.i 0 = 4) : ∀ b ∈ cover_cs66_4 x, b = true := by
  unfold cover_cs66_4
  exact (allC (notT ((show (_ : Bool) = coverB0 (normL (litL (mkL x 0 (kdsP [.val (.ag kd2), .val (.ag kd3)])) 0 4)) from by kernel_rfl).trans ((congrArg coverB0 (litL_mk hz)).trans h0))) allN)

theorem cover_f66_4 (x : Vars) : (funH Try.prog G33 noLT true 1000 66 (argsP [.val (.ag kd2), .val (.ag kd3)] 0 (litL (mkL x 0 (kdsP [.val (.ag kd2), .val (.ag kd3)])) 0 4)) (memP [.val (.ag kd2), .val (.ag kd3)] (litL (mkL x 0 (kdsP [.val (.ag kd2), .val (.ag kd3)])) 0 4)) [false]).map (fun r => (normR r.1, untupR r.1 && r.1.flat, r.2)) = some (cover_v4 x, true, cover_cs66_4 x) := by kernel_rfl

noncomputable def cover_66_5_a0 (x : Vars) : Vars := validUnitR (apl [(.sint .i8 5)] (apl (fl x 1 8) (apl [(.sint .i8 (x.i 9))] (apl (fl x 10 14) (apl [(.sint .i8 (x.i 24))] (apl (fl x 25 14) (apl [(.sint .i8 (x.i 39))] (apl (fl x 40 14) (apl [(.sint .i8 (x.i 54))] (apl (fl x 55 14) (apl [(.sint .i8 (x.i 69))] (apl (fl x 70 14) (apl [(.sint .i8 (x.i 84))] (apl (fl x 85 14) (apl [(.sint .i8 (x.i 99))] (apl (fl x 100 14) (apl [(.sint .i8 (x.i 114))] (fl x 115 14))))))))))))))))))


noncomputable def cover_cs66_5 (x : Vars) : List Bool := [(!(!((cover_66_5_a0 x).b 0)))]

set_option maxRecDepth 100000 in
theorem cover_c66_5 (x : Vars) (ho : OkV (kdsP [.val (.ag kd2), .val (.ag kd3)]) x) (h0 : coverB0 (mkL x 0 (kdsP [.val (.ag kd2), .val (.ag kd3)])) = false) (hz : x.i 0 = 5) : ∀ b ∈ cover_cs66_5 x, b = true := by
  unfold cover_cs66_5
  exact (allC (notT ((show (_ : Bool) = coverB0 (normL (litL (mkL x 0 (kdsP [.val (.ag kd2), .val (.ag kd3)])) 0 5)) from by kernel_rfl).trans ((congrArg coverB0 (litL_mk hz)).trans h0))) allN)

theorem cover_f66_5 (x : Vars) : (funH Try.prog G33 noLT true 1000 66 (argsP [.val (.ag kd2), .val (.ag kd3)] 0 (litL (mkL x 0 (kdsP [.val (.ag kd2), .val (.ag kd3)])) 0 5)) (memP [.val (.ag kd2), .val (.ag kd3)] (litL (mkL x 0 (kdsP [.val (.ag kd2), .val (.ag kd3)])) 0 5)) [false]).map (fun r => (normR r.1, untupR r.1 && r.1.flat, r.2)) = some (cover_v5 x, true, cover_cs66_5 x) := by kernel_rfl

noncomputable def cover_66_6_a0 (x : Vars) : Vars := validUnitR (apl [(.sint .i8 6)] (apl (fl x 1 8) (apl [(.sint .i8 (x.i 9))] (apl (fl x 10 14) (apl [(.sint .i8 (x.i 24))] (apl (fl x 25 14) (apl [(.sint .i8 (x.i 39))] (apl (fl x 40 14) (apl [(.sint .i8 (x.i 54))] (apl (fl x 55 14) (apl [(.sint .i8 (x.i 69))] (apl (fl x 70 14) (apl [(.sint .i8 (x.i 84))] (apl (fl x 85 14) (apl [(.sint .i8 (x.i 99))] (apl (fl x 100 14) (apl [(.sint .i8 (x.i 114))] (fl x 115 14))))))))))))))))))


noncomputable def cover_cs66_6 (x : Vars) : List Bool := [(!(!((cover_66_6_a0 x).b 0)))]

set_option maxRecDepth 100000 in
theorem cover_c66_6 (x : Vars) (ho : OkV (kdsP [.val (.ag kd2), .val (.ag kd3)]) x) (h0 : coverB0 (mkL x 0 (kdsP [.val (.ag kd2), .val (.ag kd3)])) = false) (hz : x.i 0 = 6) : ∀ b ∈ cover_cs66_6 x, b = true := by
  unfold cover_cs66_6
  exact (allC (notT ((show (_ : Bool) = coverB0 (normL (litL (mkL x 0 (kdsP [.val (.ag kd2), .val (.ag kd3)])) 0 6)) from by kernel_rfl).trans ((congrArg coverB0 (litL_mk hz)).trans h0))) allN)

theorem cover_f66_6 (x : Vars) : (funH Try.prog G33 noLT true 1000 66 (argsP [.val (.ag kd2), .val (.ag kd3)] 0 (litL (mkL x 0 (kdsP [.val (.ag kd2), .val (.ag kd3)])) 0 6)) (memP [.val (.ag kd2), .val (.ag kd3)] (litL (mkL x 0 (kdsP [.val (.ag kd2), .val (.ag kd3)])) 0 6)) [false]).map (fun r => (normR r.1, untupR r.1 && r.1.flat, r.2)) = some (cover_v6 x, true, cover_cs66_6 x) := by kernel_rfl

noncomputable def cover_66_7_a0 (x : Vars) : Vars := validUnitR (apl [(.sint .i8 7)] (apl (fl x 1 8) (apl [(.sint .i8 (x.i 9))] (apl (fl x 10 14) (apl [(.sint .i8 (x.i 24))] (apl (fl x 25 14) (apl [(.sint .i8 (x.i 39))] (apl (fl x 40 14) (apl [(.sint .i8 (x.i 54))] (apl (fl x 55 14) (apl [(.sint .i8 (x.i 69))] (apl (fl x 70 14) (apl [(.sint .i8 (x.i 84))] (apl (fl x 85 14) (apl [(.sint .i8 (x.i 99))] (apl (fl x 100 14) (apl [(.sint .i8 (x.i 114))] (fl x 115 14))))))))))))))))))


noncomputable def cover_cs66_7 (x : Vars) : List Bool := [(!(!((cover_66_7_a0 x).b 0)))]

set_option maxRecDepth 100000 in
theorem cover_c66_7 (x : Vars) (ho : OkV (kdsP [.val (.ag kd2), .val (.ag kd3)]) x) (h0 : coverB0 (mkL x 0 (kdsP [.val (.ag kd2), .val (.ag kd3)])) = false) (hz : x.i 0 = 7) : ∀ b ∈ cover_cs66_7 x, b = true := by
  unfold cover_cs66_7
  exact (allC (notT ((show (_ : Bool) = coverB0 (normL (litL (mkL x 0 (kdsP [.val (.ag kd2), .val (.ag kd3)])) 0 7)) from by kernel_rfl).trans ((congrArg coverB0 (litL_mk hz)).trans h0))) allN)

theorem cover_f66_7 (x : Vars) : (funH Try.prog G33 noLT true 1000 66 (argsP [.val (.ag kd2), .val (.ag kd3)] 0 (litL (mkL x 0 (kdsP [.val (.ag kd2), .val (.ag kd3)])) 0 7)) (memP [.val (.ag kd2), .val (.ag kd3)] (litL (mkL x 0 (kdsP [.val (.ag kd2), .val (.ag kd3)])) 0 7)) [false]).map (fun r => (normR r.1, untupR r.1 && r.1.flat, r.2)) = some (cover_v7 x, true, cover_cs66_7 x) := by kernel_rfl

noncomputable def cover_66_8_a0 (x : Vars) : Vars := validUnitR (apl [(.sint .i8 8)] (apl (fl x 1 8) (apl [(.sint .i8 (x.i 9))] (apl (fl x 10 14) (apl [(.sint .i8 (x.i 24))] (apl (fl x 25 14) (apl [(.sint .i8 (x.i 39))] (apl (fl x 40 14) (apl [(.sint .i8 (x.i 54))] (apl (fl x 55 14) (apl [(.sint .i8 (x.i 69))] (apl (fl x 70 14) (apl [(.sint .i8 (x.i 84))] (apl (fl x 85 14) (apl [(.sint .i8 (x.i 99))] (apl (fl x 100 14) (apl [(.sint .i8 (x.i 114))] (fl x 115 14))))))))))))))))))


noncomputable def cover_cs66_8 (x : Vars) : List Bool := [(!(!((cover_66_8_a0 x).b 0)))]

set_option maxRecDepth 100000 in
theorem cover_c66_8 (x : Vars) (ho : OkV (kdsP [.val (.ag kd2), .val (.ag kd3)]) x) (h0 : coverB0 (mkL x 0 (kdsP [.val (.ag kd2), .val (.ag kd3)])) = false) (hz : x.i 0 = 8) : ∀ b ∈ cover_cs66_8 x, b = true := by
  unfold cover_cs66_8
  exact (allC (notT ((show (_ : Bool) = coverB0 (normL (litL (mkL x 0 (kdsP [.val (.ag kd2), .val (.ag kd3)])) 0 8)) from by kernel_rfl).trans ((congrArg coverB0 (litL_mk hz)).trans h0))) allN)

theorem cover_f66_8 (x : Vars) : (funH Try.prog G33 noLT true 1000 66 (argsP [.val (.ag kd2), .val (.ag kd3)] 0 (litL (mkL x 0 (kdsP [.val (.ag kd2), .val (.ag kd3)])) 0 8)) (memP [.val (.ag kd2), .val (.ag kd3)] (litL (mkL x 0 (kdsP [.val (.ag kd2), .val (.ag kd3)])) 0 8)) [false]).map (fun r => (normR r.1, untupR r.1 && r.1.flat, r.2)) = some (cover_v8 x, true, cover_cs66_8 x) := by kernel_rfl

theorem cover_ev66 (x : Vars) (ho : OkV (kdsP [.val (.ag kd2), .val (.ag kd3)]) x) : EvP Try.prog G33 66 [.val (.ag kd2), .val (.ag kd3)] [.sc (.int .i64)] (mkL x 0 (kdsP [.val (.ag kd2), .val (.ag kd3)])) (coverR0 (mkL x 0 (kdsP [.val (.ag kd2), .val (.ag kd3)]))) := by
  cases h0 : coverB0 (mkL x 0 (kdsP [.val (.ag kd2), .val (.ag kd3)])) with
  | true =>
    have e : coverR0 (mkL x 0 (kdsP [.val (.ag kd2), .val (.ag kd3)])) = coverZE0 (mkL x 0 (kdsP [.val (.ag kd2), .val (.ag kd3)])) := by unfold coverR0; rw [h0]; rfl
    rw [e]
    exact EvP.ofH (H := noLT) (J := true) (HFun.none Try.prog _ 66) (mkL_norm ..) (by rw [cover_xE0]; exact cover_f66_E0 x) (cover_c66_E0 x ho h0)
  | false =>
  have hr := coverRng x h0
  have c0 : x.i 0 = 1 ∨ x.i 0 = 2 ∨ x.i 0 = 3 ∨ x.i 0 = 4 ∨ x.i 0 = 5 ∨ x.i 0 = 6 ∨ x.i 0 = 7 ∨ x.i 0 = 8 := by omega
  rcases c0 with hz | hz | hz | hz | hz | hz | hz | hz
  · have e : coverR0 (mkL x 0 (kdsP [.val (.ag kd2), .val (.ag kd3)])) = coverZ1 (mkL x 0 (kdsP [.val (.ag kd2), .val (.ag kd3)])) := by
      unfold coverR0
      have hz : intOf (leafN (mkL x 0 (kdsP [.val (.ag kd2), .val (.ag kd3)])) 0) = 1 := hz
      rw [h0, hz]
      rfl
    rw [e]
    exact EvP.ofH (H := noLT) (J := true) (HFun.none Try.prog _ 66) (litL_mk hz) (by rw [cover_x1]; exact cover_f66_1 x) (cover_c66_1 x ho h0 hz)
  · have e : coverR0 (mkL x 0 (kdsP [.val (.ag kd2), .val (.ag kd3)])) = coverZ2 (mkL x 0 (kdsP [.val (.ag kd2), .val (.ag kd3)])) := by
      unfold coverR0
      have hz : intOf (leafN (mkL x 0 (kdsP [.val (.ag kd2), .val (.ag kd3)])) 0) = 2 := hz
      rw [h0, hz]
      rfl
    rw [e]
    exact EvP.ofH (H := noLT) (J := true) (HFun.none Try.prog _ 66) (litL_mk hz) (by rw [cover_x2]; exact cover_f66_2 x) (cover_c66_2 x ho h0 hz)
  · have e : coverR0 (mkL x 0 (kdsP [.val (.ag kd2), .val (.ag kd3)])) = coverZ3 (mkL x 0 (kdsP [.val (.ag kd2), .val (.ag kd3)])) := by
      unfold coverR0
      have hz : intOf (leafN (mkL x 0 (kdsP [.val (.ag kd2), .val (.ag kd3)])) 0) = 3 := hz
      rw [h0, hz]
      rfl
    rw [e]
    exact EvP.ofH (H := noLT) (J := true) (HFun.none Try.prog _ 66) (litL_mk hz) (by rw [cover_x3]; exact cover_f66_3 x) (cover_c66_3 x ho h0 hz)
  · have e : coverR0 (mkL x 0 (kdsP [.val (.ag kd2), .val (.ag kd3)])) = coverZ4 (mkL x 0 (kdsP [.val (.ag kd2), .val (.ag kd3)])) := by
      unfold coverR0
      have hz : intOf (leafN (mkL x 0 (kdsP [.val (.ag kd2), .val (.ag kd3)])) 0) = 4 := hz
      rw [h0, hz]
      rfl
    rw [e]
    exact EvP.ofH (H := noLT) (J := true) (HFun.none Try.prog _ 66) (litL_mk hz) (by rw [cover_x4]; exact cover_f66_4 x) (cover_c66_4 x ho h0 hz)
  · have e : coverR0 (mkL x 0 (kdsP [.val (.ag kd2), .val (.ag kd3)])) = coverZ5 (mkL x 0 (kdsP [.val (.ag kd2), .val (.ag kd3)])) := by
      unfold coverR0
      have hz : intOf (leafN (mkL x 0 (kdsP [.val (.ag kd2), .val (.ag kd3)])) 0) = 5 := hz
      rw [h0, hz]
      rfl
    rw [e]
    exact EvP.ofH (H := noLT) (J := true) (HFun.none Try.prog _ 66) (litL_mk hz) (by rw [cover_x5]; exact cover_f66_5 x) (cover_c66_5 x ho h0 hz)
  · have e : coverR0 (mkL x 0 (kdsP [.val (.ag kd2), .val (.ag kd3)])) = coverZ6 (mkL x 0 (kdsP [.val (.ag kd2), .val (.ag kd3)])) := by
      unfold coverR0
      have hz : intOf (leafN (mkL x 0 (kdsP [.val (.ag kd2), .val (.ag kd3)])) 0) = 6 := hz
      rw [h0, hz]
      rfl
    rw [e]
    exact EvP.ofH (H := noLT) (J := true) (HFun.none Try.prog _ 66) (litL_mk hz) (by rw [cover_x6]; exact cover_f66_6 x) (cover_c66_6 x ho h0 hz)
  · have e : coverR0 (mkL x 0 (kdsP [.val (.ag kd2), .val (.ag kd3)])) = coverZ7 (mkL x 0 (kdsP [.val (.ag kd2), .val (.ag kd3)])) := by
      unfold coverR0
      have hz : intOf (leafN (mkL x 0 (kdsP [.val (.ag kd2), .val (.ag kd3)])) 0) = 7 := hz
      rw [h0, hz]
      rfl
    rw [e]
    exact EvP.ofH (H := noLT) (J := true) (HFun.none Try.prog _ 66) (litL_mk hz) (by rw [cover_x7]; exact cover_f66_7 x) (cover_c66_7 x ho h0 hz)
  · have e : coverR0 (mkL x 0 (kdsP [.val (.ag kd2), .val (.ag kd3)])) = coverZ8 (mkL x 0 (kdsP [.val (.ag kd2), .val (.ag kd3)])) := by
      unfold coverR0
      have hz : intOf (leafN (mkL x 0 (kdsP [.val (.ag kd2), .val (.ag kd3)])) 0) = 8 := hz
      rw [h0, hz]
      rfl
    rw [e]
    exact EvP.ofH (H := noLT) (J := true) (HFun.none Try.prog _ 66) (litL_mk hz) (by rw [cover_x8]; exact cover_f66_8 x) (cover_c66_8 x ho h0 hz)

theorem cover_f72_E0 (x : Vars) : (funH Try.prog G33 noLT true 1000 72 (argsP [.ptr kd2, .ptr kd3] 0 (mkL x 0 (kdsP [.val (.ag kd2), .val (.ag kd3)]))) (memP [.ptr kd2, .ptr kd3] (mkL x 0 (kdsP [.val (.ag kd2), .val (.ag kd3)]))) [true]).map (fun r => (normR r.1, untupR r.1 && r.1.flat, r.2)) = some (cover_vE0 x, true, cover_cs66_E0 x) := by kernel_rfl


noncomputable def cover_w72_1 (x : Vars) : AV := .sint .i64 ((bif (!((isPartR [(.flt .f32 (x.u 129))]).b 0)) then 2 else 0))

theorem cover_g72_1 (x : Vars) : (funH Try.prog G33 noLT true 1000 72 (argsP [.ptr kd2, .ptr kd3] 0 (litL (mkL x 0 (kdsP [.val (.ag kd2), .val (.ag kd3)])) 0 1)) (memP [.ptr kd2, .ptr kd3] (litL (mkL x 0 (kdsP [.val (.ag kd2), .val (.ag kd3)])) 0 1)) [false]).map (fun r => (normR r.1, untupR r.1 && r.1.flat, r.2)) = some (cover_w72_1 x, true, cover_cs66_1 x) := by kernel_rfl

theorem cover_b72_1 (p0 : Bool) : ((bif (!p0) then 2 else 0) : Int) = (bif (!(!(!p0))) then 2 else 0) := by
  cases p0 <;> rfl

set_option maxRecDepth 100000 in
theorem cover_q72_1 (x : Vars) (ho : OkV (kdsP [.val (.ag kd2), .val (.ag kd3)]) x) (h0 : coverB0 (mkL x 0 (kdsP [.val (.ag kd2), .val (.ag kd3)])) = false) (hz : x.i 0 = 1) : cover_w72_1 x = cover_v1 x := by
  exact congrArg (AV.sint .i64) (cover_b72_1 ..)

theorem cover_f72_1 (x : Vars) (ho : OkV (kdsP [.val (.ag kd2), .val (.ag kd3)]) x) (h0 : coverB0 (mkL x 0 (kdsP [.val (.ag kd2), .val (.ag kd3)])) = false) (hz : x.i 0 = 1) : (funH Try.prog G33 noLT true 1000 72 (argsP [.ptr kd2, .ptr kd3] 0 (litL (mkL x 0 (kdsP [.val (.ag kd2), .val (.ag kd3)])) 0 1)) (memP [.ptr kd2, .ptr kd3] (litL (mkL x 0 (kdsP [.val (.ag kd2), .val (.ag kd3)])) 0 1)) [false]).map (fun r => (normR r.1, untupR r.1 && r.1.flat, r.2)) = some (cover_v1 x, true, cover_cs66_1 x) := by
  rw [cover_g72_1, cover_q72_1 x ho h0 hz]


noncomputable def cover_w72_2 (x : Vars) : AV := .sint .i64 ((bif (!((isPartR [(.flt .f32 (x.u 129))]).b 0)) then 2 else (bif (!((isPartR [(.flt .f32 (x.u 130))]).b 0)) then 2 else 0)))

theorem cover_g72_2 (x : Vars) : (funH Try.prog G33 noLT true 1000 72 (argsP [.ptr kd2, .ptr kd3] 0 (litL (mkL x 0 (kdsP [.val (.ag kd2), .val (.ag kd3)])) 0 2)) (memP [.ptr kd2, .ptr kd3] (litL (mkL x 0 (kdsP [.val (.ag kd2), .val (.ag kd3)])) 0 2)) [false]).map (fun r => (normR r.1, untupR r.1 && r.1.flat, r.2)) = some (cover_w72_2 x, true, cover_cs66_2 x) := by kernel_rfl

theorem cover_b72_2 (p0 p1 : Bool) : ((bif (!p0) then 2 else (bif (!p1) then 2 else 0)) : Int) = (bif (!(bif (!p0) then false else (!(!p1)))) then 2 else 0) := by
  cases p0 <;> cases p1 <;> rfl

set_option maxRecDepth 100000 in
theorem cover_q72_2 (x : Vars) (ho : OkV (kdsP [.val (.ag kd2), .val (.ag kd3)]) x) (h0 : coverB0 (mkL x 0 (kdsP [.val (.ag kd2), .val (.ag kd3)])) = false) (hz : x.i 0 = 2) : cover_w72_2 x = cover_v2 x := by
  exact congrArg (AV.sint .i64) (cover_b72_2 ..)

theorem cover_f72_2 (x : Vars) (ho : OkV (kdsP [.val (.ag kd2), .val (.ag kd3)]) x) (h0 : coverB0 (mkL x 0 (kdsP [.val (.ag kd2), .val (.ag kd3)])) = false) (hz : x.i 0 = 2) : (funH Try.prog G33 noLT true 1000 72 (argsP [.ptr kd2, .ptr kd3] 0 (litL (mkL x 0 (kdsP [.val (.ag kd2), .val (.ag kd3)])) 0 2)) (memP [.ptr kd2, .ptr kd3] (litL (mkL x 0 (kdsP [.val (.ag kd2), .val (.ag kd3)])) 0 2)) [false]).map (fun r => (normR r.1, untupR r.1 && r.1.flat, r.2)) = some (cover_v2 x, true, cover_cs66_2 x) := by
  rw [cover_g72_2, cover_q72_2 x ho h0 hz]


noncomputable def cover_w72_3 (x : Vars) : AV := .sint .i64 ((bif (!((isPartR [(.flt .f32 (x.u 129))]).b 0)) then 2 else (bif (!((isPartR [(.flt .f32 (x.u 130))]).b 0)) then 2 else (bif (!((isPartR [(.flt .f32 (x.u 131))]).b 0)) then 2 else 0))))

theorem cover_g72_3 (x : Vars) : (funH Try.prog G33 noLT true 1000 72 (argsP [.ptr kd2, .ptr kd3] 0 (litL (mkL x 0 (kdsP [.val (.ag kd2), .val (.ag kd3)])) 0 3)) (memP [.ptr kd2, .ptr kd3] (litL (mkL x 0 (kdsP [.val (.ag kd2), .val (.ag kd3)])) 0 3)) [false]).map (fun r => (normR r.1, untupR r.1 && r.1.flat, r.2)) = some (cover_w72_3 x, true, cover_cs66_3 x) := by kernel_rfl

theorem cover_b72_3 (p0 p1 p2 : Bool) : ((bif (!p0) then 2 else (bif (!p1) then 2 else (bif (!p2) then 2 else 0))) : Int) = (bif (!(bif (!p0) then false else (bif (!p1) then false else (!(!p2))))) then 2 else 0) := by
  cases p0 <;> cases p1 <;> cases p2 <;> rfl

set_option maxRecDepth 100000 in
theorem cover_q72_3 (x : Vars) (ho : OkV (kdsP [.val (.ag kd2), .val (.ag kd3)]) x) (h0 : coverB0 (mkL x 0 (kdsP [.val (.ag kd2), .val (.ag kd3)])) = false) (hz : x.i 0 = 3) : cover_w72_3 x = cover_v3 x := by
  exact congrArg (AV.sint .i64) (cover_b72_3 ..)

theorem cover_f72_3 (x : Vars) (ho : OkV (kdsP [.val (.ag kd2), .val (.ag kd3)]) x) (h0 : coverB0 (mkL x 0 (kdsP [.val (.ag kd2), .val (.ag kd3)])) = false) (hz : x.i 0 = 3) : (funH Try.prog G33 noLT true 1000 72 (argsP [.ptr kd2, .ptr kd3] 0 (litL (mkL x 0 (kdsP [.val (.ag kd2), .val (.ag kd3)])) 0 3)) (memP [.ptr kd2, .ptr kd3] (litL (mkL x 0 (kdsP [.val (.ag kd2), .val (.ag kd3)])) 0 3)) [false]).map (fun r => (normR r.1, untupR r.1 && r.1.flat, r.2)) = some (cover_v3 x, true, cover_cs66_3 x) := by
  rw [cover_g72_3, cover_q72_3 x ho h0 hz]


noncomputable def cover_w72_4 (x : Vars) : AV := .sint .i64 ((bif (!((isPartR [(.flt .f32 (x.u 129))]).b 0)) then 2 else (bif (!((isPartR [(.flt .f32 (x.u 130))]).b 0)) then 2 else (bif (!((isPartR [(.flt .f32 (x.u 131))]).b 0)) then 2 else (bif (!((isPartR [(.flt .f32 (x.u 132))]).b 0)) then 2 else 0)))))

theorem cover_g72_4 (x : Vars) : (funH Try.prog G33 noLT true 1000 72 (argsP [.ptr kd2, .ptr kd3] 0 (litL (mkL x 0 (kdsP [.val (.ag kd2), .val (.ag kd3)])) 0 4)) (memP [.ptr kd2, .ptr kd3] (litL (mkL x 0 (kdsP [.val (.ag kd2), .val (.ag kd3)])) 0 4)) [false]).map (fun r => (normR r.1, untupR r.1 && r.1.flat, r.2)) = some (cover_w72_4 x, true, cover_cs66_4 x) := by kernel_rfl

theorem cover_b72_4 (p0 p1 p2 p3 : Bool) : ((bif (!p0) then 2 else (bif (!p1) then 2 else (bif (!p2) then 2 else (bif (!p3) then 2 else 0)))) : Int) = (bif (!(bif (!p0) then false else (bif (!p1) then false else (bif (!p2) then false else (!(!p3)))))) then 2 else 0) := by
  cases p0 <;> cases p1 <;> cases p2 <;> cases p3 <;> rfl

set_option maxRecDepth 100000 in
theorem cover_q72_4 (x : Vars) (ho : OkV (kdsP [.val (.ag kd2), .val (.ag kd3)]) x) (h0 : coverB0 (mkL x 0 (kdsP [.val (.ag kd2), .val (.ag kd3)])) = false) (hz : x.i 0 = 4) : cover_w72_4 x = cover_v4 x := by
  exact congrArg (AV.sint .i64) (cover_b72_4 ..)

theorem cover_f72_4 (x : Vars) (ho : OkV (kdsP [.val (.ag kd2), .val (.ag kd3)]) x) (h0 : coverB0 (mkL x 0 (kdsP [.val (.ag kd2), .val (.ag kd3)])) = false) (hz : x.i 0 = 4) : (funH Try.prog G33 noLT true 1000 72 (argsP [.ptr kd2, .ptr kd3] 0 (litL (mkL x 0 (kdsP [.val (.ag kd2), .val (.ag kd3)])) 0 4)) (memP [.ptr kd2, .ptr kd3] (litL (mkL x 0 (kdsP [.val (.ag kd2), .val (.ag kd3)])) 0 4)) [false]).map (fun r => (normR r.1, untupR r.1 && r.1.flat, r.2)) = some (cover_v4 x, true, cover_cs66_4 x) := by
  rw [cover_g72_4, cover_q72_4 x ho h0 hz]


noncomputable def cover_w72_5 (x : Vars) : AV := .sint .i64 ((bif (!((isPartR [(.flt .f32 (x.u 129))]).b 0)) then 2 else (bif (!((isPartR [(.flt .f32 (x.u 130))]).b 0)) then 2 else (bif (!((isPartR [(.flt .f32 (x.u 131))]).b 0)) then 2 else (bif (!((isPartR [(.flt .f32 (x.u 132))]).b 0)) then 2 else (bif (!((isPartR [(.flt .f32 (x.u 133))]).b 0)) then 2 else 0))))))

theorem cover_g72_5 (x : Vars) : (funH Try.prog G33 noLT true 1000 72 (argsP [.ptr kd2, .ptr kd3] 0 (litL (mkL x 0 (kdsP [.val (.ag kd2), .val (.ag kd3)])) 0 5)) (memP [.ptr kd2, .ptr kd3] (litL (mkL x 0 (kdsP [.val (.ag kd2), .val (.ag kd3)])) 0 5)) [false]).map (fun r => (normR r.1, untupR r.1 && r.1.flat, r.2)) = some (cover_w72_5 x, true, cover_cs66_5 x) := by kernel_rfl

theorem cover_b72_5 (p0 p1 p2 p3 p4 : Bool) : ((bif (!p0) then 2 else (bif (!p1) then 2 else (bif (!p2) then 2 else (bif (!p3) then 2 else (bif (!p4) then 2 else 0))))) : Int) = (bif (!(bif (!p0) then false else (bif (!p1) then false else (bif (!p2) then false else (bif (!p3) then false else (!(!p4))))))) then 2 else 0) := by
  cases p0 <;> cases p1 <;> cases p2 <;> cases p3 <;> cases p4 <;> rfl

set_option maxRecDepth 100000 in
theorem cover_q72_5 (x : Vars) (ho : OkV (kdsP [.val (.ag kd2), .val (.ag kd3)]) x) (h0 : coverB0 (mkL x 0 (kdsP [.val (.ag kd2), .val (.ag kd3)])) = false) (hz : x.i 0 = 5) : cover_w72_5 x = cover_v5 x := by
  exact congrArg (AV.sint .i64) (cover_b72_5 ..)

theorem cover_f72_5 (x : Vars) (ho : OkV (kdsP [.val (.ag kd2), .val (.ag kd3)]) x) (h0 : coverB0 (mkL x 0 (kdsP [.val (.ag kd2), .val (.ag kd3)])) = false) (hz : x.i 0 = 5) : (funH Try.prog G33 noLT true 1000 72 (argsP [.ptr kd2, .ptr kd3] 0 (litL (mkL x 0 (kdsP [.val (.ag kd2), .val (.ag kd3)])) 0 5)) (memP [.ptr kd2, .ptr kd3] (litL (mkL x 0 (kdsP [.val (.ag kd2), .val (.ag kd3)])) 0 5)) [false]).map (fun r => (normR r.1, untupR r.1 && r.1.flat, r.2)) = some (cover_v5 x, true, cover_cs66_5 x) := by
  rw [cover_g72_5, cover_q72_5 x ho h0 hz]


noncomputable def cover_w72_6 (x : Vars) : AV := .sint .i64 ((bif (!((isPartR [(.flt .f32 (x.u 129))]).b 0)) then 2 else (bif (!((isPartR [(.flt .f32 (x.u 130))]).b 0)) then 2 else (bif (!((isPartR [(.flt .f32 (x.u 131))]).b 0)) then 2 else (bif (!((isPartR [(.flt .f32 (x.u 132))]).b 0)) then 2 else (bif (!((isPartR [(.flt .f32 (x.u 133))]).b 0)) then 2 else (bif (!((isPartR [(.flt .f32 (x.u 134))]).b 0)) then 2 else 0)))))))

theorem cover_g72_6 (x : Vars) : (funH Try.prog G33 noLT true 1000 72 (argsP [.ptr kd2, .ptr kd3] 0 (litL (mkL x 0 (kdsP [.val (.ag kd2), .val (.ag kd3)])) 0 6)) (memP [.ptr kd2, .ptr kd3] (litL (mkL x 0 (kdsP [.val (.ag kd2), .val (.ag kd3)])) 0 6)) [false]).map (fun r => (normR r.1, untupR r.1 && r.1.flat, r.2)) = some (cover_w72_6 x, true, cover_cs66_6 x) := by kernel_rfl

theorem cover_b72_6 (p0 p1 p2 p3 p4 p5 : Bool) : ((bif (!p0) then 2 else (bif (!p1) then 2 else (bif (!p2) then 2 else (bif (!p3) then 2 else (bif (!p4) then 2 else (bif (!p5) then 2 else 0)))))) : Int) = (bif (!(bif (!p0) then false else (bif (!p1) then false else (bif (!p2) then false else (bif (!p3) then false else (bif (!p4) then false else (!(!p5)))))))) then 2 else 0) := by
  cases p0 <;> cases p1 <;> cases p2 <;> cases p3 <;> cases p4 <;> cases p5 <;> rfl

set_option maxRecDepth 100000 in
theorem cover_q72_6 (x : Vars) (ho : OkV (kdsP [.val (.ag kd2), .val (.ag kd3)]) x) (h0 : coverB0 (mkL x 0 (kdsP [.val (.ag kd2), .val (.ag kd3)])) = false) (hz : x.i 0 = 6) : cover_w72_6 x = cover_v6 x := by
  exact congrArg (AV.sint .i64) (cover_b72_6 ..)

theorem cover_f72_6 (x : Vars) (ho : OkV (kdsP [.val (.ag kd2), .val (.ag kd3)]) x) (h0 : coverB0 (mkL x 0 (kdsP [.val (.ag kd2), .val (.ag kd3)])) = false) (hz : x.i 0 = 6) : (funH Try.prog G33 noLT true 1000 72 (argsP [.ptr kd2, .ptr kd3] 0 (litL (mkL x 0 (kdsP [.val (.ag kd2), .val (.ag kd3)])) 0 6)) (memP [.ptr kd2, .ptr kd3] (litL (mkL x 0 (kdsP [.val (.ag kd2), .val (.ag kd3)])) 0 6)) [false]).map (fun r => (normR r.1, untupR r.1 && r.1.flat, r.2)) = some (cover_v6 x, true, cover_cs66_6 x) := by
  rw [cover_g72_6, cover_q72_6 x ho h0 hz]


noncomputable def cover_w72_7 (x : Vars) : AV := .sint .i64 ((bif (!((isPartR [(.flt .f32 (x.u 129))]).b 0)) then 2 else (bif (!((isPartR [(.flt .f32 (x.u 130))]).b 0)) then 2 else (bif (!((isPartR [(.flt .f32 (x.u 131))]).b 0)) then 2 else (bif (!((isPartR [(.flt .f32 (x.u 132))]).b 0)) then 2 else (bif (!((isPartR [(.flt .f32 (x.u 133))]).b 0)) then 2 else (bif (!((isPartR [(.flt .f32 (x.u 134))]).b 0)) then 2 else (bif (!((isPartR [(.flt .f32 (x.u 135))]).b 0)) then 2 else 0))))))))

theorem cover_g72_7 (x : Vars) : (funH Try.prog G33 noLT true 1000 72 (argsP [.ptr kd2, .ptr kd3] 0 (litL (mkL x 0 (kdsP [.val (.ag kd2), .val (.ag kd3)])) 0 7)) (memP [.ptr kd2, .ptr kd3] (litL (mkL x 0 (kdsP [.val (.ag kd2), .val (.ag kd3)])) 0 7)) [false]).map (fun r => (normR r.1, untupR r.1 && r.1.flat, r.2)) = some (cover_w72_7 x, true, cover_cs66_7 x) := by kernel_rfl

theorem cover_b72_7 (p0 p1 p2 p3 p4 p5 p6 : Bool) : ((bif (!p0) then 2 else (bif (!p1) then 2 else (bif (!p2) then 2 else (bif (!p3) then 2 else (bif (!p4) then 2 else (bif (!p5) then 2 else (bif (!p6) then 2 else 0))))))) : Int) = (bif (!(bif (!p0) then false else (bif (!p1) then false else (bif (!p2) then false else (bif (!p3) then false else (bif (!p4) then false else (bif (!p5) then false else (!(!p6))))))))) then 2 else 0) := by
  cases p0 <;> cases p1 <;> cases p2 <;> cases p3 <;> cases p4 <;> cases p5 <;> cases p6 <;> rfl

set_option maxRecDepth 100000 in
theorem cover_q72_7 (x : Vars) (ho : OkV (kdsP [.val (.ag kd2), .val (.ag kd3)]) x) (h0 : coverB0 (mkL x 0 (kdsP [.val (.ag kd2), .val (.ag kd3)])) = false) (hz : x.i 0 = 7) : cover_w72_7 x = cover_v7 x := by
  exact congrArg (AV.sint .i64) (cover_b72_7 ..)

theorem cover_f72_7 (x : Vars) (ho : OkV (kdsP [.val (.ag kd2), .val (.ag kd3)]) x) (h0 : coverB0 (mkL x 0 (kdsP [.val (.ag kd2), .val (.ag kd3)])) = false) (hz : x.i 0 = 7) : (funH Try.prog G33 noLT true 1000 72 (argsP [.ptr kd2, .ptr kd3] 0 (litL (mkL x 0 (kdsP [.val (.ag kd2), .val (.ag kd3)])) 0 7)) (memP [.ptr kd2, .ptr kd3] (litL (mkL x 0 (kdsP [.val (.ag kd2), .val (.ag kd3)])) 0 7)) [false]).map (fun r => (normR r.1, untupR r.1 && r.1.flat, r.2)) = some (cover_v7 x, true, cover_cs66_7 x) := by
  rw [cover_g72_7, cover_q72_7 x ho h0 hz]


noncomputable def cover_w72_8 (x : Vars) : AV := .sint .i64 ((bif (!((isPartR [(.flt .f32 (x.u 129))]).b 0)) then 2 else (bif (!((isPartR [(.flt .f32 (x.u 130))]).b 0)) then 2 else (bif (!((isPartR [(.flt .f32 (x.u 131))]).b 0)) then 2 else (bif (!((isPartR [(.flt .f32 (x.u 132))]).b 0)) then 2 else (bif (!((isPartR [(.flt .f32 (x.u 133))]).b 0)) then 2 else (bif (!((isPartR [(.flt .f32 (x.u 134))]).b 0)) then 2 else (bif (!((isPartR [(.flt .f32 (x.u 135))]).b 0)) then 2 else (bif (!((isPartR [(.flt .f32 (x.u 136))]).b 0)) then 2 else 0)))))))))

theorem cover_g72_8 (x : Vars) : (funH Try.prog G33 noLT true 1000 72 (argsP [.ptr kd2, .ptr kd3] 0 (litL (mkL x 0 (kdsP [.val (.ag kd2), .val (.ag kd3)])) 0 8)) (memP [.ptr kd2, .ptr kd3] (litL (mkL x 0 (kdsP [.val (.ag kd2), .val (.ag kd3)])) 0 8)) [false]).map (fun r => (normR r.1, untupR r.1 && r.1.flat, r.2)) = some (cover_w72_8 x, true, cover_cs66_8 x) := by kernel_rfl

theorem cover_b72_8 (p0 p1 p2 p3 p4 p5 p6 p7 : Bool) : ((bif (!p0) then 2 else (bif (!p1) then 2 else (bif (!p2) then 2 else (bif (!p3) then 2 else (bif (!p4) then 2 else (bif (!p5) then 2 else (bif (!p6) then 2 else (bif (!p7) then 2 else 0)))))))) : Int) = (bif (!(bif (!p0) then false else (bif (!p1) then false else (bif (!p2) then false else (bif (!p3) then false else (bif (!p4) then false else (bif (!p5) then false else (bif (!p6) then false else (!(!p7)))))))))) then 2 else 0) := by
  cases p0 <;> cases p1 <;> cases p2 <;> cases p3 <;> cases p4 <;> cases p5 <;> cases p6 <;> cases p7 <;> rfl

set_option maxRecDepth 100000 in
theorem cover_q72_8 (x : Vars) (ho : OkV (kdsP [.val (.ag kd2), .val (.ag kd3)]) x) (h0 : coverB0 (mkL x 0 (kdsP [.val (.ag kd2), .val (.ag kd3)])) = false) (hz : x.i 0 = 8) : cover_w72_8 x = cover_v8 x := by
  exact congrArg (AV.sint .i64) (cover_b72_8 ..)

theorem cover_f72_8 (x : Vars) (ho : OkV (kdsP [.val (.ag kd2), .val (.ag kd3)]) x) (h0 : coverB0 (mkL x 0 (kdsP [.val (.ag kd2), .val (.ag kd3)])) = false) (hz : x.i 0 = 8) : (funH Try.prog G33 noLT true 1000 72 (argsP [.ptr kd2, .ptr kd3] 0 (litL (mkL x 0 (kdsP [.val (.ag kd2), .val (.ag kd3)])) 0 8)) (memP [.ptr kd2, .ptr kd3] (litL (mkL x 0 (kdsP [.val (.ag kd2), .val (.ag kd3)])) 0 8)) [false]).map (fun r => (normR r.1, untupR r.1 && r.1.flat, r.2)) = some (cover_v8 x, true, cover_cs66_8 x) := by
  rw [cover_g72_8, cover_q72_8 x ho h0 hz]

theorem cover_ev72 (x : Vars) (ho : OkV (kdsP [.val (.ag kd2), .val (.ag kd3)]) x) : EvP Try.prog G33 72 [.ptr kd2, .ptr kd3] [.sc (.int .i64)] (mkL x 0 (kdsP [.val (.ag kd2), .val (.ag kd3)])) (coverR0 (mkL x 0 (kdsP [.val (.ag kd2), .val (.ag kd3)]))) := by
  cases h0 : coverB0 (mkL x 0 (kdsP [.val (.ag kd2), .val (.ag kd3)])) with
  | true =>
    have e : coverR0 (mkL x 0 (kdsP [.val (.ag kd2), .val (.ag kd3)])) = coverZE0 (mkL x 0 (kdsP [.val (.ag kd2), .val (.ag kd3)])) := by unfold coverR0; rw [h0]; rfl
    rw [e]
    exact EvP.ofH (H := noLT) (J := true) (HFun.none Try.prog _ 72) (mkL_norm ..) (by rw [cover_xE0]; exact cover_f72_E0 x) (cover_c66_E0 x ho h0)
  | false =>
  have hr := coverRng x h0
  have c0 : x.i 0 = 1 ∨ x.i 0 = 2 ∨ x.i 0 = 3 ∨ x.i 0 = 4 ∨ x.i 0 = 5 ∨ x.i 0 = 6 ∨ x.i 0 = 7 ∨ x.i 0 = 8 := by omega
  rcases c0 with hz | hz | hz | hz | hz | hz | hz | hz
  · have e : coverR0 (mkL x 0 (kdsP [.val (.ag kd2), .val (.ag kd3)])) = coverZ1 (mkL x 0 (kdsP [.val (.ag kd2), .val (.ag kd3)])) := by
      unfold coverR0
      have hz : intOf (leafN (mkL x 0 (kdsP [.val (.ag kd2), .val (.ag kd3)])) 0) = 1 := hz
      rw [h0, hz]
      rfl
    rw [e]
    exact EvP.ofH (H := noLT) (J := true) (HFun.none Try.prog _ 72) (litL_mk hz) (by rw [cover_x1]; exact cover_f72_1 x ho h0 hz) (cover_c66_1 x ho h0 hz)
  · have e : coverR0 (mkL x 0 (kdsP [.val (.ag kd2), .val (.ag kd3)])) = coverZ2 (mkL x 0 (kdsP [.val (.ag kd2), .val (.ag kd3)])) := by
      unfold coverR0
      have hz : intOf (leafN (mkL x 0 (kdsP [.val (.ag kd2), .val (.ag kd3)])) 0) = 2 := hz
      rw [h0, hz]
      rfl
    rw [e]
    exact EvP.ofH (H := noLT) (J := true) (HFun.none Try.prog _ 72) (litL_mk hz) (by rw [cover_x2]; exact cover_f72_2 x ho h0 hz) (cover_c66_2 x ho h0 hz)
  · have e : coverR0 (mkL x 0 (kdsP [.val (.ag kd2), .val (.ag kd3)])) = coverZ3 (mkL x 0 (kdsP [.val (.ag kd2), .val (.ag kd3)])) := by
      unfold coverR0
      have hz : intOf (leafN (mkL x 0 (kdsP [.val (.ag kd2), .val (.ag kd3)])) 0) = 3 := hz
      rw [h0, hz]
      rfl
    rw [e]
    exact EvP.ofH (H := noLT) (J := true) (HFun.none Try.prog _ 72) (litL_mk hz) (by rw [cover_x3]; exact cover_f72_3 x ho h0 hz) (cover_c66_3 x ho h0 hz)
  · have e : coverR0 (mkL x 0 (kdsP [.val (.ag kd2), .val (.ag kd3)])) = coverZ4 (mkL x 0 (kdsP [.val (.ag kd2), .val (.ag kd3)])) := by
      unfold coverR0
      have hz : intOf (leafN (mkL x 0 (kdsP [.val (.ag kd2), .val (.ag kd3)])) 0) = 4 := hz
      rw [h0, hz]
      rfl
    rw [e]
    exact EvP.ofH (H := noLT) (J := true) (HFun.none Try.prog _ 72) (litL_mk hz) (by rw [cover_x4]; exact cover_f72_4 x ho h0 hz) (cover_c66_4 x ho h0 hz)
  · have e : coverR0 (mkL x 0 (kdsP [.val (.ag kd2), .val (.ag kd3)])) = coverZ5 (mkL x 0 (kdsP [.val (.ag kd2), .val (.ag kd3)])) := by
      unfold coverR0
      have hz : intOf (leafN (mkL x 0 (kdsP [.val (.ag kd2), .val (.ag kd3)])) 0) = 5 := hz
      rw [h0, hz]
      rfl
    rw [e]
    exact EvP.ofH (H := noLT) (J := true) (HFun.none Try.prog _ 72) (litL_mk hz) (by rw [cover_x5]; exact cover_f72_5 x ho h0 hz) (cover_c66_5 x ho h0 hz)
  · have e : coverR0 (mkL x 0 (kdsP [.val (.ag kd2), .val (.ag kd3)])) = coverZ6 (mkL x 0 (kdsP [.val (.ag kd2), .val (.ag kd3)])) := by
      unfold coverR0
      have hz : intOf (leafN (mkL x 0 (kdsP [.val (.ag kd2), .val (.ag kd3)])) 0) = 6 := hz
      rw [h0, hz]
      rfl
    rw [e]
    exact EvP.ofH (H := noLT) (J := true) (HFun.none Try.prog _ 72) (litL_mk hz) (by rw [cover_x6]; exact cover_f72_6 x ho h0 hz) (cover_c66_6 x ho h0 hz)
  · have e : coverR0 (mkL x 0 (kdsP [.val (.ag kd2), .val (.ag kd3)])) = coverZ7 (mkL x 0 (kdsP [.val (.ag kd2), .val (.ag kd3)])) := by
      unfold coverR0
      have hz : intOf (leafN (mkL x 0 (kdsP [.val (.ag kd2), .val (.ag kd3)])) 0) = 7 := hz
      rw [h0, hz]
      rfl
    rw [e]
    exact EvP.ofH (H := noLT) (J := true) (HFun.none Try.prog _ 72) (litL_mk hz) (by rw [cover_x7]; exact cover_f72_7 x ho h0 hz) (cover_c66_7 x ho h0 hz)
  · have e : coverR0 (mkL x 0 (kdsP [.val (.ag kd2), .val (.ag kd3)])) = coverZ8 (mkL x 0 (kdsP [.val (.ag kd2), .val (.ag kd3)])) := by
      unfold coverR0
      have hz : intOf (leafN (mkL x 0 (kdsP [.val (.ag kd2), .val (.ag kd3)])) 0) = 8 := hz
      rw [h0, hz]
      rfl
    rw [e]
    exact EvP.ofH (H := noLT) (J := true) (HFun.none Try.prog _ 72) (litL_mk hz) (by rw [cover_x8]; exact cover_f72_8 x ho h0 hz) (cover_c66_8 x ho h0 hz)

noncomputable def G34 : Summ := addG 66 (sumP [.val (.ag kd2), .val (.ag kd3)] [.sc (.int .i64)] (fun _ => []) coverR) G33

theorem G34_ok : SoundG Try.prog G34 := SoundG.sumP G33_ok mixed Try.call66 G33_ok (fun x hx hp => by rw [coverR_eq]; exact (fun x ho _ => cover_ev66 x ho) x hx hp)

noncomputable def G35 : Summ := addG 72 (sumP [.ptr kd2, .ptr kd3] [.sc (.int .i64)] (fun _ => []) coverR) G34

theorem G35_ok : SoundG Try.prog G35 := SoundG.sumP G34_ok mixed Try.call72 G33_ok (fun x hx hp => by rw [coverR_eq]; exact (fun x ho _ => cover_ev72 x ho) x hx hp)

theorem coverOk (x : Vars) (h : (coverR (mkL x 0 (kdsP [.val (.ag kd2), .val (.ag kd3)]))).i 0 = 0) : (validUnitR (mkL x 0 (kdsP [.val (.ag kd2)]))).b 0 = true := by
  refine coverVal x ?_
  cases hv : coverB0 (mkL x 0 (kdsP [.val (.ag kd2), .val (.ag kd3)])) with
  | false => rfl
  | true =>
    exfalso
    have e : coverR (mkL x 0 (kdsP [.val (.ag kd2), .val (.ag kd3)])) = coverZE0 (mkL x 0 (kdsP [.val (.ag kd2), .val (.ag kd3)])) := by rw [coverR_eq]; unfold coverR0; rw [hv]; rfl
    rw [e] at h
    have h1 : (coverZE0 (mkL x 0 (kdsP [.val (.ag kd2), .val (.ag kd3)]))).i 0 = 1 := by kernel_rfl
    rw [h1] at h
    cases h

end Go.Proofs.Ytdagaggpaohmcaa

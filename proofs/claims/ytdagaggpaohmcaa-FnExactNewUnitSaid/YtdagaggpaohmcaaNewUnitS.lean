/-
  Facts of this seat that its laws use; no conditions.
-/
import Derived.Test.YtdagaggpaohmcaaShapes
namespace Go.Proofs.Ytdagaggpaohmcaa
open Go.Sim Go.ChangeShapes Go.WideShapes Go.ChangeAt Go.RowKit

noncomputable def G13 : Summ := inlGs Try.prog 1000 [78] G12

theorem G13_ok : SoundG Try.prog G13 := by
  refine SoundG.inls mixed G12_ok fun f hf => ?_
  simp only [List.mem_cons, List.not_mem_nil, or_false] at hf
  subst hf
  exact Try.call78

noncomputable def isKeyR0 (xs : List AV) : Vars := outV (funA Try.prog G13 1000 62 xs [] [])

noncomputable def isKeyR : List AV → Vars := Classical.choose (⟨isKeyR0, rfl⟩ : ∃ f, f = isKeyR0)

theorem isKeyR_eq : isKeyR = isKeyR0 := Classical.choose_spec (⟨isKeyR0, rfl⟩ : ∃ f, f = isKeyR0)

theorem isKey_ev62 (x : Vars) : funA Try.prog G13 1000 62 (mkAs x 0 [.sc (.flt .f32)]) [] [] = some (mkR (isKeyR0 (mkAs x 0 [.sc (.flt .f32)])) [.sc (.bool)], []) := by kernel_rfl

theorem isKey_ev51 (x : Vars) : funA Try.prog G13 1000 51 (mkAs x 0 [.sc (.flt .f32)]) [] [] = some (mkR (isKeyR0 (mkAs x 0 [.sc (.flt .f32)])) [.sc (.bool)], []) := by kernel_rfl

noncomputable def G14 : Summ := addG 62 (sumG [.sc (.flt .f32)] [.sc (.bool)] isKeyR) G13

theorem G14_ok : SoundG Try.prog G14 := SoundG.sum G13_ok mixed Try.call62 G13_ok fun x => ⟨_, (by rw [isKeyR_eq]; exact isKey_ev62 x), fun _ h => by cases h⟩

noncomputable def G15 : Summ := addG 51 (sumG [.sc (.flt .f32)] [.sc (.bool)] isKeyR) G14

theorem G15_ok : SoundG Try.prog G15 := SoundG.sum G14_ok mixed Try.call51 G13_ok fun x => ⟨_, (by rw [isKeyR_eq]; exact isKey_ev51 x), fun _ h => by cases h⟩

noncomputable def newUnitB0 (l : List AV) : Bool := !((validTrainR (l.take 15)).b 0)

noncomputable def newUnitB1 (l : List AV) : Bool := ((!((decide (1 ≤ intOf (leafN l 15))) && (decide (intOf (leafN l 15) ≤ 8)))) || (!((isKeyR [leafN l 16]).b 0)))

theorem nuFacts {a b k : Bool} (h : ((!(a && b)) || (!k)) = false) : a = true ∧ b = true ∧ k = true := by
  revert h
  cases a <;> cases b <;> cases k <;> intro h <;> first | exact ⟨rfl, rfl, rfl⟩ | cases h

theorem nuIn (x : Vars) (h1 : newUnitB1 (mkL x 0 (kdsP [.val (.ag kd1), .val (.sc (.int .i64)), .val (.sc (.flt .f32))])) = false) : (1 ≤ x.i 15 ∧ x.i 15 ≤ 8) ∧ (isKeyR [.flt .f32 (x.u 16)]).b 0 = true :=
  have F := nuFacts ((show (((!((decide (1 ≤ x.i 15)) && (decide (x.i 15 ≤ 8)))) || (!((isKeyR [.flt .f32 (x.u 16)]).b 0))) : Bool) = newUnitB1 (mkL x 0 (kdsP [.val (.ag kd1), .val (.sc (.int .i64)), .val (.sc (.flt .f32))])) from by kernel_rfl).trans h1)
  ⟨⟨of_decide_eq_true F.1, of_decide_eq_true F.2.1⟩, F.2.2⟩

noncomputable def G16 : Summ := inlGs Try.prog 1000 [61, 57] G15

theorem G16_ok : SoundG Try.prog G16 := by
  refine SoundG.inls mixed G15_ok fun f hf => ?_
  simp only [List.mem_cons, List.not_mem_nil, or_false] at hf
  rcases hf with rfl | rfl
  · exact Try.call61
  · exact Try.call57



noncomputable def newUnit_vE0 (x : Vars) : AV := .tup [.agg [.sint .i8 (0), .flt .f32 (0), .flt .f32 (0), .flt .f32 (0), .flt .f32 (0), .flt .f32 (0), .flt .f32 (0), .flt .f32 (0), .flt .f32 (0), .sint .i8 (0), .flt .f32 (0), .flt .f32 (0), .flt .f32 (0), .flt .f32 (0), .flt .f32 (0), .flt .f32 (0), .flt .f32 (0), .flt .f32 (0), .flt .f32 (0), .flt .f32 (0), .flt .f32 (0), .flt .f32 (0), .flt .f32 (0), .flt .f32 (0), .sint .i8 (0), .flt .f32 (0), .flt .f32 (0), .flt .f32 (0), .flt .f32 (0), .flt .f32 (0), .flt .f32 (0), .flt .f32 (0), .flt .f32 (0), .flt .f32 (0), .flt .f32 (0), .flt .f32 (0), .flt .f32 (0), .flt .f32 (0), .flt .f32 (0), .sint .i8 (0), .flt .f32 (0), .flt .f32 (0), .flt .f32 (0), .flt .f32 (0), .flt .f32 (0), .flt .f32 (0), .flt .f32 (0), .flt .f32 (0), .flt .f32 (0), .flt .f32 (0), .flt .f32 (0), .flt .f32 (0), .flt .f32 (0), .flt .f32 (0), .sint .i8 (0), .flt .f32 (0), .flt .f32 (0), .flt .f32 (0), .flt .f32 (0), .flt .f32 (0), .flt .f32 (0), .flt .f32 (0), .flt .f32 (0), .flt .f32 (0), .flt .f32 (0), .flt .f32 (0), .flt .f32 (0), .flt .f32 (0), .flt .f32 (0), .sint .i8 (0), .flt .f32 (0), .flt .f32 (0), .flt .f32 (0), .flt .f32 (0), .flt .f32 (0), .flt .f32 (0), .flt .f32 (0), .flt .f32 (0), .flt .f32 (0), .flt .f32 (0), .flt .f32 (0), .flt .f32 (0), .flt .f32 (0), .flt .f32 (0), .sint .i8 (0), .flt .f32 (0), .flt .f32 (0), .flt .f32 (0), .flt .f32 (0), .flt .f32 (0), .flt .f32 (0), .flt .f32 (0), .flt .f32 (0), .flt .f32 (0), .flt .f32 (0), .flt .f32 (0), .flt .f32 (0), .flt .f32 (0), .flt .f32 (0), .sint .i8 (0), .flt .f32 (0), .flt .f32 (0), .flt .f32 (0), .flt .f32 (0), .flt .f32 (0), .flt .f32 (0), .flt .f32 (0), .flt .f32 (0), .flt .f32 (0), .flt .f32 (0), .flt .f32 (0), .flt .f32 (0), .flt .f32 (0), .flt .f32 (0), .sint .i8 (0), .flt .f32 (0), .flt .f32 (0), .flt .f32 (0), .flt .f32 (0), .flt .f32 (0), .flt .f32 (0), .flt .f32 (0), .flt .f32 (0), .flt .f32 (0), .flt .f32 (0), .flt .f32 (0), .flt .f32 (0), .flt .f32 (0), .flt .f32 (0)], .sint .i64 (1)]

noncomputable def newUnitZE0 (l : List AV) : Vars := outV (some (newUnit_vE0 (varsOf l), []))

theorem newUnit_xE0 (x : Vars) : mkR (newUnitZE0 (mkL x 0 (kdsP [.val (.ag kd1), .val (.sc (.int .i64)), .val (.sc (.flt .f32))]))) [.ag kd2, .sc (.int .i64)] = newUnit_vE0 x := by kernel_rfl



noncomputable def newUnit_vE1 (x : Vars) : AV := .tup [.agg [.sint .i8 (0), .flt .f32 (0), .flt .f32 (0), .flt .f32 (0), .flt .f32 (0), .flt .f32 (0), .flt .f32 (0), .flt .f32 (0), .flt .f32 (0), .sint .i8 (0), .flt .f32 (0), .flt .f32 (0), .flt .f32 (0), .flt .f32 (0), .flt .f32 (0), .flt .f32 (0), .flt .f32 (0), .flt .f32 (0), .flt .f32 (0), .flt .f32 (0), .flt .f32 (0), .flt .f32 (0), .flt .f32 (0), .flt .f32 (0), .sint .i8 (0), .flt .f32 (0), .flt .f32 (0), .flt .f32 (0), .flt .f32 (0), .flt .f32 (0), .flt .f32 (0), .flt .f32 (0), .flt .f32 (0), .flt .f32 (0), .flt .f32 (0), .flt .f32 (0), .flt .f32 (0), .flt .f32 (0), .flt .f32 (0), .sint .i8 (0), .flt .f32 (0), .flt .f32 (0), .flt .f32 (0), .flt .f32 (0), .flt .f32 (0), .flt .f32 (0), .flt .f32 (0), .flt .f32 (0), .flt .f32 (0), .flt .f32 (0), .flt .f32 (0), .flt .f32 (0), .flt .f32 (0), .flt .f32 (0), .sint .i8 (0), .flt .f32 (0), .flt .f32 (0), .flt .f32 (0), .flt .f32 (0), .flt .f32 (0), .flt .f32 (0), .flt .f32 (0), .flt .f32 (0), .flt .f32 (0), .flt .f32 (0), .flt .f32 (0), .flt .f32 (0), .flt .f32 (0), .flt .f32 (0), .sint .i8 (0), .flt .f32 (0), .flt .f32 (0), .flt .f32 (0), .flt .f32 (0), .flt .f32 (0), .flt .f32 (0), .flt .f32 (0), .flt .f32 (0), .flt .f32 (0), .flt .f32 (0), .flt .f32 (0), .flt .f32 (0), .flt .f32 (0), .flt .f32 (0), .sint .i8 (0), .flt .f32 (0), .flt .f32 (0), .flt .f32 (0), .flt .f32 (0), .flt .f32 (0), .flt .f32 (0), .flt .f32 (0), .flt .f32 (0), .flt .f32 (0), .flt .f32 (0), .flt .f32 (0), .flt .f32 (0), .flt .f32 (0), .flt .f32 (0), .sint .i8 (0), .flt .f32 (0), .flt .f32 (0), .flt .f32 (0), .flt .f32 (0), .flt .f32 (0), .flt .f32 (0), .flt .f32 (0), .flt .f32 (0), .flt .f32 (0), .flt .f32 (0), .flt .f32 (0), .flt .f32 (0), .flt .f32 (0), .flt .f32 (0), .sint .i8 (0), .flt .f32 (0), .flt .f32 (0), .flt .f32 (0), .flt .f32 (0), .flt .f32 (0), .flt .f32 (0), .flt .f32 (0), .flt .f32 (0), .flt .f32 (0), .flt .f32 (0), .flt .f32 (0), .flt .f32 (0), .flt .f32 (0), .flt .f32 (0)], .sint .i64 (2)]

noncomputable def newUnitZE1 (l : List AV) : Vars := outV (some (newUnit_vE1 (varsOf l), []))

theorem newUnit_xE1 (x : Vars) : mkR (newUnitZE1 (mkL x 0 (kdsP [.val (.ag kd1), .val (.sc (.int .i64)), .val (.sc (.flt .f32))]))) [.ag kd2, .sc (.int .i64)] = newUnit_vE1 x := by kernel_rfl



noncomputable def newUnit_v1 (x : Vars) : AV := .tup [.agg [.sint .i8 (1), .flt .f32 ((x.u 16)), .flt .f32 (0), .flt .f32 (0), .flt .f32 (0), .flt .f32 (0), .flt .f32 (0), .flt .f32 (0), .flt .f32 (0), .sint .i8 ((x.i 0)), .flt .f32 ((x.u 1)), .flt .f32 ((x.u 2)), .flt .f32 ((x.u 3)), .flt .f32 ((x.u 4)), .flt .f32 ((x.u 5)), .flt .f32 ((x.u 6)), .flt .f32 ((x.u 7)), .flt .f32 ((x.u 8)), .flt .f32 ((x.u 9)), .flt .f32 ((x.u 10)), .flt .f32 ((x.u 11)), .flt .f32 ((x.u 12)), .flt .f32 ((x.u 13)), .flt .f32 ((x.u 14)), .sint .i8 (0), .flt .f32 (0), .flt .f32 (0), .flt .f32 (0), .flt .f32 (0), .flt .f32 (0), .flt .f32 (0), .flt .f32 (0), .flt .f32 (0), .flt .f32 (0), .flt .f32 (0), .flt .f32 (0), .flt .f32 (0), .flt .f32 (0), .flt .f32 (0), .sint .i8 (0), .flt .f32 (0), .flt .f32 (0), .flt .f32 (0), .flt .f32 (0), .flt .f32 (0), .flt .f32 (0), .flt .f32 (0), .flt .f32 (0), .flt .f32 (0), .flt .f32 (0), .flt .f32 (0), .flt .f32 (0), .flt .f32 (0), .flt .f32 (0), .sint .i8 (0), .flt .f32 (0), .flt .f32 (0), .flt .f32 (0), .flt .f32 (0), .flt .f32 (0), .flt .f32 (0), .flt .f32 (0), .flt .f32 (0), .flt .f32 (0), .flt .f32 (0), .flt .f32 (0), .flt .f32 (0), .flt .f32 (0), .flt .f32 (0), .sint .i8 (0), .flt .f32 (0), .flt .f32 (0), .flt .f32 (0), .flt .f32 (0), .flt .f32 (0), .flt .f32 (0), .flt .f32 (0), .flt .f32 (0), .flt .f32 (0), .flt .f32 (0), .flt .f32 (0), .flt .f32 (0), .flt .f32 (0), .flt .f32 (0), .sint .i8 (0), .flt .f32 (0), .flt .f32 (0), .flt .f32 (0), .flt .f32 (0), .flt .f32 (0), .flt .f32 (0), .flt .f32 (0), .flt .f32 (0), .flt .f32 (0), .flt .f32 (0), .flt .f32 (0), .flt .f32 (0), .flt .f32 (0), .flt .f32 (0), .sint .i8 (0), .flt .f32 (0), .flt .f32 (0), .flt .f32 (0), .flt .f32 (0), .flt .f32 (0), .flt .f32 (0), .flt .f32 (0), .flt .f32 (0), .flt .f32 (0), .flt .f32 (0), .flt .f32 (0), .flt .f32 (0), .flt .f32 (0), .flt .f32 (0), .sint .i8 (0), .flt .f32 (0), .flt .f32 (0), .flt .f32 (0), .flt .f32 (0), .flt .f32 (0), .flt .f32 (0), .flt .f32 (0), .flt .f32 (0), .flt .f32 (0), .flt .f32 (0), .flt .f32 (0), .flt .f32 (0), .flt .f32 (0), .flt .f32 (0)], .sint .i64 (0)]

noncomputable def newUnitZ1 (l : List AV) : Vars := outV (some (newUnit_v1 (varsOf l), []))

theorem newUnit_x1 (x : Vars) : mkR (newUnitZ1 (mkL x 0 (kdsP [.val (.ag kd1), .val (.sc (.int .i64)), .val (.sc (.flt .f32))]))) [.ag kd2, .sc (.int .i64)] = newUnit_v1 x := by kernel_rfl



noncomputable def newUnit_v2 (x : Vars) : AV := .tup [.agg [.sint .i8 (2), .flt .f32 ((x.u 16)), .flt .f32 ((x.u 16)), .flt .f32 (0), .flt .f32 (0), .flt .f32 (0), .flt .f32 (0), .flt .f32 (0), .flt .f32 (0), .sint .i8 ((x.i 0)), .flt .f32 ((x.u 1)), .flt .f32 ((x.u 2)), .flt .f32 ((x.u 3)), .flt .f32 ((x.u 4)), .flt .f32 ((x.u 5)), .flt .f32 ((x.u 6)), .flt .f32 ((x.u 7)), .flt .f32 ((x.u 8)), .flt .f32 ((x.u 9)), .flt .f32 ((x.u 10)), .flt .f32 ((x.u 11)), .flt .f32 ((x.u 12)), .flt .f32 ((x.u 13)), .flt .f32 ((x.u 14)), .sint .i8 ((x.i 0)), .flt .f32 ((x.u 1)), .flt .f32 ((x.u 2)), .flt .f32 ((x.u 3)), .flt .f32 ((x.u 4)), .flt .f32 ((x.u 5)), .flt .f32 ((x.u 6)), .flt .f32 ((x.u 7)), .flt .f32 ((x.u 8)), .flt .f32 ((x.u 9)), .flt .f32 ((x.u 10)), .flt .f32 ((x.u 11)), .flt .f32 ((x.u 12)), .flt .f32 ((x.u 13)), .flt .f32 ((x.u 14)), .sint .i8 (0), .flt .f32 (0), .flt .f32 (0), .flt .f32 (0), .flt .f32 (0), .flt .f32 (0), .flt .f32 (0), .flt .f32 (0), .flt .f32 (0), .flt .f32 (0), .flt .f32 (0), .flt .f32 (0), .flt .f32 (0), .flt .f32 (0), .flt .f32 (0), .sint .i8 (0), .flt .f32 (0), .flt .f32 (0), .flt .f32 (0), .flt .f32 (0), .flt .f32 (0), .flt .f32 (0), .flt .f32 (0), .flt .f32 (0), .flt .f32 (0), .flt .f32 (0), .flt .f32 (0), .flt .f32 (0), .flt .f32 (0), .flt .f32 (0), .sint .i8 (0), .flt .f32 (0), .flt .f32 (0), .flt .f32 (0), .flt .f32 (0), .flt .f32 (0), .flt .f32 (0), .flt .f32 (0), .flt .f32 (0), .flt .f32 (0), .flt .f32 (0), .flt .f32 (0), .flt .f32 (0), .flt .f32 (0), .flt .f32 (0), .sint .i8 (0), .flt .f32 (0), .flt .f32 (0), .flt .f32 (0), .flt .f32 (0), .flt .f32 (0), .flt .f32 (0), .flt .f32 (0), .flt .f32 (0), .flt .f32 (0), .flt .f32 (0), .flt .f32 (0), .flt .f32 (0), .flt .f32 (0), .flt .f32 (0), .sint .i8 (0), .flt .f32 (0), .flt .f32 (0), .flt .f32 (0), .flt .f32 (0), .flt .f32 (0), .flt .f32 (0), .flt .f32 (0), .flt .f32 (0), .flt .f32 (0), .flt .f32 (0), .flt .f32 (0), .flt .f32 (0), .flt .f32 (0), .flt .f32 (0), .sint .i8 (0), .flt .f32 (0), .flt .f32 (0), .flt .f32 (0), .flt .f32 (0), .flt .f32 (0), .flt .f32 (0), .flt .f32 (0), .flt .f32 (0), .flt .f32 (0), .flt .f32 (0), .flt .f32 (0), .flt .f32 (0), .flt .f32 (0), .flt .f32 (0)], .sint .i64 (0)]

noncomputable def newUnitZ2 (l : List AV) : Vars := outV (some (newUnit_v2 (varsOf l), []))

theorem newUnit_x2 (x : Vars) : mkR (newUnitZ2 (mkL x 0 (kdsP [.val (.ag kd1), .val (.sc (.int .i64)), .val (.sc (.flt .f32))]))) [.ag kd2, .sc (.int .i64)] = newUnit_v2 x := by kernel_rfl



noncomputable def newUnit_v3 (x : Vars) : AV := .tup [.agg [.sint .i8 (3), .flt .f32 ((x.u 16)), .flt .f32 ((x.u 16)), .flt .f32 ((x.u 16)), .flt .f32 (0), .flt .f32 (0), .flt .f32 (0), .flt .f32 (0), .flt .f32 (0), .sint .i8 ((x.i 0)), .flt .f32 ((x.u 1)), .flt .f32 ((x.u 2)), .flt .f32 ((x.u 3)), .flt .f32 ((x.u 4)), .flt .f32 ((x.u 5)), .flt .f32 ((x.u 6)), .flt .f32 ((x.u 7)), .flt .f32 ((x.u 8)), .flt .f32 ((x.u 9)), .flt .f32 ((x.u 10)), .flt .f32 ((x.u 11)), .flt .f32 ((x.u 12)), .flt .f32 ((x.u 13)), .flt .f32 ((x.u 14)), .sint .i8 ((x.i 0)), .flt .f32 ((x.u 1)), .flt .f32 ((x.u 2)), .flt .f32 ((x.u 3)), .flt .f32 ((x.u 4)), .flt .f32 ((x.u 5)), .flt .f32 ((x.u 6)), .flt .f32 ((x.u 7)), .flt .f32 ((x.u 8)), .flt .f32 ((x.u 9)), .flt .f32 ((x.u 10)), .flt .f32 ((x.u 11)), .flt .f32 ((x.u 12)), .flt .f32 ((x.u 13)), .flt .f32 ((x.u 14)), .sint .i8 ((x.i 0)), .flt .f32 ((x.u 1)), .flt .f32 ((x.u 2)), .flt .f32 ((x.u 3)), .flt .f32 ((x.u 4)), .flt .f32 ((x.u 5)), .flt .f32 ((x.u 6)), .flt .f32 ((x.u 7)), .flt .f32 ((x.u 8)), .flt .f32 ((x.u 9)), .flt .f32 ((x.u 10)), .flt .f32 ((x.u 11)), .flt .f32 ((x.u 12)), .flt .f32 ((x.u 13)), .flt .f32 ((x.u 14)), .sint .i8 (0), .flt .f32 (0), .flt .f32 (0), .flt .f32 (0), .flt .f32 (0), .flt .f32 (0), .flt .f32 (0), .flt .f32 (0), .flt .f32 (0), .flt .f32 (0), .flt .f32 (0), .flt .f32 (0), .flt .f32 (0), .flt .f32 (0), .flt .f32 (0), .sint .i8 (0), .flt .f32 (0), .flt .f32 (0), .flt .f32 (0), .flt .f32 (0), .flt .f32 (0), .flt .f32 (0), .flt .f32 (0), .flt .f32 (0), .flt .f32 (0), .flt .f32 (0), .flt .f32 (0), .flt .f32 (0), .flt .f32 (0), .flt .f32 (0), .sint .i8 (0), .flt .f32 (0), .flt .f32 (0), .flt .f32 (0), .flt .f32 (0), .flt .f32 (0), .flt .f32 (0), .flt .f32 (0), .flt .f32 (0), .flt .f32 (0), .flt .f32 (0), .flt .f32 (0), .flt .f32 (0), .flt .f32 (0), .flt .f32 (0), .sint .i8 (0), .flt .f32 (0), .flt .f32 (0), .flt .f32 (0), .flt .f32 (0), .flt .f32 (0), .flt .f32 (0), .flt .f32 (0), .flt .f32 (0), .flt .f32 (0), .flt .f32 (0), .flt .f32 (0), .flt .f32 (0), .flt .f32 (0), .flt .f32 (0), .sint .i8 (0), .flt .f32 (0), .flt .f32 (0), .flt .f32 (0), .flt .f32 (0), .flt .f32 (0), .flt .f32 (0), .flt .f32 (0), .flt .f32 (0), .flt .f32 (0), .flt .f32 (0), .flt .f32 (0), .flt .f32 (0), .flt .f32 (0), .flt .f32 (0)], .sint .i64 (0)]

noncomputable def newUnitZ3 (l : List AV) : Vars := outV (some (newUnit_v3 (varsOf l), []))

theorem newUnit_x3 (x : Vars) : mkR (newUnitZ3 (mkL x 0 (kdsP [.val (.ag kd1), .val (.sc (.int .i64)), .val (.sc (.flt .f32))]))) [.ag kd2, .sc (.int .i64)] = newUnit_v3 x := by kernel_rfl



noncomputable def newUnit_v4 (x : Vars) : AV := .tup [.agg [.sint .i8 (4), .flt .f32 ((x.u 16)), .flt .f32 ((x.u 16)), .flt .f32 ((x.u 16)), .flt .f32 ((x.u 16)), .flt .f32 (0), .flt .f32 (0), .flt .f32 (0), .flt .f32 (0), .sint .i8 ((x.i 0)), .flt .f32 ((x.u 1)), .flt .f32 ((x.u 2)), .flt .f32 ((x.u 3)), .flt .f32 ((x.u 4)), .flt .f32 ((x.u 5)), .flt .f32 ((x.u 6)), .flt .f32 ((x.u 7)), .flt .f32 ((x.u 8)), .flt .f32 ((x.u 9)), .flt .f32 ((x.u 10)), .flt .f32 ((x.u 11)), .flt .f32 ((x.u 12)), .flt .f32 ((x.u 13)), .flt .f32 ((x.u 14)), .sint .i8 ((x.i 0)), .flt .f32 ((x.u 1)), .flt .f32 ((x.u 2)), .flt .f32 ((x.u 3)), .flt .f32 ((x.u 4)), .flt .f32 ((x.u 5)), .flt .f32 ((x.u 6)), .flt .f32 ((x.u 7)), .flt .f32 ((x.u 8)), .flt .f32 ((x.u 9)), .flt .f32 ((x.u 10)), .flt .f32 ((x.u 11)), .flt .f32 ((x.u 12)), .flt .f32 ((x.u 13)), .flt .f32 ((x.u 14)), .sint .i8 ((x.i 0)), .flt .f32 ((x.u 1)), .flt .f32 ((x.u 2)), .flt .f32 ((x.u 3)), .flt .f32 ((x.u 4)), .flt .f32 ((x.u 5)), .flt .f32 ((x.u 6)), .flt .f32 ((x.u 7)), .flt .f32 ((x.u 8)), .flt .f32 ((x.u 9)), .flt .f32 ((x.u 10)), .flt .f32 ((x.u 11)), .flt .f32 ((x.u 12)), .flt .f32 ((x.u 13)), .flt .f32 ((x.u 14)), .sint .i8 ((x.i 0)), .flt .f32 ((x.u 1)), .flt .f32 ((x.u 2)), .flt .f32 ((x.u 3)), .flt .f32 ((x.u 4)), .flt .f32 ((x.u 5)), .flt .f32 ((x.u 6)), .flt .f32 ((x.u 7)), .flt .f32 ((x.u 8)), .flt .f32 ((x.u 9)), .flt .f32 ((x.u 10)), .flt .f32 ((x.u 11)), .flt .f32 ((x.u 12)), .flt .f32 ((x.u 13)), .flt .f32 ((x.u 14)), .sint .i8 (0), .flt .f32 (0), .flt .f32 (0), .flt .f32 (0), .flt .f32 (0), .flt .f32 (0), .flt .f32 (0), .flt .f32 (0), .flt .f32 (0), .flt .f32 (0), .flt .f32 (0), .flt .f32 (0), .flt .f32 (0), .flt .f32 (0), .flt .f32 (0), .sint .i8 (0), .flt .f32 (0), .flt .f32 (0), .flt .f32 (0), .flt .f32 (0), .flt .f32 (0), .flt .f32 (0), .flt .f32 (0), .flt .f32 (0), .flt .f32 (0), .flt .f32 (0), .flt .f32 (0), .flt .f32 (0), .flt .f32 (0), .flt .f32 (0), .sint .i8 (0), .flt .f32 (0), .flt .f32 (0), .flt .f32 (0), .flt .f32 (0), .flt .f32 (0), .flt .f32 (0), .flt .f32 (0), .flt .f32 (0), .flt .f32 (0), .flt .f32 (0), .flt .f32 (0), .flt .f32 (0), .flt .f32 (0), .flt .f32 (0), .sint .i8 (0), .flt .f32 (0), .flt .f32 (0), .flt .f32 (0), .flt .f32 (0), .flt .f32 (0), .flt .f32 (0), .flt .f32 (0), .flt .f32 (0), .flt .f32 (0), .flt .f32 (0), .flt .f32 (0), .flt .f32 (0), .flt .f32 (0), .flt .f32 (0)], .sint .i64 (0)]

noncomputable def newUnitZ4 (l : List AV) : Vars := outV (some (newUnit_v4 (varsOf l), []))

theorem newUnit_x4 (x : Vars) : mkR (newUnitZ4 (mkL x 0 (kdsP [.val (.ag kd1), .val (.sc (.int .i64)), .val (.sc (.flt .f32))]))) [.ag kd2, .sc (.int .i64)] = newUnit_v4 x := by kernel_rfl



noncomputable def newUnit_v5 (x : Vars) : AV := .tup [.agg [.sint .i8 (5), .flt .f32 ((x.u 16)), .flt .f32 ((x.u 16)), .flt .f32 ((x.u 16)), .flt .f32 ((x.u 16)), .flt .f32 ((x.u 16)), .flt .f32 (0), .flt .f32 (0), .flt .f32 (0), .sint .i8 ((x.i 0)), .flt .f32 ((x.u 1)), .flt .f32 ((x.u 2)), .flt .f32 ((x.u 3)), .flt .f32 ((x.u 4)), .flt .f32 ((x.u 5)), .flt .f32 ((x.u 6)), .flt .f32 ((x.u 7)), .flt .f32 ((x.u 8)), .flt .f32 ((x.u 9)), .flt .f32 ((x.u 10)), .flt .f32 ((x.u 11)), .flt .f32 ((x.u 12)), .flt .f32 ((x.u 13)), .flt .f32 ((x.u 14)), .sint .i8 ((x.i 0)), .flt .f32 ((x.u 1)), .flt .f32 ((x.u 2)), .flt .f32 ((x.u 3)), .flt .f32 ((x.u 4)), .flt .f32 ((x.u 5)), .flt .f32 ((x.u 6)), .flt .f32 ((x.u 7)), .flt .f32 ((x.u 8)), .flt .f32 ((x.u 9)), .flt .f32 ((x.u 10)), .flt .f32 ((x.u 11)), .flt .f32 ((x.u 12)), .flt .f32 ((x.u 13)), .flt .f32 ((x.u 14)), .sint .i8 ((x.i 0)), .flt .f32 ((x.u 1)), .flt .f32 ((x.u 2)), .flt .f32 ((x.u 3)), .flt .f32 ((x.u 4)), .flt .f32 ((x.u 5)), .flt .f32 ((x.u 6)), .flt .f32 ((x.u 7)), .flt .f32 ((x.u 8)), .flt .f32 ((x.u 9)), .flt .f32 ((x.u 10)), .flt .f32 ((x.u 11)), .flt .f32 ((x.u 12)), .flt .f32 ((x.u 13)), .flt .f32 ((x.u 14)), .sint .i8 ((x.i 0)), .flt .f32 ((x.u 1)), .flt .f32 ((x.u 2)), .flt .f32 ((x.u 3)), .flt .f32 ((x.u 4)), .flt .f32 ((x.u 5)), .flt .f32 ((x.u 6)), .flt .f32 ((x.u 7)), .flt .f32 ((x.u 8)), .flt .f32 ((x.u 9)), .flt .f32 ((x.u 10)), .flt .f32 ((x.u 11)), .flt .f32 ((x.u 12)), .flt .f32 ((x.u 13)), .flt .f32 ((x.u 14)), .sint .i8 ((x.i 0)), .flt .f32 ((x.u 1)), .flt .f32 ((x.u 2)), .flt .f32 ((x.u 3)), .flt .f32 ((x.u 4)), .flt .f32 ((x.u 5)), .flt .f32 ((x.u 6)), .flt .f32 ((x.u 7)), .flt .f32 ((x.u 8)), .flt .f32 ((x.u 9)), .flt .f32 ((x.u 10)), .flt .f32 ((x.u 11)), .flt .f32 ((x.u 12)), .flt .f32 ((x.u 13)), .flt .f32 ((x.u 14)), .sint .i8 (0), .flt .f32 (0), .flt .f32 (0), .flt .f32 (0), .flt .f32 (0), .flt .f32 (0), .flt .f32 (0), .flt .f32 (0), .flt .f32 (0), .flt .f32 (0), .flt .f32 (0), .flt .f32 (0), .flt .f32 (0), .flt .f32 (0), .flt .f32 (0), .sint .i8 (0), .flt .f32 (0), .flt .f32 (0), .flt .f32 (0), .flt .f32 (0), .flt .f32 (0), .flt .f32 (0), .flt .f32 (0), .flt .f32 (0), .flt .f32 (0), .flt .f32 (0), .flt .f32 (0), .flt .f32 (0), .flt .f32 (0), .flt .f32 (0), .sint .i8 (0), .flt .f32 (0), .flt .f32 (0), .flt .f32 (0), .flt .f32 (0), .flt .f32 (0), .flt .f32 (0), .flt .f32 (0), .flt .f32 (0), .flt .f32 (0), .flt .f32 (0), .flt .f32 (0), .flt .f32 (0), .flt .f32 (0), .flt .f32 (0)], .sint .i64 (0)]

noncomputable def newUnitZ5 (l : List AV) : Vars := outV (some (newUnit_v5 (varsOf l), []))

theorem newUnit_x5 (x : Vars) : mkR (newUnitZ5 (mkL x 0 (kdsP [.val (.ag kd1), .val (.sc (.int .i64)), .val (.sc (.flt .f32))]))) [.ag kd2, .sc (.int .i64)] = newUnit_v5 x := by kernel_rfl



noncomputable def newUnit_v6 (x : Vars) : AV := .tup [.agg [.sint .i8 (6), .flt .f32 ((x.u 16)), .flt .f32 ((x.u 16)), .flt .f32 ((x.u 16)), .flt .f32 ((x.u 16)), .flt .f32 ((x.u 16)), .flt .f32 ((x.u 16)), .flt .f32 (0), .flt .f32 (0), .sint .i8 ((x.i 0)), .flt .f32 ((x.u 1)), .flt .f32 ((x.u 2)), .flt .f32 ((x.u 3)), .flt .f32 ((x.u 4)), .flt .f32 ((x.u 5)), .flt .f32 ((x.u 6)), .flt .f32 ((x.u 7)), .flt .f32 ((x.u 8)), .flt .f32 ((x.u 9)), .flt .f32 ((x.u 10)), .flt .f32 ((x.u 11)), .flt .f32 ((x.u 12)), .flt .f32 ((x.u 13)), .flt .f32 ((x.u 14)), .sint .i8 ((x.i 0)), .flt .f32 ((x.u 1)), .flt .f32 ((x.u 2)), .flt .f32 ((x.u 3)), .flt .f32 ((x.u 4)), .flt .f32 ((x.u 5)), .flt .f32 ((x.u 6)), .flt .f32 ((x.u 7)), .flt .f32 ((x.u 8)), .flt .f32 ((x.u 9)), .flt .f32 ((x.u 10)), .flt .f32 ((x.u 11)), .flt .f32 ((x.u 12)), .flt .f32 ((x.u 13)), .flt .f32 ((x.u 14)), .sint .i8 ((x.i 0)), .flt .f32 ((x.u 1)), .flt .f32 ((x.u 2)), .flt .f32 ((x.u 3)), .flt .f32 ((x.u 4)), .flt .f32 ((x.u 5)), .flt .f32 ((x.u 6)), .flt .f32 ((x.u 7)), .flt .f32 ((x.u 8)), .flt .f32 ((x.u 9)), .flt .f32 ((x.u 10)), .flt .f32 ((x.u 11)), .flt .f32 ((x.u 12)), .flt .f32 ((x.u 13)), .flt .f32 ((x.u 14)), .sint .i8 ((x.i 0)), .flt .f32 ((x.u 1)), .flt .f32 ((x.u 2)), .flt .f32 ((x.u 3)), .flt .f32 ((x.u 4)), .flt .f32 ((x.u 5)), .flt .f32 ((x.u 6)), .flt .f32 ((x.u 7)), .flt .f32 ((x.u 8)), .flt .f32 ((x.u 9)), .flt .f32 ((x.u 10)), .flt .f32 ((x.u 11)), .flt .f32 ((x.u 12)), .flt .f32 ((x.u 13)), .flt .f32 ((x.u 14)), .sint .i8 ((x.i 0)), .flt .f32 ((x.u 1)), .flt .f32 ((x.u 2)), .flt .f32 ((x.u 3)), .flt .f32 ((x.u 4)), .flt .f32 ((x.u 5)), .flt .f32 ((x.u 6)), .flt .f32 ((x.u 7)), .flt .f32 ((x.u 8)), .flt .f32 ((x.u 9)), .flt .f32 ((x.u 10)), .flt .f32 ((x.u 11)), .flt .f32 ((x.u 12)), .flt .f32 ((x.u 13)), .flt .f32 ((x.u 14)), .sint .i8 ((x.i 0)), .flt .f32 ((x.u 1)), .flt .f32 ((x.u 2)), .flt .f32 ((x.u 3)), .flt .f32 ((x.u 4)), .flt .f32 ((x.u 5)), .flt .f32 ((x.u 6)), .flt .f32 ((x.u 7)), .flt .f32 ((x.u 8)), .flt .f32 ((x.u 9)), .flt .f32 ((x.u 10)), .flt .f32 ((x.u 11)), .flt .f32 ((x.u 12)), .flt .f32 ((x.u 13)), .flt .f32 ((x.u 14)), .sint .i8 (0), .flt .f32 (0), .flt .f32 (0), .flt .f32 (0), .flt .f32 (0), .flt .f32 (0), .flt .f32 (0), .flt .f32 (0), .flt .f32 (0), .flt .f32 (0), .flt .f32 (0), .flt .f32 (0), .flt .f32 (0), .flt .f32 (0), .flt .f32 (0), .sint .i8 (0), .flt .f32 (0), .flt .f32 (0), .flt .f32 (0), .flt .f32 (0), .flt .f32 (0), .flt .f32 (0), .flt .f32 (0), .flt .f32 (0), .flt .f32 (0), .flt .f32 (0), .flt .f32 (0), .flt .f32 (0), .flt .f32 (0), .flt .f32 (0)], .sint .i64 (0)]

noncomputable def newUnitZ6 (l : List AV) : Vars := outV (some (newUnit_v6 (varsOf l), []))

theorem newUnit_x6 (x : Vars) : mkR (newUnitZ6 (mkL x 0 (kdsP [.val (.ag kd1), .val (.sc (.int .i64)), .val (.sc (.flt .f32))]))) [.ag kd2, .sc (.int .i64)] = newUnit_v6 x := by kernel_rfl



noncomputable def newUnit_v7 (x : Vars) : AV := .tup [.agg [.sint .i8 (7), .flt .f32 ((x.u 16)), .flt .f32 ((x.u 16)), .flt .f32 ((x.u 16)), .flt .f32 ((x.u 16)), .flt .f32 ((x.u 16)), .flt .f32 ((x.u 16)), .flt .f32 ((x.u 16)), .flt .f32 (0), .sint .i8 ((x.i 0)), .flt .f32 ((x.u 1)), .flt .f32 ((x.u 2)), .flt .f32 ((x.u 3)), .flt .f32 ((x.u 4)), .flt .f32 ((x.u 5)), .flt .f32 ((x.u 6)), .flt .f32 ((x.u 7)), .flt .f32 ((x.u 8)), .flt .f32 ((x.u 9)), .flt .f32 ((x.u 10)), .flt .f32 ((x.u 11)), .flt .f32 ((x.u 12)), .flt .f32 ((x.u 13)), .flt .f32 ((x.u 14)), .sint .i8 ((x.i 0)), .flt .f32 ((x.u 1)), .flt .f32 ((x.u 2)), .flt .f32 ((x.u 3)), .flt .f32 ((x.u 4)), .flt .f32 ((x.u 5)), .flt .f32 ((x.u 6)), .flt .f32 ((x.u 7)), .flt .f32 ((x.u 8)), .flt .f32 ((x.u 9)), .flt .f32 ((x.u 10)), .flt .f32 ((x.u 11)), .flt .f32 ((x.u 12)), .flt .f32 ((x.u 13)), .flt .f32 ((x.u 14)), .sint .i8 ((x.i 0)), .flt .f32 ((x.u 1)), .flt .f32 ((x.u 2)), .flt .f32 ((x.u 3)), .flt .f32 ((x.u 4)), .flt .f32 ((x.u 5)), .flt .f32 ((x.u 6)), .flt .f32 ((x.u 7)), .flt .f32 ((x.u 8)), .flt .f32 ((x.u 9)), .flt .f32 ((x.u 10)), .flt .f32 ((x.u 11)), .flt .f32 ((x.u 12)), .flt .f32 ((x.u 13)), .flt .f32 ((x.u 14)), .sint .i8 ((x.i 0)), .flt .f32 ((x.u 1)), .flt .f32 ((x.u 2)), .flt .f32 ((x.u 3)), .flt .f32 ((x.u 4)), .flt .f32 ((x.u 5)), .flt .f32 ((x.u 6)), .flt .f32 ((x.u 7)), .flt .f32 ((x.u 8)), .flt .f32 ((x.u 9)), .flt .f32 ((x.u 10)), .flt .f32 ((x.u 11)), .flt .f32 ((x.u 12)), .flt .f32 ((x.u 13)), .flt .f32 ((x.u 14)), .sint .i8 ((x.i 0)), .flt .f32 ((x.u 1)), .flt .f32 ((x.u 2)), .flt .f32 ((x.u 3)), .flt .f32 ((x.u 4)), .flt .f32 ((x.u 5)), .flt .f32 ((x.u 6)), .flt .f32 ((x.u 7)), .flt .f32 ((x.u 8)), .flt .f32 ((x.u 9)), .flt .f32 ((x.u 10)), .flt .f32 ((x.u 11)), .flt .f32 ((x.u 12)), .flt .f32 ((x.u 13)), .flt .f32 ((x.u 14)), .sint .i8 ((x.i 0)), .flt .f32 ((x.u 1)), .flt .f32 ((x.u 2)), .flt .f32 ((x.u 3)), .flt .f32 ((x.u 4)), .flt .f32 ((x.u 5)), .flt .f32 ((x.u 6)), .flt .f32 ((x.u 7)), .flt .f32 ((x.u 8)), .flt .f32 ((x.u 9)), .flt .f32 ((x.u 10)), .flt .f32 ((x.u 11)), .flt .f32 ((x.u 12)), .flt .f32 ((x.u 13)), .flt .f32 ((x.u 14)), .sint .i8 ((x.i 0)), .flt .f32 ((x.u 1)), .flt .f32 ((x.u 2)), .flt .f32 ((x.u 3)), .flt .f32 ((x.u 4)), .flt .f32 ((x.u 5)), .flt .f32 ((x.u 6)), .flt .f32 ((x.u 7)), .flt .f32 ((x.u 8)), .flt .f32 ((x.u 9)), .flt .f32 ((x.u 10)), .flt .f32 ((x.u 11)), .flt .f32 ((x.u 12)), .flt .f32 ((x.u 13)), .flt .f32 ((x.u 14)), .sint .i8 (0), .flt .f32 (0), .flt .f32 (0), .flt .f32 (0), .flt .f32 (0), .flt .f32 (0), .flt .f32 (0), .flt .f32 (0), .flt .f32 (0), .flt .f32 (0), .flt .f32 (0), .flt .f32 (0), .flt .f32 (0), .flt .f32 (0), .flt .f32 (0)], .sint .i64 (0)]

noncomputable def newUnitZ7 (l : List AV) : Vars := outV (some (newUnit_v7 (varsOf l), []))

theorem newUnit_x7 (x : Vars) : mkR (newUnitZ7 (mkL x 0 (kdsP [.val (.ag kd1), .val (.sc (.int .i64)), .val (.sc (.flt .f32))]))) [.ag kd2, .sc (.int .i64)] = newUnit_v7 x := by kernel_rfl



noncomputable def newUnit_v8 (x : Vars) : AV := .tup [.agg [.sint .i8 (8), .flt .f32 ((x.u 16)), .flt .f32 ((x.u 16)), .flt .f32 ((x.u 16)), .flt .f32 ((x.u 16)), .flt .f32 ((x.u 16)), .flt .f32 ((x.u 16)), .flt .f32 ((x.u 16)), .flt .f32 ((x.u 16)), .sint .i8 ((x.i 0)), .flt .f32 ((x.u 1)), .flt .f32 ((x.u 2)), .flt .f32 ((x.u 3)), .flt .f32 ((x.u 4)), .flt .f32 ((x.u 5)), .flt .f32 ((x.u 6)), .flt .f32 ((x.u 7)), .flt .f32 ((x.u 8)), .flt .f32 ((x.u 9)), .flt .f32 ((x.u 10)), .flt .f32 ((x.u 11)), .flt .f32 ((x.u 12)), .flt .f32 ((x.u 13)), .flt .f32 ((x.u 14)), .sint .i8 ((x.i 0)), .flt .f32 ((x.u 1)), .flt .f32 ((x.u 2)), .flt .f32 ((x.u 3)), .flt .f32 ((x.u 4)), .flt .f32 ((x.u 5)), .flt .f32 ((x.u 6)), .flt .f32 ((x.u 7)), .flt .f32 ((x.u 8)), .flt .f32 ((x.u 9)), .flt .f32 ((x.u 10)), .flt .f32 ((x.u 11)), .flt .f32 ((x.u 12)), .flt .f32 ((x.u 13)), .flt .f32 ((x.u 14)), .sint .i8 ((x.i 0)), .flt .f32 ((x.u 1)), .flt .f32 ((x.u 2)), .flt .f32 ((x.u 3)), .flt .f32 ((x.u 4)), .flt .f32 ((x.u 5)), .flt .f32 ((x.u 6)), .flt .f32 ((x.u 7)), .flt .f32 ((x.u 8)), .flt .f32 ((x.u 9)), .flt .f32 ((x.u 10)), .flt .f32 ((x.u 11)), .flt .f32 ((x.u 12)), .flt .f32 ((x.u 13)), .flt .f32 ((x.u 14)), .sint .i8 ((x.i 0)), .flt .f32 ((x.u 1)), .flt .f32 ((x.u 2)), .flt .f32 ((x.u 3)), .flt .f32 ((x.u 4)), .flt .f32 ((x.u 5)), .flt .f32 ((x.u 6)), .flt .f32 ((x.u 7)), .flt .f32 ((x.u 8)), .flt .f32 ((x.u 9)), .flt .f32 ((x.u 10)), .flt .f32 ((x.u 11)), .flt .f32 ((x.u 12)), .flt .f32 ((x.u 13)), .flt .f32 ((x.u 14)), .sint .i8 ((x.i 0)), .flt .f32 ((x.u 1)), .flt .f32 ((x.u 2)), .flt .f32 ((x.u 3)), .flt .f32 ((x.u 4)), .flt .f32 ((x.u 5)), .flt .f32 ((x.u 6)), .flt .f32 ((x.u 7)), .flt .f32 ((x.u 8)), .flt .f32 ((x.u 9)), .flt .f32 ((x.u 10)), .flt .f32 ((x.u 11)), .flt .f32 ((x.u 12)), .flt .f32 ((x.u 13)), .flt .f32 ((x.u 14)), .sint .i8 ((x.i 0)), .flt .f32 ((x.u 1)), .flt .f32 ((x.u 2)), .flt .f32 ((x.u 3)), .flt .f32 ((x.u 4)), .flt .f32 ((x.u 5)), .flt .f32 ((x.u 6)), .flt .f32 ((x.u 7)), .flt .f32 ((x.u 8)), .flt .f32 ((x.u 9)), .flt .f32 ((x.u 10)), .flt .f32 ((x.u 11)), .flt .f32 ((x.u 12)), .flt .f32 ((x.u 13)), .flt .f32 ((x.u 14)), .sint .i8 ((x.i 0)), .flt .f32 ((x.u 1)), .flt .f32 ((x.u 2)), .flt .f32 ((x.u 3)), .flt .f32 ((x.u 4)), .flt .f32 ((x.u 5)), .flt .f32 ((x.u 6)), .flt .f32 ((x.u 7)), .flt .f32 ((x.u 8)), .flt .f32 ((x.u 9)), .flt .f32 ((x.u 10)), .flt .f32 ((x.u 11)), .flt .f32 ((x.u 12)), .flt .f32 ((x.u 13)), .flt .f32 ((x.u 14)), .sint .i8 ((x.i 0)), .flt .f32 ((x.u 1)), .flt .f32 ((x.u 2)), .flt .f32 ((x.u 3)), .flt .f32 ((x.u 4)), .flt .f32 ((x.u 5)), .flt .f32 ((x.u 6)), .flt .f32 ((x.u 7)), .flt .f32 ((x.u 8)), .flt .f32 ((x.u 9)), .flt .f32 ((x.u 10)), .flt .f32 ((x.u 11)), .flt .f32 ((x.u 12)), .flt .f32 ((x.u 13)), .flt .f32 ((x.u 14))], .sint .i64 (0)]

noncomputable def newUnitZ8 (l : List AV) : Vars := outV (some (newUnit_v8 (varsOf l), []))

theorem newUnit_x8 (x : Vars) : mkR (newUnitZ8 (mkL x 0 (kdsP [.val (.ag kd1), .val (.sc (.int .i64)), .val (.sc (.flt .f32))]))) [.ag kd2, .sc (.int .i64)] = newUnit_v8 x := by kernel_rfl

noncomputable def newUnitR0 (l : List AV) : Vars := bif newUnitB0 l then newUnitZE0 l else (bif newUnitB1 l then newUnitZE1 l else (bif decide (intOf (leafN l 15) = 1) then newUnitZ1 l else (bif decide (intOf (leafN l 15) = 2) then newUnitZ2 l else (bif decide (intOf (leafN l 15) = 3) then newUnitZ3 l else (bif decide (intOf (leafN l 15) = 4) then newUnitZ4 l else (bif decide (intOf (leafN l 15) = 5) then newUnitZ5 l else (bif decide (intOf (leafN l 15) = 6) then newUnitZ6 l else (bif decide (intOf (leafN l 15) = 7) then newUnitZ7 l else (newUnitZ8 l)))))))))

noncomputable def newUnitR : List AV → Vars := Classical.choose (⟨newUnitR0, rfl⟩ : ∃ f, f = newUnitR0)

theorem newUnitR_eq : newUnitR = newUnitR0 := Classical.choose_spec (⟨newUnitR0, rfl⟩ : ∃ f, f = newUnitR0)

noncomputable def newUnit_23_E0_a0 (x : Vars) : Vars := validTrainR [(.sint .i8 (x.i 0)), (.flt .f32 (x.u 1)), (.flt .f32 (x.u 2)), (.flt .f32 (x.u 3)), (.flt .f32 (x.u 4)), (.flt .f32 (x.u 5)), (.flt .f32 (x.u 6)), (.flt .f32 (x.u 7)), (.flt .f32 (x.u 8)), (.flt .f32 (x.u 9)), (.flt .f32 (x.u 10)), (.flt .f32 (x.u 11)), (.flt .f32 (x.u 12)), (.flt .f32 (x.u 13)), (.flt .f32 (x.u 14))]


noncomputable def newUnit_cs23_E0 (x : Vars) : List Bool := [(!((newUnit_23_E0_a0 x).b 0))]

set_option maxRecDepth 100000 in
theorem newUnit_c23_E0 (x : Vars) (h0 : newUnitB0 (mkL x 0 (kdsP [.val (.ag kd1), .val (.sc (.int .i64)), .val (.sc (.flt .f32))])) = true) : ∀ b ∈ newUnit_cs23_E0 x, b = true := by
  unfold newUnit_cs23_E0
  exact (allC (notT (notBT ((show (((!((newUnit_23_E0_a0 x).b 0))) : Bool) = newUnitB0 (mkL x 0 (kdsP [.val (.ag kd1), .val (.sc (.int .i64)), .val (.sc (.flt .f32))])) from by kernel_rfl).trans h0))) allN)

theorem newUnit_f23_E0 (x : Vars) : (funA Try.prog G16 1000 23 (argsP [.val (.ag kd1), .val (.sc (.int .i64)), .val (.sc (.flt .f32))] 0 (mkL x 0 (kdsP [.val (.ag kd1), .val (.sc (.int .i64)), .val (.sc (.flt .f32))]))) (memP [.val (.ag kd1), .val (.sc (.int .i64)), .val (.sc (.flt .f32))] (mkL x 0 (kdsP [.val (.ag kd1), .val (.sc (.int .i64)), .val (.sc (.flt .f32))]))) [true]).map (fun r => (normR r.1, untupR r.1 && r.1.flat, r.2)) = some (newUnit_vE0 x, true, newUnit_cs23_E0 x) := by kernel_rfl

theorem newUnit_e23_E0 (x : Vars) : (funA Try.prog G16 1000 23 (argsP [.val (.ag kd1), .val (.sc (.int .i64)), .val (.sc (.flt .f32))] 0 (mkL x 0 (kdsP [.val (.ag kd1), .val (.sc (.int .i64)), .val (.sc (.flt .f32))]))) (memP [.val (.ag kd1), .val (.sc (.int .i64)), .val (.sc (.flt .f32))] (mkL x 0 (kdsP [.val (.ag kd1), .val (.sc (.int .i64)), .val (.sc (.flt .f32))]))) [true]).map (fun r => (normR r.1, untupR r.1 && r.1.flat, r.2)) = some (mkR (newUnitZE0 (mkL x 0 (kdsP [.val (.ag kd1), .val (.sc (.int .i64)), .val (.sc (.flt .f32))]))) [.ag kd2, .sc (.int .i64)], true, newUnit_cs23_E0 x) := by
  rw [newUnit_f23_E0, newUnit_xE0]

noncomputable def newUnit_23_E1_a0 (x : Vars) : Vars := validTrainR [(.sint .i8 (x.i 0)), (.flt .f32 (x.u 1)), (.flt .f32 (x.u 2)), (.flt .f32 (x.u 3)), (.flt .f32 (x.u 4)), (.flt .f32 (x.u 5)), (.flt .f32 (x.u 6)), (.flt .f32 (x.u 7)), (.flt .f32 (x.u 8)), (.flt .f32 (x.u 9)), (.flt .f32 (x.u 10)), (.flt .f32 (x.u 11)), (.flt .f32 (x.u 12)), (.flt .f32 (x.u 13)), (.flt .f32 (x.u 14))]


noncomputable def newUnit_cs23_E1 (x : Vars) : List Bool := [((!((decide (1 ≤ (x.i 15))) && (decide ((x.i 15) ≤ 8)))) || (!((isKeyR [(.flt .f32 (x.u 16))]).b 0))), (!(!((newUnit_23_E1_a0 x).b 0)))]

set_option maxRecDepth 100000 in
theorem newUnit_c23_E1 (x : Vars) (h0 : newUnitB0 (mkL x 0 (kdsP [.val (.ag kd1), .val (.sc (.int .i64)), .val (.sc (.flt .f32))])) = false) (h1 : newUnitB1 (mkL x 0 (kdsP [.val (.ag kd1), .val (.sc (.int .i64)), .val (.sc (.flt .f32))])) = true) : ∀ b ∈ newUnit_cs23_E1 x, b = true := by
  unfold newUnit_cs23_E1
  exact (allC ((show ((((!((decide (1 ≤ (x.i 15))) && (decide ((x.i 15) ≤ 8)))) || (!((isKeyR [(.flt .f32 (x.u 16))]).b 0)))) : Bool) = newUnitB1 (mkL x 0 (kdsP [.val (.ag kd1), .val (.sc (.int .i64)), .val (.sc (.flt .f32))])) from by kernel_rfl).trans h1) (allC (notT (notF (notBF ((show (((!((newUnit_23_E1_a0 x).b 0))) : Bool) = newUnitB0 (mkL x 0 (kdsP [.val (.ag kd1), .val (.sc (.int .i64)), .val (.sc (.flt .f32))])) from by kernel_rfl).trans h0)))) allN))

theorem newUnit_f23_E1 (x : Vars) : (funA Try.prog G16 1000 23 (argsP [.val (.ag kd1), .val (.sc (.int .i64)), .val (.sc (.flt .f32))] 0 (mkL x 0 (kdsP [.val (.ag kd1), .val (.sc (.int .i64)), .val (.sc (.flt .f32))]))) (memP [.val (.ag kd1), .val (.sc (.int .i64)), .val (.sc (.flt .f32))] (mkL x 0 (kdsP [.val (.ag kd1), .val (.sc (.int .i64)), .val (.sc (.flt .f32))]))) [false, true]).map (fun r => (normR r.1, untupR r.1 && r.1.flat, r.2)) = some (newUnit_vE1 x, true, newUnit_cs23_E1 x) := by kernel_rfl

theorem newUnit_e23_E1 (x : Vars) : (funA Try.prog G16 1000 23 (argsP [.val (.ag kd1), .val (.sc (.int .i64)), .val (.sc (.flt .f32))] 0 (mkL x 0 (kdsP [.val (.ag kd1), .val (.sc (.int .i64)), .val (.sc (.flt .f32))]))) (memP [.val (.ag kd1), .val (.sc (.int .i64)), .val (.sc (.flt .f32))] (mkL x 0 (kdsP [.val (.ag kd1), .val (.sc (.int .i64)), .val (.sc (.flt .f32))]))) [false, true]).map (fun r => (normR r.1, untupR r.1 && r.1.flat, r.2)) = some (mkR (newUnitZE1 (mkL x 0 (kdsP [.val (.ag kd1), .val (.sc (.int .i64)), .val (.sc (.flt .f32))]))) [.ag kd2, .sc (.int .i64)], true, newUnit_cs23_E1 x) := by
  rw [newUnit_f23_E1, newUnit_xE1]

noncomputable def newUnit_23_1_a0 (x : Vars) : Vars := validTrainR [(.sint .i8 (x.i 0)), (.flt .f32 (x.u 1)), (.flt .f32 (x.u 2)), (.flt .f32 (x.u 3)), (.flt .f32 (x.u 4)), (.flt .f32 (x.u 5)), (.flt .f32 (x.u 6)), (.flt .f32 (x.u 7)), (.flt .f32 (x.u 8)), (.flt .f32 (x.u 9)), (.flt .f32 (x.u 10)), (.flt .f32 (x.u 11)), (.flt .f32 (x.u 12)), (.flt .f32 (x.u 13)), (.flt .f32 (x.u 14))]


noncomputable def newUnit_cs23_1 (x : Vars) : List Bool := [(!(!((isKeyR [(.flt .f32 (x.u 16))]).b 0))), (!(!((newUnit_23_1_a0 x).b 0)))]

set_option maxRecDepth 100000 in
theorem newUnit_c23_1 (x : Vars) (h0 : newUnitB0 (mkL x 0 (kdsP [.val (.ag kd1), .val (.sc (.int .i64)), .val (.sc (.flt .f32))])) = false) (h1 : newUnitB1 (mkL x 0 (kdsP [.val (.ag kd1), .val (.sc (.int .i64)), .val (.sc (.flt .f32))])) = false) (hz : x.i 15 = 1) : ∀ b ∈ newUnit_cs23_1 x, b = true := by
  unfold newUnit_cs23_1
  exact (allC (notT (notF ((show (((isKeyR [(.flt .f32 (x.u 16))]).b 0) : Bool) = (isKeyR [.flt .f32 (x.u 16)]).b 0 from by kernel_rfl).trans (nuIn x h1).2))) (allC (notT (notF (notBF ((show (((!((newUnit_23_1_a0 x).b 0))) : Bool) = newUnitB0 (normL (litL (mkL x 0 (kdsP [.val (.ag kd1), .val (.sc (.int .i64)), .val (.sc (.flt .f32))])) 15 1)) from by kernel_rfl).trans ((congrArg newUnitB0 (litL_mk hz)).trans h0))))) allN))

theorem newUnit_f23_1 (x : Vars) : (funA Try.prog G16 1000 23 (argsP [.val (.ag kd1), .val (.sc (.int .i64)), .val (.sc (.flt .f32))] 0 (litL (mkL x 0 (kdsP [.val (.ag kd1), .val (.sc (.int .i64)), .val (.sc (.flt .f32))])) 15 1)) (memP [.val (.ag kd1), .val (.sc (.int .i64)), .val (.sc (.flt .f32))] (litL (mkL x 0 (kdsP [.val (.ag kd1), .val (.sc (.int .i64)), .val (.sc (.flt .f32))])) 15 1)) [false, false]).map (fun r => (normR r.1, untupR r.1 && r.1.flat, r.2)) = some (newUnit_v1 x, true, newUnit_cs23_1 x) := by kernel_rfl

theorem newUnit_e23_1 (x : Vars) : (funA Try.prog G16 1000 23 (argsP [.val (.ag kd1), .val (.sc (.int .i64)), .val (.sc (.flt .f32))] 0 (litL (mkL x 0 (kdsP [.val (.ag kd1), .val (.sc (.int .i64)), .val (.sc (.flt .f32))])) 15 1)) (memP [.val (.ag kd1), .val (.sc (.int .i64)), .val (.sc (.flt .f32))] (litL (mkL x 0 (kdsP [.val (.ag kd1), .val (.sc (.int .i64)), .val (.sc (.flt .f32))])) 15 1)) [false, false]).map (fun r => (normR r.1, untupR r.1 && r.1.flat, r.2)) = some (mkR (newUnitZ1 (mkL x 0 (kdsP [.val (.ag kd1), .val (.sc (.int .i64)), .val (.sc (.flt .f32))]))) [.ag kd2, .sc (.int .i64)], true, newUnit_cs23_1 x) := by
  rw [newUnit_f23_1, newUnit_x1]

noncomputable def newUnit_23_2_a0 (x : Vars) : Vars := validTrainR [(.sint .i8 (x.i 0)), (.flt .f32 (x.u 1)), (.flt .f32 (x.u 2)), (.flt .f32 (x.u 3)), (.flt .f32 (x.u 4)), (.flt .f32 (x.u 5)), (.flt .f32 (x.u 6)), (.flt .f32 (x.u 7)), (.flt .f32 (x.u 8)), (.flt .f32 (x.u 9)), (.flt .f32 (x.u 10)), (.flt .f32 (x.u 11)), (.flt .f32 (x.u 12)), (.flt .f32 (x.u 13)), (.flt .f32 (x.u 14))]


noncomputable def newUnit_cs23_2 (x : Vars) : List Bool := [(!(!((isKeyR [(.flt .f32 (x.u 16))]).b 0))), (!(!((newUnit_23_2_a0 x).b 0)))]

set_option maxRecDepth 100000 in
theorem newUnit_c23_2 (x : Vars) (h0 : newUnitB0 (mkL x 0 (kdsP [.val (.ag kd1), .val (.sc (.int .i64)), .val (.sc (.flt .f32))])) = false) (h1 : newUnitB1 (mkL x 0 (kdsP [.val (.ag kd1), .val (.sc (.int .i64)), .val (.sc (.flt .f32))])) = false) (hz : x.i 15 = 2) : ∀ b ∈ newUnit_cs23_2 x, b = true := by
  unfold newUnit_cs23_2
  exact (allC (notT (notF ((show (((isKeyR [(.flt .f32 (x.u 16))]).b 0) : Bool) = (isKeyR [.flt .f32 (x.u 16)]).b 0 from by kernel_rfl).trans (nuIn x h1).2))) (allC (notT (notF (notBF ((show (((!((newUnit_23_2_a0 x).b 0))) : Bool) = newUnitB0 (normL (litL (mkL x 0 (kdsP [.val (.ag kd1), .val (.sc (.int .i64)), .val (.sc (.flt .f32))])) 15 2)) from by kernel_rfl).trans ((congrArg newUnitB0 (litL_mk hz)).trans h0))))) allN))

theorem newUnit_f23_2 (x : Vars) : (funA Try.prog G16 1000 23 (argsP [.val (.ag kd1), .val (.sc (.int .i64)), .val (.sc (.flt .f32))] 0 (litL (mkL x 0 (kdsP [.val (.ag kd1), .val (.sc (.int .i64)), .val (.sc (.flt .f32))])) 15 2)) (memP [.val (.ag kd1), .val (.sc (.int .i64)), .val (.sc (.flt .f32))] (litL (mkL x 0 (kdsP [.val (.ag kd1), .val (.sc (.int .i64)), .val (.sc (.flt .f32))])) 15 2)) [false, false]).map (fun r => (normR r.1, untupR r.1 && r.1.flat, r.2)) = some (newUnit_v2 x, true, newUnit_cs23_2 x) := by kernel_rfl

theorem newUnit_e23_2 (x : Vars) : (funA Try.prog G16 1000 23 (argsP [.val (.ag kd1), .val (.sc (.int .i64)), .val (.sc (.flt .f32))] 0 (litL (mkL x 0 (kdsP [.val (.ag kd1), .val (.sc (.int .i64)), .val (.sc (.flt .f32))])) 15 2)) (memP [.val (.ag kd1), .val (.sc (.int .i64)), .val (.sc (.flt .f32))] (litL (mkL x 0 (kdsP [.val (.ag kd1), .val (.sc (.int .i64)), .val (.sc (.flt .f32))])) 15 2)) [false, false]).map (fun r => (normR r.1, untupR r.1 && r.1.flat, r.2)) = some (mkR (newUnitZ2 (mkL x 0 (kdsP [.val (.ag kd1), .val (.sc (.int .i64)), .val (.sc (.flt .f32))]))) [.ag kd2, .sc (.int .i64)], true, newUnit_cs23_2 x) := by
  rw [newUnit_f23_2, newUnit_x2]

noncomputable def newUnit_23_3_a0 (x : Vars) : Vars := validTrainR [(.sint .i8 (x.i 0)), (.flt .f32 (x.u 1)), (.flt .f32 (x.u 2)), (.flt .f32 (x.u 3)), (.flt .f32 (x.u 4)), (.flt .f32 (x.u 5)), (.flt .f32 (x.u 6)), (.flt .f32 (x.u 7)), (.flt .f32 (x.u 8)), (.flt .f32 (x.u 9)), (.flt .f32 (x.u 10)), (.flt .f32 (x.u 11)), (.flt .f32 (x.u 12)), (.flt .f32 (x.u 13)), (.flt .f32 (x.u 14))]


noncomputable def newUnit_cs23_3 (x : Vars) : List Bool := [(!(!((isKeyR [(.flt .f32 (x.u 16))]).b 0))), (!(!((newUnit_23_3_a0 x).b 0)))]

set_option maxRecDepth 100000 in
theorem newUnit_c23_3 (x : Vars) (h0 : newUnitB0 (mkL x 0 (kdsP [.val (.ag kd1), .val (.sc (.int .i64)), .val (.sc (.flt .f32))])) = false) (h1 : newUnitB1 (mkL x 0 (kdsP [.val (.ag kd1), .val (.sc (.int .i64)), .val (.sc (.flt .f32))])) = false) (hz : x.i 15 = 3) : ∀ b ∈ newUnit_cs23_3 x, b = true := by
  unfold newUnit_cs23_3
  exact (allC (notT (notF ((show (((isKeyR [(.flt .f32 (x.u 16))]).b 0) : Bool) = (isKeyR [.flt .f32 (x.u 16)]).b 0 from by kernel_rfl).trans (nuIn x h1).2))) (allC (notT (notF (notBF ((show (((!((newUnit_23_3_a0 x).b 0))) : Bool) = newUnitB0 (normL (litL (mkL x 0 (kdsP [.val (.ag kd1), .val (.sc (.int .i64)), .val (.sc (.flt .f32))])) 15 3)) from by kernel_rfl).trans ((congrArg newUnitB0 (litL_mk hz)).trans h0))))) allN))

theorem newUnit_f23_3 (x : Vars) : (funA Try.prog G16 1000 23 (argsP [.val (.ag kd1), .val (.sc (.int .i64)), .val (.sc (.flt .f32))] 0 (litL (mkL x 0 (kdsP [.val (.ag kd1), .val (.sc (.int .i64)), .val (.sc (.flt .f32))])) 15 3)) (memP [.val (.ag kd1), .val (.sc (.int .i64)), .val (.sc (.flt .f32))] (litL (mkL x 0 (kdsP [.val (.ag kd1), .val (.sc (.int .i64)), .val (.sc (.flt .f32))])) 15 3)) [false, false]).map (fun r => (normR r.1, untupR r.1 && r.1.flat, r.2)) = some (newUnit_v3 x, true, newUnit_cs23_3 x) := by kernel_rfl

theorem newUnit_e23_3 (x : Vars) : (funA Try.prog G16 1000 23 (argsP [.val (.ag kd1), .val (.sc (.int .i64)), .val (.sc (.flt .f32))] 0 (litL (mkL x 0 (kdsP [.val (.ag kd1), .val (.sc (.int .i64)), .val (.sc (.flt .f32))])) 15 3)) (memP [.val (.ag kd1), .val (.sc (.int .i64)), .val (.sc (.flt .f32))] (litL (mkL x 0 (kdsP [.val (.ag kd1), .val (.sc (.int .i64)), .val (.sc (.flt .f32))])) 15 3)) [false, false]).map (fun r => (normR r.1, untupR r.1 && r.1.flat, r.2)) = some (mkR (newUnitZ3 (mkL x 0 (kdsP [.val (.ag kd1), .val (.sc (.int .i64)), .val (.sc (.flt .f32))]))) [.ag kd2, .sc (.int .i64)], true, newUnit_cs23_3 x) := by
  rw [newUnit_f23_3, newUnit_x3]

noncomputable def newUnit_23_4_a0 (x : Vars) : Vars := validTrainR [(.sint .i8 (x.i 0)), (.flt .f32 (x.u 1)), (.flt .f32 (x.u 2)), (.flt .f32 (x.u 3)), (.flt .f32 (x.u 4)), (.flt .f32 (x.u 5)), (.flt .f32 (x.u 6)), (.flt .f32 (x.u 7)), (.flt .f32 (x.u 8)), (.flt .f32 (x.u 9)), (.flt .f32 (x.u 10)), (.flt .f32 (x.u 11)), (.flt .f32 (x.u 12)), (.flt .f32 (x.u 13)), (.flt .f32 (x.u 14))]


noncomputable def newUnit_cs23_4 (x : Vars) : List Bool := [(!(!((isKeyR [(.flt .f32 (x.u 16))]).b 0))), (!(!((newUnit_23_4_a0 x).b 0)))]

set_option maxRecDepth 100000 in
theorem newUnit_c23_4 (x : Vars) (h0 : newUnitB0 (mkL x 0 (kdsP [.val (.ag kd1), .val (.sc (.int .i64)), .val (.sc (.flt .f32))])) = false) (h1 : newUnitB1 (mkL x 0 (kdsP [.val (.ag kd1), .val (.sc (.int .i64)), .val (.sc (.flt .f32))])) = false) (hz : x.i 15 = 4) : ∀ b ∈ newUnit_cs23_4 x, b = true := by
  unfold newUnit_cs23_4
  exact (allC (notT (notF ((show (((isKeyR [(.flt .f32 (x.u 16))]).b 0) : Bool) = (isKeyR [.flt .f32 (x.u 16)]).b 0 from by kernel_rfl).trans (nuIn x h1).2))) (allC (notT (notF (notBF ((show (((!((newUnit_23_4_a0 x).b 0))) : Bool) = newUnitB0 (normL (litL (mkL x 0 (kdsP [.val (.ag kd1), .val (.sc (.int .i64)), .val (.sc (.flt .f32))])) 15 4)) from by kernel_rfl).trans ((congrArg newUnitB0 (litL_mk hz)).trans h0))))) allN))

theorem newUnit_f23_4 (x : Vars) : (funA Try.prog G16 1000 23 (argsP [.val (.ag kd1), .val (.sc (.int .i64)), .val (.sc (.flt .f32))] 0 (litL (mkL x 0 (kdsP [.val (.ag kd1), .val (.sc (.int .i64)), .val (.sc (.flt .f32))])) 15 4)) (memP [.val (.ag kd1), .val (.sc (.int .i64)), .val (.sc (.flt .f32))] (litL (mkL x 0 (kdsP [.val (.ag kd1), .val (.sc (.int .i64)), .val (.sc (.flt .f32))])) 15 4)) [false, false]).map (fun r => (normR r.1, untupR r.1 && r.1.flat, r.2)) = some (newUnit_v4 x, true, newUnit_cs23_4 x) := by kernel_rfl

theorem newUnit_e23_4 (x : Vars) : (funA Try.prog G16 1000 23 (argsP [.val (.ag kd1), .val (.sc (.int .i64)), .val (.sc (.flt .f32))] 0 (litL (mkL x 0 (kdsP [.val (.ag kd1), .val (.sc (.int .i64)), .val (.sc (.flt .f32))])) 15 4)) (memP [.val (.ag kd1), .val (.sc (.int .i64)), .val (.sc (.flt .f32))] (litL (mkL x 0 (kdsP [.val (.ag kd1), .val (.sc (.int .i64)), .val (.sc (.flt .f32))])) 15 4)) [false, false]).map (fun r => (normR r.1, untupR r.1 && r.1.flat, r.2)) = some (mkR (newUnitZ4 (mkL x 0 (kdsP [.val (.ag kd1), .val (.sc (.int .i64)), .val (.sc (.flt .f32))]))) [.ag kd2, .sc (.int .i64)], true, newUnit_cs23_4 x) := by
  rw [newUnit_f23_4, newUnit_x4]

noncomputable def newUnit_23_5_a0 (x : Vars) : Vars := validTrainR [(.sint .i8 (x.i 0)), (.flt .f32 (x.u 1)), (.flt .f32 (x.u 2)), (.flt .f32 (x.u 3)), (.flt .f32 (x.u 4)), (.flt .f32 (x.u 5)), (.flt .f32 (x.u 6)), (.flt .f32 (x.u 7)), (.flt .f32 (x.u 8)), (.flt .f32 (x.u 9)), (.flt .f32 (x.u 10)), (.flt .f32 (x.u 11)), (.flt .f32 (x.u 12)), (.flt .f32 (x.u 13)), (.flt .f32 (x.u 14))]


noncomputable def newUnit_cs23_5 (x : Vars) : List Bool := [(!(!((isKeyR [(.flt .f32 (x.u 16))]).b 0))), (!(!((newUnit_23_5_a0 x).b 0)))]

set_option maxRecDepth 100000 in
theorem newUnit_c23_5 (x : Vars) (h0 : newUnitB0 (mkL x 0 (kdsP [.val (.ag kd1), .val (.sc (.int .i64)), .val (.sc (.flt .f32))])) = false) (h1 : newUnitB1 (mkL x 0 (kdsP [.val (.ag kd1), .val (.sc (.int .i64)), .val (.sc (.flt .f32))])) = false) (hz : x.i 15 = 5) : ∀ b ∈ newUnit_cs23_5 x, b = true := by
  unfold newUnit_cs23_5
  exact (allC (notT (notF ((show (((isKeyR [(.flt .f32 (x.u 16))]).b 0) : Bool) = (isKeyR [.flt .f32 (x.u 16)]).b 0 from by kernel_rfl).trans (nuIn x h1).2))) (allC (notT (notF (notBF ((show (((!((newUnit_23_5_a0 x).b 0))) : Bool) = newUnitB0 (normL (litL (mkL x 0 (kdsP [.val (.ag kd1), .val (.sc (.int .i64)), .val (.sc (.flt .f32))])) 15 5)) from by kernel_rfl).trans ((congrArg newUnitB0 (litL_mk hz)).trans h0))))) allN))

theorem newUnit_f23_5 (x : Vars) : (funA Try.prog G16 1000 23 (argsP [.val (.ag kd1), .val (.sc (.int .i64)), .val (.sc (.flt .f32))] 0 (litL (mkL x 0 (kdsP [.val (.ag kd1), .val (.sc (.int .i64)), .val (.sc (.flt .f32))])) 15 5)) (memP [.val (.ag kd1), .val (.sc (.int .i64)), .val (.sc (.flt .f32))] (litL (mkL x 0 (kdsP [.val (.ag kd1), .val (.sc (.int .i64)), .val (.sc (.flt .f32))])) 15 5)) [false, false]).map (fun r => (normR r.1, untupR r.1 && r.1.flat, r.2)) = some (newUnit_v5 x, true, newUnit_cs23_5 x) := by kernel_rfl

theorem newUnit_e23_5 (x : Vars) : (funA Try.prog G16 1000 23 (argsP [.val (.ag kd1), .val (.sc (.int .i64)), .val (.sc (.flt .f32))] 0 (litL (mkL x 0 (kdsP [.val (.ag kd1), .val (.sc (.int .i64)), .val (.sc (.flt .f32))])) 15 5)) (memP [.val (.ag kd1), .val (.sc (.int .i64)), .val (.sc (.flt .f32))] (litL (mkL x 0 (kdsP [.val (.ag kd1), .val (.sc (.int .i64)), .val (.sc (.flt .f32))])) 15 5)) [false, false]).map (fun r => (normR r.1, untupR r.1 && r.1.flat, r.2)) = some (mkR (newUnitZ5 (mkL x 0 (kdsP [.val (.ag kd1), .val (.sc (.int .i64)), .val (.sc (.flt .f32))]))) [.ag kd2, .sc (.int .i64)], true, newUnit_cs23_5 x) := by
  rw [newUnit_f23_5, newUnit_x5]

noncomputable def newUnit_23_6_a0 (x : Vars) : Vars := validTrainR [(.sint .i8 (x.i 0)), (.flt .f32 (x.u 1)), (.flt .f32 (x.u 2)), (.flt .f32 (x.u 3)), (.flt .f32 (x.u 4)), (.flt .f32 (x.u 5)), (.flt .f32 (x.u 6)), (.flt .f32 (x.u 7)), (.flt .f32 (x.u 8)), (.flt .f32 (x.u 9)), (.flt .f32 (x.u 10)), (.flt .f32 (x.u 11)), (.flt .f32 (x.u 12)), (.flt .f32 (x.u 13)), (.flt .f32 (x.u 14))]


noncomputable def newUnit_cs23_6 (x : Vars) : List Bool := [(!(!((isKeyR [(.flt .f32 (x.u 16))]).b 0))), (!(!((newUnit_23_6_a0 x).b 0)))]

set_option maxRecDepth 100000 in
theorem newUnit_c23_6 (x : Vars) (h0 : newUnitB0 (mkL x 0 (kdsP [.val (.ag kd1), .val (.sc (.int .i64)), .val (.sc (.flt .f32))])) = false) (h1 : newUnitB1 (mkL x 0 (kdsP [.val (.ag kd1), .val (.sc (.int .i64)), .val (.sc (.flt .f32))])) = false) (hz : x.i 15 = 6) : ∀ b ∈ newUnit_cs23_6 x, b = true := by
  unfold newUnit_cs23_6
  exact (allC (notT (notF ((show (((isKeyR [(.flt .f32 (x.u 16))]).b 0) : Bool) = (isKeyR [.flt .f32 (x.u 16)]).b 0 from by kernel_rfl).trans (nuIn x h1).2))) (allC (notT (notF (notBF ((show (((!((newUnit_23_6_a0 x).b 0))) : Bool) = newUnitB0 (normL (litL (mkL x 0 (kdsP [.val (.ag kd1), .val (.sc (.int .i64)), .val (.sc (.flt .f32))])) 15 6)) from by kernel_rfl).trans ((congrArg newUnitB0 (litL_mk hz)).trans h0))))) allN))

theorem newUnit_f23_6 (x : Vars) : (funA Try.prog G16 1000 23 (argsP [.val (.ag kd1), .val (.sc (.int .i64)), .val (.sc (.flt .f32))] 0 (litL (mkL x 0 (kdsP [.val (.ag kd1), .val (.sc (.int .i64)), .val (.sc (.flt .f32))])) 15 6)) (memP [.val (.ag kd1), .val (.sc (.int .i64)), .val (.sc (.flt .f32))] (litL (mkL x 0 (kdsP [.val (.ag kd1), .val (.sc (.int .i64)), .val (.sc (.flt .f32))])) 15 6)) [false, false]).map (fun r => (normR r.1, untupR r.1 && r.1.flat, r.2)) = some (newUnit_v6 x, true, newUnit_cs23_6 x) := by kernel_rfl

theorem newUnit_e23_6 (x : Vars) : (funA Try.prog G16 1000 23 (argsP [.val (.ag kd1), .val (.sc (.int .i64)), .val (.sc (.flt .f32))] 0 (litL (mkL x 0 (kdsP [.val (.ag kd1), .val (.sc (.int .i64)), .val (.sc (.flt .f32))])) 15 6)) (memP [.val (.ag kd1), .val (.sc (.int .i64)), .val (.sc (.flt .f32))] (litL (mkL x 0 (kdsP [.val (.ag kd1), .val (.sc (.int .i64)), .val (.sc (.flt .f32))])) 15 6)) [false, false]).map (fun r => (normR r.1, untupR r.1 && r.1.flat, r.2)) = some (mkR (newUnitZ6 (mkL x 0 (kdsP [.val (.ag kd1), .val (.sc (.int .i64)), .val (.sc (.flt .f32))]))) [.ag kd2, .sc (.int .i64)], true, newUnit_cs23_6 x) := by
  rw [newUnit_f23_6, newUnit_x6]

noncomputable def newUnit_23_7_a0 (x : Vars) : Vars := validTrainR [(.sint .i8 (x.i 0)), (.flt .f32 (x.u 1)), (.flt .f32 (x.u 2)), (.flt .f32 (x.u 3)), (.flt .f32 (x.u 4)), (.flt .f32 (x.u 5)), (.flt .f32 (x.u 6)), (.flt .f32 (x.u 7)), (.flt .f32 (x.u 8)), (.flt .f32 (x.u 9)), (.flt .f32 (x.u 10)), (.flt .f32 (x.u 11)), (.flt .f32 (x.u 12)), (.flt .f32 (x.u 13)), (.flt .f32 (x.u 14))]


noncomputable def newUnit_cs23_7 (x : Vars) : List Bool := [(!(!((isKeyR [(.flt .f32 (x.u 16))]).b 0))), (!(!((newUnit_23_7_a0 x).b 0)))]

set_option maxRecDepth 100000 in
theorem newUnit_c23_7 (x : Vars) (h0 : newUnitB0 (mkL x 0 (kdsP [.val (.ag kd1), .val (.sc (.int .i64)), .val (.sc (.flt .f32))])) = false) (h1 : newUnitB1 (mkL x 0 (kdsP [.val (.ag kd1), .val (.sc (.int .i64)), .val (.sc (.flt .f32))])) = false) (hz : x.i 15 = 7) : ∀ b ∈ newUnit_cs23_7 x, b = true := by
  unfold newUnit_cs23_7
  exact (allC (notT (notF ((show (((isKeyR [(.flt .f32 (x.u 16))]).b 0) : Bool) = (isKeyR [.flt .f32 (x.u 16)]).b 0 from by kernel_rfl).trans (nuIn x h1).2))) (allC (notT (notF (notBF ((show (((!((newUnit_23_7_a0 x).b 0))) : Bool) = newUnitB0 (normL (litL (mkL x 0 (kdsP [.val (.ag kd1), .val (.sc (.int .i64)), .val (.sc (.flt .f32))])) 15 7)) from by kernel_rfl).trans ((congrArg newUnitB0 (litL_mk hz)).trans h0))))) allN))

theorem newUnit_f23_7 (x : Vars) : (funA Try.prog G16 1000 23 (argsP [.val (.ag kd1), .val (.sc (.int .i64)), .val (.sc (.flt .f32))] 0 (litL (mkL x 0 (kdsP [.val (.ag kd1), .val (.sc (.int .i64)), .val (.sc (.flt .f32))])) 15 7)) (memP [.val (.ag kd1), .val (.sc (.int .i64)), .val (.sc (.flt .f32))] (litL (mkL x 0 (kdsP [.val (.ag kd1), .val (.sc (.int .i64)), .val (.sc (.flt .f32))])) 15 7)) [false, false]).map (fun r => (normR r.1, untupR r.1 && r.1.flat, r.2)) = some (newUnit_v7 x, true, newUnit_cs23_7 x) := by kernel_rfl

theorem newUnit_e23_7 (x : Vars) : (funA Try.prog G16 1000 23 (argsP [.val (.ag kd1), .val (.sc (.int .i64)), .val (.sc (.flt .f32))] 0 (litL (mkL x 0 (kdsP [.val (.ag kd1), .val (.sc (.int .i64)), .val (.sc (.flt .f32))])) 15 7)) (memP [.val (.ag kd1), .val (.sc (.int .i64)), .val (.sc (.flt .f32))] (litL (mkL x 0 (kdsP [.val (.ag kd1), .val (.sc (.int .i64)), .val (.sc (.flt .f32))])) 15 7)) [false, false]).map (fun r => (normR r.1, untupR r.1 && r.1.flat, r.2)) = some (mkR (newUnitZ7 (mkL x 0 (kdsP [.val (.ag kd1), .val (.sc (.int .i64)), .val (.sc (.flt .f32))]))) [.ag kd2, .sc (.int .i64)], true, newUnit_cs23_7 x) := by
  rw [newUnit_f23_7, newUnit_x7]

noncomputable def newUnit_23_8_a0 (x : Vars) : Vars := validTrainR [(.sint .i8 (x.i 0)), (.flt .f32 (x.u 1)), (.flt .f32 (x.u 2)), (.flt .f32 (x.u 3)), (.flt .f32 (x.u 4)), (.flt .f32 (x.u 5)), (.flt .f32 (x.u 6)), (.flt .f32 (x.u 7)), (.flt .f32 (x.u 8)), (.flt .f32 (x.u 9)), (.flt .f32 (x.u 10)), (.flt .f32 (x.u 11)), (.flt .f32 (x.u 12)), (.flt .f32 (x.u 13)), (.flt .f32 (x.u 14))]


noncomputable def newUnit_cs23_8 (x : Vars) : List Bool := [(!(!((isKeyR [(.flt .f32 (x.u 16))]).b 0))), (!(!((newUnit_23_8_a0 x).b 0)))]

set_option maxRecDepth 100000 in
theorem newUnit_c23_8 (x : Vars) (h0 : newUnitB0 (mkL x 0 (kdsP [.val (.ag kd1), .val (.sc (.int .i64)), .val (.sc (.flt .f32))])) = false) (h1 : newUnitB1 (mkL x 0 (kdsP [.val (.ag kd1), .val (.sc (.int .i64)), .val (.sc (.flt .f32))])) = false) (hz : x.i 15 = 8) : ∀ b ∈ newUnit_cs23_8 x, b = true := by
  unfold newUnit_cs23_8
  exact (allC (notT (notF ((show (((isKeyR [(.flt .f32 (x.u 16))]).b 0) : Bool) = (isKeyR [.flt .f32 (x.u 16)]).b 0 from by kernel_rfl).trans (nuIn x h1).2))) (allC (notT (notF (notBF ((show (((!((newUnit_23_8_a0 x).b 0))) : Bool) = newUnitB0 (normL (litL (mkL x 0 (kdsP [.val (.ag kd1), .val (.sc (.int .i64)), .val (.sc (.flt .f32))])) 15 8)) from by kernel_rfl).trans ((congrArg newUnitB0 (litL_mk hz)).trans h0))))) allN))

theorem newUnit_f23_8 (x : Vars) : (funA Try.prog G16 1000 23 (argsP [.val (.ag kd1), .val (.sc (.int .i64)), .val (.sc (.flt .f32))] 0 (litL (mkL x 0 (kdsP [.val (.ag kd1), .val (.sc (.int .i64)), .val (.sc (.flt .f32))])) 15 8)) (memP [.val (.ag kd1), .val (.sc (.int .i64)), .val (.sc (.flt .f32))] (litL (mkL x 0 (kdsP [.val (.ag kd1), .val (.sc (.int .i64)), .val (.sc (.flt .f32))])) 15 8)) [false, false]).map (fun r => (normR r.1, untupR r.1 && r.1.flat, r.2)) = some (newUnit_v8 x, true, newUnit_cs23_8 x) := by kernel_rfl

theorem newUnit_e23_8 (x : Vars) : (funA Try.prog G16 1000 23 (argsP [.val (.ag kd1), .val (.sc (.int .i64)), .val (.sc (.flt .f32))] 0 (litL (mkL x 0 (kdsP [.val (.ag kd1), .val (.sc (.int .i64)), .val (.sc (.flt .f32))])) 15 8)) (memP [.val (.ag kd1), .val (.sc (.int .i64)), .val (.sc (.flt .f32))] (litL (mkL x 0 (kdsP [.val (.ag kd1), .val (.sc (.int .i64)), .val (.sc (.flt .f32))])) 15 8)) [false, false]).map (fun r => (normR r.1, untupR r.1 && r.1.flat, r.2)) = some (mkR (newUnitZ8 (mkL x 0 (kdsP [.val (.ag kd1), .val (.sc (.int .i64)), .val (.sc (.flt .f32))]))) [.ag kd2, .sc (.int .i64)], true, newUnit_cs23_8 x) := by
  rw [newUnit_f23_8, newUnit_x8]

theorem newUnit_ev23 (x : Vars) : EvP Try.prog G16 23 [.val (.ag kd1), .val (.sc (.int .i64)), .val (.sc (.flt .f32))] [.ag kd2, .sc (.int .i64)] (mkL x 0 (kdsP [.val (.ag kd1), .val (.sc (.int .i64)), .val (.sc (.flt .f32))])) (newUnitR0 (mkL x 0 (kdsP [.val (.ag kd1), .val (.sc (.int .i64)), .val (.sc (.flt .f32))]))) := by
  cases h0 : newUnitB0 (mkL x 0 (kdsP [.val (.ag kd1), .val (.sc (.int .i64)), .val (.sc (.flt .f32))])) with
  | true =>
    have e : newUnitR0 (mkL x 0 (kdsP [.val (.ag kd1), .val (.sc (.int .i64)), .val (.sc (.flt .f32))])) = newUnitZE0 (mkL x 0 (kdsP [.val (.ag kd1), .val (.sc (.int .i64)), .val (.sc (.flt .f32))])) := by unfold newUnitR0; rw [h0]; rfl
    rw [e]
    exact EvP.of (mkL_norm ..) (newUnit_e23_E0 x) (newUnit_c23_E0 x h0)
  | false =>
  cases h1 : newUnitB1 (mkL x 0 (kdsP [.val (.ag kd1), .val (.sc (.int .i64)), .val (.sc (.flt .f32))])) with
  | true =>
    have e : newUnitR0 (mkL x 0 (kdsP [.val (.ag kd1), .val (.sc (.int .i64)), .val (.sc (.flt .f32))])) = newUnitZE1 (mkL x 0 (kdsP [.val (.ag kd1), .val (.sc (.int .i64)), .val (.sc (.flt .f32))])) := by unfold newUnitR0; rw [h0, h1]; rfl
    rw [e]
    exact EvP.of (mkL_norm ..) (newUnit_e23_E1 x) (newUnit_c23_E1 x h0 h1)
  | false =>
  have hr := (fun x _ h1 => (nuIn x h1).1) x h0 h1
  have : x.i 15 = 1 ∨ x.i 15 = 2 ∨ x.i 15 = 3 ∨ x.i 15 = 4 ∨ x.i 15 = 5 ∨ x.i 15 = 6 ∨ x.i 15 = 7 ∨ x.i 15 = 8 := by omega
  rcases this with hz | hz | hz | hz | hz | hz | hz | hz
  · have e : newUnitR0 (mkL x 0 (kdsP [.val (.ag kd1), .val (.sc (.int .i64)), .val (.sc (.flt .f32))])) = newUnitZ1 (mkL x 0 (kdsP [.val (.ag kd1), .val (.sc (.int .i64)), .val (.sc (.flt .f32))])) := by
      unfold newUnitR0
      have hz : intOf (leafN (mkL x 0 (kdsP [.val (.ag kd1), .val (.sc (.int .i64)), .val (.sc (.flt .f32))])) 15) = 1 := hz
      rw [h0, h1, hz]
      rfl
    rw [e]
    exact EvP.of (litL_mk hz) (newUnit_e23_1 x) (newUnit_c23_1 x h0 h1 hz)
  · have e : newUnitR0 (mkL x 0 (kdsP [.val (.ag kd1), .val (.sc (.int .i64)), .val (.sc (.flt .f32))])) = newUnitZ2 (mkL x 0 (kdsP [.val (.ag kd1), .val (.sc (.int .i64)), .val (.sc (.flt .f32))])) := by
      unfold newUnitR0
      have hz : intOf (leafN (mkL x 0 (kdsP [.val (.ag kd1), .val (.sc (.int .i64)), .val (.sc (.flt .f32))])) 15) = 2 := hz
      rw [h0, h1, hz]
      rfl
    rw [e]
    exact EvP.of (litL_mk hz) (newUnit_e23_2 x) (newUnit_c23_2 x h0 h1 hz)
  · have e : newUnitR0 (mkL x 0 (kdsP [.val (.ag kd1), .val (.sc (.int .i64)), .val (.sc (.flt .f32))])) = newUnitZ3 (mkL x 0 (kdsP [.val (.ag kd1), .val (.sc (.int .i64)), .val (.sc (.flt .f32))])) := by
      unfold newUnitR0
      have hz : intOf (leafN (mkL x 0 (kdsP [.val (.ag kd1), .val (.sc (.int .i64)), .val (.sc (.flt .f32))])) 15) = 3 := hz
      rw [h0, h1, hz]
      rfl
    rw [e]
    exact EvP.of (litL_mk hz) (newUnit_e23_3 x) (newUnit_c23_3 x h0 h1 hz)
  · have e : newUnitR0 (mkL x 0 (kdsP [.val (.ag kd1), .val (.sc (.int .i64)), .val (.sc (.flt .f32))])) = newUnitZ4 (mkL x 0 (kdsP [.val (.ag kd1), .val (.sc (.int .i64)), .val (.sc (.flt .f32))])) := by
      unfold newUnitR0
      have hz : intOf (leafN (mkL x 0 (kdsP [.val (.ag kd1), .val (.sc (.int .i64)), .val (.sc (.flt .f32))])) 15) = 4 := hz
      rw [h0, h1, hz]
      rfl
    rw [e]
    exact EvP.of (litL_mk hz) (newUnit_e23_4 x) (newUnit_c23_4 x h0 h1 hz)
  · have e : newUnitR0 (mkL x 0 (kdsP [.val (.ag kd1), .val (.sc (.int .i64)), .val (.sc (.flt .f32))])) = newUnitZ5 (mkL x 0 (kdsP [.val (.ag kd1), .val (.sc (.int .i64)), .val (.sc (.flt .f32))])) := by
      unfold newUnitR0
      have hz : intOf (leafN (mkL x 0 (kdsP [.val (.ag kd1), .val (.sc (.int .i64)), .val (.sc (.flt .f32))])) 15) = 5 := hz
      rw [h0, h1, hz]
      rfl
    rw [e]
    exact EvP.of (litL_mk hz) (newUnit_e23_5 x) (newUnit_c23_5 x h0 h1 hz)
  · have e : newUnitR0 (mkL x 0 (kdsP [.val (.ag kd1), .val (.sc (.int .i64)), .val (.sc (.flt .f32))])) = newUnitZ6 (mkL x 0 (kdsP [.val (.ag kd1), .val (.sc (.int .i64)), .val (.sc (.flt .f32))])) := by
      unfold newUnitR0
      have hz : intOf (leafN (mkL x 0 (kdsP [.val (.ag kd1), .val (.sc (.int .i64)), .val (.sc (.flt .f32))])) 15) = 6 := hz
      rw [h0, h1, hz]
      rfl
    rw [e]
    exact EvP.of (litL_mk hz) (newUnit_e23_6 x) (newUnit_c23_6 x h0 h1 hz)
  · have e : newUnitR0 (mkL x 0 (kdsP [.val (.ag kd1), .val (.sc (.int .i64)), .val (.sc (.flt .f32))])) = newUnitZ7 (mkL x 0 (kdsP [.val (.ag kd1), .val (.sc (.int .i64)), .val (.sc (.flt .f32))])) := by
      unfold newUnitR0
      have hz : intOf (leafN (mkL x 0 (kdsP [.val (.ag kd1), .val (.sc (.int .i64)), .val (.sc (.flt .f32))])) 15) = 7 := hz
      rw [h0, h1, hz]
      rfl
    rw [e]
    exact EvP.of (litL_mk hz) (newUnit_e23_7 x) (newUnit_c23_7 x h0 h1 hz)
  · have e : newUnitR0 (mkL x 0 (kdsP [.val (.ag kd1), .val (.sc (.int .i64)), .val (.sc (.flt .f32))])) = newUnitZ8 (mkL x 0 (kdsP [.val (.ag kd1), .val (.sc (.int .i64)), .val (.sc (.flt .f32))])) := by
      unfold newUnitR0
      have hz : intOf (leafN (mkL x 0 (kdsP [.val (.ag kd1), .val (.sc (.int .i64)), .val (.sc (.flt .f32))])) 15) = 8 := hz
      rw [h0, h1, hz]
      rfl
    rw [e]
    exact EvP.of (litL_mk hz) (newUnit_e23_8 x) (newUnit_c23_8 x h0 h1 hz)

noncomputable def newUnit_25_E0_a0 (x : Vars) : Vars := validTrainR [(.sint .i8 (x.i 0)), (.flt .f32 (x.u 1)), (.flt .f32 (x.u 2)), (.flt .f32 (x.u 3)), (.flt .f32 (x.u 4)), (.flt .f32 (x.u 5)), (.flt .f32 (x.u 6)), (.flt .f32 (x.u 7)), (.flt .f32 (x.u 8)), (.flt .f32 (x.u 9)), (.flt .f32 (x.u 10)), (.flt .f32 (x.u 11)), (.flt .f32 (x.u 12)), (.flt .f32 (x.u 13)), (.flt .f32 (x.u 14))]


noncomputable def newUnit_cs25_E0 (x : Vars) : List Bool := [(!((newUnit_25_E0_a0 x).b 0))]

set_option maxRecDepth 100000 in
theorem newUnit_c25_E0 (x : Vars) (h0 : newUnitB0 (mkL x 0 (kdsP [.val (.ag kd1), .val (.sc (.int .i64)), .val (.sc (.flt .f32))])) = true) : ∀ b ∈ newUnit_cs25_E0 x, b = true := by
  unfold newUnit_cs25_E0
  exact (allC (notT (notBT ((show (((!((newUnit_25_E0_a0 x).b 0))) : Bool) = newUnitB0 (mkL x 0 (kdsP [.val (.ag kd1), .val (.sc (.int .i64)), .val (.sc (.flt .f32))])) from by kernel_rfl).trans h0))) allN)

theorem newUnit_f25_E0 (x : Vars) : (funA Try.prog G16 1000 25 (argsP [.val (.ag kd1), .val (.sc (.int .i64)), .val (.sc (.flt .f32))] 0 (mkL x 0 (kdsP [.val (.ag kd1), .val (.sc (.int .i64)), .val (.sc (.flt .f32))]))) (memP [.val (.ag kd1), .val (.sc (.int .i64)), .val (.sc (.flt .f32))] (mkL x 0 (kdsP [.val (.ag kd1), .val (.sc (.int .i64)), .val (.sc (.flt .f32))]))) [true]).map (fun r => (normR r.1, untupR r.1 && r.1.flat, r.2)) = some (newUnit_vE0 x, true, newUnit_cs25_E0 x) := by kernel_rfl

theorem newUnit_e25_E0 (x : Vars) : (funA Try.prog G16 1000 25 (argsP [.val (.ag kd1), .val (.sc (.int .i64)), .val (.sc (.flt .f32))] 0 (mkL x 0 (kdsP [.val (.ag kd1), .val (.sc (.int .i64)), .val (.sc (.flt .f32))]))) (memP [.val (.ag kd1), .val (.sc (.int .i64)), .val (.sc (.flt .f32))] (mkL x 0 (kdsP [.val (.ag kd1), .val (.sc (.int .i64)), .val (.sc (.flt .f32))]))) [true]).map (fun r => (normR r.1, untupR r.1 && r.1.flat, r.2)) = some (mkR (newUnitZE0 (mkL x 0 (kdsP [.val (.ag kd1), .val (.sc (.int .i64)), .val (.sc (.flt .f32))]))) [.ag kd2, .sc (.int .i64)], true, newUnit_cs25_E0 x) := by
  rw [newUnit_f25_E0, newUnit_xE0]

noncomputable def newUnit_25_E1_a0 (x : Vars) : Vars := validTrainR [(.sint .i8 (x.i 0)), (.flt .f32 (x.u 1)), (.flt .f32 (x.u 2)), (.flt .f32 (x.u 3)), (.flt .f32 (x.u 4)), (.flt .f32 (x.u 5)), (.flt .f32 (x.u 6)), (.flt .f32 (x.u 7)), (.flt .f32 (x.u 8)), (.flt .f32 (x.u 9)), (.flt .f32 (x.u 10)), (.flt .f32 (x.u 11)), (.flt .f32 (x.u 12)), (.flt .f32 (x.u 13)), (.flt .f32 (x.u 14))]


noncomputable def newUnit_cs25_E1 (x : Vars) : List Bool := [((!((decide (1 ≤ (x.i 15))) && (decide ((x.i 15) ≤ 8)))) || (!((isKeyR [(.flt .f32 (x.u 16))]).b 0))), (!(!((newUnit_25_E1_a0 x).b 0)))]

set_option maxRecDepth 100000 in
theorem newUnit_c25_E1 (x : Vars) (h0 : newUnitB0 (mkL x 0 (kdsP [.val (.ag kd1), .val (.sc (.int .i64)), .val (.sc (.flt .f32))])) = false) (h1 : newUnitB1 (mkL x 0 (kdsP [.val (.ag kd1), .val (.sc (.int .i64)), .val (.sc (.flt .f32))])) = true) : ∀ b ∈ newUnit_cs25_E1 x, b = true := by
  unfold newUnit_cs25_E1
  exact (allC ((show ((((!((decide (1 ≤ (x.i 15))) && (decide ((x.i 15) ≤ 8)))) || (!((isKeyR [(.flt .f32 (x.u 16))]).b 0)))) : Bool) = newUnitB1 (mkL x 0 (kdsP [.val (.ag kd1), .val (.sc (.int .i64)), .val (.sc (.flt .f32))])) from by kernel_rfl).trans h1) (allC (notT (notF (notBF ((show (((!((newUnit_25_E1_a0 x).b 0))) : Bool) = newUnitB0 (mkL x 0 (kdsP [.val (.ag kd1), .val (.sc (.int .i64)), .val (.sc (.flt .f32))])) from by kernel_rfl).trans h0)))) allN))

theorem newUnit_f25_E1 (x : Vars) : (funA Try.prog G16 1000 25 (argsP [.val (.ag kd1), .val (.sc (.int .i64)), .val (.sc (.flt .f32))] 0 (mkL x 0 (kdsP [.val (.ag kd1), .val (.sc (.int .i64)), .val (.sc (.flt .f32))]))) (memP [.val (.ag kd1), .val (.sc (.int .i64)), .val (.sc (.flt .f32))] (mkL x 0 (kdsP [.val (.ag kd1), .val (.sc (.int .i64)), .val (.sc (.flt .f32))]))) [false, true]).map (fun r => (normR r.1, untupR r.1 && r.1.flat, r.2)) = some (newUnit_vE1 x, true, newUnit_cs25_E1 x) := by kernel_rfl

theorem newUnit_e25_E1 (x : Vars) : (funA Try.prog G16 1000 25 (argsP [.val (.ag kd1), .val (.sc (.int .i64)), .val (.sc (.flt .f32))] 0 (mkL x 0 (kdsP [.val (.ag kd1), .val (.sc (.int .i64)), .val (.sc (.flt .f32))]))) (memP [.val (.ag kd1), .val (.sc (.int .i64)), .val (.sc (.flt .f32))] (mkL x 0 (kdsP [.val (.ag kd1), .val (.sc (.int .i64)), .val (.sc (.flt .f32))]))) [false, true]).map (fun r => (normR r.1, untupR r.1 && r.1.flat, r.2)) = some (mkR (newUnitZE1 (mkL x 0 (kdsP [.val (.ag kd1), .val (.sc (.int .i64)), .val (.sc (.flt .f32))]))) [.ag kd2, .sc (.int .i64)], true, newUnit_cs25_E1 x) := by
  rw [newUnit_f25_E1, newUnit_xE1]

noncomputable def newUnit_25_1_a0 (x : Vars) : Vars := validTrainR [(.sint .i8 (x.i 0)), (.flt .f32 (x.u 1)), (.flt .f32 (x.u 2)), (.flt .f32 (x.u 3)), (.flt .f32 (x.u 4)), (.flt .f32 (x.u 5)), (.flt .f32 (x.u 6)), (.flt .f32 (x.u 7)), (.flt .f32 (x.u 8)), (.flt .f32 (x.u 9)), (.flt .f32 (x.u 10)), (.flt .f32 (x.u 11)), (.flt .f32 (x.u 12)), (.flt .f32 (x.u 13)), (.flt .f32 (x.u 14))]


noncomputable def newUnit_cs25_1 (x : Vars) : List Bool := [(!(!((isKeyR [(.flt .f32 (x.u 16))]).b 0))), (!(!((newUnit_25_1_a0 x).b 0)))]

set_option maxRecDepth 100000 in
theorem newUnit_c25_1 (x : Vars) (h0 : newUnitB0 (mkL x 0 (kdsP [.val (.ag kd1), .val (.sc (.int .i64)), .val (.sc (.flt .f32))])) = false) (h1 : newUnitB1 (mkL x 0 (kdsP [.val (.ag kd1), .val (.sc (.int .i64)), .val (.sc (.flt .f32))])) = false) (hz : x.i 15 = 1) : ∀ b ∈ newUnit_cs25_1 x, b = true := by
  unfold newUnit_cs25_1
  exact (allC (notT (notF ((show (((isKeyR [(.flt .f32 (x.u 16))]).b 0) : Bool) = (isKeyR [.flt .f32 (x.u 16)]).b 0 from by kernel_rfl).trans (nuIn x h1).2))) (allC (notT (notF (notBF ((show (((!((newUnit_25_1_a0 x).b 0))) : Bool) = newUnitB0 (normL (litL (mkL x 0 (kdsP [.val (.ag kd1), .val (.sc (.int .i64)), .val (.sc (.flt .f32))])) 15 1)) from by kernel_rfl).trans ((congrArg newUnitB0 (litL_mk hz)).trans h0))))) allN))

theorem newUnit_f25_1 (x : Vars) : (funA Try.prog G16 1000 25 (argsP [.val (.ag kd1), .val (.sc (.int .i64)), .val (.sc (.flt .f32))] 0 (litL (mkL x 0 (kdsP [.val (.ag kd1), .val (.sc (.int .i64)), .val (.sc (.flt .f32))])) 15 1)) (memP [.val (.ag kd1), .val (.sc (.int .i64)), .val (.sc (.flt .f32))] (litL (mkL x 0 (kdsP [.val (.ag kd1), .val (.sc (.int .i64)), .val (.sc (.flt .f32))])) 15 1)) [false, false]).map (fun r => (normR r.1, untupR r.1 && r.1.flat, r.2)) = some (newUnit_v1 x, true, newUnit_cs25_1 x) := by kernel_rfl

theorem newUnit_e25_1 (x : Vars) : (funA Try.prog G16 1000 25 (argsP [.val (.ag kd1), .val (.sc (.int .i64)), .val (.sc (.flt .f32))] 0 (litL (mkL x 0 (kdsP [.val (.ag kd1), .val (.sc (.int .i64)), .val (.sc (.flt .f32))])) 15 1)) (memP [.val (.ag kd1), .val (.sc (.int .i64)), .val (.sc (.flt .f32))] (litL (mkL x 0 (kdsP [.val (.ag kd1), .val (.sc (.int .i64)), .val (.sc (.flt .f32))])) 15 1)) [false, false]).map (fun r => (normR r.1, untupR r.1 && r.1.flat, r.2)) = some (mkR (newUnitZ1 (mkL x 0 (kdsP [.val (.ag kd1), .val (.sc (.int .i64)), .val (.sc (.flt .f32))]))) [.ag kd2, .sc (.int .i64)], true, newUnit_cs25_1 x) := by
  rw [newUnit_f25_1, newUnit_x1]

noncomputable def newUnit_25_2_a0 (x : Vars) : Vars := validTrainR [(.sint .i8 (x.i 0)), (.flt .f32 (x.u 1)), (.flt .f32 (x.u 2)), (.flt .f32 (x.u 3)), (.flt .f32 (x.u 4)), (.flt .f32 (x.u 5)), (.flt .f32 (x.u 6)), (.flt .f32 (x.u 7)), (.flt .f32 (x.u 8)), (.flt .f32 (x.u 9)), (.flt .f32 (x.u 10)), (.flt .f32 (x.u 11)), (.flt .f32 (x.u 12)), (.flt .f32 (x.u 13)), (.flt .f32 (x.u 14))]


noncomputable def newUnit_cs25_2 (x : Vars) : List Bool := [(!(!((isKeyR [(.flt .f32 (x.u 16))]).b 0))), (!(!((newUnit_25_2_a0 x).b 0)))]

set_option maxRecDepth 100000 in
theorem newUnit_c25_2 (x : Vars) (h0 : newUnitB0 (mkL x 0 (kdsP [.val (.ag kd1), .val (.sc (.int .i64)), .val (.sc (.flt .f32))])) = false) (h1 : newUnitB1 (mkL x 0 (kdsP [.val (.ag kd1), .val (.sc (.int .i64)), .val (.sc (.flt .f32))])) = false) (hz : x.i 15 = 2) : ∀ b ∈ newUnit_cs25_2 x, b = true := by
  unfold newUnit_cs25_2
  exact (allC (notT (notF ((show (((isKeyR [(.flt .f32 (x.u 16))]).b 0) : Bool) = (isKeyR [.flt .f32 (x.u 16)]).b 0 from by kernel_rfl).trans (nuIn x h1).2))) (allC (notT (notF (notBF ((show (((!((newUnit_25_2_a0 x).b 0))) : Bool) = newUnitB0 (normL (litL (mkL x 0 (kdsP [.val (.ag kd1), .val (.sc (.int .i64)), .val (.sc (.flt .f32))])) 15 2)) from by kernel_rfl).trans ((congrArg newUnitB0 (litL_mk hz)).trans h0))))) allN))

theorem newUnit_f25_2 (x : Vars) : (funA Try.prog G16 1000 25 (argsP [.val (.ag kd1), .val (.sc (.int .i64)), .val (.sc (.flt .f32))] 0 (litL (mkL x 0 (kdsP [.val (.ag kd1), .val (.sc (.int .i64)), .val (.sc (.flt .f32))])) 15 2)) (memP [.val (.ag kd1), .val (.sc (.int .i64)), .val (.sc (.flt .f32))] (litL (mkL x 0 (kdsP [.val (.ag kd1), .val (.sc (.int .i64)), .val (.sc (.flt .f32))])) 15 2)) [false, false]).map (fun r => (normR r.1, untupR r.1 && r.1.flat, r.2)) = some (newUnit_v2 x, true, newUnit_cs25_2 x) := by kernel_rfl

theorem newUnit_e25_2 (x : Vars) : (funA Try.prog G16 1000 25 (argsP [.val (.ag kd1), .val (.sc (.int .i64)), .val (.sc (.flt .f32))] 0 (litL (mkL x 0 (kdsP [.val (.ag kd1), .val (.sc (.int .i64)), .val (.sc (.flt .f32))])) 15 2)) (memP [.val (.ag kd1), .val (.sc (.int .i64)), .val (.sc (.flt .f32))] (litL (mkL x 0 (kdsP [.val (.ag kd1), .val (.sc (.int .i64)), .val (.sc (.flt .f32))])) 15 2)) [false, false]).map (fun r => (normR r.1, untupR r.1 && r.1.flat, r.2)) = some (mkR (newUnitZ2 (mkL x 0 (kdsP [.val (.ag kd1), .val (.sc (.int .i64)), .val (.sc (.flt .f32))]))) [.ag kd2, .sc (.int .i64)], true, newUnit_cs25_2 x) := by
  rw [newUnit_f25_2, newUnit_x2]

noncomputable def newUnit_25_3_a0 (x : Vars) : Vars := validTrainR [(.sint .i8 (x.i 0)), (.flt .f32 (x.u 1)), (.flt .f32 (x.u 2)), (.flt .f32 (x.u 3)), (.flt .f32 (x.u 4)), (.flt .f32 (x.u 5)), (.flt .f32 (x.u 6)), (.flt .f32 (x.u 7)), (.flt .f32 (x.u 8)), (.flt .f32 (x.u 9)), (.flt .f32 (x.u 10)), (.flt .f32 (x.u 11)), (.flt .f32 (x.u 12)), (.flt .f32 (x.u 13)), (.flt .f32 (x.u 14))]


noncomputable def newUnit_cs25_3 (x : Vars) : List Bool := [(!(!((isKeyR [(.flt .f32 (x.u 16))]).b 0))), (!(!((newUnit_25_3_a0 x).b 0)))]

set_option maxRecDepth 100000 in
theorem newUnit_c25_3 (x : Vars) (h0 : newUnitB0 (mkL x 0 (kdsP [.val (.ag kd1), .val (.sc (.int .i64)), .val (.sc (.flt .f32))])) = false) (h1 : newUnitB1 (mkL x 0 (kdsP [.val (.ag kd1), .val (.sc (.int .i64)), .val (.sc (.flt .f32))])) = false) (hz : x.i 15 = 3) : ∀ b ∈ newUnit_cs25_3 x, b = true := by
  unfold newUnit_cs25_3
  exact (allC (notT (notF ((show (((isKeyR [(.flt .f32 (x.u 16))]).b 0) : Bool) = (isKeyR [.flt .f32 (x.u 16)]).b 0 from by kernel_rfl).trans (nuIn x h1).2))) (allC (notT (notF (notBF ((show (((!((newUnit_25_3_a0 x).b 0))) : Bool) = newUnitB0 (normL (litL (mkL x 0 (kdsP [.val (.ag kd1), .val (.sc (.int .i64)), .val (.sc (.flt .f32))])) 15 3)) from by kernel_rfl).trans ((congrArg newUnitB0 (litL_mk hz)).trans h0))))) allN))

theorem newUnit_f25_3 (x : Vars) : (funA Try.prog G16 1000 25 (argsP [.val (.ag kd1), .val (.sc (.int .i64)), .val (.sc (.flt .f32))] 0 (litL (mkL x 0 (kdsP [.val (.ag kd1), .val (.sc (.int .i64)), .val (.sc (.flt .f32))])) 15 3)) (memP [.val (.ag kd1), .val (.sc (.int .i64)), .val (.sc (.flt .f32))] (litL (mkL x 0 (kdsP [.val (.ag kd1), .val (.sc (.int .i64)), .val (.sc (.flt .f32))])) 15 3)) [false, false]).map (fun r => (normR r.1, untupR r.1 && r.1.flat, r.2)) = some (newUnit_v3 x, true, newUnit_cs25_3 x) := by kernel_rfl

theorem newUnit_e25_3 (x : Vars) : (funA Try.prog G16 1000 25 (argsP [.val (.ag kd1), .val (.sc (.int .i64)), .val (.sc (.flt .f32))] 0 (litL (mkL x 0 (kdsP [.val (.ag kd1), .val (.sc (.int .i64)), .val (.sc (.flt .f32))])) 15 3)) (memP [.val (.ag kd1), .val (.sc (.int .i64)), .val (.sc (.flt .f32))] (litL (mkL x 0 (kdsP [.val (.ag kd1), .val (.sc (.int .i64)), .val (.sc (.flt .f32))])) 15 3)) [false, false]).map (fun r => (normR r.1, untupR r.1 && r.1.flat, r.2)) = some (mkR (newUnitZ3 (mkL x 0 (kdsP [.val (.ag kd1), .val (.sc (.int .i64)), .val (.sc (.flt .f32))]))) [.ag kd2, .sc (.int .i64)], true, newUnit_cs25_3 x) := by
  rw [newUnit_f25_3, newUnit_x3]

noncomputable def newUnit_25_4_a0 (x : Vars) : Vars := validTrainR [(.sint .i8 (x.i 0)), (.flt .f32 (x.u 1)), (.flt .f32 (x.u 2)), (.flt .f32 (x.u 3)), (.flt .f32 (x.u 4)), (.flt .f32 (x.u 5)), (.flt .f32 (x.u 6)), (.flt .f32 (x.u 7)), (.flt .f32 (x.u 8)), (.flt .f32 (x.u 9)), (.flt .f32 (x.u 10)), (.flt .f32 (x.u 11)), (.flt .f32 (x.u 12)), (.flt .f32 (x.u 13)), (.flt .f32 (x.u 14))]


noncomputable def newUnit_cs25_4 (x : Vars) : List Bool := [(!(!((isKeyR [(.flt .f32 (x.u 16))]).b 0))), (!(!((newUnit_25_4_a0 x).b 0)))]

set_option maxRecDepth 100000 in
theorem newUnit_c25_4 (x : Vars) (h0 : newUnitB0 (mkL x 0 (kdsP [.val (.ag kd1), .val (.sc (.int .i64)), .val (.sc (.flt .f32))])) = false) (h1 : newUnitB1 (mkL x 0 (kdsP [.val (.ag kd1), .val (.sc (.int .i64)), .val (.sc (.flt .f32))])) = false) (hz : x.i 15 = 4) : ∀ b ∈ newUnit_cs25_4 x, b = true := by
  unfold newUnit_cs25_4
  exact (allC (notT (notF ((show (((isKeyR [(.flt .f32 (x.u 16))]).b 0) : Bool) = (isKeyR [.flt .f32 (x.u 16)]).b 0 from by kernel_rfl).trans (nuIn x h1).2))) (allC (notT (notF (notBF ((show (((!((newUnit_25_4_a0 x).b 0))) : Bool) = newUnitB0 (normL (litL (mkL x 0 (kdsP [.val (.ag kd1), .val (.sc (.int .i64)), .val (.sc (.flt .f32))])) 15 4)) from by kernel_rfl).trans ((congrArg newUnitB0 (litL_mk hz)).trans h0))))) allN))

theorem newUnit_f25_4 (x : Vars) : (funA Try.prog G16 1000 25 (argsP [.val (.ag kd1), .val (.sc (.int .i64)), .val (.sc (.flt .f32))] 0 (litL (mkL x 0 (kdsP [.val (.ag kd1), .val (.sc (.int .i64)), .val (.sc (.flt .f32))])) 15 4)) (memP [.val (.ag kd1), .val (.sc (.int .i64)), .val (.sc (.flt .f32))] (litL (mkL x 0 (kdsP [.val (.ag kd1), .val (.sc (.int .i64)), .val (.sc (.flt .f32))])) 15 4)) [false, false]).map (fun r => (normR r.1, untupR r.1 && r.1.flat, r.2)) = some (newUnit_v4 x, true, newUnit_cs25_4 x) := by kernel_rfl

theorem newUnit_e25_4 (x : Vars) : (funA Try.prog G16 1000 25 (argsP [.val (.ag kd1), .val (.sc (.int .i64)), .val (.sc (.flt .f32))] 0 (litL (mkL x 0 (kdsP [.val (.ag kd1), .val (.sc (.int .i64)), .val (.sc (.flt .f32))])) 15 4)) (memP [.val (.ag kd1), .val (.sc (.int .i64)), .val (.sc (.flt .f32))] (litL (mkL x 0 (kdsP [.val (.ag kd1), .val (.sc (.int .i64)), .val (.sc (.flt .f32))])) 15 4)) [false, false]).map (fun r => (normR r.1, untupR r.1 && r.1.flat, r.2)) = some (mkR (newUnitZ4 (mkL x 0 (kdsP [.val (.ag kd1), .val (.sc (.int .i64)), .val (.sc (.flt .f32))]))) [.ag kd2, .sc (.int .i64)], true, newUnit_cs25_4 x) := by
  rw [newUnit_f25_4, newUnit_x4]

noncomputable def newUnit_25_5_a0 (x : Vars) : Vars := validTrainR [(.sint .i8 (x.i 0)), (.flt .f32 (x.u 1)), (.flt .f32 (x.u 2)), (.flt .f32 (x.u 3)), (.flt .f32 (x.u 4)), (.flt .f32 (x.u 5)), (.flt .f32 (x.u 6)), (.flt .f32 (x.u 7)), (.flt .f32 (x.u 8)), (.flt .f32 (x.u 9)), (.flt .f32 (x.u 10)), (.flt .f32 (x.u 11)), (.flt .f32 (x.u 12)), (.flt .f32 (x.u 13)), (.flt .f32 (x.u 14))]


noncomputable def newUnit_cs25_5 (x : Vars) : List Bool := [(!(!((isKeyR [(.flt .f32 (x.u 16))]).b 0))), (!(!((newUnit_25_5_a0 x).b 0)))]

set_option maxRecDepth 100000 in
theorem newUnit_c25_5 (x : Vars) (h0 : newUnitB0 (mkL x 0 (kdsP [.val (.ag kd1), .val (.sc (.int .i64)), .val (.sc (.flt .f32))])) = false) (h1 : newUnitB1 (mkL x 0 (kdsP [.val (.ag kd1), .val (.sc (.int .i64)), .val (.sc (.flt .f32))])) = false) (hz : x.i 15 = 5) : ∀ b ∈ newUnit_cs25_5 x, b = true := by
  unfold newUnit_cs25_5
  exact (allC (notT (notF ((show (((isKeyR [(.flt .f32 (x.u 16))]).b 0) : Bool) = (isKeyR [.flt .f32 (x.u 16)]).b 0 from by kernel_rfl).trans (nuIn x h1).2))) (allC (notT (notF (notBF ((show (((!((newUnit_25_5_a0 x).b 0))) : Bool) = newUnitB0 (normL (litL (mkL x 0 (kdsP [.val (.ag kd1), .val (.sc (.int .i64)), .val (.sc (.flt .f32))])) 15 5)) from by kernel_rfl).trans ((congrArg newUnitB0 (litL_mk hz)).trans h0))))) allN))

theorem newUnit_f25_5 (x : Vars) : (funA Try.prog G16 1000 25 (argsP [.val (.ag kd1), .val (.sc (.int .i64)), .val (.sc (.flt .f32))] 0 (litL (mkL x 0 (kdsP [.val (.ag kd1), .val (.sc (.int .i64)), .val (.sc (.flt .f32))])) 15 5)) (memP [.val (.ag kd1), .val (.sc (.int .i64)), .val (.sc (.flt .f32))] (litL (mkL x 0 (kdsP [.val (.ag kd1), .val (.sc (.int .i64)), .val (.sc (.flt .f32))])) 15 5)) [false, false]).map (fun r => (normR r.1, untupR r.1 && r.1.flat, r.2)) = some (newUnit_v5 x, true, newUnit_cs25_5 x) := by kernel_rfl

theorem newUnit_e25_5 (x : Vars) : (funA Try.prog G16 1000 25 (argsP [.val (.ag kd1), .val (.sc (.int .i64)), .val (.sc (.flt .f32))] 0 (litL (mkL x 0 (kdsP [.val (.ag kd1), .val (.sc (.int .i64)), .val (.sc (.flt .f32))])) 15 5)) (memP [.val (.ag kd1), .val (.sc (.int .i64)), .val (.sc (.flt .f32))] (litL (mkL x 0 (kdsP [.val (.ag kd1), .val (.sc (.int .i64)), .val (.sc (.flt .f32))])) 15 5)) [false, false]).map (fun r => (normR r.1, untupR r.1 && r.1.flat, r.2)) = some (mkR (newUnitZ5 (mkL x 0 (kdsP [.val (.ag kd1), .val (.sc (.int .i64)), .val (.sc (.flt .f32))]))) [.ag kd2, .sc (.int .i64)], true, newUnit_cs25_5 x) := by
  rw [newUnit_f25_5, newUnit_x5]

noncomputable def newUnit_25_6_a0 (x : Vars) : Vars := validTrainR [(.sint .i8 (x.i 0)), (.flt .f32 (x.u 1)), (.flt .f32 (x.u 2)), (.flt .f32 (x.u 3)), (.flt .f32 (x.u 4)), (.flt .f32 (x.u 5)), (.flt .f32 (x.u 6)), (.flt .f32 (x.u 7)), (.flt .f32 (x.u 8)), (.flt .f32 (x.u 9)), (.flt .f32 (x.u 10)), (.flt .f32 (x.u 11)), (.flt .f32 (x.u 12)), (.flt .f32 (x.u 13)), (.flt .f32 (x.u 14))]


noncomputable def newUnit_cs25_6 (x : Vars) : List Bool := [(!(!((isKeyR [(.flt .f32 (x.u 16))]).b 0))), (!(!((newUnit_25_6_a0 x).b 0)))]

set_option maxRecDepth 100000 in
theorem newUnit_c25_6 (x : Vars) (h0 : newUnitB0 (mkL x 0 (kdsP [.val (.ag kd1), .val (.sc (.int .i64)), .val (.sc (.flt .f32))])) = false) (h1 : newUnitB1 (mkL x 0 (kdsP [.val (.ag kd1), .val (.sc (.int .i64)), .val (.sc (.flt .f32))])) = false) (hz : x.i 15 = 6) : ∀ b ∈ newUnit_cs25_6 x, b = true := by
  unfold newUnit_cs25_6
  exact (allC (notT (notF ((show (((isKeyR [(.flt .f32 (x.u 16))]).b 0) : Bool) = (isKeyR [.flt .f32 (x.u 16)]).b 0 from by kernel_rfl).trans (nuIn x h1).2))) (allC (notT (notF (notBF ((show (((!((newUnit_25_6_a0 x).b 0))) : Bool) = newUnitB0 (normL (litL (mkL x 0 (kdsP [.val (.ag kd1), .val (.sc (.int .i64)), .val (.sc (.flt .f32))])) 15 6)) from by kernel_rfl).trans ((congrArg newUnitB0 (litL_mk hz)).trans h0))))) allN))

theorem newUnit_f25_6 (x : Vars) : (funA Try.prog G16 1000 25 (argsP [.val (.ag kd1), .val (.sc (.int .i64)), .val (.sc (.flt .f32))] 0 (litL (mkL x 0 (kdsP [.val (.ag kd1), .val (.sc (.int .i64)), .val (.sc (.flt .f32))])) 15 6)) (memP [.val (.ag kd1), .val (.sc (.int .i64)), .val (.sc (.flt .f32))] (litL (mkL x 0 (kdsP [.val (.ag kd1), .val (.sc (.int .i64)), .val (.sc (.flt .f32))])) 15 6)) [false, false]).map (fun r => (normR r.1, untupR r.1 && r.1.flat, r.2)) = some (newUnit_v6 x, true, newUnit_cs25_6 x) := by kernel_rfl

theorem newUnit_e25_6 (x : Vars) : (funA Try.prog G16 1000 25 (argsP [.val (.ag kd1), .val (.sc (.int .i64)), .val (.sc (.flt .f32))] 0 (litL (mkL x 0 (kdsP [.val (.ag kd1), .val (.sc (.int .i64)), .val (.sc (.flt .f32))])) 15 6)) (memP [.val (.ag kd1), .val (.sc (.int .i64)), .val (.sc (.flt .f32))] (litL (mkL x 0 (kdsP [.val (.ag kd1), .val (.sc (.int .i64)), .val (.sc (.flt .f32))])) 15 6)) [false, false]).map (fun r => (normR r.1, untupR r.1 && r.1.flat, r.2)) = some (mkR (newUnitZ6 (mkL x 0 (kdsP [.val (.ag kd1), .val (.sc (.int .i64)), .val (.sc (.flt .f32))]))) [.ag kd2, .sc (.int .i64)], true, newUnit_cs25_6 x) := by
  rw [newUnit_f25_6, newUnit_x6]

noncomputable def newUnit_25_7_a0 (x : Vars) : Vars := validTrainR [(.sint .i8 (x.i 0)), (.flt .f32 (x.u 1)), (.flt .f32 (x.u 2)), (.flt .f32 (x.u 3)), (.flt .f32 (x.u 4)), (.flt .f32 (x.u 5)), (.flt .f32 (x.u 6)), (.flt .f32 (x.u 7)), (.flt .f32 (x.u 8)), (.flt .f32 (x.u 9)), (.flt .f32 (x.u 10)), (.flt .f32 (x.u 11)), (.flt .f32 (x.u 12)), (.flt .f32 (x.u 13)), (.flt .f32 (x.u 14))]


noncomputable def newUnit_cs25_7 (x : Vars) : List Bool := [(!(!((isKeyR [(.flt .f32 (x.u 16))]).b 0))), (!(!((newUnit_25_7_a0 x).b 0)))]

set_option maxRecDepth 100000 in
theorem newUnit_c25_7 (x : Vars) (h0 : newUnitB0 (mkL x 0 (kdsP [.val (.ag kd1), .val (.sc (.int .i64)), .val (.sc (.flt .f32))])) = false) (h1 : newUnitB1 (mkL x 0 (kdsP [.val (.ag kd1), .val (.sc (.int .i64)), .val (.sc (.flt .f32))])) = false) (hz : x.i 15 = 7) : ∀ b ∈ newUnit_cs25_7 x, b = true := by
  unfold newUnit_cs25_7
  exact (allC (notT (notF ((show (((isKeyR [(.flt .f32 (x.u 16))]).b 0) : Bool) = (isKeyR [.flt .f32 (x.u 16)]).b 0 from by kernel_rfl).trans (nuIn x h1).2))) (allC (notT (notF (notBF ((show (((!((newUnit_25_7_a0 x).b 0))) : Bool) = newUnitB0 (normL (litL (mkL x 0 (kdsP [.val (.ag kd1), .val (.sc (.int .i64)), .val (.sc (.flt .f32))])) 15 7)) from by kernel_rfl).trans ((congrArg newUnitB0 (litL_mk hz)).trans h0))))) allN))

theorem newUnit_f25_7 (x : Vars) : (funA Try.prog G16 1000 25 (argsP [.val (.ag kd1), .val (.sc (.int .i64)), .val (.sc (.flt .f32))] 0 (litL (mkL x 0 (kdsP [.val (.ag kd1), .val (.sc (.int .i64)), .val (.sc (.flt .f32))])) 15 7)) (memP [.val (.ag kd1), .val (.sc (.int .i64)), .val (.sc (.flt .f32))] (litL (mkL x 0 (kdsP [.val (.ag kd1), .val (.sc (.int .i64)), .val (.sc (.flt .f32))])) 15 7)) [false, false]).map (fun r => (normR r.1, untupR r.1 && r.1.flat, r.2)) = some (newUnit_v7 x, true, newUnit_cs25_7 x) := by kernel_rfl

theorem newUnit_e25_7 (x : Vars) : (funA Try.prog G16 1000 25 (argsP [.val (.ag kd1), .val (.sc (.int .i64)), .val (.sc (.flt .f32))] 0 (litL (mkL x 0 (kdsP [.val (.ag kd1), .val (.sc (.int .i64)), .val (.sc (.flt .f32))])) 15 7)) (memP [.val (.ag kd1), .val (.sc (.int .i64)), .val (.sc (.flt .f32))] (litL (mkL x 0 (kdsP [.val (.ag kd1), .val (.sc (.int .i64)), .val (.sc (.flt .f32))])) 15 7)) [false, false]).map (fun r => (normR r.1, untupR r.1 && r.1.flat, r.2)) = some (mkR (newUnitZ7 (mkL x 0 (kdsP [.val (.ag kd1), .val (.sc (.int .i64)), .val (.sc (.flt .f32))]))) [.ag kd2, .sc (.int .i64)], true, newUnit_cs25_7 x) := by
  rw [newUnit_f25_7, newUnit_x7]

noncomputable def newUnit_25_8_a0 (x : Vars) : Vars := validTrainR [(.sint .i8 (x.i 0)), (.flt .f32 (x.u 1)), (.flt .f32 (x.u 2)), (.flt .f32 (x.u 3)), (.flt .f32 (x.u 4)), (.flt .f32 (x.u 5)), (.flt .f32 (x.u 6)), (.flt .f32 (x.u 7)), (.flt .f32 (x.u 8)), (.flt .f32 (x.u 9)), (.flt .f32 (x.u 10)), (.flt .f32 (x.u 11)), (.flt .f32 (x.u 12)), (.flt .f32 (x.u 13)), (.flt .f32 (x.u 14))]


noncomputable def newUnit_cs25_8 (x : Vars) : List Bool := [(!(!((isKeyR [(.flt .f32 (x.u 16))]).b 0))), (!(!((newUnit_25_8_a0 x).b 0)))]

set_option maxRecDepth 100000 in
theorem newUnit_c25_8 (x : Vars) (h0 : newUnitB0 (mkL x 0 (kdsP [.val (.ag kd1), .val (.sc (.int .i64)), .val (.sc (.flt .f32))])) = false) (h1 : newUnitB1 (mkL x 0 (kdsP [.val (.ag kd1), .val (.sc (.int .i64)), .val (.sc (.flt .f32))])) = false) (hz : x.i 15 = 8) : ∀ b ∈ newUnit_cs25_8 x, b = true := by
  unfold newUnit_cs25_8
  exact (allC (notT (notF ((show (((isKeyR [(.flt .f32 (x.u 16))]).b 0) : Bool) = (isKeyR [.flt .f32 (x.u 16)]).b 0 from by kernel_rfl).trans (nuIn x h1).2))) (allC (notT (notF (notBF ((show (((!((newUnit_25_8_a0 x).b 0))) : Bool) = newUnitB0 (normL (litL (mkL x 0 (kdsP [.val (.ag kd1), .val (.sc (.int .i64)), .val (.sc (.flt .f32))])) 15 8)) from by kernel_rfl).trans ((congrArg newUnitB0 (litL_mk hz)).trans h0))))) allN))

theorem newUnit_f25_8 (x : Vars) : (funA Try.prog G16 1000 25 (argsP [.val (.ag kd1), .val (.sc (.int .i64)), .val (.sc (.flt .f32))] 0 (litL (mkL x 0 (kdsP [.val (.ag kd1), .val (.sc (.int .i64)), .val (.sc (.flt .f32))])) 15 8)) (memP [.val (.ag kd1), .val (.sc (.int .i64)), .val (.sc (.flt .f32))] (litL (mkL x 0 (kdsP [.val (.ag kd1), .val (.sc (.int .i64)), .val (.sc (.flt .f32))])) 15 8)) [false, false]).map (fun r => (normR r.1, untupR r.1 && r.1.flat, r.2)) = some (newUnit_v8 x, true, newUnit_cs25_8 x) := by kernel_rfl

theorem newUnit_e25_8 (x : Vars) : (funA Try.prog G16 1000 25 (argsP [.val (.ag kd1), .val (.sc (.int .i64)), .val (.sc (.flt .f32))] 0 (litL (mkL x 0 (kdsP [.val (.ag kd1), .val (.sc (.int .i64)), .val (.sc (.flt .f32))])) 15 8)) (memP [.val (.ag kd1), .val (.sc (.int .i64)), .val (.sc (.flt .f32))] (litL (mkL x 0 (kdsP [.val (.ag kd1), .val (.sc (.int .i64)), .val (.sc (.flt .f32))])) 15 8)) [false, false]).map (fun r => (normR r.1, untupR r.1 && r.1.flat, r.2)) = some (mkR (newUnitZ8 (mkL x 0 (kdsP [.val (.ag kd1), .val (.sc (.int .i64)), .val (.sc (.flt .f32))]))) [.ag kd2, .sc (.int .i64)], true, newUnit_cs25_8 x) := by
  rw [newUnit_f25_8, newUnit_x8]

theorem newUnit_ev25 (x : Vars) : EvP Try.prog G16 25 [.val (.ag kd1), .val (.sc (.int .i64)), .val (.sc (.flt .f32))] [.ag kd2, .sc (.int .i64)] (mkL x 0 (kdsP [.val (.ag kd1), .val (.sc (.int .i64)), .val (.sc (.flt .f32))])) (newUnitR0 (mkL x 0 (kdsP [.val (.ag kd1), .val (.sc (.int .i64)), .val (.sc (.flt .f32))]))) := by
  cases h0 : newUnitB0 (mkL x 0 (kdsP [.val (.ag kd1), .val (.sc (.int .i64)), .val (.sc (.flt .f32))])) with
  | true =>
    have e : newUnitR0 (mkL x 0 (kdsP [.val (.ag kd1), .val (.sc (.int .i64)), .val (.sc (.flt .f32))])) = newUnitZE0 (mkL x 0 (kdsP [.val (.ag kd1), .val (.sc (.int .i64)), .val (.sc (.flt .f32))])) := by unfold newUnitR0; rw [h0]; rfl
    rw [e]
    exact EvP.of (mkL_norm ..) (newUnit_e25_E0 x) (newUnit_c25_E0 x h0)
  | false =>
  cases h1 : newUnitB1 (mkL x 0 (kdsP [.val (.ag kd1), .val (.sc (.int .i64)), .val (.sc (.flt .f32))])) with
  | true =>
    have e : newUnitR0 (mkL x 0 (kdsP [.val (.ag kd1), .val (.sc (.int .i64)), .val (.sc (.flt .f32))])) = newUnitZE1 (mkL x 0 (kdsP [.val (.ag kd1), .val (.sc (.int .i64)), .val (.sc (.flt .f32))])) := by unfold newUnitR0; rw [h0, h1]; rfl
    rw [e]
    exact EvP.of (mkL_norm ..) (newUnit_e25_E1 x) (newUnit_c25_E1 x h0 h1)
  | false =>
  have hr := (fun x _ h1 => (nuIn x h1).1) x h0 h1
  have : x.i 15 = 1 ∨ x.i 15 = 2 ∨ x.i 15 = 3 ∨ x.i 15 = 4 ∨ x.i 15 = 5 ∨ x.i 15 = 6 ∨ x.i 15 = 7 ∨ x.i 15 = 8 := by omega
  rcases this with hz | hz | hz | hz | hz | hz | hz | hz
  · have e : newUnitR0 (mkL x 0 (kdsP [.val (.ag kd1), .val (.sc (.int .i64)), .val (.sc (.flt .f32))])) = newUnitZ1 (mkL x 0 (kdsP [.val (.ag kd1), .val (.sc (.int .i64)), .val (.sc (.flt .f32))])) := by
      unfold newUnitR0
      have hz : intOf (leafN (mkL x 0 (kdsP [.val (.ag kd1), .val (.sc (.int .i64)), .val (.sc (.flt .f32))])) 15) = 1 := hz
      rw [h0, h1, hz]
      rfl
    rw [e]
    exact EvP.of (litL_mk hz) (newUnit_e25_1 x) (newUnit_c25_1 x h0 h1 hz)
  · have e : newUnitR0 (mkL x 0 (kdsP [.val (.ag kd1), .val (.sc (.int .i64)), .val (.sc (.flt .f32))])) = newUnitZ2 (mkL x 0 (kdsP [.val (.ag kd1), .val (.sc (.int .i64)), .val (.sc (.flt .f32))])) := by
      unfold newUnitR0
      have hz : intOf (leafN (mkL x 0 (kdsP [.val (.ag kd1), .val (.sc (.int .i64)), .val (.sc (.flt .f32))])) 15) = 2 := hz
      rw [h0, h1, hz]
      rfl
    rw [e]
    exact EvP.of (litL_mk hz) (newUnit_e25_2 x) (newUnit_c25_2 x h0 h1 hz)
  · have e : newUnitR0 (mkL x 0 (kdsP [.val (.ag kd1), .val (.sc (.int .i64)), .val (.sc (.flt .f32))])) = newUnitZ3 (mkL x 0 (kdsP [.val (.ag kd1), .val (.sc (.int .i64)), .val (.sc (.flt .f32))])) := by
      unfold newUnitR0
      have hz : intOf (leafN (mkL x 0 (kdsP [.val (.ag kd1), .val (.sc (.int .i64)), .val (.sc (.flt .f32))])) 15) = 3 := hz
      rw [h0, h1, hz]
      rfl
    rw [e]
    exact EvP.of (litL_mk hz) (newUnit_e25_3 x) (newUnit_c25_3 x h0 h1 hz)
  · have e : newUnitR0 (mkL x 0 (kdsP [.val (.ag kd1), .val (.sc (.int .i64)), .val (.sc (.flt .f32))])) = newUnitZ4 (mkL x 0 (kdsP [.val (.ag kd1), .val (.sc (.int .i64)), .val (.sc (.flt .f32))])) := by
      unfold newUnitR0
      have hz : intOf (leafN (mkL x 0 (kdsP [.val (.ag kd1), .val (.sc (.int .i64)), .val (.sc (.flt .f32))])) 15) = 4 := hz
      rw [h0, h1, hz]
      rfl
    rw [e]
    exact EvP.of (litL_mk hz) (newUnit_e25_4 x) (newUnit_c25_4 x h0 h1 hz)
  · have e : newUnitR0 (mkL x 0 (kdsP [.val (.ag kd1), .val (.sc (.int .i64)), .val (.sc (.flt .f32))])) = newUnitZ5 (mkL x 0 (kdsP [.val (.ag kd1), .val (.sc (.int .i64)), .val (.sc (.flt .f32))])) := by
      unfold newUnitR0
      have hz : intOf (leafN (mkL x 0 (kdsP [.val (.ag kd1), .val (.sc (.int .i64)), .val (.sc (.flt .f32))])) 15) = 5 := hz
      rw [h0, h1, hz]
      rfl
    rw [e]
    exact EvP.of (litL_mk hz) (newUnit_e25_5 x) (newUnit_c25_5 x h0 h1 hz)
  · have e : newUnitR0 (mkL x 0 (kdsP [.val (.ag kd1), .val (.sc (.int .i64)), .val (.sc (.flt .f32))])) = newUnitZ6 (mkL x 0 (kdsP [.val (.ag kd1), .val (.sc (.int .i64)), .val (.sc (.flt .f32))])) := by
      unfold newUnitR0
      have hz : intOf (leafN (mkL x 0 (kdsP [.val (.ag kd1), .val (.sc (.int .i64)), .val (.sc (.flt .f32))])) 15) = 6 := hz
      rw [h0, h1, hz]
      rfl
    rw [e]
    exact EvP.of (litL_mk hz) (newUnit_e25_6 x) (newUnit_c25_6 x h0 h1 hz)
  · have e : newUnitR0 (mkL x 0 (kdsP [.val (.ag kd1), .val (.sc (.int .i64)), .val (.sc (.flt .f32))])) = newUnitZ7 (mkL x 0 (kdsP [.val (.ag kd1), .val (.sc (.int .i64)), .val (.sc (.flt .f32))])) := by
      unfold newUnitR0
      have hz : intOf (leafN (mkL x 0 (kdsP [.val (.ag kd1), .val (.sc (.int .i64)), .val (.sc (.flt .f32))])) 15) = 7 := hz
      rw [h0, h1, hz]
      rfl
    rw [e]
    exact EvP.of (litL_mk hz) (newUnit_e25_7 x) (newUnit_c25_7 x h0 h1 hz)
  · have e : newUnitR0 (mkL x 0 (kdsP [.val (.ag kd1), .val (.sc (.int .i64)), .val (.sc (.flt .f32))])) = newUnitZ8 (mkL x 0 (kdsP [.val (.ag kd1), .val (.sc (.int .i64)), .val (.sc (.flt .f32))])) := by
      unfold newUnitR0
      have hz : intOf (leafN (mkL x 0 (kdsP [.val (.ag kd1), .val (.sc (.int .i64)), .val (.sc (.flt .f32))])) 15) = 8 := hz
      rw [h0, h1, hz]
      rfl
    rw [e]
    exact EvP.of (litL_mk hz) (newUnit_e25_8 x) (newUnit_c25_8 x h0 h1 hz)

noncomputable def G17 : Summ := addG 23 (sumP [.val (.ag kd1), .val (.sc (.int .i64)), .val (.sc (.flt .f32))] [.ag kd2, .sc (.int .i64)] (fun _ => []) newUnitR) G16

theorem G17_ok : SoundG Try.prog G17 := SoundG.sumP G16_ok mixed Try.call23 G16_ok (fun x hx hp => by rw [newUnitR_eq]; exact (fun x _ _ => newUnit_ev23 x) x hx hp)

noncomputable def G18 : Summ := addG 25 (sumP [.val (.ag kd1), .val (.sc (.int .i64)), .val (.sc (.flt .f32))] [.ag kd2, .sc (.int .i64)] (fun _ => []) newUnitR) G17

theorem G18_ok : SoundG Try.prog G18 := SoundG.sumP G17_ok mixed Try.call25 G16_ok (fun x hx hp => by rw [newUnitR_eq]; exact (fun x _ _ => newUnit_ev25 x) x hx hp)

end Go.Proofs.Ytdagaggpaohmcaa

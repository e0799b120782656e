/-
  Facts of this seat that its laws use; no conditions.
-/
import Derived.Test.YtagkkkplmilkhaaRng
import Derived.Test.YtagkkkplmilkhaaSimRc
namespace Go.Proofs.Ytagkkkplmilkhaa
open Go.Sim Go.ChangeShapes Go.WideShapes Go.ChangeAt Go.RowKit

theorem ext148 (b : Nat) (w : World) : (callFunc 148 #[.float .f64 b]).run Try.prog w = .ok (.value (.int .u64 b)) w := by kernel_rfl

noncomputable def G13 : Summ := addG 148 bits64 G12

theorem G13_ok : SoundG Try.prog G13 := SoundG.addBits64 G12_ok ext148

theorem ext147 (n : Int) (w : World) : (callFunc 147 #[.int .u64 n]).run Try.prog w = .ok (.value (.float .f64 n.toNat)) w := by kernel_rfl

noncomputable def G14 : Summ := addG 147 unbits64 G13

theorem G14_ok : SoundG Try.prog G14 := SoundG.addUnbits64 G13_ok ext147

noncomputable def G15 : Summ := inlGs Try.prog 1000 [143] G14

theorem G15_ok : SoundG Try.prog G15 := by
  refine SoundG.inls mixed G14_ok fun f hf => ?_
  simp only [List.mem_cons, List.not_mem_nil, or_false] at hf
  subst hf
  exact Try.call143

noncomputable def sizeR0 (l : List AV) : Vars := { u := fun _ => fltOf (leafN l 0) % 2147483648, i := fun _ => 0, b := fun _ => false, s := fun _ => .empty }

noncomputable def sizeR : List AV → Vars := Classical.choose (⟨sizeR0, rfl⟩ : ∃ f, f = sizeR0)

theorem sizeR_eq : sizeR = sizeR0 := Classical.choose_spec (⟨sizeR0, rfl⟩ : ∃ f, f = sizeR0)

noncomputable def sizePre (l : List AV) : List Bool := [!isNan .f32 (fltOf (leafN l 0))]

theorem size_f121 (x : Vars) : (funA Try.prog G15 1000 121 (argsP [.val (.sc (.flt .f32))] 0 (mkL x 0 (kdsP [.val (.sc (.flt .f32))]))) (memP [.val (.sc (.flt .f32))] (mkL x 0 (kdsP [.val (.sc (.flt .f32))]))) []).map (fun r => (normR r.1, untupR r.1 && r.1.flat, r.2)) = some (.flt .f32 (fconv .f64 .f32 (canon .f64 (wrapS .u64 (ibitS .andNot .u64 (Int.ofNat (fconv .f32 .f64 (x.u 0))) 9223372036854775808)).toNat)), true, [fconvOk .f64 .f32 (canon .f64 (wrapS .u64 (ibitS .andNot .u64 (Int.ofNat (fconv .f32 .f64 (x.u 0))) 9223372036854775808)).toNat), !(isNan .f64 (fconv .f32 .f64 (x.u 0)))]) := by kernel_rfl

theorem size_ev121 (x : Vars) (hp : ∀ b ∈ sizePre (mkL x 0 (kdsP [.val (.sc (.flt .f32))])), b = true) : EvP Try.prog G15 121 [.val (.sc (.flt .f32))] [.sc (.flt .f32)] (mkL x 0 (kdsP [.val (.sc (.flt .f32))])) (sizeR0 (mkL x 0 (kdsP [.val (.sc (.flt .f32))]))) := by
  have hn : isNan .f32 (x.u 0) = false := notBT (hp _ (List.mem_cons_self ..))
  have e := abs_ok hn
  refine EvP.of (mkL_norm ..) ((size_f121 x).trans ?_) (allC e.2 (allC (notT (notNan_wide hn)) allN))
  rw [e.1]
  rfl

theorem size_u (v : Nat) : (sizeR [.flt .f32 v]).u 0 = v % 2147483648 := by rw [sizeR_eq]; rfl

noncomputable def G16 : Summ := addG 121 (sumP [.val (.sc (.flt .f32))] [.sc (.flt .f32)] sizePre sizeR) G15

theorem G16_ok : SoundG Try.prog G16 := SoundG.sumP G15_ok mixed Try.call121 G15_ok (fun x hx hp => by rw [sizeR_eq]; exact (fun x _ hp => size_ev121 x hp) x hx hp)

noncomputable def szR0 (l : List AV) : Vars := outV (funA Try.prog G16 1000 122 (argsP [.val (.sc (.flt .f32))] 0 l) (memP [.val (.sc (.flt .f32))] l) [])

noncomputable def szR : List AV → Vars := Classical.choose (⟨szR0, rfl⟩ : ∃ f, f = szR0)

theorem szR_eq : szR = szR0 := Classical.choose_spec (⟨szR0, rfl⟩ : ∃ f, f = szR0)

theorem sz_x (x : Vars) : mkR (szR0 (mkL x 0 (kdsP [.val (.sc (.flt .f32))]))) [.sc (.flt .f32)] = .flt .f32 ((bif (fcmp .lss .f32 (x.u 0) 0) then (fneg .f32 (x.u 0)) else (x.u 0))) := by kernel_rfl

theorem sz_f122 (x : Vars) : (funA Try.prog G16 1000 122 (argsP [.val (.sc (.flt .f32))] 0 (mkL x 0 (kdsP [.val (.sc (.flt .f32))]))) (memP [.val (.sc (.flt .f32))] (mkL x 0 (kdsP [.val (.sc (.flt .f32))]))) []).map (fun r => (normR r.1, untupR r.1 && r.1.flat, r.2)) = some (.flt .f32 ((bif (fcmp .lss .f32 (x.u 0) 0) then (fneg .f32 (x.u 0)) else (x.u 0))), true, []) := by kernel_rfl

set_option maxRecDepth 100000 in
theorem sz_e122 (x : Vars) : (funA Try.prog G16 1000 122 (argsP [.val (.sc (.flt .f32))] 0 (mkL x 0 (kdsP [.val (.sc (.flt .f32))]))) (memP [.val (.sc (.flt .f32))] (mkL x 0 (kdsP [.val (.sc (.flt .f32))]))) []).map (fun r => (normR r.1, untupR r.1 && r.1.flat, r.2)) = some (mkR (szR0 (mkL x 0 (kdsP [.val (.sc (.flt .f32))]))) [.sc (.flt .f32)], true, []) := by
  rw [sz_f122, sz_x]


theorem sz_ev122 (x : Vars) : EvP Try.prog G16 122 [.val (.sc (.flt .f32))] [.sc (.flt .f32)] (mkL x 0 (kdsP [.val (.sc (.flt .f32))])) (szR0 (mkL x 0 (kdsP [.val (.sc (.flt .f32))]))) := EvP.of (mkL_norm ..) (sz_e122 x) fun _ h => by cases h

noncomputable def G17 : Summ := addG 122 (sumP [.val (.sc (.flt .f32))] [.sc (.flt .f32)] (fun _ => []) szR) G16

theorem G17_ok : SoundG Try.prog G17 := SoundG.sumP G16_ok mixed Try.call122 G16_ok (fun x hx hp => by rw [szR_eq]; exact (fun x _ _ => sz_ev122 x) x hx hp)

theorem sz_u (v : Nat) : (szR [.flt .f32 v]).u 0 = szS v := by rw [szR_eq]; kernel_rfl

noncomputable def off_r0 (x : Vars) : Nat := bif (fcmp .gtr .f32 ((szR [(.flt .f32 (farith .sub .f32 (x.u 137) (x.u 148)))]).u 0) 0) then ((szR [(.flt .f32 (farith .sub .f32 (x.u 137) (x.u 148)))]).u 0) else 0

noncomputable def off_m0 (x : Vars) : Nat := fmax .f32 0 ((sizeR [(.flt .f32 (farith .sub .f32 (x.u 137) (x.u 148)))]).u 0)

noncomputable def off_r1 (x : Vars) : Nat := bif (fcmp .gtr .f32 ((szR [(.flt .f32 (farith .sub .f32 (x.u 138) (x.u 149)))]).u 0) (off_r0 x)) then ((szR [(.flt .f32 (farith .sub .f32 (x.u 138) (x.u 149)))]).u 0) else (off_r0 x)

noncomputable def off_m1 (x : Vars) : Nat := fmax .f32 (off_m0 x) ((sizeR [(.flt .f32 (farith .sub .f32 (x.u 138) (x.u 149)))]).u 0)

noncomputable def off_r2 (x : Vars) : Nat := bif (fcmp .gtr .f32 ((szR [(.flt .f32 (farith .sub .f32 (x.u 139) (x.u 150)))]).u 0) (off_r1 x)) then ((szR [(.flt .f32 (farith .sub .f32 (x.u 139) (x.u 150)))]).u 0) else (off_r1 x)

noncomputable def off_m2 (x : Vars) : Nat := fmax .f32 (off_m1 x) ((sizeR [(.flt .f32 (farith .sub .f32 (x.u 139) (x.u 150)))]).u 0)

noncomputable def off_r3 (x : Vars) : Nat := bif (fcmp .gtr .f32 ((szR [(.flt .f32 (farith .sub .f32 (x.u 140) (x.u 151)))]).u 0) (off_r2 x)) then ((szR [(.flt .f32 (farith .sub .f32 (x.u 140) (x.u 151)))]).u 0) else (off_r2 x)

noncomputable def off_m3 (x : Vars) : Nat := fmax .f32 (off_m2 x) ((sizeR [(.flt .f32 (farith .sub .f32 (x.u 140) (x.u 151)))]).u 0)

noncomputable def off_r4 (x : Vars) : Nat := bif (fcmp .gtr .f32 ((szR [(.flt .f32 (farith .sub .f32 (x.u 141) (x.u 152)))]).u 0) (off_r3 x)) then ((szR [(.flt .f32 (farith .sub .f32 (x.u 141) (x.u 152)))]).u 0) else (off_r3 x)

noncomputable def off_m4 (x : Vars) : Nat := fmax .f32 (off_m3 x) ((sizeR [(.flt .f32 (farith .sub .f32 (x.u 141) (x.u 152)))]).u 0)

noncomputable def off_r5 (x : Vars) : Nat := bif (fcmp .gtr .f32 ((szR [(.flt .f32 (farith .sub .f32 (x.u 142) (x.u 153)))]).u 0) (off_r4 x)) then ((szR [(.flt .f32 (farith .sub .f32 (x.u 142) (x.u 153)))]).u 0) else (off_r4 x)

noncomputable def off_m5 (x : Vars) : Nat := fmax .f32 (off_m4 x) ((sizeR [(.flt .f32 (farith .sub .f32 (x.u 142) (x.u 153)))]).u 0)

noncomputable def off_r6 (x : Vars) : Nat := bif (fcmp .gtr .f32 ((szR [(.flt .f32 (farith .sub .f32 (x.u 143) (x.u 154)))]).u 0) (off_r5 x)) then ((szR [(.flt .f32 (farith .sub .f32 (x.u 143) (x.u 154)))]).u 0) else (off_r5 x)

noncomputable def off_m6 (x : Vars) : Nat := fmax .f32 (off_m5 x) ((sizeR [(.flt .f32 (farith .sub .f32 (x.u 143) (x.u 154)))]).u 0)

noncomputable def off_r7 (x : Vars) : Nat := bif (fcmp .gtr .f32 ((szR [(.flt .f32 (farith .sub .f32 (x.u 144) (x.u 155)))]).u 0) (off_r6 x)) then ((szR [(.flt .f32 (farith .sub .f32 (x.u 144) (x.u 155)))]).u 0) else (off_r6 x)

noncomputable def off_m7 (x : Vars) : Nat := fmax .f32 (off_m6 x) ((sizeR [(.flt .f32 (farith .sub .f32 (x.u 144) (x.u 155)))]).u 0)

theorem off_b0 (x : Vars) (a0 : isNan .f32 (farith .sub .f32 (x.u 137) (x.u 148)) = false) : off_m0 x = off_r0 x ∧ off_m0 x ≤ 2139095040 := by
  have b := fmax_abs (m := 0) (a := (farith .sub .f32 (x.u 137) (x.u 148))) (by decide) (of_decide_eq_true (fltB_farith .sub .f32 _ _)) a0
  rw [← size_u, ← sz_u] at b
  refine ⟨?_, b.2⟩
  unfold off_r0 off_m0
  exact b.1

theorem off_b1 (x : Vars) (a0 : isNan .f32 (farith .sub .f32 (x.u 137) (x.u 148)) = false) (a1 : isNan .f32 (farith .sub .f32 (x.u 138) (x.u 149)) = false) : off_m1 x = off_r1 x ∧ off_m1 x ≤ 2139095040 := by
  have p := off_b0 x a0
  have b := fmax_abs (m := (off_m0 x)) (a := (farith .sub .f32 (x.u 138) (x.u 149))) p.2 (of_decide_eq_true (fltB_farith .sub .f32 _ _)) a1
  rw [← size_u, ← sz_u] at b
  refine ⟨?_, b.2⟩
  unfold off_r1 off_m1
  rw [← p.1]
  exact b.1

theorem off_b2 (x : Vars) (a0 : isNan .f32 (farith .sub .f32 (x.u 137) (x.u 148)) = false) (a1 : isNan .f32 (farith .sub .f32 (x.u 138) (x.u 149)) = false) (a2 : isNan .f32 (farith .sub .f32 (x.u 139) (x.u 150)) = false) : off_m2 x = off_r2 x ∧ off_m2 x ≤ 2139095040 := by
  have p := off_b1 x a0 a1
  have b := fmax_abs (m := (off_m1 x)) (a := (farith .sub .f32 (x.u 139) (x.u 150))) p.2 (of_decide_eq_true (fltB_farith .sub .f32 _ _)) a2
  rw [← size_u, ← sz_u] at b
  refine ⟨?_, b.2⟩
  unfold off_r2 off_m2
  rw [← p.1]
  exact b.1

theorem off_b3 (x : Vars) (a0 : isNan .f32 (farith .sub .f32 (x.u 137) (x.u 148)) = false) (a1 : isNan .f32 (farith .sub .f32 (x.u 138) (x.u 149)) = false) (a2 : isNan .f32 (farith .sub .f32 (x.u 139) (x.u 150)) = false) (a3 : isNan .f32 (farith .sub .f32 (x.u 140) (x.u 151)) = false) : off_m3 x = off_r3 x ∧ off_m3 x ≤ 2139095040 := by
  have p := off_b2 x a0 a1 a2
  have b := fmax_abs (m := (off_m2 x)) (a := (farith .sub .f32 (x.u 140) (x.u 151))) p.2 (of_decide_eq_true (fltB_farith .sub .f32 _ _)) a3
  rw [← size_u, ← sz_u] at b
  refine ⟨?_, b.2⟩
  unfold off_r3 off_m3
  rw [← p.1]
  exact b.1

theorem off_b4 (x : Vars) (a0 : isNan .f32 (farith .sub .f32 (x.u 137) (x.u 148)) = false) (a1 : isNan .f32 (farith .sub .f32 (x.u 138) (x.u 149)) = false) (a2 : isNan .f32 (farith .sub .f32 (x.u 139) (x.u 150)) = false) (a3 : isNan .f32 (farith .sub .f32 (x.u 140) (x.u 151)) = false) (a4 : isNan .f32 (farith .sub .f32 (x.u 141) (x.u 152)) = false) : off_m4 x = off_r4 x ∧ off_m4 x ≤ 2139095040 := by
  have p := off_b3 x a0 a1 a2 a3
  have b := fmax_abs (m := (off_m3 x)) (a := (farith .sub .f32 (x.u 141) (x.u 152))) p.2 (of_decide_eq_true (fltB_farith .sub .f32 _ _)) a4
  rw [← size_u, ← sz_u] at b
  refine ⟨?_, b.2⟩
  unfold off_r4 off_m4
  rw [← p.1]
  exact b.1

theorem off_b5 (x : Vars) (a0 : isNan .f32 (farith .sub .f32 (x.u 137) (x.u 148)) = false) (a1 : isNan .f32 (farith .sub .f32 (x.u 138) (x.u 149)) = false) (a2 : isNan .f32 (farith .sub .f32 (x.u 139) (x.u 150)) = false) (a3 : isNan .f32 (farith .sub .f32 (x.u 140) (x.u 151)) = false) (a4 : isNan .f32 (farith .sub .f32 (x.u 141) (x.u 152)) = false) (a5 : isNan .f32 (farith .sub .f32 (x.u 142) (x.u 153)) = false) : off_m5 x = off_r5 x ∧ off_m5 x ≤ 2139095040 := by
  have p := off_b4 x a0 a1 a2 a3 a4
  have b := fmax_abs (m := (off_m4 x)) (a := (farith .sub .f32 (x.u 142) (x.u 153))) p.2 (of_decide_eq_true (fltB_farith .sub .f32 _ _)) a5
  rw [← size_u, ← sz_u] at b
  refine ⟨?_, b.2⟩
  unfold off_r5 off_m5
  rw [← p.1]
  exact b.1

theorem off_b6 (x : Vars) (a0 : isNan .f32 (farith .sub .f32 (x.u 137) (x.u 148)) = false) (a1 : isNan .f32 (farith .sub .f32 (x.u 138) (x.u 149)) = false) (a2 : isNan .f32 (farith .sub .f32 (x.u 139) (x.u 150)) = false) (a3 : isNan .f32 (farith .sub .f32 (x.u 140) (x.u 151)) = false) (a4 : isNan .f32 (farith .sub .f32 (x.u 141) (x.u 152)) = false) (a5 : isNan .f32 (farith .sub .f32 (x.u 142) (x.u 153)) = false) (a6 : isNan .f32 (farith .sub .f32 (x.u 143) (x.u 154)) = false) : off_m6 x = off_r6 x ∧ off_m6 x ≤ 2139095040 := by
  have p := off_b5 x a0 a1 a2 a3 a4 a5
  have b := fmax_abs (m := (off_m5 x)) (a := (farith .sub .f32 (x.u 143) (x.u 154))) p.2 (of_decide_eq_true (fltB_farith .sub .f32 _ _)) a6
  rw [← size_u, ← sz_u] at b
  refine ⟨?_, b.2⟩
  unfold off_r6 off_m6
  rw [← p.1]
  exact b.1

theorem off_b7 (x : Vars) (a0 : isNan .f32 (farith .sub .f32 (x.u 137) (x.u 148)) = false) (a1 : isNan .f32 (farith .sub .f32 (x.u 138) (x.u 149)) = false) (a2 : isNan .f32 (farith .sub .f32 (x.u 139) (x.u 150)) = false) (a3 : isNan .f32 (farith .sub .f32 (x.u 140) (x.u 151)) = false) (a4 : isNan .f32 (farith .sub .f32 (x.u 141) (x.u 152)) = false) (a5 : isNan .f32 (farith .sub .f32 (x.u 142) (x.u 153)) = false) (a6 : isNan .f32 (farith .sub .f32 (x.u 143) (x.u 154)) = false) (a7 : isNan .f32 (farith .sub .f32 (x.u 144) (x.u 155)) = false) : off_m7 x = off_r7 x ∧ off_m7 x ≤ 2139095040 := by
  have p := off_b6 x a0 a1 a2 a3 a4 a5 a6
  have b := fmax_abs (m := (off_m6 x)) (a := (farith .sub .f32 (x.u 144) (x.u 155))) p.2 (of_decide_eq_true (fltB_farith .sub .f32 _ _)) a7
  rw [← size_u, ← sz_u] at b
  refine ⟨?_, b.2⟩
  unfold off_r7 off_m7
  rw [← p.1]
  exact b.1

def kd3 : List Kd := [.flt .f32, .flt .f32, .flt .f32, .flt .f32, .flt .f32, .flt .f32, .flt .f32, .flt .f32]

def kd4 : List Kd := [.flt .f32, .flt .f32, .flt .f32, .flt .f32, .flt .f32, .flt .f32, .flt .f32, .flt .f32, .flt .f32, .flt .f32, .flt .f32, .flt .f32, .flt .f32, .flt .f32, .flt .f32, .flt .f32, .flt .f32, .flt .f32, .int .i16]

noncomputable def off_1_a0 (x : Vars) : Vars := sizeR [(.flt .f32 (farith .sub .f32 (x.u 137) (x.u 148)))]



noncomputable def off_v1 (x : Vars) : AV := .tup [.agg [.flt .f32 ((farith .sub .f32 (x.u 137) (x.u 148))), .flt .f32 (0), .flt .f32 (0), .flt .f32 (0), .flt .f32 (0), .flt .f32 (0), .flt .f32 (0), .flt .f32 (0)], .flt .f32 ((fmax .f32 0 ((off_1_a0 x).u 0)))]

noncomputable def offZ1 (l : List AV) : Vars := outV (some (off_v1 (varsOf l), []))

theorem off_x1 (x : Vars) : mkR (offZ1 (mkL x 0 (kdsP [.val (.ag kd2), .val (.ag kd4), .val (.ag kd3)]))) [.ag kd3, .sc (.flt .f32)] = off_v1 x := by kernel_rfl

noncomputable def off_2_a0 (x : Vars) : Vars := sizeR [(.flt .f32 (farith .sub .f32 (x.u 137) (x.u 148)))]

noncomputable def off_2_a1 (x : Vars) : Vars := sizeR [(.flt .f32 (farith .sub .f32 (x.u 138) (x.u 149)))]



noncomputable def off_v2 (x : Vars) : AV := .tup [.agg [.flt .f32 ((farith .sub .f32 (x.u 137) (x.u 148))), .flt .f32 ((farith .sub .f32 (x.u 138) (x.u 149))), .flt .f32 (0), .flt .f32 (0), .flt .f32 (0), .flt .f32 (0), .flt .f32 (0), .flt .f32 (0)], .flt .f32 ((fmax .f32 (fmax .f32 0 ((off_2_a0 x).u 0)) ((off_2_a1 x).u 0)))]

noncomputable def offZ2 (l : List AV) : Vars := outV (some (off_v2 (varsOf l), []))

theorem off_x2 (x : Vars) : mkR (offZ2 (mkL x 0 (kdsP [.val (.ag kd2), .val (.ag kd4), .val (.ag kd3)]))) [.ag kd3, .sc (.flt .f32)] = off_v2 x := by kernel_rfl

noncomputable def off_3_a0 (x : Vars) : Vars := sizeR [(.flt .f32 (farith .sub .f32 (x.u 137) (x.u 148)))]

noncomputable def off_3_a1 (x : Vars) : Vars := sizeR [(.flt .f32 (farith .sub .f32 (x.u 138) (x.u 149)))]

noncomputable def off_3_a2 (x : Vars) : Vars := sizeR [(.flt .f32 (farith .sub .f32 (x.u 139) (x.u 150)))]



noncomputable def off_v3 (x : Vars) : AV := .tup [.agg [.flt .f32 ((farith .sub .f32 (x.u 137) (x.u 148))), .flt .f32 ((farith .sub .f32 (x.u 138) (x.u 149))), .flt .f32 ((farith .sub .f32 (x.u 139) (x.u 150))), .flt .f32 (0), .flt .f32 (0), .flt .f32 (0), .flt .f32 (0), .flt .f32 (0)], .flt .f32 ((fmax .f32 (fmax .f32 (fmax .f32 0 ((off_3_a0 x).u 0)) ((off_3_a1 x).u 0)) ((off_3_a2 x).u 0)))]

noncomputable def offZ3 (l : List AV) : Vars := outV (some (off_v3 (varsOf l), []))

theorem off_x3 (x : Vars) : mkR (offZ3 (mkL x 0 (kdsP [.val (.ag kd2), .val (.ag kd4), .val (.ag kd3)]))) [.ag kd3, .sc (.flt .f32)] = off_v3 x := by kernel_rfl

noncomputable def off_4_a0 (x : Vars) : Vars := sizeR [(.flt .f32 (farith .sub .f32 (x.u 137) (x.u 148)))]

noncomputable def off_4_a1 (x : Vars) : Vars := sizeR [(.flt .f32 (farith .sub .f32 (x.u 138) (x.u 149)))]

noncomputable def off_4_a2 (x : Vars) : Vars := sizeR [(.flt .f32 (farith .sub .f32 (x.u 139) (x.u 150)))]

noncomputable def off_4_a3 (x : Vars) : Vars := sizeR [(.flt .f32 (farith .sub .f32 (x.u 140) (x.u 151)))]



noncomputable def off_v4 (x : Vars) : AV := .tup [.agg [.flt .f32 ((farith .sub .f32 (x.u 137) (x.u 148))), .flt .f32 ((farith .sub .f32 (x.u 138) (x.u 149))), .flt .f32 ((farith .sub .f32 (x.u 139) (x.u 150))), .flt .f32 ((farith .sub .f32 (x.u 140) (x.u 151))), .flt .f32 (0), .flt .f32 (0), .flt .f32 (0), .flt .f32 (0)], .flt .f32 ((fmax .f32 (fmax .f32 (fmax .f32 (fmax .f32 0 ((off_4_a0 x).u 0)) ((off_4_a1 x).u 0)) ((off_4_a2 x).u 0)) ((off_4_a3 x).u 0)))]

noncomputable def offZ4 (l : List AV) : Vars := outV (some (off_v4 (varsOf l), []))

theorem off_x4 (x : Vars) : mkR (offZ4 (mkL x 0 (kdsP [.val (.ag kd2), .val (.ag kd4), .val (.ag kd3)]))) [.ag kd3, .sc (.flt .f32)] = off_v4 x := by kernel_rfl

noncomputable def off_5_a0 (x : Vars) : Vars := sizeR [(.flt .f32 (farith .sub .f32 (x.u 137) (x.u 148)))]

noncomputable def off_5_a1 (x : Vars) : Vars := sizeR [(.flt .f32 (farith .sub .f32 (x.u 138) (x.u 149)))]

noncomputable def off_5_a2 (x : Vars) : Vars := sizeR [(.flt .f32 (farith .sub .f32 (x.u 139) (x.u 150)))]

noncomputable def off_5_a3 (x : Vars) : Vars := sizeR [(.flt .f32 (farith .sub .f32 (x.u 140) (x.u 151)))]

noncomputable def off_5_a4 (x : Vars) : Vars := sizeR [(.flt .f32 (farith .sub .f32 (x.u 141) (x.u 152)))]



noncomputable def off_v5 (x : Vars) : AV := .tup [.agg [.flt .f32 ((farith .sub .f32 (x.u 137) (x.u 148))), .flt .f32 ((farith .sub .f32 (x.u 138) (x.u 149))), .flt .f32 ((farith .sub .f32 (x.u 139) (x.u 150))), .flt .f32 ((farith .sub .f32 (x.u 140) (x.u 151))), .flt .f32 ((farith .sub .f32 (x.u 141) (x.u 152))), .flt .f32 (0), .flt .f32 (0), .flt .f32 (0)], .flt .f32 ((fmax .f32 (fmax .f32 (fmax .f32 (fmax .f32 (fmax .f32 0 ((off_5_a0 x).u 0)) ((off_5_a1 x).u 0)) ((off_5_a2 x).u 0)) ((off_5_a3 x).u 0)) ((off_5_a4 x).u 0)))]

noncomputable def offZ5 (l : List AV) : Vars := outV (some (off_v5 (varsOf l), []))

theorem off_x5 (x : Vars) : mkR (offZ5 (mkL x 0 (kdsP [.val (.ag kd2), .val (.ag kd4), .val (.ag kd3)]))) [.ag kd3, .sc (.flt .f32)] = off_v5 x := by kernel_rfl

noncomputable def off_6_a0 (x : Vars) : Vars := sizeR [(.flt .f32 (farith .sub .f32 (x.u 137) (x.u 148)))]

noncomputable def off_6_a1 (x : Vars) : Vars := sizeR [(.flt .f32 (farith .sub .f32 (x.u 138) (x.u 149)))]

noncomputable def off_6_a2 (x : Vars) : Vars := sizeR [(.flt .f32 (farith .sub .f32 (x.u 139) (x.u 150)))]

noncomputable def off_6_a3 (x : Vars) : Vars := sizeR [(.flt .f32 (farith .sub .f32 (x.u 140) (x.u 151)))]

noncomputable def off_6_a4 (x : Vars) : Vars := sizeR [(.flt .f32 (farith .sub .f32 (x.u 141) (x.u 152)))]

noncomputable def off_6_a5 (x : Vars) : Vars := sizeR [(.flt .f32 (farith .sub .f32 (x.u 142) (x.u 153)))]



noncomputable def off_v6 (x : Vars) : AV := .tup [.agg [.flt .f32 ((farith .sub .f32 (x.u 137) (x.u 148))), .flt .f32 ((farith .sub .f32 (x.u 138) (x.u 149))), .flt .f32 ((farith .sub .f32 (x.u 139) (x.u 150))), .flt .f32 ((farith .sub .f32 (x.u 140) (x.u 151))), .flt .f32 ((farith .sub .f32 (x.u 141) (x.u 152))), .flt .f32 ((farith .sub .f32 (x.u 142) (x.u 153))), .flt .f32 (0), .flt .f32 (0)], .flt .f32 ((fmax .f32 (fmax .f32 (fmax .f32 (fmax .f32 (fmax .f32 (fmax .f32 0 ((off_6_a0 x).u 0)) ((off_6_a1 x).u 0)) ((off_6_a2 x).u 0)) ((off_6_a3 x).u 0)) ((off_6_a4 x).u 0)) ((off_6_a5 x).u 0)))]

noncomputable def offZ6 (l : List AV) : Vars := outV (some (off_v6 (varsOf l), []))

theorem off_x6 (x : Vars) : mkR (offZ6 (mkL x 0 (kdsP [.val (.ag kd2), .val (.ag kd4), .val (.ag kd3)]))) [.ag kd3, .sc (.flt .f32)] = off_v6 x := by kernel_rfl

noncomputable def off_7_a0 (x : Vars) : Vars := sizeR [(.flt .f32 (farith .sub .f32 (x.u 137) (x.u 148)))]

noncomputable def off_7_a1 (x : Vars) : Vars := sizeR [(.flt .f32 (farith .sub .f32 (x.u 138) (x.u 149)))]

noncomputable def off_7_a2 (x : Vars) : Vars := sizeR [(.flt .f32 (farith .sub .f32 (x.u 139) (x.u 150)))]

noncomputable def off_7_a3 (x : Vars) : Vars := sizeR [(.flt .f32 (farith .sub .f32 (x.u 140) (x.u 151)))]

noncomputable def off_7_a4 (x : Vars) : Vars := sizeR [(.flt .f32 (farith .sub .f32 (x.u 141) (x.u 152)))]

noncomputable def off_7_a5 (x : Vars) : Vars := sizeR [(.flt .f32 (farith .sub .f32 (x.u 142) (x.u 153)))]

noncomputable def off_7_a6 (x : Vars) : Vars := sizeR [(.flt .f32 (farith .sub .f32 (x.u 143) (x.u 154)))]



noncomputable def off_v7 (x : Vars) : AV := .tup [.agg [.flt .f32 ((farith .sub .f32 (x.u 137) (x.u 148))), .flt .f32 ((farith .sub .f32 (x.u 138) (x.u 149))), .flt .f32 ((farith .sub .f32 (x.u 139) (x.u 150))), .flt .f32 ((farith .sub .f32 (x.u 140) (x.u 151))), .flt .f32 ((farith .sub .f32 (x.u 141) (x.u 152))), .flt .f32 ((farith .sub .f32 (x.u 142) (x.u 153))), .flt .f32 ((farith .sub .f32 (x.u 143) (x.u 154))), .flt .f32 (0)], .flt .f32 ((fmax .f32 (fmax .f32 (fmax .f32 (fmax .f32 (fmax .f32 (fmax .f32 (fmax .f32 0 ((off_7_a0 x).u 0)) ((off_7_a1 x).u 0)) ((off_7_a2 x).u 0)) ((off_7_a3 x).u 0)) ((off_7_a4 x).u 0)) ((off_7_a5 x).u 0)) ((off_7_a6 x).u 0)))]

noncomputable def offZ7 (l : List AV) : Vars := outV (some (off_v7 (varsOf l), []))

theorem off_x7 (x : Vars) : mkR (offZ7 (mkL x 0 (kdsP [.val (.ag kd2), .val (.ag kd4), .val (.ag kd3)]))) [.ag kd3, .sc (.flt .f32)] = off_v7 x := by kernel_rfl

noncomputable def off_8_a0 (x : Vars) : Vars := sizeR [(.flt .f32 (farith .sub .f32 (x.u 137) (x.u 148)))]

noncomputable def off_8_a1 (x : Vars) : Vars := sizeR [(.flt .f32 (farith .sub .f32 (x.u 138) (x.u 149)))]

noncomputable def off_8_a2 (x : Vars) : Vars := sizeR [(.flt .f32 (farith .sub .f32 (x.u 139) (x.u 150)))]

noncomputable def off_8_a3 (x : Vars) : Vars := sizeR [(.flt .f32 (farith .sub .f32 (x.u 140) (x.u 151)))]

noncomputable def off_8_a4 (x : Vars) : Vars := sizeR [(.flt .f32 (farith .sub .f32 (x.u 141) (x.u 152)))]

noncomputable def off_8_a5 (x : Vars) : Vars := sizeR [(.flt .f32 (farith .sub .f32 (x.u 142) (x.u 153)))]

noncomputable def off_8_a6 (x : Vars) : Vars := sizeR [(.flt .f32 (farith .sub .f32 (x.u 143) (x.u 154)))]

noncomputable def off_8_a7 (x : Vars) : Vars := sizeR [(.flt .f32 (farith .sub .f32 (x.u 144) (x.u 155)))]



noncomputable def off_v8 (x : Vars) : AV := .tup [.agg [.flt .f32 ((farith .sub .f32 (x.u 137) (x.u 148))), .flt .f32 ((farith .sub .f32 (x.u 138) (x.u 149))), .flt .f32 ((farith .sub .f32 (x.u 139) (x.u 150))), .flt .f32 ((farith .sub .f32 (x.u 140) (x.u 151))), .flt .f32 ((farith .sub .f32 (x.u 141) (x.u 152))), .flt .f32 ((farith .sub .f32 (x.u 142) (x.u 153))), .flt .f32 ((farith .sub .f32 (x.u 143) (x.u 154))), .flt .f32 ((farith .sub .f32 (x.u 144) (x.u 155)))], .flt .f32 ((fmax .f32 (fmax .f32 (fmax .f32 (fmax .f32 (fmax .f32 (fmax .f32 (fmax .f32 (fmax .f32 0 ((off_8_a0 x).u 0)) ((off_8_a1 x).u 0)) ((off_8_a2 x).u 0)) ((off_8_a3 x).u 0)) ((off_8_a4 x).u 0)) ((off_8_a5 x).u 0)) ((off_8_a6 x).u 0)) ((off_8_a7 x).u 0)))]

noncomputable def offZ8 (l : List AV) : Vars := outV (some (off_v8 (varsOf l), []))

theorem off_x8 (x : Vars) : mkR (offZ8 (mkL x 0 (kdsP [.val (.ag kd2), .val (.ag kd4), .val (.ag kd3)]))) [.ag kd3, .sc (.flt .f32)] = off_v8 x := by kernel_rfl

noncomputable def offR0 (l : List AV) : Vars := bif decide (intOf (leafN l 0) = 1) then (offZ1 l) else (bif decide (intOf (leafN l 0) = 2) then (offZ2 l) else (bif decide (intOf (leafN l 0) = 3) then (offZ3 l) else (bif decide (intOf (leafN l 0) = 4) then (offZ4 l) else (bif decide (intOf (leafN l 0) = 5) then (offZ5 l) else (bif decide (intOf (leafN l 0) = 6) then (offZ6 l) else (bif decide (intOf (leafN l 0) = 7) then (offZ7 l) else (offZ8 l)))))))

noncomputable def offR : List AV → Vars := Classical.choose (⟨offR0, rfl⟩ : ∃ f, f = offR0)

theorem offR_eq : offR = offR0 := Classical.choose_spec (⟨offR0, rfl⟩ : ∃ f, f = offR0)

noncomputable def offPre (l : List AV) : List Bool := [decide (1 ≤ intOf (leafN l 0)), decide (intOf (leafN l 0) ≤ 8)] ++ [decide (intOf (leafN l 0) ≤ 0) || !(isNan .f32 (farith .sub .f32 (fltOf (leafN l 137)) (fltOf (leafN l 148)))), decide (intOf (leafN l 0) ≤ 1) || !(isNan .f32 (farith .sub .f32 (fltOf (leafN l 138)) (fltOf (leafN l 149)))), decide (intOf (leafN l 0) ≤ 2) || !(isNan .f32 (farith .sub .f32 (fltOf (leafN l 139)) (fltOf (leafN l 150)))), decide (intOf (leafN l 0) ≤ 3) || !(isNan .f32 (farith .sub .f32 (fltOf (leafN l 140)) (fltOf (leafN l 151)))), decide (intOf (leafN l 0) ≤ 4) || !(isNan .f32 (farith .sub .f32 (fltOf (leafN l 141)) (fltOf (leafN l 152)))), decide (intOf (leafN l 0) ≤ 5) || !(isNan .f32 (farith .sub .f32 (fltOf (leafN l 142)) (fltOf (leafN l 153)))), decide (intOf (leafN l 0) ≤ 6) || !(isNan .f32 (farith .sub .f32 (fltOf (leafN l 143)) (fltOf (leafN l 154)))), decide (intOf (leafN l 0) ≤ 7) || !(isNan .f32 (farith .sub .f32 (fltOf (leafN l 144)) (fltOf (leafN l 155))))]


noncomputable def off_cs81_1 (x : Vars) : List Bool := [(!(isNan .f32 (farith .sub .f32 (x.u 137) (x.u 148))))]

set_option maxRecDepth 100000 in
theorem off_c81_1 (x : Vars) (ho : OkV (kdsP [.val (.ag kd2), .val (.ag kd4), .val (.ag kd3)]) x) (hp : ∀ b ∈ offPre (mkL x 0 (kdsP [.val (.ag kd2), .val (.ag kd4), .val (.ag kd3)])), b = true) (hz : x.i 0 = 1) : ∀ b ∈ off_cs81_1 x, b = true := by
  have a0 : (decide (x.i 0 ≤ 0) || !(isNan .f32 (farith .sub .f32 (x.u 137) (x.u 148)))) = true := hp _ (List.mem_cons_of_mem _ (List.mem_cons_of_mem _ (List.mem_cons_self ..)))
  rw [hz] at a0
  unfold off_cs81_1
  exact (allC (notT (notBT a0)) allN)

theorem off_f81_1 (x : Vars) : (funH Try.prog G17 noLT true 1000 81 (argsP [.val (.ag kd2), .val (.ag kd4), .val (.ag kd3)] 0 (litL (mkL x 0 (kdsP [.val (.ag kd2), .val (.ag kd4), .val (.ag kd3)])) 0 1)) (memP [.val (.ag kd2), .val (.ag kd4), .val (.ag kd3)] (litL (mkL x 0 (kdsP [.val (.ag kd2), .val (.ag kd4), .val (.ag kd3)])) 0 1)) []).map (fun r => (normR r.1, untupR r.1 && r.1.flat, r.2)) = some (off_v1 x, true, off_cs81_1 x) := by kernel_rfl


noncomputable def off_cs81_2 (x : Vars) : List Bool := [(!(isNan .f32 (farith .sub .f32 (x.u 138) (x.u 149)))), (!(isNan .f32 (farith .sub .f32 (x.u 137) (x.u 148))))]

set_option maxRecDepth 100000 in
theorem off_c81_2 (x : Vars) (ho : OkV (kdsP [.val (.ag kd2), .val (.ag kd4), .val (.ag kd3)]) x) (hp : ∀ b ∈ offPre (mkL x 0 (kdsP [.val (.ag kd2), .val (.ag kd4), .val (.ag kd3)])), b = true) (hz : x.i 0 = 2) : ∀ b ∈ off_cs81_2 x, b = true := by
  have a0 : (decide (x.i 0 ≤ 0) || !(isNan .f32 (farith .sub .f32 (x.u 137) (x.u 148)))) = true := hp _ (List.mem_cons_of_mem _ (List.mem_cons_of_mem _ (List.mem_cons_self ..)))
  rw [hz] at a0
  have a1 : (decide (x.i 0 ≤ 1) || !(isNan .f32 (farith .sub .f32 (x.u 138) (x.u 149)))) = true := hp _ (List.mem_cons_of_mem _ (List.mem_cons_of_mem _ (List.mem_cons_of_mem _ (List.mem_cons_self ..))))
  rw [hz] at a1
  unfold off_cs81_2
  exact (allC (notT (notBT a1)) (allC (notT (notBT a0)) allN))

theorem off_f81_2 (x : Vars) : (funH Try.prog G17 noLT true 1000 81 (argsP [.val (.ag kd2), .val (.ag kd4), .val (.ag kd3)] 0 (litL (mkL x 0 (kdsP [.val (.ag kd2), .val (.ag kd4), .val (.ag kd3)])) 0 2)) (memP [.val (.ag kd2), .val (.ag kd4), .val (.ag kd3)] (litL (mkL x 0 (kdsP [.val (.ag kd2), .val (.ag kd4), .val (.ag kd3)])) 0 2)) []).map (fun r => (normR r.1, untupR r.1 && r.1.flat, r.2)) = some (off_v2 x, true, off_cs81_2 x) := by kernel_rfl


noncomputable def off_cs81_3 (x : Vars) : List Bool := [(!(isNan .f32 (farith .sub .f32 (x.u 139) (x.u 150)))), (!(isNan .f32 (farith .sub .f32 (x.u 138) (x.u 149)))), (!(isNan .f32 (farith .sub .f32 (x.u 137) (x.u 148))))]

set_option maxRecDepth 100000 in
theorem off_c81_3 (x : Vars) (ho : OkV (kdsP [.val (.ag kd2), .val (.ag kd4), .val (.ag kd3)]) x) (hp : ∀ b ∈ offPre (mkL x 0 (kdsP [.val (.ag kd2), .val (.ag kd4), .val (.ag kd3)])), b = true) (hz : x.i 0 = 3) : ∀ b ∈ off_cs81_3 x, b = true := by
  have a0 : (decide (x.i 0 ≤ 0) || !(isNan .f32 (farith .sub .f32 (x.u 137) (x.u 148)))) = true := hp _ (List.mem_cons_of_mem _ (List.mem_cons_of_mem _ (List.mem_cons_self ..)))
  rw [hz] at a0
  have a1 : (decide (x.i 0 ≤ 1) || !(isNan .f32 (farith .sub .f32 (x.u 138) (x.u 149)))) = true := hp _ (List.mem_cons_of_mem _ (List.mem_cons_of_mem _ (List.mem_cons_of_mem _ (List.mem_cons_self ..))))
  rw [hz] at a1
  have a2 : (decide (x.i 0 ≤ 2) || !(isNan .f32 (farith .sub .f32 (x.u 139) (x.u 150)))) = true := hp _ (List.mem_cons_of_mem _ (List.mem_cons_of_mem _ (List.mem_cons_of_mem _ (List.mem_cons_of_mem _ (List.mem_cons_self ..)))))
  rw [hz] at a2
  unfold off_cs81_3
  exact (allC (notT (notBT a2)) (allC (notT (notBT a1)) (allC (notT (notBT a0)) allN)))

theorem off_f81_3 (x : Vars) : (funH Try.prog G17 noLT true 1000 81 (argsP [.val (.ag kd2), .val (.ag kd4), .val (.ag kd3)] 0 (litL (mkL x 0 (kdsP [.val (.ag kd2), .val (.ag kd4), .val (.ag kd3)])) 0 3)) (memP [.val (.ag kd2), .val (.ag kd4), .val (.ag kd3)] (litL (mkL x 0 (kdsP [.val (.ag kd2), .val (.ag kd4), .val (.ag kd3)])) 0 3)) []).map (fun r => (normR r.1, untupR r.1 && r.1.flat, r.2)) = some (off_v3 x, true, off_cs81_3 x) := by kernel_rfl


noncomputable def off_cs81_4 (x : Vars) : List Bool := [(!(isNan .f32 (farith .sub .f32 (x.u 140) (x.u 151)))), (!(isNan .f32 (farith .sub .f32 (x.u 139) (x.u 150)))), (!(isNan .f32 (farith .sub .f32 (x.u 138) (x.u 149)))), (!(isNan .f32 (farith .sub .f32 (x.u 137) (x.u 148))))]

set_option maxRecDepth 100000 in
theorem off_c81_4 (x : Vars) (ho : OkV (kdsP [.val (.ag kd2), .val (.ag kd4), .val (.ag kd3)]) x) (hp : ∀ b ∈ offPre (mkL x 0 (kdsP [.val (.ag kd2), .val (.ag kd4), .val (.ag kd3)])), b = true) (hz : x.i 0 = 4) : ∀ b ∈ off_cs81_4 x, b = true := by
  have a0 : (decide (x.i 0 ≤ 0) || !(isNan .f32 (farith .sub .f32 (x.u 137) (x.u 148)))) = true := hp _ (List.mem_cons_of_mem _ (List.mem_cons_of_mem _ (List.mem_cons_self ..)))
  rw [hz] at a0
  have a1 : (decide (x.i 0 ≤ 1) || !(isNan .f32 (farith .sub .f32 (x.u 138) (x.u 149)))) = true := hp _ (List.mem_cons_of_mem _ (List.mem_cons_of_mem _ (List.mem_cons_of_mem _ (List.mem_cons_self ..))))
  rw [hz] at a1
  have a2 : (decide (x.i 0 ≤ 2) || !(isNan .f32 (farith .sub .f32 (x.u 139) (x.u 150)))) = true := hp _ (List.mem_cons_of_mem _ (List.mem_cons_of_mem _ (List.mem_cons_of_mem _ (List.mem_cons_of_mem _ (List.mem_cons_self ..)))))
  rw [hz] at a2
  have a3 : (decide (x.i 0 ≤ 3) || !(isNan .f32 (farith .sub .f32 (x.u 140) (x.u 151)))) = true := hp _ (List.mem_cons_of_mem _ (List.mem_cons_of_mem _ (List.mem_cons_of_mem _ (List.mem_cons_of_mem _ (List.mem_cons_of_mem _ (List.mem_cons_self ..))))))
  rw [hz] at a3
  unfold off_cs81_4
  exact (allC (notT (notBT a3)) (allC (notT (notBT a2)) (allC (notT (notBT a1)) (allC (notT (notBT a0)) allN))))

theorem off_f81_4 (x : Vars) : (funH Try.prog G17 noLT true 1000 81 (argsP [.val (.ag kd2), .val (.ag kd4), .val (.ag kd3)] 0 (litL (mkL x 0 (kdsP [.val (.ag kd2), .val (.ag kd4), .val (.ag kd3)])) 0 4)) (memP [.val (.ag kd2), .val (.ag kd4), .val (.ag kd3)] (litL (mkL x 0 (kdsP [.val (.ag kd2), .val (.ag kd4), .val (.ag kd3)])) 0 4)) []).map (fun r => (normR r.1, untupR r.1 && r.1.flat, r.2)) = some (off_v4 x, true, off_cs81_4 x) := by kernel_rfl


noncomputable def off_cs81_5 (x : Vars) : List Bool := [(!(isNan .f32 (farith .sub .f32 (x.u 141) (x.u 152)))), (!(isNan .f32 (farith .sub .f32 (x.u 140) (x.u 151)))), (!(isNan .f32 (farith .sub .f32 (x.u 139) (x.u 150)))), (!(isNan .f32 (farith .sub .f32 (x.u 138) (x.u 149)))), (!(isNan .f32 (farith .sub .f32 (x.u 137) (x.u 148))))]

set_option maxRecDepth 100000 in
theorem off_c81_5 (x : Vars) (ho : OkV (kdsP [.val (.ag kd2), .val (.ag kd4), .val (.ag kd3)]) x) (hp : ∀ b ∈ offPre (mkL x 0 (kdsP [.val (.ag kd2), .val (.ag kd4), .val (.ag kd3)])), b = true) (hz : x.i 0 = 5) : ∀ b ∈ off_cs81_5 x, b = true := by
  have a0 : (decide (x.i 0 ≤ 0) || !(isNan .f32 (farith .sub .f32 (x.u 137) (x.u 148)))) = true := hp _ (List.mem_cons_of_mem _ (List.mem_cons_of_mem _ (List.mem_cons_self ..)))
  rw [hz] at a0
  have a1 : (decide (x.i 0 ≤ 1) || !(isNan .f32 (farith .sub .f32 (x.u 138) (x.u 149)))) = true := hp _ (List.mem_cons_of_mem _ (List.mem_cons_of_mem _ (List.mem_cons_of_mem _ (List.mem_cons_self ..))))
  rw [hz] at a1
  have a2 : (decide (x.i 0 ≤ 2) || !(isNan .f32 (farith .sub .f32 (x.u 139) (x.u 150)))) = true := hp _ (List.mem_cons_of_mem _ (List.mem_cons_of_mem _ (List.mem_cons_of_mem _ (List.mem_cons_of_mem _ (List.mem_cons_self ..)))))
  rw [hz] at a2
  have a3 : (decide (x.i 0 ≤ 3) || !(isNan .f32 (farith .sub .f32 (x.u 140) (x.u 151)))) = true := hp _ (List.mem_cons_of_mem _ (List.mem_cons_of_mem _ (List.mem_cons_of_mem _ (List.mem_cons_of_mem _ (List.mem_cons_of_mem _ (List.mem_cons_self ..))))))
  rw [hz] at a3
  have a4 : (decide (x.i 0 ≤ 4) || !(isNan .f32 (farith .sub .f32 (x.u 141) (x.u 152)))) = true := hp _ (List.mem_cons_of_mem _ (List.mem_cons_of_mem _ (List.mem_cons_of_mem _ (List.mem_cons_of_mem _ (List.mem_cons_of_mem _ (List.mem_cons_of_mem _ (List.mem_cons_self ..)))))))
  rw [hz] at a4
  unfold off_cs81_5
  exact (allC (notT (notBT a4)) (allC (notT (notBT a3)) (allC (notT (notBT a2)) (allC (notT (notBT a1)) (allC (notT (notBT a0)) allN)))))

theorem off_f81_5 (x : Vars) : (funH Try.prog G17 noLT true 1000 81 (argsP [.val (.ag kd2), .val (.ag kd4), .val (.ag kd3)] 0 (litL (mkL x 0 (kdsP [.val (.ag kd2), .val (.ag kd4), .val (.ag kd3)])) 0 5)) (memP [.val (.ag kd2), .val (.ag kd4), .val (.ag kd3)] (litL (mkL x 0 (kdsP [.val (.ag kd2), .val (.ag kd4), .val (.ag kd3)])) 0 5)) []).map (fun r => (normR r.1, untupR r.1 && r.1.flat, r.2)) = some (off_v5 x, true, off_cs81_5 x) := by kernel_rfl


noncomputable def off_cs81_6 (x : Vars) : List Bool := [(!(isNan .f32 (farith .sub .f32 (x.u 142) (x.u 153)))), (!(isNan .f32 (farith .sub .f32 (x.u 141) (x.u 152)))), (!(isNan .f32 (farith .sub .f32 (x.u 140) (x.u 151)))), (!(isNan .f32 (farith .sub .f32 (x.u 139) (x.u 150)))), (!(isNan .f32 (farith .sub .f32 (x.u 138) (x.u 149)))), (!(isNan .f32 (farith .sub .f32 (x.u 137) (x.u 148))))]

set_option maxRecDepth 100000 in
theorem off_c81_6 (x : Vars) (ho : OkV (kdsP [.val (.ag kd2), .val (.ag kd4), .val (.ag kd3)]) x) (hp : ∀ b ∈ offPre (mkL x 0 (kdsP [.val (.ag kd2), .val (.ag kd4), .val (.ag kd3)])), b = true) (hz : x.i 0 = 6) : ∀ b ∈ off_cs81_6 x, b = true := by
  have a0 : (decide (x.i 0 ≤ 0) || !(isNan .f32 (farith .sub .f32 (x.u 137) (x.u 148)))) = true := hp _ (List.mem_cons_of_mem _ (List.mem_cons_of_mem _ (List.mem_cons_self ..)))
  rw [hz] at a0
  have a1 : (decide (x.i 0 ≤ 1) || !(isNan .f32 (farith .sub .f32 (x.u 138) (x.u 149)))) = true := hp _ (List.mem_cons_of_mem _ (List.mem_cons_of_mem _ (List.mem_cons_of_mem _ (List.mem_cons_self ..))))
  rw [hz] at a1
  have a2 : (decide (x.i 0 ≤ 2) || !(isNan .f32 (farith .sub .f32 (x.u 139) (x.u 150)))) = true := hp _ (List.mem_cons_of_mem _ (List.mem_cons_of_mem _ (List.mem_cons_of_mem _ (List.mem_cons_of_mem _ (List.mem_cons_self ..)))))
  rw [hz] at a2
  have a3 : (decide (x.i 0 ≤ 3) || !(isNan .f32 (farith .sub .f32 (x.u 140) (x.u 151)))) = true := hp _ (List.mem_cons_of_mem _ (List.mem_cons_of_mem _ (List.mem_cons_of_mem _ (List.mem_cons_of_mem _ (List.mem_cons_of_mem _ (List.mem_cons_self ..))))))
  rw [hz] at a3
  have a4 : (decide (x.i 0 ≤ 4) || !(isNan .f32 (farith .sub .f32 (x.u 141) (x.u 152)))) = true := hp _ (List.mem_cons_of_mem _ (List.mem_cons_of_mem _ (List.mem_cons_of_mem _ (List.mem_cons_of_mem _ (List.mem_cons_of_mem _ (List.mem_cons_of_mem _ (List.mem_cons_self ..)))))))
  rw [hz] at a4
  have a5 : (decide (x.i 0 ≤ 5) || !(isNan .f32 (farith .sub .f32 (x.u 142) (x.u 153)))) = true := hp _ (List.mem_cons_of_mem _ (List.mem_cons_of_mem _ (List.mem_cons_of_mem _ (List.mem_cons_of_mem _ (List.mem_cons_of_mem _ (List.mem_cons_of_mem _ (List.mem_cons_of_mem _ (List.mem_cons_self ..))))))))
  rw [hz] at a5
  unfold off_cs81_6
  exact (allC (notT (notBT a5)) (allC (notT (notBT a4)) (allC (notT (notBT a3)) (allC (notT (notBT a2)) (allC (notT (notBT a1)) (allC (notT (notBT a0)) allN))))))

theorem off_f81_6 (x : Vars) : (funH Try.prog G17 noLT true 1000 81 (argsP [.val (.ag kd2), .val (.ag kd4), .val (.ag kd3)] 0 (litL (mkL x 0 (kdsP [.val (.ag kd2), .val (.ag kd4), .val (.ag kd3)])) 0 6)) (memP [.val (.ag kd2), .val (.ag kd4), .val (.ag kd3)] (litL (mkL x 0 (kdsP [.val (.ag kd2), .val (.ag kd4), .val (.ag kd3)])) 0 6)) []).map (fun r => (normR r.1, untupR r.1 && r.1.flat, r.2)) = some (off_v6 x, true, off_cs81_6 x) := by kernel_rfl


noncomputable def off_cs81_7 (x : Vars) : List Bool := [(!(isNan .f32 (farith .sub .f32 (x.u 143) (x.u 154)))), (!(isNan .f32 (farith .sub .f32 (x.u 142) (x.u 153)))), (!(isNan .f32 (farith .sub .f32 (x.u 141) (x.u 152)))), (!(isNan .f32 (farith .sub .f32 (x.u 140) (x.u 151)))), (!(isNan .f32 (farith .sub .f32 (x.u 139) (x.u 150)))), (!(isNan .f32 (farith .sub .f32 (x.u 138) (x.u 149)))), (!(isNan .f32 (farith .sub .f32 (x.u 137) (x.u 148))))]

set_option maxRecDepth 100000 in
theorem off_c81_7 (x : Vars) (ho : OkV (kdsP [.val (.ag kd2), .val (.ag kd4), .val (.ag kd3)]) x) (hp : ∀ b ∈ offPre (mkL x 0 (kdsP [.val (.ag kd2), .val (.ag kd4), .val (.ag kd3)])), b = true) (hz : x.i 0 = 7) : ∀ b ∈ off_cs81_7 x, b = true := by
  have a0 : (decide (x.i 0 ≤ 0) || !(isNan .f32 (farith .sub .f32 (x.u 137) (x.u 148)))) = true := hp _ (List.mem_cons_of_mem _ (List.mem_cons_of_mem _ (List.mem_cons_self ..)))
  rw [hz] at a0
  have a1 : (decide (x.i 0 ≤ 1) || !(isNan .f32 (farith .sub .f32 (x.u 138) (x.u 149)))) = true := hp _ (List.mem_cons_of_mem _ (List.mem_cons_of_mem _ (List.mem_cons_of_mem _ (List.mem_cons_self ..))))
  rw [hz] at a1
  have a2 : (decide (x.i 0 ≤ 2) || !(isNan .f32 (farith .sub .f32 (x.u 139) (x.u 150)))) = true := hp _ (List.mem_cons_of_mem _ (List.mem_cons_of_mem _ (List.mem_cons_of_mem _ (List.mem_cons_of_mem _ (List.mem_cons_self ..)))))
  rw [hz] at a2
  have a3 : (decide (x.i 0 ≤ 3) || !(isNan .f32 (farith .sub .f32 (x.u 140) (x.u 151)))) = true := hp _ (List.mem_cons_of_mem _ (List.mem_cons_of_mem _ (List.mem_cons_of_mem _ (List.mem_cons_of_mem _ (List.mem_cons_of_mem _ (List.mem_cons_self ..))))))
  rw [hz] at a3
  have a4 : (decide (x.i 0 ≤ 4) || !(isNan .f32 (farith .sub .f32 (x.u 141) (x.u 152)))) = true := hp _ (List.mem_cons_of_mem _ (List.mem_cons_of_mem _ (List.mem_cons_of_mem _ (List.mem_cons_of_mem _ (List.mem_cons_of_mem _ (List.mem_cons_of_mem _ (List.mem_cons_self ..)))))))
  rw [hz] at a4
  have a5 : (decide (x.i 0 ≤ 5) || !(isNan .f32 (farith .sub .f32 (x.u 142) (x.u 153)))) = true := hp _ (List.mem_cons_of_mem _ (List.mem_cons_of_mem _ (List.mem_cons_of_mem _ (List.mem_cons_of_mem _ (List.mem_cons_of_mem _ (List.mem_cons_of_mem _ (List.mem_cons_of_mem _ (List.mem_cons_self ..))))))))
  rw [hz] at a5
  have a6 : (decide (x.i 0 ≤ 6) || !(isNan .f32 (farith .sub .f32 (x.u 143) (x.u 154)))) = true := hp _ (List.mem_cons_of_mem _ (List.mem_cons_of_mem _ (List.mem_cons_of_mem _ (List.mem_cons_of_mem _ (List.mem_cons_of_mem _ (List.mem_cons_of_mem _ (List.mem_cons_of_mem _ (List.mem_cons_of_mem _ (List.mem_cons_self ..)))))))))
  rw [hz] at a6
  unfold off_cs81_7
  exact (allC (notT (notBT a6)) (allC (notT (notBT a5)) (allC (notT (notBT a4)) (allC (notT (notBT a3)) (allC (notT (notBT a2)) (allC (notT (notBT a1)) (allC (notT (notBT a0)) allN)))))))

theorem off_f81_7 (x : Vars) : (funH Try.prog G17 noLT true 1000 81 (argsP [.val (.ag kd2), .val (.ag kd4), .val (.ag kd3)] 0 (litL (mkL x 0 (kdsP [.val (.ag kd2), .val (.ag kd4), .val (.ag kd3)])) 0 7)) (memP [.val (.ag kd2), .val (.ag kd4), .val (.ag kd3)] (litL (mkL x 0 (kdsP [.val (.ag kd2), .val (.ag kd4), .val (.ag kd3)])) 0 7)) []).map (fun r => (normR r.1, untupR r.1 && r.1.flat, r.2)) = some (off_v7 x, true, off_cs81_7 x) := by kernel_rfl


noncomputable def off_cs81_8 (x : Vars) : List Bool := [(!(isNan .f32 (farith .sub .f32 (x.u 144) (x.u 155)))), (!(isNan .f32 (farith .sub .f32 (x.u 143) (x.u 154)))), (!(isNan .f32 (farith .sub .f32 (x.u 142) (x.u 153)))), (!(isNan .f32 (farith .sub .f32 (x.u 141) (x.u 152)))), (!(isNan .f32 (farith .sub .f32 (x.u 140) (x.u 151)))), (!(isNan .f32 (farith .sub .f32 (x.u 139) (x.u 150)))), (!(isNan .f32 (farith .sub .f32 (x.u 138) (x.u 149)))), (!(isNan .f32 (farith .sub .f32 (x.u 137) (x.u 148))))]

set_option maxRecDepth 100000 in
theorem off_c81_8 (x : Vars) (ho : OkV (kdsP [.val (.ag kd2), .val (.ag kd4), .val (.ag kd3)]) x) (hp : ∀ b ∈ offPre (mkL x 0 (kdsP [.val (.ag kd2), .val (.ag kd4), .val (.ag kd3)])), b = true) (hz : x.i 0 = 8) : ∀ b ∈ off_cs81_8 x, b = true := by
  have a0 : (decide (x.i 0 ≤ 0) || !(isNan .f32 (farith .sub .f32 (x.u 137) (x.u 148)))) = true := hp _ (List.mem_cons_of_mem _ (List.mem_cons_of_mem _ (List.mem_cons_self ..)))
  rw [hz] at a0
  have a1 : (decide (x.i 0 ≤ 1) || !(isNan .f32 (farith .sub .f32 (x.u 138) (x.u 149)))) = true := hp _ (List.mem_cons_of_mem _ (List.mem_cons_of_mem _ (List.mem_cons_of_mem _ (List.mem_cons_self ..))))
  rw [hz] at a1
  have a2 : (decide (x.i 0 ≤ 2) || !(isNan .f32 (farith .sub .f32 (x.u 139) (x.u 150)))) = true := hp _ (List.mem_cons_of_mem _ (List.mem_cons_of_mem _ (List.mem_cons_of_mem _ (List.mem_cons_of_mem _ (List.mem_cons_self ..)))))
  rw [hz] at a2
  have a3 : (decide (x.i 0 ≤ 3) || !(isNan .f32 (farith .sub .f32 (x.u 140) (x.u 151)))) = true := hp _ (List.mem_cons_of_mem _ (List.mem_cons_of_mem _ (List.mem_cons_of_mem _ (List.mem_cons_of_mem _ (List.mem_cons_of_mem _ (List.mem_cons_self ..))))))
  rw [hz] at a3
  have a4 : (decide (x.i 0 ≤ 4) || !(isNan .f32 (farith .sub .f32 (x.u 141) (x.u 152)))) = true := hp _ (List.mem_cons_of_mem _ (List.mem_cons_of_mem _ (List.mem_cons_of_mem _ (List.mem_cons_of_mem _ (List.mem_cons_of_mem _ (List.mem_cons_of_mem _ (List.mem_cons_self ..)))))))
  rw [hz] at a4
  have a5 : (decide (x.i 0 ≤ 5) || !(isNan .f32 (farith .sub .f32 (x.u 142) (x.u 153)))) = true := hp _ (List.mem_cons_of_mem _ (List.mem_cons_of_mem _ (List.mem_cons_of_mem _ (List.mem_cons_of_mem _ (List.mem_cons_of_mem _ (List.mem_cons_of_mem _ (List.mem_cons_of_mem _ (List.mem_cons_self ..))))))))
  rw [hz] at a5
  have a6 : (decide (x.i 0 ≤ 6) || !(isNan .f32 (farith .sub .f32 (x.u 143) (x.u 154)))) = true := hp _ (List.mem_cons_of_mem _ (List.mem_cons_of_mem _ (List.mem_cons_of_mem _ (List.mem_cons_of_mem _ (List.mem_cons_of_mem _ (List.mem_cons_of_mem _ (List.mem_cons_of_mem _ (List.mem_cons_of_mem _ (List.mem_cons_self ..)))))))))
  rw [hz] at a6
  have a7 : (decide (x.i 0 ≤ 7) || !(isNan .f32 (farith .sub .f32 (x.u 144) (x.u 155)))) = true := hp _ (List.mem_cons_of_mem _ (List.mem_cons_of_mem _ (List.mem_cons_of_mem _ (List.mem_cons_of_mem _ (List.mem_cons_of_mem _ (List.mem_cons_of_mem _ (List.mem_cons_of_mem _ (List.mem_cons_of_mem _ (List.mem_cons_of_mem _ (List.mem_cons_self ..))))))))))
  rw [hz] at a7
  unfold off_cs81_8
  exact (allC (notT (notBT a7)) (allC (notT (notBT a6)) (allC (notT (notBT a5)) (allC (notT (notBT a4)) (allC (notT (notBT a3)) (allC (notT (notBT a2)) (allC (notT (notBT a1)) (allC (notT (notBT a0)) allN))))))))

theorem off_f81_8 (x : Vars) : (funH Try.prog G17 noLT true 1000 81 (argsP [.val (.ag kd2), .val (.ag kd4), .val (.ag kd3)] 0 (litL (mkL x 0 (kdsP [.val (.ag kd2), .val (.ag kd4), .val (.ag kd3)])) 0 8)) (memP [.val (.ag kd2), .val (.ag kd4), .val (.ag kd3)] (litL (mkL x 0 (kdsP [.val (.ag kd2), .val (.ag kd4), .val (.ag kd3)])) 0 8)) []).map (fun r => (normR r.1, untupR r.1 && r.1.flat, r.2)) = some (off_v8 x, true, off_cs81_8 x) := by kernel_rfl

theorem off_ev81 (x : Vars) (ho : OkV (kdsP [.val (.ag kd2), .val (.ag kd4), .val (.ag kd3)]) x) (hp : ∀ b ∈ offPre (mkL x 0 (kdsP [.val (.ag kd2), .val (.ag kd4), .val (.ag kd3)])), b = true) : EvP Try.prog G17 81 [.val (.ag kd2), .val (.ag kd4), .val (.ag kd3)] [.ag kd3, .sc (.flt .f32)] (mkL x 0 (kdsP [.val (.ag kd2), .val (.ag kd4), .val (.ag kd3)])) (offR0 (mkL x 0 (kdsP [.val (.ag kd2), .val (.ag kd4), .val (.ag kd3)]))) := by
  have a0 : decide (1 ≤ x.i 0) = true := hp _ (List.mem_cons_self ..)
  have a1 : decide (x.i 0 ≤ 8) = true := hp _ (List.mem_cons_of_mem _ (List.mem_cons_self ..))
  have hr : 1 ≤ x.i 0 ∧ x.i 0 ≤ 8 := ⟨of_decide_eq_true a0, of_decide_eq_true a1⟩
  have c0 : x.i 0 = 1 ∨ x.i 0 = 2 ∨ x.i 0 = 3 ∨ x.i 0 = 4 ∨ x.i 0 = 5 ∨ x.i 0 = 6 ∨ x.i 0 = 7 ∨ x.i 0 = 8 := by omega
  rcases c0 with hz | hz | hz | hz | hz | hz | hz | hz
  · have e : offR0 (mkL x 0 (kdsP [.val (.ag kd2), .val (.ag kd4), .val (.ag kd3)])) = offZ1 (mkL x 0 (kdsP [.val (.ag kd2), .val (.ag kd4), .val (.ag kd3)])) := by
      unfold offR0
      have hz : intOf (leafN (mkL x 0 (kdsP [.val (.ag kd2), .val (.ag kd4), .val (.ag kd3)])) 0) = 1 := hz
      rw [hz]
      rfl
    rw [e]
    exact EvP.ofH (H := noLT) (J := true) (HFun.none Try.prog _ 81) (litL_mk hz) (by rw [off_x1]; exact off_f81_1 x) (off_c81_1 x ho hp hz)
  · have e : offR0 (mkL x 0 (kdsP [.val (.ag kd2), .val (.ag kd4), .val (.ag kd3)])) = offZ2 (mkL x 0 (kdsP [.val (.ag kd2), .val (.ag kd4), .val (.ag kd3)])) := by
      unfold offR0
      have hz : intOf (leafN (mkL x 0 (kdsP [.val (.ag kd2), .val (.ag kd4), .val (.ag kd3)])) 0) = 2 := hz
      rw [hz]
      rfl
    rw [e]
    exact EvP.ofH (H := noLT) (J := true) (HFun.none Try.prog _ 81) (litL_mk hz) (by rw [off_x2]; exact off_f81_2 x) (off_c81_2 x ho hp hz)
  · have e : offR0 (mkL x 0 (kdsP [.val (.ag kd2), .val (.ag kd4), .val (.ag kd3)])) = offZ3 (mkL x 0 (kdsP [.val (.ag kd2), .val (.ag kd4), .val (.ag kd3)])) := by
      unfold offR0
      have hz : intOf (leafN (mkL x 0 (kdsP [.val (.ag kd2), .val (.ag kd4), .val (.ag kd3)])) 0) = 3 := hz
      rw [hz]
      rfl
    rw [e]
    exact EvP.ofH (H := noLT) (J := true) (HFun.none Try.prog _ 81) (litL_mk hz) (by rw [off_x3]; exact off_f81_3 x) (off_c81_3 x ho hp hz)
  · have e : offR0 (mkL x 0 (kdsP [.val (.ag kd2), .val (.ag kd4), .val (.ag kd3)])) = offZ4 (mkL x 0 (kdsP [.val (.ag kd2), .val (.ag kd4), .val (.ag kd3)])) := by
      unfold offR0
      have hz : intOf (leafN (mkL x 0 (kdsP [.val (.ag kd2), .val (.ag kd4), .val (.ag kd3)])) 0) = 4 := hz
      rw [hz]
      rfl
    rw [e]
    exact EvP.ofH (H := noLT) (J := true) (HFun.none Try.prog _ 81) (litL_mk hz) (by rw [off_x4]; exact off_f81_4 x) (off_c81_4 x ho hp hz)
  · have e : offR0 (mkL x 0 (kdsP [.val (.ag kd2), .val (.ag kd4), .val (.ag kd3)])) = offZ5 (mkL x 0 (kdsP [.val (.ag kd2), .val (.ag kd4), .val (.ag kd3)])) := by
      unfold offR0
      have hz : intOf (leafN (mkL x 0 (kdsP [.val (.ag kd2), .val (.ag kd4), .val (.ag kd3)])) 0) = 5 := hz
      rw [hz]
      rfl
    rw [e]
    exact EvP.ofH (H := noLT) (J := true) (HFun.none Try.prog _ 81) (litL_mk hz) (by rw [off_x5]; exact off_f81_5 x) (off_c81_5 x ho hp hz)
  · have e : offR0 (mkL x 0 (kdsP [.val (.ag kd2), .val (.ag kd4), .val (.ag kd3)])) = offZ6 (mkL x 0 (kdsP [.val (.ag kd2), .val (.ag kd4), .val (.ag kd3)])) := by
      unfold offR0
      have hz : intOf (leafN (mkL x 0 (kdsP [.val (.ag kd2), .val (.ag kd4), .val (.ag kd3)])) 0) = 6 := hz
      rw [hz]
      rfl
    rw [e]
    exact EvP.ofH (H := noLT) (J := true) (HFun.none Try.prog _ 81) (litL_mk hz) (by rw [off_x6]; exact off_f81_6 x) (off_c81_6 x ho hp hz)
  · have e : offR0 (mkL x 0 (kdsP [.val (.ag kd2), .val (.ag kd4), .val (.ag kd3)])) = offZ7 (mkL x 0 (kdsP [.val (.ag kd2), .val (.ag kd4), .val (.ag kd3)])) := by
      unfold offR0
      have hz : intOf (leafN (mkL x 0 (kdsP [.val (.ag kd2), .val (.ag kd4), .val (.ag kd3)])) 0) = 7 := hz
      rw [hz]
      rfl
    rw [e]
    exact EvP.ofH (H := noLT) (J := true) (HFun.none Try.prog _ 81) (litL_mk hz) (by rw [off_x7]; exact off_f81_7 x) (off_c81_7 x ho hp hz)
  · have e : offR0 (mkL x 0 (kdsP [.val (.ag kd2), .val (.ag kd4), .val (.ag kd3)])) = offZ8 (mkL x 0 (kdsP [.val (.ag kd2), .val (.ag kd4), .val (.ag kd3)])) := by
      unfold offR0
      have hz : intOf (leafN (mkL x 0 (kdsP [.val (.ag kd2), .val (.ag kd4), .val (.ag kd3)])) 0) = 8 := hz
      rw [hz]
      rfl
    rw [e]
    exact EvP.ofH (H := noLT) (J := true) (HFun.none Try.prog _ 81) (litL_mk hz) (by rw [off_x8]; exact off_f81_8 x) (off_c81_8 x ho hp hz)

noncomputable def off_w84_1 (x : Vars) : AV := .tup [.agg [.flt .f32 ((farith .sub .f32 (x.u 137) (x.u 148))), .flt .f32 (0), .flt .f32 (0), .flt .f32 (0), .flt .f32 (0), .flt .f32 (0), .flt .f32 (0), .flt .f32 (0)], .flt .f32 ((off_r0 x))]

theorem off_g84_1 (x : Vars) : (funH Try.prog G17 noLT true 1000 84 (argsP [.ptr kd2, .ptr kd4, .ptr kd3] 0 (litL (mkL x 0 (kdsP [.val (.ag kd2), .val (.ag kd4), .val (.ag kd3)])) 0 1)) (memP [.ptr kd2, .ptr kd4, .ptr kd3] (litL (mkL x 0 (kdsP [.val (.ag kd2), .val (.ag kd4), .val (.ag kd3)])) 0 1)) []).map (fun r => (normR r.1, untupR r.1 && r.1.flat, r.2)) = some (off_w84_1 x, true, []) := by kernel_rfl

set_option maxRecDepth 100000 in
theorem off_q84_1 (x : Vars) (ho : OkV (kdsP [.val (.ag kd2), .val (.ag kd4), .val (.ag kd3)]) x) (hp : ∀ b ∈ offPre (mkL x 0 (kdsP [.val (.ag kd2), .val (.ag kd4), .val (.ag kd3)])), b = true) (hz : x.i 0 = 1) : off_w84_1 x = off_v1 x := by
  have a0 : (decide (x.i 0 ≤ 0) || !(isNan .f32 (farith .sub .f32 (x.u 137) (x.u 148)))) = true := hp _ (List.mem_cons_of_mem _ (List.mem_cons_of_mem _ (List.mem_cons_self ..)))
  rw [hz] at a0
  have e := (off_b0 x (notBT a0)).1
  have h1 : off_w84_1 x = .tup [.agg [.flt .f32 ((farith .sub .f32 (x.u 137) (x.u 148))), .flt .f32 (0), .flt .f32 (0), .flt .f32 (0), .flt .f32 (0), .flt .f32 (0), .flt .f32 (0), .flt .f32 (0)], .flt .f32 (off_r0 x)] := by kernel_rfl
  have h2 : off_v1 x = .tup [.agg [.flt .f32 ((farith .sub .f32 (x.u 137) (x.u 148))), .flt .f32 (0), .flt .f32 (0), .flt .f32 (0), .flt .f32 (0), .flt .f32 (0), .flt .f32 (0), .flt .f32 (0)], .flt .f32 (off_m0 x)] := by kernel_rfl
  rw [h1, h2, e]

theorem off_f84_1 (x : Vars) (ho : OkV (kdsP [.val (.ag kd2), .val (.ag kd4), .val (.ag kd3)]) x) (hp : ∀ b ∈ offPre (mkL x 0 (kdsP [.val (.ag kd2), .val (.ag kd4), .val (.ag kd3)])), b = true) (hz : x.i 0 = 1) : (funH Try.prog G17 noLT true 1000 84 (argsP [.ptr kd2, .ptr kd4, .ptr kd3] 0 (litL (mkL x 0 (kdsP [.val (.ag kd2), .val (.ag kd4), .val (.ag kd3)])) 0 1)) (memP [.ptr kd2, .ptr kd4, .ptr kd3] (litL (mkL x 0 (kdsP [.val (.ag kd2), .val (.ag kd4), .val (.ag kd3)])) 0 1)) []).map (fun r => (normR r.1, untupR r.1 && r.1.flat, r.2)) = some (off_v1 x, true, []) := by
  rw [off_g84_1, off_q84_1 x ho hp hz]

noncomputable def off_w84_2 (x : Vars) : AV := .tup [.agg [.flt .f32 ((farith .sub .f32 (x.u 137) (x.u 148))), .flt .f32 ((farith .sub .f32 (x.u 138) (x.u 149))), .flt .f32 (0), .flt .f32 (0), .flt .f32 (0), .flt .f32 (0), .flt .f32 (0), .flt .f32 (0)], .flt .f32 ((off_r1 x))]

theorem off_g84_2 (x : Vars) : (funH Try.prog G17 noLT true 1000 84 (argsP [.ptr kd2, .ptr kd4, .ptr kd3] 0 (litL (mkL x 0 (kdsP [.val (.ag kd2), .val (.ag kd4), .val (.ag kd3)])) 0 2)) (memP [.ptr kd2, .ptr kd4, .ptr kd3] (litL (mkL x 0 (kdsP [.val (.ag kd2), .val (.ag kd4), .val (.ag kd3)])) 0 2)) []).map (fun r => (normR r.1, untupR r.1 && r.1.flat, r.2)) = some (off_w84_2 x, true, []) := by kernel_rfl

set_option maxRecDepth 100000 in
theorem off_q84_2 (x : Vars) (ho : OkV (kdsP [.val (.ag kd2), .val (.ag kd4), .val (.ag kd3)]) x) (hp : ∀ b ∈ offPre (mkL x 0 (kdsP [.val (.ag kd2), .val (.ag kd4), .val (.ag kd3)])), b = true) (hz : x.i 0 = 2) : off_w84_2 x = off_v2 x := by
  have a0 : (decide (x.i 0 ≤ 0) || !(isNan .f32 (farith .sub .f32 (x.u 137) (x.u 148)))) = true := hp _ (List.mem_cons_of_mem _ (List.mem_cons_of_mem _ (List.mem_cons_self ..)))
  rw [hz] at a0
  have a1 : (decide (x.i 0 ≤ 1) || !(isNan .f32 (farith .sub .f32 (x.u 138) (x.u 149)))) = true := hp _ (List.mem_cons_of_mem _ (List.mem_cons_of_mem _ (List.mem_cons_of_mem _ (List.mem_cons_self ..))))
  rw [hz] at a1
  have e := (off_b1 x (notBT a0) (notBT a1)).1
  have h1 : off_w84_2 x = .tup [.agg [.flt .f32 ((farith .sub .f32 (x.u 137) (x.u 148))), .flt .f32 ((farith .sub .f32 (x.u 138) (x.u 149))), .flt .f32 (0), .flt .f32 (0), .flt .f32 (0), .flt .f32 (0), .flt .f32 (0), .flt .f32 (0)], .flt .f32 (off_r1 x)] := by kernel_rfl
  have h2 : off_v2 x = .tup [.agg [.flt .f32 ((farith .sub .f32 (x.u 137) (x.u 148))), .flt .f32 ((farith .sub .f32 (x.u 138) (x.u 149))), .flt .f32 (0), .flt .f32 (0), .flt .f32 (0), .flt .f32 (0), .flt .f32 (0), .flt .f32 (0)], .flt .f32 (off_m1 x)] := by kernel_rfl
  rw [h1, h2, e]

theorem off_f84_2 (x : Vars) (ho : OkV (kdsP [.val (.ag kd2), .val (.ag kd4), .val (.ag kd3)]) x) (hp : ∀ b ∈ offPre (mkL x 0 (kdsP [.val (.ag kd2), .val (.ag kd4), .val (.ag kd3)])), b = true) (hz : x.i 0 = 2) : (funH Try.prog G17 noLT true 1000 84 (argsP [.ptr kd2, .ptr kd4, .ptr kd3] 0 (litL (mkL x 0 (kdsP [.val (.ag kd2), .val (.ag kd4), .val (.ag kd3)])) 0 2)) (memP [.ptr kd2, .ptr kd4, .ptr kd3] (litL (mkL x 0 (kdsP [.val (.ag kd2), .val (.ag kd4), .val (.ag kd3)])) 0 2)) []).map (fun r => (normR r.1, untupR r.1 && r.1.flat, r.2)) = some (off_v2 x, true, []) := by
  rw [off_g84_2, off_q84_2 x ho hp hz]

noncomputable def off_w84_3 (x : Vars) : AV := .tup [.agg [.flt .f32 ((farith .sub .f32 (x.u 137) (x.u 148))), .flt .f32 ((farith .sub .f32 (x.u 138) (x.u 149))), .flt .f32 ((farith .sub .f32 (x.u 139) (x.u 150))), .flt .f32 (0), .flt .f32 (0), .flt .f32 (0), .flt .f32 (0), .flt .f32 (0)], .flt .f32 ((off_r2 x))]

theorem off_g84_3 (x : Vars) : (funH Try.prog G17 noLT true 1000 84 (argsP [.ptr kd2, .ptr kd4, .ptr kd3] 0 (litL (mkL x 0 (kdsP [.val (.ag kd2), .val (.ag kd4), .val (.ag kd3)])) 0 3)) (memP [.ptr kd2, .ptr kd4, .ptr kd3] (litL (mkL x 0 (kdsP [.val (.ag kd2), .val (.ag kd4), .val (.ag kd3)])) 0 3)) []).map (fun r => (normR r.1, untupR r.1 && r.1.flat, r.2)) = some (off_w84_3 x, true, []) := by kernel_rfl

set_option maxRecDepth 100000 in
theorem off_q84_3 (x : Vars) (ho : OkV (kdsP [.val (.ag kd2), .val (.ag kd4), .val (.ag kd3)]) x) (hp : ∀ b ∈ offPre (mkL x 0 (kdsP [.val (.ag kd2), .val (.ag kd4), .val (.ag kd3)])), b = true) (hz : x.i 0 = 3) : off_w84_3 x = off_v3 x := by
  have a0 : (decide (x.i 0 ≤ 0) || !(isNan .f32 (farith .sub .f32 (x.u 137) (x.u 148)))) = true := hp _ (List.mem_cons_of_mem _ (List.mem_cons_of_mem _ (List.mem_cons_self ..)))
  rw [hz] at a0
  have a1 : (decide (x.i 0 ≤ 1) || !(isNan .f32 (farith .sub .f32 (x.u 138) (x.u 149)))) = true := hp _ (List.mem_cons_of_mem _ (List.mem_cons_of_mem _ (List.mem_cons_of_mem _ (List.mem_cons_self ..))))
  rw [hz] at a1
  have a2 : (decide (x.i 0 ≤ 2) || !(isNan .f32 (farith .sub .f32 (x.u 139) (x.u 150)))) = true := hp _ (List.mem_cons_of_mem _ (List.mem_cons_of_mem _ (List.mem_cons_of_mem _ (List.mem_cons_of_mem _ (List.mem_cons_self ..)))))
  rw [hz] at a2
  have e := (off_b2 x (notBT a0) (notBT a1) (notBT a2)).1
  have h1 : off_w84_3 x = .tup [.agg [.flt .f32 ((farith .sub .f32 (x.u 137) (x.u 148))), .flt .f32 ((farith .sub .f32 (x.u 138) (x.u 149))), .flt .f32 ((farith .sub .f32 (x.u 139) (x.u 150))), .flt .f32 (0), .flt .f32 (0), .flt .f32 (0), .flt .f32 (0), .flt .f32 (0)], .flt .f32 (off_r2 x)] := by kernel_rfl
  have h2 : off_v3 x = .tup [.agg [.flt .f32 ((farith .sub .f32 (x.u 137) (x.u 148))), .flt .f32 ((farith .sub .f32 (x.u 138) (x.u 149))), .flt .f32 ((farith .sub .f32 (x.u 139) (x.u 150))), .flt .f32 (0), .flt .f32 (0), .flt .f32 (0), .flt .f32 (0), .flt .f32 (0)], .flt .f32 (off_m2 x)] := by kernel_rfl
  rw [h1, h2, e]

theorem off_f84_3 (x : Vars) (ho : OkV (kdsP [.val (.ag kd2), .val (.ag kd4), .val (.ag kd3)]) x) (hp : ∀ b ∈ offPre (mkL x 0 (kdsP [.val (.ag kd2), .val (.ag kd4), .val (.ag kd3)])), b = true) (hz : x.i 0 = 3) : (funH Try.prog G17 noLT true 1000 84 (argsP [.ptr kd2, .ptr kd4, .ptr kd3] 0 (litL (mkL x 0 (kdsP [.val (.ag kd2), .val (.ag kd4), .val (.ag kd3)])) 0 3)) (memP [.ptr kd2, .ptr kd4, .ptr kd3] (litL (mkL x 0 (kdsP [.val (.ag kd2), .val (.ag kd4), .val (.ag kd3)])) 0 3)) []).map (fun r => (normR r.1, untupR r.1 && r.1.flat, r.2)) = some (off_v3 x, true, []) := by
  rw [off_g84_3, off_q84_3 x ho hp hz]

noncomputable def off_w84_4 (x : Vars) : AV := .tup [.agg [.flt .f32 ((farith .sub .f32 (x.u 137) (x.u 148))), .flt .f32 ((farith .sub .f32 (x.u 138) (x.u 149))), .flt .f32 ((farith .sub .f32 (x.u 139) (x.u 150))), .flt .f32 ((farith .sub .f32 (x.u 140) (x.u 151))), .flt .f32 (0), .flt .f32 (0), .flt .f32 (0), .flt .f32 (0)], .flt .f32 ((off_r3 x))]

theorem off_g84_4 (x : Vars) : (funH Try.prog G17 noLT true 1000 84 (argsP [.ptr kd2, .ptr kd4, .ptr kd3] 0 (litL (mkL x 0 (kdsP [.val (.ag kd2), .val (.ag kd4), .val (.ag kd3)])) 0 4)) (memP [.ptr kd2, .ptr kd4, .ptr kd3] (litL (mkL x 0 (kdsP [.val (.ag kd2), .val (.ag kd4), .val (.ag kd3)])) 0 4)) []).map (fun r => (normR r.1, untupR r.1 && r.1.flat, r.2)) = some (off_w84_4 x, true, []) := by kernel_rfl

set_option maxRecDepth 100000 in
theorem off_q84_4 (x : Vars) (ho : OkV (kdsP [.val (.ag kd2), .val (.ag kd4), .val (.ag kd3)]) x) (hp : ∀ b ∈ offPre (mkL x 0 (kdsP [.val (.ag kd2), .val (.ag kd4), .val (.ag kd3)])), b = true) (hz : x.i 0 = 4) : off_w84_4 x = off_v4 x := by
  have a0 : (decide (x.i 0 ≤ 0) || !(isNan .f32 (farith .sub .f32 (x.u 137) (x.u 148)))) = true := hp _ (List.mem_cons_of_mem _ (List.mem_cons_of_mem _ (List.mem_cons_self ..)))
  rw [hz] at a0
  have a1 : (decide (x.i 0 ≤ 1) || !(isNan .f32 (farith .sub .f32 (x.u 138) (x.u 149)))) = true := hp _ (List.mem_cons_of_mem _ (List.mem_cons_of_mem _ (List.mem_cons_of_mem _ (List.mem_cons_self ..))))
  rw [hz] at a1
  have a2 : (decide (x.i 0 ≤ 2) || !(isNan .f32 (farith .sub .f32 (x.u 139) (x.u 150)))) = true := hp _ (List.mem_cons_of_mem _ (List.mem_cons_of_mem _ (List.mem_cons_of_mem _ (List.mem_cons_of_mem _ (List.mem_cons_self ..)))))
  rw [hz] at a2
  have a3 : (decide (x.i 0 ≤ 3) || !(isNan .f32 (farith .sub .f32 (x.u 140) (x.u 151)))) = true := hp _ (List.mem_cons_of_mem _ (List.mem_cons_of_mem _ (List.mem_cons_of_mem _ (List.mem_cons_of_mem _ (List.mem_cons_of_mem _ (List.mem_cons_self ..))))))
  rw [hz] at a3
  have e := (off_b3 x (notBT a0) (notBT a1) (notBT a2) (notBT a3)).1
  have h1 : off_w84_4 x = .tup [.agg [.flt .f32 ((farith .sub .f32 (x.u 137) (x.u 148))), .flt .f32 ((farith .sub .f32 (x.u 138) (x.u 149))), .flt .f32 ((farith .sub .f32 (x.u 139) (x.u 150))), .flt .f32 ((farith .sub .f32 (x.u 140) (x.u 151))), .flt .f32 (0), .flt .f32 (0), .flt .f32 (0), .flt .f32 (0)], .flt .f32 (off_r3 x)] := by kernel_rfl
  have h2 : off_v4 x = .tup [.agg [.flt .f32 ((farith .sub .f32 (x.u 137) (x.u 148))), .flt .f32 ((farith .sub .f32 (x.u 138) (x.u 149))), .flt .f32 ((farith .sub .f32 (x.u 139) (x.u 150))), .flt .f32 ((farith .sub .f32 (x.u 140) (x.u 151))), .flt .f32 (0), .flt .f32 (0), .flt .f32 (0), .flt .f32 (0)], .flt .f32 (off_m3 x)] := by kernel_rfl
  rw [h1, h2, e]

theorem off_f84_4 (x : Vars) (ho : OkV (kdsP [.val (.ag kd2), .val (.ag kd4), .val (.ag kd3)]) x) (hp : ∀ b ∈ offPre (mkL x 0 (kdsP [.val (.ag kd2), .val (.ag kd4), .val (.ag kd3)])), b = true) (hz : x.i 0 = 4) : (funH Try.prog G17 noLT true 1000 84 (argsP [.ptr kd2, .ptr kd4, .ptr kd3] 0 (litL (mkL x 0 (kdsP [.val (.ag kd2), .val (.ag kd4), .val (.ag kd3)])) 0 4)) (memP [.ptr kd2, .ptr kd4, .ptr kd3] (litL (mkL x 0 (kdsP [.val (.ag kd2), .val (.ag kd4), .val (.ag kd3)])) 0 4)) []).map (fun r => (normR r.1, untupR r.1 && r.1.flat, r.2)) = some (off_v4 x, true, []) := by
  rw [off_g84_4, off_q84_4 x ho hp hz]

noncomputable def off_w84_5 (x : Vars) : AV := .tup [.agg [.flt .f32 ((farith .sub .f32 (x.u 137) (x.u 148))), .flt .f32 ((farith .sub .f32 (x.u 138) (x.u 149))), .flt .f32 ((farith .sub .f32 (x.u 139) (x.u 150))), .flt .f32 ((farith .sub .f32 (x.u 140) (x.u 151))), .flt .f32 ((farith .sub .f32 (x.u 141) (x.u 152))), .flt .f32 (0), .flt .f32 (0), .flt .f32 (0)], .flt .f32 ((off_r4 x))]

theorem off_g84_5 (x : Vars) : (funH Try.prog G17 noLT true 1000 84 (argsP [.ptr kd2, .ptr kd4, .ptr kd3] 0 (litL (mkL x 0 (kdsP [.val (.ag kd2), .val (.ag kd4), .val (.ag kd3)])) 0 5)) (memP [.ptr kd2, .ptr kd4, .ptr kd3] (litL (mkL x 0 (kdsP [.val (.ag kd2), .val (.ag kd4), .val (.ag kd3)])) 0 5)) []).map (fun r => (normR r.1, untupR r.1 && r.1.flat, r.2)) = some (off_w84_5 x, true, []) := by kernel_rfl

set_option maxRecDepth 100000 in
theorem off_q84_5 (x : Vars) (ho : OkV (kdsP [.val (.ag kd2), .val (.ag kd4), .val (.ag kd3)]) x) (hp : ∀ b ∈ offPre (mkL x 0 (kdsP [.val (.ag kd2), .val (.ag kd4), .val (.ag kd3)])), b = true) (hz : x.i 0 = 5) : off_w84_5 x = off_v5 x := by
  have a0 : (decide (x.i 0 ≤ 0) || !(isNan .f32 (farith .sub .f32 (x.u 137) (x.u 148)))) = true := hp _ (List.mem_cons_of_mem _ (List.mem_cons_of_mem _ (List.mem_cons_self ..)))
  rw [hz] at a0
  have a1 : (decide (x.i 0 ≤ 1) || !(isNan .f32 (farith .sub .f32 (x.u 138) (x.u 149)))) = true := hp _ (List.mem_cons_of_mem _ (List.mem_cons_of_mem _ (List.mem_cons_of_mem _ (List.mem_cons_self ..))))
  rw [hz] at a1
  have a2 : (decide (x.i 0 ≤ 2) || !(isNan .f32 (farith .sub .f32 (x.u 139) (x.u 150)))) = true := hp _ (List.mem_cons_of_mem _ (List.mem_cons_of_mem _ (List.mem_cons_of_mem _ (List.mem_cons_of_mem _ (List.mem_cons_self ..)))))
  rw [hz] at a2
  have a3 : (decide (x.i 0 ≤ 3) || !(isNan .f32 (farith .sub .f32 (x.u 140) (x.u 151)))) = true := hp _ (List.mem_cons_of_mem _ (List.mem_cons_of_mem _ (List.mem_cons_of_mem _ (List.mem_cons_of_mem _ (List.mem_cons_of_mem _ (List.mem_cons_self ..))))))
  rw [hz] at a3
  have a4 : (decide (x.i 0 ≤ 4) || !(isNan .f32 (farith .sub .f32 (x.u 141) (x.u 152)))) = true := hp _ (List.mem_cons_of_mem _ (List.mem_cons_of_mem _ (List.mem_cons_of_mem _ (List.mem_cons_of_mem _ (List.mem_cons_of_mem _ (List.mem_cons_of_mem _ (List.mem_cons_self ..)))))))
  rw [hz] at a4
  have e := (off_b4 x (notBT a0) (notBT a1) (notBT a2) (notBT a3) (notBT a4)).1
  have h1 : off_w84_5 x = .tup [.agg [.flt .f32 ((farith .sub .f32 (x.u 137) (x.u 148))), .flt .f32 ((farith .sub .f32 (x.u 138) (x.u 149))), .flt .f32 ((farith .sub .f32 (x.u 139) (x.u 150))), .flt .f32 ((farith .sub .f32 (x.u 140) (x.u 151))), .flt .f32 ((farith .sub .f32 (x.u 141) (x.u 152))), .flt .f32 (0), .flt .f32 (0), .flt .f32 (0)], .flt .f32 (off_r4 x)] := by kernel_rfl
  have h2 : off_v5 x = .tup [.agg [.flt .f32 ((farith .sub .f32 (x.u 137) (x.u 148))), .flt .f32 ((farith .sub .f32 (x.u 138) (x.u 149))), .flt .f32 ((farith .sub .f32 (x.u 139) (x.u 150))), .flt .f32 ((farith .sub .f32 (x.u 140) (x.u 151))), .flt .f32 ((farith .sub .f32 (x.u 141) (x.u 152))), .flt .f32 (0), .flt .f32 (0), .flt .f32 (0)], .flt .f32 (off_m4 x)] := by kernel_rfl
  rw [h1, h2, e]

theorem off_f84_5 (x : Vars) (ho : OkV (kdsP [.val (.ag kd2), .val (.ag kd4), .val (.ag kd3)]) x) (hp : ∀ b ∈ offPre (mkL x 0 (kdsP [.val (.ag kd2), .val (.ag kd4), .val (.ag kd3)])), b = true) (hz : x.i 0 = 5) : (funH Try.prog G17 noLT true 1000 84 (argsP [.ptr kd2, .ptr kd4, .ptr kd3] 0 (litL (mkL x 0 (kdsP [.val (.ag kd2), .val (.ag kd4), .val (.ag kd3)])) 0 5)) (memP [.ptr kd2, .ptr kd4, .ptr kd3] (litL (mkL x 0 (kdsP [.val (.ag kd2), .val (.ag kd4), .val (.ag kd3)])) 0 5)) []).map (fun r => (normR r.1, untupR r.1 && r.1.flat, r.2)) = some (off_v5 x, true, []) := by
  rw [off_g84_5, off_q84_5 x ho hp hz]

noncomputable def off_w84_6 (x : Vars) : AV := .tup [.agg [.flt .f32 ((farith .sub .f32 (x.u 137) (x.u 148))), .flt .f32 ((farith .sub .f32 (x.u 138) (x.u 149))), .flt .f32 ((farith .sub .f32 (x.u 139) (x.u 150))), .flt .f32 ((farith .sub .f32 (x.u 140) (x.u 151))), .flt .f32 ((farith .sub .f32 (x.u 141) (x.u 152))), .flt .f32 ((farith .sub .f32 (x.u 142) (x.u 153))), .flt .f32 (0), .flt .f32 (0)], .flt .f32 ((off_r5 x))]

theorem off_g84_6 (x : Vars) : (funH Try.prog G17 noLT true 1000 84 (argsP [.ptr kd2, .ptr kd4, .ptr kd3] 0 (litL (mkL x 0 (kdsP [.val (.ag kd2), .val (.ag kd4), .val (.ag kd3)])) 0 6)) (memP [.ptr kd2, .ptr kd4, .ptr kd3] (litL (mkL x 0 (kdsP [.val (.ag kd2), .val (.ag kd4), .val (.ag kd3)])) 0 6)) []).map (fun r => (normR r.1, untupR r.1 && r.1.flat, r.2)) = some (off_w84_6 x, true, []) := by kernel_rfl

set_option maxRecDepth 100000 in
theorem off_q84_6 (x : Vars) (ho : OkV (kdsP [.val (.ag kd2), .val (.ag kd4), .val (.ag kd3)]) x) (hp : ∀ b ∈ offPre (mkL x 0 (kdsP [.val (.ag kd2), .val (.ag kd4), .val (.ag kd3)])), b = true) (hz : x.i 0 = 6) : off_w84_6 x = off_v6 x := by
  have a0 : (decide (x.i 0 ≤ 0) || !(isNan .f32 (farith .sub .f32 (x.u 137) (x.u 148)))) = true := hp _ (List.mem_cons_of_mem _ (List.mem_cons_of_mem _ (List.mem_cons_self ..)))
  rw [hz] at a0
  have a1 : (decide (x.i 0 ≤ 1) || !(isNan .f32 (farith .sub .f32 (x.u 138) (x.u 149)))) = true := hp _ (List.mem_cons_of_mem _ (List.mem_cons_of_mem _ (List.mem_cons_of_mem _ (List.mem_cons_self ..))))
  rw [hz] at a1
  have a2 : (decide (x.i 0 ≤ 2) || !(isNan .f32 (farith .sub .f32 (x.u 139) (x.u 150)))) = true := hp _ (List.mem_cons_of_mem _ (List.mem_cons_of_mem _ (List.mem_cons_of_mem _ (List.mem_cons_of_mem _ (List.mem_cons_self ..)))))
  rw [hz] at a2
  have a3 : (decide (x.i 0 ≤ 3) || !(isNan .f32 (farith .sub .f32 (x.u 140) (x.u 151)))) = true := hp _ (List.mem_cons_of_mem _ (List.mem_cons_of_mem _ (List.mem_cons_of_mem _ (List.mem_cons_of_mem _ (List.mem_cons_of_mem _ (List.mem_cons_self ..))))))
  rw [hz] at a3
  have a4 : (decide (x.i 0 ≤ 4) || !(isNan .f32 (farith .sub .f32 (x.u 141) (x.u 152)))) = true := hp _ (List.mem_cons_of_mem _ (List.mem_cons_of_mem _ (List.mem_cons_of_mem _ (List.mem_cons_of_mem _ (List.mem_cons_of_mem _ (List.mem_cons_of_mem _ (List.mem_cons_self ..)))))))
  rw [hz] at a4
  have a5 : (decide (x.i 0 ≤ 5) || !(isNan .f32 (farith .sub .f32 (x.u 142) (x.u 153)))) = true := hp _ (List.mem_cons_of_mem _ (List.mem_cons_of_mem _ (List.mem_cons_of_mem _ (List.mem_cons_of_mem _ (List.mem_cons_of_mem _ (List.mem_cons_of_mem _ (List.mem_cons_of_mem _ (List.mem_cons_self ..))))))))
  rw [hz] at a5
  have e := (off_b5 x (notBT a0) (notBT a1) (notBT a2) (notBT a3) (notBT a4) (notBT a5)).1
  have h1 : off_w84_6 x = .tup [.agg [.flt .f32 ((farith .sub .f32 (x.u 137) (x.u 148))), .flt .f32 ((farith .sub .f32 (x.u 138) (x.u 149))), .flt .f32 ((farith .sub .f32 (x.u 139) (x.u 150))), .flt .f32 ((farith .sub .f32 (x.u 140) (x.u 151))), .flt .f32 ((farith .sub .f32 (x.u 141) (x.u 152))), .flt .f32 ((farith .sub .f32 (x.u 142) (x.u 153))), .flt .f32 (0), .flt .f32 (0)], .flt .f32 (off_r5 x)] := by kernel_rfl
  have h2 : off_v6 x = .tup [.agg [.flt .f32 ((farith .sub .f32 (x.u 137) (x.u 148))), .flt .f32 ((farith .sub .f32 (x.u 138) (x.u 149))), .flt .f32 ((farith .sub .f32 (x.u 139) (x.u 150))), .flt .f32 ((farith .sub .f32 (x.u 140) (x.u 151))), .flt .f32 ((farith .sub .f32 (x.u 141) (x.u 152))), .flt .f32 ((farith .sub .f32 (x.u 142) (x.u 153))), .flt .f32 (0), .flt .f32 (0)], .flt .f32 (off_m5 x)] := by kernel_rfl
  rw [h1, h2, e]

theorem off_f84_6 (x : Vars) (ho : OkV (kdsP [.val (.ag kd2), .val (.ag kd4), .val (.ag kd3)]) x) (hp : ∀ b ∈ offPre (mkL x 0 (kdsP [.val (.ag kd2), .val (.ag kd4), .val (.ag kd3)])), b = true) (hz : x.i 0 = 6) : (funH Try.prog G17 noLT true 1000 84 (argsP [.ptr kd2, .ptr kd4, .ptr kd3] 0 (litL (mkL x 0 (kdsP [.val (.ag kd2), .val (.ag kd4), .val (.ag kd3)])) 0 6)) (memP [.ptr kd2, .ptr kd4, .ptr kd3] (litL (mkL x 0 (kdsP [.val (.ag kd2), .val (.ag kd4), .val (.ag kd3)])) 0 6)) []).map (fun r => (normR r.1, untupR r.1 && r.1.flat, r.2)) = some (off_v6 x, true, []) := by
  rw [off_g84_6, off_q84_6 x ho hp hz]

noncomputable def off_w84_7 (x : Vars) : AV := .tup [.agg [.flt .f32 ((farith .sub .f32 (x.u 137) (x.u 148))), .flt .f32 ((farith .sub .f32 (x.u 138) (x.u 149))), .flt .f32 ((farith .sub .f32 (x.u 139) (x.u 150))), .flt .f32 ((farith .sub .f32 (x.u 140) (x.u 151))), .flt .f32 ((farith .sub .f32 (x.u 141) (x.u 152))), .flt .f32 ((farith .sub .f32 (x.u 142) (x.u 153))), .flt .f32 ((farith .sub .f32 (x.u 143) (x.u 154))), .flt .f32 (0)], .flt .f32 ((off_r6 x))]

theorem off_g84_7 (x : Vars) : (funH Try.prog G17 noLT true 1000 84 (argsP [.ptr kd2, .ptr kd4, .ptr kd3] 0 (litL (mkL x 0 (kdsP [.val (.ag kd2), .val (.ag kd4), .val (.ag kd3)])) 0 7)) (memP [.ptr kd2, .ptr kd4, .ptr kd3] (litL (mkL x 0 (kdsP [.val (.ag kd2), .val (.ag kd4), .val (.ag kd3)])) 0 7)) []).map (fun r => (normR r.1, untupR r.1 && r.1.flat, r.2)) = some (off_w84_7 x, true, []) := by kernel_rfl

set_option maxRecDepth 100000 in
theorem off_q84_7 (x : Vars) (ho : OkV (kdsP [.val (.ag kd2), .val (.ag kd4), .val (.ag kd3)]) x) (hp : ∀ b ∈ offPre (mkL x 0 (kdsP [.val (.ag kd2), .val (.ag kd4), .val (.ag kd3)])), b = true) (hz : x.i 0 = 7) : off_w84_7 x = off_v7 x := by
  have a0 : (decide (x.i 0 ≤ 0) || !(isNan .f32 (farith .sub .f32 (x.u 137) (x.u 148)))) = true := hp _ (List.mem_cons_of_mem _ (List.mem_cons_of_mem _ (List.mem_cons_self ..)))
  rw [hz] at a0
  have a1 : (decide (x.i 0 ≤ 1) || !(isNan .f32 (farith .sub .f32 (x.u 138) (x.u 149)))) = true := hp _ (List.mem_cons_of_mem _ (List.mem_cons_of_mem _ (List.mem_cons_of_mem _ (List.mem_cons_self ..))))
  rw [hz] at a1
  have a2 : (decide (x.i 0 ≤ 2) || !(isNan .f32 (farith .sub .f32 (x.u 139) (x.u 150)))) = true := hp _ (List.mem_cons_of_mem _ (List.mem_cons_of_mem _ (List.mem_cons_of_mem _ (List.mem_cons_of_mem _ (List.mem_cons_self ..)))))
  rw [hz] at a2
  have a3 : (decide (x.i 0 ≤ 3) || !(isNan .f32 (farith .sub .f32 (x.u 140) (x.u 151)))) = true := hp _ (List.mem_cons_of_mem _ (List.mem_cons_of_mem _ (List.mem_cons_of_mem _ (List.mem_cons_of_mem _ (List.mem_cons_of_mem _ (List.mem_cons_self ..))))))
  rw [hz] at a3
  have a4 : (decide (x.i 0 ≤ 4) || !(isNan .f32 (farith .sub .f32 (x.u 141) (x.u 152)))) = true := hp _ (List.mem_cons_of_mem _ (List.mem_cons_of_mem _ (List.mem_cons_of_mem _ (List.mem_cons_of_mem _ (List.mem_cons_of_mem _ (List.mem_cons_of_mem _ (List.mem_cons_self ..)))))))
  rw [hz] at a4
  have a5 : (decide (x.i 0 ≤ 5) || !(isNan .f32 (farith .sub .f32 (x.u 142) (x.u 153)))) = true := hp _ (List.mem_cons_of_mem _ (List.mem_cons_of_mem _ (List.mem_cons_of_mem _ (List.mem_cons_of_mem _ (List.mem_cons_of_mem _ (List.mem_cons_of_mem _ (List.mem_cons_of_mem _ (List.mem_cons_self ..))))))))
  rw [hz] at a5
  have a6 : (decide (x.i 0 ≤ 6) || !(isNan .f32 (farith .sub .f32 (x.u 143) (x.u 154)))) = true := hp _ (List.mem_cons_of_mem _ (List.mem_cons_of_mem _ (List.mem_cons_of_mem _ (List.mem_cons_of_mem _ (List.mem_cons_of_mem _ (List.mem_cons_of_mem _ (List.mem_cons_of_mem _ (List.mem_cons_of_mem _ (List.mem_cons_self ..)))))))))
  rw [hz] at a6
  have e := (off_b6 x (notBT a0) (notBT a1) (notBT a2) (notBT a3) (notBT a4) (notBT a5) (notBT a6)).1
  have h1 : off_w84_7 x = .tup [.agg [.flt .f32 ((farith .sub .f32 (x.u 137) (x.u 148))), .flt .f32 ((farith .sub .f32 (x.u 138) (x.u 149))), .flt .f32 ((farith .sub .f32 (x.u 139) (x.u 150))), .flt .f32 ((farith .sub .f32 (x.u 140) (x.u 151))), .flt .f32 ((farith .sub .f32 (x.u 141) (x.u 152))), .flt .f32 ((farith .sub .f32 (x.u 142) (x.u 153))), .flt .f32 ((farith .sub .f32 (x.u 143) (x.u 154))), .flt .f32 (0)], .flt .f32 (off_r6 x)] := by kernel_rfl
  have h2 : off_v7 x = .tup [.agg [.flt .f32 ((farith .sub .f32 (x.u 137) (x.u 148))), .flt .f32 ((farith .sub .f32 (x.u 138) (x.u 149))), .flt .f32 ((farith .sub .f32 (x.u 139) (x.u 150))), .flt .f32 ((farith .sub .f32 (x.u 140) (x.u 151))), .flt .f32 ((farith .sub .f32 (x.u 141) (x.u 152))), .flt .f32 ((farith .sub .f32 (x.u 142) (x.u 153))), .flt .f32 ((farith .sub .f32 (x.u 143) (x.u 154))), .flt .f32 (0)], .flt .f32 (off_m6 x)] := by kernel_rfl
  rw [h1, h2, e]

theorem off_f84_7 (x : Vars) (ho : OkV (kdsP [.val (.ag kd2), .val (.ag kd4), .val (.ag kd3)]) x) (hp : ∀ b ∈ offPre (mkL x 0 (kdsP [.val (.ag kd2), .val (.ag kd4), .val (.ag kd3)])), b = true) (hz : x.i 0 = 7) : (funH Try.prog G17 noLT true 1000 84 (argsP [.ptr kd2, .ptr kd4, .ptr kd3] 0 (litL (mkL x 0 (kdsP [.val (.ag kd2), .val (.ag kd4), .val (.ag kd3)])) 0 7)) (memP [.ptr kd2, .ptr kd4, .ptr kd3] (litL (mkL x 0 (kdsP [.val (.ag kd2), .val (.ag kd4), .val (.ag kd3)])) 0 7)) []).map (fun r => (normR r.1, untupR r.1 && r.1.flat, r.2)) = some (off_v7 x, true, []) := by
  rw [off_g84_7, off_q84_7 x ho hp hz]

noncomputable def off_w84_8 (x : Vars) : AV := .tup [.agg [.flt .f32 ((farith .sub .f32 (x.u 137) (x.u 148))), .flt .f32 ((farith .sub .f32 (x.u 138) (x.u 149))), .flt .f32 ((farith .sub .f32 (x.u 139) (x.u 150))), .flt .f32 ((farith .sub .f32 (x.u 140) (x.u 151))), .flt .f32 ((farith .sub .f32 (x.u 141) (x.u 152))), .flt .f32 ((farith .sub .f32 (x.u 142) (x.u 153))), .flt .f32 ((farith .sub .f32 (x.u 143) (x.u 154))), .flt .f32 ((farith .sub .f32 (x.u 144) (x.u 155)))], .flt .f32 ((off_r7 x))]

theorem off_g84_8 (x : Vars) : (funH Try.prog G17 noLT true 1000 84 (argsP [.ptr kd2, .ptr kd4, .ptr kd3] 0 (litL (mkL x 0 (kdsP [.val (.ag kd2), .val (.ag kd4), .val (.ag kd3)])) 0 8)) (memP [.ptr kd2, .ptr kd4, .ptr kd3] (litL (mkL x 0 (kdsP [.val (.ag kd2), .val (.ag kd4), .val (.ag kd3)])) 0 8)) []).map (fun r => (normR r.1, untupR r.1 && r.1.flat, r.2)) = some (off_w84_8 x, true, []) := by kernel_rfl

set_option maxRecDepth 100000 in
theorem off_q84_8 (x : Vars) (ho : OkV (kdsP [.val (.ag kd2), .val (.ag kd4), .val (.ag kd3)]) x) (hp : ∀ b ∈ offPre (mkL x 0 (kdsP [.val (.ag kd2), .val (.ag kd4), .val (.ag kd3)])), b = true) (hz : x.i 0 = 8) : off_w84_8 x = off_v8 x := by
  have a0 : (decide (x.i 0 ≤ 0) || !(isNan .f32 (farith .sub .f32 (x.u 137) (x.u 148)))) = true := hp _ (List.mem_cons_of_mem _ (List.mem_cons_of_mem _ (List.mem_cons_self ..)))
  rw [hz] at a0
  have a1 : (decide (x.i 0 ≤ 1) || !(isNan .f32 (farith .sub .f32 (x.u 138) (x.u 149)))) = true := hp _ (List.mem_cons_of_mem _ (List.mem_cons_of_mem _ (List.mem_cons_of_mem _ (List.mem_cons_self ..))))
  rw [hz] at a1
  have a2 : (decide (x.i 0 ≤ 2) || !(isNan .f32 (farith .sub .f32 (x.u 139) (x.u 150)))) = true := hp _ (List.mem_cons_of_mem _ (List.mem_cons_of_mem _ (List.mem_cons_of_mem _ (List.mem_cons_of_mem _ (List.mem_cons_self ..)))))
  rw [hz] at a2
  have a3 : (decide (x.i 0 ≤ 3) || !(isNan .f32 (farith .sub .f32 (x.u 140) (x.u 151)))) = true := hp _ (List.mem_cons_of_mem _ (List.mem_cons_of_mem _ (List.mem_cons_of_mem _ (List.mem_cons_of_mem _ (List.mem_cons_of_mem _ (List.mem_cons_self ..))))))
  rw [hz] at a3
  have a4 : (decide (x.i 0 ≤ 4) || !(isNan .f32 (farith .sub .f32 (x.u 141) (x.u 152)))) = true := hp _ (List.mem_cons_of_mem _ (List.mem_cons_of_mem _ (List.mem_cons_of_mem _ (List.mem_cons_of_mem _ (List.mem_cons_of_mem _ (List.mem_cons_of_mem _ (List.mem_cons_self ..)))))))
  rw [hz] at a4
  have a5 : (decide (x.i 0 ≤ 5) || !(isNan .f32 (farith .sub .f32 (x.u 142) (x.u 153)))) = true := hp _ (List.mem_cons_of_mem _ (List.mem_cons_of_mem _ (List.mem_cons_of_mem _ (List.mem_cons_of_mem _ (List.mem_cons_of_mem _ (List.mem_cons_of_mem _ (List.mem_cons_of_mem _ (List.mem_cons_self ..))))))))
  rw [hz] at a5
  have a6 : (decide (x.i 0 ≤ 6) || !(isNan .f32 (farith .sub .f32 (x.u 143) (x.u 154)))) = true := hp _ (List.mem_cons_of_mem _ (List.mem_cons_of_mem _ (List.mem_cons_of_mem _ (List.mem_cons_of_mem _ (List.mem_cons_of_mem _ (List.mem_cons_of_mem _ (List.mem_cons_of_mem _ (List.mem_cons_of_mem _ (List.mem_cons_self ..)))))))))
  rw [hz] at a6
  have a7 : (decide (x.i 0 ≤ 7) || !(isNan .f32 (farith .sub .f32 (x.u 144) (x.u 155)))) = true := hp _ (List.mem_cons_of_mem _ (List.mem_cons_of_mem _ (List.mem_cons_of_mem _ (List.mem_cons_of_mem _ (List.mem_cons_of_mem _ (List.mem_cons_of_mem _ (List.mem_cons_of_mem _ (List.mem_cons_of_mem _ (List.mem_cons_of_mem _ (List.mem_cons_self ..))))))))))
  rw [hz] at a7
  have e := (off_b7 x (notBT a0) (notBT a1) (notBT a2) (notBT a3) (notBT a4) (notBT a5) (notBT a6) (notBT a7)).1
  have h1 : off_w84_8 x = .tup [.agg [.flt .f32 ((farith .sub .f32 (x.u 137) (x.u 148))), .flt .f32 ((farith .sub .f32 (x.u 138) (x.u 149))), .flt .f32 ((farith .sub .f32 (x.u 139) (x.u 150))), .flt .f32 ((farith .sub .f32 (x.u 140) (x.u 151))), .flt .f32 ((farith .sub .f32 (x.u 141) (x.u 152))), .flt .f32 ((farith .sub .f32 (x.u 142) (x.u 153))), .flt .f32 ((farith .sub .f32 (x.u 143) (x.u 154))), .flt .f32 ((farith .sub .f32 (x.u 144) (x.u 155)))], .flt .f32 (off_r7 x)] := by kernel_rfl
  have h2 : off_v8 x = .tup [.agg [.flt .f32 ((farith .sub .f32 (x.u 137) (x.u 148))), .flt .f32 ((farith .sub .f32 (x.u 138) (x.u 149))), .flt .f32 ((farith .sub .f32 (x.u 139) (x.u 150))), .flt .f32 ((farith .sub .f32 (x.u 140) (x.u 151))), .flt .f32 ((farith .sub .f32 (x.u 141) (x.u 152))), .flt .f32 ((farith .sub .f32 (x.u 142) (x.u 153))), .flt .f32 ((farith .sub .f32 (x.u 143) (x.u 154))), .flt .f32 ((farith .sub .f32 (x.u 144) (x.u 155)))], .flt .f32 (off_m7 x)] := by kernel_rfl
  rw [h1, h2, e]

theorem off_f84_8 (x : Vars) (ho : OkV (kdsP [.val (.ag kd2), .val (.ag kd4), .val (.ag kd3)]) x) (hp : ∀ b ∈ offPre (mkL x 0 (kdsP [.val (.ag kd2), .val (.ag kd4), .val (.ag kd3)])), b = true) (hz : x.i 0 = 8) : (funH Try.prog G17 noLT true 1000 84 (argsP [.ptr kd2, .ptr kd4, .ptr kd3] 0 (litL (mkL x 0 (kdsP [.val (.ag kd2), .val (.ag kd4), .val (.ag kd3)])) 0 8)) (memP [.ptr kd2, .ptr kd4, .ptr kd3] (litL (mkL x 0 (kdsP [.val (.ag kd2), .val (.ag kd4), .val (.ag kd3)])) 0 8)) []).map (fun r => (normR r.1, untupR r.1 && r.1.flat, r.2)) = some (off_v8 x, true, []) := by
  rw [off_g84_8, off_q84_8 x ho hp hz]

theorem off_ev84 (x : Vars) (ho : OkV (kdsP [.val (.ag kd2), .val (.ag kd4), .val (.ag kd3)]) x) (hp : ∀ b ∈ offPre (mkL x 0 (kdsP [.val (.ag kd2), .val (.ag kd4), .val (.ag kd3)])), b = true) : EvP Try.prog G17 84 [.ptr kd2, .ptr kd4, .ptr kd3] [.ag kd3, .sc (.flt .f32)] (mkL x 0 (kdsP [.val (.ag kd2), .val (.ag kd4), .val (.ag kd3)])) (offR0 (mkL x 0 (kdsP [.val (.ag kd2), .val (.ag kd4), .val (.ag kd3)]))) := by
  have a0 : decide (1 ≤ x.i 0) = true := hp _ (List.mem_cons_self ..)
  have a1 : decide (x.i 0 ≤ 8) = true := hp _ (List.mem_cons_of_mem _ (List.mem_cons_self ..))
  have hr : 1 ≤ x.i 0 ∧ x.i 0 ≤ 8 := ⟨of_decide_eq_true a0, of_decide_eq_true a1⟩
  have c0 : x.i 0 = 1 ∨ x.i 0 = 2 ∨ x.i 0 = 3 ∨ x.i 0 = 4 ∨ x.i 0 = 5 ∨ x.i 0 = 6 ∨ x.i 0 = 7 ∨ x.i 0 = 8 := by omega
  rcases c0 with hz | hz | hz | hz | hz | hz | hz | hz
  · have e : offR0 (mkL x 0 (kdsP [.val (.ag kd2), .val (.ag kd4), .val (.ag kd3)])) = offZ1 (mkL x 0 (kdsP [.val (.ag kd2), .val (.ag kd4), .val (.ag kd3)])) := by
      unfold offR0
      have hz : intOf (leafN (mkL x 0 (kdsP [.val (.ag kd2), .val (.ag kd4), .val (.ag kd3)])) 0) = 1 := hz
      rw [hz]
      rfl
    rw [e]
    exact EvP.ofH (H := noLT) (J := true) (HFun.none Try.prog _ 84) (litL_mk hz) (by rw [off_x1]; exact off_f84_1 x ho hp hz) allN
  · have e : offR0 (mkL x 0 (kdsP [.val (.ag kd2), .val (.ag kd4), .val (.ag kd3)])) = offZ2 (mkL x 0 (kdsP [.val (.ag kd2), .val (.ag kd4), .val (.ag kd3)])) := by
      unfold offR0
      have hz : intOf (leafN (mkL x 0 (kdsP [.val (.ag kd2), .val (.ag kd4), .val (.ag kd3)])) 0) = 2 := hz
      rw [hz]
      rfl
    rw [e]
    exact EvP.ofH (H := noLT) (J := true) (HFun.none Try.prog _ 84) (litL_mk hz) (by rw [off_x2]; exact off_f84_2 x ho hp hz) allN
  · have e : offR0 (mkL x 0 (kdsP [.val (.ag kd2), .val (.ag kd4), .val (.ag kd3)])) = offZ3 (mkL x 0 (kdsP [.val (.ag kd2), .val (.ag kd4), .val (.ag kd3)])) := by
      unfold offR0
      have hz : intOf (leafN (mkL x 0 (kdsP [.val (.ag kd2), .val (.ag kd4), .val (.ag kd3)])) 0) = 3 := hz
      rw [hz]
      rfl
    rw [e]
    exact EvP.ofH (H := noLT) (J := true) (HFun.none Try.prog _ 84) (litL_mk hz) (by rw [off_x3]; exact off_f84_3 x ho hp hz) allN
  · have e : offR0 (mkL x 0 (kdsP [.val (.ag kd2), .val (.ag kd4), .val (.ag kd3)])) = offZ4 (mkL x 0 (kdsP [.val (.ag kd2), .val (.ag kd4), .val (.ag kd3)])) := by
      unfold offR0
      have hz : intOf (leafN (mkL x 0 (kdsP [.val (.ag kd2), .val (.ag kd4), .val (.ag kd3)])) 0) = 4 := hz
      rw [hz]
      rfl
    rw [e]
    exact EvP.ofH (H := noLT) (J := true) (HFun.none Try.prog _ 84) (litL_mk hz) (by rw [off_x4]; exact off_f84_4 x ho hp hz) allN
  · have e : offR0 (mkL x 0 (kdsP [.val (.ag kd2), .val (.ag kd4), .val (.ag kd3)])) = offZ5 (mkL x 0 (kdsP [.val (.ag kd2), .val (.ag kd4), .val (.ag kd3)])) := by
      unfold offR0
      have hz : intOf (leafN (mkL x 0 (kdsP [.val (.ag kd2), .val (.ag kd4), .val (.ag kd3)])) 0) = 5 := hz
      rw [hz]
      rfl
    rw [e]
    exact EvP.ofH (H := noLT) (J := true) (HFun.none Try.prog _ 84) (litL_mk hz) (by rw [off_x5]; exact off_f84_5 x ho hp hz) allN
  · have e : offR0 (mkL x 0 (kdsP [.val (.ag kd2), .val (.ag kd4), .val (.ag kd3)])) = offZ6 (mkL x 0 (kdsP [.val (.ag kd2), .val (.ag kd4), .val (.ag kd3)])) := by
      unfold offR0
      have hz : intOf (leafN (mkL x 0 (kdsP [.val (.ag kd2), .val (.ag kd4), .val (.ag kd3)])) 0) = 6 := hz
      rw [hz]
      rfl
    rw [e]
    exact EvP.ofH (H := noLT) (J := true) (HFun.none Try.prog _ 84) (litL_mk hz) (by rw [off_x6]; exact off_f84_6 x ho hp hz) allN
  · have e : offR0 (mkL x 0 (kdsP [.val (.ag kd2), .val (.ag kd4), .val (.ag kd3)])) = offZ7 (mkL x 0 (kdsP [.val (.ag kd2), .val (.ag kd4), .val (.ag kd3)])) := by
      unfold offR0
      have hz : intOf (leafN (mkL x 0 (kdsP [.val (.ag kd2), .val (.ag kd4), .val (.ag kd3)])) 0) = 7 := hz
      rw [hz]
      rfl
    rw [e]
    exact EvP.ofH (H := noLT) (J := true) (HFun.none Try.prog _ 84) (litL_mk hz) (by rw [off_x7]; exact off_f84_7 x ho hp hz) allN
  · have e : offR0 (mkL x 0 (kdsP [.val (.ag kd2), .val (.ag kd4), .val (.ag kd3)])) = offZ8 (mkL x 0 (kdsP [.val (.ag kd2), .val (.ag kd4), .val (.ag kd3)])) := by
      unfold offR0
      have hz : intOf (leafN (mkL x 0 (kdsP [.val (.ag kd2), .val (.ag kd4), .val (.ag kd3)])) 0) = 8 := hz
      rw [hz]
      rfl
    rw [e]
    exact EvP.ofH (H := noLT) (J := true) (HFun.none Try.prog _ 84) (litL_mk hz) (by rw [off_x8]; exact off_f84_8 x ho hp hz) allN

noncomputable def G18 : Summ := addG 81 (sumP [.val (.ag kd2), .val (.ag kd4), .val (.ag kd3)] [.ag kd3, .sc (.flt .f32)] offPre offR) G17

theorem G18_ok : SoundG Try.prog G18 := SoundG.sumP G17_ok mixed Try.call81 G17_ok (fun x hx hp => by rw [offR_eq]; exact (fun x ho hp => off_ev81 x ho hp) x hx hp)

noncomputable def G19 : Summ := addG 84 (sumP [.ptr kd2, .ptr kd4, .ptr kd3] [.ag kd3, .sc (.flt .f32)] offPre offR) G18

theorem G19_ok : SoundG Try.prog G19 := SoundG.sumP G18_ok mixed Try.call84 G17_ok (fun x hx hp => by rw [offR_eq]; exact (fun x ho hp => off_ev84 x ho hp) x hx hp)

end Go.Proofs.Ytagkkkplmilkhaa

/-
  Facts of this seat that its laws use; no conditions.
-/
import Derived.Test.YtekilpllicggeaaOrdd
namespace Go.Proofs.Ytekilpllicggeaa
open Go.Sim Go.ChangeShapes Go.WideShapes Go.ChangeAt Go.RowKit

def kd2 : List Kd := [.int .i8, .int .i8, .int .i8, .int .i8]

theorem tW0 {q : Int} (h : 0 ≤ q ∧ q < 24) : wrapS .i8 (elP 0 q) = elP 0 q := by
  rcases q24 h with rfl | rfl | rfl | rfl | rfl | rfl | rfl | rfl | rfl | rfl | rfl | rfl | rfl | rfl | rfl | rfl | rfl | rfl | rfl | rfl | rfl | rfl | rfl | rfl <;> kernel_rfl

theorem tW1 {q : Int} (h : 0 ≤ q ∧ q < 24) : wrapS .i8 (elP 1 q) = elP 1 q := by
  rcases q24 h with rfl | rfl | rfl | rfl | rfl | rfl | rfl | rfl | rfl | rfl | rfl | rfl | rfl | rfl | rfl | rfl | rfl | rfl | rfl | rfl | rfl | rfl | rfl | rfl <;> kernel_rfl

theorem tW2 {q : Int} (h : 0 ≤ q ∧ q < 24) : wrapS .i8 (elP 2 q) = elP 2 q := by
  rcases q24 h with rfl | rfl | rfl | rfl | rfl | rfl | rfl | rfl | rfl | rfl | rfl | rfl | rfl | rfl | rfl | rfl | rfl | rfl | rfl | rfl | rfl | rfl | rfl | rfl <;> kernel_rfl

theorem tW3 {q : Int} (h : 0 ≤ q ∧ q < 24) : wrapS .i8 (elP 3 q) = elP 3 q := by
  rcases q24 h with rfl | rfl | rfl | rfl | rfl | rfl | rfl | rfl | rfl | rfl | rfl | rfl | rfl | rfl | rfl | rfl | rfl | rfl | rfl | rfl | rfl | rfl | rfl | rfl <;> kernel_rfl

noncomputable def be_v_0 (x : Vars) : Bool := ((fcmp .geq .f32 (x.u 5) 0) && (fcmp .leq .f32 (x.u 5) 1233125376))

noncomputable def be_v_1 (x : Vars) : Bool := ((fcmp .geq .f32 (x.u 4) 0) && (fcmp .leq .f32 (x.u 4) 1233125376))

noncomputable def be_v_2 (x : Vars) : Vars := (filmsR [(.flt .f32 (x.u 0)), (.flt .f32 (x.u 1)), (.flt .f32 (x.u 2)), (.flt .f32 (x.u 3))])

noncomputable def bioC (x : Vars) : Bool := ((!((be_v_2 x).b 0)) || (!((be_v_1 x) && (be_v_0 x))))

noncomputable def bf_v_0 (x : Vars) : Bool := ((fcmp .geq .f32 (x.u 5) 0) && (fcmp .leq .f32 (x.u 5) 1233125376))

noncomputable def bf_v_1 (x : Vars) : Bool := ((fcmp .geq .f32 (x.u 4) 0) && (fcmp .leq .f32 (x.u 4) 1233125376))

noncomputable def bf_v_2 (x : Vars) : Vars := (filmsR [(.flt .f32 (x.u 0)), (.flt .f32 (x.u 1)), (.flt .f32 (x.u 2)), (.flt .f32 (x.u 3))])

noncomputable def bioS (x : Vars) : Bool := (!((((bf_v_2 x).b 0) && (bf_v_1 x)) && (bf_v_0 x)))

noncomputable def bioS2 (x : Vars) : Bool := (!(!((((bs_v_101 x).b 0) && (bs_v_100 x)) && (bs_v_99 x))))

theorem keyT {a b c : Bool} (h : ((!a) || (!(b && c))) = true) : (!((a && b) && c)) = true := by
  revert h
  cases a <;> cases b <;> cases c <;> decide

theorem keyF {a b c : Bool} (h : ((!a) || (!(b && c))) = false) : (!(!((a && b) && c))) = true := by
  revert h
  cases a <;> cases b <;> cases c <;> decide

theorem bio_s {x : Vars} (h : bioC x = true) : bioS x = true := keyT h
theorem bio_s2 {x : Vars} (h : bioC x = false) : bioS2 x = true := keyF h

noncomputable def bio_ve (_ : Vars) : AV := .tup [.agg [.sint .i8 (0), .sint .i8 (0), .sint .i8 (0), .sint .i8 (0)], .flt .f32 (0), .sint .i64 (2)]

noncomputable def bio_vm (x : Vars) : AV := .tup [.agg [.sint .i8 (elP 0 (tQ23 x)), .sint .i8 (elP 1 (tQ23 x)), .sint .i8 (elP 2 (tQ23 x)), .sint .i8 (elP 3 (tQ23 x))], .flt .f32 (tL23 x), .sint .i64 (0)]

noncomputable def bioZe (l : List AV) : Vars := outV (some (bio_ve (varsOf l), []))

theorem bio_xe (x : Vars) : mkR (bioZe (mkL x 0 (kdsP [.val (.ag kd1), .val (.sc (.flt .f32)), .val (.sc (.flt .f32))]))) [.ag kd2, .sc (.flt .f32), .sc (.int .i64)] = bio_ve x := by kernel_rfl

noncomputable def bioZm (l : List AV) : Vars := outV (some (bio_vm (varsOf l), []))

theorem bio_xm (x : Vars) : mkR (bioZm (mkL x 0 (kdsP [.val (.ag kd1), .val (.sc (.flt .f32)), .val (.sc (.flt .f32))]))) [.ag kd2, .sc (.flt .f32), .sc (.int .i64)] = bio_vm x := by kernel_rfl

noncomputable def bioB (l : List AV) : Bool := bioC (varsOf l)
theorem bio_b (x : Vars) : bioB (mkL x 0 (kdsP [.val (.ag kd1), .val (.sc (.flt .f32)), .val (.sc (.flt .f32))])) = bioC x := by kernel_rfl

noncomputable def bioR0 (l : List AV) : Vars := bif bioB l then bioZe l else bioZm l

noncomputable def bioR : List AV → Vars := Classical.choose (⟨bioR0, rfl⟩ : ∃ f, f = bioR0)

theorem bioR_eq : bioR = bioR0 := Classical.choose_spec (⟨bioR0, rfl⟩ : ∃ f, f = bioR0)

theorem bio_fe24 (x : Vars) : (funH Try.prog G21 noLT true 1000 24 (argsP [.val (.ag kd1), .val (.sc (.flt .f32)), .val (.sc (.flt .f32))] 0 (mkL x 0 (kdsP [.val (.ag kd1), .val (.sc (.flt .f32)), .val (.sc (.flt .f32))]))) (memP [.val (.ag kd1), .val (.sc (.flt .f32)), .val (.sc (.flt .f32))] (mkL x 0 (kdsP [.val (.ag kd1), .val (.sc (.flt .f32)), .val (.sc (.flt .f32))]))) [true]).map (fun r => (normR r.1, untupR r.1 && r.1.flat, r.2)) = some (bio_ve x, true, [bioC x]) := by kernel_rfl

noncomputable def bio_w24 (x : Vars) : AV := .tup [.agg [.sint .i8 ((wrapS .i8 ((bi_v_3 x).i 1))), .sint .i8 ((wrapS .i8 ((bi_v_3 x).i 2))), .sint .i8 ((wrapS .i8 ((bi_v_3 x).i 3))), .sint .i8 ((wrapS .i8 ((bi_v_3 x).i 4)))], .flt .f32 (((bi_v_3 x).u 0)), .sint .i64 (0)]

theorem bio_g24 (x : Vars) : (funH Try.prog G21 noLT true 1000 24 (argsP [.val (.ag kd1), .val (.sc (.flt .f32)), .val (.sc (.flt .f32))] 0 (mkL x 0 (kdsP [.val (.ag kd1), .val (.sc (.flt .f32)), .val (.sc (.flt .f32))]))) (memP [.val (.ag kd1), .val (.sc (.flt .f32)), .val (.sc (.flt .f32))] (mkL x 0 (kdsP [.val (.ag kd1), .val (.sc (.flt .f32)), .val (.sc (.flt .f32))]))) [false]).map (fun r => (normR r.1, untupR r.1 && r.1.flat, r.2)) = some (bio_w24 x, true, [!(bioC x)]) := by kernel_rfl

theorem bio_q24 (x : Vars) : bio_w24 x = bio_vm x := by
  unfold bio_w24 bio_vm
  rw [bi_p0, bi_p1, bi_p2, bi_p3, bi_l, ← tE0_23, ← tE1_23, ← tE2_23, ← tE3_23, tW0 (tG23 x), tW1 (tG23 x), tW2 (tG23 x), tW3 (tG23 x)]

theorem bio_ev24 (x : Vars) : EvP Try.prog G21 24 [.val (.ag kd1), .val (.sc (.flt .f32)), .val (.sc (.flt .f32))] [.ag kd2, .sc (.flt .f32), .sc (.int .i64)] (mkL x 0 (kdsP [.val (.ag kd1), .val (.sc (.flt .f32)), .val (.sc (.flt .f32))])) (bioR0 (mkL x 0 (kdsP [.val (.ag kd1), .val (.sc (.flt .f32)), .val (.sc (.flt .f32))]))) := by
  cases h : bioC x with
  | true =>
    have e : bioR0 (mkL x 0 (kdsP [.val (.ag kd1), .val (.sc (.flt .f32)), .val (.sc (.flt .f32))])) = bioZe (mkL x 0 (kdsP [.val (.ag kd1), .val (.sc (.flt .f32)), .val (.sc (.flt .f32))])) := by unfold bioR0; rw [bio_b, h]; rfl
    rw [e]
    exact EvP.ofH (H := noLT) (J := true) (HFun.none Try.prog _ 24) (mkL_norm ..) (by rw [bio_xe]; exact bio_fe24 x) (allC h allN)
  | false =>
    have e : bioR0 (mkL x 0 (kdsP [.val (.ag kd1), .val (.sc (.flt .f32)), .val (.sc (.flt .f32))])) = bioZm (mkL x 0 (kdsP [.val (.ag kd1), .val (.sc (.flt .f32)), .val (.sc (.flt .f32))])) := by unfold bioR0; rw [bio_b, h]; rfl
    rw [e]
    exact EvP.ofH (H := noLT) (J := true) (HFun.none Try.prog _ 24) (mkL_norm ..) (by rw [bio_xm, ← bio_q24]; exact bio_g24 x) (allC (notT h) allN)

theorem bio_fe23 (x : Vars) : (funH Try.prog G21 Hbs true 1000 23 (argsP [.val (.ag kd1), .val (.sc (.flt .f32)), .val (.sc (.flt .f32))] 0 (mkL x 0 (kdsP [.val (.ag kd1), .val (.sc (.flt .f32)), .val (.sc (.flt .f32))]))) (memP [.val (.ag kd1), .val (.sc (.flt .f32)), .val (.sc (.flt .f32))] (mkL x 0 (kdsP [.val (.ag kd1), .val (.sc (.flt .f32)), .val (.sc (.flt .f32))]))) [true]).map (fun r => (normR r.1, untupR r.1 && r.1.flat, r.2)) = some (bio_ve x, true, [bioS x]) := by kernel_rfl

noncomputable def bio_w23 (x : Vars) : AV := .tup [.agg [.sint .i8 ((bq_v_13 ((bs_v_4 x).2.x.i 0) ((bs_v_4 x).2.x.u 1))), .sint .i8 ((bq_v_29 ((bs_v_4 x).2.x.i 0) ((bs_v_4 x).2.x.u 1))), .sint .i8 ((bq_v_46 ((bs_v_4 x).2.x.i 0) ((bs_v_4 x).2.x.u 1))), .sint .i8 ((bq_v_63 ((bs_v_4 x).2.x.i 0) ((bs_v_4 x).2.x.u 1)))], .flt .f32 ((bq_v_86 ((bs_v_4 x).2.x.i 0) ((bs_v_4 x).2.x.u 1))), .sint .i64 (0)]

theorem bio_g23 (x : Vars) : (funH Try.prog G21 Hbs true 1000 23 (argsP [.val (.ag kd1), .val (.sc (.flt .f32)), .val (.sc (.flt .f32))] 0 (mkL x 0 (kdsP [.val (.ag kd1), .val (.sc (.flt .f32)), .val (.sc (.flt .f32))]))) (memP [.val (.ag kd1), .val (.sc (.flt .f32)), .val (.sc (.flt .f32))] (mkL x 0 (kdsP [.val (.ag kd1), .val (.sc (.flt .f32)), .val (.sc (.flt .f32))]))) [false]).map (fun r => (normR r.1, untupR r.1 && r.1.flat, r.2)) = some (bio_w23 x, true, [bq_in ((bs_v_4 x).2.x.i 0) ((bs_v_4 x).2.x.u 1), bioS2 x]) := by kernel_rfl

theorem bio_q23 (x : Vars) : bio_w23 x = bio_vm x := by
  have h : 0 ≤ ((bs_v_4 x).2.x.i 0) ∧ ((bs_v_4 x).2.x.i 0) < 24 := by rw [bs_q]; exact tG23 x
  unfold bio_w23 bio_vm
  rw [bq_p0 _ _ h, bq_p1 _ _ h, bq_p2 _ _ h, bq_p3 _ _ h, bq_p4 _ _ h, bs_q, bs_l]

theorem bio_ev23 (x : Vars) : EvP Try.prog G21 23 [.val (.ag kd1), .val (.sc (.flt .f32)), .val (.sc (.flt .f32))] [.ag kd2, .sc (.flt .f32), .sc (.int .i64)] (mkL x 0 (kdsP [.val (.ag kd1), .val (.sc (.flt .f32)), .val (.sc (.flt .f32))])) (bioR0 (mkL x 0 (kdsP [.val (.ag kd1), .val (.sc (.flt .f32)), .val (.sc (.flt .f32))]))) := by
  cases h : bioC x with
  | true =>
    have e : bioR0 (mkL x 0 (kdsP [.val (.ag kd1), .val (.sc (.flt .f32)), .val (.sc (.flt .f32))])) = bioZe (mkL x 0 (kdsP [.val (.ag kd1), .val (.sc (.flt .f32)), .val (.sc (.flt .f32))])) := by unfold bioR0; rw [bio_b, h]; rfl
    rw [e]
    exact EvP.ofH (H := Hbs) (J := true) Hbs_ok (mkL_norm ..) (by rw [bio_xe]; exact bio_fe23 x) (allC (bio_s h) allN)
  | false =>
    have e : bioR0 (mkL x 0 (kdsP [.val (.ag kd1), .val (.sc (.flt .f32)), .val (.sc (.flt .f32))])) = bioZm (mkL x 0 (kdsP [.val (.ag kd1), .val (.sc (.flt .f32)), .val (.sc (.flt .f32))])) := by unfold bioR0; rw [bio_b, h]; rfl
    rw [e]
    exact EvP.ofH (H := Hbs) (J := true) Hbs_ok (mkL_norm ..) (by rw [bio_xm, ← bio_q23]; exact bio_g23 x) (allC (bq_t _ _ (by rw [bs_q]; exact tG23 x)) (allC (bio_s2 h) allN))

noncomputable def G22 : Summ := addG 23 (sumP [.val (.ag kd1), .val (.sc (.flt .f32)), .val (.sc (.flt .f32))] [.ag kd2, .sc (.flt .f32), .sc (.int .i64)] (fun _ => []) bioR) G21

theorem G22_ok : SoundG Try.prog G22 := SoundG.sumP G21_ok mixed Try.call23 G21_ok (fun x hx hp => by rw [bioR_eq]; exact (fun x _ _ => bio_ev23 x) x hx hp)

noncomputable def G23 : Summ := addG 24 (sumP [.val (.ag kd1), .val (.sc (.flt .f32)), .val (.sc (.flt .f32))] [.ag kd2, .sc (.flt .f32), .sc (.int .i64)] (fun _ => []) bioR) G22

theorem G23_ok : SoundG Try.prog G23 := SoundG.sumP G22_ok mixed Try.call24 G21_ok (fun x hx hp => by rw [bioR_eq]; exact (fun x _ _ => bio_ev24 x) x hx hp)

end Go.Proofs.Ytekilpllicggeaa

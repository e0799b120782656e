/-
  Facts of this seat that its laws use; no conditions.
-/
import Derived.Test.YtigcbcaknhhgmaaDots1
import Derived.Test.YtigcbcaknhhgmaaSimYa
namespace Go.Proofs.Ytigcbcaknhhgmaa
open Go.Sim Go.ChangeShapes Go.WideShapes Go.ChangeAt Go.RowKit

noncomputable def ds0In (s : SV) : SV := (mkSV [(.flt .f32 (s.x.u 0)), (.flt .f32 (s.x.u 1)), (.sint .i64 (iadd (s.x.i 2) 1)), (.bool false), (.flt .f32 (s.x.u 3)), (.flt .f32 (s.x.u 4)), (.flt .f32 (s.x.u 5)), (.flt .f32 (s.x.u 6)), (.flt .f32 (s.x.u 7)), (.flt .f32 (s.x.u 8)), (.flt .f32 (s.x.u 9)), (.flt .f32 (s.x.u 10)), (.flt .f32 (s.x.u 11)), (.flt .f32 (s.x.u 12)), (.flt .f32 (s.x.u 13)), (.flt .f32 (s.x.u 14)), (.flt .f32 (s.x.u 15)), (.flt .f32 (s.x.u 16)), (.flt .f32 (s.x.u 17)), (.flt .f32 (s.x.u 18)), (.flt .f32 (s.x.u 19)), (.flt .f32 (s.x.u 20)), (.flt .f32 (s.x.u 21)), (.flt .f32 (s.x.u 22)), (.flt .f32 (s.x.u 23)), (.flt .f32 (s.x.u 24)), (.flt .f32 (s.x.u 25)), (.flt .f32 (s.x.u 26)), (.flt .f32 (s.x.u 27)), (.flt .f32 (s.x.u 28)), (.flt .f32 (s.x.u 29)), (.flt .f32 (s.x.u 30)), (.flt .f32 (s.x.u 31)), (.flt .f32 (s.x.u 32)), (.flt .f32 (s.x.u 33)), (.flt .f32 (s.x.u 34)), (.flt .f32 (s.x.u 35)), (.flt .f32 (s.x.u 1)), (.flt .f32 (fneg .f32 (s.x.u 1)))] [] [0, 0, 0, 0, 0] [zeroV, zeroV, zeroV, zeroV, zeroV])

noncomputable def di0In (s : SV) : SV := (mkSV [(.flt .f32 (s.x.u 0)), (.flt .f32 (s.x.u 1)), (.sint .i64 (s.x.i 2)), (.bool false), (.flt .f32 (s.x.u 3)), (.flt .f32 (s.x.u 4)), (.flt .f32 (s.x.u 5)), (.flt .f32 (s.x.u 6)), (.flt .f32 (s.x.u 7)), (.flt .f32 (s.x.u 8)), (.flt .f32 (s.x.u 9)), (.flt .f32 (s.x.u 10)), (.flt .f32 (s.x.u 11)), (.flt .f32 (s.x.u 12)), (.flt .f32 (s.x.u 13)), (.flt .f32 (s.x.u 14)), (.flt .f32 (s.x.u 15)), (.flt .f32 (s.x.u 16)), (.flt .f32 (s.x.u 17)), (.flt .f32 (s.x.u 18)), (.flt .f32 (s.x.u 19)), (.flt .f32 (s.x.u 20)), (.flt .f32 (s.x.u 21)), (.flt .f32 (s.x.u 22)), (.flt .f32 (s.x.u 23)), (.flt .f32 (s.x.u 24)), (.flt .f32 (s.x.u 25)), (.flt .f32 (s.x.u 26)), (.flt .f32 (s.x.u 27)), (.flt .f32 (s.x.u 28)), (.flt .f32 (s.x.u 29)), (.flt .f32 (s.x.u 30)), (.flt .f32 (s.x.u 31)), (.flt .f32 (s.x.u 32)), (.flt .f32 (s.x.u 33)), (.flt .f32 (s.x.u 34)), (.flt .f32 (s.x.u 35)), (.flt .f32 ((di_v_0 s).u 0)), (.flt .f32 ((di_v_1 s).u 0))] [] [0, 0, 0, 0, 0] [zeroV, zeroV, zeroV, zeroV, zeroV])

theorem two0 (s : SV) : (List.range 37).map (di_v_2 s).2.x.u = (List.range 37).map (ds_v_0 s).2.x.u ∧ (di_v_2 s).2.x.b 3 = (ds_v_0 s).2.x.b 3 := by
  have e1 : (List.range 37).map (di0In s).x.u = [(s.x.u 0), (s.x.u 1), 0, 0, (s.x.u 3), (s.x.u 4), (s.x.u 5), (s.x.u 6), (s.x.u 7), (s.x.u 8), (s.x.u 9), (s.x.u 10), (s.x.u 11), (s.x.u 12), (s.x.u 13), (s.x.u 14), (s.x.u 15), (s.x.u 16), (s.x.u 17), (s.x.u 18), (s.x.u 19), (s.x.u 20), (s.x.u 21), (s.x.u 22), (s.x.u 23), (s.x.u 24), (s.x.u 25), (s.x.u 26), (s.x.u 27), (s.x.u 28), (s.x.u 29), (s.x.u 30), (s.x.u 31), (s.x.u 32), (s.x.u 33), (s.x.u 34), (s.x.u 35)] := by kernel_rfl
  have e2 : (List.range 37).map (ds0In s).x.u = [(s.x.u 0), (s.x.u 1), 0, 0, (s.x.u 3), (s.x.u 4), (s.x.u 5), (s.x.u 6), (s.x.u 7), (s.x.u 8), (s.x.u 9), (s.x.u 10), (s.x.u 11), (s.x.u 12), (s.x.u 13), (s.x.u 14), (s.x.u 15), (s.x.u 16), (s.x.u 17), (s.x.u 18), (s.x.u 19), (s.x.u 20), (s.x.u 21), (s.x.u 22), (s.x.u 23), (s.x.u 24), (s.x.u 25), (s.x.u 26), (s.x.u 27), (s.x.u 28), (s.x.u 29), (s.x.u 30), (s.x.u 31), (s.x.u 32), (s.x.u 33), (s.x.u 34), (s.x.u 35)] := by kernel_rfl
  have eh : ([(s.x.u 0), (s.x.u 1), 0, 0, (s.x.u 3), (s.x.u 4), (s.x.u 5), (s.x.u 6), (s.x.u 7), (s.x.u 8), (s.x.u 9), (s.x.u 10), (s.x.u 11), (s.x.u 12), (s.x.u 13), (s.x.u 14), (s.x.u 15), (s.x.u 16), (s.x.u 17), (s.x.u 18), (s.x.u 19), (s.x.u 20), (s.x.u 21), (s.x.u 22), (s.x.u 23), (s.x.u 24), (s.x.u 25), (s.x.u 26), (s.x.u 27), (s.x.u 28), (s.x.u 29), (s.x.u 30), (s.x.u 31), (s.x.u 32), (s.x.u 33), (s.x.u 34), (s.x.u 35)] : List Nat) = [(s.x.u 0), (s.x.u 1), 0, 0, (s.x.u 3), (s.x.u 4), (s.x.u 5), (s.x.u 6), (s.x.u 7), (s.x.u 8), (s.x.u 9), (s.x.u 10), (s.x.u 11), (s.x.u 12), (s.x.u 13), (s.x.u 14), (s.x.u 15), (s.x.u 16), (s.x.u 17), (s.x.u 18), (s.x.u 19), (s.x.u 20), (s.x.u 21), (s.x.u 22), (s.x.u 23), (s.x.u 24), (s.x.u 25), (s.x.u 26), (s.x.u 27), (s.x.u 28), (s.x.u 29), (s.x.u 30), (s.x.u 31), (s.x.u 32), (s.x.u 33), (s.x.u 34), (s.x.u 35)] := by
    rfl
  have ha : (di0In s).x.u 37 = (clipR [(.flt .f32 (farith .add .f32 ((ds0In s).x.u 34) ((ds0In s).x.u 37)))]).u 0 := by
    have k1 : (di0In s).x.u 37 = (di_v_0 s).u 0 := by kernel_rfl
    have k2 : (ds0In s).x.u 34 = (s.x.u 33) := by kernel_rfl
    have k3 : (ds0In s).x.u 37 = (s.x.u 1) := by kernel_rfl
    rw [k1, k2, k3]
    unfold di_v_0
    exact clamp_clip _
  have hc : (di0In s).x.u 38 = (clipR [(.flt .f32 (farith .add .f32 ((ds0In s).x.u 34) ((ds0In s).x.u 38)))]).u 0 := by
    have k1 : (di0In s).x.u 38 = (di_v_1 s).u 0 := by kernel_rfl
    have k2 : (ds0In s).x.u 34 = (s.x.u 33) := by kernel_rfl
    have k3 : (ds0In s).x.u 38 = (fneg .f32 (s.x.u 1)) := by kernel_rfl
    rw [k1, k2, k3]
    unfold di_v_1
    rw [sub_neg]
    exact clamp_clip _
  exact blk0 (ds0In s) (di0In s) (e1.trans (eh.trans e2.symm)) rfl ha hc

noncomputable def ds1In (s : SV) : SV := (mkSV [(.flt .f32 ((ds_v_0 s).2.x.u 0)), (.flt .f32 ((ds_v_0 s).2.x.u 1)), (.sint .i64 ((ds_v_0 s).2.x.i 2)), (.sbool ((ds_v_0 s).2.x.b 3)), (.flt .f32 ((ds_v_0 s).2.x.u 4)), (.flt .f32 ((ds_v_0 s).2.x.u 5)), (.flt .f32 ((ds_v_0 s).2.x.u 6)), (.flt .f32 ((ds_v_0 s).2.x.u 7)), (.flt .f32 ((ds_v_0 s).2.x.u 8)), (.flt .f32 ((ds_v_0 s).2.x.u 9)), (.flt .f32 ((ds_v_0 s).2.x.u 10)), (.flt .f32 ((ds_v_0 s).2.x.u 11)), (.flt .f32 ((ds_v_0 s).2.x.u 12)), (.flt .f32 ((ds_v_0 s).2.x.u 13)), (.flt .f32 ((ds_v_0 s).2.x.u 14)), (.flt .f32 ((ds_v_0 s).2.x.u 15)), (.flt .f32 ((ds_v_0 s).2.x.u 16)), (.flt .f32 ((ds_v_0 s).2.x.u 17)), (.flt .f32 ((ds_v_0 s).2.x.u 18)), (.flt .f32 ((ds_v_0 s).2.x.u 19)), (.flt .f32 ((ds_v_0 s).2.x.u 20)), (.flt .f32 ((ds_v_0 s).2.x.u 21)), (.flt .f32 ((ds_v_0 s).2.x.u 22)), (.flt .f32 ((ds_v_0 s).2.x.u 23)), (.flt .f32 ((ds_v_0 s).2.x.u 24)), (.flt .f32 ((ds_v_0 s).2.x.u 25)), (.flt .f32 ((ds_v_0 s).2.x.u 26)), (.flt .f32 ((ds_v_0 s).2.x.u 27)), (.flt .f32 ((ds_v_0 s).2.x.u 28)), (.flt .f32 ((ds_v_0 s).2.x.u 29)), (.flt .f32 ((ds_v_0 s).2.x.u 30)), (.flt .f32 ((ds_v_0 s).2.x.u 31)), (.flt .f32 ((ds_v_0 s).2.x.u 32)), (.flt .f32 ((ds_v_0 s).2.x.u 33)), (.flt .f32 ((ds_v_0 s).2.x.u 34)), (.flt .f32 ((ds_v_0 s).2.x.u 35)), (.flt .f32 ((ds_v_0 s).2.x.u 36)), (.flt .f32 ((ds_v_0 s).2.x.u 1)), (.flt .f32 (fneg .f32 ((ds_v_0 s).2.x.u 1)))] [] [0, 0, 0, 0, 0] [zeroV, zeroV, zeroV, zeroV, zeroV])

noncomputable def di1In (s : SV) : SV := (mkSV [(.flt .f32 ((di_v_2 s).2.x.u 0)), (.flt .f32 ((di_v_2 s).2.x.u 1)), (.sint .i64 ((di_v_2 s).2.x.i 2)), (.sbool ((di_v_2 s).2.x.b 3)), (.flt .f32 ((di_v_2 s).2.x.u 4)), (.flt .f32 ((di_v_2 s).2.x.u 5)), (.flt .f32 ((di_v_2 s).2.x.u 6)), (.flt .f32 ((di_v_2 s).2.x.u 7)), (.flt .f32 ((di_v_2 s).2.x.u 8)), (.flt .f32 ((di_v_2 s).2.x.u 9)), (.flt .f32 ((di_v_2 s).2.x.u 10)), (.flt .f32 ((di_v_2 s).2.x.u 11)), (.flt .f32 ((di_v_2 s).2.x.u 12)), (.flt .f32 ((di_v_2 s).2.x.u 13)), (.flt .f32 ((di_v_2 s).2.x.u 14)), (.flt .f32 ((di_v_2 s).2.x.u 15)), (.flt .f32 ((di_v_2 s).2.x.u 16)), (.flt .f32 ((di_v_2 s).2.x.u 17)), (.flt .f32 ((di_v_2 s).2.x.u 18)), (.flt .f32 ((di_v_2 s).2.x.u 19)), (.flt .f32 ((di_v_2 s).2.x.u 20)), (.flt .f32 ((di_v_2 s).2.x.u 21)), (.flt .f32 ((di_v_2 s).2.x.u 22)), (.flt .f32 ((di_v_2 s).2.x.u 23)), (.flt .f32 ((di_v_2 s).2.x.u 24)), (.flt .f32 ((di_v_2 s).2.x.u 25)), (.flt .f32 ((di_v_2 s).2.x.u 26)), (.flt .f32 ((di_v_2 s).2.x.u 27)), (.flt .f32 ((di_v_2 s).2.x.u 28)), (.flt .f32 ((di_v_2 s).2.x.u 29)), (.flt .f32 ((di_v_2 s).2.x.u 30)), (.flt .f32 ((di_v_2 s).2.x.u 31)), (.flt .f32 ((di_v_2 s).2.x.u 32)), (.flt .f32 ((di_v_2 s).2.x.u 33)), (.flt .f32 ((di_v_2 s).2.x.u 34)), (.flt .f32 ((di_v_2 s).2.x.u 35)), (.flt .f32 ((di_v_2 s).2.x.u 36)), (.flt .f32 ((di_v_3 s).u 0)), (.flt .f32 ((di_v_4 s).u 0))] [] [0, 0, 0, 0, 0] [zeroV, zeroV, zeroV, zeroV, zeroV])

theorem two1 (s : SV) : (List.range 37).map (di_v_5 s).2.x.u = (List.range 37).map (ds_v_1 s).2.x.u ∧ (di_v_5 s).2.x.b 3 = (ds_v_1 s).2.x.b 3 := by
  have p := two0 s
  have q0 : (di_v_2 s).2.x.u 0 = (ds_v_0 s).2.x.u 0 := congrArg (fun l : List Nat => l.getD 0 0) p.1
  have q1 : (di_v_2 s).2.x.u 1 = (ds_v_0 s).2.x.u 1 := congrArg (fun l : List Nat => l.getD 1 0) p.1
  have q2 : (di_v_2 s).2.x.u 2 = (ds_v_0 s).2.x.u 2 := congrArg (fun l : List Nat => l.getD 2 0) p.1
  have q3 : (di_v_2 s).2.x.u 3 = (ds_v_0 s).2.x.u 3 := congrArg (fun l : List Nat => l.getD 3 0) p.1
  have q4 : (di_v_2 s).2.x.u 4 = (ds_v_0 s).2.x.u 4 := congrArg (fun l : List Nat => l.getD 4 0) p.1
  have q5 : (di_v_2 s).2.x.u 5 = (ds_v_0 s).2.x.u 5 := congrArg (fun l : List Nat => l.getD 5 0) p.1
  have q6 : (di_v_2 s).2.x.u 6 = (ds_v_0 s).2.x.u 6 := congrArg (fun l : List Nat => l.getD 6 0) p.1
  have q7 : (di_v_2 s).2.x.u 7 = (ds_v_0 s).2.x.u 7 := congrArg (fun l : List Nat => l.getD 7 0) p.1
  have q8 : (di_v_2 s).2.x.u 8 = (ds_v_0 s).2.x.u 8 := congrArg (fun l : List Nat => l.getD 8 0) p.1
  have q9 : (di_v_2 s).2.x.u 9 = (ds_v_0 s).2.x.u 9 := congrArg (fun l : List Nat => l.getD 9 0) p.1
  have q10 : (di_v_2 s).2.x.u 10 = (ds_v_0 s).2.x.u 10 := congrArg (fun l : List Nat => l.getD 10 0) p.1
  have q11 : (di_v_2 s).2.x.u 11 = (ds_v_0 s).2.x.u 11 := congrArg (fun l : List Nat => l.getD 11 0) p.1
  have q12 : (di_v_2 s).2.x.u 12 = (ds_v_0 s).2.x.u 12 := congrArg (fun l : List Nat => l.getD 12 0) p.1
  have q13 : (di_v_2 s).2.x.u 13 = (ds_v_0 s).2.x.u 13 := congrArg (fun l : List Nat => l.getD 13 0) p.1
  have q14 : (di_v_2 s).2.x.u 14 = (ds_v_0 s).2.x.u 14 := congrArg (fun l : List Nat => l.getD 14 0) p.1
  have q15 : (di_v_2 s).2.x.u 15 = (ds_v_0 s).2.x.u 15 := congrArg (fun l : List Nat => l.getD 15 0) p.1
  have q16 : (di_v_2 s).2.x.u 16 = (ds_v_0 s).2.x.u 16 := congrArg (fun l : List Nat => l.getD 16 0) p.1
  have q17 : (di_v_2 s).2.x.u 17 = (ds_v_0 s).2.x.u 17 := congrArg (fun l : List Nat => l.getD 17 0) p.1
  have q18 : (di_v_2 s).2.x.u 18 = (ds_v_0 s).2.x.u 18 := congrArg (fun l : List Nat => l.getD 18 0) p.1
  have q19 : (di_v_2 s).2.x.u 19 = (ds_v_0 s).2.x.u 19 := congrArg (fun l : List Nat => l.getD 19 0) p.1
  have q20 : (di_v_2 s).2.x.u 20 = (ds_v_0 s).2.x.u 20 := congrArg (fun l : List Nat => l.getD 20 0) p.1
  have q21 : (di_v_2 s).2.x.u 21 = (ds_v_0 s).2.x.u 21 := congrArg (fun l : List Nat => l.getD 21 0) p.1
  have q22 : (di_v_2 s).2.x.u 22 = (ds_v_0 s).2.x.u 22 := congrArg (fun l : List Nat => l.getD 22 0) p.1
  have q23 : (di_v_2 s).2.x.u 23 = (ds_v_0 s).2.x.u 23 := congrArg (fun l : List Nat => l.getD 23 0) p.1
  have q24 : (di_v_2 s).2.x.u 24 = (ds_v_0 s).2.x.u 24 := congrArg (fun l : List Nat => l.getD 24 0) p.1
  have q25 : (di_v_2 s).2.x.u 25 = (ds_v_0 s).2.x.u 25 := congrArg (fun l : List Nat => l.getD 25 0) p.1
  have q26 : (di_v_2 s).2.x.u 26 = (ds_v_0 s).2.x.u 26 := congrArg (fun l : List Nat => l.getD 26 0) p.1
  have q27 : (di_v_2 s).2.x.u 27 = (ds_v_0 s).2.x.u 27 := congrArg (fun l : List Nat => l.getD 27 0) p.1
  have q28 : (di_v_2 s).2.x.u 28 = (ds_v_0 s).2.x.u 28 := congrArg (fun l : List Nat => l.getD 28 0) p.1
  have q29 : (di_v_2 s).2.x.u 29 = (ds_v_0 s).2.x.u 29 := congrArg (fun l : List Nat => l.getD 29 0) p.1
  have q30 : (di_v_2 s).2.x.u 30 = (ds_v_0 s).2.x.u 30 := congrArg (fun l : List Nat => l.getD 30 0) p.1
  have q31 : (di_v_2 s).2.x.u 31 = (ds_v_0 s).2.x.u 31 := congrArg (fun l : List Nat => l.getD 31 0) p.1
  have q32 : (di_v_2 s).2.x.u 32 = (ds_v_0 s).2.x.u 32 := congrArg (fun l : List Nat => l.getD 32 0) p.1
  have q33 : (di_v_2 s).2.x.u 33 = (ds_v_0 s).2.x.u 33 := congrArg (fun l : List Nat => l.getD 33 0) p.1
  have q34 : (di_v_2 s).2.x.u 34 = (ds_v_0 s).2.x.u 34 := congrArg (fun l : List Nat => l.getD 34 0) p.1
  have q35 : (di_v_2 s).2.x.u 35 = (ds_v_0 s).2.x.u 35 := congrArg (fun l : List Nat => l.getD 35 0) p.1
  have q36 : (di_v_2 s).2.x.u 36 = (ds_v_0 s).2.x.u 36 := congrArg (fun l : List Nat => l.getD 36 0) p.1
  have e1 : (List.range 37).map (di1In s).x.u = [((di_v_2 s).2.x.u 0), ((di_v_2 s).2.x.u 1), 0, 0, ((di_v_2 s).2.x.u 4), ((di_v_2 s).2.x.u 5), ((di_v_2 s).2.x.u 6), ((di_v_2 s).2.x.u 7), ((di_v_2 s).2.x.u 8), ((di_v_2 s).2.x.u 9), ((di_v_2 s).2.x.u 10), ((di_v_2 s).2.x.u 11), ((di_v_2 s).2.x.u 12), ((di_v_2 s).2.x.u 13), ((di_v_2 s).2.x.u 14), ((di_v_2 s).2.x.u 15), ((di_v_2 s).2.x.u 16), ((di_v_2 s).2.x.u 17), ((di_v_2 s).2.x.u 18), ((di_v_2 s).2.x.u 19), ((di_v_2 s).2.x.u 20), ((di_v_2 s).2.x.u 21), ((di_v_2 s).2.x.u 22), ((di_v_2 s).2.x.u 23), ((di_v_2 s).2.x.u 24), ((di_v_2 s).2.x.u 25), ((di_v_2 s).2.x.u 26), ((di_v_2 s).2.x.u 27), ((di_v_2 s).2.x.u 28), ((di_v_2 s).2.x.u 29), ((di_v_2 s).2.x.u 30), ((di_v_2 s).2.x.u 31), ((di_v_2 s).2.x.u 32), ((di_v_2 s).2.x.u 33), ((di_v_2 s).2.x.u 34), ((di_v_2 s).2.x.u 35), ((di_v_2 s).2.x.u 36)] := by kernel_rfl
  have e2 : (List.range 37).map (ds1In s).x.u = [((ds_v_0 s).2.x.u 0), ((ds_v_0 s).2.x.u 1), 0, 0, ((ds_v_0 s).2.x.u 4), ((ds_v_0 s).2.x.u 5), ((ds_v_0 s).2.x.u 6), ((ds_v_0 s).2.x.u 7), ((ds_v_0 s).2.x.u 8), ((ds_v_0 s).2.x.u 9), ((ds_v_0 s).2.x.u 10), ((ds_v_0 s).2.x.u 11), ((ds_v_0 s).2.x.u 12), ((ds_v_0 s).2.x.u 13), ((ds_v_0 s).2.x.u 14), ((ds_v_0 s).2.x.u 15), ((ds_v_0 s).2.x.u 16), ((ds_v_0 s).2.x.u 17), ((ds_v_0 s).2.x.u 18), ((ds_v_0 s).2.x.u 19), ((ds_v_0 s).2.x.u 20), ((ds_v_0 s).2.x.u 21), ((ds_v_0 s).2.x.u 22), ((ds_v_0 s).2.x.u 23), ((ds_v_0 s).2.x.u 24), ((ds_v_0 s).2.x.u 25), ((ds_v_0 s).2.x.u 26), ((ds_v_0 s).2.x.u 27), ((ds_v_0 s).2.x.u 28), ((ds_v_0 s).2.x.u 29), ((ds_v_0 s).2.x.u 30), ((ds_v_0 s).2.x.u 31), ((ds_v_0 s).2.x.u 32), ((ds_v_0 s).2.x.u 33), ((ds_v_0 s).2.x.u 34), ((ds_v_0 s).2.x.u 35), ((ds_v_0 s).2.x.u 36)] := by kernel_rfl
  have eh : ([((di_v_2 s).2.x.u 0), ((di_v_2 s).2.x.u 1), 0, 0, ((di_v_2 s).2.x.u 4), ((di_v_2 s).2.x.u 5), ((di_v_2 s).2.x.u 6), ((di_v_2 s).2.x.u 7), ((di_v_2 s).2.x.u 8), ((di_v_2 s).2.x.u 9), ((di_v_2 s).2.x.u 10), ((di_v_2 s).2.x.u 11), ((di_v_2 s).2.x.u 12), ((di_v_2 s).2.x.u 13), ((di_v_2 s).2.x.u 14), ((di_v_2 s).2.x.u 15), ((di_v_2 s).2.x.u 16), ((di_v_2 s).2.x.u 17), ((di_v_2 s).2.x.u 18), ((di_v_2 s).2.x.u 19), ((di_v_2 s).2.x.u 20), ((di_v_2 s).2.x.u 21), ((di_v_2 s).2.x.u 22), ((di_v_2 s).2.x.u 23), ((di_v_2 s).2.x.u 24), ((di_v_2 s).2.x.u 25), ((di_v_2 s).2.x.u 26), ((di_v_2 s).2.x.u 27), ((di_v_2 s).2.x.u 28), ((di_v_2 s).2.x.u 29), ((di_v_2 s).2.x.u 30), ((di_v_2 s).2.x.u 31), ((di_v_2 s).2.x.u 32), ((di_v_2 s).2.x.u 33), ((di_v_2 s).2.x.u 34), ((di_v_2 s).2.x.u 35), ((di_v_2 s).2.x.u 36)] : List Nat) = [((ds_v_0 s).2.x.u 0), ((ds_v_0 s).2.x.u 1), 0, 0, ((ds_v_0 s).2.x.u 4), ((ds_v_0 s).2.x.u 5), ((ds_v_0 s).2.x.u 6), ((ds_v_0 s).2.x.u 7), ((ds_v_0 s).2.x.u 8), ((ds_v_0 s).2.x.u 9), ((ds_v_0 s).2.x.u 10), ((ds_v_0 s).2.x.u 11), ((ds_v_0 s).2.x.u 12), ((ds_v_0 s).2.x.u 13), ((ds_v_0 s).2.x.u 14), ((ds_v_0 s).2.x.u 15), ((ds_v_0 s).2.x.u 16), ((ds_v_0 s).2.x.u 17), ((ds_v_0 s).2.x.u 18), ((ds_v_0 s).2.x.u 19), ((ds_v_0 s).2.x.u 20), ((ds_v_0 s).2.x.u 21), ((ds_v_0 s).2.x.u 22), ((ds_v_0 s).2.x.u 23), ((ds_v_0 s).2.x.u 24), ((ds_v_0 s).2.x.u 25), ((ds_v_0 s).2.x.u 26), ((ds_v_0 s).2.x.u 27), ((ds_v_0 s).2.x.u 28), ((ds_v_0 s).2.x.u 29), ((ds_v_0 s).2.x.u 30), ((ds_v_0 s).2.x.u 31), ((ds_v_0 s).2.x.u 32), ((ds_v_0 s).2.x.u 33), ((ds_v_0 s).2.x.u 34), ((ds_v_0 s).2.x.u 35), ((ds_v_0 s).2.x.u 36)] := by
    simp only [*]
  have ha : (di1In s).x.u 37 = (clipR [(.flt .f32 (farith .add .f32 ((ds1In s).x.u 35) ((ds1In s).x.u 37)))]).u 0 := by
    have k1 : (di1In s).x.u 37 = (di_v_3 s).u 0 := by kernel_rfl
    have k2 : (ds1In s).x.u 35 = ((ds_v_0 s).2.x.u 35) := by kernel_rfl
    have k3 : (ds1In s).x.u 37 = ((ds_v_0 s).2.x.u 1) := by kernel_rfl
    rw [k1, k2, k3]
    unfold di_v_3
    rw [q35, q1]
    exact clamp_clip _
  have hc : (di1In s).x.u 38 = (clipR [(.flt .f32 (farith .add .f32 ((ds1In s).x.u 35) ((ds1In s).x.u 38)))]).u 0 := by
    have k1 : (di1In s).x.u 38 = (di_v_4 s).u 0 := by kernel_rfl
    have k2 : (ds1In s).x.u 35 = ((ds_v_0 s).2.x.u 35) := by kernel_rfl
    have k3 : (ds1In s).x.u 38 = (fneg .f32 ((ds_v_0 s).2.x.u 1)) := by kernel_rfl
    rw [k1, k2, k3]
    unfold di_v_4
    rw [q35, q1]
    rw [sub_neg]
    exact clamp_clip _
  exact blk1 (ds1In s) (di1In s) (e1.trans (eh.trans e2.symm)) p.2 ha hc

noncomputable def ds2In (s : SV) : SV := (mkSV [(.flt .f32 ((ds_v_1 s).2.x.u 0)), (.flt .f32 ((ds_v_1 s).2.x.u 1)), (.sint .i64 ((ds_v_1 s).2.x.i 2)), (.sbool ((ds_v_1 s).2.x.b 3)), (.flt .f32 ((ds_v_1 s).2.x.u 4)), (.flt .f32 ((ds_v_1 s).2.x.u 5)), (.flt .f32 ((ds_v_1 s).2.x.u 6)), (.flt .f32 ((ds_v_1 s).2.x.u 7)), (.flt .f32 ((ds_v_1 s).2.x.u 8)), (.flt .f32 ((ds_v_1 s).2.x.u 9)), (.flt .f32 ((ds_v_1 s).2.x.u 10)), (.flt .f32 ((ds_v_1 s).2.x.u 11)), (.flt .f32 ((ds_v_1 s).2.x.u 12)), (.flt .f32 ((ds_v_1 s).2.x.u 13)), (.flt .f32 ((ds_v_1 s).2.x.u 14)), (.flt .f32 ((ds_v_1 s).2.x.u 15)), (.flt .f32 ((ds_v_1 s).2.x.u 16)), (.flt .f32 ((ds_v_1 s).2.x.u 17)), (.flt .f32 ((ds_v_1 s).2.x.u 18)), (.flt .f32 ((ds_v_1 s).2.x.u 19)), (.flt .f32 ((ds_v_1 s).2.x.u 20)), (.flt .f32 ((ds_v_1 s).2.x.u 21)), (.flt .f32 ((ds_v_1 s).2.x.u 22)), (.flt .f32 ((ds_v_1 s).2.x.u 23)), (.flt .f32 ((ds_v_1 s).2.x.u 24)), (.flt .f32 ((ds_v_1 s).2.x.u 25)), (.flt .f32 ((ds_v_1 s).2.x.u 26)), (.flt .f32 ((ds_v_1 s).2.x.u 27)), (.flt .f32 ((ds_v_1 s).2.x.u 28)), (.flt .f32 ((ds_v_1 s).2.x.u 29)), (.flt .f32 ((ds_v_1 s).2.x.u 30)), (.flt .f32 ((ds_v_1 s).2.x.u 31)), (.flt .f32 ((ds_v_1 s).2.x.u 32)), (.flt .f32 ((ds_v_1 s).2.x.u 33)), (.flt .f32 ((ds_v_1 s).2.x.u 34)), (.flt .f32 ((ds_v_1 s).2.x.u 35)), (.flt .f32 ((ds_v_1 s).2.x.u 36)), (.flt .f32 ((ds_v_1 s).2.x.u 1)), (.flt .f32 (fneg .f32 ((ds_v_1 s).2.x.u 1)))] [] [0, 0, 0, 0, 0] [zeroV, zeroV, zeroV, zeroV, zeroV])

noncomputable def di2In (s : SV) : SV := (mkSV [(.flt .f32 ((di_v_5 s).2.x.u 0)), (.flt .f32 ((di_v_5 s).2.x.u 1)), (.sint .i64 ((di_v_5 s).2.x.i 2)), (.sbool ((di_v_5 s).2.x.b 3)), (.flt .f32 ((di_v_5 s).2.x.u 4)), (.flt .f32 ((di_v_5 s).2.x.u 5)), (.flt .f32 ((di_v_5 s).2.x.u 6)), (.flt .f32 ((di_v_5 s).2.x.u 7)), (.flt .f32 ((di_v_5 s).2.x.u 8)), (.flt .f32 ((di_v_5 s).2.x.u 9)), (.flt .f32 ((di_v_5 s).2.x.u 10)), (.flt .f32 ((di_v_5 s).2.x.u 11)), (.flt .f32 ((di_v_5 s).2.x.u 12)), (.flt .f32 ((di_v_5 s).2.x.u 13)), (.flt .f32 ((di_v_5 s).2.x.u 14)), (.flt .f32 ((di_v_5 s).2.x.u 15)), (.flt .f32 ((di_v_5 s).2.x.u 16)), (.flt .f32 ((di_v_5 s).2.x.u 17)), (.flt .f32 ((di_v_5 s).2.x.u 18)), (.flt .f32 ((di_v_5 s).2.x.u 19)), (.flt .f32 ((di_v_5 s).2.x.u 20)), (.flt .f32 ((di_v_5 s).2.x.u 21)), (.flt .f32 ((di_v_5 s).2.x.u 22)), (.flt .f32 ((di_v_5 s).2.x.u 23)), (.flt .f32 ((di_v_5 s).2.x.u 24)), (.flt .f32 ((di_v_5 s).2.x.u 25)), (.flt .f32 ((di_v_5 s).2.x.u 26)), (.flt .f32 ((di_v_5 s).2.x.u 27)), (.flt .f32 ((di_v_5 s).2.x.u 28)), (.flt .f32 ((di_v_5 s).2.x.u 29)), (.flt .f32 ((di_v_5 s).2.x.u 30)), (.flt .f32 ((di_v_5 s).2.x.u 31)), (.flt .f32 ((di_v_5 s).2.x.u 32)), (.flt .f32 ((di_v_5 s).2.x.u 33)), (.flt .f32 ((di_v_5 s).2.x.u 34)), (.flt .f32 ((di_v_5 s).2.x.u 35)), (.flt .f32 ((di_v_5 s).2.x.u 36)), (.flt .f32 ((di_v_6 s).u 0)), (.flt .f32 ((di_v_7 s).u 0))] [] [0, 0, 0, 0, 0] [zeroV, zeroV, zeroV, zeroV, zeroV])

theorem two2 (s : SV) : (List.range 37).map (di_v_8 s).2.x.u = (List.range 37).map (ds_v_2 s).2.x.u ∧ (di_v_8 s).2.x.b 3 = (ds_v_2 s).2.x.b 3 := by
  have p := two1 s
  have q0 : (di_v_5 s).2.x.u 0 = (ds_v_1 s).2.x.u 0 := congrArg (fun l : List Nat => l.getD 0 0) p.1
  have q1 : (di_v_5 s).2.x.u 1 = (ds_v_1 s).2.x.u 1 := congrArg (fun l : List Nat => l.getD 1 0) p.1
  have q2 : (di_v_5 s).2.x.u 2 = (ds_v_1 s).2.x.u 2 := congrArg (fun l : List Nat => l.getD 2 0) p.1
  have q3 : (di_v_5 s).2.x.u 3 = (ds_v_1 s).2.x.u 3 := congrArg (fun l : List Nat => l.getD 3 0) p.1
  have q4 : (di_v_5 s).2.x.u 4 = (ds_v_1 s).2.x.u 4 := congrArg (fun l : List Nat => l.getD 4 0) p.1
  have q5 : (di_v_5 s).2.x.u 5 = (ds_v_1 s).2.x.u 5 := congrArg (fun l : List Nat => l.getD 5 0) p.1
  have q6 : (di_v_5 s).2.x.u 6 = (ds_v_1 s).2.x.u 6 := congrArg (fun l : List Nat => l.getD 6 0) p.1
  have q7 : (di_v_5 s).2.x.u 7 = (ds_v_1 s).2.x.u 7 := congrArg (fun l : List Nat => l.getD 7 0) p.1
  have q8 : (di_v_5 s).2.x.u 8 = (ds_v_1 s).2.x.u 8 := congrArg (fun l : List Nat => l.getD 8 0) p.1
  have q9 : (di_v_5 s).2.x.u 9 = (ds_v_1 s).2.x.u 9 := congrArg (fun l : List Nat => l.getD 9 0) p.1
  have q10 : (di_v_5 s).2.x.u 10 = (ds_v_1 s).2.x.u 10 := congrArg (fun l : List Nat => l.getD 10 0) p.1
  have q11 : (di_v_5 s).2.x.u 11 = (ds_v_1 s).2.x.u 11 := congrArg (fun l : List Nat => l.getD 11 0) p.1
  have q12 : (di_v_5 s).2.x.u 12 = (ds_v_1 s).2.x.u 12 := congrArg (fun l : List Nat => l.getD 12 0) p.1
  have q13 : (di_v_5 s).2.x.u 13 = (ds_v_1 s).2.x.u 13 := congrArg (fun l : List Nat => l.getD 13 0) p.1
  have q14 : (di_v_5 s).2.x.u 14 = (ds_v_1 s).2.x.u 14 := congrArg (fun l : List Nat => l.getD 14 0) p.1
  have q15 : (di_v_5 s).2.x.u 15 = (ds_v_1 s).2.x.u 15 := congrArg (fun l : List Nat => l.getD 15 0) p.1
  have q16 : (di_v_5 s).2.x.u 16 = (ds_v_1 s).2.x.u 16 := congrArg (fun l : List Nat => l.getD 16 0) p.1
  have q17 : (di_v_5 s).2.x.u 17 = (ds_v_1 s).2.x.u 17 := congrArg (fun l : List Nat => l.getD 17 0) p.1
  have q18 : (di_v_5 s).2.x.u 18 = (ds_v_1 s).2.x.u 18 := congrArg (fun l : List Nat => l.getD 18 0) p.1
  have q19 : (di_v_5 s).2.x.u 19 = (ds_v_1 s).2.x.u 19 := congrArg (fun l : List Nat => l.getD 19 0) p.1
  have q20 : (di_v_5 s).2.x.u 20 = (ds_v_1 s).2.x.u 20 := congrArg (fun l : List Nat => l.getD 20 0) p.1
  have q21 : (di_v_5 s).2.x.u 21 = (ds_v_1 s).2.x.u 21 := congrArg (fun l : List Nat => l.getD 21 0) p.1
  have q22 : (di_v_5 s).2.x.u 22 = (ds_v_1 s).2.x.u 22 := congrArg (fun l : List Nat => l.getD 22 0) p.1
  have q23 : (di_v_5 s).2.x.u 23 = (ds_v_1 s).2.x.u 23 := congrArg (fun l : List Nat => l.getD 23 0) p.1
  have q24 : (di_v_5 s).2.x.u 24 = (ds_v_1 s).2.x.u 24 := congrArg (fun l : List Nat => l.getD 24 0) p.1
  have q25 : (di_v_5 s).2.x.u 25 = (ds_v_1 s).2.x.u 25 := congrArg (fun l : List Nat => l.getD 25 0) p.1
  have q26 : (di_v_5 s).2.x.u 26 = (ds_v_1 s).2.x.u 26 := congrArg (fun l : List Nat => l.getD 26 0) p.1
  have q27 : (di_v_5 s).2.x.u 27 = (ds_v_1 s).2.x.u 27 := congrArg (fun l : List Nat => l.getD 27 0) p.1
  have q28 : (di_v_5 s).2.x.u 28 = (ds_v_1 s).2.x.u 28 := congrArg (fun l : List Nat => l.getD 28 0) p.1
  have q29 : (di_v_5 s).2.x.u 29 = (ds_v_1 s).2.x.u 29 := congrArg (fun l : List Nat => l.getD 29 0) p.1
  have q30 : (di_v_5 s).2.x.u 30 = (ds_v_1 s).2.x.u 30 := congrArg (fun l : List Nat => l.getD 30 0) p.1
  have q31 : (di_v_5 s).2.x.u 31 = (ds_v_1 s).2.x.u 31 := congrArg (fun l : List Nat => l.getD 31 0) p.1
  have q32 : (di_v_5 s).2.x.u 32 = (ds_v_1 s).2.x.u 32 := congrArg (fun l : List Nat => l.getD 32 0) p.1
  have q33 : (di_v_5 s).2.x.u 33 = (ds_v_1 s).2.x.u 33 := congrArg (fun l : List Nat => l.getD 33 0) p.1
  have q34 : (di_v_5 s).2.x.u 34 = (ds_v_1 s).2.x.u 34 := congrArg (fun l : List Nat => l.getD 34 0) p.1
  have q35 : (di_v_5 s).2.x.u 35 = (ds_v_1 s).2.x.u 35 := congrArg (fun l : List Nat => l.getD 35 0) p.1
  have q36 : (di_v_5 s).2.x.u 36 = (ds_v_1 s).2.x.u 36 := congrArg (fun l : List Nat => l.getD 36 0) p.1
  have e1 : (List.range 37).map (di2In s).x.u = [((di_v_5 s).2.x.u 0), ((di_v_5 s).2.x.u 1), 0, 0, ((di_v_5 s).2.x.u 4), ((di_v_5 s).2.x.u 5), ((di_v_5 s).2.x.u 6), ((di_v_5 s).2.x.u 7), ((di_v_5 s).2.x.u 8), ((di_v_5 s).2.x.u 9), ((di_v_5 s).2.x.u 10), ((di_v_5 s).2.x.u 11), ((di_v_5 s).2.x.u 12), ((di_v_5 s).2.x.u 13), ((di_v_5 s).2.x.u 14), ((di_v_5 s).2.x.u 15), ((di_v_5 s).2.x.u 16), ((di_v_5 s).2.x.u 17), ((di_v_5 s).2.x.u 18), ((di_v_5 s).2.x.u 19), ((di_v_5 s).2.x.u 20), ((di_v_5 s).2.x.u 21), ((di_v_5 s).2.x.u 22), ((di_v_5 s).2.x.u 23), ((di_v_5 s).2.x.u 24), ((di_v_5 s).2.x.u 25), ((di_v_5 s).2.x.u 26), ((di_v_5 s).2.x.u 27), ((di_v_5 s).2.x.u 28), ((di_v_5 s).2.x.u 29), ((di_v_5 s).2.x.u 30), ((di_v_5 s).2.x.u 31), ((di_v_5 s).2.x.u 32), ((di_v_5 s).2.x.u 33), ((di_v_5 s).2.x.u 34), ((di_v_5 s).2.x.u 35), ((di_v_5 s).2.x.u 36)] := by kernel_rfl
  have e2 : (List.range 37).map (ds2In s).x.u = [((ds_v_1 s).2.x.u 0), ((ds_v_1 s).2.x.u 1), 0, 0, ((ds_v_1 s).2.x.u 4), ((ds_v_1 s).2.x.u 5), ((ds_v_1 s).2.x.u 6), ((ds_v_1 s).2.x.u 7), ((ds_v_1 s).2.x.u 8), ((ds_v_1 s).2.x.u 9), ((ds_v_1 s).2.x.u 10), ((ds_v_1 s).2.x.u 11), ((ds_v_1 s).2.x.u 12), ((ds_v_1 s).2.x.u 13), ((ds_v_1 s).2.x.u 14), ((ds_v_1 s).2.x.u 15), ((ds_v_1 s).2.x.u 16), ((ds_v_1 s).2.x.u 17), ((ds_v_1 s).2.x.u 18), ((ds_v_1 s).2.x.u 19), ((ds_v_1 s).2.x.u 20), ((ds_v_1 s).2.x.u 21), ((ds_v_1 s).2.x.u 22), ((ds_v_1 s).2.x.u 23), ((ds_v_1 s).2.x.u 24), ((ds_v_1 s).2.x.u 25), ((ds_v_1 s).2.x.u 26), ((ds_v_1 s).2.x.u 27), ((ds_v_1 s).2.x.u 28), ((ds_v_1 s).2.x.u 29), ((ds_v_1 s).2.x.u 30), ((ds_v_1 s).2.x.u 31), ((ds_v_1 s).2.x.u 32), ((ds_v_1 s).2.x.u 33), ((ds_v_1 s).2.x.u 34), ((ds_v_1 s).2.x.u 35), ((ds_v_1 s).2.x.u 36)] := by kernel_rfl
  have eh : ([((di_v_5 s).2.x.u 0), ((di_v_5 s).2.x.u 1), 0, 0, ((di_v_5 s).2.x.u 4), ((di_v_5 s).2.x.u 5), ((di_v_5 s).2.x.u 6), ((di_v_5 s).2.x.u 7), ((di_v_5 s).2.x.u 8), ((di_v_5 s).2.x.u 9), ((di_v_5 s).2.x.u 10), ((di_v_5 s).2.x.u 11), ((di_v_5 s).2.x.u 12), ((di_v_5 s).2.x.u 13), ((di_v_5 s).2.x.u 14), ((di_v_5 s).2.x.u 15), ((di_v_5 s).2.x.u 16), ((di_v_5 s).2.x.u 17), ((di_v_5 s).2.x.u 18), ((di_v_5 s).2.x.u 19), ((di_v_5 s).2.x.u 20), ((di_v_5 s).2.x.u 21), ((di_v_5 s).2.x.u 22), ((di_v_5 s).2.x.u 23), ((di_v_5 s).2.x.u 24), ((di_v_5 s).2.x.u 25), ((di_v_5 s).2.x.u 26), ((di_v_5 s).2.x.u 27), ((di_v_5 s).2.x.u 28), ((di_v_5 s).2.x.u 29), ((di_v_5 s).2.x.u 30), ((di_v_5 s).2.x.u 31), ((di_v_5 s).2.x.u 32), ((di_v_5 s).2.x.u 33), ((di_v_5 s).2.x.u 34), ((di_v_5 s).2.x.u 35), ((di_v_5 s).2.x.u 36)] : List Nat) = [((ds_v_1 s).2.x.u 0), ((ds_v_1 s).2.x.u 1), 0, 0, ((ds_v_1 s).2.x.u 4), ((ds_v_1 s).2.x.u 5), ((ds_v_1 s).2.x.u 6), ((ds_v_1 s).2.x.u 7), ((ds_v_1 s).2.x.u 8), ((ds_v_1 s).2.x.u 9), ((ds_v_1 s).2.x.u 10), ((ds_v_1 s).2.x.u 11), ((ds_v_1 s).2.x.u 12), ((ds_v_1 s).2.x.u 13), ((ds_v_1 s).2.x.u 14), ((ds_v_1 s).2.x.u 15), ((ds_v_1 s).2.x.u 16), ((ds_v_1 s).2.x.u 17), ((ds_v_1 s).2.x.u 18), ((ds_v_1 s).2.x.u 19), ((ds_v_1 s).2.x.u 20), ((ds_v_1 s).2.x.u 21), ((ds_v_1 s).2.x.u 22), ((ds_v_1 s).2.x.u 23), ((ds_v_1 s).2.x.u 24), ((ds_v_1 s).2.x.u 25), ((ds_v_1 s).2.x.u 26), ((ds_v_1 s).2.x.u 27), ((ds_v_1 s).2.x.u 28), ((ds_v_1 s).2.x.u 29), ((ds_v_1 s).2.x.u 30), ((ds_v_1 s).2.x.u 31), ((ds_v_1 s).2.x.u 32), ((ds_v_1 s).2.x.u 33), ((ds_v_1 s).2.x.u 34), ((ds_v_1 s).2.x.u 35), ((ds_v_1 s).2.x.u 36)] := by
    simp only [*]
  have ha : (di2In s).x.u 37 = (clipR [(.flt .f32 (farith .add .f32 ((ds2In s).x.u 36) ((ds2In s).x.u 37)))]).u 0 := by
    have k1 : (di2In s).x.u 37 = (di_v_6 s).u 0 := by kernel_rfl
    have k2 : (ds2In s).x.u 36 = ((ds_v_1 s).2.x.u 36) := by kernel_rfl
    have k3 : (ds2In s).x.u 37 = ((ds_v_1 s).2.x.u 1) := by kernel_rfl
    rw [k1, k2, k3]
    unfold di_v_6
    rw [q36, q1]
    exact clamp_clip _
  have hc : (di2In s).x.u 38 = (clipR [(.flt .f32 (farith .add .f32 ((ds2In s).x.u 36) ((ds2In s).x.u 38)))]).u 0 := by
    have k1 : (di2In s).x.u 38 = (di_v_7 s).u 0 := by kernel_rfl
    have k2 : (ds2In s).x.u 36 = ((ds_v_1 s).2.x.u 36) := by kernel_rfl
    have k3 : (ds2In s).x.u 38 = (fneg .f32 ((ds_v_1 s).2.x.u 1)) := by kernel_rfl
    rw [k1, k2, k3]
    unfold di_v_7
    rw [q36, q1]
    rw [sub_neg]
    exact clamp_clip _
  exact blk2 (ds2In s) (di2In s) (e1.trans (eh.trans e2.symm)) p.2 ha hc

theorem ds_r0 (s : SV) : (ds_v_0 s).2.x.i 2 = iadd (s.x.i 2) 1 :=
  ((ds0_keep (ds0In s)).1 : (ds0F (ds0In s)).2.x.i 2 = iadd (s.x.i 2) 1)

theorem ds_s0 (s : SV) : (ds_v_0 s).2.x.u 1 = s.x.u 1 :=
  ((ds0_keep (ds0In s)).2 : (ds0F (ds0In s)).2.x.u 1 = s.x.u 1)

theorem ds_r1 (s : SV) : (ds_v_1 s).2.x.i 2 = iadd (s.x.i 2) 1 :=
  ((ds1_keep (ds1In s)).1.trans (ds_r0 s) : (ds1F (ds1In s)).2.x.i 2 = iadd (s.x.i 2) 1)

theorem ds_s1 (s : SV) : (ds_v_1 s).2.x.u 1 = s.x.u 1 :=
  ((ds1_keep (ds1In s)).2.trans (ds_s0 s) : (ds1F (ds1In s)).2.x.u 1 = s.x.u 1)

theorem ds_r2 (s : SV) : (ds_v_2 s).2.x.i 2 = iadd (s.x.i 2) 1 :=
  ((ds2_keep (ds2In s)).1.trans (ds_r1 s) : (ds2F (ds2In s)).2.x.i 2 = iadd (s.x.i 2) 1)

theorem ds_s2 (s : SV) : (ds_v_2 s).2.x.u 1 = s.x.u 1 :=
  ((ds2_keep (ds2In s)).2.trans (ds_s1 s) : (ds2F (ds2In s)).2.x.u 1 = s.x.u 1)

theorem di_r0 (s : SV) : (di_v_2 s).2.x.i 2 = s.x.i 2 :=
  ((di0_keep (di0In s)).1 : (di0F (di0In s)).2.x.i 2 = s.x.i 2)

theorem di_s0 (s : SV) : (di_v_2 s).2.x.u 1 = s.x.u 1 :=
  ((di0_keep (di0In s)).2 : (di0F (di0In s)).2.x.u 1 = s.x.u 1)

theorem di_r1 (s : SV) : (di_v_5 s).2.x.i 2 = s.x.i 2 :=
  ((di1_keep (di1In s)).1.trans (di_r0 s) : (di1F (di1In s)).2.x.i 2 = s.x.i 2)

theorem di_s1 (s : SV) : (di_v_5 s).2.x.u 1 = s.x.u 1 :=
  ((di1_keep (di1In s)).2.trans (di_s0 s) : (di1F (di1In s)).2.x.u 1 = s.x.u 1)

theorem di_r2 (s : SV) : (di_v_8 s).2.x.i 2 = s.x.i 2 :=
  ((di2_keep (di2In s)).1.trans (di_r1 s) : (di2F (di2In s)).2.x.i 2 = s.x.i 2)

theorem di_s2 (s : SV) : (di_v_8 s).2.x.u 1 = s.x.u 1 :=
  ((di2_keep (di2In s)).2.trans (di_s1 s) : (di2F (di2In s)).2.x.u 1 = s.x.u 1)

theorem dsN_i (s : SV) : (dsN s).x.i 2 = iadd (s.x.i 2) 1 := by
  have e : (dsN s).x.i 2 = (bif (!((ds_v_2 s).2.x.b 3)) then ((ds_v_2 s).2.x.i 2) else ((ds_v_2 s).2.x.i 2)) := by kernel_rfl
  rw [e, Bool.cond_self, ds_r2]

theorem diN_i (s : SV) : (diN s).x.i 2 = iadd (s.x.i 2) 1 := by
  have e : (diN s).x.i 2 = iadd (bif (!((di_v_8 s).2.x.b 3)) then ((di_v_8 s).2.x.i 2) else ((di_v_8 s).2.x.i 2)) 1 := by kernel_rfl
  rw [e, Bool.cond_self, di_r2]

theorem dsN_s (s : SV) (h : isNan .f32 (s.x.u 1) = false) : isNan .f32 ((dsN s).x.u 1) = false := by
  have e : (dsN s).x.u 1 = (bif (!((ds_v_2 s).2.x.b 3)) then (farith .quo .f32 ((ds_v_2 s).2.x.u 1) 1073741824) else ((ds_v_2 s).2.x.u 1)) := by kernel_rfl
  rw [e, ds_s2]
  cases (ds_v_2 s).2.x.b 3 with
  | true => exact h
  | false => exact quo_two h


theorem twoN (s : SV) : diN s = dsN s := by
  have p := two2 s
  have q0 : (di_v_8 s).2.x.u 0 = (ds_v_2 s).2.x.u 0 := congrArg (fun l : List Nat => l.getD 0 0) p.1
  have q1 : (di_v_8 s).2.x.u 1 = (ds_v_2 s).2.x.u 1 := congrArg (fun l : List Nat => l.getD 1 0) p.1
  have q2 : (di_v_8 s).2.x.u 2 = (ds_v_2 s).2.x.u 2 := congrArg (fun l : List Nat => l.getD 2 0) p.1
  have q3 : (di_v_8 s).2.x.u 3 = (ds_v_2 s).2.x.u 3 := congrArg (fun l : List Nat => l.getD 3 0) p.1
  have q4 : (di_v_8 s).2.x.u 4 = (ds_v_2 s).2.x.u 4 := congrArg (fun l : List Nat => l.getD 4 0) p.1
  have q5 : (di_v_8 s).2.x.u 5 = (ds_v_2 s).2.x.u 5 := congrArg (fun l : List Nat => l.getD 5 0) p.1
  have q6 : (di_v_8 s).2.x.u 6 = (ds_v_2 s).2.x.u 6 := congrArg (fun l : List Nat => l.getD 6 0) p.1
  have q7 : (di_v_8 s).2.x.u 7 = (ds_v_2 s).2.x.u 7 := congrArg (fun l : List Nat => l.getD 7 0) p.1
  have q8 : (di_v_8 s).2.x.u 8 = (ds_v_2 s).2.x.u 8 := congrArg (fun l : List Nat => l.getD 8 0) p.1
  have q9 : (di_v_8 s).2.x.u 9 = (ds_v_2 s).2.x.u 9 := congrArg (fun l : List Nat => l.getD 9 0) p.1
  have q10 : (di_v_8 s).2.x.u 10 = (ds_v_2 s).2.x.u 10 := congrArg (fun l : List Nat => l.getD 10 0) p.1
  have q11 : (di_v_8 s).2.x.u 11 = (ds_v_2 s).2.x.u 11 := congrArg (fun l : List Nat => l.getD 11 0) p.1
  have q12 : (di_v_8 s).2.x.u 12 = (ds_v_2 s).2.x.u 12 := congrArg (fun l : List Nat => l.getD 12 0) p.1
  have q13 : (di_v_8 s).2.x.u 13 = (ds_v_2 s).2.x.u 13 := congrArg (fun l : List Nat => l.getD 13 0) p.1
  have q14 : (di_v_8 s).2.x.u 14 = (ds_v_2 s).2.x.u 14 := congrArg (fun l : List Nat => l.getD 14 0) p.1
  have q15 : (di_v_8 s).2.x.u 15 = (ds_v_2 s).2.x.u 15 := congrArg (fun l : List Nat => l.getD 15 0) p.1
  have q16 : (di_v_8 s).2.x.u 16 = (ds_v_2 s).2.x.u 16 := congrArg (fun l : List Nat => l.getD 16 0) p.1
  have q17 : (di_v_8 s).2.x.u 17 = (ds_v_2 s).2.x.u 17 := congrArg (fun l : List Nat => l.getD 17 0) p.1
  have q18 : (di_v_8 s).2.x.u 18 = (ds_v_2 s).2.x.u 18 := congrArg (fun l : List Nat => l.getD 18 0) p.1
  have q19 : (di_v_8 s).2.x.u 19 = (ds_v_2 s).2.x.u 19 := congrArg (fun l : List Nat => l.getD 19 0) p.1
  have q20 : (di_v_8 s).2.x.u 20 = (ds_v_2 s).2.x.u 20 := congrArg (fun l : List Nat => l.getD 20 0) p.1
  have q21 : (di_v_8 s).2.x.u 21 = (ds_v_2 s).2.x.u 21 := congrArg (fun l : List Nat => l.getD 21 0) p.1
  have q22 : (di_v_8 s).2.x.u 22 = (ds_v_2 s).2.x.u 22 := congrArg (fun l : List Nat => l.getD 22 0) p.1
  have q23 : (di_v_8 s).2.x.u 23 = (ds_v_2 s).2.x.u 23 := congrArg (fun l : List Nat => l.getD 23 0) p.1
  have q24 : (di_v_8 s).2.x.u 24 = (ds_v_2 s).2.x.u 24 := congrArg (fun l : List Nat => l.getD 24 0) p.1
  have q25 : (di_v_8 s).2.x.u 25 = (ds_v_2 s).2.x.u 25 := congrArg (fun l : List Nat => l.getD 25 0) p.1
  have q26 : (di_v_8 s).2.x.u 26 = (ds_v_2 s).2.x.u 26 := congrArg (fun l : List Nat => l.getD 26 0) p.1
  have q27 : (di_v_8 s).2.x.u 27 = (ds_v_2 s).2.x.u 27 := congrArg (fun l : List Nat => l.getD 27 0) p.1
  have q28 : (di_v_8 s).2.x.u 28 = (ds_v_2 s).2.x.u 28 := congrArg (fun l : List Nat => l.getD 28 0) p.1
  have q29 : (di_v_8 s).2.x.u 29 = (ds_v_2 s).2.x.u 29 := congrArg (fun l : List Nat => l.getD 29 0) p.1
  have q30 : (di_v_8 s).2.x.u 30 = (ds_v_2 s).2.x.u 30 := congrArg (fun l : List Nat => l.getD 30 0) p.1
  have q31 : (di_v_8 s).2.x.u 31 = (ds_v_2 s).2.x.u 31 := congrArg (fun l : List Nat => l.getD 31 0) p.1
  have q32 : (di_v_8 s).2.x.u 32 = (ds_v_2 s).2.x.u 32 := congrArg (fun l : List Nat => l.getD 32 0) p.1
  have q33 : (di_v_8 s).2.x.u 33 = (ds_v_2 s).2.x.u 33 := congrArg (fun l : List Nat => l.getD 33 0) p.1
  have q34 : (di_v_8 s).2.x.u 34 = (ds_v_2 s).2.x.u 34 := congrArg (fun l : List Nat => l.getD 34 0) p.1
  have q35 : (di_v_8 s).2.x.u 35 = (ds_v_2 s).2.x.u 35 := congrArg (fun l : List Nat => l.getD 35 0) p.1
  have q36 : (di_v_8 s).2.x.u 36 = (ds_v_2 s).2.x.u 36 := congrArg (fun l : List Nat => l.getD 36 0) p.1
  have pb := p.2
  clear p
  unfold diN dsN
  simp only [Bool.cond_self, ds_r2, di_r2, *]

theorem two (s : SV) (h : isNan .f32 (s.x.u 1) = false) : (diT s).pick = (dsT s).pick := by
  unfold diT dsT
  rw [not_lss h (by decide +kernel), twoN]
  rfl

theorem ds_go (s : SV) (hp : ∀ b ∈ dsPre s, b = true) : (dsT s).ok ∧ (∀ k s', (dsT s).pick = .out k s' → k < dsL.xs.length) ∧ ∀ s', (dsT s).pick = .next s' → (∀ b ∈ dsPre s', b = true) ∧ dsMu s' < dsMu s := by
  have p1 : 0 ≤ s.x.i 2 := of_decide_eq_true (hp _ (List.mem_cons_self ..))
  have p2 : s.x.i 2 ≤ 400 := of_decide_eq_true (hp _ (List.mem_cons_of_mem _ (List.mem_cons_self ..)))
  have hN := dsN_i s
  unfold iadd at hN
  unfold dsT
  cases hc : ((fcmp .geq .f32 (s.x.u 1) 981668463) && (decide ((s.x.i 2) < 400))) with
  | false =>
    refine ⟨⟨(fun b hb => by cases hb), (fun h => by cases h), (fun _ b hb => by cases hb)⟩, fun k s' h => ?_, fun s' h => ?_⟩
    · cases h; exact Nat.one_pos
    · cases h
  | true =>
    have h4 : s.x.i 2 < 400 := of_decide_eq_true (Bool.and_eq_true_iff.1 hc).2
    refine ⟨⟨(fun b hb => by cases hb), fun _ b hb => ?_, (fun h => by cases h)⟩, fun k s' h => ?_, fun s' h => ?_⟩
    · rw [List.mem_singleton.1 hb]
      unfold iadd
      exact Bool.and_eq_true_iff.2 ⟨decide_eq_true (by omega), decide_eq_true (by omega)⟩
    · cases h
    · cases h
      refine ⟨fun b hb => ?_, ?_⟩
      · rcases List.mem_cons.1 hb with e | hb
        · rw [e]; exact decide_eq_true (by rw [hN]; omega)
        · rw [List.mem_singleton.1 hb]; exact decide_eq_true (by rw [hN]; omega)
      · unfold dsMu
        rw [hN]
        omega

theorem Hds_ok : HFun Try.prog 0 Hds 26 := by
  unfold Hds
  rw [dsF_eq]
  exact HFun.loop G21_ok mixed (J := true) (n := 1000) (L := dsL) (T := dsT) (pre := dsPre) (μ := dsMu) Hds2_ok (by kernel_rfl) (by decide) (by decide) ds_t ds_go

theorem di_go (s : SV) (hp : ∀ b ∈ diPre s, b = true) : (diT s).ok ∧ (∀ k s', (diT s).pick = .out k s' → k < diL.xs.length) ∧ ∀ s', (diT s).pick = .next s' → (∀ b ∈ diPre s', b = true) ∧ diMu s' < diMu s := by
  have p1 : 0 ≤ s.x.i 2 := of_decide_eq_true (hp _ (List.mem_cons_self ..))
  have p2 : s.x.i 2 ≤ 400 := of_decide_eq_true (hp _ (List.mem_cons_of_mem _ (List.mem_cons_self ..)))
  have hN := diN_i s
  unfold iadd at hN
  unfold diT
  cases hc : ((!(fcmp .lss .f32 (s.x.u 1) 981668463)) && (decide ((s.x.i 2) < 400))) with
  | false =>
    refine ⟨⟨(fun b hb => by cases hb), (fun h => by cases h), (fun _ b hb => by cases hb)⟩, fun k s' h => ?_, fun s' h => ?_⟩
    · cases h; exact Nat.one_pos
    · cases h
  | true =>
    have h4 : s.x.i 2 < 400 := of_decide_eq_true (Bool.and_eq_true_iff.1 hc).2
    refine ⟨⟨(fun b hb => by cases hb), fun _ b hb => ?_, (fun h => by cases h)⟩, fun k s' h => ?_, fun s' h => ?_⟩
    · rw [List.mem_singleton.1 hb]
      simp only [Bool.cond_self, di_r2]
      unfold iadd
      exact Bool.and_eq_true_iff.2 ⟨decide_eq_true (by omega), decide_eq_true (by omega)⟩
    · cases h
    · cases h
      refine ⟨fun b hb => ?_, ?_⟩
      · rcases List.mem_cons.1 hb with e | hb
        · rw [e]; exact decide_eq_true (by rw [hN]; omega)
        · rw [List.mem_singleton.1 hb]; exact decide_eq_true (by rw [hN]; omega)
      · unfold diMu
        rw [hN]
        omega

theorem Hdi_ok : HFun Try.prog 0 Hdi 27 := by
  unfold Hdi
  rw [diF_eq]
  exact HFun.loop G21_ok mixed (J := true) (n := 1000) (L := diL) (T := diT) (pre := diPre) (μ := diMu) Hdi2_ok (by kernel_rfl) (by decide) (by decide) di_t di_go

theorem dotsRun (N : Nat) : ∀ s : SV, isNan .f32 (s.x.u 1) = false → Go.Sim.runT diT N s = Go.Sim.runT dsT N s := by
  induction N with
  | zero => intro s _; rfl
  | succ N ih =>
    intro s h
    simp only [Go.Sim.runT, two s h]
    cases hp : (dsT s).pick with
    | out k s' => rfl
    | next s' =>
      refine ih s' ?_
      unfold dsT at hp
      simp only [Tr.pick] at hp
      revert hp
      cases ((fcmp .geq .f32 (s.x.u 1) 981668463) && (decide ((s.x.i 2) < 400))) with
      | true => intro hp; cases hp; exact dsN_s s h
      | false => intro hp; cases hp

theorem dotsF (s : SV) (h : isNan .f32 (s.x.u 1) = false) : diF s = dsF s := by
  rw [diF_eq, dsF_eq]
  exact dotsRun _ s h

end Go.Proofs.Ytigcbcaknhhgmaa

/-
  Facts of this seat that its laws use; no conditions.
-/
import Derived.Test.YtdagaggpaohmcaaCoverM
import Derived.Test.YtdagaggpaohmcaaSimZa
namespace Go.Proofs.Ytdagaggpaohmcaa
open Go.Sim Go.ChangeShapes Go.WideShapes Go.ChangeAt Go.RowKit

def shiftV (n : Nat) (x : Vars) : Vars := { u := fun j => x.u (j + n), i := fun j => x.i (j + n), b := fun j => x.b (j + n), s := fun j => x.s (j + n) }

def UnitAt (o : Nat) (s : SV) : Prop := 1 ≤ s.x.i o ∧ s.x.i o ≤ 8 ∧ ∀ i : Nat, i < 8 → (i : Int) < s.x.i o → 2 ≤ s.x.i (o + 9 + 15 * i) ∧ s.x.i (o + 9 + 15 * i) ≤ 12
def LastAt (o p : Nat) (s : SV) : Prop := ∀ i : Nat, i < 8 → (i : Int) < s.x.i o → isNan .f32 (s.x.u (p + i)) = false
def TargAt (p : Nat) (s : SV) : Prop := ∀ i : Nat, i < 8 → s.x.u (p + i) % 2147483648 ≤ 1098907648

theorem eightI {P : Nat → Prop} (h0 : P 0) (h1 : P 1) (h2 : P 2) (h3 : P 3) (h4 : P 4) (h5 : P 5) (h6 : P 6) (h7 : P 7) : ∀ i, i < 8 → P i := fun i hi =>
  match i, hi with
  | 0, _ => h0
  | 1, _ => h1
  | 2, _ => h2
  | 3, _ => h3
  | 4, _ => h4
  | 5, _ => h5
  | 6, _ => h6
  | 7, _ => h7

theorem rollB {o : Nat} {s : SV} (U : UnitAt o s) (i : Nat) (hi : i < 8) : (decide (s.x.i o ≤ (i : Int)) || (decide (2 ≤ s.x.i (o + 9 + 15 * i)) && decide (s.x.i (o + 9 + 15 * i) ≤ 12))) = true :=
  orE fun h => let q := U.2.2 i hi (Int.not_le.1 (of_decide_eq_false h)); andT (decide_eq_true q.1) (decide_eq_true q.2)

theorem lastB {n : Int} {v : Nat} {i : Nat} (h : (decide (n ≤ (i : Int)) || (!(isNan .f32 v))) = true) (hi : (i : Int) < n) : isNan .f32 v = false := by
  rw [decide_eq_false (Int.not_le.2 hi)] at h
  exact notBT h

def uC : List VSh := [.sc (.int .i8), .sc (.flt .f32), .sc (.flt .f32), .sc (.flt .f32), .sc (.flt .f32), .sc (.flt .f32), .sc (.flt .f32), .sc (.flt .f32), .sc (.flt .f32), .sc (.int .i8), .sc (.flt .f32), .sc (.flt .f32), .sc (.flt .f32), .sc (.flt .f32), .sc (.flt .f32), .sc (.flt .f32), .sc (.flt .f32), .sc (.flt .f32), .sc (.flt .f32), .sc (.flt .f32), .sc (.flt .f32), .sc (.flt .f32), .sc (.flt .f32), .sc (.flt .f32), .sc (.int .i8), .sc (.flt .f32), .sc (.flt .f32), .sc (.flt .f32), .sc (.flt .f32), .sc (.flt .f32), .sc (.flt .f32), .sc (.flt .f32), .sc (.flt .f32), .sc (.flt .f32), .sc (.flt .f32), .sc (.flt .f32), .sc (.flt .f32), .sc (.flt .f32), .sc (.flt .f32), .sc (.int .i8), .sc (.flt .f32), .sc (.flt .f32), .sc (.flt .f32), .sc (.flt .f32), .sc (.flt .f32), .sc (.flt .f32), .sc (.flt .f32), .sc (.flt .f32), .sc (.flt .f32), .sc (.flt .f32), .sc (.flt .f32), .sc (.flt .f32), .sc (.flt .f32), .sc (.flt .f32), .sc (.int .i8), .sc (.flt .f32), .sc (.flt .f32), .sc (.flt .f32), .sc (.flt .f32), .sc (.flt .f32), .sc (.flt .f32), .sc (.flt .f32), .sc (.flt .f32), .sc (.flt .f32), .sc (.flt .f32), .sc (.flt .f32), .sc (.flt .f32), .sc (.flt .f32), .sc (.flt .f32), .sc (.int .i8), .sc (.flt .f32), .sc (.flt .f32), .sc (.flt .f32), .sc (.flt .f32), .sc (.flt .f32), .sc (.flt .f32), .sc (.flt .f32), .sc (.flt .f32), .sc (.flt .f32), .sc (.flt .f32), .sc (.flt .f32), .sc (.flt .f32), .sc (.flt .f32), .sc (.flt .f32), .sc (.int .i8), .sc (.flt .f32), .sc (.flt .f32), .sc (.flt .f32), .sc (.flt .f32), .sc (.flt .f32), .sc (.flt .f32), .sc (.flt .f32), .sc (.flt .f32), .sc (.flt .f32), .sc (.flt .f32), .sc (.flt .f32), .sc (.flt .f32), .sc (.flt .f32), .sc (.flt .f32), .sc (.int .i8), .sc (.flt .f32), .sc (.flt .f32), .sc (.flt .f32), .sc (.flt .f32), .sc (.flt .f32), .sc (.flt .f32), .sc (.flt .f32), .sc (.flt .f32), .sc (.flt .f32), .sc (.flt .f32), .sc (.flt .f32), .sc (.flt .f32), .sc (.flt .f32), .sc (.flt .f32), .sc (.int .i8), .sc (.flt .f32), .sc (.flt .f32), .sc (.flt .f32), .sc (.flt .f32), .sc (.flt .f32), .sc (.flt .f32), .sc (.flt .f32), .sc (.flt .f32), .sc (.flt .f32), .sc (.flt .f32), .sc (.flt .f32), .sc (.flt .f32), .sc (.flt .f32), .sc (.flt .f32)]

def zC : List VSh := [.cst (.int .i8 0), .cst (.flt .f32 0), .cst (.flt .f32 0), .cst (.flt .f32 0), .cst (.flt .f32 0), .cst (.flt .f32 0), .cst (.flt .f32 0), .cst (.flt .f32 0), .cst (.flt .f32 0), .cst (.int .i8 0), .cst (.flt .f32 0), .cst (.flt .f32 0), .cst (.flt .f32 0), .cst (.flt .f32 0), .cst (.flt .f32 0), .cst (.flt .f32 0), .cst (.flt .f32 0), .cst (.flt .f32 0), .cst (.flt .f32 0), .cst (.flt .f32 0), .cst (.flt .f32 0), .cst (.flt .f32 0), .cst (.flt .f32 0), .cst (.flt .f32 0), .cst (.int .i8 0), .cst (.flt .f32 0), .cst (.flt .f32 0), .cst (.flt .f32 0), .cst (.flt .f32 0), .cst (.flt .f32 0), .cst (.flt .f32 0), .cst (.flt .f32 0), .cst (.flt .f32 0), .cst (.flt .f32 0), .cst (.flt .f32 0), .cst (.flt .f32 0), .cst (.flt .f32 0), .cst (.flt .f32 0), .cst (.flt .f32 0), .cst (.int .i8 0), .cst (.flt .f32 0), .cst (.flt .f32 0), .cst (.flt .f32 0), .cst (.flt .f32 0), .cst (.flt .f32 0), .cst (.flt .f32 0), .cst (.flt .f32 0), .cst (.flt .f32 0), .cst (.flt .f32 0), .cst (.flt .f32 0), .cst (.flt .f32 0), .cst (.flt .f32 0), .cst (.flt .f32 0), .cst (.flt .f32 0), .cst (.int .i8 0), .cst (.flt .f32 0), .cst (.flt .f32 0), .cst (.flt .f32 0), .cst (.flt .f32 0), .cst (.flt .f32 0), .cst (.flt .f32 0), .cst (.flt .f32 0), .cst (.flt .f32 0), .cst (.flt .f32 0), .cst (.flt .f32 0), .cst (.flt .f32 0), .cst (.flt .f32 0), .cst (.flt .f32 0), .cst (.flt .f32 0), .cst (.int .i8 0), .cst (.flt .f32 0), .cst (.flt .f32 0), .cst (.flt .f32 0), .cst (.flt .f32 0), .cst (.flt .f32 0), .cst (.flt .f32 0), .cst (.flt .f32 0), .cst (.flt .f32 0), .cst (.flt .f32 0), .cst (.flt .f32 0), .cst (.flt .f32 0), .cst (.flt .f32 0), .cst (.flt .f32 0), .cst (.flt .f32 0), .cst (.int .i8 0), .cst (.flt .f32 0), .cst (.flt .f32 0), .cst (.flt .f32 0), .cst (.flt .f32 0), .cst (.flt .f32 0), .cst (.flt .f32 0), .cst (.flt .f32 0), .cst (.flt .f32 0), .cst (.flt .f32 0), .cst (.flt .f32 0), .cst (.flt .f32 0), .cst (.flt .f32 0), .cst (.flt .f32 0), .cst (.flt .f32 0), .cst (.int .i8 0), .cst (.flt .f32 0), .cst (.flt .f32 0), .cst (.flt .f32 0), .cst (.flt .f32 0), .cst (.flt .f32 0), .cst (.flt .f32 0), .cst (.flt .f32 0), .cst (.flt .f32 0), .cst (.flt .f32 0), .cst (.flt .f32 0), .cst (.flt .f32 0), .cst (.flt .f32 0), .cst (.flt .f32 0), .cst (.flt .f32 0), .cst (.int .i8 0), .cst (.flt .f32 0), .cst (.flt .f32 0), .cst (.flt .f32 0), .cst (.flt .f32 0), .cst (.flt .f32 0), .cst (.flt .f32 0), .cst (.flt .f32 0), .cst (.flt .f32 0), .cst (.flt .f32 0), .cst (.flt .f32 0), .cst (.flt .f32 0), .cst (.flt .f32 0), .cst (.flt .f32 0), .cst (.flt .f32 0)]

noncomputable def riL : LP := { A := 0, ts := [29, 30, 3, 4, 6, 10], F := ⟨[.sc (.int .i64), .sc (.int .i64), .ptr 0 0, .ptr 1 0, .ptr 2 0, .ssl 3 0 8], [.lit uC true, .lit [.sc (.flt .f32), .sc (.flt .f32), .sc (.flt .f32), .sc (.flt .f32), .sc (.flt .f32), .sc (.flt .f32), .sc (.flt .f32), .sc (.flt .f32)] false, .lit zC true, .sym (.flt .f32) true]⟩, xs := [(.exit 0, [3, 6, 10], ⟨[.ptr 0 0, .ptr 1 0, .ssl 2 0 8], [.lit uC true, .lit zC true, .sym (.flt .f32) true]⟩), (.ret, [6, 7, 8], ⟨[.ptr 0 0, .cst (.snil), .sc (.int .i64)], [.lit uC true]⟩)] }

noncomputable def rsL : LP := { A := 0, ts := [2, 11, 3, 4, 6, 10], F := ⟨[.sc (.int .i64), .sc (.int .i64), .ptr 0 0, .ptr 1 0, .ptr 2 0, .ssl 3 0 8], [.lit uC true, .lit [.sc (.flt .f32), .sc (.flt .f32), .sc (.flt .f32), .sc (.flt .f32), .sc (.flt .f32), .sc (.flt .f32), .sc (.flt .f32), .sc (.flt .f32)] false, .lit zC true, .sym (.flt .f32) true]⟩, xs := [(.exit 0, [3, 6, 10], ⟨[.ptr 0 0, .ptr 1 0, .ssl 2 0 8], [.lit uC true, .lit zC true, .sym (.flt .f32) true]⟩), (.ret, [6, 7, 8], ⟨[.ptr 0 0, .slc 1 0 0 8, .sc (.int .i64)], [.lit uC true, .lit [] true]⟩)] }

noncomputable def G36 : Summ := inlGs Try.prog 1000 [61] G35

theorem G36_ok : SoundG Try.prog G36 := by
  refine SoundG.inls mixed G35_ok fun f hf => ?_
  simp only [List.mem_cons, List.not_mem_nil, or_false] at hf
  subst hf
  exact Try.call61

noncomputable def rV (s : SV) : Vars := (sheetR (apl [(.sint .i8 (s.x.i 2))] (apl (fl s.x 3 8) (apl [(.sint .i8 (s.x.i 11))] (apl (fl s.x 12 14) (apl [(.sint .i8 (s.x.i 26))] (apl (fl s.x 27 14) (apl [(.sint .i8 (s.x.i 41))] (apl (fl s.x 42 14) (apl [(.sint .i8 (s.x.i 56))] (apl (fl s.x 57 14) (apl [(.sint .i8 (s.x.i 71))] (apl (fl s.x 72 14) (apl [(.sint .i8 (s.x.i 86))] (apl (fl s.x 87 14) (apl [(.sint .i8 (s.x.i 101))] (apl (fl s.x 102 14) (apl [(.sint .i8 (s.x.i 116))] (fl s.x 117 22)))))))))))))))))))

noncomputable def rN (s : SV) : SV := (mkSV (apl [(.sint .i64 (s.x.i 0)), (.sint .i64 (iadd (s.x.i 1) 1)), (.sint .i8 ((rV s).i 0))] (apl (fl (rV s) 1 8) (apl [(.sint .i8 ((rV s).i 9))] (apl (fl (rV s) 10 14) (apl [(.sint .i8 ((rV s).i 24))] (apl (fl (rV s) 25 14) (apl [(.sint .i8 ((rV s).i 39))] (apl (fl (rV s) 40 14) (apl [(.sint .i8 ((rV s).i 54))] (apl (fl (rV s) 55 14) (apl [(.sint .i8 ((rV s).i 69))] (apl (fl (rV s) 70 14) (apl [(.sint .i8 ((rV s).i 84))] (apl (fl (rV s) 85 14) (apl [(.sint .i8 ((rV s).i 99))] (apl (fl (rV s) 100 14) (apl [(.sint .i8 ((rV s).i 114))] (apl (fl (rV s) 115 14) (fl s.x 131 8))))))))))))))))))) [(padd (s.len 0) 1)] [0, 0, 0, (pmul (padd (s.len 0) 1) 8)] [zeroV, zeroV, zeroV, (pushV (s.y 3) 0 (pmul (s.len 0) 8) (fl (rV s) 129 8))])

noncomputable def rE (s : SV) : SV := (mkSV (apl [(.sint .i8 (s.x.i 2))] (apl (fl s.x 3 8) (apl [(.sint .i8 (s.x.i 11))] (apl (fl s.x 12 14) (apl [(.sint .i8 (s.x.i 26))] (apl (fl s.x 27 14) (apl [(.sint .i8 (s.x.i 41))] (apl (fl s.x 42 14) (apl [(.sint .i8 (s.x.i 56))] (apl (fl s.x 57 14) (apl [(.sint .i8 (s.x.i 71))] (apl (fl s.x 72 14) (apl [(.sint .i8 (s.x.i 86))] (apl (fl s.x 87 14) (apl [(.sint .i8 (s.x.i 101))] (apl (fl s.x 102 14) (apl [(.sint .i8 (s.x.i 116))] (fl s.x 117 14)))))))))))))))))) [(s.len 0)] [0, 0, (s.n 3)] [zeroV, zeroV, (s.y 3)])

noncomputable def riX (_ : SV) : SV := (mkSV [(.int .i64 3), (.int .i8 0), (.flt .f32 0), (.flt .f32 0), (.flt .f32 0), (.flt .f32 0), (.flt .f32 0), (.flt .f32 0), (.flt .f32 0), (.flt .f32 0), (.int .i8 0), (.flt .f32 0), (.flt .f32 0), (.flt .f32 0), (.flt .f32 0), (.flt .f32 0), (.flt .f32 0), (.flt .f32 0), (.flt .f32 0), (.flt .f32 0), (.flt .f32 0), (.flt .f32 0), (.flt .f32 0), (.flt .f32 0), (.flt .f32 0), (.int .i8 0), (.flt .f32 0), (.flt .f32 0), (.flt .f32 0), (.flt .f32 0), (.flt .f32 0), (.flt .f32 0), (.flt .f32 0), (.flt .f32 0), (.flt .f32 0), (.flt .f32 0), (.flt .f32 0), (.flt .f32 0), (.flt .f32 0), (.flt .f32 0), (.int .i8 0), (.flt .f32 0), (.flt .f32 0), (.flt .f32 0), (.flt .f32 0), (.flt .f32 0), (.flt .f32 0), (.flt .f32 0), (.flt .f32 0), (.flt .f32 0), (.flt .f32 0), (.flt .f32 0), (.flt .f32 0), (.flt .f32 0), (.flt .f32 0), (.int .i8 0), (.flt .f32 0), (.flt .f32 0), (.flt .f32 0), (.flt .f32 0), (.flt .f32 0), (.flt .f32 0), (.flt .f32 0), (.flt .f32 0), (.flt .f32 0), (.flt .f32 0), (.flt .f32 0), (.flt .f32 0), (.flt .f32 0), (.flt .f32 0), (.int .i8 0), (.flt .f32 0), (.flt .f32 0), (.flt .f32 0), (.flt .f32 0), (.flt .f32 0), (.flt .f32 0), (.flt .f32 0), (.flt .f32 0), (.flt .f32 0), (.flt .f32 0), (.flt .f32 0), (.flt .f32 0), (.flt .f32 0), (.flt .f32 0), (.int .i8 0), (.flt .f32 0), (.flt .f32 0), (.flt .f32 0), (.flt .f32 0), (.flt .f32 0), (.flt .f32 0), (.flt .f32 0), (.flt .f32 0), (.flt .f32 0), (.flt .f32 0), (.flt .f32 0), (.flt .f32 0), (.flt .f32 0), (.flt .f32 0), (.int .i8 0), (.flt .f32 0), (.flt .f32 0), (.flt .f32 0), (.flt .f32 0), (.flt .f32 0), (.flt .f32 0), (.flt .f32 0), (.flt .f32 0), (.flt .f32 0), (.flt .f32 0), (.flt .f32 0), (.flt .f32 0), (.flt .f32 0), (.flt .f32 0), (.int .i8 0), (.flt .f32 0), (.flt .f32 0), (.flt .f32 0), (.flt .f32 0), (.flt .f32 0), (.flt .f32 0), (.flt .f32 0), (.flt .f32 0), (.flt .f32 0), (.flt .f32 0), (.flt .f32 0), (.flt .f32 0), (.flt .f32 0), (.flt .f32 0)] [] [0] [zeroV])
noncomputable def rsX (_ : SV) : SV := (mkSV [(.int .i64 3), (.int .i8 0), (.flt .f32 0), (.flt .f32 0), (.flt .f32 0), (.flt .f32 0), (.flt .f32 0), (.flt .f32 0), (.flt .f32 0), (.flt .f32 0), (.int .i8 0), (.flt .f32 0), (.flt .f32 0), (.flt .f32 0), (.flt .f32 0), (.flt .f32 0), (.flt .f32 0), (.flt .f32 0), (.flt .f32 0), (.flt .f32 0), (.flt .f32 0), (.flt .f32 0), (.flt .f32 0), (.flt .f32 0), (.flt .f32 0), (.int .i8 0), (.flt .f32 0), (.flt .f32 0), (.flt .f32 0), (.flt .f32 0), (.flt .f32 0), (.flt .f32 0), (.flt .f32 0), (.flt .f32 0), (.flt .f32 0), (.flt .f32 0), (.flt .f32 0), (.flt .f32 0), (.flt .f32 0), (.flt .f32 0), (.int .i8 0), (.flt .f32 0), (.flt .f32 0), (.flt .f32 0), (.flt .f32 0), (.flt .f32 0), (.flt .f32 0), (.flt .f32 0), (.flt .f32 0), (.flt .f32 0), (.flt .f32 0), (.flt .f32 0), (.flt .f32 0), (.flt .f32 0), (.flt .f32 0), (.int .i8 0), (.flt .f32 0), (.flt .f32 0), (.flt .f32 0), (.flt .f32 0), (.flt .f32 0), (.flt .f32 0), (.flt .f32 0), (.flt .f32 0), (.flt .f32 0), (.flt .f32 0), (.flt .f32 0), (.flt .f32 0), (.flt .f32 0), (.flt .f32 0), (.int .i8 0), (.flt .f32 0), (.flt .f32 0), (.flt .f32 0), (.flt .f32 0), (.flt .f32 0), (.flt .f32 0), (.flt .f32 0), (.flt .f32 0), (.flt .f32 0), (.flt .f32 0), (.flt .f32 0), (.flt .f32 0), (.flt .f32 0), (.flt .f32 0), (.int .i8 0), (.flt .f32 0), (.flt .f32 0), (.flt .f32 0), (.flt .f32 0), (.flt .f32 0), (.flt .f32 0), (.flt .f32 0), (.flt .f32 0), (.flt .f32 0), (.flt .f32 0), (.flt .f32 0), (.flt .f32 0), (.flt .f32 0), (.flt .f32 0), (.int .i8 0), (.flt .f32 0), (.flt .f32 0), (.flt .f32 0), (.flt .f32 0), (.flt .f32 0), (.flt .f32 0), (.flt .f32 0), (.flt .f32 0), (.flt .f32 0), (.flt .f32 0), (.flt .f32 0), (.flt .f32 0), (.flt .f32 0), (.flt .f32 0), (.int .i8 0), (.flt .f32 0), (.flt .f32 0), (.flt .f32 0), (.flt .f32 0), (.flt .f32 0), (.flt .f32 0), (.flt .f32 0), (.flt .f32 0), (.flt .f32 0), (.flt .f32 0), (.flt .f32 0), (.flt .f32 0), (.flt .f32 0), (.flt .f32 0)] [] [0, 0] [zeroV, zeroV])

noncomputable def rC (s : SV) : List Bool := [(decide (1 ≤ (s.x.i 2))), (decide ((s.x.i 2) ≤ 8)), ((decide ((s.x.i 2) ≤ 0)) || ((decide (2 ≤ (s.x.i 11))) && (decide ((s.x.i 11) ≤ 12)))), ((decide ((s.x.i 2) ≤ 1)) || ((decide (2 ≤ (s.x.i 26))) && (decide ((s.x.i 26) ≤ 12)))), ((decide ((s.x.i 2) ≤ 2)) || ((decide (2 ≤ (s.x.i 41))) && (decide ((s.x.i 41) ≤ 12)))), ((decide ((s.x.i 2) ≤ 3)) || ((decide (2 ≤ (s.x.i 56))) && (decide ((s.x.i 56) ≤ 12)))), ((decide ((s.x.i 2) ≤ 4)) || ((decide (2 ≤ (s.x.i 71))) && (decide ((s.x.i 71) ≤ 12)))), ((decide ((s.x.i 2) ≤ 5)) || ((decide (2 ≤ (s.x.i 86))) && (decide ((s.x.i 86) ≤ 12)))), ((decide ((s.x.i 2) ≤ 6)) || ((decide (2 ≤ (s.x.i 101))) && (decide ((s.x.i 101) ≤ 12)))), ((decide ((s.x.i 2) ≤ 7)) || ((decide (2 ≤ (s.x.i 116))) && (decide ((s.x.i 116) ≤ 12))))]
noncomputable def rD (s : SV) : List Bool := [((decide ((-(9223372036854775807 + 1)) ≤ (iadd (s.x.i 1) 1))) && (decide ((iadd (s.x.i 1) 1) ≤ 9223372036854775807))), (decide ((padd 0 (pmul (s.len 0) 8)) ≤ (s.n 3))), (decide ((padd (s.len 0) 1) ≤ 16777216))]

noncomputable def rT (X : SV → SV) (s : SV) : Tr := .node [] (decide ((s.x.i 1) < (s.x.i 0))) (.node (rC s) (!((rV s).b 137)) (.out 1 (X s) []) (.next (rN s) (rD s))) (.out 0 (rE s) [])

theorem rs_t (s : SV) : Go.Sim.stepT Try.prog G36 (ntOf Try.prog 42) noLT true 1000 rsL (loopOf Try.prog 42 0) s = some (rT rsX s) := by kernel_rfl

theorem ri_t (s : SV) : Go.Sim.stepT Try.prog G36 (ntOf Try.prog 43) noLT true 1000 riL (loopOf Try.prog 43 0) s = some (rT riX s) := by kernel_rfl

theorem rC_ok (s : SV) (U : UnitAt 2 s) : ∀ b ∈ rC s, b = true :=
  allC (decide_eq_true U.1) (allC (decide_eq_true U.2.1) (allC (rollB U 0 (by decide)) (allC (rollB U 1 (by decide)) (allC (rollB U 2 (by decide)) (allC (rollB U 3 (by decide)) (allC (rollB U 4 (by decide)) (allC (rollB U 5 (by decide)) (allC (rollB U 6 (by decide)) (allC (rollB U 7 (by decide)) allN)))))))))

theorem rV_fact (s : SV) (U : UnitAt 2 s) (h : (rV s).b 137 = true) : (rV s).i 0 = s.x.i 2 ∧ (rV s).i 9 = s.x.i 11 ∧ (rV s).i 24 = s.x.i 26 ∧ (rV s).i 39 = s.x.i 41 ∧ (rV s).i 54 = s.x.i 56 ∧ (rV s).i 69 = s.x.i 71 ∧ (rV s).i 84 = s.x.i 86 ∧ (rV s).i 99 = s.x.i 101 ∧ (rV s).i 114 = s.x.i 116 := by
  have e : sheetR (mkL (shiftV 2 s.x) 0 (kdsP [.val (.ag kd2), .ptr kd3])) = rV s := by kernel_rfl
  have hp : ∀ b ∈ sheetPre (mkL (shiftV 2 s.x) 0 (kdsP [.val (.ag kd2), .ptr kd3])), b = true := (show rC s = sheetPre (mkL (shiftV 2 s.x) 0 (kdsP [.val (.ag kd2), .ptr kd3])) from by kernel_rfl) ▸ rC_ok s U
  have F := sheetFact (shiftV 2 s.x) hp (by rw [e]; exact h)
  rw [e] at F
  exact ⟨F.1, F.2.1, F.2.2.1, F.2.2.2.1, F.2.2.2.2.1, F.2.2.2.2.2.1, F.2.2.2.2.2.2.1, F.2.2.2.2.2.2.2.1, F.2.2.2.2.2.2.2.2.1⟩

def Rin (s : SV) : Prop := 0 ≤ s.x.i 1 ∧ s.x.i 1 ≤ s.x.i 0 ∧ s.x.i 0 ≤ 1000 ∧ (s.len 0 : Int) = s.x.i 1 ∧ s.n 3 = 8 * s.len 0 ∧ UnitAt 2 s
noncomputable def rinB (s : SV) : Bool := @decide (Rin s) (Classical.propDecidable _)
theorem rinB_of {s : SV} (h : rinB s = true) : Rin s := @of_decide_eq_true _ (Classical.propDecidable _) h
theorem rinB_to {s : SV} (h : Rin s) : rinB s = true := @decide_eq_true _ (Classical.propDecidable _) h
def rMu (s : SV) : Nat := (s.x.i 0 - s.x.i 1).toNat

theorem rN_in (s : SV) (I : Rin s) (hc : s.x.i 1 < s.x.i 0) (hb : (rV s).b 137 = true) : Rin (rN s) := by
  obtain ⟨i1, i2, i3, i4, i5, U⟩ := I
  have F := rV_fact s U hb
  have e0 : (rN s).x.i 0 = s.x.i 0 := by kernel_rfl
  have e1 : (rN s).x.i 1 = iadd (s.x.i 1) 1 := by kernel_rfl
  have el : (rN s).len 0 = padd (s.len 0) 1 := by kernel_rfl
  have en : (rN s).n 3 = pmul (padd (s.len 0) 1) 8 := by kernel_rfl
  have e2 : (rN s).x.i 2 = s.x.i 2 := (show (rN s).x.i 2 = (rV s).i 0 from by kernel_rfl).trans F.1
  have r0 : (rN s).x.i 11 = s.x.i 11 := (show (rN s).x.i 11 = (rV s).i 9 from by kernel_rfl).trans F.2.1
  have r1 : (rN s).x.i 26 = s.x.i 26 := (show (rN s).x.i 26 = (rV s).i 24 from by kernel_rfl).trans F.2.2.1
  have r2 : (rN s).x.i 41 = s.x.i 41 := (show (rN s).x.i 41 = (rV s).i 39 from by kernel_rfl).trans F.2.2.2.1
  have r3 : (rN s).x.i 56 = s.x.i 56 := (show (rN s).x.i 56 = (rV s).i 54 from by kernel_rfl).trans F.2.2.2.2.1
  have r4 : (rN s).x.i 71 = s.x.i 71 := (show (rN s).x.i 71 = (rV s).i 69 from by kernel_rfl).trans F.2.2.2.2.2.1
  have r5 : (rN s).x.i 86 = s.x.i 86 := (show (rN s).x.i 86 = (rV s).i 84 from by kernel_rfl).trans F.2.2.2.2.2.2.1
  have r6 : (rN s).x.i 101 = s.x.i 101 := (show (rN s).x.i 101 = (rV s).i 99 from by kernel_rfl).trans F.2.2.2.2.2.2.2.1
  have r7 : (rN s).x.i 116 = s.x.i 116 := (show (rN s).x.i 116 = (rV s).i 114 from by kernel_rfl).trans F.2.2.2.2.2.2.2.2
  unfold iadd at e1
  unfold padd at el en
  unfold pmul at en
  refine ⟨by omega, by omega, by omega, by omega, by omega, ⟨by rw [e2]; exact U.1, by rw [e2]; exact U.2.1, ?_⟩⟩
  rw [e2]
  exact eightI (fun hi => by rw [show (2 + 9 + 15 * 0) = 11 from rfl, r0]; exact U.2.2 0 (by decide) hi) (fun hi => by rw [show (2 + 9 + 15 * 1) = 26 from rfl, r1]; exact U.2.2 1 (by decide) hi) (fun hi => by rw [show (2 + 9 + 15 * 2) = 41 from rfl, r2]; exact U.2.2 2 (by decide) hi) (fun hi => by rw [show (2 + 9 + 15 * 3) = 56 from rfl, r3]; exact U.2.2 3 (by decide) hi) (fun hi => by rw [show (2 + 9 + 15 * 4) = 71 from rfl, r4]; exact U.2.2 4 (by decide) hi) (fun hi => by rw [show (2 + 9 + 15 * 5) = 86 from rfl, r5]; exact U.2.2 5 (by decide) hi) (fun hi => by rw [show (2 + 9 + 15 * 6) = 101 from rfl, r6]; exact U.2.2 6 (by decide) hi) (fun hi => by rw [show (2 + 9 + 15 * 7) = 116 from rfl, r7]; exact U.2.2 7 (by decide) hi)

theorem rGo (X : SV → SV) (s : SV) (hp : ∀ b ∈ [rinB s], b = true) :
    (rT X s).ok ∧ (∀ k s', (rT X s).pick = .out k s' → k < 2) ∧ ∀ s', (rT X s).pick = .next s' → (∀ b ∈ [rinB s'], b = true) ∧ rMu s' < rMu s := by
  have I := rinB_of (hp _ (List.mem_cons_self ..))
  unfold rT
  cases hc : (decide ((s.x.i 1) < (s.x.i 0))) with
  | false =>
    refine ⟨⟨(fun b hb => by cases hb), (fun h => by cases h), (fun _ b hb => by cases hb)⟩, fun k s' h => ?_, fun s' h => ?_⟩
    · cases h; decide
    · cases h
  | true =>
    have hlt : s.x.i 1 < s.x.i 0 := of_decide_eq_true hc
    have hC := rC_ok s I.2.2.2.2.2
    cases hb : (rV s).b 137 with
    | false =>
      refine ⟨⟨(fun b hb => by cases hb), (fun _ => ⟨hC, (fun _ b hb => by cases hb), (fun h => by cases h)⟩), (fun h => by cases h)⟩, fun k s' h => ?_, fun s' h => ?_⟩
      · cases h; decide
      · cases h
    | true =>
      have J := rN_in s I hlt hb
      obtain ⟨i1, i2, i3, i4, i5, U⟩ := I
      refine ⟨⟨(fun b hb => by cases hb), (fun _ => ⟨hC, (fun h => by cases h), (fun _ => ?_)⟩), (fun h => by cases h)⟩, fun k s' h => ?_, fun s' h => ?_⟩
      · refine (allC (andT (decide_eq_true ?_) (decide_eq_true ?_)) (allC (decide_eq_true ?_) (allC (decide_eq_true ?_) allN)) : ∀ b ∈ rD s, b = true)
        · unfold iadd; omega
        · unfold iadd; omega
        · unfold padd pmul; omega
        · unfold padd; omega
      · cases h
      · cases h
        refine ⟨fun b hb => ?_, ?_⟩
        · rw [List.mem_singleton.1 hb]; exact rinB_to J
        · have e0 : (rN s).x.i 0 = s.x.i 0 := by kernel_rfl
          have e1 : (rN s).x.i 1 = iadd (s.x.i 1) 1 := by kernel_rfl
          unfold rMu
          rw [e0, e1]
          unfold iadd
          omega

/-- The two runs end alike. -/
theorem rRun (X Y : SV → SV) (N : Nat) : ∀ s, (Go.Sim.runT (rT X) N s).1 = (Go.Sim.runT (rT Y) N s).1 ∧ ((Go.Sim.runT (rT Y) N s).1 = 0 → (Go.Sim.runT (rT X) N s).2 = (Go.Sim.runT (rT Y) N s).2) := by
  induction N with
  | zero => intro s; exact ⟨rfl, fun _ => rfl⟩
  | succ N ih =>
    intro s
    simp only [Go.Sim.runT]
    cases hc : (decide ((s.x.i 1) < (s.x.i 0))) with
    | false =>
      have e : ∀ Z : SV → SV, (rT Z s).pick = .out 0 (rE s) := fun Z => by unfold rT; rw [hc]; rfl
      rw [e, e]
      exact ⟨rfl, fun _ => rfl⟩
    | true =>
      cases hb : (rV s).b 137 with
      | false =>
        have e : ∀ Z : SV → SV, (rT Z s).pick = .out 1 (Z s) := fun Z => by unfold rT; rw [hc, hb]; rfl
        rw [e, e]
        exact ⟨rfl, (fun h => by cases h)⟩
      | true =>
        have e : ∀ Z : SV → SV, (rT Z s).pick = .next (rN s) := fun Z => by unfold rT; rw [hc, hb]; rfl
        rw [e, e]
        exact ih (rN s)

theorem rOut (X : SV → SV) (N : Nat) : ∀ s, Rin s → (Go.Sim.runT (rT X) N s).1 = 0 → rMu s < N → ((Go.Sim.runT (rT X) N s).2.n 2 = 8 * (Go.Sim.runT (rT X) N s).2.len 0 ∧ (Go.Sim.runT (rT X) N s).2.len 0 ≤ 1000) := by
  induction N with
  | zero => intro s _ _ h; omega
  | succ N ih =>
    intro s I h0 hm
    simp only [Go.Sim.runT] at h0 ⊢
    cases hc : (decide ((s.x.i 1) < (s.x.i 0))) with
    | false =>
      have e : (rT X s).pick = .out 0 (rE s) := by unfold rT; rw [hc]; rfl
      rw [e]
      obtain ⟨i1, i2, i3, i4, i5, U⟩ := I
      exact ⟨(show (rE s).n 2 = s.n 3 from by kernel_rfl).trans i5, by rw [show (rE s).len 0 = s.len 0 from by kernel_rfl]; omega⟩
    | true =>
      cases hb : (rV s).b 137 with
      | false =>
        have e : (rT X s).pick = .out 1 (X s) := by unfold rT; rw [hc, hb]; rfl
        rw [e] at h0
        cases h0
      | true =>
        have e : (rT X s).pick = .next (rN s) := by unfold rT; rw [hc, hb]; rfl
        rw [e] at h0 ⊢
        have hlt : s.x.i 1 < s.x.i 0 := of_decide_eq_true hc
        have e0 : (rN s).x.i 0 = s.x.i 0 := by kernel_rfl
        have e1 : (rN s).x.i 1 = iadd (s.x.i 1) 1 := by kernel_rfl
        exact ih (rN s) (rN_in s I hlt hb) h0 (by unfold rMu at hm ⊢; rw [e0, e1]; unfold iadd; omega)

noncomputable def rsF0 (s : SV) : Nat × SV := Go.Sim.runT (rT rsX) (rMu s + 1) s

noncomputable def rsF : SV → Nat × SV := Classical.choose (⟨rsF0, rfl⟩ : ∃ f, f = rsF0)

theorem rsF_eq : rsF = rsF0 := Classical.choose_spec (⟨rsF0, rfl⟩ : ∃ f, f = rsF0)

noncomputable def rsPre (s : SV) : List Bool := [rinB s]

noncomputable def Hrs : LTab := hookL 0 rsL rsPre rsF noLT

theorem Hrs_ok : HFun Try.prog 0 Hrs 42 := by
  unfold Hrs
  rw [rsF_eq]
  exact HFun.loop G36_ok mixed (J := true) (n := 1000) (L := rsL) (T := rT rsX) (pre := rsPre) (μ := rMu) (HFun.none Try.prog 0 42) (by kernel_rfl) (by decide) (by decide) rs_t (rGo rsX)

noncomputable def riF0 (s : SV) : Nat × SV := Go.Sim.runT (rT riX) (rMu s + 1) s

noncomputable def riF : SV → Nat × SV := Classical.choose (⟨riF0, rfl⟩ : ∃ f, f = riF0)

theorem riF_eq : riF = riF0 := Classical.choose_spec (⟨riF0, rfl⟩ : ∃ f, f = riF0)

noncomputable def riPre (s : SV) : List Bool := [rinB s]

noncomputable def Hri : LTab := hookL 0 riL riPre riF noLT

theorem Hri_ok : HFun Try.prog 0 Hri 43 := by
  unfold Hri
  rw [riF_eq]
  exact HFun.loop G36_ok mixed (J := true) (n := 1000) (L := riL) (T := rT riX) (pre := riPre) (μ := rMu) (HFun.none Try.prog 0 43) (by kernel_rfl) (by decide) (by decide) ri_t (rGo riX)

theorem rF_alike (s : SV) : (riF s).1 = (rsF s).1 ∧ ((rsF s).1 = 0 → (riF s).2 = (rsF s).2) := by
  rw [riF_eq, rsF_eq]
  exact rRun riX rsX _ s

theorem rF_out (s : SV) (I : Rin s) (h : (rsF s).1 = 0) : (rsF s).2.n 2 = 8 * (rsF s).2.len 0 ∧ (rsF s).2.len 0 ≤ 1000 := by
  rw [rsF_eq] at h ⊢
  exact rOut rsX _ s I h (Nat.lt_succ_self _)

end Go.Proofs.Ytdagaggpaohmcaa

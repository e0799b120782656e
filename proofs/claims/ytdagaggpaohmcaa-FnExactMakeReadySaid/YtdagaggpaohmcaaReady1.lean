/-
  Facts of this seat that its laws use; no conditions.
-/
import Derived.Test.YtdagaggpaohmcaaTkM
namespace Go.Proofs.Ytdagaggpaohmcaa
open Go.Sim Go.ChangeShapes Go.WideShapes Go.ChangeAt Go.RowKit

def shiftV (n : Nat) (x : Vars) : Vars := { u := fun j => x.u (j + n), i := fun j => x.i (j + n), b := fun j => x.b (j + n), s := fun j => x.s (j + n) }

def UnitAt (o : Nat) (s : SV) : Prop := 1 ≤ s.x.i o ∧ s.x.i o ≤ 8 ∧ ∀ i : Nat, i < 8 → (i : Int) < s.x.i o → 2 ≤ s.x.i (o + 9 + 15 * i) ∧ s.x.i (o + 9 + 15 * i) ≤ 12
def LastAt (o p : Nat) (s : SV) : Prop := ∀ i : Nat, i < 8 → (i : Int) < s.x.i o → isNan .f32 (s.x.u (p + i)) = false
def TargAt (p : Nat) (s : SV) : Prop := ∀ i : Nat, i < 8 → s.x.u (p + i) % 2147483648 ≤ 1098907648

theorem eightI {P : Nat → Prop} (h0 : P 0) (h1 : P 1) (h2 : P 2) (h3 : P 3) (h4 : P 4) (h5 : P 5) (h6 : P 6) (h7 : P 7) : ∀ i, i < 8 → P i := fun i hi =>
  match i, hi with
  | 0, _ => h0
  | 1, _ => h1
  | 2, _ => h2
  | 3, _ => h3
  | 4, _ => h4
  | 5, _ => h5
  | 6, _ => h6
  | 7, _ => h7

theorem rollB {o : Nat} {s : SV} (U : UnitAt o s) (i : Nat) (hi : i < 8) : (decide (s.x.i o ≤ (i : Int)) || (decide (2 ≤ s.x.i (o + 9 + 15 * i)) && decide (s.x.i (o + 9 + 15 * i) ≤ 12))) = true :=
  orE fun h => let q := U.2.2 i hi (Int.not_le.1 (of_decide_eq_false h)); andT (decide_eq_true q.1) (decide_eq_true q.2)

theorem lastB {n : Int} {v : Nat} {i : Nat} (h : (decide (n ≤ (i : Int)) || (!(isNan .f32 v))) = true) (hi : (i : Int) < n) : isNan .f32 v = false := by
  rw [decide_eq_false (Int.not_le.2 hi)] at h
  exact notBT h

def uC : List VSh := [.sc (.int .i8), .sc (.flt .f32), .sc (.flt .f32), .sc (.flt .f32), .sc (.flt .f32), .sc (.flt .f32), .sc (.flt .f32), .sc (.flt .f32), .sc (.flt .f32), .sc (.int .i8), .sc (.flt .f32), .sc (.flt .f32), .sc (.flt .f32), .sc (.flt .f32), .sc (.flt .f32), .sc (.flt .f32), .sc (.flt .f32), .sc (.flt .f32), .sc (.flt .f32), .sc (.flt .f32), .sc (.flt .f32), .sc (.flt .f32), .sc (.flt .f32), .sc (.flt .f32), .sc (.int .i8), .sc (.flt .f32), .sc (.flt .f32), .sc (.flt .f32), .sc (.flt .f32), .sc (.flt .f32), .sc (.flt .f32), .sc (.flt .f32), .sc (.flt .f32), .sc (.flt .f32), .sc (.flt .f32), .sc (.flt .f32), .sc (.flt .f32), .sc (.flt .f32), .sc (.flt .f32), .sc (.int .i8), .sc (.flt .f32), .sc (.flt .f32), .sc (.flt .f32), .sc (.flt .f32), .sc (.flt .f32), .sc (.flt .f32), .sc (.flt .f32), .sc (.flt .f32), .sc (.flt .f32), .sc (.flt .f32), .sc (.flt .f32), .sc (.flt .f32), .sc (.flt .f32), .sc (.flt .f32), .sc (.int .i8), .sc (.flt .f32), .sc (.flt .f32), .sc (.flt .f32), .sc (.flt .f32), .sc (.flt .f32), .sc (.flt .f32), .sc (.flt .f32), .sc (.flt .f32), .sc (.flt .f32), .sc (.flt .f32), .sc (.flt .f32), .sc (.flt .f32), .sc (.flt .f32), .sc (.flt .f32), .sc (.int .i8), .sc (.flt .f32), .sc (.flt .f32), .sc (.flt .f32), .sc (.flt .f32), .sc (.flt .f32), .sc (.flt .f32), .sc (.flt .f32), .sc (.flt .f32), .sc (.flt .f32), .sc (.flt .f32), .sc (.flt .f32), .sc (.flt .f32), .sc (.flt .f32), .sc (.flt .f32), .sc (.int .i8), .sc (.flt .f32), .sc (.flt .f32), .sc (.flt .f32), .sc (.flt .f32), .sc (.flt .f32), .sc (.flt .f32), .sc (.flt .f32), .sc (.flt .f32), .sc (.flt .f32), .sc (.flt .f32), .sc (.flt .f32), .sc (.flt .f32), .sc (.flt .f32), .sc (.flt .f32), .sc (.int .i8), .sc (.flt .f32), .sc (.flt .f32), .sc (.flt .f32), .sc (.flt .f32), .sc (.flt .f32), .sc (.flt .f32), .sc (.flt .f32), .sc (.flt .f32), .sc (.flt .f32), .sc (.flt .f32), .sc (.flt .f32), .sc (.flt .f32), .sc (.flt .f32), .sc (.flt .f32), .sc (.int .i8), .sc (.flt .f32), .sc (.flt .f32), .sc (.flt .f32), .sc (.flt .f32), .sc (.flt .f32), .sc (.flt .f32), .sc (.flt .f32), .sc (.flt .f32), .sc (.flt .f32), .sc (.flt .f32), .sc (.flt .f32), .sc (.flt .f32), .sc (.flt .f32), .sc (.flt .f32)]

def zC : List VSh := [.cst (.int .i8 0), .cst (.flt .f32 0), .cst (.flt .f32 0), .cst (.flt .f32 0), .cst (.flt .f32 0), .cst (.flt .f32 0), .cst (.flt .f32 0), .cst (.flt .f32 0), .cst (.flt .f32 0), .cst (.int .i8 0), .cst (.flt .f32 0), .cst (.flt .f32 0), .cst (.flt .f32 0), .cst (.flt .f32 0), .cst (.flt .f32 0), .cst (.flt .f32 0), .cst (.flt .f32 0), .cst (.flt .f32 0), .cst (.flt .f32 0), .cst (.flt .f32 0), .cst (.flt .f32 0), .cst (.flt .f32 0), .cst (.flt .f32 0), .cst (.flt .f32 0), .cst (.int .i8 0), .cst (.flt .f32 0), .cst (.flt .f32 0), .cst (.flt .f32 0), .cst (.flt .f32 0), .cst (.flt .f32 0), .cst (.flt .f32 0), .cst (.flt .f32 0), .cst (.flt .f32 0), .cst (.flt .f32 0), .cst (.flt .f32 0), .cst (.flt .f32 0), .cst (.flt .f32 0), .cst (.flt .f32 0), .cst (.flt .f32 0), .cst (.int .i8 0), .cst (.flt .f32 0), .cst (.flt .f32 0), .cst (.flt .f32 0), .cst (.flt .f32 0), .cst (.flt .f32 0), .cst (.flt .f32 0), .cst (.flt .f32 0), .cst (.flt .f32 0), .cst (.flt .f32 0), .cst (.flt .f32 0), .cst (.flt .f32 0), .cst (.flt .f32 0), .cst (.flt .f32 0), .cst (.flt .f32 0), .cst (.int .i8 0), .cst (.flt .f32 0), .cst (.flt .f32 0), .cst (.flt .f32 0), .cst (.flt .f32 0), .cst (.flt .f32 0), .cst (.flt .f32 0), .cst (.flt .f32 0), .cst (.flt .f32 0), .cst (.flt .f32 0), .cst (.flt .f32 0), .cst (.flt .f32 0), .cst (.flt .f32 0), .cst (.flt .f32 0), .cst (.flt .f32 0), .cst (.int .i8 0), .cst (.flt .f32 0), .cst (.flt .f32 0), .cst (.flt .f32 0), .cst (.flt .f32 0), .cst (.flt .f32 0), .cst (.flt .f32 0), .cst (.flt .f32 0), .cst (.flt .f32 0), .cst (.flt .f32 0), .cst (.flt .f32 0), .cst (.flt .f32 0), .cst (.flt .f32 0), .cst (.flt .f32 0), .cst (.flt .f32 0), .cst (.int .i8 0), .cst (.flt .f32 0), .cst (.flt .f32 0), .cst (.flt .f32 0), .cst (.flt .f32 0), .cst (.flt .f32 0), .cst (.flt .f32 0), .cst (.flt .f32 0), .cst (.flt .f32 0), .cst (.flt .f32 0), .cst (.flt .f32 0), .cst (.flt .f32 0), .cst (.flt .f32 0), .cst (.flt .f32 0), .cst (.flt .f32 0), .cst (.int .i8 0), .cst (.flt .f32 0), .cst (.flt .f32 0), .cst (.flt .f32 0), .cst (.flt .f32 0), .cst (.flt .f32 0), .cst (.flt .f32 0), .cst (.flt .f32 0), .cst (.flt .f32 0), .cst (.flt .f32 0), .cst (.flt .f32 0), .cst (.flt .f32 0), .cst (.flt .f32 0), .cst (.flt .f32 0), .cst (.flt .f32 0), .cst (.int .i8 0), .cst (.flt .f32 0), .cst (.flt .f32 0), .cst (.flt .f32 0), .cst (.flt .f32 0), .cst (.flt .f32 0), .cst (.flt .f32 0), .cst (.flt .f32 0), .cst (.flt .f32 0), .cst (.flt .f32 0), .cst (.flt .f32 0), .cst (.flt .f32 0), .cst (.flt .f32 0), .cst (.flt .f32 0), .cst (.flt .f32 0)]

noncomputable def miL : LP := { A := 0, ts := [9, 10, 34, 35, 2, 3, 4, 11], F := ⟨[.sc (.int .i64), .sc (.int .i64), .sc (.int .i16), .sc (.int .i16), .ptr 0 0, .ptr 1 0, .ptr 2 0, .ptr 3 0], [.lit uC true, .lit [.sc (.flt .f32), .sc (.flt .f32), .sc (.flt .f32), .sc (.flt .f32), .sc (.flt .f32), .sc (.flt .f32), .sc (.flt .f32), .sc (.flt .f32), .sc (.flt .f32), .sc (.flt .f32), .sc (.flt .f32), .sc (.flt .f32), .sc (.flt .f32), .sc (.flt .f32), .sc (.flt .f32), .sc (.flt .f32), .sc (.flt .f32), .sc (.flt .f32), .sc (.int .i16)] false, .lit zC true, .lit [.sc (.flt .f32), .sc (.flt .f32), .sc (.flt .f32), .sc (.flt .f32), .sc (.flt .f32), .sc (.flt .f32), .sc (.flt .f32), .sc (.flt .f32)] true]⟩, xs := [(.exit 2, [9, 10, 2, 3, 4, 11], ⟨[.sc (.int .i64), .sc (.int .i64), .ptr 0 0, .ptr 1 0, .ptr 2 0, .ptr 3 0], [.lit uC true, .lit [.sc (.flt .f32), .sc (.flt .f32), .sc (.flt .f32), .sc (.flt .f32), .sc (.flt .f32), .sc (.flt .f32), .sc (.flt .f32), .sc (.flt .f32), .sc (.flt .f32), .sc (.flt .f32), .sc (.flt .f32), .sc (.flt .f32), .sc (.flt .f32), .sc (.flt .f32), .sc (.flt .f32), .sc (.flt .f32), .sc (.flt .f32), .sc (.flt .f32), .sc (.int .i16)] false, .lit zC true, .lit [.sc (.flt .f32), .sc (.flt .f32), .sc (.flt .f32), .sc (.flt .f32), .sc (.flt .f32), .sc (.flt .f32), .sc (.flt .f32), .sc (.flt .f32)] true]⟩), (.ret, [4, 5, 6, 7], ⟨[.ptr 0 0, .sc (.int .i64), .sc (.int .i64), .sc (.int .i64)], [.lit uC true]⟩)] }

noncomputable def msL : LP := { A := 0, ts := [9, 10, 26, 12, 2, 3, 4, 11], F := ⟨[.sc (.int .i64), .sc (.int .i64), .sc (.int .i16), .sc (.int .i16), .ptr 0 0, .ptr 1 0, .ptr 2 0, .ptr 3 0], [.lit uC true, .lit [.sc (.flt .f32), .sc (.flt .f32), .sc (.flt .f32), .sc (.flt .f32), .sc (.flt .f32), .sc (.flt .f32), .sc (.flt .f32), .sc (.flt .f32), .sc (.flt .f32), .sc (.flt .f32), .sc (.flt .f32), .sc (.flt .f32), .sc (.flt .f32), .sc (.flt .f32), .sc (.flt .f32), .sc (.flt .f32), .sc (.flt .f32), .sc (.flt .f32), .sc (.int .i16)] false, .lit zC true, .lit [.sc (.flt .f32), .sc (.flt .f32), .sc (.flt .f32), .sc (.flt .f32), .sc (.flt .f32), .sc (.flt .f32), .sc (.flt .f32), .sc (.flt .f32)] true]⟩, xs := [(.exit 2, [9, 10, 2, 3, 4, 11], ⟨[.sc (.int .i64), .sc (.int .i64), .ptr 0 0, .ptr 1 0, .ptr 2 0, .ptr 3 0], [.lit uC true, .lit [.sc (.flt .f32), .sc (.flt .f32), .sc (.flt .f32), .sc (.flt .f32), .sc (.flt .f32), .sc (.flt .f32), .sc (.flt .f32), .sc (.flt .f32), .sc (.flt .f32), .sc (.flt .f32), .sc (.flt .f32), .sc (.flt .f32), .sc (.flt .f32), .sc (.flt .f32), .sc (.flt .f32), .sc (.flt .f32), .sc (.flt .f32), .sc (.flt .f32), .sc (.int .i16)] false, .lit zC true, .lit [.sc (.flt .f32), .sc (.flt .f32), .sc (.flt .f32), .sc (.flt .f32), .sc (.flt .f32), .sc (.flt .f32), .sc (.flt .f32), .sc (.flt .f32)] true]⟩), (.ret, [4, 5, 6, 7], ⟨[.ptr 0 0, .sc (.int .i64), .sc (.int .i64), .sc (.int .i64)], [.lit uC true]⟩)] }

noncomputable def oiL : LP := { A := 0, ts := [9, 10, 2, 3, 4], F := ⟨[.sc (.int .i64), .sc (.int .i64), .ptr 0 0, .ptr 1 0, .ptr 2 0], [.lit uC true, .lit [.sc (.flt .f32), .sc (.flt .f32), .sc (.flt .f32), .sc (.flt .f32), .sc (.flt .f32), .sc (.flt .f32), .sc (.flt .f32), .sc (.flt .f32), .sc (.flt .f32), .sc (.flt .f32), .sc (.flt .f32), .sc (.flt .f32), .sc (.flt .f32), .sc (.flt .f32), .sc (.flt .f32), .sc (.flt .f32), .sc (.flt .f32), .sc (.flt .f32), .sc (.int .i16)] false, .lit zC true]⟩, xs := [(.exit 0, [4], ⟨[.ptr 0 0], [.lit zC true]⟩), (.ret, [4, 5, 6, 7], ⟨[.ptr 0 0, .sc (.int .i64), .sc (.int .i64), .sc (.int .i64)], [.lit uC true]⟩)] }

noncomputable def osL : LP := { A := 0, ts := [9, 10, 2, 3, 4], F := ⟨[.sc (.int .i64), .sc (.int .i64), .ptr 0 0, .ptr 1 0, .ptr 2 0], [.lit uC true, .lit [.sc (.flt .f32), .sc (.flt .f32), .sc (.flt .f32), .sc (.flt .f32), .sc (.flt .f32), .sc (.flt .f32), .sc (.flt .f32), .sc (.flt .f32), .sc (.flt .f32), .sc (.flt .f32), .sc (.flt .f32), .sc (.flt .f32), .sc (.flt .f32), .sc (.flt .f32), .sc (.flt .f32), .sc (.flt .f32), .sc (.flt .f32), .sc (.flt .f32), .sc (.int .i16)] false, .lit zC true]⟩, xs := [(.exit 0, [4], ⟨[.ptr 0 0], [.lit zC true]⟩), (.ret, [4, 5, 6, 7], ⟨[.ptr 0 0, .sc (.int .i64), .sc (.int .i64), .sc (.int .i64)], [.lit uC true]⟩)] }

noncomputable def G36 : Summ := inlGs Try.prog 1000 [68, 70] G35

theorem G36_ok : SoundG Try.prog G36 := by
  refine SoundG.inls mixed G35_ok fun f hf => ?_
  simp only [List.mem_cons, List.not_mem_nil, or_false] at hf
  rcases hf with rfl | rfl
  · exact Try.call68
  · exact Try.call70

noncomputable def shV (s : SV) : Vars := (sheetR (apl [(.sint .i8 (s.x.i 4))] (apl (fl s.x 5 8) (apl [(.sint .i8 (s.x.i 13))] (apl (fl s.x 14 14) (apl [(.sint .i8 (s.x.i 28))] (apl (fl s.x 29 14) (apl [(.sint .i8 (s.x.i 43))] (apl (fl s.x 44 14) (apl [(.sint .i8 (s.x.i 58))] (apl (fl s.x 59 14) (apl [(.sint .i8 (s.x.i 73))] (apl (fl s.x 74 14) (apl [(.sint .i8 (s.x.i 88))] (apl (fl s.x 89 14) (apl [(.sint .i8 (s.x.i 103))] (apl (fl s.x 104 14) (apl [(.sint .i8 (s.x.i 118))] (fl s.x 119 22)))))))))))))))))))

noncomputable def mX (s : SV) : SV := (mkSV [(.int .i64 0), (.int .i64 0), (.int .i64 3), (.int .i8 0), (.flt .f32 0), (.flt .f32 0), (.flt .f32 0), (.flt .f32 0), (.flt .f32 0), (.flt .f32 0), (.flt .f32 0), (.flt .f32 0), (.int .i8 0), (.flt .f32 0), (.flt .f32 0), (.flt .f32 0), (.flt .f32 0), (.flt .f32 0), (.flt .f32 0), (.flt .f32 0), (.flt .f32 0), (.flt .f32 0), (.flt .f32 0), (.flt .f32 0), (.flt .f32 0), (.flt .f32 0), (.flt .f32 0), (.int .i8 0), (.flt .f32 0), (.flt .f32 0), (.flt .f32 0), (.flt .f32 0), (.flt .f32 0), (.flt .f32 0), (.flt .f32 0), (.flt .f32 0), (.flt .f32 0), (.flt .f32 0), (.flt .f32 0), (.flt .f32 0), (.flt .f32 0), (.flt .f32 0), (.int .i8 0), (.flt .f32 0), (.flt .f32 0), (.flt .f32 0), (.flt .f32 0), (.flt .f32 0), (.flt .f32 0), (.flt .f32 0), (.flt .f32 0), (.flt .f32 0), (.flt .f32 0), (.flt .f32 0), (.flt .f32 0), (.flt .f32 0), (.flt .f32 0), (.int .i8 0), (.flt .f32 0), (.flt .f32 0), (.flt .f32 0), (.flt .f32 0), (.flt .f32 0), (.flt .f32 0), (.flt .f32 0), (.flt .f32 0), (.flt .f32 0), (.flt .f32 0), (.flt .f32 0), (.flt .f32 0), (.flt .f32 0), (.flt .f32 0), (.int .i8 0), (.flt .f32 0), (.flt .f32 0), (.flt .f32 0), (.flt .f32 0), (.flt .f32 0), (.flt .f32 0), (.flt .f32 0), (.flt .f32 0), (.flt .f32 0), (.flt .f32 0), (.flt .f32 0), (.flt .f32 0), (.flt .f32 0), (.flt .f32 0), (.int .i8 0), (.flt .f32 0), (.flt .f32 0), (.flt .f32 0), (.flt .f32 0), (.flt .f32 0), (.flt .f32 0), (.flt .f32 0), (.flt .f32 0), (.flt .f32 0), (.flt .f32 0), (.flt .f32 0), (.flt .f32 0), (.flt .f32 0), (.flt .f32 0), (.int .i8 0), (.flt .f32 0), (.flt .f32 0), (.flt .f32 0), (.flt .f32 0), (.flt .f32 0), (.flt .f32 0), (.flt .f32 0), (.flt .f32 0), (.flt .f32 0), (.flt .f32 0), (.flt .f32 0), (.flt .f32 0), (.flt .f32 0), (.flt .f32 0), (.int .i8 0), (.flt .f32 0), (.flt .f32 0), (.flt .f32 0), (.flt .f32 0), (.flt .f32 0), (.flt .f32 0), (.flt .f32 0), (.flt .f32 0), (.flt .f32 0), (.flt .f32 0), (.flt .f32 0), (.flt .f32 0), (.flt .f32 0), (.flt .f32 0)] [] [0] [zeroV])

noncomputable def mN (s : SV) : SV := (mkSV (apl [(.sint .i64 (iadd (s.x.i 0) 1)), (.sint .i64 (s.x.i 1)), (.sint .i16 (s.x.i 2)), (.sint .i16 (iadd (s.x.i 3) 1)), (.sint .i8 ((shV s).i 0))] (apl (fl (shV s) 1 8) (apl [(.sint .i8 ((shV s).i 9))] (apl (fl (shV s) 10 14) (apl [(.sint .i8 ((shV s).i 24))] (apl (fl (shV s) 25 14) (apl [(.sint .i8 ((shV s).i 39))] (apl (fl (shV s) 40 14) (apl [(.sint .i8 ((shV s).i 54))] (apl (fl (shV s) 55 14) (apl [(.sint .i8 ((shV s).i 69))] (apl (fl (shV s) 70 14) (apl [(.sint .i8 ((shV s).i 84))] (apl (fl (shV s) 85 14) (apl [(.sint .i8 ((shV s).i 99))] (apl (fl (shV s) 100 14) (apl [(.sint .i8 ((shV s).i 114))] (apl (fl (shV s) 115 14) (apl (fl s.x 133 18) (apl [(.sint .i16 (s.x.i 151))] (fl (shV s) 129 8))))))))))))))))))))) [] [0, 0, 0, 0] [zeroV, zeroV, zeroV, zeroV])

noncomputable def mE (s : SV) : SV := (mkSV (apl [(.sint .i64 (s.x.i 0)), (.sint .i64 (s.x.i 1)), (.sint .i8 (s.x.i 4))] (apl (fl s.x 5 8) (apl [(.sint .i8 (s.x.i 13))] (apl (fl s.x 14 14) (apl [(.sint .i8 (s.x.i 28))] (apl (fl s.x 29 14) (apl [(.sint .i8 (s.x.i 43))] (apl (fl s.x 44 14) (apl [(.sint .i8 (s.x.i 58))] (apl (fl s.x 59 14) (apl [(.sint .i8 (s.x.i 73))] (apl (fl s.x 74 14) (apl [(.sint .i8 (s.x.i 88))] (apl (fl s.x 89 14) (apl [(.sint .i8 (s.x.i 103))] (apl (fl s.x 104 14) (apl [(.sint .i8 (s.x.i 118))] (apl (fl s.x 119 32) (apl [(.sint .i16 (s.x.i 151))] (fl s.x 152 8)))))))))))))))))))) [] [0, 0, 0, 0] [zeroV, zeroV, zeroV, zeroV])

noncomputable def mC (s : SV) : List Bool := [(decide (1 ≤ (s.x.i 4))), (decide ((s.x.i 4) ≤ 8)), ((decide ((s.x.i 4) ≤ 0)) || ((decide (2 ≤ (s.x.i 13))) && (decide ((s.x.i 13) ≤ 12)))), ((decide ((s.x.i 4) ≤ 1)) || ((decide (2 ≤ (s.x.i 28))) && (decide ((s.x.i 28) ≤ 12)))), ((decide ((s.x.i 4) ≤ 2)) || ((decide (2 ≤ (s.x.i 43))) && (decide ((s.x.i 43) ≤ 12)))), ((decide ((s.x.i 4) ≤ 3)) || ((decide (2 ≤ (s.x.i 58))) && (decide ((s.x.i 58) ≤ 12)))), ((decide ((s.x.i 4) ≤ 4)) || ((decide (2 ≤ (s.x.i 73))) && (decide ((s.x.i 73) ≤ 12)))), ((decide ((s.x.i 4) ≤ 5)) || ((decide (2 ≤ (s.x.i 88))) && (decide ((s.x.i 88) ≤ 12)))), ((decide ((s.x.i 4) ≤ 6)) || ((decide (2 ≤ (s.x.i 103))) && (decide ((s.x.i 103) ≤ 12)))), ((decide ((s.x.i 4) ≤ 7)) || ((decide (2 ≤ (s.x.i 118))) && (decide ((s.x.i 118) ≤ 12))))]

noncomputable def mD (s : SV) : List Bool := [((decide ((-(32767 + 1)) ≤ (iadd (s.x.i 3) 1))) && (decide ((iadd (s.x.i 3) 1) ≤ 32767))), ((decide ((-(9223372036854775807 + 1)) ≤ (iadd (s.x.i 0) 1))) && (decide ((iadd (s.x.i 0) 1) ≤ 9223372036854775807)))]

noncomputable def mT (c : SV → Bool) (s : SV) : Tr := .node [] (c s) (.node (mC s) (!((shV s).b 137)) (.out 1 (mX s) []) (.next (mN s) (mD s))) (.out 0 (mE s) [])

noncomputable def msC (s : SV) : Bool := (decide ((s.x.i 3) < (s.x.i 151)))

theorem ms_t (s : SV) : Go.Sim.stepT Try.prog G36 (ntOf Try.prog 47) noLT true 1000 msL (loopOf Try.prog 47 2) s = some (mT msC s) := by kernel_rfl

noncomputable def miC (s : SV) : Bool := (decide ((s.x.i 3) < (s.x.i 2)))

theorem mi_t (s : SV) : Go.Sim.stepT Try.prog G36 (ntOf Try.prog 48) noLT true 1000 miL (loopOf Try.prog 48 2) s = some (mT miC s) := by kernel_rfl

theorem shC (s : SV) (U : UnitAt 4 s) : ∀ b ∈ mC s, b = true :=
  allC (decide_eq_true U.1) (allC (decide_eq_true U.2.1) (allC (rollB U 0 (by decide)) (allC (rollB U 1 (by decide)) (allC (rollB U 2 (by decide)) (allC (rollB U 3 (by decide)) (allC (rollB U 4 (by decide)) (allC (rollB U 5 (by decide)) (allC (rollB U 6 (by decide)) (allC (rollB U 7 (by decide)) allN)))))))))

theorem shFact (s : SV) (U : UnitAt 4 s) (h : (shV s).b 137 = true) : (shV s).i 0 = s.x.i 4 ∧ (shV s).i 9 = s.x.i 13 ∧ (shV s).i 24 = s.x.i 28 ∧ (shV s).i 39 = s.x.i 43 ∧ (shV s).i 54 = s.x.i 58 ∧ (shV s).i 69 = s.x.i 73 ∧ (shV s).i 84 = s.x.i 88 ∧ (shV s).i 99 = s.x.i 103 ∧ (shV s).i 114 = s.x.i 118 ∧ (decide (s.x.i 4 ≤ 0) || (!(isNan .f32 ((shV s).u 129)))) = true ∧ (decide (s.x.i 4 ≤ 1) || (!(isNan .f32 ((shV s).u 130)))) = true ∧ (decide (s.x.i 4 ≤ 2) || (!(isNan .f32 ((shV s).u 131)))) = true ∧ (decide (s.x.i 4 ≤ 3) || (!(isNan .f32 ((shV s).u 132)))) = true ∧ (decide (s.x.i 4 ≤ 4) || (!(isNan .f32 ((shV s).u 133)))) = true ∧ (decide (s.x.i 4 ≤ 5) || (!(isNan .f32 ((shV s).u 134)))) = true ∧ (decide (s.x.i 4 ≤ 6) || (!(isNan .f32 ((shV s).u 135)))) = true ∧ (decide (s.x.i 4 ≤ 7) || (!(isNan .f32 ((shV s).u 136)))) = true := by
  have e : sheetR (mkL (shiftV 4 s.x) 0 (kdsP [.val (.ag kd2), .ptr kd3])) = shV s := by kernel_rfl
  have hp : ∀ b ∈ sheetPre (mkL (shiftV 4 s.x) 0 (kdsP [.val (.ag kd2), .ptr kd3])), b = true := (show mC s = sheetPre (mkL (shiftV 4 s.x) 0 (kdsP [.val (.ag kd2), .ptr kd3])) from by kernel_rfl) ▸ shC s U
  have F := sheetFact (shiftV 4 s.x) hp (by rw [e]; exact h)
  rw [e] at F
  exact F

def Inn (s : SV) : Prop := 0 ≤ s.x.i 3 ∧ s.x.i 3 ≤ s.x.i 2 ∧ s.x.i 2 ≤ 50 ∧ s.x.i 2 = s.x.i 151 ∧ 0 ≤ s.x.i 0 ∧ s.x.i 0 + (s.x.i 2 - s.x.i 3) ≤ 1000 ∧ UnitAt 4 s ∧ LastAt 4 152 s
noncomputable def innB (s : SV) : Bool := @decide (Inn s) (Classical.propDecidable _)
theorem innB_of {s : SV} (h : innB s = true) : Inn s := @of_decide_eq_true _ (Classical.propDecidable _) h
theorem innB_to {s : SV} (h : Inn s) : innB s = true := @decide_eq_true _ (Classical.propDecidable _) h
def mMu (s : SV) : Nat := (s.x.i 2 - s.x.i 3).toNat

theorem mN_inn (s : SV) (I : Inn s) (hc : s.x.i 3 < s.x.i 2) (hb : (shV s).b 137 = true) : Inn (mN s) := by
  obtain ⟨i1, i2, i3, i4, i5, i6, U, _⟩ := I
  have F := shFact s U hb
  have e0 : (mN s).x.i 0 = iadd (s.x.i 0) 1 := by kernel_rfl
  have e2 : (mN s).x.i 2 = s.x.i 2 := by kernel_rfl
  have e3 : (mN s).x.i 3 = iadd (s.x.i 3) 1 := by kernel_rfl
  have e5 : (mN s).x.i 151 = s.x.i 151 := by kernel_rfl
  have e4 : (mN s).x.i 4 = s.x.i 4 := (show (mN s).x.i 4 = (shV s).i 0 from by kernel_rfl).trans F.1
  have r0 : (mN s).x.i 13 = s.x.i 13 := (show (mN s).x.i 13 = (shV s).i 9 from by kernel_rfl).trans F.2.1
  have l0 : (mN s).x.u 152 = (shV s).u 129 := by kernel_rfl
  have r1 : (mN s).x.i 28 = s.x.i 28 := (show (mN s).x.i 28 = (shV s).i 24 from by kernel_rfl).trans F.2.2.1
  have l1 : (mN s).x.u 153 = (shV s).u 130 := by kernel_rfl
  have r2 : (mN s).x.i 43 = s.x.i 43 := (show (mN s).x.i 43 = (shV s).i 39 from by kernel_rfl).trans F.2.2.2.1
  have l2 : (mN s).x.u 154 = (shV s).u 131 := by kernel_rfl
  have r3 : (mN s).x.i 58 = s.x.i 58 := (show (mN s).x.i 58 = (shV s).i 54 from by kernel_rfl).trans F.2.2.2.2.1
  have l3 : (mN s).x.u 155 = (shV s).u 132 := by kernel_rfl
  have r4 : (mN s).x.i 73 = s.x.i 73 := (show (mN s).x.i 73 = (shV s).i 69 from by kernel_rfl).trans F.2.2.2.2.2.1
  have l4 : (mN s).x.u 156 = (shV s).u 133 := by kernel_rfl
  have r5 : (mN s).x.i 88 = s.x.i 88 := (show (mN s).x.i 88 = (shV s).i 84 from by kernel_rfl).trans F.2.2.2.2.2.2.1
  have l5 : (mN s).x.u 157 = (shV s).u 134 := by kernel_rfl
  have r6 : (mN s).x.i 103 = s.x.i 103 := (show (mN s).x.i 103 = (shV s).i 99 from by kernel_rfl).trans F.2.2.2.2.2.2.2.1
  have l6 : (mN s).x.u 158 = (shV s).u 135 := by kernel_rfl
  have r7 : (mN s).x.i 118 = s.x.i 118 := (show (mN s).x.i 118 = (shV s).i 114 from by kernel_rfl).trans F.2.2.2.2.2.2.2.2.1
  have l7 : (mN s).x.u 159 = (shV s).u 136 := by kernel_rfl
  unfold iadd at e0 e3
  refine ⟨by omega, by omega, by omega, by omega, by omega, by omega, ⟨by rw [e4]; exact U.1, by rw [e4]; exact U.2.1, ?_⟩, ?_⟩
  · rw [e4]
    refine eightI (fun hi => by rw [show (4 + 9 + 15 * 0) = 13 from rfl, r0]; exact U.2.2 0 (by decide) hi) (fun hi => by rw [show (4 + 9 + 15 * 1) = 28 from rfl, r1]; exact U.2.2 1 (by decide) hi) (fun hi => by rw [show (4 + 9 + 15 * 2) = 43 from rfl, r2]; exact U.2.2 2 (by decide) hi) (fun hi => by rw [show (4 + 9 + 15 * 3) = 58 from rfl, r3]; exact U.2.2 3 (by decide) hi) (fun hi => by rw [show (4 + 9 + 15 * 4) = 73 from rfl, r4]; exact U.2.2 4 (by decide) hi) (fun hi => by rw [show (4 + 9 + 15 * 5) = 88 from rfl, r5]; exact U.2.2 5 (by decide) hi) (fun hi => by rw [show (4 + 9 + 15 * 6) = 103 from rfl, r6]; exact U.2.2 6 (by decide) hi) (fun hi => by rw [show (4 + 9 + 15 * 7) = 118 from rfl, r7]; exact U.2.2 7 (by decide) hi)
  · unfold LastAt
    rw [e4]
    refine eightI (fun hi => by rw [show 152 + 0 = 152 from rfl, l0]; exact lastB F.2.2.2.2.2.2.2.2.2.1 hi) (fun hi => by rw [show 152 + 1 = 153 from rfl, l1]; exact lastB F.2.2.2.2.2.2.2.2.2.2.1 hi) (fun hi => by rw [show 152 + 2 = 154 from rfl, l2]; exact lastB F.2.2.2.2.2.2.2.2.2.2.2.1 hi) (fun hi => by rw [show 152 + 3 = 155 from rfl, l3]; exact lastB F.2.2.2.2.2.2.2.2.2.2.2.2.1 hi) (fun hi => by rw [show 152 + 4 = 156 from rfl, l4]; exact lastB F.2.2.2.2.2.2.2.2.2.2.2.2.2.1 hi) (fun hi => by rw [show 152 + 5 = 157 from rfl, l5]; exact lastB F.2.2.2.2.2.2.2.2.2.2.2.2.2.2.1 hi) (fun hi => by rw [show 152 + 6 = 158 from rfl, l6]; exact lastB F.2.2.2.2.2.2.2.2.2.2.2.2.2.2.2.1 hi) (fun hi => by rw [show 152 + 7 = 159 from rfl, l7]; exact lastB F.2.2.2.2.2.2.2.2.2.2.2.2.2.2.2.2 hi)

theorem mGo (c : SV → Bool) (hcc : ∀ s, Inn s → c s = decide (s.x.i 3 < s.x.i 2)) (s : SV) (hp : ∀ b ∈ [innB s], b = true) :
    (mT c s).ok ∧ (∀ k s', (mT c s).pick = .out k s' → k < 2) ∧ ∀ s', (mT c s).pick = .next s' → (∀ b ∈ [innB s'], b = true) ∧ mMu s' < mMu s := by
  have I := innB_of (hp _ (List.mem_cons_self ..))
  have hcs := hcc s I
  unfold mT
  cases hc : c s with
  | false =>
    refine ⟨⟨(fun b hb => by cases hb), (fun h => by cases h), (fun _ b hb => by cases hb)⟩, fun k s' h => ?_, fun s' h => ?_⟩
    · cases h; decide
    · cases h
  | true =>
    rw [hc] at hcs
    have hlt : s.x.i 3 < s.x.i 2 := of_decide_eq_true hcs.symm
    have hC := shC s I.2.2.2.2.2.2.1
    cases hb : (shV s).b 137 with
    | false =>
      refine ⟨⟨(fun b hb => by cases hb), (fun _ => ⟨hC, (fun _ b hb => by cases hb), (fun h => by cases h)⟩), (fun h => by cases h)⟩, fun k s' h => ?_, fun s' h => ?_⟩
      · cases h; decide
      · cases h
    | true =>
      have J := mN_inn s I hlt hb
      obtain ⟨i1, i2, i3, i4, i5, i6, U, _⟩ := I
      refine ⟨⟨(fun b hb => by cases hb), (fun _ => ⟨hC, (fun h => by cases h), (fun _ => ?_)⟩), (fun h => by cases h)⟩, fun k s' h => ?_, fun s' h => ?_⟩
      · refine (allC (andT (decide_eq_true ?_) (decide_eq_true ?_)) (allC (andT (decide_eq_true ?_) (decide_eq_true ?_)) allN) : ∀ b ∈ mD s, b = true) <;> unfold iadd <;> omega
      · cases h
      · cases h
        refine ⟨fun b hb => ?_, ?_⟩
        · rw [List.mem_singleton.1 hb]; exact innB_to J
        · have e2 : (mN s).x.i 2 = s.x.i 2 := by kernel_rfl
          have e3 : (mN s).x.i 3 = iadd (s.x.i 3) 1 := by kernel_rfl
          unfold mMu
          rw [e2, e3]
          unfold iadd
          omega

theorem mRun (c c' : SV → Bool) (hc : ∀ s, Inn s → c s = decide (s.x.i 3 < s.x.i 2)) (hc' : ∀ s, Inn s → c' s = decide (s.x.i 3 < s.x.i 2)) (N : Nat) : ∀ s, Inn s → Go.Sim.runT (mT c) N s = Go.Sim.runT (mT c') N s := by
  induction N with
  | zero => intro s _; rfl
  | succ N ih =>
    intro s I
    have e : mT c s = mT c' s := by unfold mT; rw [hc s I, hc' s I]
    simp only [Go.Sim.runT, e]
    cases hp : (mT c' s).pick with
    | out k s' => rfl
    | next s' =>
      have := ((mGo c' hc' s (fun b hb => by rw [List.mem_singleton.1 hb]; exact innB_to I)).2.2 s' hp).1
      exact ih s' (innB_of (this _ (List.mem_cons_self ..)))

/-- What the loop leaves. -/
def Fin (s t : SV) : Prop := t.x.i 0 = s.x.i 0 + (s.x.i 2 - s.x.i 3) ∧ t.x.i 1 = s.x.i 1 ∧ UnitAt 2 t ∧ LastAt 2 150 t ∧ (∀ i : Nat, i < 8 → t.x.u (139 + i) = s.x.u (141 + i)) ∧ t.x.i 149 = s.x.i 151

theorem mOut (c : SV → Bool) (hcc : ∀ s, Inn s → c s = decide (s.x.i 3 < s.x.i 2)) (N : Nat) : ∀ s, Inn s → (Go.Sim.runT (mT c) N s).1 = 0 → mMu s < N → Fin s (Go.Sim.runT (mT c) N s).2 := by
  induction N with
  | zero => intro s _ _ h; omega
  | succ N ih =>
    intro s I h0 hm
    have hcs := hcc s I
    simp only [Go.Sim.runT] at h0 ⊢
    cases hc : c s with
    | false =>
      have hpk : (mT c s).pick = .out 0 (mE s) := by unfold mT; rw [hc]; rfl
      rw [hpk]
      rw [hc] at hcs
      have hge := of_decide_eq_false hcs.symm
      obtain ⟨i1, i2, i3, i4, i5, i6, U, L⟩ := I
      have f0 : (mE s).x.i 0 = s.x.i 0 := by kernel_rfl
      have f2 : (mE s).x.i 2 = s.x.i 4 := by kernel_rfl
      refine ⟨by simp only [f0]; omega, by kernel_rfl, ⟨by simp only [f2]; exact U.1, by simp only [f2]; exact U.2.1, ?_⟩, ?_, ?_, by kernel_rfl⟩
      · simp only [f2]
        exact eightI (fun hi => (show (mE s).x.i (2 + 9 + 15 * 0) = s.x.i (4 + 9 + 15 * 0) from by kernel_rfl) ▸ U.2.2 0 (by decide) hi) (fun hi => (show (mE s).x.i (2 + 9 + 15 * 1) = s.x.i (4 + 9 + 15 * 1) from by kernel_rfl) ▸ U.2.2 1 (by decide) hi) (fun hi => (show (mE s).x.i (2 + 9 + 15 * 2) = s.x.i (4 + 9 + 15 * 2) from by kernel_rfl) ▸ U.2.2 2 (by decide) hi) (fun hi => (show (mE s).x.i (2 + 9 + 15 * 3) = s.x.i (4 + 9 + 15 * 3) from by kernel_rfl) ▸ U.2.2 3 (by decide) hi) (fun hi => (show (mE s).x.i (2 + 9 + 15 * 4) = s.x.i (4 + 9 + 15 * 4) from by kernel_rfl) ▸ U.2.2 4 (by decide) hi) (fun hi => (show (mE s).x.i (2 + 9 + 15 * 5) = s.x.i (4 + 9 + 15 * 5) from by kernel_rfl) ▸ U.2.2 5 (by decide) hi) (fun hi => (show (mE s).x.i (2 + 9 + 15 * 6) = s.x.i (4 + 9 + 15 * 6) from by kernel_rfl) ▸ U.2.2 6 (by decide) hi) (fun hi => (show (mE s).x.i (2 + 9 + 15 * 7) = s.x.i (4 + 9 + 15 * 7) from by kernel_rfl) ▸ U.2.2 7 (by decide) hi)
      · unfold LastAt
        simp only [f2]
        exact eightI (fun hi => (show (mE s).x.u (150 + 0) = s.x.u (152 + 0) from by kernel_rfl) ▸ L 0 (by decide) hi) (fun hi => (show (mE s).x.u (150 + 1) = s.x.u (152 + 1) from by kernel_rfl) ▸ L 1 (by decide) hi) (fun hi => (show (mE s).x.u (150 + 2) = s.x.u (152 + 2) from by kernel_rfl) ▸ L 2 (by decide) hi) (fun hi => (show (mE s).x.u (150 + 3) = s.x.u (152 + 3) from by kernel_rfl) ▸ L 3 (by decide) hi) (fun hi => (show (mE s).x.u (150 + 4) = s.x.u (152 + 4) from by kernel_rfl) ▸ L 4 (by decide) hi) (fun hi => (show (mE s).x.u (150 + 5) = s.x.u (152 + 5) from by kernel_rfl) ▸ L 5 (by decide) hi) (fun hi => (show (mE s).x.u (150 + 6) = s.x.u (152 + 6) from by kernel_rfl) ▸ L 6 (by decide) hi) (fun hi => (show (mE s).x.u (150 + 7) = s.x.u (152 + 7) from by kernel_rfl) ▸ L 7 (by decide) hi)
      · exact eightI (by kernel_rfl) (by kernel_rfl) (by kernel_rfl) (by kernel_rfl) (by kernel_rfl) (by kernel_rfl) (by kernel_rfl) (by kernel_rfl)
    | true =>
      rw [hc] at hcs
      have hlt : s.x.i 3 < s.x.i 2 := of_decide_eq_true hcs.symm
      cases hb : (shV s).b 137 with
      | false =>
        have hpk : (mT c s).pick = .out 1 (mX s) := by unfold mT; rw [hc, hb]; rfl
        rw [hpk] at h0
        cases h0
      | true =>
        have hpk : (mT c s).pick = .next (mN s) := by unfold mT; rw [hc, hb]; rfl
        rw [hpk] at h0 ⊢
        have J := mN_inn s I hlt hb
        have e0 : (mN s).x.i 0 = iadd (s.x.i 0) 1 := by kernel_rfl
        have e1 : (mN s).x.i 1 = s.x.i 1 := by kernel_rfl
        have e2 : (mN s).x.i 2 = s.x.i 2 := by kernel_rfl
        have e3 : (mN s).x.i 3 = iadd (s.x.i 3) 1 := by kernel_rfl
        have e5 : (mN s).x.i 151 = s.x.i 151 := by kernel_rfl
        have K := ih (mN s) J h0 (by unfold mMu at hm ⊢; rw [e2, e3]; unfold iadd; omega)
        obtain ⟨k0, k1, k2, k3, k4, k5⟩ := K
        refine ⟨?_, k1.trans e1, k2, k3, ?_, k5.trans e5⟩
        · rw [k0, e0, e2, e3]; unfold iadd; omega
        · have q : ∀ i : Nat, i < 8 → (mN s).x.u (141 + i) = s.x.u (141 + i) := eightI (by kernel_rfl) (by kernel_rfl) (by kernel_rfl) (by kernel_rfl) (by kernel_rfl) (by kernel_rfl) (by kernel_rfl) (by kernel_rfl)
          exact fun i hi => (k4 i hi).trans (q i hi)

theorem msC_ok : ∀ s, Inn s → msC s = decide (s.x.i 3 < s.x.i 2) := fun s I => by unfold msC; rw [I.2.2.2.1]

noncomputable def msF0 (s : SV) : Nat × SV := Go.Sim.runT (mT msC) (mMu s + 1) s

noncomputable def msF : SV → Nat × SV := Classical.choose (⟨msF0, rfl⟩ : ∃ f, f = msF0)

theorem msF_eq : msF = msF0 := Classical.choose_spec (⟨msF0, rfl⟩ : ∃ f, f = msF0)

noncomputable def msPre (s : SV) : List Bool := [innB s]

noncomputable def Hms : LTab := hookL 2 msL msPre msF noLT

theorem Hms_ok : HFun Try.prog 0 Hms 47 := by
  unfold Hms
  rw [msF_eq]
  exact HFun.loop G36_ok mixed (J := true) (n := 1000) (L := msL) (T := mT msC) (pre := msPre) (μ := mMu) (HFun.none Try.prog 0 47) (by kernel_rfl) (by decide) (by decide) ms_t (fun s hp => mGo msC msC_ok s hp)

theorem miC_ok : ∀ s, Inn s → miC s = decide (s.x.i 3 < s.x.i 2) := fun _ _ => rfl

noncomputable def miF0 (s : SV) : Nat × SV := Go.Sim.runT (mT miC) (mMu s + 1) s

noncomputable def miF : SV → Nat × SV := Classical.choose (⟨miF0, rfl⟩ : ∃ f, f = miF0)

theorem miF_eq : miF = miF0 := Classical.choose_spec (⟨miF0, rfl⟩ : ∃ f, f = miF0)

noncomputable def miPre (s : SV) : List Bool := [innB s]

noncomputable def Hmi : LTab := hookL 2 miL miPre miF noLT

theorem Hmi_ok : HFun Try.prog 0 Hmi 48 := by
  unfold Hmi
  rw [miF_eq]
  exact HFun.loop G36_ok mixed (J := true) (n := 1000) (L := miL) (T := mT miC) (pre := miPre) (μ := mMu) (HFun.none Try.prog 0 48) (by kernel_rfl) (by decide) (by decide) mi_t (fun s hp => mGo miC miC_ok s hp)

theorem mF_eq (s : SV) (I : Inn s) : miF s = msF s := by
  rw [miF_eq, msF_eq]
  exact mRun miC msC miC_ok msC_ok _ s I

theorem mF_out (s : SV) (I : Inn s) (h : (msF s).1 = 0) : Fin s (msF s).2 := by
  rw [msF_eq] at h ⊢
  exact mOut msC msC_ok _ s I h (Nat.lt_succ_self _)

end Go.Proofs.Ytdagaggpaohmcaa

/-
  Facts of this seat that its laws use; no conditions.
-/
import Derived.Test.YtdagaggpaohmcaaReady2
namespace Go.Proofs.Ytdagaggpaohmcaa
open Go.Sim Go.ChangeShapes Go.WideShapes Go.ChangeAt Go.RowKit

noncomputable def G37 : Summ := inlGs Try.prog 1000 [68, 70] G36

theorem G37_ok : SoundG Try.prog G37 := by
  refine SoundG.inls mixed G36_ok fun f hf => ?_
  simp only [List.mem_cons, List.not_mem_nil, or_false] at hf
  rcases hf with rfl | rfl
  · exact Try.call68
  · exact Try.call70

theorem everyLast {a b c d e f : Bool} (h : (((((a && b) && c) && d) && e) && f) = true) : e = true ∧ f = true := by
  revert h
  cases a <;> cases b <;> cases c <;> cases d <;> cases e <;> cases f <;> intro h <;> first | exact ⟨rfl, rfl⟩ | cases h

set_option maxRecDepth 100000 in
theorem validSetting_every (x : Vars) (h : (validSettingR (mkL x 0 (kdsP [.val (.ag kd4)]))).b 0 = true) : 1 ≤ x.i 18 ∧ x.i 18 ≤ 50 := by
  rw [validSettingR_eq] at h
  have e := sb_inj (validSetting_x x)
  have h' := e.symm.trans h
  obtain ⟨_, h'⟩ := setStep h'
  obtain ⟨_, h'⟩ := setStep h'
  obtain ⟨_, h'⟩ := setStep h'
  obtain ⟨_, h'⟩ := setStep h'
  obtain ⟨_, h'⟩ := setStep h'
  obtain ⟨_, h'⟩ := setStep h'
  obtain ⟨_, h'⟩ := setStep h'
  obtain ⟨_, h'⟩ := setStep h'
  have q := everyLast h'
  exact ⟨of_decide_eq_true q.1, of_decide_eq_true q.2⟩

noncomputable def mS0 (x : Vars) : SV := (mkSV (apl [(.int .i64 0), (.int .i64 0), (.sint .i8 (x.i 0))] (apl (fl x 1 8) (apl [(.sint .i8 (x.i 9))] (apl (fl x 10 14) (apl [(.sint .i8 (x.i 24))] (apl (fl x 25 14) (apl [(.sint .i8 (x.i 39))] (apl (fl x 40 14) (apl [(.sint .i8 (x.i 54))] (apl (fl x 55 14) (apl [(.sint .i8 (x.i 69))] (apl (fl x 70 14) (apl [(.sint .i8 (x.i 84))] (apl (fl x 85 14) (apl [(.sint .i8 (x.i 99))] (apl (fl x 100 14) (apl [(.sint .i8 (x.i 114))] (apl (fl x 115 32) ([(.sint .i16 (x.i 147))]))))))))))))))))))) [] [0, 0, 0] [zeroV, zeroV, zeroV])

noncomputable def rdyB (x : Vars) : Vars := (validSettingR (apl (fl x 129 18) ([(.sint .i16 (x.i 147))])))

noncomputable def rdyA (x : Vars) : Vars := (validUnitR (apl [(.sint .i8 (x.i 0))] (apl (fl x 1 8) (apl [(.sint .i8 (x.i 9))] (apl (fl x 10 14) (apl [(.sint .i8 (x.i 24))] (apl (fl x 25 14) (apl [(.sint .i8 (x.i 39))] (apl (fl x 40 14) (apl [(.sint .i8 (x.i 54))] (apl (fl x 55 14) (apl [(.sint .i8 (x.i 69))] (apl (fl x 70 14) (apl [(.sint .i8 (x.i 84))] (apl (fl x 85 14) (apl [(.sint .i8 (x.i 99))] (apl (fl x 100 14) (apl [(.sint .i8 (x.i 114))] (fl x 115 14)))))))))))))))))))

noncomputable def rdyV (c : Bool) (k : Int) (F : Nat × SV) : AV := .tup [.agg [.sint .i8 ((bif c then 0 else (bif (Nat.beq F.1 0) then 0 else (F.2.x.i 3)))), .flt .f32 ((bif c then 0 else (bif (Nat.beq F.1 0) then 0 else (F.2.x.u 4)))), .flt .f32 ((bif c then 0 else (bif (Nat.beq F.1 0) then 0 else (F.2.x.u 5)))), .flt .f32 ((bif c then 0 else (bif (Nat.beq F.1 0) then 0 else (F.2.x.u 6)))), .flt .f32 ((bif c then 0 else (bif (Nat.beq F.1 0) then 0 else (F.2.x.u 7)))), .flt .f32 ((bif c then 0 else (bif (Nat.beq F.1 0) then 0 else (F.2.x.u 8)))), .flt .f32 ((bif c then 0 else (bif (Nat.beq F.1 0) then 0 else (F.2.x.u 9)))), .flt .f32 ((bif c then 0 else (bif (Nat.beq F.1 0) then 0 else (F.2.x.u 10)))), .flt .f32 ((bif c then 0 else (bif (Nat.beq F.1 0) then 0 else (F.2.x.u 11)))), .sint .i8 ((bif c then 0 else (bif (Nat.beq F.1 0) then 0 else (F.2.x.i 12)))), .flt .f32 ((bif c then 0 else (bif (Nat.beq F.1 0) then 0 else (F.2.x.u 13)))), .flt .f32 ((bif c then 0 else (bif (Nat.beq F.1 0) then 0 else (F.2.x.u 14)))), .flt .f32 ((bif c then 0 else (bif (Nat.beq F.1 0) then 0 else (F.2.x.u 15)))), .flt .f32 ((bif c then 0 else (bif (Nat.beq F.1 0) then 0 else (F.2.x.u 16)))), .flt .f32 ((bif c then 0 else (bif (Nat.beq F.1 0) then 0 else (F.2.x.u 17)))), .flt .f32 ((bif c then 0 else (bif (Nat.beq F.1 0) then 0 else (F.2.x.u 18)))), .flt .f32 ((bif c then 0 else (bif (Nat.beq F.1 0) then 0 else (F.2.x.u 19)))), .flt .f32 ((bif c then 0 else (bif (Nat.beq F.1 0) then 0 else (F.2.x.u 20)))), .flt .f32 ((bif c then 0 else (bif (Nat.beq F.1 0) then 0 else (F.2.x.u 21)))), .flt .f32 ((bif c then 0 else (bif (Nat.beq F.1 0) then 0 else (F.2.x.u 22)))), .flt .f32 ((bif c then 0 else (bif (Nat.beq F.1 0) then 0 else (F.2.x.u 23)))), .flt .f32 ((bif c then 0 else (bif (Nat.beq F.1 0) then 0 else (F.2.x.u 24)))), .flt .f32 ((bif c then 0 else (bif (Nat.beq F.1 0) then 0 else (F.2.x.u 25)))), .flt .f32 ((bif c then 0 else (bif (Nat.beq F.1 0) then 0 else (F.2.x.u 26)))), .sint .i8 ((bif c then 0 else (bif (Nat.beq F.1 0) then 0 else (F.2.x.i 27)))), .flt .f32 ((bif c then 0 else (bif (Nat.beq F.1 0) then 0 else (F.2.x.u 28)))), .flt .f32 ((bif c then 0 else (bif (Nat.beq F.1 0) then 0 else (F.2.x.u 29)))), .flt .f32 ((bif c then 0 else (bif (Nat.beq F.1 0) then 0 else (F.2.x.u 30)))), .flt .f32 ((bif c then 0 else (bif (Nat.beq F.1 0) then 0 else (F.2.x.u 31)))), .flt .f32 ((bif c then 0 else (bif (Nat.beq F.1 0) then 0 else (F.2.x.u 32)))), .flt .f32 ((bif c then 0 else (bif (Nat.beq F.1 0) then 0 else (F.2.x.u 33)))), .flt .f32 ((bif c then 0 else (bif (Nat.beq F.1 0) then 0 else (F.2.x.u 34)))), .flt .f32 ((bif c then 0 else (bif (Nat.beq F.1 0) then 0 else (F.2.x.u 35)))), .flt .f32 ((bif c then 0 else (bif (Nat.beq F.1 0) then 0 else (F.2.x.u 36)))), .flt .f32 ((bif c then 0 else (bif (Nat.beq F.1 0) then 0 else (F.2.x.u 37)))), .flt .f32 ((bif c then 0 else (bif (Nat.beq F.1 0) then 0 else (F.2.x.u 38)))), .flt .f32 ((bif c then 0 else (bif (Nat.beq F.1 0) then 0 else (F.2.x.u 39)))), .flt .f32 ((bif c then 0 else (bif (Nat.beq F.1 0) then 0 else (F.2.x.u 40)))), .flt .f32 ((bif c then 0 else (bif (Nat.beq F.1 0) then 0 else (F.2.x.u 41)))), .sint .i8 ((bif c then 0 else (bif (Nat.beq F.1 0) then 0 else (F.2.x.i 42)))), .flt .f32 ((bif c then 0 else (bif (Nat.beq F.1 0) then 0 else (F.2.x.u 43)))), .flt .f32 ((bif c then 0 else (bif (Nat.beq F.1 0) then 0 else (F.2.x.u 44)))), .flt .f32 ((bif c then 0 else (bif (Nat.beq F.1 0) then 0 else (F.2.x.u 45)))), .flt .f32 ((bif c then 0 else (bif (Nat.beq F.1 0) then 0 else (F.2.x.u 46)))), .flt .f32 ((bif c then 0 else (bif (Nat.beq F.1 0) then 0 else (F.2.x.u 47)))), .flt .f32 ((bif c then 0 else (bif (Nat.beq F.1 0) then 0 else (F.2.x.u 48)))), .flt .f32 ((bif c then 0 else (bif (Nat.beq F.1 0) then 0 else (F.2.x.u 49)))), .flt .f32 ((bif c then 0 else (bif (Nat.beq F.1 0) then 0 else (F.2.x.u 50)))), .flt .f32 ((bif c then 0 else (bif (Nat.beq F.1 0) then 0 else (F.2.x.u 51)))), .flt .f32 ((bif c then 0 else (bif (Nat.beq F.1 0) then 0 else (F.2.x.u 52)))), .flt .f32 ((bif c then 0 else (bif (Nat.beq F.1 0) then 0 else (F.2.x.u 53)))), .flt .f32 ((bif c then 0 else (bif (Nat.beq F.1 0) then 0 else (F.2.x.u 54)))), .flt .f32 ((bif c then 0 else (bif (Nat.beq F.1 0) then 0 else (F.2.x.u 55)))), .flt .f32 ((bif c then 0 else (bif (Nat.beq F.1 0) then 0 else (F.2.x.u 56)))), .sint .i8 ((bif c then 0 else (bif (Nat.beq F.1 0) then 0 else (F.2.x.i 57)))), .flt .f32 ((bif c then 0 else (bif (Nat.beq F.1 0) then 0 else (F.2.x.u 58)))), .flt .f32 ((bif c then 0 else (bif (Nat.beq F.1 0) then 0 else (F.2.x.u 59)))), .flt .f32 ((bif c then 0 else (bif (Nat.beq F.1 0) then 0 else (F.2.x.u 60)))), .flt .f32 ((bif c then 0 else (bif (Nat.beq F.1 0) then 0 else (F.2.x.u 61)))), .flt .f32 ((bif c then 0 else (bif (Nat.beq F.1 0) then 0 else (F.2.x.u 62)))), .flt .f32 ((bif c then 0 else (bif (Nat.beq F.1 0) then 0 else (F.2.x.u 63)))), .flt .f32 ((bif c then 0 else (bif (Nat.beq F.1 0) then 0 else (F.2.x.u 64)))), .flt .f32 ((bif c then 0 else (bif (Nat.beq F.1 0) then 0 else (F.2.x.u 65)))), .flt .f32 ((bif c then 0 else (bif (Nat.beq F.1 0) then 0 else (F.2.x.u 66)))), .flt .f32 ((bif c then 0 else (bif (Nat.beq F.1 0) then 0 else (F.2.x.u 67)))), .flt .f32 ((bif c then 0 else (bif (Nat.beq F.1 0) then 0 else (F.2.x.u 68)))), .flt .f32 ((bif c then 0 else (bif (Nat.beq F.1 0) then 0 else (F.2.x.u 69)))), .flt .f32 ((bif c then 0 else (bif (Nat.beq F.1 0) then 0 else (F.2.x.u 70)))), .flt .f32 ((bif c then 0 else (bif (Nat.beq F.1 0) then 0 else (F.2.x.u 71)))), .sint .i8 ((bif c then 0 else (bif (Nat.beq F.1 0) then 0 else (F.2.x.i 72)))), .flt .f32 ((bif c then 0 else (bif (Nat.beq F.1 0) then 0 else (F.2.x.u 73)))), .flt .f32 ((bif c then 0 else (bif (Nat.beq F.1 0) then 0 else (F.2.x.u 74)))), .flt .f32 ((bif c then 0 else (bif (Nat.beq F.1 0) then 0 else (F.2.x.u 75)))), .flt .f32 ((bif c then 0 else (bif (Nat.beq F.1 0) then 0 else (F.2.x.u 76)))), .flt .f32 ((bif c then 0 else (bif (Nat.beq F.1 0) then 0 else (F.2.x.u 77)))), .flt .f32 ((bif c then 0 else (bif (Nat.beq F.1 0) then 0 else (F.2.x.u 78)))), .flt .f32 ((bif c then 0 else (bif (Nat.beq F.1 0) then 0 else (F.2.x.u 79)))), .flt .f32 ((bif c then 0 else (bif (Nat.beq F.1 0) then 0 else (F.2.x.u 80)))), .flt .f32 ((bif c then 0 else (bif (Nat.beq F.1 0) then 0 else (F.2.x.u 81)))), .flt .f32 ((bif c then 0 else (bif (Nat.beq F.1 0) then 0 else (F.2.x.u 82)))), .flt .f32 ((bif c then 0 else (bif (Nat.beq F.1 0) then 0 else (F.2.x.u 83)))), .flt .f32 ((bif c then 0 else (bif (Nat.beq F.1 0) then 0 else (F.2.x.u 84)))), .flt .f32 ((bif c then 0 else (bif (Nat.beq F.1 0) then 0 else (F.2.x.u 85)))), .flt .f32 ((bif c then 0 else (bif (Nat.beq F.1 0) then 0 else (F.2.x.u 86)))), .sint .i8 ((bif c then 0 else (bif (Nat.beq F.1 0) then 0 else (F.2.x.i 87)))), .flt .f32 ((bif c then 0 else (bif (Nat.beq F.1 0) then 0 else (F.2.x.u 88)))), .flt .f32 ((bif c then 0 else (bif (Nat.beq F.1 0) then 0 else (F.2.x.u 89)))), .flt .f32 ((bif c then 0 else (bif (Nat.beq F.1 0) then 0 else (F.2.x.u 90)))), .flt .f32 ((bif c then 0 else (bif (Nat.beq F.1 0) then 0 else (F.2.x.u 91)))), .flt .f32 ((bif c then 0 else (bif (Nat.beq F.1 0) then 0 else (F.2.x.u 92)))), .flt .f32 ((bif c then 0 else (bif (Nat.beq F.1 0) then 0 else (F.2.x.u 93)))), .flt .f32 ((bif c then 0 else (bif (Nat.beq F.1 0) then 0 else (F.2.x.u 94)))), .flt .f32 ((bif c then 0 else (bif (Nat.beq F.1 0) then 0 else (F.2.x.u 95)))), .flt .f32 ((bif c then 0 else (bif (Nat.beq F.1 0) then 0 else (F.2.x.u 96)))), .flt .f32 ((bif c then 0 else (bif (Nat.beq F.1 0) then 0 else (F.2.x.u 97)))), .flt .f32 ((bif c then 0 else (bif (Nat.beq F.1 0) then 0 else (F.2.x.u 98)))), .flt .f32 ((bif c then 0 else (bif (Nat.beq F.1 0) then 0 else (F.2.x.u 99)))), .flt .f32 ((bif c then 0 else (bif (Nat.beq F.1 0) then 0 else (F.2.x.u 100)))), .flt .f32 ((bif c then 0 else (bif (Nat.beq F.1 0) then 0 else (F.2.x.u 101)))), .sint .i8 ((bif c then 0 else (bif (Nat.beq F.1 0) then 0 else (F.2.x.i 102)))), .flt .f32 ((bif c then 0 else (bif (Nat.beq F.1 0) then 0 else (F.2.x.u 103)))), .flt .f32 ((bif c then 0 else (bif (Nat.beq F.1 0) then 0 else (F.2.x.u 104)))), .flt .f32 ((bif c then 0 else (bif (Nat.beq F.1 0) then 0 else (F.2.x.u 105)))), .flt .f32 ((bif c then 0 else (bif (Nat.beq F.1 0) then 0 else (F.2.x.u 106)))), .flt .f32 ((bif c then 0 else (bif (Nat.beq F.1 0) then 0 else (F.2.x.u 107)))), .flt .f32 ((bif c then 0 else (bif (Nat.beq F.1 0) then 0 else (F.2.x.u 108)))), .flt .f32 ((bif c then 0 else (bif (Nat.beq F.1 0) then 0 else (F.2.x.u 109)))), .flt .f32 ((bif c then 0 else (bif (Nat.beq F.1 0) then 0 else (F.2.x.u 110)))), .flt .f32 ((bif c then 0 else (bif (Nat.beq F.1 0) then 0 else (F.2.x.u 111)))), .flt .f32 ((bif c then 0 else (bif (Nat.beq F.1 0) then 0 else (F.2.x.u 112)))), .flt .f32 ((bif c then 0 else (bif (Nat.beq F.1 0) then 0 else (F.2.x.u 113)))), .flt .f32 ((bif c then 0 else (bif (Nat.beq F.1 0) then 0 else (F.2.x.u 114)))), .flt .f32 ((bif c then 0 else (bif (Nat.beq F.1 0) then 0 else (F.2.x.u 115)))), .flt .f32 ((bif c then 0 else (bif (Nat.beq F.1 0) then 0 else (F.2.x.u 116)))), .sint .i8 ((bif c then 0 else (bif (Nat.beq F.1 0) then 0 else (F.2.x.i 117)))), .flt .f32 ((bif c then 0 else (bif (Nat.beq F.1 0) then 0 else (F.2.x.u 118)))), .flt .f32 ((bif c then 0 else (bif (Nat.beq F.1 0) then 0 else (F.2.x.u 119)))), .flt .f32 ((bif c then 0 else (bif (Nat.beq F.1 0) then 0 else (F.2.x.u 120)))), .flt .f32 ((bif c then 0 else (bif (Nat.beq F.1 0) then 0 else (F.2.x.u 121)))), .flt .f32 ((bif c then 0 else (bif (Nat.beq F.1 0) then 0 else (F.2.x.u 122)))), .flt .f32 ((bif c then 0 else (bif (Nat.beq F.1 0) then 0 else (F.2.x.u 123)))), .flt .f32 ((bif c then 0 else (bif (Nat.beq F.1 0) then 0 else (F.2.x.u 124)))), .flt .f32 ((bif c then 0 else (bif (Nat.beq F.1 0) then 0 else (F.2.x.u 125)))), .flt .f32 ((bif c then 0 else (bif (Nat.beq F.1 0) then 0 else (F.2.x.u 126)))), .flt .f32 ((bif c then 0 else (bif (Nat.beq F.1 0) then 0 else (F.2.x.u 127)))), .flt .f32 ((bif c then 0 else (bif (Nat.beq F.1 0) then 0 else (F.2.x.u 128)))), .flt .f32 ((bif c then 0 else (bif (Nat.beq F.1 0) then 0 else (F.2.x.u 129)))), .flt .f32 ((bif c then 0 else (bif (Nat.beq F.1 0) then 0 else (F.2.x.u 130)))), .flt .f32 ((bif c then 0 else (bif (Nat.beq F.1 0) then 0 else (F.2.x.u 131))))], .sint .i64 ((bif c then 0 else (bif (Nat.beq F.1 0) then 0 else (F.2.x.i 0)))), .sint .i64 ((bif c then 0 else (bif (Nat.beq F.1 0) then 0 else (F.2.x.i 1)))), .sint .i64 ((bif c then k else (bif (Nat.beq F.1 0) then 7 else (F.2.x.i 2))))]

noncomputable def rdyK (x : Vars) : Int := (bif ((!((rdyA x).b 0)) || (!((rdyB x).b 0))) then 1 else 0)
noncomputable def rdyC (x : Vars) : Bool := (!(decide (rdyK x = 0)))

noncomputable def ready_v (x : Vars) : AV := rdyV (rdyC x) (rdyK x) (osF (mS0 x))

noncomputable def readyR0 (l : List AV) : Vars := outV (some (ready_v (varsOf l), []))

noncomputable def readyR : List AV → Vars := Classical.choose (⟨readyR0, rfl⟩ : ∃ f, f = readyR0)

theorem readyR_eq : readyR = readyR0 := Classical.choose_spec (⟨readyR0, rfl⟩ : ∃ f, f = readyR0)

theorem ready_x (x : Vars) : mkR (readyR0 (mkL x 0 (kdsP [.val (.ag kd2), .val (.ag kd4)]))) [.ag kd2, .sc (.int .i64), .sc (.int .i64), .sc (.int .i64)] = ready_v x := by kernel_rfl

theorem rdyAB (x : Vars) (h : rdyC x = false) : (rdyA x).b 0 = true ∧ (rdyB x).b 0 = true := by
  have h' := notDec h
  unfold rdyK at h'
  revert h'
  cases (rdyA x).b 0 <;> cases (rdyB x).b 0 <;> decide

theorem rdyOut (x : Vars) (h : rdyC x = false) : Out (mS0 x) := by
  obtain ⟨ha, hb⟩ := rdyAB x h
  have U := validUnit_rng x ((show (validUnitR (mkL x 0 (kdsP [.val (.ag kd2)]))).b 0 = (rdyA x).b 0 from by kernel_rfl).trans ha)
  have hb' := (show (validSettingR (mkL (shiftV 129 x) 0 (kdsP [.val (.ag kd4)]))).b 0 = (rdyB x).b 0 from by kernel_rfl).trans hb
  have E := validSetting_every (shiftV 129 x) hb'
  have K := validSetting_key (shiftV 129 x) hb'
  have e0 : (mS0 x).x.i 0 = 0 := by kernel_rfl
  have e1 : (mS0 x).x.i 1 = 0 := by kernel_rfl
  have e2 : (mS0 x).x.i 2 = x.i 0 := by kernel_rfl
  have e3 : (mS0 x).x.i 149 = (shiftV 129 x).i 18 := by kernel_rfl
  refine ⟨by omega, by omega, by omega, by omega, by omega, by omega, ⟨by rw [e2]; exact U.1, by rw [e2]; exact U.2.1, ?_⟩, ?_⟩
  · rw [e2]
    exact eightI (fun hi => (show (mS0 x).x.i (2 + 9 + 15 * 0) = x.i 9 from by kernel_rfl) ▸ U.2.2.1 hi) (fun hi => (show (mS0 x).x.i (2 + 9 + 15 * 1) = x.i 24 from by kernel_rfl) ▸ U.2.2.2.1 hi) (fun hi => (show (mS0 x).x.i (2 + 9 + 15 * 2) = x.i 39 from by kernel_rfl) ▸ U.2.2.2.2.1 hi) (fun hi => (show (mS0 x).x.i (2 + 9 + 15 * 3) = x.i 54 from by kernel_rfl) ▸ U.2.2.2.2.2.1 hi) (fun hi => (show (mS0 x).x.i (2 + 9 + 15 * 4) = x.i 69 from by kernel_rfl) ▸ U.2.2.2.2.2.2.1 hi) (fun hi => (show (mS0 x).x.i (2 + 9 + 15 * 5) = x.i 84 from by kernel_rfl) ▸ U.2.2.2.2.2.2.2.1 hi) (fun hi => (show (mS0 x).x.i (2 + 9 + 15 * 6) = x.i 99 from by kernel_rfl) ▸ U.2.2.2.2.2.2.2.2.1 hi) (fun hi => (show (mS0 x).x.i (2 + 9 + 15 * 7) = x.i 114 from by kernel_rfl) ▸ U.2.2.2.2.2.2.2.2.2 hi)
  · exact eightI ((show (mS0 x).x.u (139 + 0) = (shiftV 129 x).u 8 from by kernel_rfl) ▸ (isKey_in K.1).2) ((show (mS0 x).x.u (139 + 1) = (shiftV 129 x).u 9 from by kernel_rfl) ▸ (isKey_in K.2.1).2) ((show (mS0 x).x.u (139 + 2) = (shiftV 129 x).u 10 from by kernel_rfl) ▸ (isKey_in K.2.2.1).2) ((show (mS0 x).x.u (139 + 3) = (shiftV 129 x).u 11 from by kernel_rfl) ▸ (isKey_in K.2.2.2.1).2) ((show (mS0 x).x.u (139 + 4) = (shiftV 129 x).u 12 from by kernel_rfl) ▸ (isKey_in K.2.2.2.2.1).2) ((show (mS0 x).x.u (139 + 5) = (shiftV 129 x).u 13 from by kernel_rfl) ▸ (isKey_in K.2.2.2.2.2.1).2) ((show (mS0 x).x.u (139 + 6) = (shiftV 129 x).u 14 from by kernel_rfl) ▸ (isKey_in K.2.2.2.2.2.2.1).2) ((show (mS0 x).x.u (139 + 7) = (shiftV 129 x).u 15 from by kernel_rfl) ▸ (isKey_in K.2.2.2.2.2.2.2).2)

noncomputable def ready_cs47 (x : Vars) : List Bool := [((rdyC x) || (outB (mS0 x)))]

theorem ready_c47 (x : Vars) : ∀ b ∈ ready_cs47 x, b = true := (allC (orE fun h => outB_to (rdyOut x h)) allN)

theorem ready_g47 (x : Vars) : (funH Try.prog G37 Hos true 1000 47 (argsP [.val (.ag kd2), .val (.ag kd4)] 0 (mkL x 0 (kdsP [.val (.ag kd2), .val (.ag kd4)]))) (memP [.val (.ag kd2), .val (.ag kd4)] (mkL x 0 (kdsP [.val (.ag kd2), .val (.ag kd4)]))) []).map (fun r => (normR r.1, untupR r.1 && r.1.flat, r.2)) = some (rdyV (rdyC x) (rdyK x) (osF (mS0 x)), true, ready_cs47 x) := by kernel_rfl

noncomputable def ready_cs48 (x : Vars) : List Bool := [((rdyC x) || (outB (mS0 x)))]

theorem ready_c48 (x : Vars) : ∀ b ∈ ready_cs48 x, b = true := (allC (orE fun h => outB_to (rdyOut x h)) allN)

theorem ready_g48 (x : Vars) : (funH Try.prog G37 Hoi true 1000 48 (argsP [.val (.ag kd2), .val (.ag kd4)] 0 (mkL x 0 (kdsP [.val (.ag kd2), .val (.ag kd4)]))) (memP [.val (.ag kd2), .val (.ag kd4)] (mkL x 0 (kdsP [.val (.ag kd2), .val (.ag kd4)]))) []).map (fun r => (normR r.1, untupR r.1 && r.1.flat, r.2)) = some (rdyV (rdyC x) (rdyK x) (oiF (mS0 x)), true, ready_cs48 x) := by kernel_rfl

theorem rdyV_true (k : Int) (F F' : Nat × SV) : rdyV true k F = rdyV true k F' := by kernel_rfl

theorem ready_q (x : Vars) : rdyV (rdyC x) (rdyK x) (oiF (mS0 x)) = ready_v x := by
  unfold ready_v
  cases h : rdyC x with
  | false => rw [oF_eq _ (rdyOut x h)]
  | true => exact rdyV_true _ _ _

theorem ready_ev47 (x : Vars) : EvP Try.prog G37 47 [.val (.ag kd2), .val (.ag kd4)] [.ag kd2, .sc (.int .i64), .sc (.int .i64), .sc (.int .i64)] (mkL x 0 (kdsP [.val (.ag kd2), .val (.ag kd4)])) (readyR0 (mkL x 0 (kdsP [.val (.ag kd2), .val (.ag kd4)]))) := EvP.ofH (H := Hos) (J := true) Hos_ok (mkL_norm ..) (by rw [ready_x]; exact ready_g47 x) (ready_c47 x)

theorem ready_ev48 (x : Vars) : EvP Try.prog G37 48 [.val (.ag kd2), .val (.ag kd4)] [.ag kd2, .sc (.int .i64), .sc (.int .i64), .sc (.int .i64)] (mkL x 0 (kdsP [.val (.ag kd2), .val (.ag kd4)])) (readyR0 (mkL x 0 (kdsP [.val (.ag kd2), .val (.ag kd4)]))) := EvP.ofH (H := Hoi) (J := true) Hoi_ok (mkL_norm ..) (by rw [ready_x]; exact (ready_g48 x).trans (by rw [ready_q])) (ready_c48 x)

noncomputable def G38 : Summ := addG 47 (sumP [.val (.ag kd2), .val (.ag kd4)] [.ag kd2, .sc (.int .i64), .sc (.int .i64), .sc (.int .i64)] (fun _ => []) readyR) G37

theorem G38_ok : SoundG Try.prog G38 := SoundG.sumP G37_ok mixed Try.call47 G37_ok (fun x hx hp => by rw [readyR_eq]; exact (fun x _ _ => ready_ev47 x) x hx hp)

noncomputable def G39 : Summ := addG 48 (sumP [.val (.ag kd2), .val (.ag kd4)] [.ag kd2, .sc (.int .i64), .sc (.int .i64), .sc (.int .i64)] (fun _ => []) readyR) G38

theorem G39_ok : SoundG Try.prog G39 := SoundG.sumP G38_ok mixed Try.call48 G37_ok (fun x hx hp => by rw [readyR_eq]; exact (fun x _ _ => ready_ev48 x) x hx hp)

end Go.Proofs.Ytdagaggpaohmcaa

/-
  Facts of this seat that its laws use; no conditions.
-/
import Derived.Test.YtigcbcaknhhgmaaPlateCode
namespace Go.Proofs.Ytigcbcaknhhgmaa
open Go.Sim Go.ChangeShapes Go.WideShapes Go.ChangeAt Go.RowKit

noncomputable def plB0 (l : List AV) : Bool := (!(decide ((plcodeR (l.take 222)).i 0 = 0)))

noncomputable def plB1 (l : List AV) : Bool := (!(((decide (0 ≤ intOf (leafN l 222)) && decide (intOf (leafN l 222) < intOf (leafN l 24))) && decide (0 ≤ intOf (leafN l 223))) && decide (intOf (leafN l 223) < intOf (leafN l 25))))

theorem sb_inj {a b : Bool} (h : AV.sbool a = AV.sbool b) : a = b := by cases h; rfl

theorem notDec {a b : Int} (h : (!(decide (a = b))) = false) : a = b := by
  cases hd : decide (a = b) with
  | true => exact of_decide_eq_true hd
  | false => rw [hd] at h; cases h

theorem plateHead {w h : Int} (hh : ((!((decide (1 ≤ w)) && (decide (w ≤ 8)))) || (!((decide (1 ≤ h)) && (decide (h ≤ 8))))) = false) : 1 ≤ w ∧ w ≤ 8 ∧ 1 ≤ h ∧ h ≤ 8 := by
  by_cases h1 : 1 ≤ w <;> by_cases h2 : w ≤ 8 <;> by_cases h3 : 1 ≤ h <;> by_cases h4 : h ≤ 8 <;> simp_all

theorem plate_rng (x : Vars) (h : (plateR (mkL x 0 (kdsP [.val (.ag kd3)]))).b 0 = true) : 1 ≤ x.i 0 ∧ x.i 0 ≤ 8 ∧ 1 ≤ x.i 1 ∧ x.i 1 ≤ 8 := by
  rw [plateR_eq] at h
  have e := sb_inj (plate_x x)
  have h' := e.symm.trans h
  exact plateHead (condNF h').1

theorem code0 {p a b c s : Bool} (h : (bif ((((!p) || (!a)) || (!b)) || (!c)) then 1 else (bif s then 4 else 0) : Int) = 0) : p = true ∧ a = true ∧ b = true ∧ c = true ∧ s = false := by
  revert h
  cases p <;> cases a <;> cases b <;> cases c <;> cases s <;> decide

theorem same0 {a b c d : Bool} (h : ((((!a) || (!b)) || (!c)) || (!d)) = false) : a = true ∧ b = true ∧ c = true ∧ d = true := by
  revert h
  cases a <;> cases b <;> cases c <;> cases d <;> decide

theorem plcodeOk (x : Vars) (h : (plcodeR (mkL x 0 (kdsP [.ptr kd2, .ptr kd3, .ptr kd3, .ptr kd3]))).i 0 = 0) : ((validPR (List.take 24 (mkL x 0 (kdsP [.ptr kd2, .ptr kd3, .ptr kd3, .ptr kd3])))).b 0 = true ∧ (plateR [.sint .i8 (x.i 24), .sint .i8 (x.i 25), .flt .f32 (x.u 26), .flt .f32 (x.u 27), .flt .f32 (x.u 28), .flt .f32 (x.u 29), .flt .f32 (x.u 30), .flt .f32 (x.u 31), .flt .f32 (x.u 32), .flt .f32 (x.u 33), .flt .f32 (x.u 34), .flt .f32 (x.u 35), .flt .f32 (x.u 36), .flt .f32 (x.u 37), .flt .f32 (x.u 38), .flt .f32 (x.u 39), .flt .f32 (x.u 40), .flt .f32 (x.u 41), .flt .f32 (x.u 42), .flt .f32 (x.u 43), .flt .f32 (x.u 44), .flt .f32 (x.u 45), .flt .f32 (x.u 46), .flt .f32 (x.u 47), .flt .f32 (x.u 48), .flt .f32 (x.u 49), .flt .f32 (x.u 50), .flt .f32 (x.u 51), .flt .f32 (x.u 52), .flt .f32 (x.u 53), .flt .f32 (x.u 54), .flt .f32 (x.u 55), .flt .f32 (x.u 56), .flt .f32 (x.u 57), .flt .f32 (x.u 58), .flt .f32 (x.u 59), .flt .f32 (x.u 60), .flt .f32 (x.u 61), .flt .f32 (x.u 62), .flt .f32 (x.u 63), .flt .f32 (x.u 64), .flt .f32 (x.u 65), .flt .f32 (x.u 66), .flt .f32 (x.u 67), .flt .f32 (x.u 68), .flt .f32 (x.u 69), .flt .f32 (x.u 70), .flt .f32 (x.u 71), .flt .f32 (x.u 72), .flt .f32 (x.u 73), .flt .f32 (x.u 74), .flt .f32 (x.u 75), .flt .f32 (x.u 76), .flt .f32 (x.u 77), .flt .f32 (x.u 78), .flt .f32 (x.u 79), .flt .f32 (x.u 80), .flt .f32 (x.u 81), .flt .f32 (x.u 82), .flt .f32 (x.u 83), .flt .f32 (x.u 84), .flt .f32 (x.u 85), .flt .f32 (x.u 86), .flt .f32 (x.u 87), .flt .f32 (x.u 88), .flt .f32 (x.u 89)]).b 0 = true ∧ (plateR [.sint .i8 (x.i 90), .sint .i8 (x.i 91), .flt .f32 (x.u 92), .flt .f32 (x.u 93), .flt .f32 (x.u 94), .flt .f32 (x.u 95), .flt .f32 (x.u 96), .flt .f32 (x.u 97), .flt .f32 (x.u 98), .flt .f32 (x.u 99), .flt .f32 (x.u 100), .flt .f32 (x.u 101), .flt .f32 (x.u 102), .flt .f32 (x.u 103), .flt .f32 (x.u 104), .flt .f32 (x.u 105), .flt .f32 (x.u 106), .flt .f32 (x.u 107), .flt .f32 (x.u 108), .flt .f32 (x.u 109), .flt .f32 (x.u 110), .flt .f32 (x.u 111), .flt .f32 (x.u 112), .flt .f32 (x.u 113), .flt .f32 (x.u 114), .flt .f32 (x.u 115), .flt .f32 (x.u 116), .flt .f32 (x.u 117), .flt .f32 (x.u 118), .flt .f32 (x.u 119), .flt .f32 (x.u 120), .flt .f32 (x.u 121), .flt .f32 (x.u 122), .flt .f32 (x.u 123), .flt .f32 (x.u 124), .flt .f32 (x.u 125), .flt .f32 (x.u 126), .flt .f32 (x.u 127), .flt .f32 (x.u 128), .flt .f32 (x.u 129), .flt .f32 (x.u 130), .flt .f32 (x.u 131), .flt .f32 (x.u 132), .flt .f32 (x.u 133), .flt .f32 (x.u 134), .flt .f32 (x.u 135), .flt .f32 (x.u 136), .flt .f32 (x.u 137), .flt .f32 (x.u 138), .flt .f32 (x.u 139), .flt .f32 (x.u 140), .flt .f32 (x.u 141), .flt .f32 (x.u 142), .flt .f32 (x.u 143), .flt .f32 (x.u 144), .flt .f32 (x.u 145), .flt .f32 (x.u 146), .flt .f32 (x.u 147), .flt .f32 (x.u 148), .flt .f32 (x.u 149), .flt .f32 (x.u 150), .flt .f32 (x.u 151), .flt .f32 (x.u 152), .flt .f32 (x.u 153), .flt .f32 (x.u 154), .flt .f32 (x.u 155)]).b 0 = true ∧ (plateR [.sint .i8 (x.i 156), .sint .i8 (x.i 157), .flt .f32 (x.u 158), .flt .f32 (x.u 159), .flt .f32 (x.u 160), .flt .f32 (x.u 161), .flt .f32 (x.u 162), .flt .f32 (x.u 163), .flt .f32 (x.u 164), .flt .f32 (x.u 165), .flt .f32 (x.u 166), .flt .f32 (x.u 167), .flt .f32 (x.u 168), .flt .f32 (x.u 169), .flt .f32 (x.u 170), .flt .f32 (x.u 171), .flt .f32 (x.u 172), .flt .f32 (x.u 173), .flt .f32 (x.u 174), .flt .f32 (x.u 175), .flt .f32 (x.u 176), .flt .f32 (x.u 177), .flt .f32 (x.u 178), .flt .f32 (x.u 179), .flt .f32 (x.u 180), .flt .f32 (x.u 181), .flt .f32 (x.u 182), .flt .f32 (x.u 183), .flt .f32 (x.u 184), .flt .f32 (x.u 185), .flt .f32 (x.u 186), .flt .f32 (x.u 187), .flt .f32 (x.u 188), .flt .f32 (x.u 189), .flt .f32 (x.u 190), .flt .f32 (x.u 191), .flt .f32 (x.u 192), .flt .f32 (x.u 193), .flt .f32 (x.u 194), .flt .f32 (x.u 195), .flt .f32 (x.u 196), .flt .f32 (x.u 197), .flt .f32 (x.u 198), .flt .f32 (x.u 199), .flt .f32 (x.u 200), .flt .f32 (x.u 201), .flt .f32 (x.u 202), .flt .f32 (x.u 203), .flt .f32 (x.u 204), .flt .f32 (x.u 205), .flt .f32 (x.u 206), .flt .f32 (x.u 207), .flt .f32 (x.u 208), .flt .f32 (x.u 209), .flt .f32 (x.u 210), .flt .f32 (x.u 211), .flt .f32 (x.u 212), .flt .f32 (x.u 213), .flt .f32 (x.u 214), .flt .f32 (x.u 215), .flt .f32 (x.u 216), .flt .f32 (x.u 217), .flt .f32 (x.u 218), .flt .f32 (x.u 219), .flt .f32 (x.u 220), .flt .f32 (x.u 221)]).b 0 = true) ∧ x.i 24 = x.i 90 ∧ x.i 25 = x.i 91 ∧ x.i 24 = x.i 156 ∧ x.i 25 = x.i 157 := by
  rw [plcodeR_eq] at h
  have e := plcode_x x
  have h' : (bif ((((!((validPR (List.take 24 (mkL x 0 (kdsP [.ptr kd2, .ptr kd3, .ptr kd3, .ptr kd3])))).b 0)) || (!((plateR [.sint .i8 (x.i 24), .sint .i8 (x.i 25), .flt .f32 (x.u 26), .flt .f32 (x.u 27), .flt .f32 (x.u 28), .flt .f32 (x.u 29), .flt .f32 (x.u 30), .flt .f32 (x.u 31), .flt .f32 (x.u 32), .flt .f32 (x.u 33), .flt .f32 (x.u 34), .flt .f32 (x.u 35), .flt .f32 (x.u 36), .flt .f32 (x.u 37), .flt .f32 (x.u 38), .flt .f32 (x.u 39), .flt .f32 (x.u 40), .flt .f32 (x.u 41), .flt .f32 (x.u 42), .flt .f32 (x.u 43), .flt .f32 (x.u 44), .flt .f32 (x.u 45), .flt .f32 (x.u 46), .flt .f32 (x.u 47), .flt .f32 (x.u 48), .flt .f32 (x.u 49), .flt .f32 (x.u 50), .flt .f32 (x.u 51), .flt .f32 (x.u 52), .flt .f32 (x.u 53), .flt .f32 (x.u 54), .flt .f32 (x.u 55), .flt .f32 (x.u 56), .flt .f32 (x.u 57), .flt .f32 (x.u 58), .flt .f32 (x.u 59), .flt .f32 (x.u 60), .flt .f32 (x.u 61), .flt .f32 (x.u 62), .flt .f32 (x.u 63), .flt .f32 (x.u 64), .flt .f32 (x.u 65), .flt .f32 (x.u 66), .flt .f32 (x.u 67), .flt .f32 (x.u 68), .flt .f32 (x.u 69), .flt .f32 (x.u 70), .flt .f32 (x.u 71), .flt .f32 (x.u 72), .flt .f32 (x.u 73), .flt .f32 (x.u 74), .flt .f32 (x.u 75), .flt .f32 (x.u 76), .flt .f32 (x.u 77), .flt .f32 (x.u 78), .flt .f32 (x.u 79), .flt .f32 (x.u 80), .flt .f32 (x.u 81), .flt .f32 (x.u 82), .flt .f32 (x.u 83), .flt .f32 (x.u 84), .flt .f32 (x.u 85), .flt .f32 (x.u 86), .flt .f32 (x.u 87), .flt .f32 (x.u 88), .flt .f32 (x.u 89)]).b 0))) || (!((plateR [.sint .i8 (x.i 90), .sint .i8 (x.i 91), .flt .f32 (x.u 92), .flt .f32 (x.u 93), .flt .f32 (x.u 94), .flt .f32 (x.u 95), .flt .f32 (x.u 96), .flt .f32 (x.u 97), .flt .f32 (x.u 98), .flt .f32 (x.u 99), .flt .f32 (x.u 100), .flt .f32 (x.u 101), .flt .f32 (x.u 102), .flt .f32 (x.u 103), .flt .f32 (x.u 104), .flt .f32 (x.u 105), .flt .f32 (x.u 106), .flt .f32 (x.u 107), .flt .f32 (x.u 108), .flt .f32 (x.u 109), .flt .f32 (x.u 110), .flt .f32 (x.u 111), .flt .f32 (x.u 112), .flt .f32 (x.u 113), .flt .f32 (x.u 114), .flt .f32 (x.u 115), .flt .f32 (x.u 116), .flt .f32 (x.u 117), .flt .f32 (x.u 118), .flt .f32 (x.u 119), .flt .f32 (x.u 120), .flt .f32 (x.u 121), .flt .f32 (x.u 122), .flt .f32 (x.u 123), .flt .f32 (x.u 124), .flt .f32 (x.u 125), .flt .f32 (x.u 126), .flt .f32 (x.u 127), .flt .f32 (x.u 128), .flt .f32 (x.u 129), .flt .f32 (x.u 130), .flt .f32 (x.u 131), .flt .f32 (x.u 132), .flt .f32 (x.u 133), .flt .f32 (x.u 134), .flt .f32 (x.u 135), .flt .f32 (x.u 136), .flt .f32 (x.u 137), .flt .f32 (x.u 138), .flt .f32 (x.u 139), .flt .f32 (x.u 140), .flt .f32 (x.u 141), .flt .f32 (x.u 142), .flt .f32 (x.u 143), .flt .f32 (x.u 144), .flt .f32 (x.u 145), .flt .f32 (x.u 146), .flt .f32 (x.u 147), .flt .f32 (x.u 148), .flt .f32 (x.u 149), .flt .f32 (x.u 150), .flt .f32 (x.u 151), .flt .f32 (x.u 152), .flt .f32 (x.u 153), .flt .f32 (x.u 154), .flt .f32 (x.u 155)]).b 0))) || (!((plateR [.sint .i8 (x.i 156), .sint .i8 (x.i 157), .flt .f32 (x.u 158), .flt .f32 (x.u 159), .flt .f32 (x.u 160), .flt .f32 (x.u 161), .flt .f32 (x.u 162), .flt .f32 (x.u 163), .flt .f32 (x.u 164), .flt .f32 (x.u 165), .flt .f32 (x.u 166), .flt .f32 (x.u 167), .flt .f32 (x.u 168), .flt .f32 (x.u 169), .flt .f32 (x.u 170), .flt .f32 (x.u 171), .flt .f32 (x.u 172), .flt .f32 (x.u 173), .flt .f32 (x.u 174), .flt .f32 (x.u 175), .flt .f32 (x.u 176), .flt .f32 (x.u 177), .flt .f32 (x.u 178), .flt .f32 (x.u 179), .flt .f32 (x.u 180), .flt .f32 (x.u 181), .flt .f32 (x.u 182), .flt .f32 (x.u 183), .flt .f32 (x.u 184), .flt .f32 (x.u 185), .flt .f32 (x.u 186), .flt .f32 (x.u 187), .flt .f32 (x.u 188), .flt .f32 (x.u 189), .flt .f32 (x.u 190), .flt .f32 (x.u 191), .flt .f32 (x.u 192), .flt .f32 (x.u 193), .flt .f32 (x.u 194), .flt .f32 (x.u 195), .flt .f32 (x.u 196), .flt .f32 (x.u 197), .flt .f32 (x.u 198), .flt .f32 (x.u 199), .flt .f32 (x.u 200), .flt .f32 (x.u 201), .flt .f32 (x.u 202), .flt .f32 (x.u 203), .flt .f32 (x.u 204), .flt .f32 (x.u 205), .flt .f32 (x.u 206), .flt .f32 (x.u 207), .flt .f32 (x.u 208), .flt .f32 (x.u 209), .flt .f32 (x.u 210), .flt .f32 (x.u 211), .flt .f32 (x.u 212), .flt .f32 (x.u 213), .flt .f32 (x.u 214), .flt .f32 (x.u 215), .flt .f32 (x.u 216), .flt .f32 (x.u 217), .flt .f32 (x.u 218), .flt .f32 (x.u 219), .flt .f32 (x.u 220), .flt .f32 (x.u 221)]).b 0))) then 1 else (bif ((((!(decide ((x.i 24) = (x.i 90)))) || (!(decide ((x.i 25) = (x.i 91))))) || (!(decide ((x.i 24) = (x.i 156))))) || (!(decide ((x.i 25) = (x.i 157))))) then 4 else 0) : Int) = 0 := Eq.trans (by kernel_rfl) h
  obtain ⟨a, b, c, d, s⟩ := code0 h'
  obtain ⟨s1, s2, s3, s4⟩ := same0 s
  exact ⟨⟨a, b, c, d⟩, of_decide_eq_true s1, of_decide_eq_true s2, of_decide_eq_true s3, of_decide_eq_true s4⟩

theorem plCode (x : Vars) (h0 : plB0 (mkL x 0 (kdsP [.val (.ag kd2), .val (.ag kd3), .val (.ag kd3), .val (.ag kd3), .val (.sc (.int .i64)), .val (.sc (.int .i64))])) = false) : (plcodeR (mkL x 0 (kdsP [.ptr kd2, .ptr kd3, .ptr kd3, .ptr kd3]))).i 0 = 0 := notDec ((show (!(decide ((plcodeR (mkL x 0 (kdsP [.ptr kd2, .ptr kd3, .ptr kd3, .ptr kd3]))).i 0 = 0))) = plB0 (mkL x 0 (kdsP [.val (.ag kd2), .val (.ag kd3), .val (.ag kd3), .val (.ag kd3), .val (.sc (.int .i64)), .val (.sc (.int .i64))])) from by kernel_rfl).trans h0)

theorem plWide (x : Vars) (h0 : plB0 (mkL x 0 (kdsP [.val (.ag kd2), .val (.ag kd3), .val (.ag kd3), .val (.ag kd3), .val (.sc (.int .i64)), .val (.sc (.int .i64))])) = false) : 1 ≤ x.i 24 ∧ x.i 24 ≤ 8 ∧ 1 ≤ x.i 25 ∧ x.i 25 ≤ 8 :=
  plate_rng (varsOf [.sint .i8 (x.i 24), .sint .i8 (x.i 25), .flt .f32 (x.u 26), .flt .f32 (x.u 27), .flt .f32 (x.u 28), .flt .f32 (x.u 29), .flt .f32 (x.u 30), .flt .f32 (x.u 31), .flt .f32 (x.u 32), .flt .f32 (x.u 33), .flt .f32 (x.u 34), .flt .f32 (x.u 35), .flt .f32 (x.u 36), .flt .f32 (x.u 37), .flt .f32 (x.u 38), .flt .f32 (x.u 39), .flt .f32 (x.u 40), .flt .f32 (x.u 41), .flt .f32 (x.u 42), .flt .f32 (x.u 43), .flt .f32 (x.u 44), .flt .f32 (x.u 45), .flt .f32 (x.u 46), .flt .f32 (x.u 47), .flt .f32 (x.u 48), .flt .f32 (x.u 49), .flt .f32 (x.u 50), .flt .f32 (x.u 51), .flt .f32 (x.u 52), .flt .f32 (x.u 53), .flt .f32 (x.u 54), .flt .f32 (x.u 55), .flt .f32 (x.u 56), .flt .f32 (x.u 57), .flt .f32 (x.u 58), .flt .f32 (x.u 59), .flt .f32 (x.u 60), .flt .f32 (x.u 61), .flt .f32 (x.u 62), .flt .f32 (x.u 63), .flt .f32 (x.u 64), .flt .f32 (x.u 65), .flt .f32 (x.u 66), .flt .f32 (x.u 67), .flt .f32 (x.u 68), .flt .f32 (x.u 69), .flt .f32 (x.u 70), .flt .f32 (x.u 71), .flt .f32 (x.u 72), .flt .f32 (x.u 73), .flt .f32 (x.u 74), .flt .f32 (x.u 75), .flt .f32 (x.u 76), .flt .f32 (x.u 77), .flt .f32 (x.u 78), .flt .f32 (x.u 79), .flt .f32 (x.u 80), .flt .f32 (x.u 81), .flt .f32 (x.u 82), .flt .f32 (x.u 83), .flt .f32 (x.u 84), .flt .f32 (x.u 85), .flt .f32 (x.u 86), .flt .f32 (x.u 87), .flt .f32 (x.u 88), .flt .f32 (x.u 89)]) ((show (plateR (mkL (varsOf [.sint .i8 (x.i 24), .sint .i8 (x.i 25), .flt .f32 (x.u 26), .flt .f32 (x.u 27), .flt .f32 (x.u 28), .flt .f32 (x.u 29), .flt .f32 (x.u 30), .flt .f32 (x.u 31), .flt .f32 (x.u 32), .flt .f32 (x.u 33), .flt .f32 (x.u 34), .flt .f32 (x.u 35), .flt .f32 (x.u 36), .flt .f32 (x.u 37), .flt .f32 (x.u 38), .flt .f32 (x.u 39), .flt .f32 (x.u 40), .flt .f32 (x.u 41), .flt .f32 (x.u 42), .flt .f32 (x.u 43), .flt .f32 (x.u 44), .flt .f32 (x.u 45), .flt .f32 (x.u 46), .flt .f32 (x.u 47), .flt .f32 (x.u 48), .flt .f32 (x.u 49), .flt .f32 (x.u 50), .flt .f32 (x.u 51), .flt .f32 (x.u 52), .flt .f32 (x.u 53), .flt .f32 (x.u 54), .flt .f32 (x.u 55), .flt .f32 (x.u 56), .flt .f32 (x.u 57), .flt .f32 (x.u 58), .flt .f32 (x.u 59), .flt .f32 (x.u 60), .flt .f32 (x.u 61), .flt .f32 (x.u 62), .flt .f32 (x.u 63), .flt .f32 (x.u 64), .flt .f32 (x.u 65), .flt .f32 (x.u 66), .flt .f32 (x.u 67), .flt .f32 (x.u 68), .flt .f32 (x.u 69), .flt .f32 (x.u 70), .flt .f32 (x.u 71), .flt .f32 (x.u 72), .flt .f32 (x.u 73), .flt .f32 (x.u 74), .flt .f32 (x.u 75), .flt .f32 (x.u 76), .flt .f32 (x.u 77), .flt .f32 (x.u 78), .flt .f32 (x.u 79), .flt .f32 (x.u 80), .flt .f32 (x.u 81), .flt .f32 (x.u 82), .flt .f32 (x.u 83), .flt .f32 (x.u 84), .flt .f32 (x.u 85), .flt .f32 (x.u 86), .flt .f32 (x.u 87), .flt .f32 (x.u 88), .flt .f32 (x.u 89)]) 0 (kdsP [.val (.ag kd3)]))).b 0 = (plateR [.sint .i8 (x.i 24), .sint .i8 (x.i 25), .flt .f32 (x.u 26), .flt .f32 (x.u 27), .flt .f32 (x.u 28), .flt .f32 (x.u 29), .flt .f32 (x.u 30), .flt .f32 (x.u 31), .flt .f32 (x.u 32), .flt .f32 (x.u 33), .flt .f32 (x.u 34), .flt .f32 (x.u 35), .flt .f32 (x.u 36), .flt .f32 (x.u 37), .flt .f32 (x.u 38), .flt .f32 (x.u 39), .flt .f32 (x.u 40), .flt .f32 (x.u 41), .flt .f32 (x.u 42), .flt .f32 (x.u 43), .flt .f32 (x.u 44), .flt .f32 (x.u 45), .flt .f32 (x.u 46), .flt .f32 (x.u 47), .flt .f32 (x.u 48), .flt .f32 (x.u 49), .flt .f32 (x.u 50), .flt .f32 (x.u 51), .flt .f32 (x.u 52), .flt .f32 (x.u 53), .flt .f32 (x.u 54), .flt .f32 (x.u 55), .flt .f32 (x.u 56), .flt .f32 (x.u 57), .flt .f32 (x.u 58), .flt .f32 (x.u 59), .flt .f32 (x.u 60), .flt .f32 (x.u 61), .flt .f32 (x.u 62), .flt .f32 (x.u 63), .flt .f32 (x.u 64), .flt .f32 (x.u 65), .flt .f32 (x.u 66), .flt .f32 (x.u 67), .flt .f32 (x.u 68), .flt .f32 (x.u 69), .flt .f32 (x.u 70), .flt .f32 (x.u 71), .flt .f32 (x.u 72), .flt .f32 (x.u 73), .flt .f32 (x.u 74), .flt .f32 (x.u 75), .flt .f32 (x.u 76), .flt .f32 (x.u 77), .flt .f32 (x.u 78), .flt .f32 (x.u 79), .flt .f32 (x.u 80), .flt .f32 (x.u 81), .flt .f32 (x.u 82), .flt .f32 (x.u 83), .flt .f32 (x.u 84), .flt .f32 (x.u 85), .flt .f32 (x.u 86), .flt .f32 (x.u 87), .flt .f32 (x.u 88), .flt .f32 (x.u 89)]).b 0 from by kernel_rfl).trans (plcodeOk x (plCode x h0)).1.2.1)

theorem in4 {a b c d : Bool} (h : (!(((a && b) && c) && d)) = false) : a = true ∧ b = true ∧ c = true ∧ d = true := by
  revert h
  cases a <;> cases b <;> cases c <;> cases d <;> decide

theorem plIn (x : Vars) (h1 : plB1 (mkL x 0 (kdsP [.val (.ag kd2), .val (.ag kd3), .val (.ag kd3), .val (.ag kd3), .val (.sc (.int .i64)), .val (.sc (.int .i64))])) = false) : 0 ≤ x.i 222 ∧ x.i 222 < x.i 24 ∧ 0 ≤ x.i 223 ∧ x.i 223 < x.i 25 := by
  have h' := (show (!(((decide (0 ≤ x.i 222) && decide (x.i 222 < x.i 24)) && decide (0 ≤ x.i 223)) && decide (x.i 223 < x.i 25))) = plB1 (mkL x 0 (kdsP [.val (.ag kd2), .val (.ag kd3), .val (.ag kd3), .val (.ag kd3), .val (.sc (.int .i64)), .val (.sc (.int .i64))])) from by kernel_rfl).trans h1
  obtain ⟨a, b, c, d⟩ := in4 h'
  exact ⟨of_decide_eq_true a, of_decide_eq_true b, of_decide_eq_true c, of_decide_eq_true d⟩

theorem plRng (x : Vars) (h0 : plB0 (mkL x 0 (kdsP [.val (.ag kd2), .val (.ag kd3), .val (.ag kd3), .val (.ag kd3), .val (.sc (.int .i64)), .val (.sc (.int .i64))])) = false) (h1 : plB1 (mkL x 0 (kdsP [.val (.ag kd2), .val (.ag kd3), .val (.ag kd3), .val (.ag kd3), .val (.sc (.int .i64)), .val (.sc (.int .i64))])) = false) : (0 ≤ x.i 222 ∧ x.i 222 ≤ 7) ∧ 0 ≤ x.i 223 ∧ x.i 223 ≤ 7 := by
  have a := plWide x h0
  have b := plIn x h1
  omega

theorem plOut (x : Vars) (h1 : plB1 (mkL x 0 (kdsP [.val (.ag kd2), .val (.ag kd3), .val (.ag kd3), .val (.ag kd3), .val (.sc (.int .i64)), .val (.sc (.int .i64))])) = true) : ((!((decide (0 ≤ (x.i 222))) && (decide ((x.i 222) ≤ (isub (x.i 24) 1))))) || (!((decide (0 ≤ (x.i 223))) && (decide ((x.i 223) ≤ (isub (x.i 25) 1)))))) = true := by
  have h' := (show (!(((decide (0 ≤ x.i 222) && decide (x.i 222 < x.i 24)) && decide (0 ≤ x.i 223)) && decide (x.i 223 < x.i 25))) = plB1 (mkL x 0 (kdsP [.val (.ag kd2), .val (.ag kd3), .val (.ag kd3), .val (.ag kd3), .val (.sc (.int .i64)), .val (.sc (.int .i64))])) from by kernel_rfl).trans h1
  rw [← h']
  unfold isub
  by_cases q1 : 0 ≤ x.i 222 <;> by_cases q2 : x.i 222 < x.i 24 <;> by_cases q3 : 0 ≤ x.i 223 <;> by_cases q4 : x.i 223 < x.i 25 <;> simp [q1, q2, q3, q4] <;> omega

theorem plOut' (x : Vars) (h1 : plB1 (mkL x 0 (kdsP [.val (.ag kd2), .val (.ag kd3), .val (.ag kd3), .val (.ag kd3), .val (.sc (.int .i64)), .val (.sc (.int .i64))])) = true) : (!((((decide (0 ≤ (x.i 222))) && (decide ((x.i 222) < (x.i 24)))) && (decide (0 ≤ (x.i 223)))) && (decide ((x.i 223) < (x.i 25))))) = true :=
  (show (!(((decide (0 ≤ x.i 222) && decide (x.i 222 < x.i 24)) && decide (0 ≤ x.i 223)) && decide (x.i 223 < x.i 25))) = plB1 (mkL x 0 (kdsP [.val (.ag kd2), .val (.ag kd3), .val (.ag kd3), .val (.ag kd3), .val (.sc (.int .i64)), .val (.sc (.int .i64))])) from by kernel_rfl).trans h1

noncomputable def G26 : Summ := inlGs Try.prog 1000 [71, 74] G25

theorem G26_ok : SoundG Try.prog G26 := by
  refine SoundG.inls mixed G25_ok fun f hf => ?_
  simp only [List.mem_cons, List.not_mem_nil, or_false] at hf
  rcases hf with rfl | rfl
  · exact Try.call71
  · exact Try.call74

def pl_P0 : List PSh := [.val (.ag kd2), .val (.ag kd3), .val (.ag kd3), .val (.ag kd3), .val (.sc (.int .i64)), .val (.sc (.int .i64))]

noncomputable def pl_E0_a0 (x : Vars) : Vars := plcodeR [(.flt .f32 (x.u 0)), (.flt .f32 (x.u 1)), (.flt .f32 (x.u 2)), (.flt .f32 (x.u 3)), (.flt .f32 (x.u 4)), (.flt .f32 (x.u 5)), (.flt .f32 (x.u 6)), (.flt .f32 (x.u 7)), (.flt .f32 (x.u 8)), (.flt .f32 (x.u 9)), (.flt .f32 (x.u 10)), (.flt .f32 (x.u 11)), (.flt .f32 (x.u 12)), (.flt .f32 (x.u 13)), (.flt .f32 (x.u 14)), (.flt .f32 (x.u 15)), (.flt .f32 (x.u 16)), (.flt .f32 (x.u 17)), (.flt .f32 (x.u 18)), (.flt .f32 (x.u 19)), (.flt .f32 (x.u 20)), (.flt .f32 (x.u 21)), (.flt .f32 (x.u 22)), (.flt .f32 (x.u 23)), (.sint .i8 (x.i 24)), (.sint .i8 (x.i 25)), (.flt .f32 (x.u 26)), (.flt .f32 (x.u 27)), (.flt .f32 (x.u 28)), (.flt .f32 (x.u 29)), (.flt .f32 (x.u 30)), (.flt .f32 (x.u 31)), (.flt .f32 (x.u 32)), (.flt .f32 (x.u 33)), (.flt .f32 (x.u 34)), (.flt .f32 (x.u 35)), (.flt .f32 (x.u 36)), (.flt .f32 (x.u 37)), (.flt .f32 (x.u 38)), (.flt .f32 (x.u 39)), (.flt .f32 (x.u 40)), (.flt .f32 (x.u 41)), (.flt .f32 (x.u 42)), (.flt .f32 (x.u 43)), (.flt .f32 (x.u 44)), (.flt .f32 (x.u 45)), (.flt .f32 (x.u 46)), (.flt .f32 (x.u 47)), (.flt .f32 (x.u 48)), (.flt .f32 (x.u 49)), (.flt .f32 (x.u 50)), (.flt .f32 (x.u 51)), (.flt .f32 (x.u 52)), (.flt .f32 (x.u 53)), (.flt .f32 (x.u 54)), (.flt .f32 (x.u 55)), (.flt .f32 (x.u 56)), (.flt .f32 (x.u 57)), (.flt .f32 (x.u 58)), (.flt .f32 (x.u 59)), (.flt .f32 (x.u 60)), (.flt .f32 (x.u 61)), (.flt .f32 (x.u 62)), (.flt .f32 (x.u 63)), (.flt .f32 (x.u 64)), (.flt .f32 (x.u 65)), (.flt .f32 (x.u 66)), (.flt .f32 (x.u 67)), (.flt .f32 (x.u 68)), (.flt .f32 (x.u 69)), (.flt .f32 (x.u 70)), (.flt .f32 (x.u 71)), (.flt .f32 (x.u 72)), (.flt .f32 (x.u 73)), (.flt .f32 (x.u 74)), (.flt .f32 (x.u 75)), (.flt .f32 (x.u 76)), (.flt .f32 (x.u 77)), (.flt .f32 (x.u 78)), (.flt .f32 (x.u 79)), (.flt .f32 (x.u 80)), (.flt .f32 (x.u 81)), (.flt .f32 (x.u 82)), (.flt .f32 (x.u 83)), (.flt .f32 (x.u 84)), (.flt .f32 (x.u 85)), (.flt .f32 (x.u 86)), (.flt .f32 (x.u 87)), (.flt .f32 (x.u 88)), (.flt .f32 (x.u 89)), (.sint .i8 (x.i 90)), (.sint .i8 (x.i 91)), (.flt .f32 (x.u 92)), (.flt .f32 (x.u 93)), (.flt .f32 (x.u 94)), (.flt .f32 (x.u 95)), (.flt .f32 (x.u 96)), (.flt .f32 (x.u 97)), (.flt .f32 (x.u 98)), (.flt .f32 (x.u 99)), (.flt .f32 (x.u 100)), (.flt .f32 (x.u 101)), (.flt .f32 (x.u 102)), (.flt .f32 (x.u 103)), (.flt .f32 (x.u 104)), (.flt .f32 (x.u 105)), (.flt .f32 (x.u 106)), (.flt .f32 (x.u 107)), (.flt .f32 (x.u 108)), (.flt .f32 (x.u 109)), (.flt .f32 (x.u 110)), (.flt .f32 (x.u 111)), (.flt .f32 (x.u 112)), (.flt .f32 (x.u 113)), (.flt .f32 (x.u 114)), (.flt .f32 (x.u 115)), (.flt .f32 (x.u 116)), (.flt .f32 (x.u 117)), (.flt .f32 (x.u 118)), (.flt .f32 (x.u 119)), (.flt .f32 (x.u 120)), (.flt .f32 (x.u 121)), (.flt .f32 (x.u 122)), (.flt .f32 (x.u 123)), (.flt .f32 (x.u 124)), (.flt .f32 (x.u 125)), (.flt .f32 (x.u 126)), (.flt .f32 (x.u 127)), (.flt .f32 (x.u 128)), (.flt .f32 (x.u 129)), (.flt .f32 (x.u 130)), (.flt .f32 (x.u 131)), (.flt .f32 (x.u 132)), (.flt .f32 (x.u 133)), (.flt .f32 (x.u 134)), (.flt .f32 (x.u 135)), (.flt .f32 (x.u 136)), (.flt .f32 (x.u 137)), (.flt .f32 (x.u 138)), (.flt .f32 (x.u 139)), (.flt .f32 (x.u 140)), (.flt .f32 (x.u 141)), (.flt .f32 (x.u 142)), (.flt .f32 (x.u 143)), (.flt .f32 (x.u 144)), (.flt .f32 (x.u 145)), (.flt .f32 (x.u 146)), (.flt .f32 (x.u 147)), (.flt .f32 (x.u 148)), (.flt .f32 (x.u 149)), (.flt .f32 (x.u 150)), (.flt .f32 (x.u 151)), (.flt .f32 (x.u 152)), (.flt .f32 (x.u 153)), (.flt .f32 (x.u 154)), (.flt .f32 (x.u 155)), (.sint .i8 (x.i 156)), (.sint .i8 (x.i 157)), (.flt .f32 (x.u 158)), (.flt .f32 (x.u 159)), (.flt .f32 (x.u 160)), (.flt .f32 (x.u 161)), (.flt .f32 (x.u 162)), (.flt .f32 (x.u 163)), (.flt .f32 (x.u 164)), (.flt .f32 (x.u 165)), (.flt .f32 (x.u 166)), (.flt .f32 (x.u 167)), (.flt .f32 (x.u 168)), (.flt .f32 (x.u 169)), (.flt .f32 (x.u 170)), (.flt .f32 (x.u 171)), (.flt .f32 (x.u 172)), (.flt .f32 (x.u 173)), (.flt .f32 (x.u 174)), (.flt .f32 (x.u 175)), (.flt .f32 (x.u 176)), (.flt .f32 (x.u 177)), (.flt .f32 (x.u 178)), (.flt .f32 (x.u 179)), (.flt .f32 (x.u 180)), (.flt .f32 (x.u 181)), (.flt .f32 (x.u 182)), (.flt .f32 (x.u 183)), (.flt .f32 (x.u 184)), (.flt .f32 (x.u 185)), (.flt .f32 (x.u 186)), (.flt .f32 (x.u 187)), (.flt .f32 (x.u 188)), (.flt .f32 (x.u 189)), (.flt .f32 (x.u 190)), (.flt .f32 (x.u 191)), (.flt .f32 (x.u 192)), (.flt .f32 (x.u 193)), (.flt .f32 (x.u 194)), (.flt .f32 (x.u 195)), (.flt .f32 (x.u 196)), (.flt .f32 (x.u 197)), (.flt .f32 (x.u 198)), (.flt .f32 (x.u 199)), (.flt .f32 (x.u 200)), (.flt .f32 (x.u 201)), (.flt .f32 (x.u 202)), (.flt .f32 (x.u 203)), (.flt .f32 (x.u 204)), (.flt .f32 (x.u 205)), (.flt .f32 (x.u 206)), (.flt .f32 (x.u 207)), (.flt .f32 (x.u 208)), (.flt .f32 (x.u 209)), (.flt .f32 (x.u 210)), (.flt .f32 (x.u 211)), (.flt .f32 (x.u 212)), (.flt .f32 (x.u 213)), (.flt .f32 (x.u 214)), (.flt .f32 (x.u 215)), (.flt .f32 (x.u 216)), (.flt .f32 (x.u 217)), (.flt .f32 (x.u 218)), (.flt .f32 (x.u 219)), (.flt .f32 (x.u 220)), (.flt .f32 (x.u 221))]



noncomputable def pl_vE0 (x : Vars) : AV := .tup [.agg [.flt .f32 (0), .flt .f32 (0), .flt .f32 (0)], .sint .i64 (((pl_E0_a0 x).i 0))]

noncomputable def plZE0 (l : List AV) : Vars := outV (some (pl_vE0 (varsOf l), []))

theorem pl_xE0 (x : Vars) : mkR (plZE0 (mkL x 0 (kdsP pl_P0))) [.ag kd1, .sc (.int .i64)] = pl_vE0 x := by kernel_rfl



noncomputable def pl_vE1 (x : Vars) : AV := .tup [.agg [.flt .f32 (0), .flt .f32 (0), .flt .f32 (0)], .sint .i64 (2)]

noncomputable def plZE1 (l : List AV) : Vars := outV (some (pl_vE1 (varsOf l), []))

theorem pl_xE1 (x : Vars) : mkR (plZE1 (mkL x 0 (kdsP pl_P0))) [.ag kd1, .sc (.int .i64)] = pl_vE1 x := by kernel_rfl

noncomputable def pl_0_0_a0 (x : Vars) : Vars := colourR [(.flt .f32 (x.u 0)), (.flt .f32 (x.u 1)), (.flt .f32 (x.u 2)), (.flt .f32 (x.u 3)), (.flt .f32 (x.u 4)), (.flt .f32 (x.u 5)), (.flt .f32 (x.u 6)), (.flt .f32 (x.u 7)), (.flt .f32 (x.u 8)), (.flt .f32 (x.u 9)), (.flt .f32 (x.u 10)), (.flt .f32 (x.u 11)), (.flt .f32 (x.u 12)), (.flt .f32 (x.u 13)), (.flt .f32 (x.u 14)), (.flt .f32 (x.u 15)), (.flt .f32 (x.u 16)), (.flt .f32 (x.u 17)), (.flt .f32 (x.u 18)), (.flt .f32 (x.u 19)), (.flt .f32 (x.u 20)), (.flt .f32 (x.u 21)), (.flt .f32 (x.u 22)), (.flt .f32 (x.u 23)), (.flt .f32 (x.u 26)), (.flt .f32 (x.u 92)), (.flt .f32 (x.u 158))]



noncomputable def pl_v0_0 (x : Vars) : AV := .tup [.agg [.flt .f32 (((pl_0_0_a0 x).u 0)), .flt .f32 (((pl_0_0_a0 x).u 1)), .flt .f32 (((pl_0_0_a0 x).u 2))], .sint .i64 (0)]

noncomputable def plZ0_0 (l : List AV) : Vars := outV (some (pl_v0_0 (varsOf l), []))

theorem pl_x0_0 (x : Vars) : mkR (plZ0_0 (mkL x 0 (kdsP pl_P0))) [.ag kd1, .sc (.int .i64)] = pl_v0_0 x := by kernel_rfl

noncomputable def pl_0_1_a0 (x : Vars) : Vars := colourR [(.flt .f32 (x.u 0)), (.flt .f32 (x.u 1)), (.flt .f32 (x.u 2)), (.flt .f32 (x.u 3)), (.flt .f32 (x.u 4)), (.flt .f32 (x.u 5)), (.flt .f32 (x.u 6)), (.flt .f32 (x.u 7)), (.flt .f32 (x.u 8)), (.flt .f32 (x.u 9)), (.flt .f32 (x.u 10)), (.flt .f32 (x.u 11)), (.flt .f32 (x.u 12)), (.flt .f32 (x.u 13)), (.flt .f32 (x.u 14)), (.flt .f32 (x.u 15)), (.flt .f32 (x.u 16)), (.flt .f32 (x.u 17)), (.flt .f32 (x.u 18)), (.flt .f32 (x.u 19)), (.flt .f32 (x.u 20)), (.flt .f32 (x.u 21)), (.flt .f32 (x.u 22)), (.flt .f32 (x.u 23)), (.flt .f32 (x.u 34)), (.flt .f32 (x.u 100)), (.flt .f32 (x.u 166))]



noncomputable def pl_v0_1 (x : Vars) : AV := .tup [.agg [.flt .f32 (((pl_0_1_a0 x).u 0)), .flt .f32 (((pl_0_1_a0 x).u 1)), .flt .f32 (((pl_0_1_a0 x).u 2))], .sint .i64 (0)]

noncomputable def plZ0_1 (l : List AV) : Vars := outV (some (pl_v0_1 (varsOf l), []))

theorem pl_x0_1 (x : Vars) : mkR (plZ0_1 (mkL x 0 (kdsP pl_P0))) [.ag kd1, .sc (.int .i64)] = pl_v0_1 x := by kernel_rfl

noncomputable def pl_0_2_a0 (x : Vars) : Vars := colourR [(.flt .f32 (x.u 0)), (.flt .f32 (x.u 1)), (.flt .f32 (x.u 2)), (.flt .f32 (x.u 3)), (.flt .f32 (x.u 4)), (.flt .f32 (x.u 5)), (.flt .f32 (x.u 6)), (.flt .f32 (x.u 7)), (.flt .f32 (x.u 8)), (.flt .f32 (x.u 9)), (.flt .f32 (x.u 10)), (.flt .f32 (x.u 11)), (.flt .f32 (x.u 12)), (.flt .f32 (x.u 13)), (.flt .f32 (x.u 14)), (.flt .f32 (x.u 15)), (.flt .f32 (x.u 16)), (.flt .f32 (x.u 17)), (.flt .f32 (x.u 18)), (.flt .f32 (x.u 19)), (.flt .f32 (x.u 20)), (.flt .f32 (x.u 21)), (.flt .f32 (x.u 22)), (.flt .f32 (x.u 23)), (.flt .f32 (x.u 42)), (.flt .f32 (x.u 108)), (.flt .f32 (x.u 174))]



noncomputable def pl_v0_2 (x : Vars) : AV := .tup [.agg [.flt .f32 (((pl_0_2_a0 x).u 0)), .flt .f32 (((pl_0_2_a0 x).u 1)), .flt .f32 (((pl_0_2_a0 x).u 2))], .sint .i64 (0)]

noncomputable def plZ0_2 (l : List AV) : Vars := outV (some (pl_v0_2 (varsOf l), []))

theorem pl_x0_2 (x : Vars) : mkR (plZ0_2 (mkL x 0 (kdsP pl_P0))) [.ag kd1, .sc (.int .i64)] = pl_v0_2 x := by kernel_rfl

noncomputable def pl_0_3_a0 (x : Vars) : Vars := colourR [(.flt .f32 (x.u 0)), (.flt .f32 (x.u 1)), (.flt .f32 (x.u 2)), (.flt .f32 (x.u 3)), (.flt .f32 (x.u 4)), (.flt .f32 (x.u 5)), (.flt .f32 (x.u 6)), (.flt .f32 (x.u 7)), (.flt .f32 (x.u 8)), (.flt .f32 (x.u 9)), (.flt .f32 (x.u 10)), (.flt .f32 (x.u 11)), (.flt .f32 (x.u 12)), (.flt .f32 (x.u 13)), (.flt .f32 (x.u 14)), (.flt .f32 (x.u 15)), (.flt .f32 (x.u 16)), (.flt .f32 (x.u 17)), (.flt .f32 (x.u 18)), (.flt .f32 (x.u 19)), (.flt .f32 (x.u 20)), (.flt .f32 (x.u 21)), (.flt .f32 (x.u 22)), (.flt .f32 (x.u 23)), (.flt .f32 (x.u 50)), (.flt .f32 (x.u 116)), (.flt .f32 (x.u 182))]



noncomputable def pl_v0_3 (x : Vars) : AV := .tup [.agg [.flt .f32 (((pl_0_3_a0 x).u 0)), .flt .f32 (((pl_0_3_a0 x).u 1)), .flt .f32 (((pl_0_3_a0 x).u 2))], .sint .i64 (0)]

noncomputable def plZ0_3 (l : List AV) : Vars := outV (some (pl_v0_3 (varsOf l), []))

theorem pl_x0_3 (x : Vars) : mkR (plZ0_3 (mkL x 0 (kdsP pl_P0))) [.ag kd1, .sc (.int .i64)] = pl_v0_3 x := by kernel_rfl

noncomputable def pl_0_4_a0 (x : Vars) : Vars := colourR [(.flt .f32 (x.u 0)), (.flt .f32 (x.u 1)), (.flt .f32 (x.u 2)), (.flt .f32 (x.u 3)), (.flt .f32 (x.u 4)), (.flt .f32 (x.u 5)), (.flt .f32 (x.u 6)), (.flt .f32 (x.u 7)), (.flt .f32 (x.u 8)), (.flt .f32 (x.u 9)), (.flt .f32 (x.u 10)), (.flt .f32 (x.u 11)), (.flt .f32 (x.u 12)), (.flt .f32 (x.u 13)), (.flt .f32 (x.u 14)), (.flt .f32 (x.u 15)), (.flt .f32 (x.u 16)), (.flt .f32 (x.u 17)), (.flt .f32 (x.u 18)), (.flt .f32 (x.u 19)), (.flt .f32 (x.u 20)), (.flt .f32 (x.u 21)), (.flt .f32 (x.u 22)), (.flt .f32 (x.u 23)), (.flt .f32 (x.u 58)), (.flt .f32 (x.u 124)), (.flt .f32 (x.u 190))]



noncomputable def pl_v0_4 (x : Vars) : AV := .tup [.agg [.flt .f32 (((pl_0_4_a0 x).u 0)), .flt .f32 (((pl_0_4_a0 x).u 1)), .flt .f32 (((pl_0_4_a0 x).u 2))], .sint .i64 (0)]

noncomputable def plZ0_4 (l : List AV) : Vars := outV (some (pl_v0_4 (varsOf l), []))

theorem pl_x0_4 (x : Vars) : mkR (plZ0_4 (mkL x 0 (kdsP pl_P0))) [.ag kd1, .sc (.int .i64)] = pl_v0_4 x := by kernel_rfl

noncomputable def pl_0_5_a0 (x : Vars) : Vars := colourR [(.flt .f32 (x.u 0)), (.flt .f32 (x.u 1)), (.flt .f32 (x.u 2)), (.flt .f32 (x.u 3)), (.flt .f32 (x.u 4)), (.flt .f32 (x.u 5)), (.flt .f32 (x.u 6)), (.flt .f32 (x.u 7)), (.flt .f32 (x.u 8)), (.flt .f32 (x.u 9)), (.flt .f32 (x.u 10)), (.flt .f32 (x.u 11)), (.flt .f32 (x.u 12)), (.flt .f32 (x.u 13)), (.flt .f32 (x.u 14)), (.flt .f32 (x.u 15)), (.flt .f32 (x.u 16)), (.flt .f32 (x.u 17)), (.flt .f32 (x.u 18)), (.flt .f32 (x.u 19)), (.flt .f32 (x.u 20)), (.flt .f32 (x.u 21)), (.flt .f32 (x.u 22)), (.flt .f32 (x.u 23)), (.flt .f32 (x.u 66)), (.flt .f32 (x.u 132)), (.flt .f32 (x.u 198))]



noncomputable def pl_v0_5 (x : Vars) : AV := .tup [.agg [.flt .f32 (((pl_0_5_a0 x).u 0)), .flt .f32 (((pl_0_5_a0 x).u 1)), .flt .f32 (((pl_0_5_a0 x).u 2))], .sint .i64 (0)]

noncomputable def plZ0_5 (l : List AV) : Vars := outV (some (pl_v0_5 (varsOf l), []))

theorem pl_x0_5 (x : Vars) : mkR (plZ0_5 (mkL x 0 (kdsP pl_P0))) [.ag kd1, .sc (.int .i64)] = pl_v0_5 x := by kernel_rfl

noncomputable def pl_0_6_a0 (x : Vars) : Vars := colourR [(.flt .f32 (x.u 0)), (.flt .f32 (x.u 1)), (.flt .f32 (x.u 2)), (.flt .f32 (x.u 3)), (.flt .f32 (x.u 4)), (.flt .f32 (x.u 5)), (.flt .f32 (x.u 6)), (.flt .f32 (x.u 7)), (.flt .f32 (x.u 8)), (.flt .f32 (x.u 9)), (.flt .f32 (x.u 10)), (.flt .f32 (x.u 11)), (.flt .f32 (x.u 12)), (.flt .f32 (x.u 13)), (.flt .f32 (x.u 14)), (.flt .f32 (x.u 15)), (.flt .f32 (x.u 16)), (.flt .f32 (x.u 17)), (.flt .f32 (x.u 18)), (.flt .f32 (x.u 19)), (.flt .f32 (x.u 20)), (.flt .f32 (x.u 21)), (.flt .f32 (x.u 22)), (.flt .f32 (x.u 23)), (.flt .f32 (x.u 74)), (.flt .f32 (x.u 140)), (.flt .f32 (x.u 206))]



noncomputable def pl_v0_6 (x : Vars) : AV := .tup [.agg [.flt .f32 (((pl_0_6_a0 x).u 0)), .flt .f32 (((pl_0_6_a0 x).u 1)), .flt .f32 (((pl_0_6_a0 x).u 2))], .sint .i64 (0)]

noncomputable def plZ0_6 (l : List AV) : Vars := outV (some (pl_v0_6 (varsOf l), []))

theorem pl_x0_6 (x : Vars) : mkR (plZ0_6 (mkL x 0 (kdsP pl_P0))) [.ag kd1, .sc (.int .i64)] = pl_v0_6 x := by kernel_rfl

noncomputable def pl_0_7_a0 (x : Vars) : Vars := colourR [(.flt .f32 (x.u 0)), (.flt .f32 (x.u 1)), (.flt .f32 (x.u 2)), (.flt .f32 (x.u 3)), (.flt .f32 (x.u 4)), (.flt .f32 (x.u 5)), (.flt .f32 (x.u 6)), (.flt .f32 (x.u 7)), (.flt .f32 (x.u 8)), (.flt .f32 (x.u 9)), (.flt .f32 (x.u 10)), (.flt .f32 (x.u 11)), (.flt .f32 (x.u 12)), (.flt .f32 (x.u 13)), (.flt .f32 (x.u 14)), (.flt .f32 (x.u 15)), (.flt .f32 (x.u 16)), (.flt .f32 (x.u 17)), (.flt .f32 (x.u 18)), (.flt .f32 (x.u 19)), (.flt .f32 (x.u 20)), (.flt .f32 (x.u 21)), (.flt .f32 (x.u 22)), (.flt .f32 (x.u 23)), (.flt .f32 (x.u 82)), (.flt .f32 (x.u 148)), (.flt .f32 (x.u 214))]



noncomputable def pl_v0_7 (x : Vars) : AV := .tup [.agg [.flt .f32 (((pl_0_7_a0 x).u 0)), .flt .f32 (((pl_0_7_a0 x).u 1)), .flt .f32 (((pl_0_7_a0 x).u 2))], .sint .i64 (0)]

noncomputable def plZ0_7 (l : List AV) : Vars := outV (some (pl_v0_7 (varsOf l), []))

theorem pl_x0_7 (x : Vars) : mkR (plZ0_7 (mkL x 0 (kdsP pl_P0))) [.ag kd1, .sc (.int .i64)] = pl_v0_7 x := by kernel_rfl

noncomputable def pl_1_0_a0 (x : Vars) : Vars := colourR [(.flt .f32 (x.u 0)), (.flt .f32 (x.u 1)), (.flt .f32 (x.u 2)), (.flt .f32 (x.u 3)), (.flt .f32 (x.u 4)), (.flt .f32 (x.u 5)), (.flt .f32 (x.u 6)), (.flt .f32 (x.u 7)), (.flt .f32 (x.u 8)), (.flt .f32 (x.u 9)), (.flt .f32 (x.u 10)), (.flt .f32 (x.u 11)), (.flt .f32 (x.u 12)), (.flt .f32 (x.u 13)), (.flt .f32 (x.u 14)), (.flt .f32 (x.u 15)), (.flt .f32 (x.u 16)), (.flt .f32 (x.u 17)), (.flt .f32 (x.u 18)), (.flt .f32 (x.u 19)), (.flt .f32 (x.u 20)), (.flt .f32 (x.u 21)), (.flt .f32 (x.u 22)), (.flt .f32 (x.u 23)), (.flt .f32 (x.u 27)), (.flt .f32 (x.u 93)), (.flt .f32 (x.u 159))]



noncomputable def pl_v1_0 (x : Vars) : AV := .tup [.agg [.flt .f32 (((pl_1_0_a0 x).u 0)), .flt .f32 (((pl_1_0_a0 x).u 1)), .flt .f32 (((pl_1_0_a0 x).u 2))], .sint .i64 (0)]

noncomputable def plZ1_0 (l : List AV) : Vars := outV (some (pl_v1_0 (varsOf l), []))

theorem pl_x1_0 (x : Vars) : mkR (plZ1_0 (mkL x 0 (kdsP pl_P0))) [.ag kd1, .sc (.int .i64)] = pl_v1_0 x := by kernel_rfl

noncomputable def pl_1_1_a0 (x : Vars) : Vars := colourR [(.flt .f32 (x.u 0)), (.flt .f32 (x.u 1)), (.flt .f32 (x.u 2)), (.flt .f32 (x.u 3)), (.flt .f32 (x.u 4)), (.flt .f32 (x.u 5)), (.flt .f32 (x.u 6)), (.flt .f32 (x.u 7)), (.flt .f32 (x.u 8)), (.flt .f32 (x.u 9)), (.flt .f32 (x.u 10)), (.flt .f32 (x.u 11)), (.flt .f32 (x.u 12)), (.flt .f32 (x.u 13)), (.flt .f32 (x.u 14)), (.flt .f32 (x.u 15)), (.flt .f32 (x.u 16)), (.flt .f32 (x.u 17)), (.flt .f32 (x.u 18)), (.flt .f32 (x.u 19)), (.flt .f32 (x.u 20)), (.flt .f32 (x.u 21)), (.flt .f32 (x.u 22)), (.flt .f32 (x.u 23)), (.flt .f32 (x.u 35)), (.flt .f32 (x.u 101)), (.flt .f32 (x.u 167))]



noncomputable def pl_v1_1 (x : Vars) : AV := .tup [.agg [.flt .f32 (((pl_1_1_a0 x).u 0)), .flt .f32 (((pl_1_1_a0 x).u 1)), .flt .f32 (((pl_1_1_a0 x).u 2))], .sint .i64 (0)]

noncomputable def plZ1_1 (l : List AV) : Vars := outV (some (pl_v1_1 (varsOf l), []))

theorem pl_x1_1 (x : Vars) : mkR (plZ1_1 (mkL x 0 (kdsP pl_P0))) [.ag kd1, .sc (.int .i64)] = pl_v1_1 x := by kernel_rfl

noncomputable def pl_1_2_a0 (x : Vars) : Vars := colourR [(.flt .f32 (x.u 0)), (.flt .f32 (x.u 1)), (.flt .f32 (x.u 2)), (.flt .f32 (x.u 3)), (.flt .f32 (x.u 4)), (.flt .f32 (x.u 5)), (.flt .f32 (x.u 6)), (.flt .f32 (x.u 7)), (.flt .f32 (x.u 8)), (.flt .f32 (x.u 9)), (.flt .f32 (x.u 10)), (.flt .f32 (x.u 11)), (.flt .f32 (x.u 12)), (.flt .f32 (x.u 13)), (.flt .f32 (x.u 14)), (.flt .f32 (x.u 15)), (.flt .f32 (x.u 16)), (.flt .f32 (x.u 17)), (.flt .f32 (x.u 18)), (.flt .f32 (x.u 19)), (.flt .f32 (x.u 20)), (.flt .f32 (x.u 21)), (.flt .f32 (x.u 22)), (.flt .f32 (x.u 23)), (.flt .f32 (x.u 43)), (.flt .f32 (x.u 109)), (.flt .f32 (x.u 175))]



noncomputable def pl_v1_2 (x : Vars) : AV := .tup [.agg [.flt .f32 (((pl_1_2_a0 x).u 0)), .flt .f32 (((pl_1_2_a0 x).u 1)), .flt .f32 (((pl_1_2_a0 x).u 2))], .sint .i64 (0)]

noncomputable def plZ1_2 (l : List AV) : Vars := outV (some (pl_v1_2 (varsOf l), []))

theorem pl_x1_2 (x : Vars) : mkR (plZ1_2 (mkL x 0 (kdsP pl_P0))) [.ag kd1, .sc (.int .i64)] = pl_v1_2 x := by kernel_rfl

noncomputable def pl_1_3_a0 (x : Vars) : Vars := colourR [(.flt .f32 (x.u 0)), (.flt .f32 (x.u 1)), (.flt .f32 (x.u 2)), (.flt .f32 (x.u 3)), (.flt .f32 (x.u 4)), (.flt .f32 (x.u 5)), (.flt .f32 (x.u 6)), (.flt .f32 (x.u 7)), (.flt .f32 (x.u 8)), (.flt .f32 (x.u 9)), (.flt .f32 (x.u 10)), (.flt .f32 (x.u 11)), (.flt .f32 (x.u 12)), (.flt .f32 (x.u 13)), (.flt .f32 (x.u 14)), (.flt .f32 (x.u 15)), (.flt .f32 (x.u 16)), (.flt .f32 (x.u 17)), (.flt .f32 (x.u 18)), (.flt .f32 (x.u 19)), (.flt .f32 (x.u 20)), (.flt .f32 (x.u 21)), (.flt .f32 (x.u 22)), (.flt .f32 (x.u 23)), (.flt .f32 (x.u 51)), (.flt .f32 (x.u 117)), (.flt .f32 (x.u 183))]



noncomputable def pl_v1_3 (x : Vars) : AV := .tup [.agg [.flt .f32 (((pl_1_3_a0 x).u 0)), .flt .f32 (((pl_1_3_a0 x).u 1)), .flt .f32 (((pl_1_3_a0 x).u 2))], .sint .i64 (0)]

noncomputable def plZ1_3 (l : List AV) : Vars := outV (some (pl_v1_3 (varsOf l), []))

theorem pl_x1_3 (x : Vars) : mkR (plZ1_3 (mkL x 0 (kdsP pl_P0))) [.ag kd1, .sc (.int .i64)] = pl_v1_3 x := by kernel_rfl

noncomputable def pl_1_4_a0 (x : Vars) : Vars := colourR [(.flt .f32 (x.u 0)), (.flt .f32 (x.u 1)), (.flt .f32 (x.u 2)), (.flt .f32 (x.u 3)), (.flt .f32 (x.u 4)), (.flt .f32 (x.u 5)), (.flt .f32 (x.u 6)), (.flt .f32 (x.u 7)), (.flt .f32 (x.u 8)), (.flt .f32 (x.u 9)), (.flt .f32 (x.u 10)), (.flt .f32 (x.u 11)), (.flt .f32 (x.u 12)), (.flt .f32 (x.u 13)), (.flt .f32 (x.u 14)), (.flt .f32 (x.u 15)), (.flt .f32 (x.u 16)), (.flt .f32 (x.u 17)), (.flt .f32 (x.u 18)), (.flt .f32 (x.u 19)), (.flt .f32 (x.u 20)), (.flt .f32 (x.u 21)), (.flt .f32 (x.u 22)), (.flt .f32 (x.u 23)), (.flt .f32 (x.u 59)), (.flt .f32 (x.u 125)), (.flt .f32 (x.u 191))]



noncomputable def pl_v1_4 (x : Vars) : AV := .tup [.agg [.flt .f32 (((pl_1_4_a0 x).u 0)), .flt .f32 (((pl_1_4_a0 x).u 1)), .flt .f32 (((pl_1_4_a0 x).u 2))], .sint .i64 (0)]

noncomputable def plZ1_4 (l : List AV) : Vars := outV (some (pl_v1_4 (varsOf l), []))

theorem pl_x1_4 (x : Vars) : mkR (plZ1_4 (mkL x 0 (kdsP pl_P0))) [.ag kd1, .sc (.int .i64)] = pl_v1_4 x := by kernel_rfl

noncomputable def pl_1_5_a0 (x : Vars) : Vars := colourR [(.flt .f32 (x.u 0)), (.flt .f32 (x.u 1)), (.flt .f32 (x.u 2)), (.flt .f32 (x.u 3)), (.flt .f32 (x.u 4)), (.flt .f32 (x.u 5)), (.flt .f32 (x.u 6)), (.flt .f32 (x.u 7)), (.flt .f32 (x.u 8)), (.flt .f32 (x.u 9)), (.flt .f32 (x.u 10)), (.flt .f32 (x.u 11)), (.flt .f32 (x.u 12)), (.flt .f32 (x.u 13)), (.flt .f32 (x.u 14)), (.flt .f32 (x.u 15)), (.flt .f32 (x.u 16)), (.flt .f32 (x.u 17)), (.flt .f32 (x.u 18)), (.flt .f32 (x.u 19)), (.flt .f32 (x.u 20)), (.flt .f32 (x.u 21)), (.flt .f32 (x.u 22)), (.flt .f32 (x.u 23)), (.flt .f32 (x.u 67)), (.flt .f32 (x.u 133)), (.flt .f32 (x.u 199))]



noncomputable def pl_v1_5 (x : Vars) : AV := .tup [.agg [.flt .f32 (((pl_1_5_a0 x).u 0)), .flt .f32 (((pl_1_5_a0 x).u 1)), .flt .f32 (((pl_1_5_a0 x).u 2))], .sint .i64 (0)]

noncomputable def plZ1_5 (l : List AV) : Vars := outV (some (pl_v1_5 (varsOf l), []))

theorem pl_x1_5 (x : Vars) : mkR (plZ1_5 (mkL x 0 (kdsP pl_P0))) [.ag kd1, .sc (.int .i64)] = pl_v1_5 x := by kernel_rfl

noncomputable def pl_1_6_a0 (x : Vars) : Vars := colourR [(.flt .f32 (x.u 0)), (.flt .f32 (x.u 1)), (.flt .f32 (x.u 2)), (.flt .f32 (x.u 3)), (.flt .f32 (x.u 4)), (.flt .f32 (x.u 5)), (.flt .f32 (x.u 6)), (.flt .f32 (x.u 7)), (.flt .f32 (x.u 8)), (.flt .f32 (x.u 9)), (.flt .f32 (x.u 10)), (.flt .f32 (x.u 11)), (.flt .f32 (x.u 12)), (.flt .f32 (x.u 13)), (.flt .f32 (x.u 14)), (.flt .f32 (x.u 15)), (.flt .f32 (x.u 16)), (.flt .f32 (x.u 17)), (.flt .f32 (x.u 18)), (.flt .f32 (x.u 19)), (.flt .f32 (x.u 20)), (.flt .f32 (x.u 21)), (.flt .f32 (x.u 22)), (.flt .f32 (x.u 23)), (.flt .f32 (x.u 75)), (.flt .f32 (x.u 141)), (.flt .f32 (x.u 207))]



noncomputable def pl_v1_6 (x : Vars) : AV := .tup [.agg [.flt .f32 (((pl_1_6_a0 x).u 0)), .flt .f32 (((pl_1_6_a0 x).u 1)), .flt .f32 (((pl_1_6_a0 x).u 2))], .sint .i64 (0)]

noncomputable def plZ1_6 (l : List AV) : Vars := outV (some (pl_v1_6 (varsOf l), []))

theorem pl_x1_6 (x : Vars) : mkR (plZ1_6 (mkL x 0 (kdsP pl_P0))) [.ag kd1, .sc (.int .i64)] = pl_v1_6 x := by kernel_rfl

noncomputable def pl_1_7_a0 (x : Vars) : Vars := colourR [(.flt .f32 (x.u 0)), (.flt .f32 (x.u 1)), (.flt .f32 (x.u 2)), (.flt .f32 (x.u 3)), (.flt .f32 (x.u 4)), (.flt .f32 (x.u 5)), (.flt .f32 (x.u 6)), (.flt .f32 (x.u 7)), (.flt .f32 (x.u 8)), (.flt .f32 (x.u 9)), (.flt .f32 (x.u 10)), (.flt .f32 (x.u 11)), (.flt .f32 (x.u 12)), (.flt .f32 (x.u 13)), (.flt .f32 (x.u 14)), (.flt .f32 (x.u 15)), (.flt .f32 (x.u 16)), (.flt .f32 (x.u 17)), (.flt .f32 (x.u 18)), (.flt .f32 (x.u 19)), (.flt .f32 (x.u 20)), (.flt .f32 (x.u 21)), (.flt .f32 (x.u 22)), (.flt .f32 (x.u 23)), (.flt .f32 (x.u 83)), (.flt .f32 (x.u 149)), (.flt .f32 (x.u 215))]



noncomputable def pl_v1_7 (x : Vars) : AV := .tup [.agg [.flt .f32 (((pl_1_7_a0 x).u 0)), .flt .f32 (((pl_1_7_a0 x).u 1)), .flt .f32 (((pl_1_7_a0 x).u 2))], .sint .i64 (0)]

noncomputable def plZ1_7 (l : List AV) : Vars := outV (some (pl_v1_7 (varsOf l), []))

theorem pl_x1_7 (x : Vars) : mkR (plZ1_7 (mkL x 0 (kdsP pl_P0))) [.ag kd1, .sc (.int .i64)] = pl_v1_7 x := by kernel_rfl

noncomputable def pl_2_0_a0 (x : Vars) : Vars := colourR [(.flt .f32 (x.u 0)), (.flt .f32 (x.u 1)), (.flt .f32 (x.u 2)), (.flt .f32 (x.u 3)), (.flt .f32 (x.u 4)), (.flt .f32 (x.u 5)), (.flt .f32 (x.u 6)), (.flt .f32 (x.u 7)), (.flt .f32 (x.u 8)), (.flt .f32 (x.u 9)), (.flt .f32 (x.u 10)), (.flt .f32 (x.u 11)), (.flt .f32 (x.u 12)), (.flt .f32 (x.u 13)), (.flt .f32 (x.u 14)), (.flt .f32 (x.u 15)), (.flt .f32 (x.u 16)), (.flt .f32 (x.u 17)), (.flt .f32 (x.u 18)), (.flt .f32 (x.u 19)), (.flt .f32 (x.u 20)), (.flt .f32 (x.u 21)), (.flt .f32 (x.u 22)), (.flt .f32 (x.u 23)), (.flt .f32 (x.u 28)), (.flt .f32 (x.u 94)), (.flt .f32 (x.u 160))]



noncomputable def pl_v2_0 (x : Vars) : AV := .tup [.agg [.flt .f32 (((pl_2_0_a0 x).u 0)), .flt .f32 (((pl_2_0_a0 x).u 1)), .flt .f32 (((pl_2_0_a0 x).u 2))], .sint .i64 (0)]

noncomputable def plZ2_0 (l : List AV) : Vars := outV (some (pl_v2_0 (varsOf l), []))

theorem pl_x2_0 (x : Vars) : mkR (plZ2_0 (mkL x 0 (kdsP pl_P0))) [.ag kd1, .sc (.int .i64)] = pl_v2_0 x := by kernel_rfl

noncomputable def pl_2_1_a0 (x : Vars) : Vars := colourR [(.flt .f32 (x.u 0)), (.flt .f32 (x.u 1)), (.flt .f32 (x.u 2)), (.flt .f32 (x.u 3)), (.flt .f32 (x.u 4)), (.flt .f32 (x.u 5)), (.flt .f32 (x.u 6)), (.flt .f32 (x.u 7)), (.flt .f32 (x.u 8)), (.flt .f32 (x.u 9)), (.flt .f32 (x.u 10)), (.flt .f32 (x.u 11)), (.flt .f32 (x.u 12)), (.flt .f32 (x.u 13)), (.flt .f32 (x.u 14)), (.flt .f32 (x.u 15)), (.flt .f32 (x.u 16)), (.flt .f32 (x.u 17)), (.flt .f32 (x.u 18)), (.flt .f32 (x.u 19)), (.flt .f32 (x.u 20)), (.flt .f32 (x.u 21)), (.flt .f32 (x.u 22)), (.flt .f32 (x.u 23)), (.flt .f32 (x.u 36)), (.flt .f32 (x.u 102)), (.flt .f32 (x.u 168))]



noncomputable def pl_v2_1 (x : Vars) : AV := .tup [.agg [.flt .f32 (((pl_2_1_a0 x).u 0)), .flt .f32 (((pl_2_1_a0 x).u 1)), .flt .f32 (((pl_2_1_a0 x).u 2))], .sint .i64 (0)]

noncomputable def plZ2_1 (l : List AV) : Vars := outV (some (pl_v2_1 (varsOf l), []))

theorem pl_x2_1 (x : Vars) : mkR (plZ2_1 (mkL x 0 (kdsP pl_P0))) [.ag kd1, .sc (.int .i64)] = pl_v2_1 x := by kernel_rfl

noncomputable def pl_2_2_a0 (x : Vars) : Vars := colourR [(.flt .f32 (x.u 0)), (.flt .f32 (x.u 1)), (.flt .f32 (x.u 2)), (.flt .f32 (x.u 3)), (.flt .f32 (x.u 4)), (.flt .f32 (x.u 5)), (.flt .f32 (x.u 6)), (.flt .f32 (x.u 7)), (.flt .f32 (x.u 8)), (.flt .f32 (x.u 9)), (.flt .f32 (x.u 10)), (.flt .f32 (x.u 11)), (.flt .f32 (x.u 12)), (.flt .f32 (x.u 13)), (.flt .f32 (x.u 14)), (.flt .f32 (x.u 15)), (.flt .f32 (x.u 16)), (.flt .f32 (x.u 17)), (.flt .f32 (x.u 18)), (.flt .f32 (x.u 19)), (.flt .f32 (x.u 20)), (.flt .f32 (x.u 21)), (.flt .f32 (x.u 22)), (.flt .f32 (x.u 23)), (.flt .f32 (x.u 44)), (.flt .f32 (x.u 110)), (.flt .f32 (x.u 176))]



noncomputable def pl_v2_2 (x : Vars) : AV := .tup [.agg [.flt .f32 (((pl_2_2_a0 x).u 0)), .flt .f32 (((pl_2_2_a0 x).u 1)), .flt .f32 (((pl_2_2_a0 x).u 2))], .sint .i64 (0)]

noncomputable def plZ2_2 (l : List AV) : Vars := outV (some (pl_v2_2 (varsOf l), []))

theorem pl_x2_2 (x : Vars) : mkR (plZ2_2 (mkL x 0 (kdsP pl_P0))) [.ag kd1, .sc (.int .i64)] = pl_v2_2 x := by kernel_rfl

noncomputable def pl_2_3_a0 (x : Vars) : Vars := colourR [(.flt .f32 (x.u 0)), (.flt .f32 (x.u 1)), (.flt .f32 (x.u 2)), (.flt .f32 (x.u 3)), (.flt .f32 (x.u 4)), (.flt .f32 (x.u 5)), (.flt .f32 (x.u 6)), (.flt .f32 (x.u 7)), (.flt .f32 (x.u 8)), (.flt .f32 (x.u 9)), (.flt .f32 (x.u 10)), (.flt .f32 (x.u 11)), (.flt .f32 (x.u 12)), (.flt .f32 (x.u 13)), (.flt .f32 (x.u 14)), (.flt .f32 (x.u 15)), (.flt .f32 (x.u 16)), (.flt .f32 (x.u 17)), (.flt .f32 (x.u 18)), (.flt .f32 (x.u 19)), (.flt .f32 (x.u 20)), (.flt .f32 (x.u 21)), (.flt .f32 (x.u 22)), (.flt .f32 (x.u 23)), (.flt .f32 (x.u 52)), (.flt .f32 (x.u 118)), (.flt .f32 (x.u 184))]



noncomputable def pl_v2_3 (x : Vars) : AV := .tup [.agg [.flt .f32 (((pl_2_3_a0 x).u 0)), .flt .f32 (((pl_2_3_a0 x).u 1)), .flt .f32 (((pl_2_3_a0 x).u 2))], .sint .i64 (0)]

noncomputable def plZ2_3 (l : List AV) : Vars := outV (some (pl_v2_3 (varsOf l), []))

theorem pl_x2_3 (x : Vars) : mkR (plZ2_3 (mkL x 0 (kdsP pl_P0))) [.ag kd1, .sc (.int .i64)] = pl_v2_3 x := by kernel_rfl

noncomputable def pl_2_4_a0 (x : Vars) : Vars := colourR [(.flt .f32 (x.u 0)), (.flt .f32 (x.u 1)), (.flt .f32 (x.u 2)), (.flt .f32 (x.u 3)), (.flt .f32 (x.u 4)), (.flt .f32 (x.u 5)), (.flt .f32 (x.u 6)), (.flt .f32 (x.u 7)), (.flt .f32 (x.u 8)), (.flt .f32 (x.u 9)), (.flt .f32 (x.u 10)), (.flt .f32 (x.u 11)), (.flt .f32 (x.u 12)), (.flt .f32 (x.u 13)), (.flt .f32 (x.u 14)), (.flt .f32 (x.u 15)), (.flt .f32 (x.u 16)), (.flt .f32 (x.u 17)), (.flt .f32 (x.u 18)), (.flt .f32 (x.u 19)), (.flt .f32 (x.u 20)), (.flt .f32 (x.u 21)), (.flt .f32 (x.u 22)), (.flt .f32 (x.u 23)), (.flt .f32 (x.u 60)), (.flt .f32 (x.u 126)), (.flt .f32 (x.u 192))]



noncomputable def pl_v2_4 (x : Vars) : AV := .tup [.agg [.flt .f32 (((pl_2_4_a0 x).u 0)), .flt .f32 (((pl_2_4_a0 x).u 1)), .flt .f32 (((pl_2_4_a0 x).u 2))], .sint .i64 (0)]

noncomputable def plZ2_4 (l : List AV) : Vars := outV (some (pl_v2_4 (varsOf l), []))

theorem pl_x2_4 (x : Vars) : mkR (plZ2_4 (mkL x 0 (kdsP pl_P0))) [.ag kd1, .sc (.int .i64)] = pl_v2_4 x := by kernel_rfl

noncomputable def pl_2_5_a0 (x : Vars) : Vars := colourR [(.flt .f32 (x.u 0)), (.flt .f32 (x.u 1)), (.flt .f32 (x.u 2)), (.flt .f32 (x.u 3)), (.flt .f32 (x.u 4)), (.flt .f32 (x.u 5)), (.flt .f32 (x.u 6)), (.flt .f32 (x.u 7)), (.flt .f32 (x.u 8)), (.flt .f32 (x.u 9)), (.flt .f32 (x.u 10)), (.flt .f32 (x.u 11)), (.flt .f32 (x.u 12)), (.flt .f32 (x.u 13)), (.flt .f32 (x.u 14)), (.flt .f32 (x.u 15)), (.flt .f32 (x.u 16)), (.flt .f32 (x.u 17)), (.flt .f32 (x.u 18)), (.flt .f32 (x.u 19)), (.flt .f32 (x.u 20)), (.flt .f32 (x.u 21)), (.flt .f32 (x.u 22)), (.flt .f32 (x.u 23)), (.flt .f32 (x.u 68)), (.flt .f32 (x.u 134)), (.flt .f32 (x.u 200))]



noncomputable def pl_v2_5 (x : Vars) : AV := .tup [.agg [.flt .f32 (((pl_2_5_a0 x).u 0)), .flt .f32 (((pl_2_5_a0 x).u 1)), .flt .f32 (((pl_2_5_a0 x).u 2))], .sint .i64 (0)]

noncomputable def plZ2_5 (l : List AV) : Vars := outV (some (pl_v2_5 (varsOf l), []))

theorem pl_x2_5 (x : Vars) : mkR (plZ2_5 (mkL x 0 (kdsP pl_P0))) [.ag kd1, .sc (.int .i64)] = pl_v2_5 x := by kernel_rfl

noncomputable def pl_2_6_a0 (x : Vars) : Vars := colourR [(.flt .f32 (x.u 0)), (.flt .f32 (x.u 1)), (.flt .f32 (x.u 2)), (.flt .f32 (x.u 3)), (.flt .f32 (x.u 4)), (.flt .f32 (x.u 5)), (.flt .f32 (x.u 6)), (.flt .f32 (x.u 7)), (.flt .f32 (x.u 8)), (.flt .f32 (x.u 9)), (.flt .f32 (x.u 10)), (.flt .f32 (x.u 11)), (.flt .f32 (x.u 12)), (.flt .f32 (x.u 13)), (.flt .f32 (x.u 14)), (.flt .f32 (x.u 15)), (.flt .f32 (x.u 16)), (.flt .f32 (x.u 17)), (.flt .f32 (x.u 18)), (.flt .f32 (x.u 19)), (.flt .f32 (x.u 20)), (.flt .f32 (x.u 21)), (.flt .f32 (x.u 22)), (.flt .f32 (x.u 23)), (.flt .f32 (x.u 76)), (.flt .f32 (x.u 142)), (.flt .f32 (x.u 208))]



noncomputable def pl_v2_6 (x : Vars) : AV := .tup [.agg [.flt .f32 (((pl_2_6_a0 x).u 0)), .flt .f32 (((pl_2_6_a0 x).u 1)), .flt .f32 (((pl_2_6_a0 x).u 2))], .sint .i64 (0)]

noncomputable def plZ2_6 (l : List AV) : Vars := outV (some (pl_v2_6 (varsOf l), []))

theorem pl_x2_6 (x : Vars) : mkR (plZ2_6 (mkL x 0 (kdsP pl_P0))) [.ag kd1, .sc (.int .i64)] = pl_v2_6 x := by kernel_rfl

noncomputable def pl_2_7_a0 (x : Vars) : Vars := colourR [(.flt .f32 (x.u 0)), (.flt .f32 (x.u 1)), (.flt .f32 (x.u 2)), (.flt .f32 (x.u 3)), (.flt .f32 (x.u 4)), (.flt .f32 (x.u 5)), (.flt .f32 (x.u 6)), (.flt .f32 (x.u 7)), (.flt .f32 (x.u 8)), (.flt .f32 (x.u 9)), (.flt .f32 (x.u 10)), (.flt .f32 (x.u 11)), (.flt .f32 (x.u 12)), (.flt .f32 (x.u 13)), (.flt .f32 (x.u 14)), (.flt .f32 (x.u 15)), (.flt .f32 (x.u 16)), (.flt .f32 (x.u 17)), (.flt .f32 (x.u 18)), (.flt .f32 (x.u 19)), (.flt .f32 (x.u 20)), (.flt .f32 (x.u 21)), (.flt .f32 (x.u 22)), (.flt .f32 (x.u 23)), (.flt .f32 (x.u 84)), (.flt .f32 (x.u 150)), (.flt .f32 (x.u 216))]



noncomputable def pl_v2_7 (x : Vars) : AV := .tup [.agg [.flt .f32 (((pl_2_7_a0 x).u 0)), .flt .f32 (((pl_2_7_a0 x).u 1)), .flt .f32 (((pl_2_7_a0 x).u 2))], .sint .i64 (0)]

noncomputable def plZ2_7 (l : List AV) : Vars := outV (some (pl_v2_7 (varsOf l), []))

theorem pl_x2_7 (x : Vars) : mkR (plZ2_7 (mkL x 0 (kdsP pl_P0))) [.ag kd1, .sc (.int .i64)] = pl_v2_7 x := by kernel_rfl

noncomputable def pl_3_0_a0 (x : Vars) : Vars := colourR [(.flt .f32 (x.u 0)), (.flt .f32 (x.u 1)), (.flt .f32 (x.u 2)), (.flt .f32 (x.u 3)), (.flt .f32 (x.u 4)), (.flt .f32 (x.u 5)), (.flt .f32 (x.u 6)), (.flt .f32 (x.u 7)), (.flt .f32 (x.u 8)), (.flt .f32 (x.u 9)), (.flt .f32 (x.u 10)), (.flt .f32 (x.u 11)), (.flt .f32 (x.u 12)), (.flt .f32 (x.u 13)), (.flt .f32 (x.u 14)), (.flt .f32 (x.u 15)), (.flt .f32 (x.u 16)), (.flt .f32 (x.u 17)), (.flt .f32 (x.u 18)), (.flt .f32 (x.u 19)), (.flt .f32 (x.u 20)), (.flt .f32 (x.u 21)), (.flt .f32 (x.u 22)), (.flt .f32 (x.u 23)), (.flt .f32 (x.u 29)), (.flt .f32 (x.u 95)), (.flt .f32 (x.u 161))]



noncomputable def pl_v3_0 (x : Vars) : AV := .tup [.agg [.flt .f32 (((pl_3_0_a0 x).u 0)), .flt .f32 (((pl_3_0_a0 x).u 1)), .flt .f32 (((pl_3_0_a0 x).u 2))], .sint .i64 (0)]

noncomputable def plZ3_0 (l : List AV) : Vars := outV (some (pl_v3_0 (varsOf l), []))

theorem pl_x3_0 (x : Vars) : mkR (plZ3_0 (mkL x 0 (kdsP pl_P0))) [.ag kd1, .sc (.int .i64)] = pl_v3_0 x := by kernel_rfl

noncomputable def pl_3_1_a0 (x : Vars) : Vars := colourR [(.flt .f32 (x.u 0)), (.flt .f32 (x.u 1)), (.flt .f32 (x.u 2)), (.flt .f32 (x.u 3)), (.flt .f32 (x.u 4)), (.flt .f32 (x.u 5)), (.flt .f32 (x.u 6)), (.flt .f32 (x.u 7)), (.flt .f32 (x.u 8)), (.flt .f32 (x.u 9)), (.flt .f32 (x.u 10)), (.flt .f32 (x.u 11)), (.flt .f32 (x.u 12)), (.flt .f32 (x.u 13)), (.flt .f32 (x.u 14)), (.flt .f32 (x.u 15)), (.flt .f32 (x.u 16)), (.flt .f32 (x.u 17)), (.flt .f32 (x.u 18)), (.flt .f32 (x.u 19)), (.flt .f32 (x.u 20)), (.flt .f32 (x.u 21)), (.flt .f32 (x.u 22)), (.flt .f32 (x.u 23)), (.flt .f32 (x.u 37)), (.flt .f32 (x.u 103)), (.flt .f32 (x.u 169))]



noncomputable def pl_v3_1 (x : Vars) : AV := .tup [.agg [.flt .f32 (((pl_3_1_a0 x).u 0)), .flt .f32 (((pl_3_1_a0 x).u 1)), .flt .f32 (((pl_3_1_a0 x).u 2))], .sint .i64 (0)]

noncomputable def plZ3_1 (l : List AV) : Vars := outV (some (pl_v3_1 (varsOf l), []))

theorem pl_x3_1 (x : Vars) : mkR (plZ3_1 (mkL x 0 (kdsP pl_P0))) [.ag kd1, .sc (.int .i64)] = pl_v3_1 x := by kernel_rfl

noncomputable def pl_3_2_a0 (x : Vars) : Vars := colourR [(.flt .f32 (x.u 0)), (.flt .f32 (x.u 1)), (.flt .f32 (x.u 2)), (.flt .f32 (x.u 3)), (.flt .f32 (x.u 4)), (.flt .f32 (x.u 5)), (.flt .f32 (x.u 6)), (.flt .f32 (x.u 7)), (.flt .f32 (x.u 8)), (.flt .f32 (x.u 9)), (.flt .f32 (x.u 10)), (.flt .f32 (x.u 11)), (.flt .f32 (x.u 12)), (.flt .f32 (x.u 13)), (.flt .f32 (x.u 14)), (.flt .f32 (x.u 15)), (.flt .f32 (x.u 16)), (.flt .f32 (x.u 17)), (.flt .f32 (x.u 18)), (.flt .f32 (x.u 19)), (.flt .f32 (x.u 20)), (.flt .f32 (x.u 21)), (.flt .f32 (x.u 22)), (.flt .f32 (x.u 23)), (.flt .f32 (x.u 45)), (.flt .f32 (x.u 111)), (.flt .f32 (x.u 177))]



noncomputable def pl_v3_2 (x : Vars) : AV := .tup [.agg [.flt .f32 (((pl_3_2_a0 x).u 0)), .flt .f32 (((pl_3_2_a0 x).u 1)), .flt .f32 (((pl_3_2_a0 x).u 2))], .sint .i64 (0)]

noncomputable def plZ3_2 (l : List AV) : Vars := outV (some (pl_v3_2 (varsOf l), []))

theorem pl_x3_2 (x : Vars) : mkR (plZ3_2 (mkL x 0 (kdsP pl_P0))) [.ag kd1, .sc (.int .i64)] = pl_v3_2 x := by kernel_rfl

noncomputable def pl_3_3_a0 (x : Vars) : Vars := colourR [(.flt .f32 (x.u 0)), (.flt .f32 (x.u 1)), (.flt .f32 (x.u 2)), (.flt .f32 (x.u 3)), (.flt .f32 (x.u 4)), (.flt .f32 (x.u 5)), (.flt .f32 (x.u 6)), (.flt .f32 (x.u 7)), (.flt .f32 (x.u 8)), (.flt .f32 (x.u 9)), (.flt .f32 (x.u 10)), (.flt .f32 (x.u 11)), (.flt .f32 (x.u 12)), (.flt .f32 (x.u 13)), (.flt .f32 (x.u 14)), (.flt .f32 (x.u 15)), (.flt .f32 (x.u 16)), (.flt .f32 (x.u 17)), (.flt .f32 (x.u 18)), (.flt .f32 (x.u 19)), (.flt .f32 (x.u 20)), (.flt .f32 (x.u 21)), (.flt .f32 (x.u 22)), (.flt .f32 (x.u 23)), (.flt .f32 (x.u 53)), (.flt .f32 (x.u 119)), (.flt .f32 (x.u 185))]



noncomputable def pl_v3_3 (x : Vars) : AV := .tup [.agg [.flt .f32 (((pl_3_3_a0 x).u 0)), .flt .f32 (((pl_3_3_a0 x).u 1)), .flt .f32 (((pl_3_3_a0 x).u 2))], .sint .i64 (0)]

noncomputable def plZ3_3 (l : List AV) : Vars := outV (some (pl_v3_3 (varsOf l), []))

theorem pl_x3_3 (x : Vars) : mkR (plZ3_3 (mkL x 0 (kdsP pl_P0))) [.ag kd1, .sc (.int .i64)] = pl_v3_3 x := by kernel_rfl

noncomputable def pl_3_4_a0 (x : Vars) : Vars := colourR [(.flt .f32 (x.u 0)), (.flt .f32 (x.u 1)), (.flt .f32 (x.u 2)), (.flt .f32 (x.u 3)), (.flt .f32 (x.u 4)), (.flt .f32 (x.u 5)), (.flt .f32 (x.u 6)), (.flt .f32 (x.u 7)), (.flt .f32 (x.u 8)), (.flt .f32 (x.u 9)), (.flt .f32 (x.u 10)), (.flt .f32 (x.u 11)), (.flt .f32 (x.u 12)), (.flt .f32 (x.u 13)), (.flt .f32 (x.u 14)), (.flt .f32 (x.u 15)), (.flt .f32 (x.u 16)), (.flt .f32 (x.u 17)), (.flt .f32 (x.u 18)), (.flt .f32 (x.u 19)), (.flt .f32 (x.u 20)), (.flt .f32 (x.u 21)), (.flt .f32 (x.u 22)), (.flt .f32 (x.u 23)), (.flt .f32 (x.u 61)), (.flt .f32 (x.u 127)), (.flt .f32 (x.u 193))]



noncomputable def pl_v3_4 (x : Vars) : AV := .tup [.agg [.flt .f32 (((pl_3_4_a0 x).u 0)), .flt .f32 (((pl_3_4_a0 x).u 1)), .flt .f32 (((pl_3_4_a0 x).u 2))], .sint .i64 (0)]

noncomputable def plZ3_4 (l : List AV) : Vars := outV (some (pl_v3_4 (varsOf l), []))

theorem pl_x3_4 (x : Vars) : mkR (plZ3_4 (mkL x 0 (kdsP pl_P0))) [.ag kd1, .sc (.int .i64)] = pl_v3_4 x := by kernel_rfl

noncomputable def pl_3_5_a0 (x : Vars) : Vars := colourR [(.flt .f32 (x.u 0)), (.flt .f32 (x.u 1)), (.flt .f32 (x.u 2)), (.flt .f32 (x.u 3)), (.flt .f32 (x.u 4)), (.flt .f32 (x.u 5)), (.flt .f32 (x.u 6)), (.flt .f32 (x.u 7)), (.flt .f32 (x.u 8)), (.flt .f32 (x.u 9)), (.flt .f32 (x.u 10)), (.flt .f32 (x.u 11)), (.flt .f32 (x.u 12)), (.flt .f32 (x.u 13)), (.flt .f32 (x.u 14)), (.flt .f32 (x.u 15)), (.flt .f32 (x.u 16)), (.flt .f32 (x.u 17)), (.flt .f32 (x.u 18)), (.flt .f32 (x.u 19)), (.flt .f32 (x.u 20)), (.flt .f32 (x.u 21)), (.flt .f32 (x.u 22)), (.flt .f32 (x.u 23)), (.flt .f32 (x.u 69)), (.flt .f32 (x.u 135)), (.flt .f32 (x.u 201))]



noncomputable def pl_v3_5 (x : Vars) : AV := .tup [.agg [.flt .f32 (((pl_3_5_a0 x).u 0)), .flt .f32 (((pl_3_5_a0 x).u 1)), .flt .f32 (((pl_3_5_a0 x).u 2))], .sint .i64 (0)]

noncomputable def plZ3_5 (l : List AV) : Vars := outV (some (pl_v3_5 (varsOf l), []))

theorem pl_x3_5 (x : Vars) : mkR (plZ3_5 (mkL x 0 (kdsP pl_P0))) [.ag kd1, .sc (.int .i64)] = pl_v3_5 x := by kernel_rfl

noncomputable def pl_3_6_a0 (x : Vars) : Vars := colourR [(.flt .f32 (x.u 0)), (.flt .f32 (x.u 1)), (.flt .f32 (x.u 2)), (.flt .f32 (x.u 3)), (.flt .f32 (x.u 4)), (.flt .f32 (x.u 5)), (.flt .f32 (x.u 6)), (.flt .f32 (x.u 7)), (.flt .f32 (x.u 8)), (.flt .f32 (x.u 9)), (.flt .f32 (x.u 10)), (.flt .f32 (x.u 11)), (.flt .f32 (x.u 12)), (.flt .f32 (x.u 13)), (.flt .f32 (x.u 14)), (.flt .f32 (x.u 15)), (.flt .f32 (x.u 16)), (.flt .f32 (x.u 17)), (.flt .f32 (x.u 18)), (.flt .f32 (x.u 19)), (.flt .f32 (x.u 20)), (.flt .f32 (x.u 21)), (.flt .f32 (x.u 22)), (.flt .f32 (x.u 23)), (.flt .f32 (x.u 77)), (.flt .f32 (x.u 143)), (.flt .f32 (x.u 209))]



noncomputable def pl_v3_6 (x : Vars) : AV := .tup [.agg [.flt .f32 (((pl_3_6_a0 x).u 0)), .flt .f32 (((pl_3_6_a0 x).u 1)), .flt .f32 (((pl_3_6_a0 x).u 2))], .sint .i64 (0)]

noncomputable def plZ3_6 (l : List AV) : Vars := outV (some (pl_v3_6 (varsOf l), []))

theorem pl_x3_6 (x : Vars) : mkR (plZ3_6 (mkL x 0 (kdsP pl_P0))) [.ag kd1, .sc (.int .i64)] = pl_v3_6 x := by kernel_rfl

noncomputable def pl_3_7_a0 (x : Vars) : Vars := colourR [(.flt .f32 (x.u 0)), (.flt .f32 (x.u 1)), (.flt .f32 (x.u 2)), (.flt .f32 (x.u 3)), (.flt .f32 (x.u 4)), (.flt .f32 (x.u 5)), (.flt .f32 (x.u 6)), (.flt .f32 (x.u 7)), (.flt .f32 (x.u 8)), (.flt .f32 (x.u 9)), (.flt .f32 (x.u 10)), (.flt .f32 (x.u 11)), (.flt .f32 (x.u 12)), (.flt .f32 (x.u 13)), (.flt .f32 (x.u 14)), (.flt .f32 (x.u 15)), (.flt .f32 (x.u 16)), (.flt .f32 (x.u 17)), (.flt .f32 (x.u 18)), (.flt .f32 (x.u 19)), (.flt .f32 (x.u 20)), (.flt .f32 (x.u 21)), (.flt .f32 (x.u 22)), (.flt .f32 (x.u 23)), (.flt .f32 (x.u 85)), (.flt .f32 (x.u 151)), (.flt .f32 (x.u 217))]



noncomputable def pl_v3_7 (x : Vars) : AV := .tup [.agg [.flt .f32 (((pl_3_7_a0 x).u 0)), .flt .f32 (((pl_3_7_a0 x).u 1)), .flt .f32 (((pl_3_7_a0 x).u 2))], .sint .i64 (0)]

noncomputable def plZ3_7 (l : List AV) : Vars := outV (some (pl_v3_7 (varsOf l), []))

theorem pl_x3_7 (x : Vars) : mkR (plZ3_7 (mkL x 0 (kdsP pl_P0))) [.ag kd1, .sc (.int .i64)] = pl_v3_7 x := by kernel_rfl

noncomputable def pl_4_0_a0 (x : Vars) : Vars := colourR [(.flt .f32 (x.u 0)), (.flt .f32 (x.u 1)), (.flt .f32 (x.u 2)), (.flt .f32 (x.u 3)), (.flt .f32 (x.u 4)), (.flt .f32 (x.u 5)), (.flt .f32 (x.u 6)), (.flt .f32 (x.u 7)), (.flt .f32 (x.u 8)), (.flt .f32 (x.u 9)), (.flt .f32 (x.u 10)), (.flt .f32 (x.u 11)), (.flt .f32 (x.u 12)), (.flt .f32 (x.u 13)), (.flt .f32 (x.u 14)), (.flt .f32 (x.u 15)), (.flt .f32 (x.u 16)), (.flt .f32 (x.u 17)), (.flt .f32 (x.u 18)), (.flt .f32 (x.u 19)), (.flt .f32 (x.u 20)), (.flt .f32 (x.u 21)), (.flt .f32 (x.u 22)), (.flt .f32 (x.u 23)), (.flt .f32 (x.u 30)), (.flt .f32 (x.u 96)), (.flt .f32 (x.u 162))]



noncomputable def pl_v4_0 (x : Vars) : AV := .tup [.agg [.flt .f32 (((pl_4_0_a0 x).u 0)), .flt .f32 (((pl_4_0_a0 x).u 1)), .flt .f32 (((pl_4_0_a0 x).u 2))], .sint .i64 (0)]

noncomputable def plZ4_0 (l : List AV) : Vars := outV (some (pl_v4_0 (varsOf l), []))

theorem pl_x4_0 (x : Vars) : mkR (plZ4_0 (mkL x 0 (kdsP pl_P0))) [.ag kd1, .sc (.int .i64)] = pl_v4_0 x := by kernel_rfl

noncomputable def pl_4_1_a0 (x : Vars) : Vars := colourR [(.flt .f32 (x.u 0)), (.flt .f32 (x.u 1)), (.flt .f32 (x.u 2)), (.flt .f32 (x.u 3)), (.flt .f32 (x.u 4)), (.flt .f32 (x.u 5)), (.flt .f32 (x.u 6)), (.flt .f32 (x.u 7)), (.flt .f32 (x.u 8)), (.flt .f32 (x.u 9)), (.flt .f32 (x.u 10)), (.flt .f32 (x.u 11)), (.flt .f32 (x.u 12)), (.flt .f32 (x.u 13)), (.flt .f32 (x.u 14)), (.flt .f32 (x.u 15)), (.flt .f32 (x.u 16)), (.flt .f32 (x.u 17)), (.flt .f32 (x.u 18)), (.flt .f32 (x.u 19)), (.flt .f32 (x.u 20)), (.flt .f32 (x.u 21)), (.flt .f32 (x.u 22)), (.flt .f32 (x.u 23)), (.flt .f32 (x.u 38)), (.flt .f32 (x.u 104)), (.flt .f32 (x.u 170))]



noncomputable def pl_v4_1 (x : Vars) : AV := .tup [.agg [.flt .f32 (((pl_4_1_a0 x).u 0)), .flt .f32 (((pl_4_1_a0 x).u 1)), .flt .f32 (((pl_4_1_a0 x).u 2))], .sint .i64 (0)]

noncomputable def plZ4_1 (l : List AV) : Vars := outV (some (pl_v4_1 (varsOf l), []))

theorem pl_x4_1 (x : Vars) : mkR (plZ4_1 (mkL x 0 (kdsP pl_P0))) [.ag kd1, .sc (.int .i64)] = pl_v4_1 x := by kernel_rfl

noncomputable def pl_4_2_a0 (x : Vars) : Vars := colourR [(.flt .f32 (x.u 0)), (.flt .f32 (x.u 1)), (.flt .f32 (x.u 2)), (.flt .f32 (x.u 3)), (.flt .f32 (x.u 4)), (.flt .f32 (x.u 5)), (.flt .f32 (x.u 6)), (.flt .f32 (x.u 7)), (.flt .f32 (x.u 8)), (.flt .f32 (x.u 9)), (.flt .f32 (x.u 10)), (.flt .f32 (x.u 11)), (.flt .f32 (x.u 12)), (.flt .f32 (x.u 13)), (.flt .f32 (x.u 14)), (.flt .f32 (x.u 15)), (.flt .f32 (x.u 16)), (.flt .f32 (x.u 17)), (.flt .f32 (x.u 18)), (.flt .f32 (x.u 19)), (.flt .f32 (x.u 20)), (.flt .f32 (x.u 21)), (.flt .f32 (x.u 22)), (.flt .f32 (x.u 23)), (.flt .f32 (x.u 46)), (.flt .f32 (x.u 112)), (.flt .f32 (x.u 178))]



noncomputable def pl_v4_2 (x : Vars) : AV := .tup [.agg [.flt .f32 (((pl_4_2_a0 x).u 0)), .flt .f32 (((pl_4_2_a0 x).u 1)), .flt .f32 (((pl_4_2_a0 x).u 2))], .sint .i64 (0)]

noncomputable def plZ4_2 (l : List AV) : Vars := outV (some (pl_v4_2 (varsOf l), []))

theorem pl_x4_2 (x : Vars) : mkR (plZ4_2 (mkL x 0 (kdsP pl_P0))) [.ag kd1, .sc (.int .i64)] = pl_v4_2 x := by kernel_rfl

noncomputable def pl_4_3_a0 (x : Vars) : Vars := colourR [(.flt .f32 (x.u 0)), (.flt .f32 (x.u 1)), (.flt .f32 (x.u 2)), (.flt .f32 (x.u 3)), (.flt .f32 (x.u 4)), (.flt .f32 (x.u 5)), (.flt .f32 (x.u 6)), (.flt .f32 (x.u 7)), (.flt .f32 (x.u 8)), (.flt .f32 (x.u 9)), (.flt .f32 (x.u 10)), (.flt .f32 (x.u 11)), (.flt .f32 (x.u 12)), (.flt .f32 (x.u 13)), (.flt .f32 (x.u 14)), (.flt .f32 (x.u 15)), (.flt .f32 (x.u 16)), (.flt .f32 (x.u 17)), (.flt .f32 (x.u 18)), (.flt .f32 (x.u 19)), (.flt .f32 (x.u 20)), (.flt .f32 (x.u 21)), (.flt .f32 (x.u 22)), (.flt .f32 (x.u 23)), (.flt .f32 (x.u 54)), (.flt .f32 (x.u 120)), (.flt .f32 (x.u 186))]



noncomputable def pl_v4_3 (x : Vars) : AV := .tup [.agg [.flt .f32 (((pl_4_3_a0 x).u 0)), .flt .f32 (((pl_4_3_a0 x).u 1)), .flt .f32 (((pl_4_3_a0 x).u 2))], .sint .i64 (0)]

noncomputable def plZ4_3 (l : List AV) : Vars := outV (some (pl_v4_3 (varsOf l), []))

theorem pl_x4_3 (x : Vars) : mkR (plZ4_3 (mkL x 0 (kdsP pl_P0))) [.ag kd1, .sc (.int .i64)] = pl_v4_3 x := by kernel_rfl

noncomputable def pl_4_4_a0 (x : Vars) : Vars := colourR [(.flt .f32 (x.u 0)), (.flt .f32 (x.u 1)), (.flt .f32 (x.u 2)), (.flt .f32 (x.u 3)), (.flt .f32 (x.u 4)), (.flt .f32 (x.u 5)), (.flt .f32 (x.u 6)), (.flt .f32 (x.u 7)), (.flt .f32 (x.u 8)), (.flt .f32 (x.u 9)), (.flt .f32 (x.u 10)), (.flt .f32 (x.u 11)), (.flt .f32 (x.u 12)), (.flt .f32 (x.u 13)), (.flt .f32 (x.u 14)), (.flt .f32 (x.u 15)), (.flt .f32 (x.u 16)), (.flt .f32 (x.u 17)), (.flt .f32 (x.u 18)), (.flt .f32 (x.u 19)), (.flt .f32 (x.u 20)), (.flt .f32 (x.u 21)), (.flt .f32 (x.u 22)), (.flt .f32 (x.u 23)), (.flt .f32 (x.u 62)), (.flt .f32 (x.u 128)), (.flt .f32 (x.u 194))]



noncomputable def pl_v4_4 (x : Vars) : AV := .tup [.agg [.flt .f32 (((pl_4_4_a0 x).u 0)), .flt .f32 (((pl_4_4_a0 x).u 1)), .flt .f32 (((pl_4_4_a0 x).u 2))], .sint .i64 (0)]

noncomputable def plZ4_4 (l : List AV) : Vars := outV (some (pl_v4_4 (varsOf l), []))

theorem pl_x4_4 (x : Vars) : mkR (plZ4_4 (mkL x 0 (kdsP pl_P0))) [.ag kd1, .sc (.int .i64)] = pl_v4_4 x := by kernel_rfl

noncomputable def pl_4_5_a0 (x : Vars) : Vars := colourR [(.flt .f32 (x.u 0)), (.flt .f32 (x.u 1)), (.flt .f32 (x.u 2)), (.flt .f32 (x.u 3)), (.flt .f32 (x.u 4)), (.flt .f32 (x.u 5)), (.flt .f32 (x.u 6)), (.flt .f32 (x.u 7)), (.flt .f32 (x.u 8)), (.flt .f32 (x.u 9)), (.flt .f32 (x.u 10)), (.flt .f32 (x.u 11)), (.flt .f32 (x.u 12)), (.flt .f32 (x.u 13)), (.flt .f32 (x.u 14)), (.flt .f32 (x.u 15)), (.flt .f32 (x.u 16)), (.flt .f32 (x.u 17)), (.flt .f32 (x.u 18)), (.flt .f32 (x.u 19)), (.flt .f32 (x.u 20)), (.flt .f32 (x.u 21)), (.flt .f32 (x.u 22)), (.flt .f32 (x.u 23)), (.flt .f32 (x.u 70)), (.flt .f32 (x.u 136)), (.flt .f32 (x.u 202))]



noncomputable def pl_v4_5 (x : Vars) : AV := .tup [.agg [.flt .f32 (((pl_4_5_a0 x).u 0)), .flt .f32 (((pl_4_5_a0 x).u 1)), .flt .f32 (((pl_4_5_a0 x).u 2))], .sint .i64 (0)]

noncomputable def plZ4_5 (l : List AV) : Vars := outV (some (pl_v4_5 (varsOf l), []))

theorem pl_x4_5 (x : Vars) : mkR (plZ4_5 (mkL x 0 (kdsP pl_P0))) [.ag kd1, .sc (.int .i64)] = pl_v4_5 x := by kernel_rfl

noncomputable def pl_4_6_a0 (x : Vars) : Vars := colourR [(.flt .f32 (x.u 0)), (.flt .f32 (x.u 1)), (.flt .f32 (x.u 2)), (.flt .f32 (x.u 3)), (.flt .f32 (x.u 4)), (.flt .f32 (x.u 5)), (.flt .f32 (x.u 6)), (.flt .f32 (x.u 7)), (.flt .f32 (x.u 8)), (.flt .f32 (x.u 9)), (.flt .f32 (x.u 10)), (.flt .f32 (x.u 11)), (.flt .f32 (x.u 12)), (.flt .f32 (x.u 13)), (.flt .f32 (x.u 14)), (.flt .f32 (x.u 15)), (.flt .f32 (x.u 16)), (.flt .f32 (x.u 17)), (.flt .f32 (x.u 18)), (.flt .f32 (x.u 19)), (.flt .f32 (x.u 20)), (.flt .f32 (x.u 21)), (.flt .f32 (x.u 22)), (.flt .f32 (x.u 23)), (.flt .f32 (x.u 78)), (.flt .f32 (x.u 144)), (.flt .f32 (x.u 210))]



noncomputable def pl_v4_6 (x : Vars) : AV := .tup [.agg [.flt .f32 (((pl_4_6_a0 x).u 0)), .flt .f32 (((pl_4_6_a0 x).u 1)), .flt .f32 (((pl_4_6_a0 x).u 2))], .sint .i64 (0)]

noncomputable def plZ4_6 (l : List AV) : Vars := outV (some (pl_v4_6 (varsOf l), []))

theorem pl_x4_6 (x : Vars) : mkR (plZ4_6 (mkL x 0 (kdsP pl_P0))) [.ag kd1, .sc (.int .i64)] = pl_v4_6 x := by kernel_rfl

noncomputable def pl_4_7_a0 (x : Vars) : Vars := colourR [(.flt .f32 (x.u 0)), (.flt .f32 (x.u 1)), (.flt .f32 (x.u 2)), (.flt .f32 (x.u 3)), (.flt .f32 (x.u 4)), (.flt .f32 (x.u 5)), (.flt .f32 (x.u 6)), (.flt .f32 (x.u 7)), (.flt .f32 (x.u 8)), (.flt .f32 (x.u 9)), (.flt .f32 (x.u 10)), (.flt .f32 (x.u 11)), (.flt .f32 (x.u 12)), (.flt .f32 (x.u 13)), (.flt .f32 (x.u 14)), (.flt .f32 (x.u 15)), (.flt .f32 (x.u 16)), (.flt .f32 (x.u 17)), (.flt .f32 (x.u 18)), (.flt .f32 (x.u 19)), (.flt .f32 (x.u 20)), (.flt .f32 (x.u 21)), (.flt .f32 (x.u 22)), (.flt .f32 (x.u 23)), (.flt .f32 (x.u 86)), (.flt .f32 (x.u 152)), (.flt .f32 (x.u 218))]



noncomputable def pl_v4_7 (x : Vars) : AV := .tup [.agg [.flt .f32 (((pl_4_7_a0 x).u 0)), .flt .f32 (((pl_4_7_a0 x).u 1)), .flt .f32 (((pl_4_7_a0 x).u 2))], .sint .i64 (0)]

noncomputable def plZ4_7 (l : List AV) : Vars := outV (some (pl_v4_7 (varsOf l), []))

theorem pl_x4_7 (x : Vars) : mkR (plZ4_7 (mkL x 0 (kdsP pl_P0))) [.ag kd1, .sc (.int .i64)] = pl_v4_7 x := by kernel_rfl

noncomputable def pl_5_0_a0 (x : Vars) : Vars := colourR [(.flt .f32 (x.u 0)), (.flt .f32 (x.u 1)), (.flt .f32 (x.u 2)), (.flt .f32 (x.u 3)), (.flt .f32 (x.u 4)), (.flt .f32 (x.u 5)), (.flt .f32 (x.u 6)), (.flt .f32 (x.u 7)), (.flt .f32 (x.u 8)), (.flt .f32 (x.u 9)), (.flt .f32 (x.u 10)), (.flt .f32 (x.u 11)), (.flt .f32 (x.u 12)), (.flt .f32 (x.u 13)), (.flt .f32 (x.u 14)), (.flt .f32 (x.u 15)), (.flt .f32 (x.u 16)), (.flt .f32 (x.u 17)), (.flt .f32 (x.u 18)), (.flt .f32 (x.u 19)), (.flt .f32 (x.u 20)), (.flt .f32 (x.u 21)), (.flt .f32 (x.u 22)), (.flt .f32 (x.u 23)), (.flt .f32 (x.u 31)), (.flt .f32 (x.u 97)), (.flt .f32 (x.u 163))]



noncomputable def pl_v5_0 (x : Vars) : AV := .tup [.agg [.flt .f32 (((pl_5_0_a0 x).u 0)), .flt .f32 (((pl_5_0_a0 x).u 1)), .flt .f32 (((pl_5_0_a0 x).u 2))], .sint .i64 (0)]

noncomputable def plZ5_0 (l : List AV) : Vars := outV (some (pl_v5_0 (varsOf l), []))

theorem pl_x5_0 (x : Vars) : mkR (plZ5_0 (mkL x 0 (kdsP pl_P0))) [.ag kd1, .sc (.int .i64)] = pl_v5_0 x := by kernel_rfl

noncomputable def pl_5_1_a0 (x : Vars) : Vars := colourR [(.flt .f32 (x.u 0)), (.flt .f32 (x.u 1)), (.flt .f32 (x.u 2)), (.flt .f32 (x.u 3)), (.flt .f32 (x.u 4)), (.flt .f32 (x.u 5)), (.flt .f32 (x.u 6)), (.flt .f32 (x.u 7)), (.flt .f32 (x.u 8)), (.flt .f32 (x.u 9)), (.flt .f32 (x.u 10)), (.flt .f32 (x.u 11)), (.flt .f32 (x.u 12)), (.flt .f32 (x.u 13)), (.flt .f32 (x.u 14)), (.flt .f32 (x.u 15)), (.flt .f32 (x.u 16)), (.flt .f32 (x.u 17)), (.flt .f32 (x.u 18)), (.flt .f32 (x.u 19)), (.flt .f32 (x.u 20)), (.flt .f32 (x.u 21)), (.flt .f32 (x.u 22)), (.flt .f32 (x.u 23)), (.flt .f32 (x.u 39)), (.flt .f32 (x.u 105)), (.flt .f32 (x.u 171))]



noncomputable def pl_v5_1 (x : Vars) : AV := .tup [.agg [.flt .f32 (((pl_5_1_a0 x).u 0)), .flt .f32 (((pl_5_1_a0 x).u 1)), .flt .f32 (((pl_5_1_a0 x).u 2))], .sint .i64 (0)]

noncomputable def plZ5_1 (l : List AV) : Vars := outV (some (pl_v5_1 (varsOf l), []))

theorem pl_x5_1 (x : Vars) : mkR (plZ5_1 (mkL x 0 (kdsP pl_P0))) [.ag kd1, .sc (.int .i64)] = pl_v5_1 x := by kernel_rfl

noncomputable def pl_5_2_a0 (x : Vars) : Vars := colourR [(.flt .f32 (x.u 0)), (.flt .f32 (x.u 1)), (.flt .f32 (x.u 2)), (.flt .f32 (x.u 3)), (.flt .f32 (x.u 4)), (.flt .f32 (x.u 5)), (.flt .f32 (x.u 6)), (.flt .f32 (x.u 7)), (.flt .f32 (x.u 8)), (.flt .f32 (x.u 9)), (.flt .f32 (x.u 10)), (.flt .f32 (x.u 11)), (.flt .f32 (x.u 12)), (.flt .f32 (x.u 13)), (.flt .f32 (x.u 14)), (.flt .f32 (x.u 15)), (.flt .f32 (x.u 16)), (.flt .f32 (x.u 17)), (.flt .f32 (x.u 18)), (.flt .f32 (x.u 19)), (.flt .f32 (x.u 20)), (.flt .f32 (x.u 21)), (.flt .f32 (x.u 22)), (.flt .f32 (x.u 23)), (.flt .f32 (x.u 47)), (.flt .f32 (x.u 113)), (.flt .f32 (x.u 179))]



noncomputable def pl_v5_2 (x : Vars) : AV := .tup [.agg [.flt .f32 (((pl_5_2_a0 x).u 0)), .flt .f32 (((pl_5_2_a0 x).u 1)), .flt .f32 (((pl_5_2_a0 x).u 2))], .sint .i64 (0)]

noncomputable def plZ5_2 (l : List AV) : Vars := outV (some (pl_v5_2 (varsOf l), []))

theorem pl_x5_2 (x : Vars) : mkR (plZ5_2 (mkL x 0 (kdsP pl_P0))) [.ag kd1, .sc (.int .i64)] = pl_v5_2 x := by kernel_rfl

noncomputable def pl_5_3_a0 (x : Vars) : Vars := colourR [(.flt .f32 (x.u 0)), (.flt .f32 (x.u 1)), (.flt .f32 (x.u 2)), (.flt .f32 (x.u 3)), (.flt .f32 (x.u 4)), (.flt .f32 (x.u 5)), (.flt .f32 (x.u 6)), (.flt .f32 (x.u 7)), (.flt .f32 (x.u 8)), (.flt .f32 (x.u 9)), (.flt .f32 (x.u 10)), (.flt .f32 (x.u 11)), (.flt .f32 (x.u 12)), (.flt .f32 (x.u 13)), (.flt .f32 (x.u 14)), (.flt .f32 (x.u 15)), (.flt .f32 (x.u 16)), (.flt .f32 (x.u 17)), (.flt .f32 (x.u 18)), (.flt .f32 (x.u 19)), (.flt .f32 (x.u 20)), (.flt .f32 (x.u 21)), (.flt .f32 (x.u 22)), (.flt .f32 (x.u 23)), (.flt .f32 (x.u 55)), (.flt .f32 (x.u 121)), (.flt .f32 (x.u 187))]



noncomputable def pl_v5_3 (x : Vars) : AV := .tup [.agg [.flt .f32 (((pl_5_3_a0 x).u 0)), .flt .f32 (((pl_5_3_a0 x).u 1)), .flt .f32 (((pl_5_3_a0 x).u 2))], .sint .i64 (0)]

noncomputable def plZ5_3 (l : List AV) : Vars := outV (some (pl_v5_3 (varsOf l), []))

theorem pl_x5_3 (x : Vars) : mkR (plZ5_3 (mkL x 0 (kdsP pl_P0))) [.ag kd1, .sc (.int .i64)] = pl_v5_3 x := by kernel_rfl

noncomputable def pl_5_4_a0 (x : Vars) : Vars := colourR [(.flt .f32 (x.u 0)), (.flt .f32 (x.u 1)), (.flt .f32 (x.u 2)), (.flt .f32 (x.u 3)), (.flt .f32 (x.u 4)), (.flt .f32 (x.u 5)), (.flt .f32 (x.u 6)), (.flt .f32 (x.u 7)), (.flt .f32 (x.u 8)), (.flt .f32 (x.u 9)), (.flt .f32 (x.u 10)), (.flt .f32 (x.u 11)), (.flt .f32 (x.u 12)), (.flt .f32 (x.u 13)), (.flt .f32 (x.u 14)), (.flt .f32 (x.u 15)), (.flt .f32 (x.u 16)), (.flt .f32 (x.u 17)), (.flt .f32 (x.u 18)), (.flt .f32 (x.u 19)), (.flt .f32 (x.u 20)), (.flt .f32 (x.u 21)), (.flt .f32 (x.u 22)), (.flt .f32 (x.u 23)), (.flt .f32 (x.u 63)), (.flt .f32 (x.u 129)), (.flt .f32 (x.u 195))]



noncomputable def pl_v5_4 (x : Vars) : AV := .tup [.agg [.flt .f32 (((pl_5_4_a0 x).u 0)), .flt .f32 (((pl_5_4_a0 x).u 1)), .flt .f32 (((pl_5_4_a0 x).u 2))], .sint .i64 (0)]

noncomputable def plZ5_4 (l : List AV) : Vars := outV (some (pl_v5_4 (varsOf l), []))

theorem pl_x5_4 (x : Vars) : mkR (plZ5_4 (mkL x 0 (kdsP pl_P0))) [.ag kd1, .sc (.int .i64)] = pl_v5_4 x := by kernel_rfl

noncomputable def pl_5_5_a0 (x : Vars) : Vars := colourR [(.flt .f32 (x.u 0)), (.flt .f32 (x.u 1)), (.flt .f32 (x.u 2)), (.flt .f32 (x.u 3)), (.flt .f32 (x.u 4)), (.flt .f32 (x.u 5)), (.flt .f32 (x.u 6)), (.flt .f32 (x.u 7)), (.flt .f32 (x.u 8)), (.flt .f32 (x.u 9)), (.flt .f32 (x.u 10)), (.flt .f32 (x.u 11)), (.flt .f32 (x.u 12)), (.flt .f32 (x.u 13)), (.flt .f32 (x.u 14)), (.flt .f32 (x.u 15)), (.flt .f32 (x.u 16)), (.flt .f32 (x.u 17)), (.flt .f32 (x.u 18)), (.flt .f32 (x.u 19)), (.flt .f32 (x.u 20)), (.flt .f32 (x.u 21)), (.flt .f32 (x.u 22)), (.flt .f32 (x.u 23)), (.flt .f32 (x.u 71)), (.flt .f32 (x.u 137)), (.flt .f32 (x.u 203))]



noncomputable def pl_v5_5 (x : Vars) : AV := .tup [.agg [.flt .f32 (((pl_5_5_a0 x).u 0)), .flt .f32 (((pl_5_5_a0 x).u 1)), .flt .f32 (((pl_5_5_a0 x).u 2))], .sint .i64 (0)]

noncomputable def plZ5_5 (l : List AV) : Vars := outV (some (pl_v5_5 (varsOf l), []))

theorem pl_x5_5 (x : Vars) : mkR (plZ5_5 (mkL x 0 (kdsP pl_P0))) [.ag kd1, .sc (.int .i64)] = pl_v5_5 x := by kernel_rfl

noncomputable def pl_5_6_a0 (x : Vars) : Vars := colourR [(.flt .f32 (x.u 0)), (.flt .f32 (x.u 1)), (.flt .f32 (x.u 2)), (.flt .f32 (x.u 3)), (.flt .f32 (x.u 4)), (.flt .f32 (x.u 5)), (.flt .f32 (x.u 6)), (.flt .f32 (x.u 7)), (.flt .f32 (x.u 8)), (.flt .f32 (x.u 9)), (.flt .f32 (x.u 10)), (.flt .f32 (x.u 11)), (.flt .f32 (x.u 12)), (.flt .f32 (x.u 13)), (.flt .f32 (x.u 14)), (.flt .f32 (x.u 15)), (.flt .f32 (x.u 16)), (.flt .f32 (x.u 17)), (.flt .f32 (x.u 18)), (.flt .f32 (x.u 19)), (.flt .f32 (x.u 20)), (.flt .f32 (x.u 21)), (.flt .f32 (x.u 22)), (.flt .f32 (x.u 23)), (.flt .f32 (x.u 79)), (.flt .f32 (x.u 145)), (.flt .f32 (x.u 211))]



noncomputable def pl_v5_6 (x : Vars) : AV := .tup [.agg [.flt .f32 (((pl_5_6_a0 x).u 0)), .flt .f32 (((pl_5_6_a0 x).u 1)), .flt .f32 (((pl_5_6_a0 x).u 2))], .sint .i64 (0)]

noncomputable def plZ5_6 (l : List AV) : Vars := outV (some (pl_v5_6 (varsOf l), []))

theorem pl_x5_6 (x : Vars) : mkR (plZ5_6 (mkL x 0 (kdsP pl_P0))) [.ag kd1, .sc (.int .i64)] = pl_v5_6 x := by kernel_rfl

noncomputable def pl_5_7_a0 (x : Vars) : Vars := colourR [(.flt .f32 (x.u 0)), (.flt .f32 (x.u 1)), (.flt .f32 (x.u 2)), (.flt .f32 (x.u 3)), (.flt .f32 (x.u 4)), (.flt .f32 (x.u 5)), (.flt .f32 (x.u 6)), (.flt .f32 (x.u 7)), (.flt .f32 (x.u 8)), (.flt .f32 (x.u 9)), (.flt .f32 (x.u 10)), (.flt .f32 (x.u 11)), (.flt .f32 (x.u 12)), (.flt .f32 (x.u 13)), (.flt .f32 (x.u 14)), (.flt .f32 (x.u 15)), (.flt .f32 (x.u 16)), (.flt .f32 (x.u 17)), (.flt .f32 (x.u 18)), (.flt .f32 (x.u 19)), (.flt .f32 (x.u 20)), (.flt .f32 (x.u 21)), (.flt .f32 (x.u 22)), (.flt .f32 (x.u 23)), (.flt .f32 (x.u 87)), (.flt .f32 (x.u 153)), (.flt .f32 (x.u 219))]



noncomputable def pl_v5_7 (x : Vars) : AV := .tup [.agg [.flt .f32 (((pl_5_7_a0 x).u 0)), .flt .f32 (((pl_5_7_a0 x).u 1)), .flt .f32 (((pl_5_7_a0 x).u 2))], .sint .i64 (0)]

noncomputable def plZ5_7 (l : List AV) : Vars := outV (some (pl_v5_7 (varsOf l), []))

theorem pl_x5_7 (x : Vars) : mkR (plZ5_7 (mkL x 0 (kdsP pl_P0))) [.ag kd1, .sc (.int .i64)] = pl_v5_7 x := by kernel_rfl

noncomputable def pl_6_0_a0 (x : Vars) : Vars := colourR [(.flt .f32 (x.u 0)), (.flt .f32 (x.u 1)), (.flt .f32 (x.u 2)), (.flt .f32 (x.u 3)), (.flt .f32 (x.u 4)), (.flt .f32 (x.u 5)), (.flt .f32 (x.u 6)), (.flt .f32 (x.u 7)), (.flt .f32 (x.u 8)), (.flt .f32 (x.u 9)), (.flt .f32 (x.u 10)), (.flt .f32 (x.u 11)), (.flt .f32 (x.u 12)), (.flt .f32 (x.u 13)), (.flt .f32 (x.u 14)), (.flt .f32 (x.u 15)), (.flt .f32 (x.u 16)), (.flt .f32 (x.u 17)), (.flt .f32 (x.u 18)), (.flt .f32 (x.u 19)), (.flt .f32 (x.u 20)), (.flt .f32 (x.u 21)), (.flt .f32 (x.u 22)), (.flt .f32 (x.u 23)), (.flt .f32 (x.u 32)), (.flt .f32 (x.u 98)), (.flt .f32 (x.u 164))]



noncomputable def pl_v6_0 (x : Vars) : AV := .tup [.agg [.flt .f32 (((pl_6_0_a0 x).u 0)), .flt .f32 (((pl_6_0_a0 x).u 1)), .flt .f32 (((pl_6_0_a0 x).u 2))], .sint .i64 (0)]

noncomputable def plZ6_0 (l : List AV) : Vars := outV (some (pl_v6_0 (varsOf l), []))

theorem pl_x6_0 (x : Vars) : mkR (plZ6_0 (mkL x 0 (kdsP pl_P0))) [.ag kd1, .sc (.int .i64)] = pl_v6_0 x := by kernel_rfl

noncomputable def pl_6_1_a0 (x : Vars) : Vars := colourR [(.flt .f32 (x.u 0)), (.flt .f32 (x.u 1)), (.flt .f32 (x.u 2)), (.flt .f32 (x.u 3)), (.flt .f32 (x.u 4)), (.flt .f32 (x.u 5)), (.flt .f32 (x.u 6)), (.flt .f32 (x.u 7)), (.flt .f32 (x.u 8)), (.flt .f32 (x.u 9)), (.flt .f32 (x.u 10)), (.flt .f32 (x.u 11)), (.flt .f32 (x.u 12)), (.flt .f32 (x.u 13)), (.flt .f32 (x.u 14)), (.flt .f32 (x.u 15)), (.flt .f32 (x.u 16)), (.flt .f32 (x.u 17)), (.flt .f32 (x.u 18)), (.flt .f32 (x.u 19)), (.flt .f32 (x.u 20)), (.flt .f32 (x.u 21)), (.flt .f32 (x.u 22)), (.flt .f32 (x.u 23)), (.flt .f32 (x.u 40)), (.flt .f32 (x.u 106)), (.flt .f32 (x.u 172))]



noncomputable def pl_v6_1 (x : Vars) : AV := .tup [.agg [.flt .f32 (((pl_6_1_a0 x).u 0)), .flt .f32 (((pl_6_1_a0 x).u 1)), .flt .f32 (((pl_6_1_a0 x).u 2))], .sint .i64 (0)]

noncomputable def plZ6_1 (l : List AV) : Vars := outV (some (pl_v6_1 (varsOf l), []))

theorem pl_x6_1 (x : Vars) : mkR (plZ6_1 (mkL x 0 (kdsP pl_P0))) [.ag kd1, .sc (.int .i64)] = pl_v6_1 x := by kernel_rfl

noncomputable def pl_6_2_a0 (x : Vars) : Vars := colourR [(.flt .f32 (x.u 0)), (.flt .f32 (x.u 1)), (.flt .f32 (x.u 2)), (.flt .f32 (x.u 3)), (.flt .f32 (x.u 4)), (.flt .f32 (x.u 5)), (.flt .f32 (x.u 6)), (.flt .f32 (x.u 7)), (.flt .f32 (x.u 8)), (.flt .f32 (x.u 9)), (.flt .f32 (x.u 10)), (.flt .f32 (x.u 11)), (.flt .f32 (x.u 12)), (.flt .f32 (x.u 13)), (.flt .f32 (x.u 14)), (.flt .f32 (x.u 15)), (.flt .f32 (x.u 16)), (.flt .f32 (x.u 17)), (.flt .f32 (x.u 18)), (.flt .f32 (x.u 19)), (.flt .f32 (x.u 20)), (.flt .f32 (x.u 21)), (.flt .f32 (x.u 22)), (.flt .f32 (x.u 23)), (.flt .f32 (x.u 48)), (.flt .f32 (x.u 114)), (.flt .f32 (x.u 180))]



noncomputable def pl_v6_2 (x : Vars) : AV := .tup [.agg [.flt .f32 (((pl_6_2_a0 x).u 0)), .flt .f32 (((pl_6_2_a0 x).u 1)), .flt .f32 (((pl_6_2_a0 x).u 2))], .sint .i64 (0)]

noncomputable def plZ6_2 (l : List AV) : Vars := outV (some (pl_v6_2 (varsOf l), []))

theorem pl_x6_2 (x : Vars) : mkR (plZ6_2 (mkL x 0 (kdsP pl_P0))) [.ag kd1, .sc (.int .i64)] = pl_v6_2 x := by kernel_rfl

noncomputable def pl_6_3_a0 (x : Vars) : Vars := colourR [(.flt .f32 (x.u 0)), (.flt .f32 (x.u 1)), (.flt .f32 (x.u 2)), (.flt .f32 (x.u 3)), (.flt .f32 (x.u 4)), (.flt .f32 (x.u 5)), (.flt .f32 (x.u 6)), (.flt .f32 (x.u 7)), (.flt .f32 (x.u 8)), (.flt .f32 (x.u 9)), (.flt .f32 (x.u 10)), (.flt .f32 (x.u 11)), (.flt .f32 (x.u 12)), (.flt .f32 (x.u 13)), (.flt .f32 (x.u 14)), (.flt .f32 (x.u 15)), (.flt .f32 (x.u 16)), (.flt .f32 (x.u 17)), (.flt .f32 (x.u 18)), (.flt .f32 (x.u 19)), (.flt .f32 (x.u 20)), (.flt .f32 (x.u 21)), (.flt .f32 (x.u 22)), (.flt .f32 (x.u 23)), (.flt .f32 (x.u 56)), (.flt .f32 (x.u 122)), (.flt .f32 (x.u 188))]



noncomputable def pl_v6_3 (x : Vars) : AV := .tup [.agg [.flt .f32 (((pl_6_3_a0 x).u 0)), .flt .f32 (((pl_6_3_a0 x).u 1)), .flt .f32 (((pl_6_3_a0 x).u 2))], .sint .i64 (0)]

noncomputable def plZ6_3 (l : List AV) : Vars := outV (some (pl_v6_3 (varsOf l), []))

theorem pl_x6_3 (x : Vars) : mkR (plZ6_3 (mkL x 0 (kdsP pl_P0))) [.ag kd1, .sc (.int .i64)] = pl_v6_3 x := by kernel_rfl

noncomputable def pl_6_4_a0 (x : Vars) : Vars := colourR [(.flt .f32 (x.u 0)), (.flt .f32 (x.u 1)), (.flt .f32 (x.u 2)), (.flt .f32 (x.u 3)), (.flt .f32 (x.u 4)), (.flt .f32 (x.u 5)), (.flt .f32 (x.u 6)), (.flt .f32 (x.u 7)), (.flt .f32 (x.u 8)), (.flt .f32 (x.u 9)), (.flt .f32 (x.u 10)), (.flt .f32 (x.u 11)), (.flt .f32 (x.u 12)), (.flt .f32 (x.u 13)), (.flt .f32 (x.u 14)), (.flt .f32 (x.u 15)), (.flt .f32 (x.u 16)), (.flt .f32 (x.u 17)), (.flt .f32 (x.u 18)), (.flt .f32 (x.u 19)), (.flt .f32 (x.u 20)), (.flt .f32 (x.u 21)), (.flt .f32 (x.u 22)), (.flt .f32 (x.u 23)), (.flt .f32 (x.u 64)), (.flt .f32 (x.u 130)), (.flt .f32 (x.u 196))]



noncomputable def pl_v6_4 (x : Vars) : AV := .tup [.agg [.flt .f32 (((pl_6_4_a0 x).u 0)), .flt .f32 (((pl_6_4_a0 x).u 1)), .flt .f32 (((pl_6_4_a0 x).u 2))], .sint .i64 (0)]

noncomputable def plZ6_4 (l : List AV) : Vars := outV (some (pl_v6_4 (varsOf l), []))

theorem pl_x6_4 (x : Vars) : mkR (plZ6_4 (mkL x 0 (kdsP pl_P0))) [.ag kd1, .sc (.int .i64)] = pl_v6_4 x := by kernel_rfl

noncomputable def pl_6_5_a0 (x : Vars) : Vars := colourR [(.flt .f32 (x.u 0)), (.flt .f32 (x.u 1)), (.flt .f32 (x.u 2)), (.flt .f32 (x.u 3)), (.flt .f32 (x.u 4)), (.flt .f32 (x.u 5)), (.flt .f32 (x.u 6)), (.flt .f32 (x.u 7)), (.flt .f32 (x.u 8)), (.flt .f32 (x.u 9)), (.flt .f32 (x.u 10)), (.flt .f32 (x.u 11)), (.flt .f32 (x.u 12)), (.flt .f32 (x.u 13)), (.flt .f32 (x.u 14)), (.flt .f32 (x.u 15)), (.flt .f32 (x.u 16)), (.flt .f32 (x.u 17)), (.flt .f32 (x.u 18)), (.flt .f32 (x.u 19)), (.flt .f32 (x.u 20)), (.flt .f32 (x.u 21)), (.flt .f32 (x.u 22)), (.flt .f32 (x.u 23)), (.flt .f32 (x.u 72)), (.flt .f32 (x.u 138)), (.flt .f32 (x.u 204))]



noncomputable def pl_v6_5 (x : Vars) : AV := .tup [.agg [.flt .f32 (((pl_6_5_a0 x).u 0)), .flt .f32 (((pl_6_5_a0 x).u 1)), .flt .f32 (((pl_6_5_a0 x).u 2))], .sint .i64 (0)]

noncomputable def plZ6_5 (l : List AV) : Vars := outV (some (pl_v6_5 (varsOf l), []))

theorem pl_x6_5 (x : Vars) : mkR (plZ6_5 (mkL x 0 (kdsP pl_P0))) [.ag kd1, .sc (.int .i64)] = pl_v6_5 x := by kernel_rfl

noncomputable def pl_6_6_a0 (x : Vars) : Vars := colourR [(.flt .f32 (x.u 0)), (.flt .f32 (x.u 1)), (.flt .f32 (x.u 2)), (.flt .f32 (x.u 3)), (.flt .f32 (x.u 4)), (.flt .f32 (x.u 5)), (.flt .f32 (x.u 6)), (.flt .f32 (x.u 7)), (.flt .f32 (x.u 8)), (.flt .f32 (x.u 9)), (.flt .f32 (x.u 10)), (.flt .f32 (x.u 11)), (.flt .f32 (x.u 12)), (.flt .f32 (x.u 13)), (.flt .f32 (x.u 14)), (.flt .f32 (x.u 15)), (.flt .f32 (x.u 16)), (.flt .f32 (x.u 17)), (.flt .f32 (x.u 18)), (.flt .f32 (x.u 19)), (.flt .f32 (x.u 20)), (.flt .f32 (x.u 21)), (.flt .f32 (x.u 22)), (.flt .f32 (x.u 23)), (.flt .f32 (x.u 80)), (.flt .f32 (x.u 146)), (.flt .f32 (x.u 212))]



noncomputable def pl_v6_6 (x : Vars) : AV := .tup [.agg [.flt .f32 (((pl_6_6_a0 x).u 0)), .flt .f32 (((pl_6_6_a0 x).u 1)), .flt .f32 (((pl_6_6_a0 x).u 2))], .sint .i64 (0)]

noncomputable def plZ6_6 (l : List AV) : Vars := outV (some (pl_v6_6 (varsOf l), []))

theorem pl_x6_6 (x : Vars) : mkR (plZ6_6 (mkL x 0 (kdsP pl_P0))) [.ag kd1, .sc (.int .i64)] = pl_v6_6 x := by kernel_rfl

noncomputable def pl_6_7_a0 (x : Vars) : Vars := colourR [(.flt .f32 (x.u 0)), (.flt .f32 (x.u 1)), (.flt .f32 (x.u 2)), (.flt .f32 (x.u 3)), (.flt .f32 (x.u 4)), (.flt .f32 (x.u 5)), (.flt .f32 (x.u 6)), (.flt .f32 (x.u 7)), (.flt .f32 (x.u 8)), (.flt .f32 (x.u 9)), (.flt .f32 (x.u 10)), (.flt .f32 (x.u 11)), (.flt .f32 (x.u 12)), (.flt .f32 (x.u 13)), (.flt .f32 (x.u 14)), (.flt .f32 (x.u 15)), (.flt .f32 (x.u 16)), (.flt .f32 (x.u 17)), (.flt .f32 (x.u 18)), (.flt .f32 (x.u 19)), (.flt .f32 (x.u 20)), (.flt .f32 (x.u 21)), (.flt .f32 (x.u 22)), (.flt .f32 (x.u 23)), (.flt .f32 (x.u 88)), (.flt .f32 (x.u 154)), (.flt .f32 (x.u 220))]



noncomputable def pl_v6_7 (x : Vars) : AV := .tup [.agg [.flt .f32 (((pl_6_7_a0 x).u 0)), .flt .f32 (((pl_6_7_a0 x).u 1)), .flt .f32 (((pl_6_7_a0 x).u 2))], .sint .i64 (0)]

noncomputable def plZ6_7 (l : List AV) : Vars := outV (some (pl_v6_7 (varsOf l), []))

theorem pl_x6_7 (x : Vars) : mkR (plZ6_7 (mkL x 0 (kdsP pl_P0))) [.ag kd1, .sc (.int .i64)] = pl_v6_7 x := by kernel_rfl

noncomputable def pl_7_0_a0 (x : Vars) : Vars := colourR [(.flt .f32 (x.u 0)), (.flt .f32 (x.u 1)), (.flt .f32 (x.u 2)), (.flt .f32 (x.u 3)), (.flt .f32 (x.u 4)), (.flt .f32 (x.u 5)), (.flt .f32 (x.u 6)), (.flt .f32 (x.u 7)), (.flt .f32 (x.u 8)), (.flt .f32 (x.u 9)), (.flt .f32 (x.u 10)), (.flt .f32 (x.u 11)), (.flt .f32 (x.u 12)), (.flt .f32 (x.u 13)), (.flt .f32 (x.u 14)), (.flt .f32 (x.u 15)), (.flt .f32 (x.u 16)), (.flt .f32 (x.u 17)), (.flt .f32 (x.u 18)), (.flt .f32 (x.u 19)), (.flt .f32 (x.u 20)), (.flt .f32 (x.u 21)), (.flt .f32 (x.u 22)), (.flt .f32 (x.u 23)), (.flt .f32 (x.u 33)), (.flt .f32 (x.u 99)), (.flt .f32 (x.u 165))]



noncomputable def pl_v7_0 (x : Vars) : AV := .tup [.agg [.flt .f32 (((pl_7_0_a0 x).u 0)), .flt .f32 (((pl_7_0_a0 x).u 1)), .flt .f32 (((pl_7_0_a0 x).u 2))], .sint .i64 (0)]

noncomputable def plZ7_0 (l : List AV) : Vars := outV (some (pl_v7_0 (varsOf l), []))

theorem pl_x7_0 (x : Vars) : mkR (plZ7_0 (mkL x 0 (kdsP pl_P0))) [.ag kd1, .sc (.int .i64)] = pl_v7_0 x := by kernel_rfl

noncomputable def pl_7_1_a0 (x : Vars) : Vars := colourR [(.flt .f32 (x.u 0)), (.flt .f32 (x.u 1)), (.flt .f32 (x.u 2)), (.flt .f32 (x.u 3)), (.flt .f32 (x.u 4)), (.flt .f32 (x.u 5)), (.flt .f32 (x.u 6)), (.flt .f32 (x.u 7)), (.flt .f32 (x.u 8)), (.flt .f32 (x.u 9)), (.flt .f32 (x.u 10)), (.flt .f32 (x.u 11)), (.flt .f32 (x.u 12)), (.flt .f32 (x.u 13)), (.flt .f32 (x.u 14)), (.flt .f32 (x.u 15)), (.flt .f32 (x.u 16)), (.flt .f32 (x.u 17)), (.flt .f32 (x.u 18)), (.flt .f32 (x.u 19)), (.flt .f32 (x.u 20)), (.flt .f32 (x.u 21)), (.flt .f32 (x.u 22)), (.flt .f32 (x.u 23)), (.flt .f32 (x.u 41)), (.flt .f32 (x.u 107)), (.flt .f32 (x.u 173))]



noncomputable def pl_v7_1 (x : Vars) : AV := .tup [.agg [.flt .f32 (((pl_7_1_a0 x).u 0)), .flt .f32 (((pl_7_1_a0 x).u 1)), .flt .f32 (((pl_7_1_a0 x).u 2))], .sint .i64 (0)]

noncomputable def plZ7_1 (l : List AV) : Vars := outV (some (pl_v7_1 (varsOf l), []))

theorem pl_x7_1 (x : Vars) : mkR (plZ7_1 (mkL x 0 (kdsP pl_P0))) [.ag kd1, .sc (.int .i64)] = pl_v7_1 x := by kernel_rfl

noncomputable def pl_7_2_a0 (x : Vars) : Vars := colourR [(.flt .f32 (x.u 0)), (.flt .f32 (x.u 1)), (.flt .f32 (x.u 2)), (.flt .f32 (x.u 3)), (.flt .f32 (x.u 4)), (.flt .f32 (x.u 5)), (.flt .f32 (x.u 6)), (.flt .f32 (x.u 7)), (.flt .f32 (x.u 8)), (.flt .f32 (x.u 9)), (.flt .f32 (x.u 10)), (.flt .f32 (x.u 11)), (.flt .f32 (x.u 12)), (.flt .f32 (x.u 13)), (.flt .f32 (x.u 14)), (.flt .f32 (x.u 15)), (.flt .f32 (x.u 16)), (.flt .f32 (x.u 17)), (.flt .f32 (x.u 18)), (.flt .f32 (x.u 19)), (.flt .f32 (x.u 20)), (.flt .f32 (x.u 21)), (.flt .f32 (x.u 22)), (.flt .f32 (x.u 23)), (.flt .f32 (x.u 49)), (.flt .f32 (x.u 115)), (.flt .f32 (x.u 181))]



noncomputable def pl_v7_2 (x : Vars) : AV := .tup [.agg [.flt .f32 (((pl_7_2_a0 x).u 0)), .flt .f32 (((pl_7_2_a0 x).u 1)), .flt .f32 (((pl_7_2_a0 x).u 2))], .sint .i64 (0)]

noncomputable def plZ7_2 (l : List AV) : Vars := outV (some (pl_v7_2 (varsOf l), []))

theorem pl_x7_2 (x : Vars) : mkR (plZ7_2 (mkL x 0 (kdsP pl_P0))) [.ag kd1, .sc (.int .i64)] = pl_v7_2 x := by kernel_rfl

noncomputable def pl_7_3_a0 (x : Vars) : Vars := colourR [(.flt .f32 (x.u 0)), (.flt .f32 (x.u 1)), (.flt .f32 (x.u 2)), (.flt .f32 (x.u 3)), (.flt .f32 (x.u 4)), (.flt .f32 (x.u 5)), (.flt .f32 (x.u 6)), (.flt .f32 (x.u 7)), (.flt .f32 (x.u 8)), (.flt .f32 (x.u 9)), (.flt .f32 (x.u 10)), (.flt .f32 (x.u 11)), (.flt .f32 (x.u 12)), (.flt .f32 (x.u 13)), (.flt .f32 (x.u 14)), (.flt .f32 (x.u 15)), (.flt .f32 (x.u 16)), (.flt .f32 (x.u 17)), (.flt .f32 (x.u 18)), (.flt .f32 (x.u 19)), (.flt .f32 (x.u 20)), (.flt .f32 (x.u 21)), (.flt .f32 (x.u 22)), (.flt .f32 (x.u 23)), (.flt .f32 (x.u 57)), (.flt .f32 (x.u 123)), (.flt .f32 (x.u 189))]



noncomputable def pl_v7_3 (x : Vars) : AV := .tup [.agg [.flt .f32 (((pl_7_3_a0 x).u 0)), .flt .f32 (((pl_7_3_a0 x).u 1)), .flt .f32 (((pl_7_3_a0 x).u 2))], .sint .i64 (0)]

noncomputable def plZ7_3 (l : List AV) : Vars := outV (some (pl_v7_3 (varsOf l), []))

theorem pl_x7_3 (x : Vars) : mkR (plZ7_3 (mkL x 0 (kdsP pl_P0))) [.ag kd1, .sc (.int .i64)] = pl_v7_3 x := by kernel_rfl

noncomputable def pl_7_4_a0 (x : Vars) : Vars := colourR [(.flt .f32 (x.u 0)), (.flt .f32 (x.u 1)), (.flt .f32 (x.u 2)), (.flt .f32 (x.u 3)), (.flt .f32 (x.u 4)), (.flt .f32 (x.u 5)), (.flt .f32 (x.u 6)), (.flt .f32 (x.u 7)), (.flt .f32 (x.u 8)), (.flt .f32 (x.u 9)), (.flt .f32 (x.u 10)), (.flt .f32 (x.u 11)), (.flt .f32 (x.u 12)), (.flt .f32 (x.u 13)), (.flt .f32 (x.u 14)), (.flt .f32 (x.u 15)), (.flt .f32 (x.u 16)), (.flt .f32 (x.u 17)), (.flt .f32 (x.u 18)), (.flt .f32 (x.u 19)), (.flt .f32 (x.u 20)), (.flt .f32 (x.u 21)), (.flt .f32 (x.u 22)), (.flt .f32 (x.u 23)), (.flt .f32 (x.u 65)), (.flt .f32 (x.u 131)), (.flt .f32 (x.u 197))]



noncomputable def pl_v7_4 (x : Vars) : AV := .tup [.agg [.flt .f32 (((pl_7_4_a0 x).u 0)), .flt .f32 (((pl_7_4_a0 x).u 1)), .flt .f32 (((pl_7_4_a0 x).u 2))], .sint .i64 (0)]

noncomputable def plZ7_4 (l : List AV) : Vars := outV (some (pl_v7_4 (varsOf l), []))

theorem pl_x7_4 (x : Vars) : mkR (plZ7_4 (mkL x 0 (kdsP pl_P0))) [.ag kd1, .sc (.int .i64)] = pl_v7_4 x := by kernel_rfl

noncomputable def pl_7_5_a0 (x : Vars) : Vars := colourR [(.flt .f32 (x.u 0)), (.flt .f32 (x.u 1)), (.flt .f32 (x.u 2)), (.flt .f32 (x.u 3)), (.flt .f32 (x.u 4)), (.flt .f32 (x.u 5)), (.flt .f32 (x.u 6)), (.flt .f32 (x.u 7)), (.flt .f32 (x.u 8)), (.flt .f32 (x.u 9)), (.flt .f32 (x.u 10)), (.flt .f32 (x.u 11)), (.flt .f32 (x.u 12)), (.flt .f32 (x.u 13)), (.flt .f32 (x.u 14)), (.flt .f32 (x.u 15)), (.flt .f32 (x.u 16)), (.flt .f32 (x.u 17)), (.flt .f32 (x.u 18)), (.flt .f32 (x.u 19)), (.flt .f32 (x.u 20)), (.flt .f32 (x.u 21)), (.flt .f32 (x.u 22)), (.flt .f32 (x.u 23)), (.flt .f32 (x.u 73)), (.flt .f32 (x.u 139)), (.flt .f32 (x.u 205))]



noncomputable def pl_v7_5 (x : Vars) : AV := .tup [.agg [.flt .f32 (((pl_7_5_a0 x).u 0)), .flt .f32 (((pl_7_5_a0 x).u 1)), .flt .f32 (((pl_7_5_a0 x).u 2))], .sint .i64 (0)]

noncomputable def plZ7_5 (l : List AV) : Vars := outV (some (pl_v7_5 (varsOf l), []))

theorem pl_x7_5 (x : Vars) : mkR (plZ7_5 (mkL x 0 (kdsP pl_P0))) [.ag kd1, .sc (.int .i64)] = pl_v7_5 x := by kernel_rfl

noncomputable def pl_7_6_a0 (x : Vars) : Vars := colourR [(.flt .f32 (x.u 0)), (.flt .f32 (x.u 1)), (.flt .f32 (x.u 2)), (.flt .f32 (x.u 3)), (.flt .f32 (x.u 4)), (.flt .f32 (x.u 5)), (.flt .f32 (x.u 6)), (.flt .f32 (x.u 7)), (.flt .f32 (x.u 8)), (.flt .f32 (x.u 9)), (.flt .f32 (x.u 10)), (.flt .f32 (x.u 11)), (.flt .f32 (x.u 12)), (.flt .f32 (x.u 13)), (.flt .f32 (x.u 14)), (.flt .f32 (x.u 15)), (.flt .f32 (x.u 16)), (.flt .f32 (x.u 17)), (.flt .f32 (x.u 18)), (.flt .f32 (x.u 19)), (.flt .f32 (x.u 20)), (.flt .f32 (x.u 21)), (.flt .f32 (x.u 22)), (.flt .f32 (x.u 23)), (.flt .f32 (x.u 81)), (.flt .f32 (x.u 147)), (.flt .f32 (x.u 213))]



noncomputable def pl_v7_6 (x : Vars) : AV := .tup [.agg [.flt .f32 (((pl_7_6_a0 x).u 0)), .flt .f32 (((pl_7_6_a0 x).u 1)), .flt .f32 (((pl_7_6_a0 x).u 2))], .sint .i64 (0)]

noncomputable def plZ7_6 (l : List AV) : Vars := outV (some (pl_v7_6 (varsOf l), []))

theorem pl_x7_6 (x : Vars) : mkR (plZ7_6 (mkL x 0 (kdsP pl_P0))) [.ag kd1, .sc (.int .i64)] = pl_v7_6 x := by kernel_rfl

noncomputable def pl_7_7_a0 (x : Vars) : Vars := colourR [(.flt .f32 (x.u 0)), (.flt .f32 (x.u 1)), (.flt .f32 (x.u 2)), (.flt .f32 (x.u 3)), (.flt .f32 (x.u 4)), (.flt .f32 (x.u 5)), (.flt .f32 (x.u 6)), (.flt .f32 (x.u 7)), (.flt .f32 (x.u 8)), (.flt .f32 (x.u 9)), (.flt .f32 (x.u 10)), (.flt .f32 (x.u 11)), (.flt .f32 (x.u 12)), (.flt .f32 (x.u 13)), (.flt .f32 (x.u 14)), (.flt .f32 (x.u 15)), (.flt .f32 (x.u 16)), (.flt .f32 (x.u 17)), (.flt .f32 (x.u 18)), (.flt .f32 (x.u 19)), (.flt .f32 (x.u 20)), (.flt .f32 (x.u 21)), (.flt .f32 (x.u 22)), (.flt .f32 (x.u 23)), (.flt .f32 (x.u 89)), (.flt .f32 (x.u 155)), (.flt .f32 (x.u 221))]



noncomputable def pl_v7_7 (x : Vars) : AV := .tup [.agg [.flt .f32 (((pl_7_7_a0 x).u 0)), .flt .f32 (((pl_7_7_a0 x).u 1)), .flt .f32 (((pl_7_7_a0 x).u 2))], .sint .i64 (0)]

noncomputable def plZ7_7 (l : List AV) : Vars := outV (some (pl_v7_7 (varsOf l), []))

theorem pl_x7_7 (x : Vars) : mkR (plZ7_7 (mkL x 0 (kdsP pl_P0))) [.ag kd1, .sc (.int .i64)] = pl_v7_7 x := by kernel_rfl

noncomputable def plR0 (l : List AV) : Vars := bif plB0 l then plZE0 l else (bif plB1 l then plZE1 l else (bif decide (intOf (leafN l 222) = 0) then (bif decide (intOf (leafN l 223) = 0) then (plZ0_0 l) else (bif decide (intOf (leafN l 223) = 1) then (plZ0_1 l) else (bif decide (intOf (leafN l 223) = 2) then (plZ0_2 l) else (bif decide (intOf (leafN l 223) = 3) then (plZ0_3 l) else (bif decide (intOf (leafN l 223) = 4) then (plZ0_4 l) else (bif decide (intOf (leafN l 223) = 5) then (plZ0_5 l) else (bif decide (intOf (leafN l 223) = 6) then (plZ0_6 l) else (plZ0_7 l)))))))) else (bif decide (intOf (leafN l 222) = 1) then (bif decide (intOf (leafN l 223) = 0) then (plZ1_0 l) else (bif decide (intOf (leafN l 223) = 1) then (plZ1_1 l) else (bif decide (intOf (leafN l 223) = 2) then (plZ1_2 l) else (bif decide (intOf (leafN l 223) = 3) then (plZ1_3 l) else (bif decide (intOf (leafN l 223) = 4) then (plZ1_4 l) else (bif decide (intOf (leafN l 223) = 5) then (plZ1_5 l) else (bif decide (intOf (leafN l 223) = 6) then (plZ1_6 l) else (plZ1_7 l)))))))) else (bif decide (intOf (leafN l 222) = 2) then (bif decide (intOf (leafN l 223) = 0) then (plZ2_0 l) else (bif decide (intOf (leafN l 223) = 1) then (plZ2_1 l) else (bif decide (intOf (leafN l 223) = 2) then (plZ2_2 l) else (bif decide (intOf (leafN l 223) = 3) then (plZ2_3 l) else (bif decide (intOf (leafN l 223) = 4) then (plZ2_4 l) else (bif decide (intOf (leafN l 223) = 5) then (plZ2_5 l) else (bif decide (intOf (leafN l 223) = 6) then (plZ2_6 l) else (plZ2_7 l)))))))) else (bif decide (intOf (leafN l 222) = 3) then (bif decide (intOf (leafN l 223) = 0) then (plZ3_0 l) else (bif decide (intOf (leafN l 223) = 1) then (plZ3_1 l) else (bif decide (intOf (leafN l 223) = 2) then (plZ3_2 l) else (bif decide (intOf (leafN l 223) = 3) then (plZ3_3 l) else (bif decide (intOf (leafN l 223) = 4) then (plZ3_4 l) else (bif decide (intOf (leafN l 223) = 5) then (plZ3_5 l) else (bif decide (intOf (leafN l 223) = 6) then (plZ3_6 l) else (plZ3_7 l)))))))) else (bif decide (intOf (leafN l 222) = 4) then (bif decide (intOf (leafN l 223) = 0) then (plZ4_0 l) else (bif decide (intOf (leafN l 223) = 1) then (plZ4_1 l) else (bif decide (intOf (leafN l 223) = 2) then (plZ4_2 l) else (bif decide (intOf (leafN l 223) = 3) then (plZ4_3 l) else (bif decide (intOf (leafN l 223) = 4) then (plZ4_4 l) else (bif decide (intOf (leafN l 223) = 5) then (plZ4_5 l) else (bif decide (intOf (leafN l 223) = 6) then (plZ4_6 l) else (plZ4_7 l)))))))) else (bif decide (intOf (leafN l 222) = 5) then (bif decide (intOf (leafN l 223) = 0) then (plZ5_0 l) else (bif decide (intOf (leafN l 223) = 1) then (plZ5_1 l) else (bif decide (intOf (leafN l 223) = 2) then (plZ5_2 l) else (bif decide (intOf (leafN l 223) = 3) then (plZ5_3 l) else (bif decide (intOf (leafN l 223) = 4) then (plZ5_4 l) else (bif decide (intOf (leafN l 223) = 5) then (plZ5_5 l) else (bif decide (intOf (leafN l 223) = 6) then (plZ5_6 l) else (plZ5_7 l)))))))) else (bif decide (intOf (leafN l 222) = 6) then (bif decide (intOf (leafN l 223) = 0) then (plZ6_0 l) else (bif decide (intOf (leafN l 223) = 1) then (plZ6_1 l) else (bif decide (intOf (leafN l 223) = 2) then (plZ6_2 l) else (bif decide (intOf (leafN l 223) = 3) then (plZ6_3 l) else (bif decide (intOf (leafN l 223) = 4) then (plZ6_4 l) else (bif decide (intOf (leafN l 223) = 5) then (plZ6_5 l) else (bif decide (intOf (leafN l 223) = 6) then (plZ6_6 l) else (plZ6_7 l)))))))) else (bif decide (intOf (leafN l 223) = 0) then (plZ7_0 l) else (bif decide (intOf (leafN l 223) = 1) then (plZ7_1 l) else (bif decide (intOf (leafN l 223) = 2) then (plZ7_2 l) else (bif decide (intOf (leafN l 223) = 3) then (plZ7_3 l) else (bif decide (intOf (leafN l 223) = 4) then (plZ7_4 l) else (bif decide (intOf (leafN l 223) = 5) then (plZ7_5 l) else (bif decide (intOf (leafN l 223) = 6) then (plZ7_6 l) else (plZ7_7 l))))))))))))))))

noncomputable def plR : List AV → Vars := Classical.choose (⟨plR0, rfl⟩ : ∃ f, f = plR0)

theorem plR_eq : plR = plR0 := Classical.choose_spec (⟨plR0, rfl⟩ : ∃ f, f = plR0)


noncomputable def pl_cs28_E0 (x : Vars) : List Bool := [(!(decide (((pl_E0_a0 x).i 0) = 0))), (!((decide (((pl_E0_a0 x).i 0) = 0)) && ((!((decide (0 ≤ (x.i 222))) && (decide ((x.i 222) ≤ (isub (x.i 24) 1))))) || (!((decide (0 ≤ (x.i 223))) && (decide ((x.i 223) ≤ (isub (x.i 25) 1)))))))), ((decide ((-(9223372036854775807 + 1)) ≤ (isub (x.i 25) 1))) && (decide ((isub (x.i 25) 1) ≤ 9223372036854775807))), ((decide ((-(9223372036854775807 + 1)) ≤ (isub (x.i 24) 1))) && (decide ((isub (x.i 24) 1) ≤ 9223372036854775807)))]

set_option maxRecDepth 100000 in
theorem pl_c28_E0 (x : Vars) (ho : OkV (kdsP pl_P0) x) (h0 : plB0 (mkL x 0 (kdsP pl_P0)) = true) : ∀ b ∈ pl_cs28_E0 x, b = true := by
  have w24 := Bool.and_eq_true_iff.1 (ho 24 _ rfl)
  have w25 := Bool.and_eq_true_iff.1 (ho 25 _ rfl)
  have w1 : (-128 : Int) ≤ x.i 24 := of_decide_eq_true w24.1
  have w2 : x.i 24 ≤ 127 := of_decide_eq_true w24.2
  have w3 : (-128 : Int) ≤ x.i 25 := of_decide_eq_true w25.1
  have w4 : x.i 25 ≤ 127 := of_decide_eq_true w25.2
  unfold pl_cs28_E0
  exact (allC (notT (notBT ((show (_ : Bool) = plB0 (mkL x 0 (kdsP pl_P0)) from by kernel_rfl).trans h0))) (allC (notT (andFl (notBT ((show (_ : Bool) = plB0 (mkL x 0 (kdsP pl_P0)) from by kernel_rfl).trans h0)))) (allC (andT (decide_eq_true (by first | omega | (unfold isub; omega))) (decide_eq_true (by first | omega | (unfold isub; omega)))) (allC (andT (decide_eq_true (by first | omega | (unfold isub; omega))) (decide_eq_true (by first | omega | (unfold isub; omega)))) allN))))

theorem pl_f28_E0 (x : Vars) : (funH Try.prog G26 noLT true 1000 28 (argsP pl_P0 0 (mkL x 0 (kdsP pl_P0))) (memP pl_P0 (mkL x 0 (kdsP pl_P0))) [false, true]).map (fun r => (normR r.1, untupR r.1 && r.1.flat, r.2)) = some (pl_vE0 x, true, pl_cs28_E0 x) := by kernel_rfl


noncomputable def pl_cs28_E1 (x : Vars) : List Bool := [((decide (((pl_E0_a0 x).i 0) = 0)) && ((!((decide (0 ≤ (x.i 222))) && (decide ((x.i 222) ≤ (isub (x.i 24) 1))))) || (!((decide (0 ≤ (x.i 223))) && (decide ((x.i 223) ≤ (isub (x.i 25) 1))))))), ((decide ((-(9223372036854775807 + 1)) ≤ (isub (x.i 25) 1))) && (decide ((isub (x.i 25) 1) ≤ 9223372036854775807))), ((decide ((-(9223372036854775807 + 1)) ≤ (isub (x.i 24) 1))) && (decide ((isub (x.i 24) 1) ≤ 9223372036854775807)))]

set_option maxRecDepth 100000 in
theorem pl_c28_E1 (x : Vars) (ho : OkV (kdsP pl_P0) x) (h0 : plB0 (mkL x 0 (kdsP pl_P0)) = false) (h1 : plB1 (mkL x 0 (kdsP pl_P0)) = true) : ∀ b ∈ pl_cs28_E1 x, b = true := by
  have w24 := Bool.and_eq_true_iff.1 (ho 24 _ rfl)
  have w25 := Bool.and_eq_true_iff.1 (ho 25 _ rfl)
  have w1 : (-128 : Int) ≤ x.i 24 := of_decide_eq_true w24.1
  have w2 : x.i 24 ≤ 127 := of_decide_eq_true w24.2
  have w3 : (-128 : Int) ≤ x.i 25 := of_decide_eq_true w25.1
  have w4 : x.i 25 ≤ 127 := of_decide_eq_true w25.2
  unfold pl_cs28_E1
  exact (allC (andT (notBF ((show (_ : Bool) = plB0 (mkL x 0 (kdsP pl_P0)) from by kernel_rfl).trans h0)) (plOut x h1)) (allC (andT (decide_eq_true (by first | omega | (unfold isub; omega))) (decide_eq_true (by first | omega | (unfold isub; omega)))) (allC (andT (decide_eq_true (by first | omega | (unfold isub; omega))) (decide_eq_true (by first | omega | (unfold isub; omega)))) allN)))

theorem pl_f28_E1 (x : Vars) : (funH Try.prog G26 noLT true 1000 28 (argsP pl_P0 0 (mkL x 0 (kdsP pl_P0))) (memP pl_P0 (mkL x 0 (kdsP pl_P0))) [true]).map (fun r => (normR r.1, untupR r.1 && r.1.flat, r.2)) = some (pl_vE1 x, true, pl_cs28_E1 x) := by kernel_rfl


noncomputable def pl_cs28_0_0 (x : Vars) : List Bool := [(!(!(decide (((pl_E0_a0 x).i 0) = 0)))), (!((decide (((pl_E0_a0 x).i 0) = 0)) && ((!(decide (0 ≤ (isub (x.i 24) 1)))) || (!(decide (0 ≤ (isub (x.i 25) 1))))))), ((decide ((-(9223372036854775807 + 1)) ≤ (isub (x.i 25) 1))) && (decide ((isub (x.i 25) 1) ≤ 9223372036854775807))), ((decide ((-(9223372036854775807 + 1)) ≤ (isub (x.i 24) 1))) && (decide ((isub (x.i 24) 1) ≤ 9223372036854775807)))]

set_option maxRecDepth 100000 in
theorem pl_c28_0_0 (x : Vars) (ho : OkV (kdsP pl_P0) x) (h0 : plB0 (mkL x 0 (kdsP pl_P0)) = false) (h1 : plB1 (mkL x 0 (kdsP pl_P0)) = false) (hz : x.i 222 = 0) (hz2 : x.i 223 = 0) : ∀ b ∈ pl_cs28_0_0 x, b = true := by
  have w24 := Bool.and_eq_true_iff.1 (ho 24 _ rfl)
  have w25 := Bool.and_eq_true_iff.1 (ho 25 _ rfl)
  have w1 : (-128 : Int) ≤ x.i 24 := of_decide_eq_true w24.1
  have w2 : x.i 24 ≤ 127 := of_decide_eq_true w24.2
  have w3 : (-128 : Int) ≤ x.i 25 := of_decide_eq_true w25.1
  have w4 : x.i 25 ≤ 127 := of_decide_eq_true w25.2
  have b := plIn x h1
  unfold pl_cs28_0_0
  exact (allC (notT (notF (notBF ((show (_ : Bool) = plB0 (normL (litL (litL (mkL x 0 (kdsP pl_P0)) 222 0) 223 0)) from by kernel_rfl).trans ((congrArg plB0 (litL_mk2 (litL_mk hz) hz2)).trans h0))))) (allC (notT (andFr (orF (notF (decide_eq_true (by first | omega | (unfold isub; omega)))) (notF (decide_eq_true (by first | omega | (unfold isub; omega))))))) (allC (andT (decide_eq_true (by first | omega | (unfold isub; omega))) (decide_eq_true (by first | omega | (unfold isub; omega)))) (allC (andT (decide_eq_true (by first | omega | (unfold isub; omega))) (decide_eq_true (by first | omega | (unfold isub; omega)))) allN))))

theorem pl_f28_0_0 (x : Vars) : (funH Try.prog G26 noLT true 1000 28 (argsP pl_P0 0 (litL (litL (mkL x 0 (kdsP pl_P0)) 222 0) 223 0)) (memP pl_P0 (litL (litL (mkL x 0 (kdsP pl_P0)) 222 0) 223 0)) [false, false]).map (fun r => (normR r.1, untupR r.1 && r.1.flat, r.2)) = some (pl_v0_0 x, true, pl_cs28_0_0 x) := by kernel_rfl


noncomputable def pl_cs28_0_1 (x : Vars) : List Bool := [(!(!(decide (((pl_E0_a0 x).i 0) = 0)))), (!((decide (((pl_E0_a0 x).i 0) = 0)) && ((!(decide (0 ≤ (isub (x.i 24) 1)))) || (!(decide (1 ≤ (isub (x.i 25) 1))))))), ((decide ((-(9223372036854775807 + 1)) ≤ (isub (x.i 25) 1))) && (decide ((isub (x.i 25) 1) ≤ 9223372036854775807))), ((decide ((-(9223372036854775807 + 1)) ≤ (isub (x.i 24) 1))) && (decide ((isub (x.i 24) 1) ≤ 9223372036854775807)))]

set_option maxRecDepth 100000 in
theorem pl_c28_0_1 (x : Vars) (ho : OkV (kdsP pl_P0) x) (h0 : plB0 (mkL x 0 (kdsP pl_P0)) = false) (h1 : plB1 (mkL x 0 (kdsP pl_P0)) = false) (hz : x.i 222 = 0) (hz2 : x.i 223 = 1) : ∀ b ∈ pl_cs28_0_1 x, b = true := by
  have w24 := Bool.and_eq_true_iff.1 (ho 24 _ rfl)
  have w25 := Bool.and_eq_true_iff.1 (ho 25 _ rfl)
  have w1 : (-128 : Int) ≤ x.i 24 := of_decide_eq_true w24.1
  have w2 : x.i 24 ≤ 127 := of_decide_eq_true w24.2
  have w3 : (-128 : Int) ≤ x.i 25 := of_decide_eq_true w25.1
  have w4 : x.i 25 ≤ 127 := of_decide_eq_true w25.2
  have b := plIn x h1
  unfold pl_cs28_0_1
  exact (allC (notT (notF (notBF ((show (_ : Bool) = plB0 (normL (litL (litL (mkL x 0 (kdsP pl_P0)) 222 0) 223 1)) from by kernel_rfl).trans ((congrArg plB0 (litL_mk2 (litL_mk hz) hz2)).trans h0))))) (allC (notT (andFr (orF (notF (decide_eq_true (by first | omega | (unfold isub; omega)))) (notF (decide_eq_true (by first | omega | (unfold isub; omega))))))) (allC (andT (decide_eq_true (by first | omega | (unfold isub; omega))) (decide_eq_true (by first | omega | (unfold isub; omega)))) (allC (andT (decide_eq_true (by first | omega | (unfold isub; omega))) (decide_eq_true (by first | omega | (unfold isub; omega)))) allN))))

theorem pl_f28_0_1 (x : Vars) : (funH Try.prog G26 noLT true 1000 28 (argsP pl_P0 0 (litL (litL (mkL x 0 (kdsP pl_P0)) 222 0) 223 1)) (memP pl_P0 (litL (litL (mkL x 0 (kdsP pl_P0)) 222 0) 223 1)) [false, false]).map (fun r => (normR r.1, untupR r.1 && r.1.flat, r.2)) = some (pl_v0_1 x, true, pl_cs28_0_1 x) := by kernel_rfl


noncomputable def pl_cs28_0_2 (x : Vars) : List Bool := [(!(!(decide (((pl_E0_a0 x).i 0) = 0)))), (!((decide (((pl_E0_a0 x).i 0) = 0)) && ((!(decide (0 ≤ (isub (x.i 24) 1)))) || (!(decide (2 ≤ (isub (x.i 25) 1))))))), ((decide ((-(9223372036854775807 + 1)) ≤ (isub (x.i 25) 1))) && (decide ((isub (x.i 25) 1) ≤ 9223372036854775807))), ((decide ((-(9223372036854775807 + 1)) ≤ (isub (x.i 24) 1))) && (decide ((isub (x.i 24) 1) ≤ 9223372036854775807)))]

set_option maxRecDepth 100000 in
theorem pl_c28_0_2 (x : Vars) (ho : OkV (kdsP pl_P0) x) (h0 : plB0 (mkL x 0 (kdsP pl_P0)) = false) (h1 : plB1 (mkL x 0 (kdsP pl_P0)) = false) (hz : x.i 222 = 0) (hz2 : x.i 223 = 2) : ∀ b ∈ pl_cs28_0_2 x, b = true := by
  have w24 := Bool.and_eq_true_iff.1 (ho 24 _ rfl)
  have w25 := Bool.and_eq_true_iff.1 (ho 25 _ rfl)
  have w1 : (-128 : Int) ≤ x.i 24 := of_decide_eq_true w24.1
  have w2 : x.i 24 ≤ 127 := of_decide_eq_true w24.2
  have w3 : (-128 : Int) ≤ x.i 25 := of_decide_eq_true w25.1
  have w4 : x.i 25 ≤ 127 := of_decide_eq_true w25.2
  have b := plIn x h1
  unfold pl_cs28_0_2
  exact (allC (notT (notF (notBF ((show (_ : Bool) = plB0 (normL (litL (litL (mkL x 0 (kdsP pl_P0)) 222 0) 223 2)) from by kernel_rfl).trans ((congrArg plB0 (litL_mk2 (litL_mk hz) hz2)).trans h0))))) (allC (notT (andFr (orF (notF (decide_eq_true (by first | omega | (unfold isub; omega)))) (notF (decide_eq_true (by first | omega | (unfold isub; omega))))))) (allC (andT (decide_eq_true (by first | omega | (unfold isub; omega))) (decide_eq_true (by first | omega | (unfold isub; omega)))) (allC (andT (decide_eq_true (by first | omega | (unfold isub; omega))) (decide_eq_true (by first | omega | (unfold isub; omega)))) allN))))

theorem pl_f28_0_2 (x : Vars) : (funH Try.prog G26 noLT true 1000 28 (argsP pl_P0 0 (litL (litL (mkL x 0 (kdsP pl_P0)) 222 0) 223 2)) (memP pl_P0 (litL (litL (mkL x 0 (kdsP pl_P0)) 222 0) 223 2)) [false, false]).map (fun r => (normR r.1, untupR r.1 && r.1.flat, r.2)) = some (pl_v0_2 x, true, pl_cs28_0_2 x) := by kernel_rfl


noncomputable def pl_cs28_0_3 (x : Vars) : List Bool := [(!(!(decide (((pl_E0_a0 x).i 0) = 0)))), (!((decide (((pl_E0_a0 x).i 0) = 0)) && ((!(decide (0 ≤ (isub (x.i 24) 1)))) || (!(decide (3 ≤ (isub (x.i 25) 1))))))), ((decide ((-(9223372036854775807 + 1)) ≤ (isub (x.i 25) 1))) && (decide ((isub (x.i 25) 1) ≤ 9223372036854775807))), ((decide ((-(9223372036854775807 + 1)) ≤ (isub (x.i 24) 1))) && (decide ((isub (x.i 24) 1) ≤ 9223372036854775807)))]

set_option maxRecDepth 100000 in
theorem pl_c28_0_3 (x : Vars) (ho : OkV (kdsP pl_P0) x) (h0 : plB0 (mkL x 0 (kdsP pl_P0)) = false) (h1 : plB1 (mkL x 0 (kdsP pl_P0)) = false) (hz : x.i 222 = 0) (hz2 : x.i 223 = 3) : ∀ b ∈ pl_cs28_0_3 x, b = true := by
  have w24 := Bool.and_eq_true_iff.1 (ho 24 _ rfl)
  have w25 := Bool.and_eq_true_iff.1 (ho 25 _ rfl)
  have w1 : (-128 : Int) ≤ x.i 24 := of_decide_eq_true w24.1
  have w2 : x.i 24 ≤ 127 := of_decide_eq_true w24.2
  have w3 : (-128 : Int) ≤ x.i 25 := of_decide_eq_true w25.1
  have w4 : x.i 25 ≤ 127 := of_decide_eq_true w25.2
  have b := plIn x h1
  unfold pl_cs28_0_3
  exact (allC (notT (notF (notBF ((show (_ : Bool) = plB0 (normL (litL (litL (mkL x 0 (kdsP pl_P0)) 222 0) 223 3)) from by kernel_rfl).trans ((congrArg plB0 (litL_mk2 (litL_mk hz) hz2)).trans h0))))) (allC (notT (andFr (orF (notF (decide_eq_true (by first | omega | (unfold isub; omega)))) (notF (decide_eq_true (by first | omega | (unfold isub; omega))))))) (allC (andT (decide_eq_true (by first | omega | (unfold isub; omega))) (decide_eq_true (by first | omega | (unfold isub; omega)))) (allC (andT (decide_eq_true (by first | omega | (unfold isub; omega))) (decide_eq_true (by first | omega | (unfold isub; omega)))) allN))))

theorem pl_f28_0_3 (x : Vars) : (funH Try.prog G26 noLT true 1000 28 (argsP pl_P0 0 (litL (litL (mkL x 0 (kdsP pl_P0)) 222 0) 223 3)) (memP pl_P0 (litL (litL (mkL x 0 (kdsP pl_P0)) 222 0) 223 3)) [false, false]).map (fun r => (normR r.1, untupR r.1 && r.1.flat, r.2)) = some (pl_v0_3 x, true, pl_cs28_0_3 x) := by kernel_rfl


noncomputable def pl_cs28_0_4 (x : Vars) : List Bool := [(!(!(decide (((pl_E0_a0 x).i 0) = 0)))), (!((decide (((pl_E0_a0 x).i 0) = 0)) && ((!(decide (0 ≤ (isub (x.i 24) 1)))) || (!(decide (4 ≤ (isub (x.i 25) 1))))))), ((decide ((-(9223372036854775807 + 1)) ≤ (isub (x.i 25) 1))) && (decide ((isub (x.i 25) 1) ≤ 9223372036854775807))), ((decide ((-(9223372036854775807 + 1)) ≤ (isub (x.i 24) 1))) && (decide ((isub (x.i 24) 1) ≤ 9223372036854775807)))]

set_option maxRecDepth 100000 in
theorem pl_c28_0_4 (x : Vars) (ho : OkV (kdsP pl_P0) x) (h0 : plB0 (mkL x 0 (kdsP pl_P0)) = false) (h1 : plB1 (mkL x 0 (kdsP pl_P0)) = false) (hz : x.i 222 = 0) (hz2 : x.i 223 = 4) : ∀ b ∈ pl_cs28_0_4 x, b = true := by
  have w24 := Bool.and_eq_true_iff.1 (ho 24 _ rfl)
  have w25 := Bool.and_eq_true_iff.1 (ho 25 _ rfl)
  have w1 : (-128 : Int) ≤ x.i 24 := of_decide_eq_true w24.1
  have w2 : x.i 24 ≤ 127 := of_decide_eq_true w24.2
  have w3 : (-128 : Int) ≤ x.i 25 := of_decide_eq_true w25.1
  have w4 : x.i 25 ≤ 127 := of_decide_eq_true w25.2
  have b := plIn x h1
  unfold pl_cs28_0_4
  exact (allC (notT (notF (notBF ((show (_ : Bool) = plB0 (normL (litL (litL (mkL x 0 (kdsP pl_P0)) 222 0) 223 4)) from by kernel_rfl).trans ((congrArg plB0 (litL_mk2 (litL_mk hz) hz2)).trans h0))))) (allC (notT (andFr (orF (notF (decide_eq_true (by first | omega | (unfold isub; omega)))) (notF (decide_eq_true (by first | omega | (unfold isub; omega))))))) (allC (andT (decide_eq_true (by first | omega | (unfold isub; omega))) (decide_eq_true (by first | omega | (unfold isub; omega)))) (allC (andT (decide_eq_true (by first | omega | (unfold isub; omega))) (decide_eq_true (by first | omega | (unfold isub; omega)))) allN))))

theorem pl_f28_0_4 (x : Vars) : (funH Try.prog G26 noLT true 1000 28 (argsP pl_P0 0 (litL (litL (mkL x 0 (kdsP pl_P0)) 222 0) 223 4)) (memP pl_P0 (litL (litL (mkL x 0 (kdsP pl_P0)) 222 0) 223 4)) [false, false]).map (fun r => (normR r.1, untupR r.1 && r.1.flat, r.2)) = some (pl_v0_4 x, true, pl_cs28_0_4 x) := by kernel_rfl


noncomputable def pl_cs28_0_5 (x : Vars) : List Bool := [(!(!(decide (((pl_E0_a0 x).i 0) = 0)))), (!((decide (((pl_E0_a0 x).i 0) = 0)) && ((!(decide (0 ≤ (isub (x.i 24) 1)))) || (!(decide (5 ≤ (isub (x.i 25) 1))))))), ((decide ((-(9223372036854775807 + 1)) ≤ (isub (x.i 25) 1))) && (decide ((isub (x.i 25) 1) ≤ 9223372036854775807))), ((decide ((-(9223372036854775807 + 1)) ≤ (isub (x.i 24) 1))) && (decide ((isub (x.i 24) 1) ≤ 9223372036854775807)))]

set_option maxRecDepth 100000 in
theorem pl_c28_0_5 (x : Vars) (ho : OkV (kdsP pl_P0) x) (h0 : plB0 (mkL x 0 (kdsP pl_P0)) = false) (h1 : plB1 (mkL x 0 (kdsP pl_P0)) = false) (hz : x.i 222 = 0) (hz2 : x.i 223 = 5) : ∀ b ∈ pl_cs28_0_5 x, b = true := by
  have w24 := Bool.and_eq_true_iff.1 (ho 24 _ rfl)
  have w25 := Bool.and_eq_true_iff.1 (ho 25 _ rfl)
  have w1 : (-128 : Int) ≤ x.i 24 := of_decide_eq_true w24.1
  have w2 : x.i 24 ≤ 127 := of_decide_eq_true w24.2
  have w3 : (-128 : Int) ≤ x.i 25 := of_decide_eq_true w25.1
  have w4 : x.i 25 ≤ 127 := of_decide_eq_true w25.2
  have b := plIn x h1
  unfold pl_cs28_0_5
  exact (allC (notT (notF (notBF ((show (_ : Bool) = plB0 (normL (litL (litL (mkL x 0 (kdsP pl_P0)) 222 0) 223 5)) from by kernel_rfl).trans ((congrArg plB0 (litL_mk2 (litL_mk hz) hz2)).trans h0))))) (allC (notT (andFr (orF (notF (decide_eq_true (by first | omega | (unfold isub; omega)))) (notF (decide_eq_true (by first | omega | (unfold isub; omega))))))) (allC (andT (decide_eq_true (by first | omega | (unfold isub; omega))) (decide_eq_true (by first | omega | (unfold isub; omega)))) (allC (andT (decide_eq_true (by first | omega | (unfold isub; omega))) (decide_eq_true (by first | omega | (unfold isub; omega)))) allN))))

theorem pl_f28_0_5 (x : Vars) : (funH Try.prog G26 noLT true 1000 28 (argsP pl_P0 0 (litL (litL (mkL x 0 (kdsP pl_P0)) 222 0) 223 5)) (memP pl_P0 (litL (litL (mkL x 0 (kdsP pl_P0)) 222 0) 223 5)) [false, false]).map (fun r => (normR r.1, untupR r.1 && r.1.flat, r.2)) = some (pl_v0_5 x, true, pl_cs28_0_5 x) := by kernel_rfl


noncomputable def pl_cs28_0_6 (x : Vars) : List Bool := [(!(!(decide (((pl_E0_a0 x).i 0) = 0)))), (!((decide (((pl_E0_a0 x).i 0) = 0)) && ((!(decide (0 ≤ (isub (x.i 24) 1)))) || (!(decide (6 ≤ (isub (x.i 25) 1))))))), ((decide ((-(9223372036854775807 + 1)) ≤ (isub (x.i 25) 1))) && (decide ((isub (x.i 25) 1) ≤ 9223372036854775807))), ((decide ((-(9223372036854775807 + 1)) ≤ (isub (x.i 24) 1))) && (decide ((isub (x.i 24) 1) ≤ 9223372036854775807)))]

set_option maxRecDepth 100000 in
theorem pl_c28_0_6 (x : Vars) (ho : OkV (kdsP pl_P0) x) (h0 : plB0 (mkL x 0 (kdsP pl_P0)) = false) (h1 : plB1 (mkL x 0 (kdsP pl_P0)) = false) (hz : x.i 222 = 0) (hz2 : x.i 223 = 6) : ∀ b ∈ pl_cs28_0_6 x, b = true := by
  have w24 := Bool.and_eq_true_iff.1 (ho 24 _ rfl)
  have w25 := Bool.and_eq_true_iff.1 (ho 25 _ rfl)
  have w1 : (-128 : Int) ≤ x.i 24 := of_decide_eq_true w24.1
  have w2 : x.i 24 ≤ 127 := of_decide_eq_true w24.2
  have w3 : (-128 : Int) ≤ x.i 25 := of_decide_eq_true w25.1
  have w4 : x.i 25 ≤ 127 := of_decide_eq_true w25.2
  have b := plIn x h1
  unfold pl_cs28_0_6
  exact (allC (notT (notF (notBF ((show (_ : Bool) = plB0 (normL (litL (litL (mkL x 0 (kdsP pl_P0)) 222 0) 223 6)) from by kernel_rfl).trans ((congrArg plB0 (litL_mk2 (litL_mk hz) hz2)).trans h0))))) (allC (notT (andFr (orF (notF (decide_eq_true (by first | omega | (unfold isub; omega)))) (notF (decide_eq_true (by first | omega | (unfold isub; omega))))))) (allC (andT (decide_eq_true (by first | omega | (unfold isub; omega))) (decide_eq_true (by first | omega | (unfold isub; omega)))) (allC (andT (decide_eq_true (by first | omega | (unfold isub; omega))) (decide_eq_true (by first | omega | (unfold isub; omega)))) allN))))

theorem pl_f28_0_6 (x : Vars) : (funH Try.prog G26 noLT true 1000 28 (argsP pl_P0 0 (litL (litL (mkL x 0 (kdsP pl_P0)) 222 0) 223 6)) (memP pl_P0 (litL (litL (mkL x 0 (kdsP pl_P0)) 222 0) 223 6)) [false, false]).map (fun r => (normR r.1, untupR r.1 && r.1.flat, r.2)) = some (pl_v0_6 x, true, pl_cs28_0_6 x) := by kernel_rfl


noncomputable def pl_cs28_0_7 (x : Vars) : List Bool := [(!(!(decide (((pl_E0_a0 x).i 0) = 0)))), (!((decide (((pl_E0_a0 x).i 0) = 0)) && ((!(decide (0 ≤ (isub (x.i 24) 1)))) || (!(decide (7 ≤ (isub (x.i 25) 1))))))), ((decide ((-(9223372036854775807 + 1)) ≤ (isub (x.i 25) 1))) && (decide ((isub (x.i 25) 1) ≤ 9223372036854775807))), ((decide ((-(9223372036854775807 + 1)) ≤ (isub (x.i 24) 1))) && (decide ((isub (x.i 24) 1) ≤ 9223372036854775807)))]

set_option maxRecDepth 100000 in
theorem pl_c28_0_7 (x : Vars) (ho : OkV (kdsP pl_P0) x) (h0 : plB0 (mkL x 0 (kdsP pl_P0)) = false) (h1 : plB1 (mkL x 0 (kdsP pl_P0)) = false) (hz : x.i 222 = 0) (hz2 : x.i 223 = 7) : ∀ b ∈ pl_cs28_0_7 x, b = true := by
  have w24 := Bool.and_eq_true_iff.1 (ho 24 _ rfl)
  have w25 := Bool.and_eq_true_iff.1 (ho 25 _ rfl)
  have w1 : (-128 : Int) ≤ x.i 24 := of_decide_eq_true w24.1
  have w2 : x.i 24 ≤ 127 := of_decide_eq_true w24.2
  have w3 : (-128 : Int) ≤ x.i 25 := of_decide_eq_true w25.1
  have w4 : x.i 25 ≤ 127 := of_decide_eq_true w25.2
  have b := plIn x h1
  unfold pl_cs28_0_7
  exact (allC (notT (notF (notBF ((show (_ : Bool) = plB0 (normL (litL (litL (mkL x 0 (kdsP pl_P0)) 222 0) 223 7)) from by kernel_rfl).trans ((congrArg plB0 (litL_mk2 (litL_mk hz) hz2)).trans h0))))) (allC (notT (andFr (orF (notF (decide_eq_true (by first | omega | (unfold isub; omega)))) (notF (decide_eq_true (by first | omega | (unfold isub; omega))))))) (allC (andT (decide_eq_true (by first | omega | (unfold isub; omega))) (decide_eq_true (by first | omega | (unfold isub; omega)))) (allC (andT (decide_eq_true (by first | omega | (unfold isub; omega))) (decide_eq_true (by first | omega | (unfold isub; omega)))) allN))))

theorem pl_f28_0_7 (x : Vars) : (funH Try.prog G26 noLT true 1000 28 (argsP pl_P0 0 (litL (litL (mkL x 0 (kdsP pl_P0)) 222 0) 223 7)) (memP pl_P0 (litL (litL (mkL x 0 (kdsP pl_P0)) 222 0) 223 7)) [false, false]).map (fun r => (normR r.1, untupR r.1 && r.1.flat, r.2)) = some (pl_v0_7 x, true, pl_cs28_0_7 x) := by kernel_rfl


noncomputable def pl_cs28_1_0 (x : Vars) : List Bool := [(!(!(decide (((pl_E0_a0 x).i 0) = 0)))), (!((decide (((pl_E0_a0 x).i 0) = 0)) && ((!(decide (1 ≤ (isub (x.i 24) 1)))) || (!(decide (0 ≤ (isub (x.i 25) 1))))))), ((decide ((-(9223372036854775807 + 1)) ≤ (isub (x.i 25) 1))) && (decide ((isub (x.i 25) 1) ≤ 9223372036854775807))), ((decide ((-(9223372036854775807 + 1)) ≤ (isub (x.i 24) 1))) && (decide ((isub (x.i 24) 1) ≤ 9223372036854775807)))]

set_option maxRecDepth 100000 in
theorem pl_c28_1_0 (x : Vars) (ho : OkV (kdsP pl_P0) x) (h0 : plB0 (mkL x 0 (kdsP pl_P0)) = false) (h1 : plB1 (mkL x 0 (kdsP pl_P0)) = false) (hz : x.i 222 = 1) (hz2 : x.i 223 = 0) : ∀ b ∈ pl_cs28_1_0 x, b = true := by
  have w24 := Bool.and_eq_true_iff.1 (ho 24 _ rfl)
  have w25 := Bool.and_eq_true_iff.1 (ho 25 _ rfl)
  have w1 : (-128 : Int) ≤ x.i 24 := of_decide_eq_true w24.1
  have w2 : x.i 24 ≤ 127 := of_decide_eq_true w24.2
  have w3 : (-128 : Int) ≤ x.i 25 := of_decide_eq_true w25.1
  have w4 : x.i 25 ≤ 127 := of_decide_eq_true w25.2
  have b := plIn x h1
  unfold pl_cs28_1_0
  exact (allC (notT (notF (notBF ((show (_ : Bool) = plB0 (normL (litL (litL (mkL x 0 (kdsP pl_P0)) 222 1) 223 0)) from by kernel_rfl).trans ((congrArg plB0 (litL_mk2 (litL_mk hz) hz2)).trans h0))))) (allC (notT (andFr (orF (notF (decide_eq_true (by first | omega | (unfold isub; omega)))) (notF (decide_eq_true (by first | omega | (unfold isub; omega))))))) (allC (andT (decide_eq_true (by first | omega | (unfold isub; omega))) (decide_eq_true (by first | omega | (unfold isub; omega)))) (allC (andT (decide_eq_true (by first | omega | (unfold isub; omega))) (decide_eq_true (by first | omega | (unfold isub; omega)))) allN))))

theorem pl_f28_1_0 (x : Vars) : (funH Try.prog G26 noLT true 1000 28 (argsP pl_P0 0 (litL (litL (mkL x 0 (kdsP pl_P0)) 222 1) 223 0)) (memP pl_P0 (litL (litL (mkL x 0 (kdsP pl_P0)) 222 1) 223 0)) [false, false]).map (fun r => (normR r.1, untupR r.1 && r.1.flat, r.2)) = some (pl_v1_0 x, true, pl_cs28_1_0 x) := by kernel_rfl


noncomputable def pl_cs28_1_1 (x : Vars) : List Bool := [(!(!(decide (((pl_E0_a0 x).i 0) = 0)))), (!((decide (((pl_E0_a0 x).i 0) = 0)) && ((!(decide (1 ≤ (isub (x.i 24) 1)))) || (!(decide (1 ≤ (isub (x.i 25) 1))))))), ((decide ((-(9223372036854775807 + 1)) ≤ (isub (x.i 25) 1))) && (decide ((isub (x.i 25) 1) ≤ 9223372036854775807))), ((decide ((-(9223372036854775807 + 1)) ≤ (isub (x.i 24) 1))) && (decide ((isub (x.i 24) 1) ≤ 9223372036854775807)))]

set_option maxRecDepth 100000 in
theorem pl_c28_1_1 (x : Vars) (ho : OkV (kdsP pl_P0) x) (h0 : plB0 (mkL x 0 (kdsP pl_P0)) = false) (h1 : plB1 (mkL x 0 (kdsP pl_P0)) = false) (hz : x.i 222 = 1) (hz2 : x.i 223 = 1) : ∀ b ∈ pl_cs28_1_1 x, b = true := by
  have w24 := Bool.and_eq_true_iff.1 (ho 24 _ rfl)
  have w25 := Bool.and_eq_true_iff.1 (ho 25 _ rfl)
  have w1 : (-128 : Int) ≤ x.i 24 := of_decide_eq_true w24.1
  have w2 : x.i 24 ≤ 127 := of_decide_eq_true w24.2
  have w3 : (-128 : Int) ≤ x.i 25 := of_decide_eq_true w25.1
  have w4 : x.i 25 ≤ 127 := of_decide_eq_true w25.2
  have b := plIn x h1
  unfold pl_cs28_1_1
  exact (allC (notT (notF (notBF ((show (_ : Bool) = plB0 (normL (litL (litL (mkL x 0 (kdsP pl_P0)) 222 1) 223 1)) from by kernel_rfl).trans ((congrArg plB0 (litL_mk2 (litL_mk hz) hz2)).trans h0))))) (allC (notT (andFr (orF (notF (decide_eq_true (by first | omega | (unfold isub; omega)))) (notF (decide_eq_true (by first | omega | (unfold isub; omega))))))) (allC (andT (decide_eq_true (by first | omega | (unfold isub; omega))) (decide_eq_true (by first | omega | (unfold isub; omega)))) (allC (andT (decide_eq_true (by first | omega | (unfold isub; omega))) (decide_eq_true (by first | omega | (unfold isub; omega)))) allN))))

theorem pl_f28_1_1 (x : Vars) : (funH Try.prog G26 noLT true 1000 28 (argsP pl_P0 0 (litL (litL (mkL x 0 (kdsP pl_P0)) 222 1) 223 1)) (memP pl_P0 (litL (litL (mkL x 0 (kdsP pl_P0)) 222 1) 223 1)) [false, false]).map (fun r => (normR r.1, untupR r.1 && r.1.flat, r.2)) = some (pl_v1_1 x, true, pl_cs28_1_1 x) := by kernel_rfl


noncomputable def pl_cs28_1_2 (x : Vars) : List Bool := [(!(!(decide (((pl_E0_a0 x).i 0) = 0)))), (!((decide (((pl_E0_a0 x).i 0) = 0)) && ((!(decide (1 ≤ (isub (x.i 24) 1)))) || (!(decide (2 ≤ (isub (x.i 25) 1))))))), ((decide ((-(9223372036854775807 + 1)) ≤ (isub (x.i 25) 1))) && (decide ((isub (x.i 25) 1) ≤ 9223372036854775807))), ((decide ((-(9223372036854775807 + 1)) ≤ (isub (x.i 24) 1))) && (decide ((isub (x.i 24) 1) ≤ 9223372036854775807)))]

set_option maxRecDepth 100000 in
theorem pl_c28_1_2 (x : Vars) (ho : OkV (kdsP pl_P0) x) (h0 : plB0 (mkL x 0 (kdsP pl_P0)) = false) (h1 : plB1 (mkL x 0 (kdsP pl_P0)) = false) (hz : x.i 222 = 1) (hz2 : x.i 223 = 2) : ∀ b ∈ pl_cs28_1_2 x, b = true := by
  have w24 := Bool.and_eq_true_iff.1 (ho 24 _ rfl)
  have w25 := Bool.and_eq_true_iff.1 (ho 25 _ rfl)
  have w1 : (-128 : Int) ≤ x.i 24 := of_decide_eq_true w24.1
  have w2 : x.i 24 ≤ 127 := of_decide_eq_true w24.2
  have w3 : (-128 : Int) ≤ x.i 25 := of_decide_eq_true w25.1
  have w4 : x.i 25 ≤ 127 := of_decide_eq_true w25.2
  have b := plIn x h1
  unfold pl_cs28_1_2
  exact (allC (notT (notF (notBF ((show (_ : Bool) = plB0 (normL (litL (litL (mkL x 0 (kdsP pl_P0)) 222 1) 223 2)) from by kernel_rfl).trans ((congrArg plB0 (litL_mk2 (litL_mk hz) hz2)).trans h0))))) (allC (notT (andFr (orF (notF (decide_eq_true (by first | omega | (unfold isub; omega)))) (notF (decide_eq_true (by first | omega | (unfold isub; omega))))))) (allC (andT (decide_eq_true (by first | omega | (unfold isub; omega))) (decide_eq_true (by first | omega | (unfold isub; omega)))) (allC (andT (decide_eq_true (by first | omega | (unfold isub; omega))) (decide_eq_true (by first | omega | (unfold isub; omega)))) allN))))

theorem pl_f28_1_2 (x : Vars) : (funH Try.prog G26 noLT true 1000 28 (argsP pl_P0 0 (litL (litL (mkL x 0 (kdsP pl_P0)) 222 1) 223 2)) (memP pl_P0 (litL (litL (mkL x 0 (kdsP pl_P0)) 222 1) 223 2)) [false, false]).map (fun r => (normR r.1, untupR r.1 && r.1.flat, r.2)) = some (pl_v1_2 x, true, pl_cs28_1_2 x) := by kernel_rfl


noncomputable def pl_cs28_1_3 (x : Vars) : List Bool := [(!(!(decide (((pl_E0_a0 x).i 0) = 0)))), (!((decide (((pl_E0_a0 x).i 0) = 0)) && ((!(decide (1 ≤ (isub (x.i 24) 1)))) || (!(decide (3 ≤ (isub (x.i 25) 1))))))), ((decide ((-(9223372036854775807 + 1)) ≤ (isub (x.i 25) 1))) && (decide ((isub (x.i 25) 1) ≤ 9223372036854775807))), ((decide ((-(9223372036854775807 + 1)) ≤ (isub (x.i 24) 1))) && (decide ((isub (x.i 24) 1) ≤ 9223372036854775807)))]

set_option maxRecDepth 100000 in
theorem pl_c28_1_3 (x : Vars) (ho : OkV (kdsP pl_P0) x) (h0 : plB0 (mkL x 0 (kdsP pl_P0)) = false) (h1 : plB1 (mkL x 0 (kdsP pl_P0)) = false) (hz : x.i 222 = 1) (hz2 : x.i 223 = 3) : ∀ b ∈ pl_cs28_1_3 x, b = true := by
  have w24 := Bool.and_eq_true_iff.1 (ho 24 _ rfl)
  have w25 := Bool.and_eq_true_iff.1 (ho 25 _ rfl)
  have w1 : (-128 : Int) ≤ x.i 24 := of_decide_eq_true w24.1
  have w2 : x.i 24 ≤ 127 := of_decide_eq_true w24.2
  have w3 : (-128 : Int) ≤ x.i 25 := of_decide_eq_true w25.1
  have w4 : x.i 25 ≤ 127 := of_decide_eq_true w25.2
  have b := plIn x h1
  unfold pl_cs28_1_3
  exact (allC (notT (notF (notBF ((show (_ : Bool) = plB0 (normL (litL (litL (mkL x 0 (kdsP pl_P0)) 222 1) 223 3)) from by kernel_rfl).trans ((congrArg plB0 (litL_mk2 (litL_mk hz) hz2)).trans h0))))) (allC (notT (andFr (orF (notF (decide_eq_true (by first | omega | (unfold isub; omega)))) (notF (decide_eq_true (by first | omega | (unfold isub; omega))))))) (allC (andT (decide_eq_true (by first | omega | (unfold isub; omega))) (decide_eq_true (by first | omega | (unfold isub; omega)))) (allC (andT (decide_eq_true (by first | omega | (unfold isub; omega))) (decide_eq_true (by first | omega | (unfold isub; omega)))) allN))))

theorem pl_f28_1_3 (x : Vars) : (funH Try.prog G26 noLT true 1000 28 (argsP pl_P0 0 (litL (litL (mkL x 0 (kdsP pl_P0)) 222 1) 223 3)) (memP pl_P0 (litL (litL (mkL x 0 (kdsP pl_P0)) 222 1) 223 3)) [false, false]).map (fun r => (normR r.1, untupR r.1 && r.1.flat, r.2)) = some (pl_v1_3 x, true, pl_cs28_1_3 x) := by kernel_rfl


noncomputable def pl_cs28_1_4 (x : Vars) : List Bool := [(!(!(decide (((pl_E0_a0 x).i 0) = 0)))), (!((decide (((pl_E0_a0 x).i 0) = 0)) && ((!(decide (1 ≤ (isub (x.i 24) 1)))) || (!(decide (4 ≤ (isub (x.i 25) 1))))))), ((decide ((-(9223372036854775807 + 1)) ≤ (isub (x.i 25) 1))) && (decide ((isub (x.i 25) 1) ≤ 9223372036854775807))), ((decide ((-(9223372036854775807 + 1)) ≤ (isub (x.i 24) 1))) && (decide ((isub (x.i 24) 1) ≤ 9223372036854775807)))]

set_option maxRecDepth 100000 in
theorem pl_c28_1_4 (x : Vars) (ho : OkV (kdsP pl_P0) x) (h0 : plB0 (mkL x 0 (kdsP pl_P0)) = false) (h1 : plB1 (mkL x 0 (kdsP pl_P0)) = false) (hz : x.i 222 = 1) (hz2 : x.i 223 = 4) : ∀ b ∈ pl_cs28_1_4 x, b = true := by
  have w24 := Bool.and_eq_true_iff.1 (ho 24 _ rfl)
  have w25 := Bool.and_eq_true_iff.1 (ho 25 _ rfl)
  have w1 : (-128 : Int) ≤ x.i 24 := of_decide_eq_true w24.1
  have w2 : x.i 24 ≤ 127 := of_decide_eq_true w24.2
  have w3 : (-128 : Int) ≤ x.i 25 := of_decide_eq_true w25.1
  have w4 : x.i 25 ≤ 127 := of_decide_eq_true w25.2
  have b := plIn x h1
  unfold pl_cs28_1_4
  exact (allC (notT (notF (notBF ((show (_ : Bool) = plB0 (normL (litL (litL (mkL x 0 (kdsP pl_P0)) 222 1) 223 4)) from by kernel_rfl).trans ((congrArg plB0 (litL_mk2 (litL_mk hz) hz2)).trans h0))))) (allC (notT (andFr (orF (notF (decide_eq_true (by first | omega | (unfold isub; omega)))) (notF (decide_eq_true (by first | omega | (unfold isub; omega))))))) (allC (andT (decide_eq_true (by first | omega | (unfold isub; omega))) (decide_eq_true (by first | omega | (unfold isub; omega)))) (allC (andT (decide_eq_true (by first | omega | (unfold isub; omega))) (decide_eq_true (by first | omega | (unfold isub; omega)))) allN))))

theorem pl_f28_1_4 (x : Vars) : (funH Try.prog G26 noLT true 1000 28 (argsP pl_P0 0 (litL (litL (mkL x 0 (kdsP pl_P0)) 222 1) 223 4)) (memP pl_P0 (litL (litL (mkL x 0 (kdsP pl_P0)) 222 1) 223 4)) [false, false]).map (fun r => (normR r.1, untupR r.1 && r.1.flat, r.2)) = some (pl_v1_4 x, true, pl_cs28_1_4 x) := by kernel_rfl


noncomputable def pl_cs28_1_5 (x : Vars) : List Bool := [(!(!(decide (((pl_E0_a0 x).i 0) = 0)))), (!((decide (((pl_E0_a0 x).i 0) = 0)) && ((!(decide (1 ≤ (isub (x.i 24) 1)))) || (!(decide (5 ≤ (isub (x.i 25) 1))))))), ((decide ((-(9223372036854775807 + 1)) ≤ (isub (x.i 25) 1))) && (decide ((isub (x.i 25) 1) ≤ 9223372036854775807))), ((decide ((-(9223372036854775807 + 1)) ≤ (isub (x.i 24) 1))) && (decide ((isub (x.i 24) 1) ≤ 9223372036854775807)))]

set_option maxRecDepth 100000 in
theorem pl_c28_1_5 (x : Vars) (ho : OkV (kdsP pl_P0) x) (h0 : plB0 (mkL x 0 (kdsP pl_P0)) = false) (h1 : plB1 (mkL x 0 (kdsP pl_P0)) = false) (hz : x.i 222 = 1) (hz2 : x.i 223 = 5) : ∀ b ∈ pl_cs28_1_5 x, b = true := by
  have w24 := Bool.and_eq_true_iff.1 (ho 24 _ rfl)
  have w25 := Bool.and_eq_true_iff.1 (ho 25 _ rfl)
  have w1 : (-128 : Int) ≤ x.i 24 := of_decide_eq_true w24.1
  have w2 : x.i 24 ≤ 127 := of_decide_eq_true w24.2
  have w3 : (-128 : Int) ≤ x.i 25 := of_decide_eq_true w25.1
  have w4 : x.i 25 ≤ 127 := of_decide_eq_true w25.2
  have b := plIn x h1
  unfold pl_cs28_1_5
  exact (allC (notT (notF (notBF ((show (_ : Bool) = plB0 (normL (litL (litL (mkL x 0 (kdsP pl_P0)) 222 1) 223 5)) from by kernel_rfl).trans ((congrArg plB0 (litL_mk2 (litL_mk hz) hz2)).trans h0))))) (allC (notT (andFr (orF (notF (decide_eq_true (by first | omega | (unfold isub; omega)))) (notF (decide_eq_true (by first | omega | (unfold isub; omega))))))) (allC (andT (decide_eq_true (by first | omega | (unfold isub; omega))) (decide_eq_true (by first | omega | (unfold isub; omega)))) (allC (andT (decide_eq_true (by first | omega | (unfold isub; omega))) (decide_eq_true (by first | omega | (unfold isub; omega)))) allN))))

theorem pl_f28_1_5 (x : Vars) : (funH Try.prog G26 noLT true 1000 28 (argsP pl_P0 0 (litL (litL (mkL x 0 (kdsP pl_P0)) 222 1) 223 5)) (memP pl_P0 (litL (litL (mkL x 0 (kdsP pl_P0)) 222 1) 223 5)) [false, false]).map (fun r => (normR r.1, untupR r.1 && r.1.flat, r.2)) = some (pl_v1_5 x, true, pl_cs28_1_5 x) := by kernel_rfl


noncomputable def pl_cs28_1_6 (x : Vars) : List Bool := [(!(!(decide (((pl_E0_a0 x).i 0) = 0)))), (!((decide (((pl_E0_a0 x).i 0) = 0)) && ((!(decide (1 ≤ (isub (x.i 24) 1)))) || (!(decide (6 ≤ (isub (x.i 25) 1))))))), ((decide ((-(9223372036854775807 + 1)) ≤ (isub (x.i 25) 1))) && (decide ((isub (x.i 25) 1) ≤ 9223372036854775807))), ((decide ((-(9223372036854775807 + 1)) ≤ (isub (x.i 24) 1))) && (decide ((isub (x.i 24) 1) ≤ 9223372036854775807)))]

set_option maxRecDepth 100000 in
theorem pl_c28_1_6 (x : Vars) (ho : OkV (kdsP pl_P0) x) (h0 : plB0 (mkL x 0 (kdsP pl_P0)) = false) (h1 : plB1 (mkL x 0 (kdsP pl_P0)) = false) (hz : x.i 222 = 1) (hz2 : x.i 223 = 6) : ∀ b ∈ pl_cs28_1_6 x, b = true := by
  have w24 := Bool.and_eq_true_iff.1 (ho 24 _ rfl)
  have w25 := Bool.and_eq_true_iff.1 (ho 25 _ rfl)
  have w1 : (-128 : Int) ≤ x.i 24 := of_decide_eq_true w24.1
  have w2 : x.i 24 ≤ 127 := of_decide_eq_true w24.2
  have w3 : (-128 : Int) ≤ x.i 25 := of_decide_eq_true w25.1
  have w4 : x.i 25 ≤ 127 := of_decide_eq_true w25.2
  have b := plIn x h1
  unfold pl_cs28_1_6
  exact (allC (notT (notF (notBF ((show (_ : Bool) = plB0 (normL (litL (litL (mkL x 0 (kdsP pl_P0)) 222 1) 223 6)) from by kernel_rfl).trans ((congrArg plB0 (litL_mk2 (litL_mk hz) hz2)).trans h0))))) (allC (notT (andFr (orF (notF (decide_eq_true (by first | omega | (unfold isub; omega)))) (notF (decide_eq_true (by first | omega | (unfold isub; omega))))))) (allC (andT (decide_eq_true (by first | omega | (unfold isub; omega))) (decide_eq_true (by first | omega | (unfold isub; omega)))) (allC (andT (decide_eq_true (by first | omega | (unfold isub; omega))) (decide_eq_true (by first | omega | (unfold isub; omega)))) allN))))

theorem pl_f28_1_6 (x : Vars) : (funH Try.prog G26 noLT true 1000 28 (argsP pl_P0 0 (litL (litL (mkL x 0 (kdsP pl_P0)) 222 1) 223 6)) (memP pl_P0 (litL (litL (mkL x 0 (kdsP pl_P0)) 222 1) 223 6)) [false, false]).map (fun r => (normR r.1, untupR r.1 && r.1.flat, r.2)) = some (pl_v1_6 x, true, pl_cs28_1_6 x) := by kernel_rfl


noncomputable def pl_cs28_1_7 (x : Vars) : List Bool := [(!(!(decide (((pl_E0_a0 x).i 0) = 0)))), (!((decide (((pl_E0_a0 x).i 0) = 0)) && ((!(decide (1 ≤ (isub (x.i 24) 1)))) || (!(decide (7 ≤ (isub (x.i 25) 1))))))), ((decide ((-(9223372036854775807 + 1)) ≤ (isub (x.i 25) 1))) && (decide ((isub (x.i 25) 1) ≤ 9223372036854775807))), ((decide ((-(9223372036854775807 + 1)) ≤ (isub (x.i 24) 1))) && (decide ((isub (x.i 24) 1) ≤ 9223372036854775807)))]

set_option maxRecDepth 100000 in
theorem pl_c28_1_7 (x : Vars) (ho : OkV (kdsP pl_P0) x) (h0 : plB0 (mkL x 0 (kdsP pl_P0)) = false) (h1 : plB1 (mkL x 0 (kdsP pl_P0)) = false) (hz : x.i 222 = 1) (hz2 : x.i 223 = 7) : ∀ b ∈ pl_cs28_1_7 x, b = true := by
  have w24 := Bool.and_eq_true_iff.1 (ho 24 _ rfl)
  have w25 := Bool.and_eq_true_iff.1 (ho 25 _ rfl)
  have w1 : (-128 : Int) ≤ x.i 24 := of_decide_eq_true w24.1
  have w2 : x.i 24 ≤ 127 := of_decide_eq_true w24.2
  have w3 : (-128 : Int) ≤ x.i 25 := of_decide_eq_true w25.1
  have w4 : x.i 25 ≤ 127 := of_decide_eq_true w25.2
  have b := plIn x h1
  unfold pl_cs28_1_7
  exact (allC (notT (notF (notBF ((show (_ : Bool) = plB0 (normL (litL (litL (mkL x 0 (kdsP pl_P0)) 222 1) 223 7)) from by kernel_rfl).trans ((congrArg plB0 (litL_mk2 (litL_mk hz) hz2)).trans h0))))) (allC (notT (andFr (orF (notF (decide_eq_true (by first | omega | (unfold isub; omega)))) (notF (decide_eq_true (by first | omega | (unfold isub; omega))))))) (allC (andT (decide_eq_true (by first | omega | (unfold isub; omega))) (decide_eq_true (by first | omega | (unfold isub; omega)))) (allC (andT (decide_eq_true (by first | omega | (unfold isub; omega))) (decide_eq_true (by first | omega | (unfold isub; omega)))) allN))))

theorem pl_f28_1_7 (x : Vars) : (funH Try.prog G26 noLT true 1000 28 (argsP pl_P0 0 (litL (litL (mkL x 0 (kdsP pl_P0)) 222 1) 223 7)) (memP pl_P0 (litL (litL (mkL x 0 (kdsP pl_P0)) 222 1) 223 7)) [false, false]).map (fun r => (normR r.1, untupR r.1 && r.1.flat, r.2)) = some (pl_v1_7 x, true, pl_cs28_1_7 x) := by kernel_rfl


noncomputable def pl_cs28_2_0 (x : Vars) : List Bool := [(!(!(decide (((pl_E0_a0 x).i 0) = 0)))), (!((decide (((pl_E0_a0 x).i 0) = 0)) && ((!(decide (2 ≤ (isub (x.i 24) 1)))) || (!(decide (0 ≤ (isub (x.i 25) 1))))))), ((decide ((-(9223372036854775807 + 1)) ≤ (isub (x.i 25) 1))) && (decide ((isub (x.i 25) 1) ≤ 9223372036854775807))), ((decide ((-(9223372036854775807 + 1)) ≤ (isub (x.i 24) 1))) && (decide ((isub (x.i 24) 1) ≤ 9223372036854775807)))]

set_option maxRecDepth 100000 in
theorem pl_c28_2_0 (x : Vars) (ho : OkV (kdsP pl_P0) x) (h0 : plB0 (mkL x 0 (kdsP pl_P0)) = false) (h1 : plB1 (mkL x 0 (kdsP pl_P0)) = false) (hz : x.i 222 = 2) (hz2 : x.i 223 = 0) : ∀ b ∈ pl_cs28_2_0 x, b = true := by
  have w24 := Bool.and_eq_true_iff.1 (ho 24 _ rfl)
  have w25 := Bool.and_eq_true_iff.1 (ho 25 _ rfl)
  have w1 : (-128 : Int) ≤ x.i 24 := of_decide_eq_true w24.1
  have w2 : x.i 24 ≤ 127 := of_decide_eq_true w24.2
  have w3 : (-128 : Int) ≤ x.i 25 := of_decide_eq_true w25.1
  have w4 : x.i 25 ≤ 127 := of_decide_eq_true w25.2
  have b := plIn x h1
  unfold pl_cs28_2_0
  exact (allC (notT (notF (notBF ((show (_ : Bool) = plB0 (normL (litL (litL (mkL x 0 (kdsP pl_P0)) 222 2) 223 0)) from by kernel_rfl).trans ((congrArg plB0 (litL_mk2 (litL_mk hz) hz2)).trans h0))))) (allC (notT (andFr (orF (notF (decide_eq_true (by first | omega | (unfold isub; omega)))) (notF (decide_eq_true (by first | omega | (unfold isub; omega))))))) (allC (andT (decide_eq_true (by first | omega | (unfold isub; omega))) (decide_eq_true (by first | omega | (unfold isub; omega)))) (allC (andT (decide_eq_true (by first | omega | (unfold isub; omega))) (decide_eq_true (by first | omega | (unfold isub; omega)))) allN))))

theorem pl_f28_2_0 (x : Vars) : (funH Try.prog G26 noLT true 1000 28 (argsP pl_P0 0 (litL (litL (mkL x 0 (kdsP pl_P0)) 222 2) 223 0)) (memP pl_P0 (litL (litL (mkL x 0 (kdsP pl_P0)) 222 2) 223 0)) [false, false]).map (fun r => (normR r.1, untupR r.1 && r.1.flat, r.2)) = some (pl_v2_0 x, true, pl_cs28_2_0 x) := by kernel_rfl


noncomputable def pl_cs28_2_1 (x : Vars) : List Bool := [(!(!(decide (((pl_E0_a0 x).i 0) = 0)))), (!((decide (((pl_E0_a0 x).i 0) = 0)) && ((!(decide (2 ≤ (isub (x.i 24) 1)))) || (!(decide (1 ≤ (isub (x.i 25) 1))))))), ((decide ((-(9223372036854775807 + 1)) ≤ (isub (x.i 25) 1))) && (decide ((isub (x.i 25) 1) ≤ 9223372036854775807))), ((decide ((-(9223372036854775807 + 1)) ≤ (isub (x.i 24) 1))) && (decide ((isub (x.i 24) 1) ≤ 9223372036854775807)))]

set_option maxRecDepth 100000 in
theorem pl_c28_2_1 (x : Vars) (ho : OkV (kdsP pl_P0) x) (h0 : plB0 (mkL x 0 (kdsP pl_P0)) = false) (h1 : plB1 (mkL x 0 (kdsP pl_P0)) = false) (hz : x.i 222 = 2) (hz2 : x.i 223 = 1) : ∀ b ∈ pl_cs28_2_1 x, b = true := by
  have w24 := Bool.and_eq_true_iff.1 (ho 24 _ rfl)
  have w25 := Bool.and_eq_true_iff.1 (ho 25 _ rfl)
  have w1 : (-128 : Int) ≤ x.i 24 := of_decide_eq_true w24.1
  have w2 : x.i 24 ≤ 127 := of_decide_eq_true w24.2
  have w3 : (-128 : Int) ≤ x.i 25 := of_decide_eq_true w25.1
  have w4 : x.i 25 ≤ 127 := of_decide_eq_true w25.2
  have b := plIn x h1
  unfold pl_cs28_2_1
  exact (allC (notT (notF (notBF ((show (_ : Bool) = plB0 (normL (litL (litL (mkL x 0 (kdsP pl_P0)) 222 2) 223 1)) from by kernel_rfl).trans ((congrArg plB0 (litL_mk2 (litL_mk hz) hz2)).trans h0))))) (allC (notT (andFr (orF (notF (decide_eq_true (by first | omega | (unfold isub; omega)))) (notF (decide_eq_true (by first | omega | (unfold isub; omega))))))) (allC (andT (decide_eq_true (by first | omega | (unfold isub; omega))) (decide_eq_true (by first | omega | (unfold isub; omega)))) (allC (andT (decide_eq_true (by first | omega | (unfold isub; omega))) (decide_eq_true (by first | omega | (unfold isub; omega)))) allN))))

theorem pl_f28_2_1 (x : Vars) : (funH Try.prog G26 noLT true 1000 28 (argsP pl_P0 0 (litL (litL (mkL x 0 (kdsP pl_P0)) 222 2) 223 1)) (memP pl_P0 (litL (litL (mkL x 0 (kdsP pl_P0)) 222 2) 223 1)) [false, false]).map (fun r => (normR r.1, untupR r.1 && r.1.flat, r.2)) = some (pl_v2_1 x, true, pl_cs28_2_1 x) := by kernel_rfl


noncomputable def pl_cs28_2_2 (x : Vars) : List Bool := [(!(!(decide (((pl_E0_a0 x).i 0) = 0)))), (!((decide (((pl_E0_a0 x).i 0) = 0)) && ((!(decide (2 ≤ (isub (x.i 24) 1)))) || (!(decide (2 ≤ (isub (x.i 25) 1))))))), ((decide ((-(9223372036854775807 + 1)) ≤ (isub (x.i 25) 1))) && (decide ((isub (x.i 25) 1) ≤ 9223372036854775807))), ((decide ((-(9223372036854775807 + 1)) ≤ (isub (x.i 24) 1))) && (decide ((isub (x.i 24) 1) ≤ 9223372036854775807)))]

set_option maxRecDepth 100000 in
theorem pl_c28_2_2 (x : Vars) (ho : OkV (kdsP pl_P0) x) (h0 : plB0 (mkL x 0 (kdsP pl_P0)) = false) (h1 : plB1 (mkL x 0 (kdsP pl_P0)) = false) (hz : x.i 222 = 2) (hz2 : x.i 223 = 2) : ∀ b ∈ pl_cs28_2_2 x, b = true := by
  have w24 := Bool.and_eq_true_iff.1 (ho 24 _ rfl)
  have w25 := Bool.and_eq_true_iff.1 (ho 25 _ rfl)
  have w1 : (-128 : Int) ≤ x.i 24 := of_decide_eq_true w24.1
  have w2 : x.i 24 ≤ 127 := of_decide_eq_true w24.2
  have w3 : (-128 : Int) ≤ x.i 25 := of_decide_eq_true w25.1
  have w4 : x.i 25 ≤ 127 := of_decide_eq_true w25.2
  have b := plIn x h1
  unfold pl_cs28_2_2
  exact (allC (notT (notF (notBF ((show (_ : Bool) = plB0 (normL (litL (litL (mkL x 0 (kdsP pl_P0)) 222 2) 223 2)) from by kernel_rfl).trans ((congrArg plB0 (litL_mk2 (litL_mk hz) hz2)).trans h0))))) (allC (notT (andFr (orF (notF (decide_eq_true (by first | omega | (unfold isub; omega)))) (notF (decide_eq_true (by first | omega | (unfold isub; omega))))))) (allC (andT (decide_eq_true (by first | omega | (unfold isub; omega))) (decide_eq_true (by first | omega | (unfold isub; omega)))) (allC (andT (decide_eq_true (by first | omega | (unfold isub; omega))) (decide_eq_true (by first | omega | (unfold isub; omega)))) allN))))

theorem pl_f28_2_2 (x : Vars) : (funH Try.prog G26 noLT true 1000 28 (argsP pl_P0 0 (litL (litL (mkL x 0 (kdsP pl_P0)) 222 2) 223 2)) (memP pl_P0 (litL (litL (mkL x 0 (kdsP pl_P0)) 222 2) 223 2)) [false, false]).map (fun r => (normR r.1, untupR r.1 && r.1.flat, r.2)) = some (pl_v2_2 x, true, pl_cs28_2_2 x) := by kernel_rfl


noncomputable def pl_cs28_2_3 (x : Vars) : List Bool := [(!(!(decide (((pl_E0_a0 x).i 0) = 0)))), (!((decide (((pl_E0_a0 x).i 0) = 0)) && ((!(decide (2 ≤ (isub (x.i 24) 1)))) || (!(decide (3 ≤ (isub (x.i 25) 1))))))), ((decide ((-(9223372036854775807 + 1)) ≤ (isub (x.i 25) 1))) && (decide ((isub (x.i 25) 1) ≤ 9223372036854775807))), ((decide ((-(9223372036854775807 + 1)) ≤ (isub (x.i 24) 1))) && (decide ((isub (x.i 24) 1) ≤ 9223372036854775807)))]

set_option maxRecDepth 100000 in
theorem pl_c28_2_3 (x : Vars) (ho : OkV (kdsP pl_P0) x) (h0 : plB0 (mkL x 0 (kdsP pl_P0)) = false) (h1 : plB1 (mkL x 0 (kdsP pl_P0)) = false) (hz : x.i 222 = 2) (hz2 : x.i 223 = 3) : ∀ b ∈ pl_cs28_2_3 x, b = true := by
  have w24 := Bool.and_eq_true_iff.1 (ho 24 _ rfl)
  have w25 := Bool.and_eq_true_iff.1 (ho 25 _ rfl)
  have w1 : (-128 : Int) ≤ x.i 24 := of_decide_eq_true w24.1
  have w2 : x.i 24 ≤ 127 := of_decide_eq_true w24.2
  have w3 : (-128 : Int) ≤ x.i 25 := of_decide_eq_true w25.1
  have w4 : x.i 25 ≤ 127 := of_decide_eq_true w25.2
  have b := plIn x h1
  unfold pl_cs28_2_3
  exact (allC (notT (notF (notBF ((show (_ : Bool) = plB0 (normL (litL (litL (mkL x 0 (kdsP pl_P0)) 222 2) 223 3)) from by kernel_rfl).trans ((congrArg plB0 (litL_mk2 (litL_mk hz) hz2)).trans h0))))) (allC (notT (andFr (orF (notF (decide_eq_true (by first | omega | (unfold isub; omega)))) (notF (decide_eq_true (by first | omega | (unfold isub; omega))))))) (allC (andT (decide_eq_true (by first | omega | (unfold isub; omega))) (decide_eq_true (by first | omega | (unfold isub; omega)))) (allC (andT (decide_eq_true (by first | omega | (unfold isub; omega))) (decide_eq_true (by first | omega | (unfold isub; omega)))) allN))))

theorem pl_f28_2_3 (x : Vars) : (funH Try.prog G26 noLT true 1000 28 (argsP pl_P0 0 (litL (litL (mkL x 0 (kdsP pl_P0)) 222 2) 223 3)) (memP pl_P0 (litL (litL (mkL x 0 (kdsP pl_P0)) 222 2) 223 3)) [false, false]).map (fun r => (normR r.1, untupR r.1 && r.1.flat, r.2)) = some (pl_v2_3 x, true, pl_cs28_2_3 x) := by kernel_rfl


noncomputable def pl_cs28_2_4 (x : Vars) : List Bool := [(!(!(decide (((pl_E0_a0 x).i 0) = 0)))), (!((decide (((pl_E0_a0 x).i 0) = 0)) && ((!(decide (2 ≤ (isub (x.i 24) 1)))) || (!(decide (4 ≤ (isub (x.i 25) 1))))))), ((decide ((-(9223372036854775807 + 1)) ≤ (isub (x.i 25) 1))) && (decide ((isub (x.i 25) 1) ≤ 9223372036854775807))), ((decide ((-(9223372036854775807 + 1)) ≤ (isub (x.i 24) 1))) && (decide ((isub (x.i 24) 1) ≤ 9223372036854775807)))]

set_option maxRecDepth 100000 in
theorem pl_c28_2_4 (x : Vars) (ho : OkV (kdsP pl_P0) x) (h0 : plB0 (mkL x 0 (kdsP pl_P0)) = false) (h1 : plB1 (mkL x 0 (kdsP pl_P0)) = false) (hz : x.i 222 = 2) (hz2 : x.i 223 = 4) : ∀ b ∈ pl_cs28_2_4 x, b = true := by
  have w24 := Bool.and_eq_true_iff.1 (ho 24 _ rfl)
  have w25 := Bool.and_eq_true_iff.1 (ho 25 _ rfl)
  have w1 : (-128 : Int) ≤ x.i 24 := of_decide_eq_true w24.1
  have w2 : x.i 24 ≤ 127 := of_decide_eq_true w24.2
  have w3 : (-128 : Int) ≤ x.i 25 := of_decide_eq_true w25.1
  have w4 : x.i 25 ≤ 127 := of_decide_eq_true w25.2
  have b := plIn x h1
  unfold pl_cs28_2_4
  exact (allC (notT (notF (notBF ((show (_ : Bool) = plB0 (normL (litL (litL (mkL x 0 (kdsP pl_P0)) 222 2) 223 4)) from by kernel_rfl).trans ((congrArg plB0 (litL_mk2 (litL_mk hz) hz2)).trans h0))))) (allC (notT (andFr (orF (notF (decide_eq_true (by first | omega | (unfold isub; omega)))) (notF (decide_eq_true (by first | omega | (unfold isub; omega))))))) (allC (andT (decide_eq_true (by first | omega | (unfold isub; omega))) (decide_eq_true (by first | omega | (unfold isub; omega)))) (allC (andT (decide_eq_true (by first | omega | (unfold isub; omega))) (decide_eq_true (by first | omega | (unfold isub; omega)))) allN))))

theorem pl_f28_2_4 (x : Vars) : (funH Try.prog G26 noLT true 1000 28 (argsP pl_P0 0 (litL (litL (mkL x 0 (kdsP pl_P0)) 222 2) 223 4)) (memP pl_P0 (litL (litL (mkL x 0 (kdsP pl_P0)) 222 2) 223 4)) [false, false]).map (fun r => (normR r.1, untupR r.1 && r.1.flat, r.2)) = some (pl_v2_4 x, true, pl_cs28_2_4 x) := by kernel_rfl


noncomputable def pl_cs28_2_5 (x : Vars) : List Bool := [(!(!(decide (((pl_E0_a0 x).i 0) = 0)))), (!((decide (((pl_E0_a0 x).i 0) = 0)) && ((!(decide (2 ≤ (isub (x.i 24) 1)))) || (!(decide (5 ≤ (isub (x.i 25) 1))))))), ((decide ((-(9223372036854775807 + 1)) ≤ (isub (x.i 25) 1))) && (decide ((isub (x.i 25) 1) ≤ 9223372036854775807))), ((decide ((-(9223372036854775807 + 1)) ≤ (isub (x.i 24) 1))) && (decide ((isub (x.i 24) 1) ≤ 9223372036854775807)))]

set_option maxRecDepth 100000 in
theorem pl_c28_2_5 (x : Vars) (ho : OkV (kdsP pl_P0) x) (h0 : plB0 (mkL x 0 (kdsP pl_P0)) = false) (h1 : plB1 (mkL x 0 (kdsP pl_P0)) = false) (hz : x.i 222 = 2) (hz2 : x.i 223 = 5) : ∀ b ∈ pl_cs28_2_5 x, b = true := by
  have w24 := Bool.and_eq_true_iff.1 (ho 24 _ rfl)
  have w25 := Bool.and_eq_true_iff.1 (ho 25 _ rfl)
  have w1 : (-128 : Int) ≤ x.i 24 := of_decide_eq_true w24.1
  have w2 : x.i 24 ≤ 127 := of_decide_eq_true w24.2
  have w3 : (-128 : Int) ≤ x.i 25 := of_decide_eq_true w25.1
  have w4 : x.i 25 ≤ 127 := of_decide_eq_true w25.2
  have b := plIn x h1
  unfold pl_cs28_2_5
  exact (allC (notT (notF (notBF ((show (_ : Bool) = plB0 (normL (litL (litL (mkL x 0 (kdsP pl_P0)) 222 2) 223 5)) from by kernel_rfl).trans ((congrArg plB0 (litL_mk2 (litL_mk hz) hz2)).trans h0))))) (allC (notT (andFr (orF (notF (decide_eq_true (by first | omega | (unfold isub; omega)))) (notF (decide_eq_true (by first | omega | (unfold isub; omega))))))) (allC (andT (decide_eq_true (by first | omega | (unfold isub; omega))) (decide_eq_true (by first | omega | (unfold isub; omega)))) (allC (andT (decide_eq_true (by first | omega | (unfold isub; omega))) (decide_eq_true (by first | omega | (unfold isub; omega)))) allN))))

theorem pl_f28_2_5 (x : Vars) : (funH Try.prog G26 noLT true 1000 28 (argsP pl_P0 0 (litL (litL (mkL x 0 (kdsP pl_P0)) 222 2) 223 5)) (memP pl_P0 (litL (litL (mkL x 0 (kdsP pl_P0)) 222 2) 223 5)) [false, false]).map (fun r => (normR r.1, untupR r.1 && r.1.flat, r.2)) = some (pl_v2_5 x, true, pl_cs28_2_5 x) := by kernel_rfl


noncomputable def pl_cs28_2_6 (x : Vars) : List Bool := [(!(!(decide (((pl_E0_a0 x).i 0) = 0)))), (!((decide (((pl_E0_a0 x).i 0) = 0)) && ((!(decide (2 ≤ (isub (x.i 24) 1)))) || (!(decide (6 ≤ (isub (x.i 25) 1))))))), ((decide ((-(9223372036854775807 + 1)) ≤ (isub (x.i 25) 1))) && (decide ((isub (x.i 25) 1) ≤ 9223372036854775807))), ((decide ((-(9223372036854775807 + 1)) ≤ (isub (x.i 24) 1))) && (decide ((isub (x.i 24) 1) ≤ 9223372036854775807)))]

set_option maxRecDepth 100000 in
theorem pl_c28_2_6 (x : Vars) (ho : OkV (kdsP pl_P0) x) (h0 : plB0 (mkL x 0 (kdsP pl_P0)) = false) (h1 : plB1 (mkL x 0 (kdsP pl_P0)) = false) (hz : x.i 222 = 2) (hz2 : x.i 223 = 6) : ∀ b ∈ pl_cs28_2_6 x, b = true := by
  have w24 := Bool.and_eq_true_iff.1 (ho 24 _ rfl)
  have w25 := Bool.and_eq_true_iff.1 (ho 25 _ rfl)
  have w1 : (-128 : Int) ≤ x.i 24 := of_decide_eq_true w24.1
  have w2 : x.i 24 ≤ 127 := of_decide_eq_true w24.2
  have w3 : (-128 : Int) ≤ x.i 25 := of_decide_eq_true w25.1
  have w4 : x.i 25 ≤ 127 := of_decide_eq_true w25.2
  have b := plIn x h1
  unfold pl_cs28_2_6
  exact (allC (notT (notF (notBF ((show (_ : Bool) = plB0 (normL (litL (litL (mkL x 0 (kdsP pl_P0)) 222 2) 223 6)) from by kernel_rfl).trans ((congrArg plB0 (litL_mk2 (litL_mk hz) hz2)).trans h0))))) (allC (notT (andFr (orF (notF (decide_eq_true (by first | omega | (unfold isub; omega)))) (notF (decide_eq_true (by first | omega | (unfold isub; omega))))))) (allC (andT (decide_eq_true (by first | omega | (unfold isub; omega))) (decide_eq_true (by first | omega | (unfold isub; omega)))) (allC (andT (decide_eq_true (by first | omega | (unfold isub; omega))) (decide_eq_true (by first | omega | (unfold isub; omega)))) allN))))

theorem pl_f28_2_6 (x : Vars) : (funH Try.prog G26 noLT true 1000 28 (argsP pl_P0 0 (litL (litL (mkL x 0 (kdsP pl_P0)) 222 2) 223 6)) (memP pl_P0 (litL (litL (mkL x 0 (kdsP pl_P0)) 222 2) 223 6)) [false, false]).map (fun r => (normR r.1, untupR r.1 && r.1.flat, r.2)) = some (pl_v2_6 x, true, pl_cs28_2_6 x) := by kernel_rfl


noncomputable def pl_cs28_2_7 (x : Vars) : List Bool := [(!(!(decide (((pl_E0_a0 x).i 0) = 0)))), (!((decide (((pl_E0_a0 x).i 0) = 0)) && ((!(decide (2 ≤ (isub (x.i 24) 1)))) || (!(decide (7 ≤ (isub (x.i 25) 1))))))), ((decide ((-(9223372036854775807 + 1)) ≤ (isub (x.i 25) 1))) && (decide ((isub (x.i 25) 1) ≤ 9223372036854775807))), ((decide ((-(9223372036854775807 + 1)) ≤ (isub (x.i 24) 1))) && (decide ((isub (x.i 24) 1) ≤ 9223372036854775807)))]

set_option maxRecDepth 100000 in
theorem pl_c28_2_7 (x : Vars) (ho : OkV (kdsP pl_P0) x) (h0 : plB0 (mkL x 0 (kdsP pl_P0)) = false) (h1 : plB1 (mkL x 0 (kdsP pl_P0)) = false) (hz : x.i 222 = 2) (hz2 : x.i 223 = 7) : ∀ b ∈ pl_cs28_2_7 x, b = true := by
  have w24 := Bool.and_eq_true_iff.1 (ho 24 _ rfl)
  have w25 := Bool.and_eq_true_iff.1 (ho 25 _ rfl)
  have w1 : (-128 : Int) ≤ x.i 24 := of_decide_eq_true w24.1
  have w2 : x.i 24 ≤ 127 := of_decide_eq_true w24.2
  have w3 : (-128 : Int) ≤ x.i 25 := of_decide_eq_true w25.1
  have w4 : x.i 25 ≤ 127 := of_decide_eq_true w25.2
  have b := plIn x h1
  unfold pl_cs28_2_7
  exact (allC (notT (notF (notBF ((show (_ : Bool) = plB0 (normL (litL (litL (mkL x 0 (kdsP pl_P0)) 222 2) 223 7)) from by kernel_rfl).trans ((congrArg plB0 (litL_mk2 (litL_mk hz) hz2)).trans h0))))) (allC (notT (andFr (orF (notF (decide_eq_true (by first | omega | (unfold isub; omega)))) (notF (decide_eq_true (by first | omega | (unfold isub; omega))))))) (allC (andT (decide_eq_true (by first | omega | (unfold isub; omega))) (decide_eq_true (by first | omega | (unfold isub; omega)))) (allC (andT (decide_eq_true (by first | omega | (unfold isub; omega))) (decide_eq_true (by first | omega | (unfold isub; omega)))) allN))))

theorem pl_f28_2_7 (x : Vars) : (funH Try.prog G26 noLT true 1000 28 (argsP pl_P0 0 (litL (litL (mkL x 0 (kdsP pl_P0)) 222 2) 223 7)) (memP pl_P0 (litL (litL (mkL x 0 (kdsP pl_P0)) 222 2) 223 7)) [false, false]).map (fun r => (normR r.1, untupR r.1 && r.1.flat, r.2)) = some (pl_v2_7 x, true, pl_cs28_2_7 x) := by kernel_rfl


noncomputable def pl_cs28_3_0 (x : Vars) : List Bool := [(!(!(decide (((pl_E0_a0 x).i 0) = 0)))), (!((decide (((pl_E0_a0 x).i 0) = 0)) && ((!(decide (3 ≤ (isub (x.i 24) 1)))) || (!(decide (0 ≤ (isub (x.i 25) 1))))))), ((decide ((-(9223372036854775807 + 1)) ≤ (isub (x.i 25) 1))) && (decide ((isub (x.i 25) 1) ≤ 9223372036854775807))), ((decide ((-(9223372036854775807 + 1)) ≤ (isub (x.i 24) 1))) && (decide ((isub (x.i 24) 1) ≤ 9223372036854775807)))]

set_option maxRecDepth 100000 in
theorem pl_c28_3_0 (x : Vars) (ho : OkV (kdsP pl_P0) x) (h0 : plB0 (mkL x 0 (kdsP pl_P0)) = false) (h1 : plB1 (mkL x 0 (kdsP pl_P0)) = false) (hz : x.i 222 = 3) (hz2 : x.i 223 = 0) : ∀ b ∈ pl_cs28_3_0 x, b = true := by
  have w24 := Bool.and_eq_true_iff.1 (ho 24 _ rfl)
  have w25 := Bool.and_eq_true_iff.1 (ho 25 _ rfl)
  have w1 : (-128 : Int) ≤ x.i 24 := of_decide_eq_true w24.1
  have w2 : x.i 24 ≤ 127 := of_decide_eq_true w24.2
  have w3 : (-128 : Int) ≤ x.i 25 := of_decide_eq_true w25.1
  have w4 : x.i 25 ≤ 127 := of_decide_eq_true w25.2
  have b := plIn x h1
  unfold pl_cs28_3_0
  exact (allC (notT (notF (notBF ((show (_ : Bool) = plB0 (normL (litL (litL (mkL x 0 (kdsP pl_P0)) 222 3) 223 0)) from by kernel_rfl).trans ((congrArg plB0 (litL_mk2 (litL_mk hz) hz2)).trans h0))))) (allC (notT (andFr (orF (notF (decide_eq_true (by first | omega | (unfold isub; omega)))) (notF (decide_eq_true (by first | omega | (unfold isub; omega))))))) (allC (andT (decide_eq_true (by first | omega | (unfold isub; omega))) (decide_eq_true (by first | omega | (unfold isub; omega)))) (allC (andT (decide_eq_true (by first | omega | (unfold isub; omega))) (decide_eq_true (by first | omega | (unfold isub; omega)))) allN))))

theorem pl_f28_3_0 (x : Vars) : (funH Try.prog G26 noLT true 1000 28 (argsP pl_P0 0 (litL (litL (mkL x 0 (kdsP pl_P0)) 222 3) 223 0)) (memP pl_P0 (litL (litL (mkL x 0 (kdsP pl_P0)) 222 3) 223 0)) [false, false]).map (fun r => (normR r.1, untupR r.1 && r.1.flat, r.2)) = some (pl_v3_0 x, true, pl_cs28_3_0 x) := by kernel_rfl


noncomputable def pl_cs28_3_1 (x : Vars) : List Bool := [(!(!(decide (((pl_E0_a0 x).i 0) = 0)))), (!((decide (((pl_E0_a0 x).i 0) = 0)) && ((!(decide (3 ≤ (isub (x.i 24) 1)))) || (!(decide (1 ≤ (isub (x.i 25) 1))))))), ((decide ((-(9223372036854775807 + 1)) ≤ (isub (x.i 25) 1))) && (decide ((isub (x.i 25) 1) ≤ 9223372036854775807))), ((decide ((-(9223372036854775807 + 1)) ≤ (isub (x.i 24) 1))) && (decide ((isub (x.i 24) 1) ≤ 9223372036854775807)))]

set_option maxRecDepth 100000 in
theorem pl_c28_3_1 (x : Vars) (ho : OkV (kdsP pl_P0) x) (h0 : plB0 (mkL x 0 (kdsP pl_P0)) = false) (h1 : plB1 (mkL x 0 (kdsP pl_P0)) = false) (hz : x.i 222 = 3) (hz2 : x.i 223 = 1) : ∀ b ∈ pl_cs28_3_1 x, b = true := by
  have w24 := Bool.and_eq_true_iff.1 (ho 24 _ rfl)
  have w25 := Bool.and_eq_true_iff.1 (ho 25 _ rfl)
  have w1 : (-128 : Int) ≤ x.i 24 := of_decide_eq_true w24.1
  have w2 : x.i 24 ≤ 127 := of_decide_eq_true w24.2
  have w3 : (-128 : Int) ≤ x.i 25 := of_decide_eq_true w25.1
  have w4 : x.i 25 ≤ 127 := of_decide_eq_true w25.2
  have b := plIn x h1
  unfold pl_cs28_3_1
  exact (allC (notT (notF (notBF ((show (_ : Bool) = plB0 (normL (litL (litL (mkL x 0 (kdsP pl_P0)) 222 3) 223 1)) from by kernel_rfl).trans ((congrArg plB0 (litL_mk2 (litL_mk hz) hz2)).trans h0))))) (allC (notT (andFr (orF (notF (decide_eq_true (by first | omega | (unfold isub; omega)))) (notF (decide_eq_true (by first | omega | (unfold isub; omega))))))) (allC (andT (decide_eq_true (by first | omega | (unfold isub; omega))) (decide_eq_true (by first | omega | (unfold isub; omega)))) (allC (andT (decide_eq_true (by first | omega | (unfold isub; omega))) (decide_eq_true (by first | omega | (unfold isub; omega)))) allN))))

theorem pl_f28_3_1 (x : Vars) : (funH Try.prog G26 noLT true 1000 28 (argsP pl_P0 0 (litL (litL (mkL x 0 (kdsP pl_P0)) 222 3) 223 1)) (memP pl_P0 (litL (litL (mkL x 0 (kdsP pl_P0)) 222 3) 223 1)) [false, false]).map (fun r => (normR r.1, untupR r.1 && r.1.flat, r.2)) = some (pl_v3_1 x, true, pl_cs28_3_1 x) := by kernel_rfl


noncomputable def pl_cs28_3_2 (x : Vars) : List Bool := [(!(!(decide (((pl_E0_a0 x).i 0) = 0)))), (!((decide (((pl_E0_a0 x).i 0) = 0)) && ((!(decide (3 ≤ (isub (x.i 24) 1)))) || (!(decide (2 ≤ (isub (x.i 25) 1))))))), ((decide ((-(9223372036854775807 + 1)) ≤ (isub (x.i 25) 1))) && (decide ((isub (x.i 25) 1) ≤ 9223372036854775807))), ((decide ((-(9223372036854775807 + 1)) ≤ (isub (x.i 24) 1))) && (decide ((isub (x.i 24) 1) ≤ 9223372036854775807)))]

set_option maxRecDepth 100000 in
theorem pl_c28_3_2 (x : Vars) (ho : OkV (kdsP pl_P0) x) (h0 : plB0 (mkL x 0 (kdsP pl_P0)) = false) (h1 : plB1 (mkL x 0 (kdsP pl_P0)) = false) (hz : x.i 222 = 3) (hz2 : x.i 223 = 2) : ∀ b ∈ pl_cs28_3_2 x, b = true := by
  have w24 := Bool.and_eq_true_iff.1 (ho 24 _ rfl)
  have w25 := Bool.and_eq_true_iff.1 (ho 25 _ rfl)
  have w1 : (-128 : Int) ≤ x.i 24 := of_decide_eq_true w24.1
  have w2 : x.i 24 ≤ 127 := of_decide_eq_true w24.2
  have w3 : (-128 : Int) ≤ x.i 25 := of_decide_eq_true w25.1
  have w4 : x.i 25 ≤ 127 := of_decide_eq_true w25.2
  have b := plIn x h1
  unfold pl_cs28_3_2
  exact (allC (notT (notF (notBF ((show (_ : Bool) = plB0 (normL (litL (litL (mkL x 0 (kdsP pl_P0)) 222 3) 223 2)) from by kernel_rfl).trans ((congrArg plB0 (litL_mk2 (litL_mk hz) hz2)).trans h0))))) (allC (notT (andFr (orF (notF (decide_eq_true (by first | omega | (unfold isub; omega)))) (notF (decide_eq_true (by first | omega | (unfold isub; omega))))))) (allC (andT (decide_eq_true (by first | omega | (unfold isub; omega))) (decide_eq_true (by first | omega | (unfold isub; omega)))) (allC (andT (decide_eq_true (by first | omega | (unfold isub; omega))) (decide_eq_true (by first | omega | (unfold isub; omega)))) allN))))

theorem pl_f28_3_2 (x : Vars) : (funH Try.prog G26 noLT true 1000 28 (argsP pl_P0 0 (litL (litL (mkL x 0 (kdsP pl_P0)) 222 3) 223 2)) (memP pl_P0 (litL (litL (mkL x 0 (kdsP pl_P0)) 222 3) 223 2)) [false, false]).map (fun r => (normR r.1, untupR r.1 && r.1.flat, r.2)) = some (pl_v3_2 x, true, pl_cs28_3_2 x) := by kernel_rfl


noncomputable def pl_cs28_3_3 (x : Vars) : List Bool := [(!(!(decide (((pl_E0_a0 x).i 0) = 0)))), (!((decide (((pl_E0_a0 x).i 0) = 0)) && ((!(decide (3 ≤ (isub (x.i 24) 1)))) || (!(decide (3 ≤ (isub (x.i 25) 1))))))), ((decide ((-(9223372036854775807 + 1)) ≤ (isub (x.i 25) 1))) && (decide ((isub (x.i 25) 1) ≤ 9223372036854775807))), ((decide ((-(9223372036854775807 + 1)) ≤ (isub (x.i 24) 1))) && (decide ((isub (x.i 24) 1) ≤ 9223372036854775807)))]

set_option maxRecDepth 100000 in
theorem pl_c28_3_3 (x : Vars) (ho : OkV (kdsP pl_P0) x) (h0 : plB0 (mkL x 0 (kdsP pl_P0)) = false) (h1 : plB1 (mkL x 0 (kdsP pl_P0)) = false) (hz : x.i 222 = 3) (hz2 : x.i 223 = 3) : ∀ b ∈ pl_cs28_3_3 x, b = true := by
  have w24 := Bool.and_eq_true_iff.1 (ho 24 _ rfl)
  have w25 := Bool.and_eq_true_iff.1 (ho 25 _ rfl)
  have w1 : (-128 : Int) ≤ x.i 24 := of_decide_eq_true w24.1
  have w2 : x.i 24 ≤ 127 := of_decide_eq_true w24.2
  have w3 : (-128 : Int) ≤ x.i 25 := of_decide_eq_true w25.1
  have w4 : x.i 25 ≤ 127 := of_decide_eq_true w25.2
  have b := plIn x h1
  unfold pl_cs28_3_3
  exact (allC (notT (notF (notBF ((show (_ : Bool) = plB0 (normL (litL (litL (mkL x 0 (kdsP pl_P0)) 222 3) 223 3)) from by kernel_rfl).trans ((congrArg plB0 (litL_mk2 (litL_mk hz) hz2)).trans h0))))) (allC (notT (andFr (orF (notF (decide_eq_true (by first | omega | (unfold isub; omega)))) (notF (decide_eq_true (by first | omega | (unfold isub; omega))))))) (allC (andT (decide_eq_true (by first | omega | (unfold isub; omega))) (decide_eq_true (by first | omega | (unfold isub; omega)))) (allC (andT (decide_eq_true (by first | omega | (unfold isub; omega))) (decide_eq_true (by first | omega | (unfold isub; omega)))) allN))))

theorem pl_f28_3_3 (x : Vars) : (funH Try.prog G26 noLT true 1000 28 (argsP pl_P0 0 (litL (litL (mkL x 0 (kdsP pl_P0)) 222 3) 223 3)) (memP pl_P0 (litL (litL (mkL x 0 (kdsP pl_P0)) 222 3) 223 3)) [false, false]).map (fun r => (normR r.1, untupR r.1 && r.1.flat, r.2)) = some (pl_v3_3 x, true, pl_cs28_3_3 x) := by kernel_rfl


noncomputable def pl_cs28_3_4 (x : Vars) : List Bool := [(!(!(decide (((pl_E0_a0 x).i 0) = 0)))), (!((decide (((pl_E0_a0 x).i 0) = 0)) && ((!(decide (3 ≤ (isub (x.i 24) 1)))) || (!(decide (4 ≤ (isub (x.i 25) 1))))))), ((decide ((-(9223372036854775807 + 1)) ≤ (isub (x.i 25) 1))) && (decide ((isub (x.i 25) 1) ≤ 9223372036854775807))), ((decide ((-(9223372036854775807 + 1)) ≤ (isub (x.i 24) 1))) && (decide ((isub (x.i 24) 1) ≤ 9223372036854775807)))]

set_option maxRecDepth 100000 in
theorem pl_c28_3_4 (x : Vars) (ho : OkV (kdsP pl_P0) x) (h0 : plB0 (mkL x 0 (kdsP pl_P0)) = false) (h1 : plB1 (mkL x 0 (kdsP pl_P0)) = false) (hz : x.i 222 = 3) (hz2 : x.i 223 = 4) : ∀ b ∈ pl_cs28_3_4 x, b = true := by
  have w24 := Bool.and_eq_true_iff.1 (ho 24 _ rfl)
  have w25 := Bool.and_eq_true_iff.1 (ho 25 _ rfl)
  have w1 : (-128 : Int) ≤ x.i 24 := of_decide_eq_true w24.1
  have w2 : x.i 24 ≤ 127 := of_decide_eq_true w24.2
  have w3 : (-128 : Int) ≤ x.i 25 := of_decide_eq_true w25.1
  have w4 : x.i 25 ≤ 127 := of_decide_eq_true w25.2
  have b := plIn x h1
  unfold pl_cs28_3_4
  exact (allC (notT (notF (notBF ((show (_ : Bool) = plB0 (normL (litL (litL (mkL x 0 (kdsP pl_P0)) 222 3) 223 4)) from by kernel_rfl).trans ((congrArg plB0 (litL_mk2 (litL_mk hz) hz2)).trans h0))))) (allC (notT (andFr (orF (notF (decide_eq_true (by first | omega | (unfold isub; omega)))) (notF (decide_eq_true (by first | omega | (unfold isub; omega))))))) (allC (andT (decide_eq_true (by first | omega | (unfold isub; omega))) (decide_eq_true (by first | omega | (unfold isub; omega)))) (allC (andT (decide_eq_true (by first | omega | (unfold isub; omega))) (decide_eq_true (by first | omega | (unfold isub; omega)))) allN))))

theorem pl_f28_3_4 (x : Vars) : (funH Try.prog G26 noLT true 1000 28 (argsP pl_P0 0 (litL (litL (mkL x 0 (kdsP pl_P0)) 222 3) 223 4)) (memP pl_P0 (litL (litL (mkL x 0 (kdsP pl_P0)) 222 3) 223 4)) [false, false]).map (fun r => (normR r.1, untupR r.1 && r.1.flat, r.2)) = some (pl_v3_4 x, true, pl_cs28_3_4 x) := by kernel_rfl


noncomputable def pl_cs28_3_5 (x : Vars) : List Bool := [(!(!(decide (((pl_E0_a0 x).i 0) = 0)))), (!((decide (((pl_E0_a0 x).i 0) = 0)) && ((!(decide (3 ≤ (isub (x.i 24) 1)))) || (!(decide (5 ≤ (isub (x.i 25) 1))))))), ((decide ((-(9223372036854775807 + 1)) ≤ (isub (x.i 25) 1))) && (decide ((isub (x.i 25) 1) ≤ 9223372036854775807))), ((decide ((-(9223372036854775807 + 1)) ≤ (isub (x.i 24) 1))) && (decide ((isub (x.i 24) 1) ≤ 9223372036854775807)))]

set_option maxRecDepth 100000 in
theorem pl_c28_3_5 (x : Vars) (ho : OkV (kdsP pl_P0) x) (h0 : plB0 (mkL x 0 (kdsP pl_P0)) = false) (h1 : plB1 (mkL x 0 (kdsP pl_P0)) = false) (hz : x.i 222 = 3) (hz2 : x.i 223 = 5) : ∀ b ∈ pl_cs28_3_5 x, b = true := by
  have w24 := Bool.and_eq_true_iff.1 (ho 24 _ rfl)
  have w25 := Bool.and_eq_true_iff.1 (ho 25 _ rfl)
  have w1 : (-128 : Int) ≤ x.i 24 := of_decide_eq_true w24.1
  have w2 : x.i 24 ≤ 127 := of_decide_eq_true w24.2
  have w3 : (-128 : Int) ≤ x.i 25 := of_decide_eq_true w25.1
  have w4 : x.i 25 ≤ 127 := of_decide_eq_true w25.2
  have b := plIn x h1
  unfold pl_cs28_3_5
  exact (allC (notT (notF (notBF ((show (_ : Bool) = plB0 (normL (litL (litL (mkL x 0 (kdsP pl_P0)) 222 3) 223 5)) from by kernel_rfl).trans ((congrArg plB0 (litL_mk2 (litL_mk hz) hz2)).trans h0))))) (allC (notT (andFr (orF (notF (decide_eq_true (by first | omega | (unfold isub; omega)))) (notF (decide_eq_true (by first | omega | (unfold isub; omega))))))) (allC (andT (decide_eq_true (by first | omega | (unfold isub; omega))) (decide_eq_true (by first | omega | (unfold isub; omega)))) (allC (andT (decide_eq_true (by first | omega | (unfold isub; omega))) (decide_eq_true (by first | omega | (unfold isub; omega)))) allN))))

theorem pl_f28_3_5 (x : Vars) : (funH Try.prog G26 noLT true 1000 28 (argsP pl_P0 0 (litL (litL (mkL x 0 (kdsP pl_P0)) 222 3) 223 5)) (memP pl_P0 (litL (litL (mkL x 0 (kdsP pl_P0)) 222 3) 223 5)) [false, false]).map (fun r => (normR r.1, untupR r.1 && r.1.flat, r.2)) = some (pl_v3_5 x, true, pl_cs28_3_5 x) := by kernel_rfl


noncomputable def pl_cs28_3_6 (x : Vars) : List Bool := [(!(!(decide (((pl_E0_a0 x).i 0) = 0)))), (!((decide (((pl_E0_a0 x).i 0) = 0)) && ((!(decide (3 ≤ (isub (x.i 24) 1)))) || (!(decide (6 ≤ (isub (x.i 25) 1))))))), ((decide ((-(9223372036854775807 + 1)) ≤ (isub (x.i 25) 1))) && (decide ((isub (x.i 25) 1) ≤ 9223372036854775807))), ((decide ((-(9223372036854775807 + 1)) ≤ (isub (x.i 24) 1))) && (decide ((isub (x.i 24) 1) ≤ 9223372036854775807)))]

set_option maxRecDepth 100000 in
theorem pl_c28_3_6 (x : Vars) (ho : OkV (kdsP pl_P0) x) (h0 : plB0 (mkL x 0 (kdsP pl_P0)) = false) (h1 : plB1 (mkL x 0 (kdsP pl_P0)) = false) (hz : x.i 222 = 3) (hz2 : x.i 223 = 6) : ∀ b ∈ pl_cs28_3_6 x, b = true := by
  have w24 := Bool.and_eq_true_iff.1 (ho 24 _ rfl)
  have w25 := Bool.and_eq_true_iff.1 (ho 25 _ rfl)
  have w1 : (-128 : Int) ≤ x.i 24 := of_decide_eq_true w24.1
  have w2 : x.i 24 ≤ 127 := of_decide_eq_true w24.2
  have w3 : (-128 : Int) ≤ x.i 25 := of_decide_eq_true w25.1
  have w4 : x.i 25 ≤ 127 := of_decide_eq_true w25.2
  have b := plIn x h1
  unfold pl_cs28_3_6
  exact (allC (notT (notF (notBF ((show (_ : Bool) = plB0 (normL (litL (litL (mkL x 0 (kdsP pl_P0)) 222 3) 223 6)) from by kernel_rfl).trans ((congrArg plB0 (litL_mk2 (litL_mk hz) hz2)).trans h0))))) (allC (notT (andFr (orF (notF (decide_eq_true (by first | omega | (unfold isub; omega)))) (notF (decide_eq_true (by first | omega | (unfold isub; omega))))))) (allC (andT (decide_eq_true (by first | omega | (unfold isub; omega))) (decide_eq_true (by first | omega | (unfold isub; omega)))) (allC (andT (decide_eq_true (by first | omega | (unfold isub; omega))) (decide_eq_true (by first | omega | (unfold isub; omega)))) allN))))

theorem pl_f28_3_6 (x : Vars) : (funH Try.prog G26 noLT true 1000 28 (argsP pl_P0 0 (litL (litL (mkL x 0 (kdsP pl_P0)) 222 3) 223 6)) (memP pl_P0 (litL (litL (mkL x 0 (kdsP pl_P0)) 222 3) 223 6)) [false, false]).map (fun r => (normR r.1, untupR r.1 && r.1.flat, r.2)) = some (pl_v3_6 x, true, pl_cs28_3_6 x) := by kernel_rfl


noncomputable def pl_cs28_3_7 (x : Vars) : List Bool := [(!(!(decide (((pl_E0_a0 x).i 0) = 0)))), (!((decide (((pl_E0_a0 x).i 0) = 0)) && ((!(decide (3 ≤ (isub (x.i 24) 1)))) || (!(decide (7 ≤ (isub (x.i 25) 1))))))), ((decide ((-(9223372036854775807 + 1)) ≤ (isub (x.i 25) 1))) && (decide ((isub (x.i 25) 1) ≤ 9223372036854775807))), ((decide ((-(9223372036854775807 + 1)) ≤ (isub (x.i 24) 1))) && (decide ((isub (x.i 24) 1) ≤ 9223372036854775807)))]

set_option maxRecDepth 100000 in
theorem pl_c28_3_7 (x : Vars) (ho : OkV (kdsP pl_P0) x) (h0 : plB0 (mkL x 0 (kdsP pl_P0)) = false) (h1 : plB1 (mkL x 0 (kdsP pl_P0)) = false) (hz : x.i 222 = 3) (hz2 : x.i 223 = 7) : ∀ b ∈ pl_cs28_3_7 x, b = true := by
  have w24 := Bool.and_eq_true_iff.1 (ho 24 _ rfl)
  have w25 := Bool.and_eq_true_iff.1 (ho 25 _ rfl)
  have w1 : (-128 : Int) ≤ x.i 24 := of_decide_eq_true w24.1
  have w2 : x.i 24 ≤ 127 := of_decide_eq_true w24.2
  have w3 : (-128 : Int) ≤ x.i 25 := of_decide_eq_true w25.1
  have w4 : x.i 25 ≤ 127 := of_decide_eq_true w25.2
  have b := plIn x h1
  unfold pl_cs28_3_7
  exact (allC (notT (notF (notBF ((show (_ : Bool) = plB0 (normL (litL (litL (mkL x 0 (kdsP pl_P0)) 222 3) 223 7)) from by kernel_rfl).trans ((congrArg plB0 (litL_mk2 (litL_mk hz) hz2)).trans h0))))) (allC (notT (andFr (orF (notF (decide_eq_true (by first | omega | (unfold isub; omega)))) (notF (decide_eq_true (by first | omega | (unfold isub; omega))))))) (allC (andT (decide_eq_true (by first | omega | (unfold isub; omega))) (decide_eq_true (by first | omega | (unfold isub; omega)))) (allC (andT (decide_eq_true (by first | omega | (unfold isub; omega))) (decide_eq_true (by first | omega | (unfold isub; omega)))) allN))))

theorem pl_f28_3_7 (x : Vars) : (funH Try.prog G26 noLT true 1000 28 (argsP pl_P0 0 (litL (litL (mkL x 0 (kdsP pl_P0)) 222 3) 223 7)) (memP pl_P0 (litL (litL (mkL x 0 (kdsP pl_P0)) 222 3) 223 7)) [false, false]).map (fun r => (normR r.1, untupR r.1 && r.1.flat, r.2)) = some (pl_v3_7 x, true, pl_cs28_3_7 x) := by kernel_rfl


noncomputable def pl_cs28_4_0 (x : Vars) : List Bool := [(!(!(decide (((pl_E0_a0 x).i 0) = 0)))), (!((decide (((pl_E0_a0 x).i 0) = 0)) && ((!(decide (4 ≤ (isub (x.i 24) 1)))) || (!(decide (0 ≤ (isub (x.i 25) 1))))))), ((decide ((-(9223372036854775807 + 1)) ≤ (isub (x.i 25) 1))) && (decide ((isub (x.i 25) 1) ≤ 9223372036854775807))), ((decide ((-(9223372036854775807 + 1)) ≤ (isub (x.i 24) 1))) && (decide ((isub (x.i 24) 1) ≤ 9223372036854775807)))]

set_option maxRecDepth 100000 in
theorem pl_c28_4_0 (x : Vars) (ho : OkV (kdsP pl_P0) x) (h0 : plB0 (mkL x 0 (kdsP pl_P0)) = false) (h1 : plB1 (mkL x 0 (kdsP pl_P0)) = false) (hz : x.i 222 = 4) (hz2 : x.i 223 = 0) : ∀ b ∈ pl_cs28_4_0 x, b = true := by
  have w24 := Bool.and_eq_true_iff.1 (ho 24 _ rfl)
  have w25 := Bool.and_eq_true_iff.1 (ho 25 _ rfl)
  have w1 : (-128 : Int) ≤ x.i 24 := of_decide_eq_true w24.1
  have w2 : x.i 24 ≤ 127 := of_decide_eq_true w24.2
  have w3 : (-128 : Int) ≤ x.i 25 := of_decide_eq_true w25.1
  have w4 : x.i 25 ≤ 127 := of_decide_eq_true w25.2
  have b := plIn x h1
  unfold pl_cs28_4_0
  exact (allC (notT (notF (notBF ((show (_ : Bool) = plB0 (normL (litL (litL (mkL x 0 (kdsP pl_P0)) 222 4) 223 0)) from by kernel_rfl).trans ((congrArg plB0 (litL_mk2 (litL_mk hz) hz2)).trans h0))))) (allC (notT (andFr (orF (notF (decide_eq_true (by first | omega | (unfold isub; omega)))) (notF (decide_eq_true (by first | omega | (unfold isub; omega))))))) (allC (andT (decide_eq_true (by first | omega | (unfold isub; omega))) (decide_eq_true (by first | omega | (unfold isub; omega)))) (allC (andT (decide_eq_true (by first | omega | (unfold isub; omega))) (decide_eq_true (by first | omega | (unfold isub; omega)))) allN))))

theorem pl_f28_4_0 (x : Vars) : (funH Try.prog G26 noLT true 1000 28 (argsP pl_P0 0 (litL (litL (mkL x 0 (kdsP pl_P0)) 222 4) 223 0)) (memP pl_P0 (litL (litL (mkL x 0 (kdsP pl_P0)) 222 4) 223 0)) [false, false]).map (fun r => (normR r.1, untupR r.1 && r.1.flat, r.2)) = some (pl_v4_0 x, true, pl_cs28_4_0 x) := by kernel_rfl


noncomputable def pl_cs28_4_1 (x : Vars) : List Bool := [(!(!(decide (((pl_E0_a0 x).i 0) = 0)))), (!((decide (((pl_E0_a0 x).i 0) = 0)) && ((!(decide (4 ≤ (isub (x.i 24) 1)))) || (!(decide (1 ≤ (isub (x.i 25) 1))))))), ((decide ((-(9223372036854775807 + 1)) ≤ (isub (x.i 25) 1))) && (decide ((isub (x.i 25) 1) ≤ 9223372036854775807))), ((decide ((-(9223372036854775807 + 1)) ≤ (isub (x.i 24) 1))) && (decide ((isub (x.i 24) 1) ≤ 9223372036854775807)))]

set_option maxRecDepth 100000 in
theorem pl_c28_4_1 (x : Vars) (ho : OkV (kdsP pl_P0) x) (h0 : plB0 (mkL x 0 (kdsP pl_P0)) = false) (h1 : plB1 (mkL x 0 (kdsP pl_P0)) = false) (hz : x.i 222 = 4) (hz2 : x.i 223 = 1) : ∀ b ∈ pl_cs28_4_1 x, b = true := by
  have w24 := Bool.and_eq_true_iff.1 (ho 24 _ rfl)
  have w25 := Bool.and_eq_true_iff.1 (ho 25 _ rfl)
  have w1 : (-128 : Int) ≤ x.i 24 := of_decide_eq_true w24.1
  have w2 : x.i 24 ≤ 127 := of_decide_eq_true w24.2
  have w3 : (-128 : Int) ≤ x.i 25 := of_decide_eq_true w25.1
  have w4 : x.i 25 ≤ 127 := of_decide_eq_true w25.2
  have b := plIn x h1
  unfold pl_cs28_4_1
  exact (allC (notT (notF (notBF ((show (_ : Bool) = plB0 (normL (litL (litL (mkL x 0 (kdsP pl_P0)) 222 4) 223 1)) from by kernel_rfl).trans ((congrArg plB0 (litL_mk2 (litL_mk hz) hz2)).trans h0))))) (allC (notT (andFr (orF (notF (decide_eq_true (by first | omega | (unfold isub; omega)))) (notF (decide_eq_true (by first | omega | (unfold isub; omega))))))) (allC (andT (decide_eq_true (by first | omega | (unfold isub; omega))) (decide_eq_true (by first | omega | (unfold isub; omega)))) (allC (andT (decide_eq_true (by first | omega | (unfold isub; omega))) (decide_eq_true (by first | omega | (unfold isub; omega)))) allN))))

theorem pl_f28_4_1 (x : Vars) : (funH Try.prog G26 noLT true 1000 28 (argsP pl_P0 0 (litL (litL (mkL x 0 (kdsP pl_P0)) 222 4) 223 1)) (memP pl_P0 (litL (litL (mkL x 0 (kdsP pl_P0)) 222 4) 223 1)) [false, false]).map (fun r => (normR r.1, untupR r.1 && r.1.flat, r.2)) = some (pl_v4_1 x, true, pl_cs28_4_1 x) := by kernel_rfl


noncomputable def pl_cs28_4_2 (x : Vars) : List Bool := [(!(!(decide (((pl_E0_a0 x).i 0) = 0)))), (!((decide (((pl_E0_a0 x).i 0) = 0)) && ((!(decide (4 ≤ (isub (x.i 24) 1)))) || (!(decide (2 ≤ (isub (x.i 25) 1))))))), ((decide ((-(9223372036854775807 + 1)) ≤ (isub (x.i 25) 1))) && (decide ((isub (x.i 25) 1) ≤ 9223372036854775807))), ((decide ((-(9223372036854775807 + 1)) ≤ (isub (x.i 24) 1))) && (decide ((isub (x.i 24) 1) ≤ 9223372036854775807)))]

set_option maxRecDepth 100000 in
theorem pl_c28_4_2 (x : Vars) (ho : OkV (kdsP pl_P0) x) (h0 : plB0 (mkL x 0 (kdsP pl_P0)) = false) (h1 : plB1 (mkL x 0 (kdsP pl_P0)) = false) (hz : x.i 222 = 4) (hz2 : x.i 223 = 2) : ∀ b ∈ pl_cs28_4_2 x, b = true := by
  have w24 := Bool.and_eq_true_iff.1 (ho 24 _ rfl)
  have w25 := Bool.and_eq_true_iff.1 (ho 25 _ rfl)
  have w1 : (-128 : Int) ≤ x.i 24 := of_decide_eq_true w24.1
  have w2 : x.i 24 ≤ 127 := of_decide_eq_true w24.2
  have w3 : (-128 : Int) ≤ x.i 25 := of_decide_eq_true w25.1
  have w4 : x.i 25 ≤ 127 := of_decide_eq_true w25.2
  have b := plIn x h1
  unfold pl_cs28_4_2
  exact (allC (notT (notF (notBF ((show (_ : Bool) = plB0 (normL (litL (litL (mkL x 0 (kdsP pl_P0)) 222 4) 223 2)) from by kernel_rfl).trans ((congrArg plB0 (litL_mk2 (litL_mk hz) hz2)).trans h0))))) (allC (notT (andFr (orF (notF (decide_eq_true (by first | omega | (unfold isub; omega)))) (notF (decide_eq_true (by first | omega | (unfold isub; omega))))))) (allC (andT (decide_eq_true (by first | omega | (unfold isub; omega))) (decide_eq_true (by first | omega | (unfold isub; omega)))) (allC (andT (decide_eq_true (by first | omega | (unfold isub; omega))) (decide_eq_true (by first | omega | (unfold isub; omega)))) allN))))

theorem pl_f28_4_2 (x : Vars) : (funH Try.prog G26 noLT true 1000 28 (argsP pl_P0 0 (litL (litL (mkL x 0 (kdsP pl_P0)) 222 4) 223 2)) (memP pl_P0 (litL (litL (mkL x 0 (kdsP pl_P0)) 222 4) 223 2)) [false, false]).map (fun r => (normR r.1, untupR r.1 && r.1.flat, r.2)) = some (pl_v4_2 x, true, pl_cs28_4_2 x) := by kernel_rfl


noncomputable def pl_cs28_4_3 (x : Vars) : List Bool := [(!(!(decide (((pl_E0_a0 x).i 0) = 0)))), (!((decide (((pl_E0_a0 x).i 0) = 0)) && ((!(decide (4 ≤ (isub (x.i 24) 1)))) || (!(decide (3 ≤ (isub (x.i 25) 1))))))), ((decide ((-(9223372036854775807 + 1)) ≤ (isub (x.i 25) 1))) && (decide ((isub (x.i 25) 1) ≤ 9223372036854775807))), ((decide ((-(9223372036854775807 + 1)) ≤ (isub (x.i 24) 1))) && (decide ((isub (x.i 24) 1) ≤ 9223372036854775807)))]

set_option maxRecDepth 100000 in
theorem pl_c28_4_3 (x : Vars) (ho : OkV (kdsP pl_P0) x) (h0 : plB0 (mkL x 0 (kdsP pl_P0)) = false) (h1 : plB1 (mkL x 0 (kdsP pl_P0)) = false) (hz : x.i 222 = 4) (hz2 : x.i 223 = 3) : ∀ b ∈ pl_cs28_4_3 x, b = true := by
  have w24 := Bool.and_eq_true_iff.1 (ho 24 _ rfl)
  have w25 := Bool.and_eq_true_iff.1 (ho 25 _ rfl)
  have w1 : (-128 : Int) ≤ x.i 24 := of_decide_eq_true w24.1
  have w2 : x.i 24 ≤ 127 := of_decide_eq_true w24.2
  have w3 : (-128 : Int) ≤ x.i 25 := of_decide_eq_true w25.1
  have w4 : x.i 25 ≤ 127 := of_decide_eq_true w25.2
  have b := plIn x h1
  unfold pl_cs28_4_3
  exact (allC (notT (notF (notBF ((show (_ : Bool) = plB0 (normL (litL (litL (mkL x 0 (kdsP pl_P0)) 222 4) 223 3)) from by kernel_rfl).trans ((congrArg plB0 (litL_mk2 (litL_mk hz) hz2)).trans h0))))) (allC (notT (andFr (orF (notF (decide_eq_true (by first | omega | (unfold isub; omega)))) (notF (decide_eq_true (by first | omega | (unfold isub; omega))))))) (allC (andT (decide_eq_true (by first | omega | (unfold isub; omega))) (decide_eq_true (by first | omega | (unfold isub; omega)))) (allC (andT (decide_eq_true (by first | omega | (unfold isub; omega))) (decide_eq_true (by first | omega | (unfold isub; omega)))) allN))))

theorem pl_f28_4_3 (x : Vars) : (funH Try.prog G26 noLT true 1000 28 (argsP pl_P0 0 (litL (litL (mkL x 0 (kdsP pl_P0)) 222 4) 223 3)) (memP pl_P0 (litL (litL (mkL x 0 (kdsP pl_P0)) 222 4) 223 3)) [false, false]).map (fun r => (normR r.1, untupR r.1 && r.1.flat, r.2)) = some (pl_v4_3 x, true, pl_cs28_4_3 x) := by kernel_rfl


noncomputable def pl_cs28_4_4 (x : Vars) : List Bool := [(!(!(decide (((pl_E0_a0 x).i 0) = 0)))), (!((decide (((pl_E0_a0 x).i 0) = 0)) && ((!(decide (4 ≤ (isub (x.i 24) 1)))) || (!(decide (4 ≤ (isub (x.i 25) 1))))))), ((decide ((-(9223372036854775807 + 1)) ≤ (isub (x.i 25) 1))) && (decide ((isub (x.i 25) 1) ≤ 9223372036854775807))), ((decide ((-(9223372036854775807 + 1)) ≤ (isub (x.i 24) 1))) && (decide ((isub (x.i 24) 1) ≤ 9223372036854775807)))]

set_option maxRecDepth 100000 in
theorem pl_c28_4_4 (x : Vars) (ho : OkV (kdsP pl_P0) x) (h0 : plB0 (mkL x 0 (kdsP pl_P0)) = false) (h1 : plB1 (mkL x 0 (kdsP pl_P0)) = false) (hz : x.i 222 = 4) (hz2 : x.i 223 = 4) : ∀ b ∈ pl_cs28_4_4 x, b = true := by
  have w24 := Bool.and_eq_true_iff.1 (ho 24 _ rfl)
  have w25 := Bool.and_eq_true_iff.1 (ho 25 _ rfl)
  have w1 : (-128 : Int) ≤ x.i 24 := of_decide_eq_true w24.1
  have w2 : x.i 24 ≤ 127 := of_decide_eq_true w24.2
  have w3 : (-128 : Int) ≤ x.i 25 := of_decide_eq_true w25.1
  have w4 : x.i 25 ≤ 127 := of_decide_eq_true w25.2
  have b := plIn x h1
  unfold pl_cs28_4_4
  exact (allC (notT (notF (notBF ((show (_ : Bool) = plB0 (normL (litL (litL (mkL x 0 (kdsP pl_P0)) 222 4) 223 4)) from by kernel_rfl).trans ((congrArg plB0 (litL_mk2 (litL_mk hz) hz2)).trans h0))))) (allC (notT (andFr (orF (notF (decide_eq_true (by first | omega | (unfold isub; omega)))) (notF (decide_eq_true (by first | omega | (unfold isub; omega))))))) (allC (andT (decide_eq_true (by first | omega | (unfold isub; omega))) (decide_eq_true (by first | omega | (unfold isub; omega)))) (allC (andT (decide_eq_true (by first | omega | (unfold isub; omega))) (decide_eq_true (by first | omega | (unfold isub; omega)))) allN))))

theorem pl_f28_4_4 (x : Vars) : (funH Try.prog G26 noLT true 1000 28 (argsP pl_P0 0 (litL (litL (mkL x 0 (kdsP pl_P0)) 222 4) 223 4)) (memP pl_P0 (litL (litL (mkL x 0 (kdsP pl_P0)) 222 4) 223 4)) [false, false]).map (fun r => (normR r.1, untupR r.1 && r.1.flat, r.2)) = some (pl_v4_4 x, true, pl_cs28_4_4 x) := by kernel_rfl


noncomputable def pl_cs28_4_5 (x : Vars) : List Bool := [(!(!(decide (((pl_E0_a0 x).i 0) = 0)))), (!((decide (((pl_E0_a0 x).i 0) = 0)) && ((!(decide (4 ≤ (isub (x.i 24) 1)))) || (!(decide (5 ≤ (isub (x.i 25) 1))))))), ((decide ((-(9223372036854775807 + 1)) ≤ (isub (x.i 25) 1))) && (decide ((isub (x.i 25) 1) ≤ 9223372036854775807))), ((decide ((-(9223372036854775807 + 1)) ≤ (isub (x.i 24) 1))) && (decide ((isub (x.i 24) 1) ≤ 9223372036854775807)))]

set_option maxRecDepth 100000 in
theorem pl_c28_4_5 (x : Vars) (ho : OkV (kdsP pl_P0) x) (h0 : plB0 (mkL x 0 (kdsP pl_P0)) = false) (h1 : plB1 (mkL x 0 (kdsP pl_P0)) = false) (hz : x.i 222 = 4) (hz2 : x.i 223 = 5) : ∀ b ∈ pl_cs28_4_5 x, b = true := by
  have w24 := Bool.and_eq_true_iff.1 (ho 24 _ rfl)
  have w25 := Bool.and_eq_true_iff.1 (ho 25 _ rfl)
  have w1 : (-128 : Int) ≤ x.i 24 := of_decide_eq_true w24.1
  have w2 : x.i 24 ≤ 127 := of_decide_eq_true w24.2
  have w3 : (-128 : Int) ≤ x.i 25 := of_decide_eq_true w25.1
  have w4 : x.i 25 ≤ 127 := of_decide_eq_true w25.2
  have b := plIn x h1
  unfold pl_cs28_4_5
  exact (allC (notT (notF (notBF ((show (_ : Bool) = plB0 (normL (litL (litL (mkL x 0 (kdsP pl_P0)) 222 4) 223 5)) from by kernel_rfl).trans ((congrArg plB0 (litL_mk2 (litL_mk hz) hz2)).trans h0))))) (allC (notT (andFr (orF (notF (decide_eq_true (by first | omega | (unfold isub; omega)))) (notF (decide_eq_true (by first | omega | (unfold isub; omega))))))) (allC (andT (decide_eq_true (by first | omega | (unfold isub; omega))) (decide_eq_true (by first | omega | (unfold isub; omega)))) (allC (andT (decide_eq_true (by first | omega | (unfold isub; omega))) (decide_eq_true (by first | omega | (unfold isub; omega)))) allN))))

theorem pl_f28_4_5 (x : Vars) : (funH Try.prog G26 noLT true 1000 28 (argsP pl_P0 0 (litL (litL (mkL x 0 (kdsP pl_P0)) 222 4) 223 5)) (memP pl_P0 (litL (litL (mkL x 0 (kdsP pl_P0)) 222 4) 223 5)) [false, false]).map (fun r => (normR r.1, untupR r.1 && r.1.flat, r.2)) = some (pl_v4_5 x, true, pl_cs28_4_5 x) := by kernel_rfl


noncomputable def pl_cs28_4_6 (x : Vars) : List Bool := [(!(!(decide (((pl_E0_a0 x).i 0) = 0)))), (!((decide (((pl_E0_a0 x).i 0) = 0)) && ((!(decide (4 ≤ (isub (x.i 24) 1)))) || (!(decide (6 ≤ (isub (x.i 25) 1))))))), ((decide ((-(9223372036854775807 + 1)) ≤ (isub (x.i 25) 1))) && (decide ((isub (x.i 25) 1) ≤ 9223372036854775807))), ((decide ((-(9223372036854775807 + 1)) ≤ (isub (x.i 24) 1))) && (decide ((isub (x.i 24) 1) ≤ 9223372036854775807)))]

set_option maxRecDepth 100000 in
theorem pl_c28_4_6 (x : Vars) (ho : OkV (kdsP pl_P0) x) (h0 : plB0 (mkL x 0 (kdsP pl_P0)) = false) (h1 : plB1 (mkL x 0 (kdsP pl_P0)) = false) (hz : x.i 222 = 4) (hz2 : x.i 223 = 6) : ∀ b ∈ pl_cs28_4_6 x, b = true := by
  have w24 := Bool.and_eq_true_iff.1 (ho 24 _ rfl)
  have w25 := Bool.and_eq_true_iff.1 (ho 25 _ rfl)
  have w1 : (-128 : Int) ≤ x.i 24 := of_decide_eq_true w24.1
  have w2 : x.i 24 ≤ 127 := of_decide_eq_true w24.2
  have w3 : (-128 : Int) ≤ x.i 25 := of_decide_eq_true w25.1
  have w4 : x.i 25 ≤ 127 := of_decide_eq_true w25.2
  have b := plIn x h1
  unfold pl_cs28_4_6
  exact (allC (notT (notF (notBF ((show (_ : Bool) = plB0 (normL (litL (litL (mkL x 0 (kdsP pl_P0)) 222 4) 223 6)) from by kernel_rfl).trans ((congrArg plB0 (litL_mk2 (litL_mk hz) hz2)).trans h0))))) (allC (notT (andFr (orF (notF (decide_eq_true (by first | omega | (unfold isub; omega)))) (notF (decide_eq_true (by first | omega | (unfold isub; omega))))))) (allC (andT (decide_eq_true (by first | omega | (unfold isub; omega))) (decide_eq_true (by first | omega | (unfold isub; omega)))) (allC (andT (decide_eq_true (by first | omega | (unfold isub; omega))) (decide_eq_true (by first | omega | (unfold isub; omega)))) allN))))

theorem pl_f28_4_6 (x : Vars) : (funH Try.prog G26 noLT true 1000 28 (argsP pl_P0 0 (litL (litL (mkL x 0 (kdsP pl_P0)) 222 4) 223 6)) (memP pl_P0 (litL (litL (mkL x 0 (kdsP pl_P0)) 222 4) 223 6)) [false, false]).map (fun r => (normR r.1, untupR r.1 && r.1.flat, r.2)) = some (pl_v4_6 x, true, pl_cs28_4_6 x) := by kernel_rfl


noncomputable def pl_cs28_4_7 (x : Vars) : List Bool := [(!(!(decide (((pl_E0_a0 x).i 0) = 0)))), (!((decide (((pl_E0_a0 x).i 0) = 0)) && ((!(decide (4 ≤ (isub (x.i 24) 1)))) || (!(decide (7 ≤ (isub (x.i 25) 1))))))), ((decide ((-(9223372036854775807 + 1)) ≤ (isub (x.i 25) 1))) && (decide ((isub (x.i 25) 1) ≤ 9223372036854775807))), ((decide ((-(9223372036854775807 + 1)) ≤ (isub (x.i 24) 1))) && (decide ((isub (x.i 24) 1) ≤ 9223372036854775807)))]

set_option maxRecDepth 100000 in
theorem pl_c28_4_7 (x : Vars) (ho : OkV (kdsP pl_P0) x) (h0 : plB0 (mkL x 0 (kdsP pl_P0)) = false) (h1 : plB1 (mkL x 0 (kdsP pl_P0)) = false) (hz : x.i 222 = 4) (hz2 : x.i 223 = 7) : ∀ b ∈ pl_cs28_4_7 x, b = true := by
  have w24 := Bool.and_eq_true_iff.1 (ho 24 _ rfl)
  have w25 := Bool.and_eq_true_iff.1 (ho 25 _ rfl)
  have w1 : (-128 : Int) ≤ x.i 24 := of_decide_eq_true w24.1
  have w2 : x.i 24 ≤ 127 := of_decide_eq_true w24.2
  have w3 : (-128 : Int) ≤ x.i 25 := of_decide_eq_true w25.1
  have w4 : x.i 25 ≤ 127 := of_decide_eq_true w25.2
  have b := plIn x h1
  unfold pl_cs28_4_7
  exact (allC (notT (notF (notBF ((show (_ : Bool) = plB0 (normL (litL (litL (mkL x 0 (kdsP pl_P0)) 222 4) 223 7)) from by kernel_rfl).trans ((congrArg plB0 (litL_mk2 (litL_mk hz) hz2)).trans h0))))) (allC (notT (andFr (orF (notF (decide_eq_true (by first | omega | (unfold isub; omega)))) (notF (decide_eq_true (by first | omega | (unfold isub; omega))))))) (allC (andT (decide_eq_true (by first | omega | (unfold isub; omega))) (decide_eq_true (by first | omega | (unfold isub; omega)))) (allC (andT (decide_eq_true (by first | omega | (unfold isub; omega))) (decide_eq_true (by first | omega | (unfold isub; omega)))) allN))))

theorem pl_f28_4_7 (x : Vars) : (funH Try.prog G26 noLT true 1000 28 (argsP pl_P0 0 (litL (litL (mkL x 0 (kdsP pl_P0)) 222 4) 223 7)) (memP pl_P0 (litL (litL (mkL x 0 (kdsP pl_P0)) 222 4) 223 7)) [false, false]).map (fun r => (normR r.1, untupR r.1 && r.1.flat, r.2)) = some (pl_v4_7 x, true, pl_cs28_4_7 x) := by kernel_rfl


noncomputable def pl_cs28_5_0 (x : Vars) : List Bool := [(!(!(decide (((pl_E0_a0 x).i 0) = 0)))), (!((decide (((pl_E0_a0 x).i 0) = 0)) && ((!(decide (5 ≤ (isub (x.i 24) 1)))) || (!(decide (0 ≤ (isub (x.i 25) 1))))))), ((decide ((-(9223372036854775807 + 1)) ≤ (isub (x.i 25) 1))) && (decide ((isub (x.i 25) 1) ≤ 9223372036854775807))), ((decide ((-(9223372036854775807 + 1)) ≤ (isub (x.i 24) 1))) && (decide ((isub (x.i 24) 1) ≤ 9223372036854775807)))]

set_option maxRecDepth 100000 in
theorem pl_c28_5_0 (x : Vars) (ho : OkV (kdsP pl_P0) x) (h0 : plB0 (mkL x 0 (kdsP pl_P0)) = false) (h1 : plB1 (mkL x 0 (kdsP pl_P0)) = false) (hz : x.i 222 = 5) (hz2 : x.i 223 = 0) : ∀ b ∈ pl_cs28_5_0 x, b = true := by
  have w24 := Bool.and_eq_true_iff.1 (ho 24 _ rfl)
  have w25 := Bool.and_eq_true_iff.1 (ho 25 _ rfl)
  have w1 : (-128 : Int) ≤ x.i 24 := of_decide_eq_true w24.1
  have w2 : x.i 24 ≤ 127 := of_decide_eq_true w24.2
  have w3 : (-128 : Int) ≤ x.i 25 := of_decide_eq_true w25.1
  have w4 : x.i 25 ≤ 127 := of_decide_eq_true w25.2
  have b := plIn x h1
  unfold pl_cs28_5_0
  exact (allC (notT (notF (notBF ((show (_ : Bool) = plB0 (normL (litL (litL (mkL x 0 (kdsP pl_P0)) 222 5) 223 0)) from by kernel_rfl).trans ((congrArg plB0 (litL_mk2 (litL_mk hz) hz2)).trans h0))))) (allC (notT (andFr (orF (notF (decide_eq_true (by first | omega | (unfold isub; omega)))) (notF (decide_eq_true (by first | omega | (unfold isub; omega))))))) (allC (andT (decide_eq_true (by first | omega | (unfold isub; omega))) (decide_eq_true (by first | omega | (unfold isub; omega)))) (allC (andT (decide_eq_true (by first | omega | (unfold isub; omega))) (decide_eq_true (by first | omega | (unfold isub; omega)))) allN))))

theorem pl_f28_5_0 (x : Vars) : (funH Try.prog G26 noLT true 1000 28 (argsP pl_P0 0 (litL (litL (mkL x 0 (kdsP pl_P0)) 222 5) 223 0)) (memP pl_P0 (litL (litL (mkL x 0 (kdsP pl_P0)) 222 5) 223 0)) [false, false]).map (fun r => (normR r.1, untupR r.1 && r.1.flat, r.2)) = some (pl_v5_0 x, true, pl_cs28_5_0 x) := by kernel_rfl


noncomputable def pl_cs28_5_1 (x : Vars) : List Bool := [(!(!(decide (((pl_E0_a0 x).i 0) = 0)))), (!((decide (((pl_E0_a0 x).i 0) = 0)) && ((!(decide (5 ≤ (isub (x.i 24) 1)))) || (!(decide (1 ≤ (isub (x.i 25) 1))))))), ((decide ((-(9223372036854775807 + 1)) ≤ (isub (x.i 25) 1))) && (decide ((isub (x.i 25) 1) ≤ 9223372036854775807))), ((decide ((-(9223372036854775807 + 1)) ≤ (isub (x.i 24) 1))) && (decide ((isub (x.i 24) 1) ≤ 9223372036854775807)))]

set_option maxRecDepth 100000 in
theorem pl_c28_5_1 (x : Vars) (ho : OkV (kdsP pl_P0) x) (h0 : plB0 (mkL x 0 (kdsP pl_P0)) = false) (h1 : plB1 (mkL x 0 (kdsP pl_P0)) = false) (hz : x.i 222 = 5) (hz2 : x.i 223 = 1) : ∀ b ∈ pl_cs28_5_1 x, b = true := by
  have w24 := Bool.and_eq_true_iff.1 (ho 24 _ rfl)
  have w25 := Bool.and_eq_true_iff.1 (ho 25 _ rfl)
  have w1 : (-128 : Int) ≤ x.i 24 := of_decide_eq_true w24.1
  have w2 : x.i 24 ≤ 127 := of_decide_eq_true w24.2
  have w3 : (-128 : Int) ≤ x.i 25 := of_decide_eq_true w25.1
  have w4 : x.i 25 ≤ 127 := of_decide_eq_true w25.2
  have b := plIn x h1
  unfold pl_cs28_5_1
  exact (allC (notT (notF (notBF ((show (_ : Bool) = plB0 (normL (litL (litL (mkL x 0 (kdsP pl_P0)) 222 5) 223 1)) from by kernel_rfl).trans ((congrArg plB0 (litL_mk2 (litL_mk hz) hz2)).trans h0))))) (allC (notT (andFr (orF (notF (decide_eq_true (by first | omega | (unfold isub; omega)))) (notF (decide_eq_true (by first | omega | (unfold isub; omega))))))) (allC (andT (decide_eq_true (by first | omega | (unfold isub; omega))) (decide_eq_true (by first | omega | (unfold isub; omega)))) (allC (andT (decide_eq_true (by first | omega | (unfold isub; omega))) (decide_eq_true (by first | omega | (unfold isub; omega)))) allN))))

theorem pl_f28_5_1 (x : Vars) : (funH Try.prog G26 noLT true 1000 28 (argsP pl_P0 0 (litL (litL (mkL x 0 (kdsP pl_P0)) 222 5) 223 1)) (memP pl_P0 (litL (litL (mkL x 0 (kdsP pl_P0)) 222 5) 223 1)) [false, false]).map (fun r => (normR r.1, untupR r.1 && r.1.flat, r.2)) = some (pl_v5_1 x, true, pl_cs28_5_1 x) := by kernel_rfl


noncomputable def pl_cs28_5_2 (x : Vars) : List Bool := [(!(!(decide (((pl_E0_a0 x).i 0) = 0)))), (!((decide (((pl_E0_a0 x).i 0) = 0)) && ((!(decide (5 ≤ (isub (x.i 24) 1)))) || (!(decide (2 ≤ (isub (x.i 25) 1))))))), ((decide ((-(9223372036854775807 + 1)) ≤ (isub (x.i 25) 1))) && (decide ((isub (x.i 25) 1) ≤ 9223372036854775807))), ((decide ((-(9223372036854775807 + 1)) ≤ (isub (x.i 24) 1))) && (decide ((isub (x.i 24) 1) ≤ 9223372036854775807)))]

set_option maxRecDepth 100000 in
theorem pl_c28_5_2 (x : Vars) (ho : OkV (kdsP pl_P0) x) (h0 : plB0 (mkL x 0 (kdsP pl_P0)) = false) (h1 : plB1 (mkL x 0 (kdsP pl_P0)) = false) (hz : x.i 222 = 5) (hz2 : x.i 223 = 2) : ∀ b ∈ pl_cs28_5_2 x, b = true := by
  have w24 := Bool.and_eq_true_iff.1 (ho 24 _ rfl)
  have w25 := Bool.and_eq_true_iff.1 (ho 25 _ rfl)
  have w1 : (-128 : Int) ≤ x.i 24 := of_decide_eq_true w24.1
  have w2 : x.i 24 ≤ 127 := of_decide_eq_true w24.2
  have w3 : (-128 : Int) ≤ x.i 25 := of_decide_eq_true w25.1
  have w4 : x.i 25 ≤ 127 := of_decide_eq_true w25.2
  have b := plIn x h1
  unfold pl_cs28_5_2
  exact (allC (notT (notF (notBF ((show (_ : Bool) = plB0 (normL (litL (litL (mkL x 0 (kdsP pl_P0)) 222 5) 223 2)) from by kernel_rfl).trans ((congrArg plB0 (litL_mk2 (litL_mk hz) hz2)).trans h0))))) (allC (notT (andFr (orF (notF (decide_eq_true (by first | omega | (unfold isub; omega)))) (notF (decide_eq_true (by first | omega | (unfold isub; omega))))))) (allC (andT (decide_eq_true (by first | omega | (unfold isub; omega))) (decide_eq_true (by first | omega | (unfold isub; omega)))) (allC (andT (decide_eq_true (by first | omega | (unfold isub; omega))) (decide_eq_true (by first | omega | (unfold isub; omega)))) allN))))

theorem pl_f28_5_2 (x : Vars) : (funH Try.prog G26 noLT true 1000 28 (argsP pl_P0 0 (litL (litL (mkL x 0 (kdsP pl_P0)) 222 5) 223 2)) (memP pl_P0 (litL (litL (mkL x 0 (kdsP pl_P0)) 222 5) 223 2)) [false, false]).map (fun r => (normR r.1, untupR r.1 && r.1.flat, r.2)) = some (pl_v5_2 x, true, pl_cs28_5_2 x) := by kernel_rfl


noncomputable def pl_cs28_5_3 (x : Vars) : List Bool := [(!(!(decide (((pl_E0_a0 x).i 0) = 0)))), (!((decide (((pl_E0_a0 x).i 0) = 0)) && ((!(decide (5 ≤ (isub (x.i 24) 1)))) || (!(decide (3 ≤ (isub (x.i 25) 1))))))), ((decide ((-(9223372036854775807 + 1)) ≤ (isub (x.i 25) 1))) && (decide ((isub (x.i 25) 1) ≤ 9223372036854775807))), ((decide ((-(9223372036854775807 + 1)) ≤ (isub (x.i 24) 1))) && (decide ((isub (x.i 24) 1) ≤ 9223372036854775807)))]

set_option maxRecDepth 100000 in
theorem pl_c28_5_3 (x : Vars) (ho : OkV (kdsP pl_P0) x) (h0 : plB0 (mkL x 0 (kdsP pl_P0)) = false) (h1 : plB1 (mkL x 0 (kdsP pl_P0)) = false) (hz : x.i 222 = 5) (hz2 : x.i 223 = 3) : ∀ b ∈ pl_cs28_5_3 x, b = true := by
  have w24 := Bool.and_eq_true_iff.1 (ho 24 _ rfl)
  have w25 := Bool.and_eq_true_iff.1 (ho 25 _ rfl)
  have w1 : (-128 : Int) ≤ x.i 24 := of_decide_eq_true w24.1
  have w2 : x.i 24 ≤ 127 := of_decide_eq_true w24.2
  have w3 : (-128 : Int) ≤ x.i 25 := of_decide_eq_true w25.1
  have w4 : x.i 25 ≤ 127 := of_decide_eq_true w25.2
  have b := plIn x h1
  unfold pl_cs28_5_3
  exact (allC (notT (notF (notBF ((show (_ : Bool) = plB0 (normL (litL (litL (mkL x 0 (kdsP pl_P0)) 222 5) 223 3)) from by kernel_rfl).trans ((congrArg plB0 (litL_mk2 (litL_mk hz) hz2)).trans h0))))) (allC (notT (andFr (orF (notF (decide_eq_true (by first | omega | (unfold isub; omega)))) (notF (decide_eq_true (by first | omega | (unfold isub; omega))))))) (allC (andT (decide_eq_true (by first | omega | (unfold isub; omega))) (decide_eq_true (by first | omega | (unfold isub; omega)))) (allC (andT (decide_eq_true (by first | omega | (unfold isub; omega))) (decide_eq_true (by first | omega | (unfold isub; omega)))) allN))))

theorem pl_f28_5_3 (x : Vars) : (funH Try.prog G26 noLT true 1000 28 (argsP pl_P0 0 (litL (litL (mkL x 0 (kdsP pl_P0)) 222 5) 223 3)) (memP pl_P0 (litL (litL (mkL x 0 (kdsP pl_P0)) 222 5) 223 3)) [false, false]).map (fun r => (normR r.1, untupR r.1 && r.1.flat, r.2)) = some (pl_v5_3 x, true, pl_cs28_5_3 x) := by kernel_rfl


noncomputable def pl_cs28_5_4 (x : Vars) : List Bool := [(!(!(decide (((pl_E0_a0 x).i 0) = 0)))), (!((decide (((pl_E0_a0 x).i 0) = 0)) && ((!(decide (5 ≤ (isub (x.i 24) 1)))) || (!(decide (4 ≤ (isub (x.i 25) 1))))))), ((decide ((-(9223372036854775807 + 1)) ≤ (isub (x.i 25) 1))) && (decide ((isub (x.i 25) 1) ≤ 9223372036854775807))), ((decide ((-(9223372036854775807 + 1)) ≤ (isub (x.i 24) 1))) && (decide ((isub (x.i 24) 1) ≤ 9223372036854775807)))]

set_option maxRecDepth 100000 in
theorem pl_c28_5_4 (x : Vars) (ho : OkV (kdsP pl_P0) x) (h0 : plB0 (mkL x 0 (kdsP pl_P0)) = false) (h1 : plB1 (mkL x 0 (kdsP pl_P0)) = false) (hz : x.i 222 = 5) (hz2 : x.i 223 = 4) : ∀ b ∈ pl_cs28_5_4 x, b = true := by
  have w24 := Bool.and_eq_true_iff.1 (ho 24 _ rfl)
  have w25 := Bool.and_eq_true_iff.1 (ho 25 _ rfl)
  have w1 : (-128 : Int) ≤ x.i 24 := of_decide_eq_true w24.1
  have w2 : x.i 24 ≤ 127 := of_decide_eq_true w24.2
  have w3 : (-128 : Int) ≤ x.i 25 := of_decide_eq_true w25.1
  have w4 : x.i 25 ≤ 127 := of_decide_eq_true w25.2
  have b := plIn x h1
  unfold pl_cs28_5_4
  exact (allC (notT (notF (notBF ((show (_ : Bool) = plB0 (normL (litL (litL (mkL x 0 (kdsP pl_P0)) 222 5) 223 4)) from by kernel_rfl).trans ((congrArg plB0 (litL_mk2 (litL_mk hz) hz2)).trans h0))))) (allC (notT (andFr (orF (notF (decide_eq_true (by first | omega | (unfold isub; omega)))) (notF (decide_eq_true (by first | omega | (unfold isub; omega))))))) (allC (andT (decide_eq_true (by first | omega | (unfold isub; omega))) (decide_eq_true (by first | omega | (unfold isub; omega)))) (allC (andT (decide_eq_true (by first | omega | (unfold isub; omega))) (decide_eq_true (by first | omega | (unfold isub; omega)))) allN))))

theorem pl_f28_5_4 (x : Vars) : (funH Try.prog G26 noLT true 1000 28 (argsP pl_P0 0 (litL (litL (mkL x 0 (kdsP pl_P0)) 222 5) 223 4)) (memP pl_P0 (litL (litL (mkL x 0 (kdsP pl_P0)) 222 5) 223 4)) [false, false]).map (fun r => (normR r.1, untupR r.1 && r.1.flat, r.2)) = some (pl_v5_4 x, true, pl_cs28_5_4 x) := by kernel_rfl


noncomputable def pl_cs28_5_5 (x : Vars) : List Bool := [(!(!(decide (((pl_E0_a0 x).i 0) = 0)))), (!((decide (((pl_E0_a0 x).i 0) = 0)) && ((!(decide (5 ≤ (isub (x.i 24) 1)))) || (!(decide (5 ≤ (isub (x.i 25) 1))))))), ((decide ((-(9223372036854775807 + 1)) ≤ (isub (x.i 25) 1))) && (decide ((isub (x.i 25) 1) ≤ 9223372036854775807))), ((decide ((-(9223372036854775807 + 1)) ≤ (isub (x.i 24) 1))) && (decide ((isub (x.i 24) 1) ≤ 9223372036854775807)))]

set_option maxRecDepth 100000 in
theorem pl_c28_5_5 (x : Vars) (ho : OkV (kdsP pl_P0) x) (h0 : plB0 (mkL x 0 (kdsP pl_P0)) = false) (h1 : plB1 (mkL x 0 (kdsP pl_P0)) = false) (hz : x.i 222 = 5) (hz2 : x.i 223 = 5) : ∀ b ∈ pl_cs28_5_5 x, b = true := by
  have w24 := Bool.and_eq_true_iff.1 (ho 24 _ rfl)
  have w25 := Bool.and_eq_true_iff.1 (ho 25 _ rfl)
  have w1 : (-128 : Int) ≤ x.i 24 := of_decide_eq_true w24.1
  have w2 : x.i 24 ≤ 127 := of_decide_eq_true w24.2
  have w3 : (-128 : Int) ≤ x.i 25 := of_decide_eq_true w25.1
  have w4 : x.i 25 ≤ 127 := of_decide_eq_true w25.2
  have b := plIn x h1
  unfold pl_cs28_5_5
  exact (allC (notT (notF (notBF ((show (_ : Bool) = plB0 (normL (litL (litL (mkL x 0 (kdsP pl_P0)) 222 5) 223 5)) from by kernel_rfl).trans ((congrArg plB0 (litL_mk2 (litL_mk hz) hz2)).trans h0))))) (allC (notT (andFr (orF (notF (decide_eq_true (by first | omega | (unfold isub; omega)))) (notF (decide_eq_true (by first | omega | (unfold isub; omega))))))) (allC (andT (decide_eq_true (by first | omega | (unfold isub; omega))) (decide_eq_true (by first | omega | (unfold isub; omega)))) (allC (andT (decide_eq_true (by first | omega | (unfold isub; omega))) (decide_eq_true (by first | omega | (unfold isub; omega)))) allN))))

theorem pl_f28_5_5 (x : Vars) : (funH Try.prog G26 noLT true 1000 28 (argsP pl_P0 0 (litL (litL (mkL x 0 (kdsP pl_P0)) 222 5) 223 5)) (memP pl_P0 (litL (litL (mkL x 0 (kdsP pl_P0)) 222 5) 223 5)) [false, false]).map (fun r => (normR r.1, untupR r.1 && r.1.flat, r.2)) = some (pl_v5_5 x, true, pl_cs28_5_5 x) := by kernel_rfl


noncomputable def pl_cs28_5_6 (x : Vars) : List Bool := [(!(!(decide (((pl_E0_a0 x).i 0) = 0)))), (!((decide (((pl_E0_a0 x).i 0) = 0)) && ((!(decide (5 ≤ (isub (x.i 24) 1)))) || (!(decide (6 ≤ (isub (x.i 25) 1))))))), ((decide ((-(9223372036854775807 + 1)) ≤ (isub (x.i 25) 1))) && (decide ((isub (x.i 25) 1) ≤ 9223372036854775807))), ((decide ((-(9223372036854775807 + 1)) ≤ (isub (x.i 24) 1))) && (decide ((isub (x.i 24) 1) ≤ 9223372036854775807)))]

set_option maxRecDepth 100000 in
theorem pl_c28_5_6 (x : Vars) (ho : OkV (kdsP pl_P0) x) (h0 : plB0 (mkL x 0 (kdsP pl_P0)) = false) (h1 : plB1 (mkL x 0 (kdsP pl_P0)) = false) (hz : x.i 222 = 5) (hz2 : x.i 223 = 6) : ∀ b ∈ pl_cs28_5_6 x, b = true := by
  have w24 := Bool.and_eq_true_iff.1 (ho 24 _ rfl)
  have w25 := Bool.and_eq_true_iff.1 (ho 25 _ rfl)
  have w1 : (-128 : Int) ≤ x.i 24 := of_decide_eq_true w24.1
  have w2 : x.i 24 ≤ 127 := of_decide_eq_true w24.2
  have w3 : (-128 : Int) ≤ x.i 25 := of_decide_eq_true w25.1
  have w4 : x.i 25 ≤ 127 := of_decide_eq_true w25.2
  have b := plIn x h1
  unfold pl_cs28_5_6
  exact (allC (notT (notF (notBF ((show (_ : Bool) = plB0 (normL (litL (litL (mkL x 0 (kdsP pl_P0)) 222 5) 223 6)) from by kernel_rfl).trans ((congrArg plB0 (litL_mk2 (litL_mk hz) hz2)).trans h0))))) (allC (notT (andFr (orF (notF (decide_eq_true (by first | omega | (unfold isub; omega)))) (notF (decide_eq_true (by first | omega | (unfold isub; omega))))))) (allC (andT (decide_eq_true (by first | omega | (unfold isub; omega))) (decide_eq_true (by first | omega | (unfold isub; omega)))) (allC (andT (decide_eq_true (by first | omega | (unfold isub; omega))) (decide_eq_true (by first | omega | (unfold isub; omega)))) allN))))

theorem pl_f28_5_6 (x : Vars) : (funH Try.prog G26 noLT true 1000 28 (argsP pl_P0 0 (litL (litL (mkL x 0 (kdsP pl_P0)) 222 5) 223 6)) (memP pl_P0 (litL (litL (mkL x 0 (kdsP pl_P0)) 222 5) 223 6)) [false, false]).map (fun r => (normR r.1, untupR r.1 && r.1.flat, r.2)) = some (pl_v5_6 x, true, pl_cs28_5_6 x) := by kernel_rfl


noncomputable def pl_cs28_5_7 (x : Vars) : List Bool := [(!(!(decide (((pl_E0_a0 x).i 0) = 0)))), (!((decide (((pl_E0_a0 x).i 0) = 0)) && ((!(decide (5 ≤ (isub (x.i 24) 1)))) || (!(decide (7 ≤ (isub (x.i 25) 1))))))), ((decide ((-(9223372036854775807 + 1)) ≤ (isub (x.i 25) 1))) && (decide ((isub (x.i 25) 1) ≤ 9223372036854775807))), ((decide ((-(9223372036854775807 + 1)) ≤ (isub (x.i 24) 1))) && (decide ((isub (x.i 24) 1) ≤ 9223372036854775807)))]

set_option maxRecDepth 100000 in
theorem pl_c28_5_7 (x : Vars) (ho : OkV (kdsP pl_P0) x) (h0 : plB0 (mkL x 0 (kdsP pl_P0)) = false) (h1 : plB1 (mkL x 0 (kdsP pl_P0)) = false) (hz : x.i 222 = 5) (hz2 : x.i 223 = 7) : ∀ b ∈ pl_cs28_5_7 x, b = true := by
  have w24 := Bool.and_eq_true_iff.1 (ho 24 _ rfl)
  have w25 := Bool.and_eq_true_iff.1 (ho 25 _ rfl)
  have w1 : (-128 : Int) ≤ x.i 24 := of_decide_eq_true w24.1
  have w2 : x.i 24 ≤ 127 := of_decide_eq_true w24.2
  have w3 : (-128 : Int) ≤ x.i 25 := of_decide_eq_true w25.1
  have w4 : x.i 25 ≤ 127 := of_decide_eq_true w25.2
  have b := plIn x h1
  unfold pl_cs28_5_7
  exact (allC (notT (notF (notBF ((show (_ : Bool) = plB0 (normL (litL (litL (mkL x 0 (kdsP pl_P0)) 222 5) 223 7)) from by kernel_rfl).trans ((congrArg plB0 (litL_mk2 (litL_mk hz) hz2)).trans h0))))) (allC (notT (andFr (orF (notF (decide_eq_true (by first | omega | (unfold isub; omega)))) (notF (decide_eq_true (by first | omega | (unfold isub; omega))))))) (allC (andT (decide_eq_true (by first | omega | (unfold isub; omega))) (decide_eq_true (by first | omega | (unfold isub; omega)))) (allC (andT (decide_eq_true (by first | omega | (unfold isub; omega))) (decide_eq_true (by first | omega | (unfold isub; omega)))) allN))))

theorem pl_f28_5_7 (x : Vars) : (funH Try.prog G26 noLT true 1000 28 (argsP pl_P0 0 (litL (litL (mkL x 0 (kdsP pl_P0)) 222 5) 223 7)) (memP pl_P0 (litL (litL (mkL x 0 (kdsP pl_P0)) 222 5) 223 7)) [false, false]).map (fun r => (normR r.1, untupR r.1 && r.1.flat, r.2)) = some (pl_v5_7 x, true, pl_cs28_5_7 x) := by kernel_rfl


noncomputable def pl_cs28_6_0 (x : Vars) : List Bool := [(!(!(decide (((pl_E0_a0 x).i 0) = 0)))), (!((decide (((pl_E0_a0 x).i 0) = 0)) && ((!(decide (6 ≤ (isub (x.i 24) 1)))) || (!(decide (0 ≤ (isub (x.i 25) 1))))))), ((decide ((-(9223372036854775807 + 1)) ≤ (isub (x.i 25) 1))) && (decide ((isub (x.i 25) 1) ≤ 9223372036854775807))), ((decide ((-(9223372036854775807 + 1)) ≤ (isub (x.i 24) 1))) && (decide ((isub (x.i 24) 1) ≤ 9223372036854775807)))]

set_option maxRecDepth 100000 in
theorem pl_c28_6_0 (x : Vars) (ho : OkV (kdsP pl_P0) x) (h0 : plB0 (mkL x 0 (kdsP pl_P0)) = false) (h1 : plB1 (mkL x 0 (kdsP pl_P0)) = false) (hz : x.i 222 = 6) (hz2 : x.i 223 = 0) : ∀ b ∈ pl_cs28_6_0 x, b = true := by
  have w24 := Bool.and_eq_true_iff.1 (ho 24 _ rfl)
  have w25 := Bool.and_eq_true_iff.1 (ho 25 _ rfl)
  have w1 : (-128 : Int) ≤ x.i 24 := of_decide_eq_true w24.1
  have w2 : x.i 24 ≤ 127 := of_decide_eq_true w24.2
  have w3 : (-128 : Int) ≤ x.i 25 := of_decide_eq_true w25.1
  have w4 : x.i 25 ≤ 127 := of_decide_eq_true w25.2
  have b := plIn x h1
  unfold pl_cs28_6_0
  exact (allC (notT (notF (notBF ((show (_ : Bool) = plB0 (normL (litL (litL (mkL x 0 (kdsP pl_P0)) 222 6) 223 0)) from by kernel_rfl).trans ((congrArg plB0 (litL_mk2 (litL_mk hz) hz2)).trans h0))))) (allC (notT (andFr (orF (notF (decide_eq_true (by first | omega | (unfold isub; omega)))) (notF (decide_eq_true (by first | omega | (unfold isub; omega))))))) (allC (andT (decide_eq_true (by first | omega | (unfold isub; omega))) (decide_eq_true (by first | omega | (unfold isub; omega)))) (allC (andT (decide_eq_true (by first | omega | (unfold isub; omega))) (decide_eq_true (by first | omega | (unfold isub; omega)))) allN))))

theorem pl_f28_6_0 (x : Vars) : (funH Try.prog G26 noLT true 1000 28 (argsP pl_P0 0 (litL (litL (mkL x 0 (kdsP pl_P0)) 222 6) 223 0)) (memP pl_P0 (litL (litL (mkL x 0 (kdsP pl_P0)) 222 6) 223 0)) [false, false]).map (fun r => (normR r.1, untupR r.1 && r.1.flat, r.2)) = some (pl_v6_0 x, true, pl_cs28_6_0 x) := by kernel_rfl


noncomputable def pl_cs28_6_1 (x : Vars) : List Bool := [(!(!(decide (((pl_E0_a0 x).i 0) = 0)))), (!((decide (((pl_E0_a0 x).i 0) = 0)) && ((!(decide (6 ≤ (isub (x.i 24) 1)))) || (!(decide (1 ≤ (isub (x.i 25) 1))))))), ((decide ((-(9223372036854775807 + 1)) ≤ (isub (x.i 25) 1))) && (decide ((isub (x.i 25) 1) ≤ 9223372036854775807))), ((decide ((-(9223372036854775807 + 1)) ≤ (isub (x.i 24) 1))) && (decide ((isub (x.i 24) 1) ≤ 9223372036854775807)))]

set_option maxRecDepth 100000 in
theorem pl_c28_6_1 (x : Vars) (ho : OkV (kdsP pl_P0) x) (h0 : plB0 (mkL x 0 (kdsP pl_P0)) = false) (h1 : plB1 (mkL x 0 (kdsP pl_P0)) = false) (hz : x.i 222 = 6) (hz2 : x.i 223 = 1) : ∀ b ∈ pl_cs28_6_1 x, b = true := by
  have w24 := Bool.and_eq_true_iff.1 (ho 24 _ rfl)
  have w25 := Bool.and_eq_true_iff.1 (ho 25 _ rfl)
  have w1 : (-128 : Int) ≤ x.i 24 := of_decide_eq_true w24.1
  have w2 : x.i 24 ≤ 127 := of_decide_eq_true w24.2
  have w3 : (-128 : Int) ≤ x.i 25 := of_decide_eq_true w25.1
  have w4 : x.i 25 ≤ 127 := of_decide_eq_true w25.2
  have b := plIn x h1
  unfold pl_cs28_6_1
  exact (allC (notT (notF (notBF ((show (_ : Bool) = plB0 (normL (litL (litL (mkL x 0 (kdsP pl_P0)) 222 6) 223 1)) from by kernel_rfl).trans ((congrArg plB0 (litL_mk2 (litL_mk hz) hz2)).trans h0))))) (allC (notT (andFr (orF (notF (decide_eq_true (by first | omega | (unfold isub; omega)))) (notF (decide_eq_true (by first | omega | (unfold isub; omega))))))) (allC (andT (decide_eq_true (by first | omega | (unfold isub; omega))) (decide_eq_true (by first | omega | (unfold isub; omega)))) (allC (andT (decide_eq_true (by first | omega | (unfold isub; omega))) (decide_eq_true (by first | omega | (unfold isub; omega)))) allN))))

theorem pl_f28_6_1 (x : Vars) : (funH Try.prog G26 noLT true 1000 28 (argsP pl_P0 0 (litL (litL (mkL x 0 (kdsP pl_P0)) 222 6) 223 1)) (memP pl_P0 (litL (litL (mkL x 0 (kdsP pl_P0)) 222 6) 223 1)) [false, false]).map (fun r => (normR r.1, untupR r.1 && r.1.flat, r.2)) = some (pl_v6_1 x, true, pl_cs28_6_1 x) := by kernel_rfl


noncomputable def pl_cs28_6_2 (x : Vars) : List Bool := [(!(!(decide (((pl_E0_a0 x).i 0) = 0)))), (!((decide (((pl_E0_a0 x).i 0) = 0)) && ((!(decide (6 ≤ (isub (x.i 24) 1)))) || (!(decide (2 ≤ (isub (x.i 25) 1))))))), ((decide ((-(9223372036854775807 + 1)) ≤ (isub (x.i 25) 1))) && (decide ((isub (x.i 25) 1) ≤ 9223372036854775807))), ((decide ((-(9223372036854775807 + 1)) ≤ (isub (x.i 24) 1))) && (decide ((isub (x.i 24) 1) ≤ 9223372036854775807)))]

set_option maxRecDepth 100000 in
theorem pl_c28_6_2 (x : Vars) (ho : OkV (kdsP pl_P0) x) (h0 : plB0 (mkL x 0 (kdsP pl_P0)) = false) (h1 : plB1 (mkL x 0 (kdsP pl_P0)) = false) (hz : x.i 222 = 6) (hz2 : x.i 223 = 2) : ∀ b ∈ pl_cs28_6_2 x, b = true := by
  have w24 := Bool.and_eq_true_iff.1 (ho 24 _ rfl)
  have w25 := Bool.and_eq_true_iff.1 (ho 25 _ rfl)
  have w1 : (-128 : Int) ≤ x.i 24 := of_decide_eq_true w24.1
  have w2 : x.i 24 ≤ 127 := of_decide_eq_true w24.2
  have w3 : (-128 : Int) ≤ x.i 25 := of_decide_eq_true w25.1
  have w4 : x.i 25 ≤ 127 := of_decide_eq_true w25.2
  have b := plIn x h1
  unfold pl_cs28_6_2
  exact (allC (notT (notF (notBF ((show (_ : Bool) = plB0 (normL (litL (litL (mkL x 0 (kdsP pl_P0)) 222 6) 223 2)) from by kernel_rfl).trans ((congrArg plB0 (litL_mk2 (litL_mk hz) hz2)).trans h0))))) (allC (notT (andFr (orF (notF (decide_eq_true (by first | omega | (unfold isub; omega)))) (notF (decide_eq_true (by first | omega | (unfold isub; omega))))))) (allC (andT (decide_eq_true (by first | omega | (unfold isub; omega))) (decide_eq_true (by first | omega | (unfold isub; omega)))) (allC (andT (decide_eq_true (by first | omega | (unfold isub; omega))) (decide_eq_true (by first | omega | (unfold isub; omega)))) allN))))

theorem pl_f28_6_2 (x : Vars) : (funH Try.prog G26 noLT true 1000 28 (argsP pl_P0 0 (litL (litL (mkL x 0 (kdsP pl_P0)) 222 6) 223 2)) (memP pl_P0 (litL (litL (mkL x 0 (kdsP pl_P0)) 222 6) 223 2)) [false, false]).map (fun r => (normR r.1, untupR r.1 && r.1.flat, r.2)) = some (pl_v6_2 x, true, pl_cs28_6_2 x) := by kernel_rfl


noncomputable def pl_cs28_6_3 (x : Vars) : List Bool := [(!(!(decide (((pl_E0_a0 x).i 0) = 0)))), (!((decide (((pl_E0_a0 x).i 0) = 0)) && ((!(decide (6 ≤ (isub (x.i 24) 1)))) || (!(decide (3 ≤ (isub (x.i 25) 1))))))), ((decide ((-(9223372036854775807 + 1)) ≤ (isub (x.i 25) 1))) && (decide ((isub (x.i 25) 1) ≤ 9223372036854775807))), ((decide ((-(9223372036854775807 + 1)) ≤ (isub (x.i 24) 1))) && (decide ((isub (x.i 24) 1) ≤ 9223372036854775807)))]

set_option maxRecDepth 100000 in
theorem pl_c28_6_3 (x : Vars) (ho : OkV (kdsP pl_P0) x) (h0 : plB0 (mkL x 0 (kdsP pl_P0)) = false) (h1 : plB1 (mkL x 0 (kdsP pl_P0)) = false) (hz : x.i 222 = 6) (hz2 : x.i 223 = 3) : ∀ b ∈ pl_cs28_6_3 x, b = true := by
  have w24 := Bool.and_eq_true_iff.1 (ho 24 _ rfl)
  have w25 := Bool.and_eq_true_iff.1 (ho 25 _ rfl)
  have w1 : (-128 : Int) ≤ x.i 24 := of_decide_eq_true w24.1
  have w2 : x.i 24 ≤ 127 := of_decide_eq_true w24.2
  have w3 : (-128 : Int) ≤ x.i 25 := of_decide_eq_true w25.1
  have w4 : x.i 25 ≤ 127 := of_decide_eq_true w25.2
  have b := plIn x h1
  unfold pl_cs28_6_3
  exact (allC (notT (notF (notBF ((show (_ : Bool) = plB0 (normL (litL (litL (mkL x 0 (kdsP pl_P0)) 222 6) 223 3)) from by kernel_rfl).trans ((congrArg plB0 (litL_mk2 (litL_mk hz) hz2)).trans h0))))) (allC (notT (andFr (orF (notF (decide_eq_true (by first | omega | (unfold isub; omega)))) (notF (decide_eq_true (by first | omega | (unfold isub; omega))))))) (allC (andT (decide_eq_true (by first | omega | (unfold isub; omega))) (decide_eq_true (by first | omega | (unfold isub; omega)))) (allC (andT (decide_eq_true (by first | omega | (unfold isub; omega))) (decide_eq_true (by first | omega | (unfold isub; omega)))) allN))))

theorem pl_f28_6_3 (x : Vars) : (funH Try.prog G26 noLT true 1000 28 (argsP pl_P0 0 (litL (litL (mkL x 0 (kdsP pl_P0)) 222 6) 223 3)) (memP pl_P0 (litL (litL (mkL x 0 (kdsP pl_P0)) 222 6) 223 3)) [false, false]).map (fun r => (normR r.1, untupR r.1 && r.1.flat, r.2)) = some (pl_v6_3 x, true, pl_cs28_6_3 x) := by kernel_rfl


noncomputable def pl_cs28_6_4 (x : Vars) : List Bool := [(!(!(decide (((pl_E0_a0 x).i 0) = 0)))), (!((decide (((pl_E0_a0 x).i 0) = 0)) && ((!(decide (6 ≤ (isub (x.i 24) 1)))) || (!(decide (4 ≤ (isub (x.i 25) 1))))))), ((decide ((-(9223372036854775807 + 1)) ≤ (isub (x.i 25) 1))) && (decide ((isub (x.i 25) 1) ≤ 9223372036854775807))), ((decide ((-(9223372036854775807 + 1)) ≤ (isub (x.i 24) 1))) && (decide ((isub (x.i 24) 1) ≤ 9223372036854775807)))]

set_option maxRecDepth 100000 in
theorem pl_c28_6_4 (x : Vars) (ho : OkV (kdsP pl_P0) x) (h0 : plB0 (mkL x 0 (kdsP pl_P0)) = false) (h1 : plB1 (mkL x 0 (kdsP pl_P0)) = false) (hz : x.i 222 = 6) (hz2 : x.i 223 = 4) : ∀ b ∈ pl_cs28_6_4 x, b = true := by
  have w24 := Bool.and_eq_true_iff.1 (ho 24 _ rfl)
  have w25 := Bool.and_eq_true_iff.1 (ho 25 _ rfl)
  have w1 : (-128 : Int) ≤ x.i 24 := of_decide_eq_true w24.1
  have w2 : x.i 24 ≤ 127 := of_decide_eq_true w24.2
  have w3 : (-128 : Int) ≤ x.i 25 := of_decide_eq_true w25.1
  have w4 : x.i 25 ≤ 127 := of_decide_eq_true w25.2
  have b := plIn x h1
  unfold pl_cs28_6_4
  exact (allC (notT (notF (notBF ((show (_ : Bool) = plB0 (normL (litL (litL (mkL x 0 (kdsP pl_P0)) 222 6) 223 4)) from by kernel_rfl).trans ((congrArg plB0 (litL_mk2 (litL_mk hz) hz2)).trans h0))))) (allC (notT (andFr (orF (notF (decide_eq_true (by first | omega | (unfold isub; omega)))) (notF (decide_eq_true (by first | omega | (unfold isub; omega))))))) (allC (andT (decide_eq_true (by first | omega | (unfold isub; omega))) (decide_eq_true (by first | omega | (unfold isub; omega)))) (allC (andT (decide_eq_true (by first | omega | (unfold isub; omega))) (decide_eq_true (by first | omega | (unfold isub; omega)))) allN))))

theorem pl_f28_6_4 (x : Vars) : (funH Try.prog G26 noLT true 1000 28 (argsP pl_P0 0 (litL (litL (mkL x 0 (kdsP pl_P0)) 222 6) 223 4)) (memP pl_P0 (litL (litL (mkL x 0 (kdsP pl_P0)) 222 6) 223 4)) [false, false]).map (fun r => (normR r.1, untupR r.1 && r.1.flat, r.2)) = some (pl_v6_4 x, true, pl_cs28_6_4 x) := by kernel_rfl


noncomputable def pl_cs28_6_5 (x : Vars) : List Bool := [(!(!(decide (((pl_E0_a0 x).i 0) = 0)))), (!((decide (((pl_E0_a0 x).i 0) = 0)) && ((!(decide (6 ≤ (isub (x.i 24) 1)))) || (!(decide (5 ≤ (isub (x.i 25) 1))))))), ((decide ((-(9223372036854775807 + 1)) ≤ (isub (x.i 25) 1))) && (decide ((isub (x.i 25) 1) ≤ 9223372036854775807))), ((decide ((-(9223372036854775807 + 1)) ≤ (isub (x.i 24) 1))) && (decide ((isub (x.i 24) 1) ≤ 9223372036854775807)))]

set_option maxRecDepth 100000 in
theorem pl_c28_6_5 (x : Vars) (ho : OkV (kdsP pl_P0) x) (h0 : plB0 (mkL x 0 (kdsP pl_P0)) = false) (h1 : plB1 (mkL x 0 (kdsP pl_P0)) = false) (hz : x.i 222 = 6) (hz2 : x.i 223 = 5) : ∀ b ∈ pl_cs28_6_5 x, b = true := by
  have w24 := Bool.and_eq_true_iff.1 (ho 24 _ rfl)
  have w25 := Bool.and_eq_true_iff.1 (ho 25 _ rfl)
  have w1 : (-128 : Int) ≤ x.i 24 := of_decide_eq_true w24.1
  have w2 : x.i 24 ≤ 127 := of_decide_eq_true w24.2
  have w3 : (-128 : Int) ≤ x.i 25 := of_decide_eq_true w25.1
  have w4 : x.i 25 ≤ 127 := of_decide_eq_true w25.2
  have b := plIn x h1
  unfold pl_cs28_6_5
  exact (allC (notT (notF (notBF ((show (_ : Bool) = plB0 (normL (litL (litL (mkL x 0 (kdsP pl_P0)) 222 6) 223 5)) from by kernel_rfl).trans ((congrArg plB0 (litL_mk2 (litL_mk hz) hz2)).trans h0))))) (allC (notT (andFr (orF (notF (decide_eq_true (by first | omega | (unfold isub; omega)))) (notF (decide_eq_true (by first | omega | (unfold isub; omega))))))) (allC (andT (decide_eq_true (by first | omega | (unfold isub; omega))) (decide_eq_true (by first | omega | (unfold isub; omega)))) (allC (andT (decide_eq_true (by first | omega | (unfold isub; omega))) (decide_eq_true (by first | omega | (unfold isub; omega)))) allN))))

theorem pl_f28_6_5 (x : Vars) : (funH Try.prog G26 noLT true 1000 28 (argsP pl_P0 0 (litL (litL (mkL x 0 (kdsP pl_P0)) 222 6) 223 5)) (memP pl_P0 (litL (litL (mkL x 0 (kdsP pl_P0)) 222 6) 223 5)) [false, false]).map (fun r => (normR r.1, untupR r.1 && r.1.flat, r.2)) = some (pl_v6_5 x, true, pl_cs28_6_5 x) := by kernel_rfl


noncomputable def pl_cs28_6_6 (x : Vars) : List Bool := [(!(!(decide (((pl_E0_a0 x).i 0) = 0)))), (!((decide (((pl_E0_a0 x).i 0) = 0)) && ((!(decide (6 ≤ (isub (x.i 24) 1)))) || (!(decide (6 ≤ (isub (x.i 25) 1))))))), ((decide ((-(9223372036854775807 + 1)) ≤ (isub (x.i 25) 1))) && (decide ((isub (x.i 25) 1) ≤ 9223372036854775807))), ((decide ((-(9223372036854775807 + 1)) ≤ (isub (x.i 24) 1))) && (decide ((isub (x.i 24) 1) ≤ 9223372036854775807)))]

set_option maxRecDepth 100000 in
theorem pl_c28_6_6 (x : Vars) (ho : OkV (kdsP pl_P0) x) (h0 : plB0 (mkL x 0 (kdsP pl_P0)) = false) (h1 : plB1 (mkL x 0 (kdsP pl_P0)) = false) (hz : x.i 222 = 6) (hz2 : x.i 223 = 6) : ∀ b ∈ pl_cs28_6_6 x, b = true := by
  have w24 := Bool.and_eq_true_iff.1 (ho 24 _ rfl)
  have w25 := Bool.and_eq_true_iff.1 (ho 25 _ rfl)
  have w1 : (-128 : Int) ≤ x.i 24 := of_decide_eq_true w24.1
  have w2 : x.i 24 ≤ 127 := of_decide_eq_true w24.2
  have w3 : (-128 : Int) ≤ x.i 25 := of_decide_eq_true w25.1
  have w4 : x.i 25 ≤ 127 := of_decide_eq_true w25.2
  have b := plIn x h1
  unfold pl_cs28_6_6
  exact (allC (notT (notF (notBF ((show (_ : Bool) = plB0 (normL (litL (litL (mkL x 0 (kdsP pl_P0)) 222 6) 223 6)) from by kernel_rfl).trans ((congrArg plB0 (litL_mk2 (litL_mk hz) hz2)).trans h0))))) (allC (notT (andFr (orF (notF (decide_eq_true (by first | omega | (unfold isub; omega)))) (notF (decide_eq_true (by first | omega | (unfold isub; omega))))))) (allC (andT (decide_eq_true (by first | omega | (unfold isub; omega))) (decide_eq_true (by first | omega | (unfold isub; omega)))) (allC (andT (decide_eq_true (by first | omega | (unfold isub; omega))) (decide_eq_true (by first | omega | (unfold isub; omega)))) allN))))

theorem pl_f28_6_6 (x : Vars) : (funH Try.prog G26 noLT true 1000 28 (argsP pl_P0 0 (litL (litL (mkL x 0 (kdsP pl_P0)) 222 6) 223 6)) (memP pl_P0 (litL (litL (mkL x 0 (kdsP pl_P0)) 222 6) 223 6)) [false, false]).map (fun r => (normR r.1, untupR r.1 && r.1.flat, r.2)) = some (pl_v6_6 x, true, pl_cs28_6_6 x) := by kernel_rfl


noncomputable def pl_cs28_6_7 (x : Vars) : List Bool := [(!(!(decide (((pl_E0_a0 x).i 0) = 0)))), (!((decide (((pl_E0_a0 x).i 0) = 0)) && ((!(decide (6 ≤ (isub (x.i 24) 1)))) || (!(decide (7 ≤ (isub (x.i 25) 1))))))), ((decide ((-(9223372036854775807 + 1)) ≤ (isub (x.i 25) 1))) && (decide ((isub (x.i 25) 1) ≤ 9223372036854775807))), ((decide ((-(9223372036854775807 + 1)) ≤ (isub (x.i 24) 1))) && (decide ((isub (x.i 24) 1) ≤ 9223372036854775807)))]

set_option maxRecDepth 100000 in
theorem pl_c28_6_7 (x : Vars) (ho : OkV (kdsP pl_P0) x) (h0 : plB0 (mkL x 0 (kdsP pl_P0)) = false) (h1 : plB1 (mkL x 0 (kdsP pl_P0)) = false) (hz : x.i 222 = 6) (hz2 : x.i 223 = 7) : ∀ b ∈ pl_cs28_6_7 x, b = true := by
  have w24 := Bool.and_eq_true_iff.1 (ho 24 _ rfl)
  have w25 := Bool.and_eq_true_iff.1 (ho 25 _ rfl)
  have w1 : (-128 : Int) ≤ x.i 24 := of_decide_eq_true w24.1
  have w2 : x.i 24 ≤ 127 := of_decide_eq_true w24.2
  have w3 : (-128 : Int) ≤ x.i 25 := of_decide_eq_true w25.1
  have w4 : x.i 25 ≤ 127 := of_decide_eq_true w25.2
  have b := plIn x h1
  unfold pl_cs28_6_7
  exact (allC (notT (notF (notBF ((show (_ : Bool) = plB0 (normL (litL (litL (mkL x 0 (kdsP pl_P0)) 222 6) 223 7)) from by kernel_rfl).trans ((congrArg plB0 (litL_mk2 (litL_mk hz) hz2)).trans h0))))) (allC (notT (andFr (orF (notF (decide_eq_true (by first | omega | (unfold isub; omega)))) (notF (decide_eq_true (by first | omega | (unfold isub; omega))))))) (allC (andT (decide_eq_true (by first | omega | (unfold isub; omega))) (decide_eq_true (by first | omega | (unfold isub; omega)))) (allC (andT (decide_eq_true (by first | omega | (unfold isub; omega))) (decide_eq_true (by first | omega | (unfold isub; omega)))) allN))))

theorem pl_f28_6_7 (x : Vars) : (funH Try.prog G26 noLT true 1000 28 (argsP pl_P0 0 (litL (litL (mkL x 0 (kdsP pl_P0)) 222 6) 223 7)) (memP pl_P0 (litL (litL (mkL x 0 (kdsP pl_P0)) 222 6) 223 7)) [false, false]).map (fun r => (normR r.1, untupR r.1 && r.1.flat, r.2)) = some (pl_v6_7 x, true, pl_cs28_6_7 x) := by kernel_rfl


noncomputable def pl_cs28_7_0 (x : Vars) : List Bool := [(!(!(decide (((pl_E0_a0 x).i 0) = 0)))), (!((decide (((pl_E0_a0 x).i 0) = 0)) && ((!(decide (7 ≤ (isub (x.i 24) 1)))) || (!(decide (0 ≤ (isub (x.i 25) 1))))))), ((decide ((-(9223372036854775807 + 1)) ≤ (isub (x.i 25) 1))) && (decide ((isub (x.i 25) 1) ≤ 9223372036854775807))), ((decide ((-(9223372036854775807 + 1)) ≤ (isub (x.i 24) 1))) && (decide ((isub (x.i 24) 1) ≤ 9223372036854775807)))]

set_option maxRecDepth 100000 in
theorem pl_c28_7_0 (x : Vars) (ho : OkV (kdsP pl_P0) x) (h0 : plB0 (mkL x 0 (kdsP pl_P0)) = false) (h1 : plB1 (mkL x 0 (kdsP pl_P0)) = false) (hz : x.i 222 = 7) (hz2 : x.i 223 = 0) : ∀ b ∈ pl_cs28_7_0 x, b = true := by
  have w24 := Bool.and_eq_true_iff.1 (ho 24 _ rfl)
  have w25 := Bool.and_eq_true_iff.1 (ho 25 _ rfl)
  have w1 : (-128 : Int) ≤ x.i 24 := of_decide_eq_true w24.1
  have w2 : x.i 24 ≤ 127 := of_decide_eq_true w24.2
  have w3 : (-128 : Int) ≤ x.i 25 := of_decide_eq_true w25.1
  have w4 : x.i 25 ≤ 127 := of_decide_eq_true w25.2
  have b := plIn x h1
  unfold pl_cs28_7_0
  exact (allC (notT (notF (notBF ((show (_ : Bool) = plB0 (normL (litL (litL (mkL x 0 (kdsP pl_P0)) 222 7) 223 0)) from by kernel_rfl).trans ((congrArg plB0 (litL_mk2 (litL_mk hz) hz2)).trans h0))))) (allC (notT (andFr (orF (notF (decide_eq_true (by first | omega | (unfold isub; omega)))) (notF (decide_eq_true (by first | omega | (unfold isub; omega))))))) (allC (andT (decide_eq_true (by first | omega | (unfold isub; omega))) (decide_eq_true (by first | omega | (unfold isub; omega)))) (allC (andT (decide_eq_true (by first | omega | (unfold isub; omega))) (decide_eq_true (by first | omega | (unfold isub; omega)))) allN))))

theorem pl_f28_7_0 (x : Vars) : (funH Try.prog G26 noLT true 1000 28 (argsP pl_P0 0 (litL (litL (mkL x 0 (kdsP pl_P0)) 222 7) 223 0)) (memP pl_P0 (litL (litL (mkL x 0 (kdsP pl_P0)) 222 7) 223 0)) [false, false]).map (fun r => (normR r.1, untupR r.1 && r.1.flat, r.2)) = some (pl_v7_0 x, true, pl_cs28_7_0 x) := by kernel_rfl


noncomputable def pl_cs28_7_1 (x : Vars) : List Bool := [(!(!(decide (((pl_E0_a0 x).i 0) = 0)))), (!((decide (((pl_E0_a0 x).i 0) = 0)) && ((!(decide (7 ≤ (isub (x.i 24) 1)))) || (!(decide (1 ≤ (isub (x.i 25) 1))))))), ((decide ((-(9223372036854775807 + 1)) ≤ (isub (x.i 25) 1))) && (decide ((isub (x.i 25) 1) ≤ 9223372036854775807))), ((decide ((-(9223372036854775807 + 1)) ≤ (isub (x.i 24) 1))) && (decide ((isub (x.i 24) 1) ≤ 9223372036854775807)))]

set_option maxRecDepth 100000 in
theorem pl_c28_7_1 (x : Vars) (ho : OkV (kdsP pl_P0) x) (h0 : plB0 (mkL x 0 (kdsP pl_P0)) = false) (h1 : plB1 (mkL x 0 (kdsP pl_P0)) = false) (hz : x.i 222 = 7) (hz2 : x.i 223 = 1) : ∀ b ∈ pl_cs28_7_1 x, b = true := by
  have w24 := Bool.and_eq_true_iff.1 (ho 24 _ rfl)
  have w25 := Bool.and_eq_true_iff.1 (ho 25 _ rfl)
  have w1 : (-128 : Int) ≤ x.i 24 := of_decide_eq_true w24.1
  have w2 : x.i 24 ≤ 127 := of_decide_eq_true w24.2
  have w3 : (-128 : Int) ≤ x.i 25 := of_decide_eq_true w25.1
  have w4 : x.i 25 ≤ 127 := of_decide_eq_true w25.2
  have b := plIn x h1
  unfold pl_cs28_7_1
  exact (allC (notT (notF (notBF ((show (_ : Bool) = plB0 (normL (litL (litL (mkL x 0 (kdsP pl_P0)) 222 7) 223 1)) from by kernel_rfl).trans ((congrArg plB0 (litL_mk2 (litL_mk hz) hz2)).trans h0))))) (allC (notT (andFr (orF (notF (decide_eq_true (by first | omega | (unfold isub; omega)))) (notF (decide_eq_true (by first | omega | (unfold isub; omega))))))) (allC (andT (decide_eq_true (by first | omega | (unfold isub; omega))) (decide_eq_true (by first | omega | (unfold isub; omega)))) (allC (andT (decide_eq_true (by first | omega | (unfold isub; omega))) (decide_eq_true (by first | omega | (unfold isub; omega)))) allN))))

theorem pl_f28_7_1 (x : Vars) : (funH Try.prog G26 noLT true 1000 28 (argsP pl_P0 0 (litL (litL (mkL x 0 (kdsP pl_P0)) 222 7) 223 1)) (memP pl_P0 (litL (litL (mkL x 0 (kdsP pl_P0)) 222 7) 223 1)) [false, false]).map (fun r => (normR r.1, untupR r.1 && r.1.flat, r.2)) = some (pl_v7_1 x, true, pl_cs28_7_1 x) := by kernel_rfl


noncomputable def pl_cs28_7_2 (x : Vars) : List Bool := [(!(!(decide (((pl_E0_a0 x).i 0) = 0)))), (!((decide (((pl_E0_a0 x).i 0) = 0)) && ((!(decide (7 ≤ (isub (x.i 24) 1)))) || (!(decide (2 ≤ (isub (x.i 25) 1))))))), ((decide ((-(9223372036854775807 + 1)) ≤ (isub (x.i 25) 1))) && (decide ((isub (x.i 25) 1) ≤ 9223372036854775807))), ((decide ((-(9223372036854775807 + 1)) ≤ (isub (x.i 24) 1))) && (decide ((isub (x.i 24) 1) ≤ 9223372036854775807)))]

set_option maxRecDepth 100000 in
theorem pl_c28_7_2 (x : Vars) (ho : OkV (kdsP pl_P0) x) (h0 : plB0 (mkL x 0 (kdsP pl_P0)) = false) (h1 : plB1 (mkL x 0 (kdsP pl_P0)) = false) (hz : x.i 222 = 7) (hz2 : x.i 223 = 2) : ∀ b ∈ pl_cs28_7_2 x, b = true := by
  have w24 := Bool.and_eq_true_iff.1 (ho 24 _ rfl)
  have w25 := Bool.and_eq_true_iff.1 (ho 25 _ rfl)
  have w1 : (-128 : Int) ≤ x.i 24 := of_decide_eq_true w24.1
  have w2 : x.i 24 ≤ 127 := of_decide_eq_true w24.2
  have w3 : (-128 : Int) ≤ x.i 25 := of_decide_eq_true w25.1
  have w4 : x.i 25 ≤ 127 := of_decide_eq_true w25.2
  have b := plIn x h1
  unfold pl_cs28_7_2
  exact (allC (notT (notF (notBF ((show (_ : Bool) = plB0 (normL (litL (litL (mkL x 0 (kdsP pl_P0)) 222 7) 223 2)) from by kernel_rfl).trans ((congrArg plB0 (litL_mk2 (litL_mk hz) hz2)).trans h0))))) (allC (notT (andFr (orF (notF (decide_eq_true (by first | omega | (unfold isub; omega)))) (notF (decide_eq_true (by first | omega | (unfold isub; omega))))))) (allC (andT (decide_eq_true (by first | omega | (unfold isub; omega))) (decide_eq_true (by first | omega | (unfold isub; omega)))) (allC (andT (decide_eq_true (by first | omega | (unfold isub; omega))) (decide_eq_true (by first | omega | (unfold isub; omega)))) allN))))

theorem pl_f28_7_2 (x : Vars) : (funH Try.prog G26 noLT true 1000 28 (argsP pl_P0 0 (litL (litL (mkL x 0 (kdsP pl_P0)) 222 7) 223 2)) (memP pl_P0 (litL (litL (mkL x 0 (kdsP pl_P0)) 222 7) 223 2)) [false, false]).map (fun r => (normR r.1, untupR r.1 && r.1.flat, r.2)) = some (pl_v7_2 x, true, pl_cs28_7_2 x) := by kernel_rfl


noncomputable def pl_cs28_7_3 (x : Vars) : List Bool := [(!(!(decide (((pl_E0_a0 x).i 0) = 0)))), (!((decide (((pl_E0_a0 x).i 0) = 0)) && ((!(decide (7 ≤ (isub (x.i 24) 1)))) || (!(decide (3 ≤ (isub (x.i 25) 1))))))), ((decide ((-(9223372036854775807 + 1)) ≤ (isub (x.i 25) 1))) && (decide ((isub (x.i 25) 1) ≤ 9223372036854775807))), ((decide ((-(9223372036854775807 + 1)) ≤ (isub (x.i 24) 1))) && (decide ((isub (x.i 24) 1) ≤ 9223372036854775807)))]

set_option maxRecDepth 100000 in
theorem pl_c28_7_3 (x : Vars) (ho : OkV (kdsP pl_P0) x) (h0 : plB0 (mkL x 0 (kdsP pl_P0)) = false) (h1 : plB1 (mkL x 0 (kdsP pl_P0)) = false) (hz : x.i 222 = 7) (hz2 : x.i 223 = 3) : ∀ b ∈ pl_cs28_7_3 x, b = true := by
  have w24 := Bool.and_eq_true_iff.1 (ho 24 _ rfl)
  have w25 := Bool.and_eq_true_iff.1 (ho 25 _ rfl)
  have w1 : (-128 : Int) ≤ x.i 24 := of_decide_eq_true w24.1
  have w2 : x.i 24 ≤ 127 := of_decide_eq_true w24.2
  have w3 : (-128 : Int) ≤ x.i 25 := of_decide_eq_true w25.1
  have w4 : x.i 25 ≤ 127 := of_decide_eq_true w25.2
  have b := plIn x h1
  unfold pl_cs28_7_3
  exact (allC (notT (notF (notBF ((show (_ : Bool) = plB0 (normL (litL (litL (mkL x 0 (kdsP pl_P0)) 222 7) 223 3)) from by kernel_rfl).trans ((congrArg plB0 (litL_mk2 (litL_mk hz) hz2)).trans h0))))) (allC (notT (andFr (orF (notF (decide_eq_true (by first | omega | (unfold isub; omega)))) (notF (decide_eq_true (by first | omega | (unfold isub; omega))))))) (allC (andT (decide_eq_true (by first | omega | (unfold isub; omega))) (decide_eq_true (by first | omega | (unfold isub; omega)))) (allC (andT (decide_eq_true (by first | omega | (unfold isub; omega))) (decide_eq_true (by first | omega | (unfold isub; omega)))) allN))))

theorem pl_f28_7_3 (x : Vars) : (funH Try.prog G26 noLT true 1000 28 (argsP pl_P0 0 (litL (litL (mkL x 0 (kdsP pl_P0)) 222 7) 223 3)) (memP pl_P0 (litL (litL (mkL x 0 (kdsP pl_P0)) 222 7) 223 3)) [false, false]).map (fun r => (normR r.1, untupR r.1 && r.1.flat, r.2)) = some (pl_v7_3 x, true, pl_cs28_7_3 x) := by kernel_rfl


noncomputable def pl_cs28_7_4 (x : Vars) : List Bool := [(!(!(decide (((pl_E0_a0 x).i 0) = 0)))), (!((decide (((pl_E0_a0 x).i 0) = 0)) && ((!(decide (7 ≤ (isub (x.i 24) 1)))) || (!(decide (4 ≤ (isub (x.i 25) 1))))))), ((decide ((-(9223372036854775807 + 1)) ≤ (isub (x.i 25) 1))) && (decide ((isub (x.i 25) 1) ≤ 9223372036854775807))), ((decide ((-(9223372036854775807 + 1)) ≤ (isub (x.i 24) 1))) && (decide ((isub (x.i 24) 1) ≤ 9223372036854775807)))]

set_option maxRecDepth 100000 in
theorem pl_c28_7_4 (x : Vars) (ho : OkV (kdsP pl_P0) x) (h0 : plB0 (mkL x 0 (kdsP pl_P0)) = false) (h1 : plB1 (mkL x 0 (kdsP pl_P0)) = false) (hz : x.i 222 = 7) (hz2 : x.i 223 = 4) : ∀ b ∈ pl_cs28_7_4 x, b = true := by
  have w24 := Bool.and_eq_true_iff.1 (ho 24 _ rfl)
  have w25 := Bool.and_eq_true_iff.1 (ho 25 _ rfl)
  have w1 : (-128 : Int) ≤ x.i 24 := of_decide_eq_true w24.1
  have w2 : x.i 24 ≤ 127 := of_decide_eq_true w24.2
  have w3 : (-128 : Int) ≤ x.i 25 := of_decide_eq_true w25.1
  have w4 : x.i 25 ≤ 127 := of_decide_eq_true w25.2
  have b := plIn x h1
  unfold pl_cs28_7_4
  exact (allC (notT (notF (notBF ((show (_ : Bool) = plB0 (normL (litL (litL (mkL x 0 (kdsP pl_P0)) 222 7) 223 4)) from by kernel_rfl).trans ((congrArg plB0 (litL_mk2 (litL_mk hz) hz2)).trans h0))))) (allC (notT (andFr (orF (notF (decide_eq_true (by first | omega | (unfold isub; omega)))) (notF (decide_eq_true (by first | omega | (unfold isub; omega))))))) (allC (andT (decide_eq_true (by first | omega | (unfold isub; omega))) (decide_eq_true (by first | omega | (unfold isub; omega)))) (allC (andT (decide_eq_true (by first | omega | (unfold isub; omega))) (decide_eq_true (by first | omega | (unfold isub; omega)))) allN))))

theorem pl_f28_7_4 (x : Vars) : (funH Try.prog G26 noLT true 1000 28 (argsP pl_P0 0 (litL (litL (mkL x 0 (kdsP pl_P0)) 222 7) 223 4)) (memP pl_P0 (litL (litL (mkL x 0 (kdsP pl_P0)) 222 7) 223 4)) [false, false]).map (fun r => (normR r.1, untupR r.1 && r.1.flat, r.2)) = some (pl_v7_4 x, true, pl_cs28_7_4 x) := by kernel_rfl


noncomputable def pl_cs28_7_5 (x : Vars) : List Bool := [(!(!(decide (((pl_E0_a0 x).i 0) = 0)))), (!((decide (((pl_E0_a0 x).i 0) = 0)) && ((!(decide (7 ≤ (isub (x.i 24) 1)))) || (!(decide (5 ≤ (isub (x.i 25) 1))))))), ((decide ((-(9223372036854775807 + 1)) ≤ (isub (x.i 25) 1))) && (decide ((isub (x.i 25) 1) ≤ 9223372036854775807))), ((decide ((-(9223372036854775807 + 1)) ≤ (isub (x.i 24) 1))) && (decide ((isub (x.i 24) 1) ≤ 9223372036854775807)))]

set_option maxRecDepth 100000 in
theorem pl_c28_7_5 (x : Vars) (ho : OkV (kdsP pl_P0) x) (h0 : plB0 (mkL x 0 (kdsP pl_P0)) = false) (h1 : plB1 (mkL x 0 (kdsP pl_P0)) = false) (hz : x.i 222 = 7) (hz2 : x.i 223 = 5) : ∀ b ∈ pl_cs28_7_5 x, b = true := by
  have w24 := Bool.and_eq_true_iff.1 (ho 24 _ rfl)
  have w25 := Bool.and_eq_true_iff.1 (ho 25 _ rfl)
  have w1 : (-128 : Int) ≤ x.i 24 := of_decide_eq_true w24.1
  have w2 : x.i 24 ≤ 127 := of_decide_eq_true w24.2
  have w3 : (-128 : Int) ≤ x.i 25 := of_decide_eq_true w25.1
  have w4 : x.i 25 ≤ 127 := of_decide_eq_true w25.2
  have b := plIn x h1
  unfold pl_cs28_7_5
  exact (allC (notT (notF (notBF ((show (_ : Bool) = plB0 (normL (litL (litL (mkL x 0 (kdsP pl_P0)) 222 7) 223 5)) from by kernel_rfl).trans ((congrArg plB0 (litL_mk2 (litL_mk hz) hz2)).trans h0))))) (allC (notT (andFr (orF (notF (decide_eq_true (by first | omega | (unfold isub; omega)))) (notF (decide_eq_true (by first | omega | (unfold isub; omega))))))) (allC (andT (decide_eq_true (by first | omega | (unfold isub; omega))) (decide_eq_true (by first | omega | (unfold isub; omega)))) (allC (andT (decide_eq_true (by first | omega | (unfold isub; omega))) (decide_eq_true (by first | omega | (unfold isub; omega)))) allN))))

theorem pl_f28_7_5 (x : Vars) : (funH Try.prog G26 noLT true 1000 28 (argsP pl_P0 0 (litL (litL (mkL x 0 (kdsP pl_P0)) 222 7) 223 5)) (memP pl_P0 (litL (litL (mkL x 0 (kdsP pl_P0)) 222 7) 223 5)) [false, false]).map (fun r => (normR r.1, untupR r.1 && r.1.flat, r.2)) = some (pl_v7_5 x, true, pl_cs28_7_5 x) := by kernel_rfl


noncomputable def pl_cs28_7_6 (x : Vars) : List Bool := [(!(!(decide (((pl_E0_a0 x).i 0) = 0)))), (!((decide (((pl_E0_a0 x).i 0) = 0)) && ((!(decide (7 ≤ (isub (x.i 24) 1)))) || (!(decide (6 ≤ (isub (x.i 25) 1))))))), ((decide ((-(9223372036854775807 + 1)) ≤ (isub (x.i 25) 1))) && (decide ((isub (x.i 25) 1) ≤ 9223372036854775807))), ((decide ((-(9223372036854775807 + 1)) ≤ (isub (x.i 24) 1))) && (decide ((isub (x.i 24) 1) ≤ 9223372036854775807)))]

set_option maxRecDepth 100000 in
theorem pl_c28_7_6 (x : Vars) (ho : OkV (kdsP pl_P0) x) (h0 : plB0 (mkL x 0 (kdsP pl_P0)) = false) (h1 : plB1 (mkL x 0 (kdsP pl_P0)) = false) (hz : x.i 222 = 7) (hz2 : x.i 223 = 6) : ∀ b ∈ pl_cs28_7_6 x, b = true := by
  have w24 := Bool.and_eq_true_iff.1 (ho 24 _ rfl)
  have w25 := Bool.and_eq_true_iff.1 (ho 25 _ rfl)
  have w1 : (-128 : Int) ≤ x.i 24 := of_decide_eq_true w24.1
  have w2 : x.i 24 ≤ 127 := of_decide_eq_true w24.2
  have w3 : (-128 : Int) ≤ x.i 25 := of_decide_eq_true w25.1
  have w4 : x.i 25 ≤ 127 := of_decide_eq_true w25.2
  have b := plIn x h1
  unfold pl_cs28_7_6
  exact (allC (notT (notF (notBF ((show (_ : Bool) = plB0 (normL (litL (litL (mkL x 0 (kdsP pl_P0)) 222 7) 223 6)) from by kernel_rfl).trans ((congrArg plB0 (litL_mk2 (litL_mk hz) hz2)).trans h0))))) (allC (notT (andFr (orF (notF (decide_eq_true (by first | omega | (unfold isub; omega)))) (notF (decide_eq_true (by first | omega | (unfold isub; omega))))))) (allC (andT (decide_eq_true (by first | omega | (unfold isub; omega))) (decide_eq_true (by first | omega | (unfold isub; omega)))) (allC (andT (decide_eq_true (by first | omega | (unfold isub; omega))) (decide_eq_true (by first | omega | (unfold isub; omega)))) allN))))

theorem pl_f28_7_6 (x : Vars) : (funH Try.prog G26 noLT true 1000 28 (argsP pl_P0 0 (litL (litL (mkL x 0 (kdsP pl_P0)) 222 7) 223 6)) (memP pl_P0 (litL (litL (mkL x 0 (kdsP pl_P0)) 222 7) 223 6)) [false, false]).map (fun r => (normR r.1, untupR r.1 && r.1.flat, r.2)) = some (pl_v7_6 x, true, pl_cs28_7_6 x) := by kernel_rfl


noncomputable def pl_cs28_7_7 (x : Vars) : List Bool := [(!(!(decide (((pl_E0_a0 x).i 0) = 0)))), (!((decide (((pl_E0_a0 x).i 0) = 0)) && ((!(decide (7 ≤ (isub (x.i 24) 1)))) || (!(decide (7 ≤ (isub (x.i 25) 1))))))), ((decide ((-(9223372036854775807 + 1)) ≤ (isub (x.i 25) 1))) && (decide ((isub (x.i 25) 1) ≤ 9223372036854775807))), ((decide ((-(9223372036854775807 + 1)) ≤ (isub (x.i 24) 1))) && (decide ((isub (x.i 24) 1) ≤ 9223372036854775807)))]

set_option maxRecDepth 100000 in
theorem pl_c28_7_7 (x : Vars) (ho : OkV (kdsP pl_P0) x) (h0 : plB0 (mkL x 0 (kdsP pl_P0)) = false) (h1 : plB1 (mkL x 0 (kdsP pl_P0)) = false) (hz : x.i 222 = 7) (hz2 : x.i 223 = 7) : ∀ b ∈ pl_cs28_7_7 x, b = true := by
  have w24 := Bool.and_eq_true_iff.1 (ho 24 _ rfl)
  have w25 := Bool.and_eq_true_iff.1 (ho 25 _ rfl)
  have w1 : (-128 : Int) ≤ x.i 24 := of_decide_eq_true w24.1
  have w2 : x.i 24 ≤ 127 := of_decide_eq_true w24.2
  have w3 : (-128 : Int) ≤ x.i 25 := of_decide_eq_true w25.1
  have w4 : x.i 25 ≤ 127 := of_decide_eq_true w25.2
  have b := plIn x h1
  unfold pl_cs28_7_7
  exact (allC (notT (notF (notBF ((show (_ : Bool) = plB0 (normL (litL (litL (mkL x 0 (kdsP pl_P0)) 222 7) 223 7)) from by kernel_rfl).trans ((congrArg plB0 (litL_mk2 (litL_mk hz) hz2)).trans h0))))) (allC (notT (andFr (orF (notF (decide_eq_true (by first | omega | (unfold isub; omega)))) (notF (decide_eq_true (by first | omega | (unfold isub; omega))))))) (allC (andT (decide_eq_true (by first | omega | (unfold isub; omega))) (decide_eq_true (by first | omega | (unfold isub; omega)))) (allC (andT (decide_eq_true (by first | omega | (unfold isub; omega))) (decide_eq_true (by first | omega | (unfold isub; omega)))) allN))))

theorem pl_f28_7_7 (x : Vars) : (funH Try.prog G26 noLT true 1000 28 (argsP pl_P0 0 (litL (litL (mkL x 0 (kdsP pl_P0)) 222 7) 223 7)) (memP pl_P0 (litL (litL (mkL x 0 (kdsP pl_P0)) 222 7) 223 7)) [false, false]).map (fun r => (normR r.1, untupR r.1 && r.1.flat, r.2)) = some (pl_v7_7 x, true, pl_cs28_7_7 x) := by kernel_rfl

theorem pl_ev28 (x : Vars) (ho : OkV (kdsP pl_P0) x) : EvP Try.prog G26 28 pl_P0 [.ag kd1, .sc (.int .i64)] (mkL x 0 (kdsP pl_P0)) (plR0 (mkL x 0 (kdsP pl_P0))) := by
  cases h0 : plB0 (mkL x 0 (kdsP pl_P0)) with
  | true =>
    have e : plR0 (mkL x 0 (kdsP pl_P0)) = plZE0 (mkL x 0 (kdsP pl_P0)) := by unfold plR0; rw [h0]; rfl
    rw [e]
    exact EvP.ofH (H := noLT) (J := true) (HFun.none Try.prog _ 28) (mkL_norm ..) (by rw [pl_xE0]; exact pl_f28_E0 x) (pl_c28_E0 x ho h0)
  | false =>
  cases h1 : plB1 (mkL x 0 (kdsP pl_P0)) with
  | true =>
    have e : plR0 (mkL x 0 (kdsP pl_P0)) = plZE1 (mkL x 0 (kdsP pl_P0)) := by unfold plR0; rw [h0, h1]; rfl
    rw [e]
    exact EvP.ofH (H := noLT) (J := true) (HFun.none Try.prog _ 28) (mkL_norm ..) (by rw [pl_xE1]; exact pl_f28_E1 x) (pl_c28_E1 x ho h0 h1)
  | false =>
  have hr := plRng x h0 h1
  have c0 : x.i 222 = 0 ∨ x.i 222 = 1 ∨ x.i 222 = 2 ∨ x.i 222 = 3 ∨ x.i 222 = 4 ∨ x.i 222 = 5 ∨ x.i 222 = 6 ∨ x.i 222 = 7 := by omega
  rcases c0 with hz | hz | hz | hz | hz | hz | hz | hz
  · have c1 : x.i 223 = 0 ∨ x.i 223 = 1 ∨ x.i 223 = 2 ∨ x.i 223 = 3 ∨ x.i 223 = 4 ∨ x.i 223 = 5 ∨ x.i 223 = 6 ∨ x.i 223 = 7 := by omega
    rcases c1 with hz2 | hz2 | hz2 | hz2 | hz2 | hz2 | hz2 | hz2
    · have e : plR0 (mkL x 0 (kdsP pl_P0)) = plZ0_0 (mkL x 0 (kdsP pl_P0)) := by
        unfold plR0
        have hz : intOf (leafN (mkL x 0 (kdsP pl_P0)) 222) = 0 := hz
        have hz2 : intOf (leafN (mkL x 0 (kdsP pl_P0)) 223) = 0 := hz2
        rw [h0, h1, hz, hz2]
        rfl
      rw [e]
      exact EvP.ofH (H := noLT) (J := true) (HFun.none Try.prog _ 28) (litL_mk2 (litL_mk hz) hz2) (by rw [pl_x0_0]; exact pl_f28_0_0 x) (pl_c28_0_0 x ho h0 h1 hz hz2)
    · have e : plR0 (mkL x 0 (kdsP pl_P0)) = plZ0_1 (mkL x 0 (kdsP pl_P0)) := by
        unfold plR0
        have hz : intOf (leafN (mkL x 0 (kdsP pl_P0)) 222) = 0 := hz
        have hz2 : intOf (leafN (mkL x 0 (kdsP pl_P0)) 223) = 1 := hz2
        rw [h0, h1, hz, hz2]
        rfl
      rw [e]
      exact EvP.ofH (H := noLT) (J := true) (HFun.none Try.prog _ 28) (litL_mk2 (litL_mk hz) hz2) (by rw [pl_x0_1]; exact pl_f28_0_1 x) (pl_c28_0_1 x ho h0 h1 hz hz2)
    · have e : plR0 (mkL x 0 (kdsP pl_P0)) = plZ0_2 (mkL x 0 (kdsP pl_P0)) := by
        unfold plR0
        have hz : intOf (leafN (mkL x 0 (kdsP pl_P0)) 222) = 0 := hz
        have hz2 : intOf (leafN (mkL x 0 (kdsP pl_P0)) 223) = 2 := hz2
        rw [h0, h1, hz, hz2]
        rfl
      rw [e]
      exact EvP.ofH (H := noLT) (J := true) (HFun.none Try.prog _ 28) (litL_mk2 (litL_mk hz) hz2) (by rw [pl_x0_2]; exact pl_f28_0_2 x) (pl_c28_0_2 x ho h0 h1 hz hz2)
    · have e : plR0 (mkL x 0 (kdsP pl_P0)) = plZ0_3 (mkL x 0 (kdsP pl_P0)) := by
        unfold plR0
        have hz : intOf (leafN (mkL x 0 (kdsP pl_P0)) 222) = 0 := hz
        have hz2 : intOf (leafN (mkL x 0 (kdsP pl_P0)) 223) = 3 := hz2
        rw [h0, h1, hz, hz2]
        rfl
      rw [e]
      exact EvP.ofH (H := noLT) (J := true) (HFun.none Try.prog _ 28) (litL_mk2 (litL_mk hz) hz2) (by rw [pl_x0_3]; exact pl_f28_0_3 x) (pl_c28_0_3 x ho h0 h1 hz hz2)
    · have e : plR0 (mkL x 0 (kdsP pl_P0)) = plZ0_4 (mkL x 0 (kdsP pl_P0)) := by
        unfold plR0
        have hz : intOf (leafN (mkL x 0 (kdsP pl_P0)) 222) = 0 := hz
        have hz2 : intOf (leafN (mkL x 0 (kdsP pl_P0)) 223) = 4 := hz2
        rw [h0, h1, hz, hz2]
        rfl
      rw [e]
      exact EvP.ofH (H := noLT) (J := true) (HFun.none Try.prog _ 28) (litL_mk2 (litL_mk hz) hz2) (by rw [pl_x0_4]; exact pl_f28_0_4 x) (pl_c28_0_4 x ho h0 h1 hz hz2)
    · have e : plR0 (mkL x 0 (kdsP pl_P0)) = plZ0_5 (mkL x 0 (kdsP pl_P0)) := by
        unfold plR0
        have hz : intOf (leafN (mkL x 0 (kdsP pl_P0)) 222) = 0 := hz
        have hz2 : intOf (leafN (mkL x 0 (kdsP pl_P0)) 223) = 5 := hz2
        rw [h0, h1, hz, hz2]
        rfl
      rw [e]
      exact EvP.ofH (H := noLT) (J := true) (HFun.none Try.prog _ 28) (litL_mk2 (litL_mk hz) hz2) (by rw [pl_x0_5]; exact pl_f28_0_5 x) (pl_c28_0_5 x ho h0 h1 hz hz2)
    · have e : plR0 (mkL x 0 (kdsP pl_P0)) = plZ0_6 (mkL x 0 (kdsP pl_P0)) := by
        unfold plR0
        have hz : intOf (leafN (mkL x 0 (kdsP pl_P0)) 222) = 0 := hz
        have hz2 : intOf (leafN (mkL x 0 (kdsP pl_P0)) 223) = 6 := hz2
        rw [h0, h1, hz, hz2]
        rfl
      rw [e]
      exact EvP.ofH (H := noLT) (J := true) (HFun.none Try.prog _ 28) (litL_mk2 (litL_mk hz) hz2) (by rw [pl_x0_6]; exact pl_f28_0_6 x) (pl_c28_0_6 x ho h0 h1 hz hz2)
    · have e : plR0 (mkL x 0 (kdsP pl_P0)) = plZ0_7 (mkL x 0 (kdsP pl_P0)) := by
        unfold plR0
        have hz : intOf (leafN (mkL x 0 (kdsP pl_P0)) 222) = 0 := hz
        have hz2 : intOf (leafN (mkL x 0 (kdsP pl_P0)) 223) = 7 := hz2
        rw [h0, h1, hz, hz2]
        rfl
      rw [e]
      exact EvP.ofH (H := noLT) (J := true) (HFun.none Try.prog _ 28) (litL_mk2 (litL_mk hz) hz2) (by rw [pl_x0_7]; exact pl_f28_0_7 x) (pl_c28_0_7 x ho h0 h1 hz hz2)
  · have c1 : x.i 223 = 0 ∨ x.i 223 = 1 ∨ x.i 223 = 2 ∨ x.i 223 = 3 ∨ x.i 223 = 4 ∨ x.i 223 = 5 ∨ x.i 223 = 6 ∨ x.i 223 = 7 := by omega
    rcases c1 with hz2 | hz2 | hz2 | hz2 | hz2 | hz2 | hz2 | hz2
    · have e : plR0 (mkL x 0 (kdsP pl_P0)) = plZ1_0 (mkL x 0 (kdsP pl_P0)) := by
        unfold plR0
        have hz : intOf (leafN (mkL x 0 (kdsP pl_P0)) 222) = 1 := hz
        have hz2 : intOf (leafN (mkL x 0 (kdsP pl_P0)) 223) = 0 := hz2
        rw [h0, h1, hz, hz2]
        rfl
      rw [e]
      exact EvP.ofH (H := noLT) (J := true) (HFun.none Try.prog _ 28) (litL_mk2 (litL_mk hz) hz2) (by rw [pl_x1_0]; exact pl_f28_1_0 x) (pl_c28_1_0 x ho h0 h1 hz hz2)
    · have e : plR0 (mkL x 0 (kdsP pl_P0)) = plZ1_1 (mkL x 0 (kdsP pl_P0)) := by
        unfold plR0
        have hz : intOf (leafN (mkL x 0 (kdsP pl_P0)) 222) = 1 := hz
        have hz2 : intOf (leafN (mkL x 0 (kdsP pl_P0)) 223) = 1 := hz2
        rw [h0, h1, hz, hz2]
        rfl
      rw [e]
      exact EvP.ofH (H := noLT) (J := true) (HFun.none Try.prog _ 28) (litL_mk2 (litL_mk hz) hz2) (by rw [pl_x1_1]; exact pl_f28_1_1 x) (pl_c28_1_1 x ho h0 h1 hz hz2)
    · have e : plR0 (mkL x 0 (kdsP pl_P0)) = plZ1_2 (mkL x 0 (kdsP pl_P0)) := by
        unfold plR0
        have hz : intOf (leafN (mkL x 0 (kdsP pl_P0)) 222) = 1 := hz
        have hz2 : intOf (leafN (mkL x 0 (kdsP pl_P0)) 223) = 2 := hz2
        rw [h0, h1, hz, hz2]
        rfl
      rw [e]
      exact EvP.ofH (H := noLT) (J := true) (HFun.none Try.prog _ 28) (litL_mk2 (litL_mk hz) hz2) (by rw [pl_x1_2]; exact pl_f28_1_2 x) (pl_c28_1_2 x ho h0 h1 hz hz2)
    · have e : plR0 (mkL x 0 (kdsP pl_P0)) = plZ1_3 (mkL x 0 (kdsP pl_P0)) := by
        unfold plR0
        have hz : intOf (leafN (mkL x 0 (kdsP pl_P0)) 222) = 1 := hz
        have hz2 : intOf (leafN (mkL x 0 (kdsP pl_P0)) 223) = 3 := hz2
        rw [h0, h1, hz, hz2]
        rfl
      rw [e]
      exact EvP.ofH (H := noLT) (J := true) (HFun.none Try.prog _ 28) (litL_mk2 (litL_mk hz) hz2) (by rw [pl_x1_3]; exact pl_f28_1_3 x) (pl_c28_1_3 x ho h0 h1 hz hz2)
    · have e : plR0 (mkL x 0 (kdsP pl_P0)) = plZ1_4 (mkL x 0 (kdsP pl_P0)) := by
        unfold plR0
        have hz : intOf (leafN (mkL x 0 (kdsP pl_P0)) 222) = 1 := hz
        have hz2 : intOf (leafN (mkL x 0 (kdsP pl_P0)) 223) = 4 := hz2
        rw [h0, h1, hz, hz2]
        rfl
      rw [e]
      exact EvP.ofH (H := noLT) (J := true) (HFun.none Try.prog _ 28) (litL_mk2 (litL_mk hz) hz2) (by rw [pl_x1_4]; exact pl_f28_1_4 x) (pl_c28_1_4 x ho h0 h1 hz hz2)
    · have e : plR0 (mkL x 0 (kdsP pl_P0)) = plZ1_5 (mkL x 0 (kdsP pl_P0)) := by
        unfold plR0
        have hz : intOf (leafN (mkL x 0 (kdsP pl_P0)) 222) = 1 := hz
        have hz2 : intOf (leafN (mkL x 0 (kdsP pl_P0)) 223) = 5 := hz2
        rw [h0, h1, hz, hz2]
        rfl
      rw [e]
      exact EvP.ofH (H := noLT) (J := true) (HFun.none Try.prog _ 28) (litL_mk2 (litL_mk hz) hz2) (by rw [pl_x1_5]; exact pl_f28_1_5 x) (pl_c28_1_5 x ho h0 h1 hz hz2)
    · have e : plR0 (mkL x 0 (kdsP pl_P0)) = plZ1_6 (mkL x 0 (kdsP pl_P0)) := by
        unfold plR0
        have hz : intOf (leafN (mkL x 0 (kdsP pl_P0)) 222) = 1 := hz
        have hz2 : intOf (leafN (mkL x 0 (kdsP pl_P0)) 223) = 6 := hz2
        rw [h0, h1, hz, hz2]
        rfl
      rw [e]
      exact EvP.ofH (H := noLT) (J := true) (HFun.none Try.prog _ 28) (litL_mk2 (litL_mk hz) hz2) (by rw [pl_x1_6]; exact pl_f28_1_6 x) (pl_c28_1_6 x ho h0 h1 hz hz2)
    · have e : plR0 (mkL x 0 (kdsP pl_P0)) = plZ1_7 (mkL x 0 (kdsP pl_P0)) := by
        unfold plR0
        have hz : intOf (leafN (mkL x 0 (kdsP pl_P0)) 222) = 1 := hz
        have hz2 : intOf (leafN (mkL x 0 (kdsP pl_P0)) 223) = 7 := hz2
        rw [h0, h1, hz, hz2]
        rfl
      rw [e]
      exact EvP.ofH (H := noLT) (J := true) (HFun.none Try.prog _ 28) (litL_mk2 (litL_mk hz) hz2) (by rw [pl_x1_7]; exact pl_f28_1_7 x) (pl_c28_1_7 x ho h0 h1 hz hz2)
  · have c1 : x.i 223 = 0 ∨ x.i 223 = 1 ∨ x.i 223 = 2 ∨ x.i 223 = 3 ∨ x.i 223 = 4 ∨ x.i 223 = 5 ∨ x.i 223 = 6 ∨ x.i 223 = 7 := by omega
    rcases c1 with hz2 | hz2 | hz2 | hz2 | hz2 | hz2 | hz2 | hz2
    · have e : plR0 (mkL x 0 (kdsP pl_P0)) = plZ2_0 (mkL x 0 (kdsP pl_P0)) := by
        unfold plR0
        have hz : intOf (leafN (mkL x 0 (kdsP pl_P0)) 222) = 2 := hz
        have hz2 : intOf (leafN (mkL x 0 (kdsP pl_P0)) 223) = 0 := hz2
        rw [h0, h1, hz, hz2]
        rfl
      rw [e]
      exact EvP.ofH (H := noLT) (J := true) (HFun.none Try.prog _ 28) (litL_mk2 (litL_mk hz) hz2) (by rw [pl_x2_0]; exact pl_f28_2_0 x) (pl_c28_2_0 x ho h0 h1 hz hz2)
    · have e : plR0 (mkL x 0 (kdsP pl_P0)) = plZ2_1 (mkL x 0 (kdsP pl_P0)) := by
        unfold plR0
        have hz : intOf (leafN (mkL x 0 (kdsP pl_P0)) 222) = 2 := hz
        have hz2 : intOf (leafN (mkL x 0 (kdsP pl_P0)) 223) = 1 := hz2
        rw [h0, h1, hz, hz2]
        rfl
      rw [e]
      exact EvP.ofH (H := noLT) (J := true) (HFun.none Try.prog _ 28) (litL_mk2 (litL_mk hz) hz2) (by rw [pl_x2_1]; exact pl_f28_2_1 x) (pl_c28_2_1 x ho h0 h1 hz hz2)
    · have e : plR0 (mkL x 0 (kdsP pl_P0)) = plZ2_2 (mkL x 0 (kdsP pl_P0)) := by
        unfold plR0
        have hz : intOf (leafN (mkL x 0 (kdsP pl_P0)) 222) = 2 := hz
        have hz2 : intOf (leafN (mkL x 0 (kdsP pl_P0)) 223) = 2 := hz2
        rw [h0, h1, hz, hz2]
        rfl
      rw [e]
      exact EvP.ofH (H := noLT) (J := true) (HFun.none Try.prog _ 28) (litL_mk2 (litL_mk hz) hz2) (by rw [pl_x2_2]; exact pl_f28_2_2 x) (pl_c28_2_2 x ho h0 h1 hz hz2)
    · have e : plR0 (mkL x 0 (kdsP pl_P0)) = plZ2_3 (mkL x 0 (kdsP pl_P0)) := by
        unfold plR0
        have hz : intOf (leafN (mkL x 0 (kdsP pl_P0)) 222) = 2 := hz
        have hz2 : intOf (leafN (mkL x 0 (kdsP pl_P0)) 223) = 3 := hz2
        rw [h0, h1, hz, hz2]
        rfl
      rw [e]
      exact EvP.ofH (H := noLT) (J := true) (HFun.none Try.prog _ 28) (litL_mk2 (litL_mk hz) hz2) (by rw [pl_x2_3]; exact pl_f28_2_3 x) (pl_c28_2_3 x ho h0 h1 hz hz2)
    · have e : plR0 (mkL x 0 (kdsP pl_P0)) = plZ2_4 (mkL x 0 (kdsP pl_P0)) := by
        unfold plR0
        have hz : intOf (leafN (mkL x 0 (kdsP pl_P0)) 222) = 2 := hz
        have hz2 : intOf (leafN (mkL x 0 (kdsP pl_P0)) 223) = 4 := hz2
        rw [h0, h1, hz, hz2]
        rfl
      rw [e]
      exact EvP.ofH (H := noLT) (J := true) (HFun.none Try.prog _ 28) (litL_mk2 (litL_mk hz) hz2) (by rw [pl_x2_4]; exact pl_f28_2_4 x) (pl_c28_2_4 x ho h0 h1 hz hz2)
    · have e : plR0 (mkL x 0 (kdsP pl_P0)) = plZ2_5 (mkL x 0 (kdsP pl_P0)) := by
        unfold plR0
        have hz : intOf (leafN (mkL x 0 (kdsP pl_P0)) 222) = 2 := hz
        have hz2 : intOf (leafN (mkL x 0 (kdsP pl_P0)) 223) = 5 := hz2
        rw [h0, h1, hz, hz2]
        rfl
      rw [e]
      exact EvP.ofH (H := noLT) (J := true) (HFun.none Try.prog _ 28) (litL_mk2 (litL_mk hz) hz2) (by rw [pl_x2_5]; exact pl_f28_2_5 x) (pl_c28_2_5 x ho h0 h1 hz hz2)
    · have e : plR0 (mkL x 0 (kdsP pl_P0)) = plZ2_6 (mkL x 0 (kdsP pl_P0)) := by
        unfold plR0
        have hz : intOf (leafN (mkL x 0 (kdsP pl_P0)) 222) = 2 := hz
        have hz2 : intOf (leafN (mkL x 0 (kdsP pl_P0)) 223) = 6 := hz2
        rw [h0, h1, hz, hz2]
        rfl
      rw [e]
      exact EvP.ofH (H := noLT) (J := true) (HFun.none Try.prog _ 28) (litL_mk2 (litL_mk hz) hz2) (by rw [pl_x2_6]; exact pl_f28_2_6 x) (pl_c28_2_6 x ho h0 h1 hz hz2)
    · have e : plR0 (mkL x 0 (kdsP pl_P0)) = plZ2_7 (mkL x 0 (kdsP pl_P0)) := by
        unfold plR0
        have hz : intOf (leafN (mkL x 0 (kdsP pl_P0)) 222) = 2 := hz
        have hz2 : intOf (leafN (mkL x 0 (kdsP pl_P0)) 223) = 7 := hz2
        rw [h0, h1, hz, hz2]
        rfl
      rw [e]
      exact EvP.ofH (H := noLT) (J := true) (HFun.none Try.prog _ 28) (litL_mk2 (litL_mk hz) hz2) (by rw [pl_x2_7]; exact pl_f28_2_7 x) (pl_c28_2_7 x ho h0 h1 hz hz2)
  · have c1 : x.i 223 = 0 ∨ x.i 223 = 1 ∨ x.i 223 = 2 ∨ x.i 223 = 3 ∨ x.i 223 = 4 ∨ x.i 223 = 5 ∨ x.i 223 = 6 ∨ x.i 223 = 7 := by omega
    rcases c1 with hz2 | hz2 | hz2 | hz2 | hz2 | hz2 | hz2 | hz2
    · have e : plR0 (mkL x 0 (kdsP pl_P0)) = plZ3_0 (mkL x 0 (kdsP pl_P0)) := by
        unfold plR0
        have hz : intOf (leafN (mkL x 0 (kdsP pl_P0)) 222) = 3 := hz
        have hz2 : intOf (leafN (mkL x 0 (kdsP pl_P0)) 223) = 0 := hz2
        rw [h0, h1, hz, hz2]
        rfl
      rw [e]
      exact EvP.ofH (H := noLT) (J := true) (HFun.none Try.prog _ 28) (litL_mk2 (litL_mk hz) hz2) (by rw [pl_x3_0]; exact pl_f28_3_0 x) (pl_c28_3_0 x ho h0 h1 hz hz2)
    · have e : plR0 (mkL x 0 (kdsP pl_P0)) = plZ3_1 (mkL x 0 (kdsP pl_P0)) := by
        unfold plR0
        have hz : intOf (leafN (mkL x 0 (kdsP pl_P0)) 222) = 3 := hz
        have hz2 : intOf (leafN (mkL x 0 (kdsP pl_P0)) 223) = 1 := hz2
        rw [h0, h1, hz, hz2]
        rfl
      rw [e]
      exact EvP.ofH (H := noLT) (J := true) (HFun.none Try.prog _ 28) (litL_mk2 (litL_mk hz) hz2) (by rw [pl_x3_1]; exact pl_f28_3_1 x) (pl_c28_3_1 x ho h0 h1 hz hz2)
    · have e : plR0 (mkL x 0 (kdsP pl_P0)) = plZ3_2 (mkL x 0 (kdsP pl_P0)) := by
        unfold plR0
        have hz : intOf (leafN (mkL x 0 (kdsP pl_P0)) 222) = 3 := hz
        have hz2 : intOf (leafN (mkL x 0 (kdsP pl_P0)) 223) = 2 := hz2
        rw [h0, h1, hz, hz2]
        rfl
      rw [e]
      exact EvP.ofH (H := noLT) (J := true) (HFun.none Try.prog _ 28) (litL_mk2 (litL_mk hz) hz2) (by rw [pl_x3_2]; exact pl_f28_3_2 x) (pl_c28_3_2 x ho h0 h1 hz hz2)
    · have e : plR0 (mkL x 0 (kdsP pl_P0)) = plZ3_3 (mkL x 0 (kdsP pl_P0)) := by
        unfold plR0
        have hz : intOf (leafN (mkL x 0 (kdsP pl_P0)) 222) = 3 := hz
        have hz2 : intOf (leafN (mkL x 0 (kdsP pl_P0)) 223) = 3 := hz2
        rw [h0, h1, hz, hz2]
        rfl
      rw [e]
      exact EvP.ofH (H := noLT) (J := true) (HFun.none Try.prog _ 28) (litL_mk2 (litL_mk hz) hz2) (by rw [pl_x3_3]; exact pl_f28_3_3 x) (pl_c28_3_3 x ho h0 h1 hz hz2)
    · have e : plR0 (mkL x 0 (kdsP pl_P0)) = plZ3_4 (mkL x 0 (kdsP pl_P0)) := by
        unfold plR0
        have hz : intOf (leafN (mkL x 0 (kdsP pl_P0)) 222) = 3 := hz
        have hz2 : intOf (leafN (mkL x 0 (kdsP pl_P0)) 223) = 4 := hz2
        rw [h0, h1, hz, hz2]
        rfl
      rw [e]
      exact EvP.ofH (H := noLT) (J := true) (HFun.none Try.prog _ 28) (litL_mk2 (litL_mk hz) hz2) (by rw [pl_x3_4]; exact pl_f28_3_4 x) (pl_c28_3_4 x ho h0 h1 hz hz2)
    · have e : plR0 (mkL x 0 (kdsP pl_P0)) = plZ3_5 (mkL x 0 (kdsP pl_P0)) := by
        unfold plR0
        have hz : intOf (leafN (mkL x 0 (kdsP pl_P0)) 222) = 3 := hz
        have hz2 : intOf (leafN (mkL x 0 (kdsP pl_P0)) 223) = 5 := hz2
        rw [h0, h1, hz, hz2]
        rfl
      rw [e]
      exact EvP.ofH (H := noLT) (J := true) (HFun.none Try.prog _ 28) (litL_mk2 (litL_mk hz) hz2) (by rw [pl_x3_5]; exact pl_f28_3_5 x) (pl_c28_3_5 x ho h0 h1 hz hz2)
    · have e : plR0 (mkL x 0 (kdsP pl_P0)) = plZ3_6 (mkL x 0 (kdsP pl_P0)) := by
        unfold plR0
        have hz : intOf (leafN (mkL x 0 (kdsP pl_P0)) 222) = 3 := hz
        have hz2 : intOf (leafN (mkL x 0 (kdsP pl_P0)) 223) = 6 := hz2
        rw [h0, h1, hz, hz2]
        rfl
      rw [e]
      exact EvP.ofH (H := noLT) (J := true) (HFun.none Try.prog _ 28) (litL_mk2 (litL_mk hz) hz2) (by rw [pl_x3_6]; exact pl_f28_3_6 x) (pl_c28_3_6 x ho h0 h1 hz hz2)
    · have e : plR0 (mkL x 0 (kdsP pl_P0)) = plZ3_7 (mkL x 0 (kdsP pl_P0)) := by
        unfold plR0
        have hz : intOf (leafN (mkL x 0 (kdsP pl_P0)) 222) = 3 := hz
        have hz2 : intOf (leafN (mkL x 0 (kdsP pl_P0)) 223) = 7 := hz2
        rw [h0, h1, hz, hz2]
        rfl
      rw [e]
      exact EvP.ofH (H := noLT) (J := true) (HFun.none Try.prog _ 28) (litL_mk2 (litL_mk hz) hz2) (by rw [pl_x3_7]; exact pl_f28_3_7 x) (pl_c28_3_7 x ho h0 h1 hz hz2)
  · have c1 : x.i 223 = 0 ∨ x.i 223 = 1 ∨ x.i 223 = 2 ∨ x.i 223 = 3 ∨ x.i 223 = 4 ∨ x.i 223 = 5 ∨ x.i 223 = 6 ∨ x.i 223 = 7 := by omega
    rcases c1 with hz2 | hz2 | hz2 | hz2 | hz2 | hz2 | hz2 | hz2
    · have e : plR0 (mkL x 0 (kdsP pl_P0)) = plZ4_0 (mkL x 0 (kdsP pl_P0)) := by
        unfold plR0
        have hz : intOf (leafN (mkL x 0 (kdsP pl_P0)) 222) = 4 := hz
        have hz2 : intOf (leafN (mkL x 0 (kdsP pl_P0)) 223) = 0 := hz2
        rw [h0, h1, hz, hz2]
        rfl
      rw [e]
      exact EvP.ofH (H := noLT) (J := true) (HFun.none Try.prog _ 28) (litL_mk2 (litL_mk hz) hz2) (by rw [pl_x4_0]; exact pl_f28_4_0 x) (pl_c28_4_0 x ho h0 h1 hz hz2)
    · have e : plR0 (mkL x 0 (kdsP pl_P0)) = plZ4_1 (mkL x 0 (kdsP pl_P0)) := by
        unfold plR0
        have hz : intOf (leafN (mkL x 0 (kdsP pl_P0)) 222) = 4 := hz
        have hz2 : intOf (leafN (mkL x 0 (kdsP pl_P0)) 223) = 1 := hz2
        rw [h0, h1, hz, hz2]
        rfl
      rw [e]
      exact EvP.ofH (H := noLT) (J := true) (HFun.none Try.prog _ 28) (litL_mk2 (litL_mk hz) hz2) (by rw [pl_x4_1]; exact pl_f28_4_1 x) (pl_c28_4_1 x ho h0 h1 hz hz2)
    · have e : plR0 (mkL x 0 (kdsP pl_P0)) = plZ4_2 (mkL x 0 (kdsP pl_P0)) := by
        unfold plR0
        have hz : intOf (leafN (mkL x 0 (kdsP pl_P0)) 222) = 4 := hz
        have hz2 : intOf (leafN (mkL x 0 (kdsP pl_P0)) 223) = 2 := hz2
        rw [h0, h1, hz, hz2]
        rfl
      rw [e]
      exact EvP.ofH (H := noLT) (J := true) (HFun.none Try.prog _ 28) (litL_mk2 (litL_mk hz) hz2) (by rw [pl_x4_2]; exact pl_f28_4_2 x) (pl_c28_4_2 x ho h0 h1 hz hz2)
    · have e : plR0 (mkL x 0 (kdsP pl_P0)) = plZ4_3 (mkL x 0 (kdsP pl_P0)) := by
        unfold plR0
        have hz : intOf (leafN (mkL x 0 (kdsP pl_P0)) 222) = 4 := hz
        have hz2 : intOf (leafN (mkL x 0 (kdsP pl_P0)) 223) = 3 := hz2
        rw [h0, h1, hz, hz2]
        rfl
      rw [e]
      exact EvP.ofH (H := noLT) (J := true) (HFun.none Try.prog _ 28) (litL_mk2 (litL_mk hz) hz2) (by rw [pl_x4_3]; exact pl_f28_4_3 x) (pl_c28_4_3 x ho h0 h1 hz hz2)
    · have e : plR0 (mkL x 0 (kdsP pl_P0)) = plZ4_4 (mkL x 0 (kdsP pl_P0)) := by
        unfold plR0
        have hz : intOf (leafN (mkL x 0 (kdsP pl_P0)) 222) = 4 := hz
        have hz2 : intOf (leafN (mkL x 0 (kdsP pl_P0)) 223) = 4 := hz2
        rw [h0, h1, hz, hz2]
        rfl
      rw [e]
      exact EvP.ofH (H := noLT) (J := true) (HFun.none Try.prog _ 28) (litL_mk2 (litL_mk hz) hz2) (by rw [pl_x4_4]; exact pl_f28_4_4 x) (pl_c28_4_4 x ho h0 h1 hz hz2)
    · have e : plR0 (mkL x 0 (kdsP pl_P0)) = plZ4_5 (mkL x 0 (kdsP pl_P0)) := by
        unfold plR0
        have hz : intOf (leafN (mkL x 0 (kdsP pl_P0)) 222) = 4 := hz
        have hz2 : intOf (leafN (mkL x 0 (kdsP pl_P0)) 223) = 5 := hz2
        rw [h0, h1, hz, hz2]
        rfl
      rw [e]
      exact EvP.ofH (H := noLT) (J := true) (HFun.none Try.prog _ 28) (litL_mk2 (litL_mk hz) hz2) (by rw [pl_x4_5]; exact pl_f28_4_5 x) (pl_c28_4_5 x ho h0 h1 hz hz2)
    · have e : plR0 (mkL x 0 (kdsP pl_P0)) = plZ4_6 (mkL x 0 (kdsP pl_P0)) := by
        unfold plR0
        have hz : intOf (leafN (mkL x 0 (kdsP pl_P0)) 222) = 4 := hz
        have hz2 : intOf (leafN (mkL x 0 (kdsP pl_P0)) 223) = 6 := hz2
        rw [h0, h1, hz, hz2]
        rfl
      rw [e]
      exact EvP.ofH (H := noLT) (J := true) (HFun.none Try.prog _ 28) (litL_mk2 (litL_mk hz) hz2) (by rw [pl_x4_6]; exact pl_f28_4_6 x) (pl_c28_4_6 x ho h0 h1 hz hz2)
    · have e : plR0 (mkL x 0 (kdsP pl_P0)) = plZ4_7 (mkL x 0 (kdsP pl_P0)) := by
        unfold plR0
        have hz : intOf (leafN (mkL x 0 (kdsP pl_P0)) 222) = 4 := hz
        have hz2 : intOf (leafN (mkL x 0 (kdsP pl_P0)) 223) = 7 := hz2
        rw [h0, h1, hz, hz2]
        rfl
      rw [e]
      exact EvP.ofH (H := noLT) (J := true) (HFun.none Try.prog _ 28) (litL_mk2 (litL_mk hz) hz2) (by rw [pl_x4_7]; exact pl_f28_4_7 x) (pl_c28_4_7 x ho h0 h1 hz hz2)
  · have c1 : x.i 223 = 0 ∨ x.i 223 = 1 ∨ x.i 223 = 2 ∨ x.i 223 = 3 ∨ x.i 223 = 4 ∨ x.i 223 = 5 ∨ x.i 223 = 6 ∨ x.i 223 = 7 := by omega
    rcases c1 with hz2 | hz2 | hz2 | hz2 | hz2 | hz2 | hz2 | hz2
    · have e : plR0 (mkL x 0 (kdsP pl_P0)) = plZ5_0 (mkL x 0 (kdsP pl_P0)) := by
        unfold plR0
        have hz : intOf (leafN (mkL x 0 (kdsP pl_P0)) 222) = 5 := hz
        have hz2 : intOf (leafN (mkL x 0 (kdsP pl_P0)) 223) = 0 := hz2
        rw [h0, h1, hz, hz2]
        rfl
      rw [e]
      exact EvP.ofH (H := noLT) (J := true) (HFun.none Try.prog _ 28) (litL_mk2 (litL_mk hz) hz2) (by rw [pl_x5_0]; exact pl_f28_5_0 x) (pl_c28_5_0 x ho h0 h1 hz hz2)
    · have e : plR0 (mkL x 0 (kdsP pl_P0)) = plZ5_1 (mkL x 0 (kdsP pl_P0)) := by
        unfold plR0
        have hz : intOf (leafN (mkL x 0 (kdsP pl_P0)) 222) = 5 := hz
        have hz2 : intOf (leafN (mkL x 0 (kdsP pl_P0)) 223) = 1 := hz2
        rw [h0, h1, hz, hz2]
        rfl
      rw [e]
      exact EvP.ofH (H := noLT) (J := true) (HFun.none Try.prog _ 28) (litL_mk2 (litL_mk hz) hz2) (by rw [pl_x5_1]; exact pl_f28_5_1 x) (pl_c28_5_1 x ho h0 h1 hz hz2)
    · have e : plR0 (mkL x 0 (kdsP pl_P0)) = plZ5_2 (mkL x 0 (kdsP pl_P0)) := by
        unfold plR0
        have hz : intOf (leafN (mkL x 0 (kdsP pl_P0)) 222) = 5 := hz
        have hz2 : intOf (leafN (mkL x 0 (kdsP pl_P0)) 223) = 2 := hz2
        rw [h0, h1, hz, hz2]
        rfl
      rw [e]
      exact EvP.ofH (H := noLT) (J := true) (HFun.none Try.prog _ 28) (litL_mk2 (litL_mk hz) hz2) (by rw [pl_x5_2]; exact pl_f28_5_2 x) (pl_c28_5_2 x ho h0 h1 hz hz2)
    · have e : plR0 (mkL x 0 (kdsP pl_P0)) = plZ5_3 (mkL x 0 (kdsP pl_P0)) := by
        unfold plR0
        have hz : intOf (leafN (mkL x 0 (kdsP pl_P0)) 222) = 5 := hz
        have hz2 : intOf (leafN (mkL x 0 (kdsP pl_P0)) 223) = 3 := hz2
        rw [h0, h1, hz, hz2]
        rfl
      rw [e]
      exact EvP.ofH (H := noLT) (J := true) (HFun.none Try.prog _ 28) (litL_mk2 (litL_mk hz) hz2) (by rw [pl_x5_3]; exact pl_f28_5_3 x) (pl_c28_5_3 x ho h0 h1 hz hz2)
    · have e : plR0 (mkL x 0 (kdsP pl_P0)) = plZ5_4 (mkL x 0 (kdsP pl_P0)) := by
        unfold plR0
        have hz : intOf (leafN (mkL x 0 (kdsP pl_P0)) 222) = 5 := hz
        have hz2 : intOf (leafN (mkL x 0 (kdsP pl_P0)) 223) = 4 := hz2
        rw [h0, h1, hz, hz2]
        rfl
      rw [e]
      exact EvP.ofH (H := noLT) (J := true) (HFun.none Try.prog _ 28) (litL_mk2 (litL_mk hz) hz2) (by rw [pl_x5_4]; exact pl_f28_5_4 x) (pl_c28_5_4 x ho h0 h1 hz hz2)
    · have e : plR0 (mkL x 0 (kdsP pl_P0)) = plZ5_5 (mkL x 0 (kdsP pl_P0)) := by
        unfold plR0
        have hz : intOf (leafN (mkL x 0 (kdsP pl_P0)) 222) = 5 := hz
        have hz2 : intOf (leafN (mkL x 0 (kdsP pl_P0)) 223) = 5 := hz2
        rw [h0, h1, hz, hz2]
        rfl
      rw [e]
      exact EvP.ofH (H := noLT) (J := true) (HFun.none Try.prog _ 28) (litL_mk2 (litL_mk hz) hz2) (by rw [pl_x5_5]; exact pl_f28_5_5 x) (pl_c28_5_5 x ho h0 h1 hz hz2)
    · have e : plR0 (mkL x 0 (kdsP pl_P0)) = plZ5_6 (mkL x 0 (kdsP pl_P0)) := by
        unfold plR0
        have hz : intOf (leafN (mkL x 0 (kdsP pl_P0)) 222) = 5 := hz
        have hz2 : intOf (leafN (mkL x 0 (kdsP pl_P0)) 223) = 6 := hz2
        rw [h0, h1, hz, hz2]
        rfl
      rw [e]
      exact EvP.ofH (H := noLT) (J := true) (HFun.none Try.prog _ 28) (litL_mk2 (litL_mk hz) hz2) (by rw [pl_x5_6]; exact pl_f28_5_6 x) (pl_c28_5_6 x ho h0 h1 hz hz2)
    · have e : plR0 (mkL x 0 (kdsP pl_P0)) = plZ5_7 (mkL x 0 (kdsP pl_P0)) := by
        unfold plR0
        have hz : intOf (leafN (mkL x 0 (kdsP pl_P0)) 222) = 5 := hz
        have hz2 : intOf (leafN (mkL x 0 (kdsP pl_P0)) 223) = 7 := hz2
        rw [h0, h1, hz, hz2]
        rfl
      rw [e]
      exact EvP.ofH (H := noLT) (J := true) (HFun.none Try.prog _ 28) (litL_mk2 (litL_mk hz) hz2) (by rw [pl_x5_7]; exact pl_f28_5_7 x) (pl_c28_5_7 x ho h0 h1 hz hz2)
  · have c1 : x.i 223 = 0 ∨ x.i 223 = 1 ∨ x.i 223 = 2 ∨ x.i 223 = 3 ∨ x.i 223 = 4 ∨ x.i 223 = 5 ∨ x.i 223 = 6 ∨ x.i 223 = 7 := by omega
    rcases c1 with hz2 | hz2 | hz2 | hz2 | hz2 | hz2 | hz2 | hz2
    · have e : plR0 (mkL x 0 (kdsP pl_P0)) = plZ6_0 (mkL x 0 (kdsP pl_P0)) := by
        unfold plR0
        have hz : intOf (leafN (mkL x 0 (kdsP pl_P0)) 222) = 6 := hz
        have hz2 : intOf (leafN (mkL x 0 (kdsP pl_P0)) 223) = 0 := hz2
        rw [h0, h1, hz, hz2]
        rfl
      rw [e]
      exact EvP.ofH (H := noLT) (J := true) (HFun.none Try.prog _ 28) (litL_mk2 (litL_mk hz) hz2) (by rw [pl_x6_0]; exact pl_f28_6_0 x) (pl_c28_6_0 x ho h0 h1 hz hz2)
    · have e : plR0 (mkL x 0 (kdsP pl_P0)) = plZ6_1 (mkL x 0 (kdsP pl_P0)) := by
        unfold plR0
        have hz : intOf (leafN (mkL x 0 (kdsP pl_P0)) 222) = 6 := hz
        have hz2 : intOf (leafN (mkL x 0 (kdsP pl_P0)) 223) = 1 := hz2
        rw [h0, h1, hz, hz2]
        rfl
      rw [e]
      exact EvP.ofH (H := noLT) (J := true) (HFun.none Try.prog _ 28) (litL_mk2 (litL_mk hz) hz2) (by rw [pl_x6_1]; exact pl_f28_6_1 x) (pl_c28_6_1 x ho h0 h1 hz hz2)
    · have e : plR0 (mkL x 0 (kdsP pl_P0)) = plZ6_2 (mkL x 0 (kdsP pl_P0)) := by
        unfold plR0
        have hz : intOf (leafN (mkL x 0 (kdsP pl_P0)) 222) = 6 := hz
        have hz2 : intOf (leafN (mkL x 0 (kdsP pl_P0)) 223) = 2 := hz2
        rw [h0, h1, hz, hz2]
        rfl
      rw [e]
      exact EvP.ofH (H := noLT) (J := true) (HFun.none Try.prog _ 28) (litL_mk2 (litL_mk hz) hz2) (by rw [pl_x6_2]; exact pl_f28_6_2 x) (pl_c28_6_2 x ho h0 h1 hz hz2)
    · have e : plR0 (mkL x 0 (kdsP pl_P0)) = plZ6_3 (mkL x 0 (kdsP pl_P0)) := by
        unfold plR0
        have hz : intOf (leafN (mkL x 0 (kdsP pl_P0)) 222) = 6 := hz
        have hz2 : intOf (leafN (mkL x 0 (kdsP pl_P0)) 223) = 3 := hz2
        rw [h0, h1, hz, hz2]
        rfl
      rw [e]
      exact EvP.ofH (H := noLT) (J := true) (HFun.none Try.prog _ 28) (litL_mk2 (litL_mk hz) hz2) (by rw [pl_x6_3]; exact pl_f28_6_3 x) (pl_c28_6_3 x ho h0 h1 hz hz2)
    · have e : plR0 (mkL x 0 (kdsP pl_P0)) = plZ6_4 (mkL x 0 (kdsP pl_P0)) := by
        unfold plR0
        have hz : intOf (leafN (mkL x 0 (kdsP pl_P0)) 222) = 6 := hz
        have hz2 : intOf (leafN (mkL x 0 (kdsP pl_P0)) 223) = 4 := hz2
        rw [h0, h1, hz, hz2]
        rfl
      rw [e]
      exact EvP.ofH (H := noLT) (J := true) (HFun.none Try.prog _ 28) (litL_mk2 (litL_mk hz) hz2) (by rw [pl_x6_4]; exact pl_f28_6_4 x) (pl_c28_6_4 x ho h0 h1 hz hz2)
    · have e : plR0 (mkL x 0 (kdsP pl_P0)) = plZ6_5 (mkL x 0 (kdsP pl_P0)) := by
        unfold plR0
        have hz : intOf (leafN (mkL x 0 (kdsP pl_P0)) 222) = 6 := hz
        have hz2 : intOf (leafN (mkL x 0 (kdsP pl_P0)) 223) = 5 := hz2
        rw [h0, h1, hz, hz2]
        rfl
      rw [e]
      exact EvP.ofH (H := noLT) (J := true) (HFun.none Try.prog _ 28) (litL_mk2 (litL_mk hz) hz2) (by rw [pl_x6_5]; exact pl_f28_6_5 x) (pl_c28_6_5 x ho h0 h1 hz hz2)
    · have e : plR0 (mkL x 0 (kdsP pl_P0)) = plZ6_6 (mkL x 0 (kdsP pl_P0)) := by
        unfold plR0
        have hz : intOf (leafN (mkL x 0 (kdsP pl_P0)) 222) = 6 := hz
        have hz2 : intOf (leafN (mkL x 0 (kdsP pl_P0)) 223) = 6 := hz2
        rw [h0, h1, hz, hz2]
        rfl
      rw [e]
      exact EvP.ofH (H := noLT) (J := true) (HFun.none Try.prog _ 28) (litL_mk2 (litL_mk hz) hz2) (by rw [pl_x6_6]; exact pl_f28_6_6 x) (pl_c28_6_6 x ho h0 h1 hz hz2)
    · have e : plR0 (mkL x 0 (kdsP pl_P0)) = plZ6_7 (mkL x 0 (kdsP pl_P0)) := by
        unfold plR0
        have hz : intOf (leafN (mkL x 0 (kdsP pl_P0)) 222) = 6 := hz
        have hz2 : intOf (leafN (mkL x 0 (kdsP pl_P0)) 223) = 7 := hz2
        rw [h0, h1, hz, hz2]
        rfl
      rw [e]
      exact EvP.ofH (H := noLT) (J := true) (HFun.none Try.prog _ 28) (litL_mk2 (litL_mk hz) hz2) (by rw [pl_x6_7]; exact pl_f28_6_7 x) (pl_c28_6_7 x ho h0 h1 hz hz2)
  · have c1 : x.i 223 = 0 ∨ x.i 223 = 1 ∨ x.i 223 = 2 ∨ x.i 223 = 3 ∨ x.i 223 = 4 ∨ x.i 223 = 5 ∨ x.i 223 = 6 ∨ x.i 223 = 7 := by omega
    rcases c1 with hz2 | hz2 | hz2 | hz2 | hz2 | hz2 | hz2 | hz2
    · have e : plR0 (mkL x 0 (kdsP pl_P0)) = plZ7_0 (mkL x 0 (kdsP pl_P0)) := by
        unfold plR0
        have hz : intOf (leafN (mkL x 0 (kdsP pl_P0)) 222) = 7 := hz
        have hz2 : intOf (leafN (mkL x 0 (kdsP pl_P0)) 223) = 0 := hz2
        rw [h0, h1, hz, hz2]
        rfl
      rw [e]
      exact EvP.ofH (H := noLT) (J := true) (HFun.none Try.prog _ 28) (litL_mk2 (litL_mk hz) hz2) (by rw [pl_x7_0]; exact pl_f28_7_0 x) (pl_c28_7_0 x ho h0 h1 hz hz2)
    · have e : plR0 (mkL x 0 (kdsP pl_P0)) = plZ7_1 (mkL x 0 (kdsP pl_P0)) := by
        unfold plR0
        have hz : intOf (leafN (mkL x 0 (kdsP pl_P0)) 222) = 7 := hz
        have hz2 : intOf (leafN (mkL x 0 (kdsP pl_P0)) 223) = 1 := hz2
        rw [h0, h1, hz, hz2]
        rfl
      rw [e]
      exact EvP.ofH (H := noLT) (J := true) (HFun.none Try.prog _ 28) (litL_mk2 (litL_mk hz) hz2) (by rw [pl_x7_1]; exact pl_f28_7_1 x) (pl_c28_7_1 x ho h0 h1 hz hz2)
    · have e : plR0 (mkL x 0 (kdsP pl_P0)) = plZ7_2 (mkL x 0 (kdsP pl_P0)) := by
        unfold plR0
        have hz : intOf (leafN (mkL x 0 (kdsP pl_P0)) 222) = 7 := hz
        have hz2 : intOf (leafN (mkL x 0 (kdsP pl_P0)) 223) = 2 := hz2
        rw [h0, h1, hz, hz2]
        rfl
      rw [e]
      exact EvP.ofH (H := noLT) (J := true) (HFun.none Try.prog _ 28) (litL_mk2 (litL_mk hz) hz2) (by rw [pl_x7_2]; exact pl_f28_7_2 x) (pl_c28_7_2 x ho h0 h1 hz hz2)
    · have e : plR0 (mkL x 0 (kdsP pl_P0)) = plZ7_3 (mkL x 0 (kdsP pl_P0)) := by
        unfold plR0
        have hz : intOf (leafN (mkL x 0 (kdsP pl_P0)) 222) = 7 := hz
        have hz2 : intOf (leafN (mkL x 0 (kdsP pl_P0)) 223) = 3 := hz2
        rw [h0, h1, hz, hz2]
        rfl
      rw [e]
      exact EvP.ofH (H := noLT) (J := true) (HFun.none Try.prog _ 28) (litL_mk2 (litL_mk hz) hz2) (by rw [pl_x7_3]; exact pl_f28_7_3 x) (pl_c28_7_3 x ho h0 h1 hz hz2)
    · have e : plR0 (mkL x 0 (kdsP pl_P0)) = plZ7_4 (mkL x 0 (kdsP pl_P0)) := by
        unfold plR0
        have hz : intOf (leafN (mkL x 0 (kdsP pl_P0)) 222) = 7 := hz
        have hz2 : intOf (leafN (mkL x 0 (kdsP pl_P0)) 223) = 4 := hz2
        rw [h0, h1, hz, hz2]
        rfl
      rw [e]
      exact EvP.ofH (H := noLT) (J := true) (HFun.none Try.prog _ 28) (litL_mk2 (litL_mk hz) hz2) (by rw [pl_x7_4]; exact pl_f28_7_4 x) (pl_c28_7_4 x ho h0 h1 hz hz2)
    · have e : plR0 (mkL x 0 (kdsP pl_P0)) = plZ7_5 (mkL x 0 (kdsP pl_P0)) := by
        unfold plR0
        have hz : intOf (leafN (mkL x 0 (kdsP pl_P0)) 222) = 7 := hz
        have hz2 : intOf (leafN (mkL x 0 (kdsP pl_P0)) 223) = 5 := hz2
        rw [h0, h1, hz, hz2]
        rfl
      rw [e]
      exact EvP.ofH (H := noLT) (J := true) (HFun.none Try.prog _ 28) (litL_mk2 (litL_mk hz) hz2) (by rw [pl_x7_5]; exact pl_f28_7_5 x) (pl_c28_7_5 x ho h0 h1 hz hz2)
    · have e : plR0 (mkL x 0 (kdsP pl_P0)) = plZ7_6 (mkL x 0 (kdsP pl_P0)) := by
        unfold plR0
        have hz : intOf (leafN (mkL x 0 (kdsP pl_P0)) 222) = 7 := hz
        have hz2 : intOf (leafN (mkL x 0 (kdsP pl_P0)) 223) = 6 := hz2
        rw [h0, h1, hz, hz2]
        rfl
      rw [e]
      exact EvP.ofH (H := noLT) (J := true) (HFun.none Try.prog _ 28) (litL_mk2 (litL_mk hz) hz2) (by rw [pl_x7_6]; exact pl_f28_7_6 x) (pl_c28_7_6 x ho h0 h1 hz hz2)
    · have e : plR0 (mkL x 0 (kdsP pl_P0)) = plZ7_7 (mkL x 0 (kdsP pl_P0)) := by
        unfold plR0
        have hz : intOf (leafN (mkL x 0 (kdsP pl_P0)) 222) = 7 := hz
        have hz2 : intOf (leafN (mkL x 0 (kdsP pl_P0)) 223) = 7 := hz2
        rw [h0, h1, hz, hz2]
        rfl
      rw [e]
      exact EvP.ofH (H := noLT) (J := true) (HFun.none Try.prog _ 28) (litL_mk2 (litL_mk hz) hz2) (by rw [pl_x7_7]; exact pl_f28_7_7 x) (pl_c28_7_7 x ho h0 h1 hz hz2)


noncomputable def pl_cs30_E0 (x : Vars) : List Bool := [(!(decide (((pl_E0_a0 x).i 0) = 0)))]

set_option maxRecDepth 100000 in
theorem pl_c30_E0 (x : Vars) (ho : OkV (kdsP pl_P0) x) (h0 : plB0 (mkL x 0 (kdsP pl_P0)) = true) : ∀ b ∈ pl_cs30_E0 x, b = true := by
  have w24 := Bool.and_eq_true_iff.1 (ho 24 _ rfl)
  have w25 := Bool.and_eq_true_iff.1 (ho 25 _ rfl)
  have w1 : (-128 : Int) ≤ x.i 24 := of_decide_eq_true w24.1
  have w2 : x.i 24 ≤ 127 := of_decide_eq_true w24.2
  have w3 : (-128 : Int) ≤ x.i 25 := of_decide_eq_true w25.1
  have w4 : x.i 25 ≤ 127 := of_decide_eq_true w25.2
  unfold pl_cs30_E0
  exact (allC (notT (notBT ((show (_ : Bool) = plB0 (mkL x 0 (kdsP pl_P0)) from by kernel_rfl).trans h0))) allN)

theorem pl_f30_E0 (x : Vars) : (funH Try.prog G26 noLT true 1000 30 (argsP pl_P0 0 (mkL x 0 (kdsP pl_P0))) (memP pl_P0 (mkL x 0 (kdsP pl_P0))) [true]).map (fun r => (normR r.1, untupR r.1 && r.1.flat, r.2)) = some (pl_vE0 x, true, pl_cs30_E0 x) := by kernel_rfl


noncomputable def pl_cs30_E1 (x : Vars) : List Bool := [(!((((decide (0 ≤ (x.i 222))) && (decide ((x.i 222) < (x.i 24)))) && (decide (0 ≤ (x.i 223)))) && (decide ((x.i 223) < (x.i 25))))), (!(!(decide (((pl_E0_a0 x).i 0) = 0))))]

set_option maxRecDepth 100000 in
theorem pl_c30_E1 (x : Vars) (ho : OkV (kdsP pl_P0) x) (h0 : plB0 (mkL x 0 (kdsP pl_P0)) = false) (h1 : plB1 (mkL x 0 (kdsP pl_P0)) = true) : ∀ b ∈ pl_cs30_E1 x, b = true := by
  have w24 := Bool.and_eq_true_iff.1 (ho 24 _ rfl)
  have w25 := Bool.and_eq_true_iff.1 (ho 25 _ rfl)
  have w1 : (-128 : Int) ≤ x.i 24 := of_decide_eq_true w24.1
  have w2 : x.i 24 ≤ 127 := of_decide_eq_true w24.2
  have w3 : (-128 : Int) ≤ x.i 25 := of_decide_eq_true w25.1
  have w4 : x.i 25 ≤ 127 := of_decide_eq_true w25.2
  unfold pl_cs30_E1
  exact (allC (plOut' x h1) (allC (notT (notF (notBF ((show (_ : Bool) = plB0 (mkL x 0 (kdsP pl_P0)) from by kernel_rfl).trans h0)))) allN))

theorem pl_f30_E1 (x : Vars) : (funH Try.prog G26 noLT true 1000 30 (argsP pl_P0 0 (mkL x 0 (kdsP pl_P0))) (memP pl_P0 (mkL x 0 (kdsP pl_P0))) [false, true]).map (fun r => (normR r.1, untupR r.1 && r.1.flat, r.2)) = some (pl_vE1 x, true, pl_cs30_E1 x) := by kernel_rfl


noncomputable def pl_cs30_0_0 (x : Vars) : List Bool := [(!(!((bif (decide (0 < (x.i 24))) then true else false) && (decide (0 < (x.i 25)))))), (!(!(decide (((pl_E0_a0 x).i 0) = 0))))]

set_option maxRecDepth 100000 in
theorem pl_c30_0_0 (x : Vars) (ho : OkV (kdsP pl_P0) x) (h0 : plB0 (mkL x 0 (kdsP pl_P0)) = false) (h1 : plB1 (mkL x 0 (kdsP pl_P0)) = false) (hz : x.i 222 = 0) (hz2 : x.i 223 = 0) : ∀ b ∈ pl_cs30_0_0 x, b = true := by
  have w24 := Bool.and_eq_true_iff.1 (ho 24 _ rfl)
  have w25 := Bool.and_eq_true_iff.1 (ho 25 _ rfl)
  have w1 : (-128 : Int) ≤ x.i 24 := of_decide_eq_true w24.1
  have w2 : x.i 24 ≤ 127 := of_decide_eq_true w24.2
  have w3 : (-128 : Int) ≤ x.i 25 := of_decide_eq_true w25.1
  have w4 : x.i 25 ≤ 127 := of_decide_eq_true w25.2
  have b := plIn x h1
  unfold pl_cs30_0_0
  exact (allC (notT (notF (andT (condT (decide_eq_true (by first | omega | (unfold isub; omega))) rfl) (decide_eq_true (by first | omega | (unfold isub; omega)))))) (allC (notT (notF (notBF ((show (_ : Bool) = plB0 (normL (litL (litL (mkL x 0 (kdsP pl_P0)) 222 0) 223 0)) from by kernel_rfl).trans ((congrArg plB0 (litL_mk2 (litL_mk hz) hz2)).trans h0))))) allN))

theorem pl_f30_0_0 (x : Vars) : (funH Try.prog G26 noLT true 1000 30 (argsP pl_P0 0 (litL (litL (mkL x 0 (kdsP pl_P0)) 222 0) 223 0)) (memP pl_P0 (litL (litL (mkL x 0 (kdsP pl_P0)) 222 0) 223 0)) [false, false]).map (fun r => (normR r.1, untupR r.1 && r.1.flat, r.2)) = some (pl_v0_0 x, true, pl_cs30_0_0 x) := by kernel_rfl


noncomputable def pl_cs30_0_1 (x : Vars) : List Bool := [(!(!((bif (decide (0 < (x.i 24))) then true else false) && (decide (1 < (x.i 25)))))), (!(!(decide (((pl_E0_a0 x).i 0) = 0))))]

set_option maxRecDepth 100000 in
theorem pl_c30_0_1 (x : Vars) (ho : OkV (kdsP pl_P0) x) (h0 : plB0 (mkL x 0 (kdsP pl_P0)) = false) (h1 : plB1 (mkL x 0 (kdsP pl_P0)) = false) (hz : x.i 222 = 0) (hz2 : x.i 223 = 1) : ∀ b ∈ pl_cs30_0_1 x, b = true := by
  have w24 := Bool.and_eq_true_iff.1 (ho 24 _ rfl)
  have w25 := Bool.and_eq_true_iff.1 (ho 25 _ rfl)
  have w1 : (-128 : Int) ≤ x.i 24 := of_decide_eq_true w24.1
  have w2 : x.i 24 ≤ 127 := of_decide_eq_true w24.2
  have w3 : (-128 : Int) ≤ x.i 25 := of_decide_eq_true w25.1
  have w4 : x.i 25 ≤ 127 := of_decide_eq_true w25.2
  have b := plIn x h1
  unfold pl_cs30_0_1
  exact (allC (notT (notF (andT (condT (decide_eq_true (by first | omega | (unfold isub; omega))) rfl) (decide_eq_true (by first | omega | (unfold isub; omega)))))) (allC (notT (notF (notBF ((show (_ : Bool) = plB0 (normL (litL (litL (mkL x 0 (kdsP pl_P0)) 222 0) 223 1)) from by kernel_rfl).trans ((congrArg plB0 (litL_mk2 (litL_mk hz) hz2)).trans h0))))) allN))

theorem pl_f30_0_1 (x : Vars) : (funH Try.prog G26 noLT true 1000 30 (argsP pl_P0 0 (litL (litL (mkL x 0 (kdsP pl_P0)) 222 0) 223 1)) (memP pl_P0 (litL (litL (mkL x 0 (kdsP pl_P0)) 222 0) 223 1)) [false, false]).map (fun r => (normR r.1, untupR r.1 && r.1.flat, r.2)) = some (pl_v0_1 x, true, pl_cs30_0_1 x) := by kernel_rfl


noncomputable def pl_cs30_0_2 (x : Vars) : List Bool := [(!(!((bif (decide (0 < (x.i 24))) then true else false) && (decide (2 < (x.i 25)))))), (!(!(decide (((pl_E0_a0 x).i 0) = 0))))]

set_option maxRecDepth 100000 in
theorem pl_c30_0_2 (x : Vars) (ho : OkV (kdsP pl_P0) x) (h0 : plB0 (mkL x 0 (kdsP pl_P0)) = false) (h1 : plB1 (mkL x 0 (kdsP pl_P0)) = false) (hz : x.i 222 = 0) (hz2 : x.i 223 = 2) : ∀ b ∈ pl_cs30_0_2 x, b = true := by
  have w24 := Bool.and_eq_true_iff.1 (ho 24 _ rfl)
  have w25 := Bool.and_eq_true_iff.1 (ho 25 _ rfl)
  have w1 : (-128 : Int) ≤ x.i 24 := of_decide_eq_true w24.1
  have w2 : x.i 24 ≤ 127 := of_decide_eq_true w24.2
  have w3 : (-128 : Int) ≤ x.i 25 := of_decide_eq_true w25.1
  have w4 : x.i 25 ≤ 127 := of_decide_eq_true w25.2
  have b := plIn x h1
  unfold pl_cs30_0_2
  exact (allC (notT (notF (andT (condT (decide_eq_true (by first | omega | (unfold isub; omega))) rfl) (decide_eq_true (by first | omega | (unfold isub; omega)))))) (allC (notT (notF (notBF ((show (_ : Bool) = plB0 (normL (litL (litL (mkL x 0 (kdsP pl_P0)) 222 0) 223 2)) from by kernel_rfl).trans ((congrArg plB0 (litL_mk2 (litL_mk hz) hz2)).trans h0))))) allN))

theorem pl_f30_0_2 (x : Vars) : (funH Try.prog G26 noLT true 1000 30 (argsP pl_P0 0 (litL (litL (mkL x 0 (kdsP pl_P0)) 222 0) 223 2)) (memP pl_P0 (litL (litL (mkL x 0 (kdsP pl_P0)) 222 0) 223 2)) [false, false]).map (fun r => (normR r.1, untupR r.1 && r.1.flat, r.2)) = some (pl_v0_2 x, true, pl_cs30_0_2 x) := by kernel_rfl


noncomputable def pl_cs30_0_3 (x : Vars) : List Bool := [(!(!((bif (decide (0 < (x.i 24))) then true else false) && (decide (3 < (x.i 25)))))), (!(!(decide (((pl_E0_a0 x).i 0) = 0))))]

end Go.Proofs.Ytigcbcaknhhgmaa

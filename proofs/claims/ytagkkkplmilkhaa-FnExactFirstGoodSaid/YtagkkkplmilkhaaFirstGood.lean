/-
  The law FnExactFirstGood returns true whatever the input, and its arguments read as they did; no conditions.
-/
import Derived.Test.YtagkkkplmilkhaaFTz
namespace Go.Proofs.Ytagkkkplmilkhaa
open Go.Sim Go.ChangeShapes Go.WideShapes Go.ChangeAt Go.RowKit

noncomputable def G33 : Summ := inlGs Try.prog 1000 [8, 55, 141, 113, 56, 10, 11] GQ

theorem G33_ok : SoundG Try.prog G33 := by
  refine SoundG.inls mixed GQ_ok fun f hf => ?_
  simp only [List.mem_cons, List.not_mem_nil, or_false] at hf
  rcases hf with rfl | rfl | rfl | rfl | rfl | rfl | rfl
  · exact Try.call8
  · exact Try.call55
  · exact Try.call141
  · exact Try.call113
  · exact Try.call56
  · exact Try.call10
  · exact Try.call11

noncomputable def G34 : Summ := inlWs Try.prog 1000 [12] GQ

theorem G34_ok : SoundG Try.prog G34 := by
  refine SoundG.inlWs mixed GQ_ok fun f hf => ?_
  simp only [List.mem_cons, List.not_mem_nil, or_false] at hf
  subst hf
  exact Try.call12

noncomputable def G35 : Summ := inlGs Try.prog 1000 [14] G34

theorem G35_ok : SoundG Try.prog G35 := by
  refine SoundG.inls mixed G34_ok fun f hf => ?_
  simp only [List.mem_cons, List.not_mem_nil, or_false] at hf
  subst hf
  exact Try.call14

noncomputable def G36 : Summ := inlGs Try.prog 1000 [8, 55, 141, 113, 56, 10, 11] G35

theorem G36_ok : SoundG Try.prog G36 := by
  refine SoundG.inls mixed G35_ok fun f hf => ?_
  simp only [List.mem_cons, List.not_mem_nil, or_false] at hf
  rcases hf with rfl | rfl | rfl | rfl | rfl | rfl | rfl
  · exact Try.call8
  · exact Try.call55
  · exact Try.call141
  · exact Try.call113
  · exact Try.call56
  · exact Try.call10
  · exact Try.call11

theorem eqSR1 (s : SV) : (eqSR s).b 0 = true := by rw [eqSR_eq]; rfl

noncomputable def tzA (len : Nat) (y : Vars) : SV := mkSV [] [len] [8 * len] [y]

theorem tzA_P {len : Nat} (y : Vars) (h : len ≤ 1048576) : tzQP (tzA len y) := ⟨h, rfl⟩

theorem left_lo {len : Nat} (h : len ≤ 1048576) : (decide (((bif (decide ((isub 1048576 (ofN len)) < 0)) then (-(0 + 1)) else (isub 1048576 (ofN len))) : Int) < 0)) = false := by
  have e : decide ((isub 1048576 (ofN len)) < 0) = false := decide_eq_false (by unfold isub ofN; omega)
  rw [e]
  exact decide_eq_false (show ¬ (isub 1048576 (ofN len)) < 0 by unfold isub ofN; omega)

theorem left_hi {len : Nat} (h : ¬ len ≤ 1048576) : (decide (((bif (decide ((isub 1048576 (ofN len)) < 0)) then (-(0 + 1)) else (isub 1048576 (ofN len))) : Int) < 0)) = true := by
  have e : decide ((isub 1048576 (ofN len)) < 0) = true := decide_eq_true (by unfold isub ofN; omega)
  rw [e]
  rfl

noncomputable def lT_cs (x : Vars) (len : Nat) (y : Vars) : List Bool := [(decide (((bif (decide ((isub 1048576 (ofN len)) < 0)) then (-(0 + 1)) else (isub 1048576 (ofN len))) : Int) < 0)), ((decide ((-(9223372036854775807 + 1)) ≤ (isub 1048576 (ofN len)))) && (decide ((isub 1048576 (ofN len)) ≤ 9223372036854775807))), ((decide ((-(9223372036854775807 + 1)) ≤ (ofN len))) && (decide ((ofN len) ≤ 9223372036854775807)))]

theorem lT_eval (x : Vars) (len : Nat) (y : Vars) : funH Try.prog G33 noLT true 1000 4 (mkAs x 0 [.ag kd2, .ag kd4] ++ .sslc 0 0 len 8 :: mkAs x (shSizes [.ag kd2, .ag kd4]) []) [some (.sym (8 * len) (.flt .f32) y false)] [true] = some (.bool true, lT_cs x len y) := by kernel_rfl

theorem lT_csok (x : Vars) (len : Nat) (y : Vars) (hl : len ≤ maxLen) (h : ¬ len ≤ 1048576) : ∀ b ∈ lT_cs x len y, b = true := by
  unfold lT_cs
  exact (allC (left_hi h) (allC (andT (decide_eq_true (by (try unfold isub); (try unfold ofN); (try unfold maxLen at hl); omega)) (decide_eq_true (by (try unfold isub); (try unfold ofN); (try unfold maxLen at hl); omega))) (allC (andT (decide_eq_true (by (try unfold isub); (try unfold ofN); (try unfold maxLen at hl); omega)) (decide_eq_true (by (try unfold isub); (try unfold ofN); (try unfold maxLen at hl); omega))) allN)))

noncomputable def lF_v_0 (x : Vars) (len : Nat) (y : Vars) : Vars := (eqSR (mkSV [] [((tzR (tzA len y)).len 0), ((tzR (tzA len y)).len 0)] [((tzR (tzA len y)).n 1), ((tzR (tzA len y)).n 1)] [((tzR (tzA len y)).y 1), ((tzR (tzA len y)).y 1)]))

noncomputable def lF_v_1 (x : Vars) (len : Nat) (y : Vars) : Vars := (fgR (mkSV (apl [(.sint .i8 (x.i 0))] (apl (fl x 1 8) (apl [(.sint .i8 (x.i 9))] (apl (fl x 10 14) (apl [(.sint .i8 (x.i 24))] (apl (fl x 25 14) (apl [(.sint .i8 (x.i 39))] (apl (fl x 40 14) (apl [(.sint .i8 (x.i 54))] (apl (fl x 55 14) (apl [(.sint .i8 (x.i 69))] (apl (fl x 70 14) (apl [(.sint .i8 (x.i 84))] (apl (fl x 85 14) (apl [(.sint .i8 (x.i 99))] (apl (fl x 100 14) (apl [(.sint .i8 (x.i 114))] (apl (fl x 115 32) ([(.sint .i16 (x.i 147))]))))))))))))))))))) [((tzR (tzA len y)).len 0)] [((tzR (tzA len y)).n 1)] [((tzR (tzA len y)).y 1)]))

noncomputable def lF_cs (x : Vars) (len : Nat) (y : Vars) : List Bool := [(((!(decide (((lF_v_1 x len y).i 0) = ((lF_v_1 x len y).i 0)))) || (!(decide (((lF_v_1 x len y).i 1) = ((lF_v_1 x len y).i 1))))) || (eqSB (mkSV [] [((tzR (tzA len y)).len 0), ((tzR (tzA len y)).len 0)] [((tzR (tzA len y)).n 1), ((tzR (tzA len y)).n 1)] [((tzR (tzA len y)).y 1), ((tzR (tzA len y)).y 1)]))), (((!(decide (((lF_v_1 x len y).i 0) = ((lF_v_1 x len y).i 0)))) || (!(decide (((lF_v_1 x len y).i 1) = ((lF_v_1 x len y).i 1))))) || (tzQB (tzA len y))), (asIQB (mkSV (apl [(.sint .i8 (x.i 0))] (apl (fl x 1 8) (apl [(.sint .i8 (x.i 9))] (apl (fl x 10 14) (apl [(.sint .i8 (x.i 24))] (apl (fl x 25 14) (apl [(.sint .i8 (x.i 39))] (apl (fl x 40 14) (apl [(.sint .i8 (x.i 54))] (apl (fl x 55 14) (apl [(.sint .i8 (x.i 69))] (apl (fl x 70 14) (apl [(.sint .i8 (x.i 84))] (apl (fl x 85 14) (apl [(.sint .i8 (x.i 99))] (apl (fl x 100 14) (apl [(.sint .i8 (x.i 114))] (apl (fl x 115 32) ([(.sint .i16 (x.i 147))]))))))))))))))))))) [((tzR (tzA len y)).len 0)] [((tzR (tzA len y)).n 1)] [((tzR (tzA len y)).y 1)])), (tzQB (tzA len y)), (asIQB (mkSV (apl [(.sint .i8 (x.i 0))] (apl (fl x 1 8) (apl [(.sint .i8 (x.i 9))] (apl (fl x 10 14) (apl [(.sint .i8 (x.i 24))] (apl (fl x 25 14) (apl [(.sint .i8 (x.i 39))] (apl (fl x 40 14) (apl [(.sint .i8 (x.i 54))] (apl (fl x 55 14) (apl [(.sint .i8 (x.i 69))] (apl (fl x 70 14) (apl [(.sint .i8 (x.i 84))] (apl (fl x 85 14) (apl [(.sint .i8 (x.i 99))] (apl (fl x 100 14) (apl [(.sint .i8 (x.i 114))] (apl (fl x 115 32) ([(.sint .i16 (x.i 147))]))))))))))))))))))) [((tzR (tzA len y)).len 0)] [((tzR (tzA len y)).n 1)] [((tzR (tzA len y)).y 1)])), (tzQB (tzA len y)), (!(decide (((bif (decide ((isub 1048576 (ofN len)) < 0)) then (-(0 + 1)) else (isub 1048576 (ofN len))) : Int) < 0))), ((decide ((-(9223372036854775807 + 1)) ≤ (isub 1048576 (ofN len)))) && (decide ((isub 1048576 (ofN len)) ≤ 9223372036854775807))), ((decide ((-(9223372036854775807 + 1)) ≤ (ofN len))) && (decide ((ofN len) ≤ 9223372036854775807)))]

noncomputable def lF_T (x : Vars) (len : Nat) (y : Vars) : Bool := (bif ((!(decide (((lF_v_1 x len y).i 0) = ((lF_v_1 x len y).i 0)))) || (!(decide (((lF_v_1 x len y).i 1) = ((lF_v_1 x len y).i 1))))) then false else (!(!((lF_v_0 x len y).b 0))))

theorem lF_eval (x : Vars) (len : Nat) (y : Vars) : funH Try.prog G33 noLT true 1000 4 (mkAs x 0 [.ag kd2, .ag kd4] ++ .sslc 0 0 len 8 :: mkAs x (shSizes [.ag kd2, .ag kd4]) []) [some (.sym (8 * len) (.flt .f32) y false)] [false] = some (.sbool (lF_T x len y), lF_cs x len y) := by kernel_rfl

theorem lF_true (x : Vars) (len : Nat) (y : Vars) : lF_T x len y = true := by
  unfold lF_T
  exact (condF (orF (notF (decide_eq_true rfl)) (notF (decide_eq_true rfl))) (notT (notF (eqSR1 _))))

theorem lF_csok (x : Vars) (len : Nat) (y : Vars) (hl : len ≤ maxLen) (h : len ≤ 1048576) : ∀ b ∈ lF_cs x len y, b = true := by
  have hz := tzA_P y h
  obtain ⟨f1, f2⟩ := tzR_f _ hz
  have f1 : (tzR (tzA len y)).len 0 = len := f1
  have f2 : (tzR (tzA len y)).n 1 = 8 * len := f2
  unfold lF_cs
  exact (allC (orTr (eqSB_to ⟨rfl, rfl, (show (tzR (tzA len y)).len 0 ≤ 1048576 by omega), (show (tzR (tzA len y)).n 1 = 8 * (tzR (tzA len y)).len 0 by omega), (show (tzR (tzA len y)).n 1 = 8 * (tzR (tzA len y)).len 0 by omega)⟩)) (allC (orTr (tzQB_to hz)) (allC (asIQB_to ⟨(show (tzR (tzA len y)).len 0 ≤ 1048576 by omega), (show (tzR (tzA len y)).n 1 = 8 * (tzR (tzA len y)).len 0 by omega)⟩) (allC (tzQB_to hz) (allC (asIQB_to ⟨(show (tzR (tzA len y)).len 0 ≤ 1048576 by omega), (show (tzR (tzA len y)).n 1 = 8 * (tzR (tzA len y)).len 0 by omega)⟩) (allC (tzQB_to hz) (allC (notT (left_lo h)) (allC (andT (decide_eq_true (by (try unfold isub); (try unfold ofN); (try unfold maxLen at hl); omega)) (decide_eq_true (by (try unfold isub); (try unfold ofN); (try unfold maxLen at hl); omega))) (allC (andT (decide_eq_true (by (try unfold isub); (try unfold ofN); (try unfold maxLen at hl); omega)) (decide_eq_true (by (try unfold isub); (try unfold ofN); (try unfold maxLen at hl); omega))) allN)))))))))

noncomputable def l0_v_0 (x : Vars) : Vars := (fgR (mkSV (apl [(.sint .i8 (x.i 0))] (apl (fl x 1 8) (apl [(.sint .i8 (x.i 9))] (apl (fl x 10 14) (apl [(.sint .i8 (x.i 24))] (apl (fl x 25 14) (apl [(.sint .i8 (x.i 39))] (apl (fl x 40 14) (apl [(.sint .i8 (x.i 54))] (apl (fl x 55 14) (apl [(.sint .i8 (x.i 69))] (apl (fl x 70 14) (apl [(.sint .i8 (x.i 84))] (apl (fl x 85 14) (apl [(.sint .i8 (x.i 99))] (apl (fl x 100 14) (apl [(.sint .i8 (x.i 114))] (apl (fl x 115 32) ([(.sint .i16 (x.i 147))]))))))))))))))))))) [0] [0] [(varsOf [])]))

noncomputable def l0_cs (x : Vars) : List Bool := [(asIQB (mkSV (apl [(.sint .i8 (x.i 0))] (apl (fl x 1 8) (apl [(.sint .i8 (x.i 9))] (apl (fl x 10 14) (apl [(.sint .i8 (x.i 24))] (apl (fl x 25 14) (apl [(.sint .i8 (x.i 39))] (apl (fl x 40 14) (apl [(.sint .i8 (x.i 54))] (apl (fl x 55 14) (apl [(.sint .i8 (x.i 69))] (apl (fl x 70 14) (apl [(.sint .i8 (x.i 84))] (apl (fl x 85 14) (apl [(.sint .i8 (x.i 99))] (apl (fl x 100 14) (apl [(.sint .i8 (x.i 114))] (apl (fl x 115 32) ([(.sint .i16 (x.i 147))]))))))))))))))))))) [0] [0] [(varsOf [])])), (asIQB (mkSV (apl [(.sint .i8 (x.i 0))] (apl (fl x 1 8) (apl [(.sint .i8 (x.i 9))] (apl (fl x 10 14) (apl [(.sint .i8 (x.i 24))] (apl (fl x 25 14) (apl [(.sint .i8 (x.i 39))] (apl (fl x 40 14) (apl [(.sint .i8 (x.i 54))] (apl (fl x 55 14) (apl [(.sint .i8 (x.i 69))] (apl (fl x 70 14) (apl [(.sint .i8 (x.i 84))] (apl (fl x 85 14) (apl [(.sint .i8 (x.i 99))] (apl (fl x 100 14) (apl [(.sint .i8 (x.i 114))] (apl (fl x 115 32) ([(.sint .i16 (x.i 147))]))))))))))))))))))) [0] [0] [(varsOf [])]))]

noncomputable def l0_T (x : Vars) : Bool := (!((!(decide (((l0_v_0 x).i 0) = ((l0_v_0 x).i 0)))) || (!(decide (((l0_v_0 x).i 1) = ((l0_v_0 x).i 1))))))

theorem l0_eval (x : Vars) : funH Try.prog G36 noLT true 1000 4 (mkAs x 0 [.ag kd2, .ag kd4] ++ .snil :: mkAs x (shSizes [.ag kd2, .ag kd4]) []) [] [] = some (.sbool (l0_T x), l0_cs x) := by kernel_rfl

theorem l0_true (x : Vars) : l0_T x = true := by
  unfold l0_T
  exact (notT (orF (notF (decide_eq_true rfl)) (notF (decide_eq_true rfl))))

theorem l0_csok (x : Vars) : ∀ b ∈ l0_cs x, b = true := by
  unfold l0_cs
  exact (allC (asIQB_to ⟨(show (0 : Nat) ≤ 1048576 by omega), rfl⟩) (allC (asIQB_to ⟨(show (0 : Nat) ≤ 1048576 by omega), rfl⟩) allN))

set_option maxRecDepth 100000 in
theorem fnExactFirstGood_lifted (os : Os) (started : os.Started) (H : Type) (enc : TypeId × Value → H) :
    ReturnsInHanded {} Try.checked os 4 .any (Rows.fnExactFirstGoodSpec.pre6 enc Try.prog Try.f4 Rows.fnExactFirstGoodRow.domain false) (Rows.fnExactFirstGoodSpec.post enc Try.prog Try.f4 false true false false) := by
  refine law_row3 (C := Try.checked) (tb := 4) (KS1 := [.ag kd2, .ag kd4]) (KS2 := []) (k := .flt .f32) (es := 8) (ts1 := [30, 33]) (ts2 := []) (t := 34) Try.own started (by kernel_rfl) Try.func4 Try.laidOut (by kernel_rfl) rfl rfl Try.underlying4 ?_
    (ChangeSpec.witness6 (enc := enc) (C := Try.checked) false ⟨#[], #[.agg #[.int .i8 0, .float .f32 0, .float .f32 0, .float .f32 0, .float .f32 0, .float .f32 0, .float .f32 0, .float .f32 0, .float .f32 0, .int .i8 0, .float .f32 0, .float .f32 0, .float .f32 0, .float .f32 0, .float .f32 0, .float .f32 0, .float .f32 0, .float .f32 0, .float .f32 0, .float .f32 0, .float .f32 0, .float .f32 0, .float .f32 0, .float .f32 0, .int .i8 0, .float .f32 0, .float .f32 0, .float .f32 0, .float .f32 0, .float .f32 0, .float .f32 0, .float .f32 0, .float .f32 0, .float .f32 0, .float .f32 0, .float .f32 0, .float .f32 0, .float .f32 0, .float .f32 0, .int .i8 0, .float .f32 0, .float .f32 0, .float .f32 0, .float .f32 0, .float .f32 0, .float .f32 0, .float .f32 0, .float .f32 0, .float .f32 0, .float .f32 0, .float .f32 0, .float .f32 0, .float .f32 0, .float .f32 0, .int .i8 0, .float .f32 0, .float .f32 0, .float .f32 0, .float .f32 0, .float .f32 0, .float .f32 0, .float .f32 0, .float .f32 0, .float .f32 0, .float .f32 0, .float .f32 0, .float .f32 0, .float .f32 0, .float .f32 0, .int .i8 0, .float .f32 0, .float .f32 0, .float .f32 0, .float .f32 0, .float .f32 0, .float .f32 0, .float .f32 0, .float .f32 0, .float .f32 0, .float .f32 0, .float .f32 0, .float .f32 0, .float .f32 0, .float .f32 0, .int .i8 0, .float .f32 0, .float .f32 0, .float .f32 0, .float .f32 0, .float .f32 0, .float .f32 0, .float .f32 0, .float .f32 0, .float .f32 0, .float .f32 0, .float .f32 0, .float .f32 0, .float .f32 0, .float .f32 0, .int .i8 0, .float .f32 0, .float .f32 0, .float .f32 0, .float .f32 0, .float .f32 0, .float .f32 0, .float .f32 0, .float .f32 0, .float .f32 0, .float .f32 0, .float .f32 0, .float .f32 0, .float .f32 0, .float .f32 0, .int .i8 0, .float .f32 0, .float .f32 0, .float .f32 0, .float .f32 0, .float .f32 0, .float .f32 0, .float .f32 0, .float .f32 0, .float .f32 0, .float .f32 0, .float .f32 0, .float .f32 0, .float .f32 0, .float .f32 0], .agg #[.float .f32 0, .float .f32 0, .float .f32 0, .float .f32 0, .float .f32 0, .float .f32 0, .float .f32 0, .float .f32 0, .float .f32 0, .float .f32 0, .float .f32 0, .float .f32 0, .float .f32 0, .float .f32 0, .float .f32 0, .float .f32 0, .float .f32 0, .float .f32 0, .int .i16 0], .slice none 0 0], []⟩ 8 (by kernel_rfl) (by kernel_rfl) (by kernel_rfl) (by kernel_rfl)) mixed (by kernel_rfl) (by kernel_rfl) (by kernel_rfl) (fun h => by cases h) rfl
    (fun x _ => ⟨_, 1000, noLT, true, [], _, _, G36_ok, HFun.none Try.prog _ 4, l0_eval x, .inl (congrArg AV.sbool (l0_true x)), l0_csok x⟩)
    fun x len y _ hl _ => ?_
  · intro ds hl
    rw [Try.params4] at hl
    match ds, hl with
    | [d0, d1, d2], _ => rfl
  · by_cases h : len ≤ 1048576
    · exact ⟨_, 1000, noLT, true, [false], _, _, G33_ok, HFun.none Try.prog _ 4, lF_eval x len y, .inl (congrArg AV.sbool (lF_true x len y)), lF_csok x len y hl h⟩
    · exact ⟨_, 1000, noLT, true, [true], _, _, G33_ok, HFun.none Try.prog _ 4, lT_eval x len y, .inr rfl, lT_csok x len y hl h⟩

theorem fnExactFirstGood_holds : Rows.FnExactFirstGoodSaid :=
  OpenClaim.holds_of_wide 4 Try.f4 rfl rfl rfl rfl rfl rfl rfl ⟨rfl, rfl, rfl, rfl, rfl⟩ rfl rfl rfl rfl rfl (by kernel_rfl) Try.func4 (by kernel_rfl)
    (of_decide_eq_true (by kernel_rfl)) (by unfold Func.isWrapper; first | (rw [if_pos (by decide +kernel)]; kernel_rfl) | (rw [if_neg (by decide +kernel)]; exact ⟨rfl, rfl⟩))
    (fun os started H enc _ => fnExactFirstGood_lifted os started H enc)

end Go.Proofs.Ytagkkkplmilkhaa

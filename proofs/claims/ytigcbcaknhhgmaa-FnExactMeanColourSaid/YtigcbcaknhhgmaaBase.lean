/-
  Facts of this seat that its laws use; no conditions.
-/
import Derived.Test.YtigcbcaknhhgmaaRows
import Derived.Test.YtigcbcaknhhgmaaSimY
namespace Go.Proofs.Ytigcbcaknhhgmaa
open Go.Sim Go.ChangeShapes Go.WideShapes Go.ChangeAt Go.RowKit

theorem Try.own : ownKnob Try.prog.godebug = none := by kernel_rfl
theorem Try.laidOut : laidOutB Try.prog = true := by kernel_rfl
theorem mixed : Try.prog.follows .mixedOrders = true := by kernel_rfl

noncomputable def Gnone : Summ := fun _ _ _ => none
theorem Gnone_ok : SoundG Try.prog Gnone := SoundG.nil

theorem orE {x y : Bool} (h : x = false → y = true) : (x || y) = true := by
  cases x with
  | true => rfl
  | false => exact h rfl
theorem condNF {c r : Bool} (h : (bif c then false else r) = true) : c = false ∧ r = true := by cases c <;> first | exact ⟨rfl, h⟩ | cases h
theorem allN : ∀ b ∈ ([] : List Bool), b = true := fun _ h => by cases h
theorem allC {a : Bool} {l : List Bool} (h : a = true) (hl : ∀ b ∈ l, b = true) : ∀ b ∈ a :: l, b = true := fun b hb => by
  rcases List.mem_cons.1 hb with e | e
  · exact e.trans h
  · exact hl b e
theorem condT {c a b : Bool} (hc : c = true) (ha : a = true) : (bif c then a else b) = true := by subst hc ha; rfl
theorem condF {c a b : Bool} (hc : c = false) (hb : b = true) : (bif c then a else b) = true := by subst hc hb; rfl
theorem condB {c a b : Bool} (ha : a = true) (hb : b = true) : (bif c then a else b) = true := by subst ha hb; cases c <;> rfl
theorem condTf {c a b : Bool} (hc : c = true) (ha : a = false) : (bif c then a else b) = false := by subst hc ha; rfl
theorem condFf {c a b : Bool} (hc : c = false) (hb : b = false) : (bif c then a else b) = false := by subst hc hb; rfl
theorem condBf {c a b : Bool} (ha : a = false) (hb : b = false) : (bif c then a else b) = false := by subst ha hb; cases c <;> rfl
theorem notT {x : Bool} (h : x = false) : (!x) = true := by subst h; rfl
theorem notF {x : Bool} (h : x = true) : (!x) = false := by subst h; rfl
theorem andT {x y : Bool} (h : x = true) (k : y = true) : (x && y) = true := by subst h k; rfl
theorem andFl {x y : Bool} (h : x = false) : (x && y) = false := by subst h; rfl
theorem andFr {x y : Bool} (h : y = false) : (x && y) = false := by subst h; cases x <;> rfl
theorem orTl {x y : Bool} (h : x = true) : (x || y) = true := by subst h; rfl
theorem orTr {x y : Bool} (h : y = true) : (x || y) = true := by subst h; cases x <;> rfl
theorem notBF {x : Bool} (h : (!x) = false) : x = true := by cases x <;> first | rfl | cases h
theorem notBT {x : Bool} (h : (!x) = true) : x = false := by cases x <;> first | rfl | cases h
theorem orF {x y : Bool} (h : x = false) (k : y = false) : (x || y) = false := by subst h k; rfl
theorem cond_tf (b : Bool) : (bif b then true else false) = b := by cases b <;> rfl

noncomputable def G1 : Summ := inlGs Try.prog 1000 [86] Gnone

theorem G1_ok : SoundG Try.prog G1 := by
  refine SoundG.inls mixed Gnone_ok fun f hf => ?_
  simp only [List.mem_cons, List.not_mem_nil, or_false] at hf
  subst hf
  exact Try.call86

noncomputable def isPartR0 (xs : List AV) : Vars := outV (funA Try.prog G1 1000 60 xs [] [])

noncomputable def isPartR : List AV → Vars := Classical.choose (⟨isPartR0, rfl⟩ : ∃ f, f = isPartR0)

theorem isPartR_eq : isPartR = isPartR0 := Classical.choose_spec (⟨isPartR0, rfl⟩ : ∃ f, f = isPartR0)

theorem isPart_ev60 (x : Vars) : funA Try.prog G1 1000 60 (mkAs x 0 [.sc (.flt .f32)]) [] [] = some (mkR (isPartR0 (mkAs x 0 [.sc (.flt .f32)])) [.sc (.bool)], []) := by kernel_rfl

theorem isPart_ev57 (x : Vars) : funA Try.prog G1 1000 57 (mkAs x 0 [.sc (.flt .f32)]) [] [] = some (mkR (isPartR0 (mkAs x 0 [.sc (.flt .f32)])) [.sc (.bool)], []) := by kernel_rfl

noncomputable def G2 : Summ := addG 60 (sumG [.sc (.flt .f32)] [.sc (.bool)] isPartR) G1

theorem G2_ok : SoundG Try.prog G2 := SoundG.sum G1_ok mixed Try.call60 G1_ok fun x => ⟨_, (by rw [isPartR_eq]; exact isPart_ev60 x), fun _ h => by cases h⟩

noncomputable def G3 : Summ := addG 57 (sumG [.sc (.flt .f32)] [.sc (.bool)] isPartR) G2

theorem G3_ok : SoundG Try.prog G3 := SoundG.sum G2_ok mixed Try.call57 G1_ok fun x => ⟨_, (by rw [isPartR_eq]; exact isPart_ev57 x), fun _ h => by cases h⟩

noncomputable def sameFV (x : Vars) : Vars := {
  u := fun _ => 0
  i := fun _ => 0
  b := fun _ => Go.Sim.sameF (x.u 0) (x.u 1)
  s := fun _ => .empty }

noncomputable def sameFR0 (xs : List AV) : Vars := sameFV (inV xs)

noncomputable def sameFR : List AV → Vars := Classical.choose (⟨sameFR0, rfl⟩ : ∃ f, f = sameFR0)

theorem sameFR_eq : sameFR = sameFR0 := Classical.choose_spec (⟨sameFR0, rfl⟩ : ∃ f, f = sameFR0)

theorem sameF_ev19 (x : Vars) : funA Try.prog G3 1000 19 (mkAs x 0 [.sc (.flt .f64), .sc (.flt .f64)]) [] [] = some (mkR (sameFR0 (mkAs x 0 [.sc (.flt .f64), .sc (.flt .f64)])) [.sc (.bool)], []) := by
  have h : funA Try.prog G3 1000 19 (mkAs x 0 [.sc (.flt .f64), .sc (.flt .f64)]) [] [] = some (.sbool ((bif ((fcmp .neq .f64 (x.u 0) (x.u 0)) || (fcmp .neq .f64 (x.u 1) (x.u 1))) then ((fcmp .neq .f64 (x.u 0) (x.u 0)) && (fcmp .neq .f64 (x.u 1) (x.u 1))) else (bif ((fcmp .eql .f64 (x.u 0) 0) && (fcmp .eql .f64 (x.u 1) 0)) then ((fcmp .gtr .f64 (farith .quo .f64 4607182418800017408 (x.u 0)) 0) == (fcmp .gtr .f64 (farith .quo .f64 4607182418800017408 (x.u 1)) 0)) else (fcmp .eql .f64 (x.u 0) (x.u 1))))), []) := by kernel_rfl
  have h2 : (some (mkR (sameFR0 (mkAs x 0 [.sc (.flt .f64), .sc (.flt .f64)])) [.sc (.bool)], []) : Option (AV × List Bool)) = some (.sbool (Go.Sim.sameF (x.u 0) (x.u 1)), []) := by kernel_rfl
  have h3 : (some (.sbool ((bif ((fcmp .neq .f64 (x.u 0) (x.u 0)) || (fcmp .neq .f64 (x.u 1) (x.u 1))) then ((fcmp .neq .f64 (x.u 0) (x.u 0)) && (fcmp .neq .f64 (x.u 1) (x.u 1))) else (bif ((fcmp .eql .f64 (x.u 0) 0) && (fcmp .eql .f64 (x.u 1) 0)) then ((fcmp .gtr .f64 (farith .quo .f64 4607182418800017408 (x.u 0)) 0) == (fcmp .gtr .f64 (farith .quo .f64 4607182418800017408 (x.u 1)) 0)) else (fcmp .eql .f64 (x.u 0) (x.u 1))))), []) : Option (AV × List Bool)) = some (.sbool (Go.Sim.sameF (x.u 0) (x.u 1)), []) := by
    kernel_rfl
  exact h.trans (h3.trans h2.symm)

noncomputable def G4 : Summ := addG 19 (sumG [.sc (.flt .f64), .sc (.flt .f64)] [.sc (.bool)] sameFR) G3

theorem G4_ok : SoundG Try.prog G4 := SoundG.sum G3_ok mixed Try.call19 G3_ok fun x => ⟨_, (by rw [sameFR_eq]; exact sameF_ev19 x), fun _ h => by cases h⟩

theorem sameFR_self (v : Nat) : (sameFR [.flt .f64 v, .flt .f64 v]).b 0 = true := by rw [sameFR_eq]; exact Go.Sim.sameF_self v

end Go.Proofs.Ytigcbcaknhhgmaa

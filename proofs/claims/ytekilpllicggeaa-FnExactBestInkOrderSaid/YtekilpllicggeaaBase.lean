/-
  Facts of this seat that its laws use; no conditions.
-/
import Derived.Test.YtekilpllicggeaaRows
import Derived.Test.YtekilpllicggeaaSimZa
namespace Go.Proofs.Ytekilpllicggeaa
open Go.Sim Go.ChangeShapes Go.WideShapes Go.ChangeAt Go.RowKit

theorem Try.own : ownKnob Try.prog.godebug = none := by kernel_rfl
theorem Try.laidOut : laidOutB Try.prog = true := by kernel_rfl
theorem mixed : Try.prog.follows .mixedOrders = true := by kernel_rfl

noncomputable def Gnone : Summ := fun _ _ _ => none
theorem Gnone_ok : SoundG Try.prog Gnone := SoundG.nil

theorem orE {x y : Bool} (h : x = false → y = true) : (x || y) = true := by
  cases x with
  | true => rfl
  | false => exact h rfl
theorem condNF {c r : Bool} (h : (bif c then false else r) = true) : c = false ∧ r = true := by cases c <;> first | exact ⟨rfl, h⟩ | cases h
theorem allN : ∀ b ∈ ([] : List Bool), b = true := fun _ h => by cases h
theorem allC {a : Bool} {l : List Bool} (h : a = true) (hl : ∀ b ∈ l, b = true) : ∀ b ∈ a :: l, b = true := fun b hb => by
  rcases List.mem_cons.1 hb with e | e
  · exact e.trans h
  · exact hl b e
theorem condT {c a b : Bool} (hc : c = true) (ha : a = true) : (bif c then a else b) = true := by subst hc ha; rfl
theorem condF {c a b : Bool} (hc : c = false) (hb : b = true) : (bif c then a else b) = true := by subst hc hb; rfl
theorem condB {c a b : Bool} (ha : a = true) (hb : b = true) : (bif c then a else b) = true := by subst ha hb; cases c <;> rfl
theorem condTf {c a b : Bool} (hc : c = true) (ha : a = false) : (bif c then a else b) = false := by subst hc ha; rfl
theorem condFf {c a b : Bool} (hc : c = false) (hb : b = false) : (bif c then a else b) = false := by subst hc hb; rfl
theorem condBf {c a b : Bool} (ha : a = false) (hb : b = false) : (bif c then a else b) = false := by subst ha hb; cases c <;> rfl
theorem notT {x : Bool} (h : x = false) : (!x) = true := by subst h; rfl
theorem notF {x : Bool} (h : x = true) : (!x) = false := by subst h; rfl
theorem andT {x y : Bool} (h : x = true) (k : y = true) : (x && y) = true := by subst h k; rfl
theorem andFl {x y : Bool} (h : x = false) : (x && y) = false := by subst h; rfl
theorem andFr {x y : Bool} (h : y = false) : (x && y) = false := by subst h; cases x <;> rfl
theorem orTl {x y : Bool} (h : x = true) : (x || y) = true := by subst h; rfl
theorem orTr {x y : Bool} (h : y = true) : (x || y) = true := by subst h; cases x <;> rfl
theorem notBF {x : Bool} (h : (!x) = false) : x = true := by cases x <;> first | rfl | cases h
theorem notBT {x : Bool} (h : (!x) = true) : x = false := by cases x <;> first | rfl | cases h
theorem orF {x y : Bool} (h : x = false) (k : y = false) : (x || y) = false := by subst h k; rfl
theorem cond_tf (b : Bool) : (bif b then true else false) = b := by cases b <;> rfl

noncomputable def sameFV (x : Vars) : Vars := {
  u := fun _ => 0
  i := fun _ => 0
  b := fun _ => Go.Sim.sameF (x.u 0) (x.u 1)
  s := fun _ => .empty }

noncomputable def sameFR0 (xs : List AV) : Vars := sameFV (inV xs)

noncomputable def sameFR : List AV → Vars := Classical.choose (⟨sameFR0, rfl⟩ : ∃ f, f = sameFR0)

theorem sameFR_eq : sameFR = sameFR0 := Classical.choose_spec (⟨sameFR0, rfl⟩ : ∃ f, f = sameFR0)

theorem sameF_ev26 (x : Vars) : funA Try.prog Gnone 1000 26 (mkAs x 0 [.sc (.flt .f64), .sc (.flt .f64)]) [] [] = some (mkR (sameFR0 (mkAs x 0 [.sc (.flt .f64), .sc (.flt .f64)])) [.sc (.bool)], []) := by
  have h : funA Try.prog Gnone 1000 26 (mkAs x 0 [.sc (.flt .f64), .sc (.flt .f64)]) [] [] = some (.sbool ((bif ((fcmp .neq .f64 (x.u 0) (x.u 0)) || (fcmp .neq .f64 (x.u 1) (x.u 1))) then ((fcmp .neq .f64 (x.u 0) (x.u 0)) && (fcmp .neq .f64 (x.u 1) (x.u 1))) else (bif ((fcmp .eql .f64 (x.u 0) 0) && (fcmp .eql .f64 (x.u 1) 0)) then ((fcmp .gtr .f64 (farith .quo .f64 4607182418800017408 (x.u 0)) 0) == (fcmp .gtr .f64 (farith .quo .f64 4607182418800017408 (x.u 1)) 0)) else (fcmp .eql .f64 (x.u 0) (x.u 1))))), []) := by kernel_rfl
  have h2 : (some (mkR (sameFR0 (mkAs x 0 [.sc (.flt .f64), .sc (.flt .f64)])) [.sc (.bool)], []) : Option (AV × List Bool)) = some (.sbool (Go.Sim.sameF (x.u 0) (x.u 1)), []) := by kernel_rfl
  have h3 : (some (.sbool ((bif ((fcmp .neq .f64 (x.u 0) (x.u 0)) || (fcmp .neq .f64 (x.u 1) (x.u 1))) then ((fcmp .neq .f64 (x.u 0) (x.u 0)) && (fcmp .neq .f64 (x.u 1) (x.u 1))) else (bif ((fcmp .eql .f64 (x.u 0) 0) && (fcmp .eql .f64 (x.u 1) 0)) then ((fcmp .gtr .f64 (farith .quo .f64 4607182418800017408 (x.u 0)) 0) == (fcmp .gtr .f64 (farith .quo .f64 4607182418800017408 (x.u 1)) 0)) else (fcmp .eql .f64 (x.u 0) (x.u 1))))), []) : Option (AV × List Bool)) = some (.sbool (Go.Sim.sameF (x.u 0) (x.u 1)), []) := by
    kernel_rfl
  exact h.trans (h3.trans h2.symm)

noncomputable def G1 : Summ := addG 26 (sumG [.sc (.flt .f64), .sc (.flt .f64)] [.sc (.bool)] sameFR) Gnone

theorem G1_ok : SoundG Try.prog G1 := SoundG.sum Gnone_ok mixed Try.call26 Gnone_ok fun x => ⟨_, (by rw [sameFR_eq]; exact sameF_ev26 x), fun _ h => by cases h⟩

end Go.Proofs.Ytekilpllicggeaa

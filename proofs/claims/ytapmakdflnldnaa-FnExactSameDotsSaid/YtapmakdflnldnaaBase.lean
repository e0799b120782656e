/-
  Facts of this seat that its laws use; no conditions.
-/
import Derived.Test.YtapmakdflnldnaaRows
import Derived.Test.YtapmakdflnldnaaSimS
namespace Go.Proofs.Ytapmakdflnldnaa
open Go.Sim Go.ChangeShapes Go.WideShapes Go.ChangeAt Go.RowKit

theorem Try.own : ownKnob Try.prog.godebug = none := by kernel_rfl
theorem Try.laidOut : laidOutB Try.prog = true := by kernel_rfl
theorem mixed : Try.prog.follows .mixedOrders = true := by kernel_rfl

noncomputable def Gnone : Summ := fun _ _ _ => none
theorem Gnone_ok : SoundG Try.prog Gnone := SoundG.nil

theorem kd23 : aggKds Try.prog 23 = some [.flt .f32, .flt .f32, .flt .f32] := by kernel_rfl

theorem open23 {W : World} {base : Nat} {v : Value} (h : Value.okWide Try.prog W .any base 23 v) : ∃ a0 a1 a2, VR (fun _ => none) (.agg [.flt .f32 a0, .flt .f32 a1, .flt .f32 a2]) v ∧ a0 < 4294967296 ∧ a1 < 4294967296 ∧ a2 < 4294967296 := by
  obtain ⟨xs, h1, h2⟩ := open_aggr (β := fun _ => none) kd23 h
  match xs, h2 with
  | [x0, x1, x2], h2 =>
    obtain ⟨⟨_, rfl, e0⟩, ⟨_, rfl, e1⟩, ⟨_, rfl, e2⟩, _⟩ := h2
    exact ⟨_, _, _, h1, ⟨canon_lt e0, canon_lt e1, canon_lt e2⟩⟩

theorem kd22 : kdOf Try.prog 22 = some (.flt .f32) := by kernel_rfl

theorem open22 {W : World} {base : Nat} {v : Value} (h : Value.okWide Try.prog W .any base 22 v) : ∃ a0, VR (fun _ => none) (.flt .f32 a0) v ∧ a0 < 4294967296 := by
  obtain ⟨x, h1, h2⟩ := open_scal (β := fun _ => none) kd22 h
  obtain ⟨_, rfl, e0⟩ := h2
  exact ⟨_, h1, canon_lt e0⟩

noncomputable def G1 : Summ := inlGs Try.prog 1000 [62] Gnone

theorem G1_ok : SoundG Try.prog G1 := by
  refine SoundG.inls mixed Gnone_ok fun f hf => ?_
  simp only [List.mem_cons, List.not_mem_nil, or_false] at hf
  subst hf
  exact Try.call62

noncomputable def isPart (a0 : Nat) : Bool := boolOf (leafAt 0 (funA Try.prog G1 1000 53 [.flt .f32 a0] [] []))

theorem isPart_ev53 (a0 : Nat) : funA Try.prog G1 1000 53 [.flt .f32 a0] [] [] = some (.sbool (isPart a0), []) := by kernel_rfl

theorem isPart_ev52 (a0 : Nat) : funA Try.prog G1 1000 52 [.flt .f32 a0] [] [] = some (.sbool (isPart a0), []) := by kernel_rfl

noncomputable def isPart_s : List AV → Option AV
  | [.flt .f32 a0] => some (.sbool (isPart a0))
  | _ => none

noncomputable def G2 : Summ := addG 53 (fun xs _ => (isPart_s xs).map fun v => { v := v }) G1

theorem G2_ok : SoundG Try.prog G2 := by
  refine SoundG.add0' G1_ok mixed Try.call53 fun xs v h => ?_
  unfold isPart_s at h
  split at h
  · cases h
    exact ⟨rfl, rfl, G1, G1_ok, 1000, [], [], isPart_ev53 .., fun _ hb => by cases hb⟩
  · cases h

noncomputable def G3 : Summ := addG 52 (fun xs _ => (isPart_s xs).map fun v => { v := v }) G2

theorem G3_ok : SoundG Try.prog G3 := by
  refine SoundG.add0' G2_ok mixed Try.call52 fun xs v h => ?_
  unfold isPart_s at h
  split at h
  · cases h
    exact ⟨rfl, rfl, G1, G1_ok, 1000, [], [], isPart_ev52 .., fun _ hb => by cases hb⟩
  · cases h

noncomputable def G4 : Summ := inlGs Try.prog 1000 [47] G3

theorem G4_ok : SoundG Try.prog G4 := by
  refine SoundG.inls mixed G3_ok fun f hf => ?_
  simp only [List.mem_cons, List.not_mem_nil, or_false] at hf
  subst hf
  exact Try.call47

noncomputable def valid3 (a0 a1 a2 : Nat) : Bool := (isPart a0 && isPart a1) && isPart a2

theorem valid3_ev46 (a0 a1 a2 : Nat) : funA Try.prog G4 1000 46 [.agg [.flt .f32 a0, .flt .f32 a1, .flt .f32 a2]] [] [] = some (.sbool (valid3 a0 a1 a2), []) := by kernel_rfl

theorem valid3_ev17 (a0 a1 a2 : Nat) : funA Try.prog G4 1000 17 [.agg [.flt .f32 a0, .flt .f32 a1, .flt .f32 a2]] [] [] = some (.sbool (valid3 a0 a1 a2), []) := by
  have h : funA Try.prog G4 1000 17 [.agg [.flt .f32 a0, .flt .f32 a1, .flt .f32 a2]] [] [] = some (.sbool (bif !isPart a0 then false else bif !isPart a1 then false else bif !isPart a2 then false else true), []) := by kernel_rfl
  rw [h]
  unfold valid3
  cases isPart a0 <;> cases isPart a1 <;> cases isPart a2 <;> rfl

theorem valid3_ev20 (a0 a1 a2 : Nat) : funA Try.prog G4 1000 20 [.agg [.flt .f32 a0, .flt .f32 a1, .flt .f32 a2]] [] [] = some (.sbool (valid3 a0 a1 a2), []) := by
  have h : funA Try.prog G4 1000 20 [.agg [.flt .f32 a0, .flt .f32 a1, .flt .f32 a2]] [] [] = some (.sbool (bif !isPart a0 then false else bif !isPart a1 then false else bif !isPart a2 then false else true), []) := by kernel_rfl
  rw [h]
  unfold valid3
  cases isPart a0 <;> cases isPart a1 <;> cases isPart a2 <;> rfl

noncomputable def valid3_s : List AV → Option AV
  | [.agg [.flt .f32 a0, .flt .f32 a1, .flt .f32 a2]] => some (.sbool (valid3 a0 a1 a2))
  | _ => none

noncomputable def G5 : Summ := addG 46 (fun xs _ => (valid3_s xs).map fun v => { v := v }) G4

theorem G5_ok : SoundG Try.prog G5 := by
  refine SoundG.add0' G4_ok mixed Try.call46 fun xs v h => ?_
  unfold valid3_s at h
  split at h
  · cases h
    exact ⟨rfl, rfl, G4, G4_ok, 1000, [], [], valid3_ev46 .., fun _ hb => by cases hb⟩
  · cases h

noncomputable def G6 : Summ := addG 17 (fun xs _ => (valid3_s xs).map fun v => { v := v }) G5

theorem G6_ok : SoundG Try.prog G6 := by
  refine SoundG.add0' G5_ok mixed Try.call17 fun xs v h => ?_
  unfold valid3_s at h
  split at h
  · cases h
    exact ⟨rfl, rfl, G4, G4_ok, 1000, [], [], valid3_ev17 .., fun _ hb => by cases hb⟩
  · cases h

noncomputable def G7 : Summ := addG 20 (fun xs _ => (valid3_s xs).map fun v => { v := v }) G6

theorem G7_ok : SoundG Try.prog G7 := by
  refine SoundG.add0' G6_ok mixed Try.call20 fun xs v h => ?_
  unfold valid3_s at h
  split at h
  · cases h
    exact ⟨rfl, rfl, G4, G4_ok, 1000, [], [], valid3_ev20 .., fun _ hb => by cases hb⟩
  · cases h

noncomputable def sameF (a0 a1 : Nat) : Bool := Go.Sim.sameF a0 a1

theorem sameF_ev30 (a0 a1 : Nat) : funA Try.prog G7 1000 30 [.flt .f64 a0, .flt .f64 a1] [] [] = some (.sbool (sameF a0 a1), []) := by kernel_rfl

noncomputable def sameF_s : List AV → Option AV
  | [.flt .f64 a0, .flt .f64 a1] => some (.sbool (sameF a0 a1))
  | _ => none

noncomputable def G8 : Summ := addG 30 (fun xs _ => (sameF_s xs).map fun v => { v := v }) G7

theorem G8_ok : SoundG Try.prog G8 := by
  refine SoundG.add0' G7_ok mixed Try.call30 fun xs v h => ?_
  unfold sameF_s at h
  split at h
  · cases h
    exact ⟨rfl, rfl, G7, G7_ok, 1000, [], [], sameF_ev30 .., fun _ hb => by cases hb⟩
  · cases h

end Go.Proofs.Ytapmakdflnldnaa

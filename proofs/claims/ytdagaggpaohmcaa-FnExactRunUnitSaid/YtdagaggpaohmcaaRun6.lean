/-
  Facts of this seat that its laws use; no conditions.
-/
import Derived.Test.YtdagaggpaohmcaaRun5
namespace Go.Proofs.Ytdagaggpaohmcaa
open Go.Sim Go.ChangeShapes Go.WideShapes Go.ChangeAt Go.RowKit

noncomputable def ruEPre (s : SV) : List Bool := [ruBad s]

noncomputable def ruOPre (s : SV) : List Bool := [!(ruBad s)]

noncomputable def riER0 (s : SV) : SV := errI (ruCode s)

noncomputable def riER : SV → SV := Classical.choose (⟨riER0, rfl⟩ : ∃ f, f = riER0)

theorem riER_eq : riER = riER0 := Classical.choose_spec (⟨riER0, rfl⟩ : ∃ f, f = riER0)

noncomputable def rsER0 (s : SV) : SV := errS (ruCode s)

noncomputable def rsER : SV → SV := Classical.choose (⟨rsER0, rfl⟩ : ∃ f, f = rsER0)

theorem rsER_eq : rsER = rsER0 := Classical.choose_spec (⟨rsER0, rfl⟩ : ∃ f, f = rsER0)

noncomputable def ruOR0 (s : SV) : SV := ruOKv (rsF (ruSt s))

noncomputable def ruOR : SV → SV := Classical.choose (⟨ruOR0, rfl⟩ : ∃ f, f = ruOR0)

theorem ruOR_eq : ruOR = ruOR0 := Classical.choose_spec (⟨ruOR0, rfl⟩ : ∃ f, f = ruOR0)

noncomputable def GE0 : Summ := addG 43 (sumW ruI riFE ruEPre riER) G37

theorem GE0_ok : SoundG Try.prog GE0 := by
  unfold GE0
  rw [riER_eq]
  refine SoundG.sumW G37_ok mixed Try.call43 G37_ok (by decide) fun s hp => ?_
  exact ⟨Hri, true, 1000, [], riTF s, [riFE, ruOK], 0, Hri_ok, ri_T s, (riTF_all s).1, (riTF_all s).2.1 (hp _ (List.mem_cons_self ..)), rfl⟩

noncomputable def GE : Summ := addG 42 (sumW ruI rsFE ruEPre rsER) GE0

theorem GE_ok : SoundG Try.prog GE := by
  unfold GE
  rw [rsER_eq]
  refine SoundG.sumW GE0_ok mixed Try.call42 G37_ok (by decide) fun s hp => ?_
  exact ⟨Hrs, true, 1000, [], rsTF s, [rsFE, ruOK], 0, Hrs_ok, rs_T s, (rsTF_all s).1, (rsTF_all s).2.1 (hp _ (List.mem_cons_self ..)), rfl⟩

noncomputable def GO0 : Summ := addG 43 (sumW ruI ruOK ruOPre ruOR) G37

theorem GO0_ok : SoundG Try.prog GO0 := by
  unfold GO0
  rw [ruOR_eq]
  refine SoundG.sumW G37_ok mixed Try.call43 G37_ok (by decide) fun s hp => ?_
  exact ⟨Hri, true, 1000, [], riTF s, [riFE, ruOK], 1, Hri_ok, ri_T s, (riTF_all s).1, (riTF_all s).2.2 (notBT (hp _ (List.mem_cons_self ..))), rfl⟩

noncomputable def GO : Summ := addG 42 (sumW ruI ruOK ruOPre ruOR) GO0

theorem GO_ok : SoundG Try.prog GO := by
  unfold GO
  rw [ruOR_eq]
  refine SoundG.sumW GO0_ok mixed Try.call42 G37_ok (by decide) fun s hp => ?_
  exact ⟨Hrs, true, 1000, [], rsTF s, [rsFE, ruOK], 1, Hrs_ok, rs_T s, (rsTF_all s).1, (rsTF_all s).2.2 (notBT (hp _ (List.mem_cons_self ..))), rfl⟩

end Go.Proofs.Ytdagaggpaohmcaa

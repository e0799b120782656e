/-
  Facts of this seat that its laws use; no conditions.
-/
import Derived.Test.YtdagaggpaohmcaaRun7
namespace Go.Proofs.Ytdagaggpaohmcaa
open Go.Sim Go.ChangeShapes Go.WideShapes Go.ChangeAt Go.RowKit

noncomputable def eqSPre (s : SV) : List Bool := [eqSB s]

noncomputable def maPre (s : SV) : List Bool := [maB s]

noncomputable def hePre (s : SV) : List Bool := [heB s]

noncomputable def eqSR0 (_ : SV) : Vars := varsOf [.sbool true]
noncomputable def heR0 (s : SV) : Vars := varsOf [.sint .i64 (1 + 8 * (s.len 0 : Int))]

noncomputable def eqSR : SV → Vars := Classical.choose (⟨eqSR0, rfl⟩ : ∃ f, f = eqSR0)

theorem eqSR_eq : eqSR = eqSR0 := Classical.choose_spec (⟨eqSR0, rfl⟩ : ∃ f, f = eqSR0)

noncomputable def heR : SV → Vars := Classical.choose (⟨heR0, rfl⟩ : ∃ f, f = heR0)

theorem heR_eq : heR = heR0 := Classical.choose_spec (⟨heR0, rfl⟩ : ∃ f, f = heR0)

noncomputable def GO1 : Summ := addG 44 (sumQ eqI [.sc (.bool)] eqSPre eqSR) GO

noncomputable def GO2 : Summ := addG 45 (sumW maI maO maPre maR) GO1

noncomputable def GO3 : Summ := addG 46 (sumQ heI [.sc (.int .i64)] hePre heR) GO2

theorem GO1_ok : SoundG Try.prog GO1 := by
  unfold GO1
  rw [eqSR_eq]
  refine SoundG.sumQ GO_ok mixed Try.call44 GO_ok (by decide) fun s hp => ?_
  have h := eqSB_of (hp _ (List.mem_cons_self ..))
  obtain ⟨hB, h0⟩ := ezSt_B s h
  obtain ⟨i1, i2, i3, i4, i5⟩ := h
  refine ⟨Hez, true, 1000, [], _, _, Hez_ok, ez_q s, ?_, rfl, rfl, ?_⟩
  · rw [h0, decide_eq_true (congrArg ofN i2)]
    rfl
  · rw [hB, Bool.or_true]
    exact (allC rfl (allC (andT (decide_eq_true (by simp only [ofN]; omega)) (decide_eq_true (by simp only [ofN]; omega))) (allC (andT (decide_eq_true (by simp only [ofN]; omega)) (decide_eq_true (by simp only [ofN]; omega))) allN)))

theorem GO2_ok : SoundG Try.prog GO2 := by
  unfold GO2
  rw [maR_eq]
  refine SoundG.sumW GO1_ok mixed Try.call45 GO_ok (by decide) fun s hp => ?_
  have h := maB_of (hp _ (List.mem_cons_self ..))
  have hB := (mzSt_B s h).1
  exact ⟨Hmz, true, 1000, [], _, [maO], 0, Hmz_ok, mz_q s, allC hB allN, rfl, rfl⟩

theorem GO3_ok : SoundG Try.prog GO3 := by
  unfold GO3
  rw [heR_eq]
  refine SoundG.sumQ GO2_ok mixed Try.call46 GO_ok (by decide) fun s hp => ?_
  have h := heB_of (hp _ (List.mem_cons_self ..))
  obtain ⟨hB, h0, h1⟩ := hzSt_B s h
  refine ⟨Hhz, true, 1000, [], _, _, Hhz_ok, hz_q s, ?_, rfl, rfl, allC hB allN⟩
  rw [h0, h1]
  rfl

end Go.Proofs.Ytdagaggpaohmcaa

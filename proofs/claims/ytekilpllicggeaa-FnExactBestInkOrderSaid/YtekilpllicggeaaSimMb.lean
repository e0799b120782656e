/-
  Functions that write, looked into where they are called.
-/
import Derived.Test.YtekilpllicggeaaSimM
namespace Go.Sim

section
variable {P : Program} {G : Summ}

theorem bodyJ_ok (hG : SoundG P G) (hm : P.follows .mixedOrders = true) {f : Nat} {n : Nat} {xs : List AV} {m m' : Mem} {cs : List Bool} {v : AV} (h : bodyJ P G n f xs m = some (v, m', cs)) (hcs : ∀ b ∈ cs, b = true)
    {S : Nat → Prop} {w₀ w : World} {β : BM} {cargs : List Value} (hW : WS S w₀ β m w) (hF : Fresh β m) (hv : VRs β xs cargs) :
    Calls P f ⟨cargs⟩ w fun e w' => ∃ c, e = .returned c ∧ AfterW S w₀ β m' v c w' := by
  unfold bodyJ at h
  split at h
  · cases h
  rename_i fn hf
  split at h
  · cases h
  · cases h
  · rename_i c hb hle
    have hle := Nat.le_of_ble_eq_true hle
    have hk : ∀ {x : EX} {E' : Env} {m1 : Mem} {cs1 : List Bool} {r' : AV × Mem × List Bool}, (match x with
      | .exit _ => none
      | _ => match resA P E' m1 fn.results.toList with
        | none => none
        | some (l, cs') => forceK m1 fun m' => appendK cs' cs1 fun cs => some (oneA l, m', cs)) = some r' → (x = .normal ∨ x = .ret) ∧ ∃ l cs', resA P E' m1 fn.results.toList = some (l, cs') ∧ r' = (oneA l, m1, cs' ++ cs1) := by
      intro x E' m1 cs1 r' h1
      have h1' : (x = .normal ∨ x = .ret) ∧ (match resA P E' m1 fn.results.toList with
        | none => none
        | some (l, cs') => forceK m1 fun m' => appendK cs' cs1 fun cs => some (oneA l, m', cs)) = some r' := by
        cases x with
        | exit id => cases h1
        | normal => exact ⟨.inl rfl, h1⟩
        | ret => exact ⟨.inr rfl, h1⟩
      obtain ⟨hx, h1'⟩ := h1'
      split at h1'
      · cases h1'
      · rename_i l cs' hl
        simp only [forceK_eq, appendK_eq, Option.some.injEq] at h1'
        exact ⟨hx, l, cs', hl, h1'.symm⟩
    obtain ⟨_, h3⟩ := codeA_ok hG hm n (noMerge_ok fun r' => r' = (v, m', cs)) (HOk.none c m.length) h rfl (fun x E' m1 cs1 D1 r' h' hr' b hb => by
      obtain ⟨_, l, cs', _, e⟩ := hk h'
      rw [e] at hr'
      simp only [Prod.mk.injEq] at hr'
      exact hcs b (by rw [← hr'.2.2]; exact List.mem_append_right _ hb))
    refine calls_of_wp hf hb (h3 S w₀ β [] _ w _ (fun i hi => hF i hi) (begin_ok hle hW hF hv) fun x E' m1 cs1 D1 r' a' w' h' hr' hrel => ?_).wp
    obtain ⟨hx, l, cs', hl, e⟩ := hk h'
    rw [e] at hr'
    simp only [Prod.mk.injEq] at hr'
    obtain ⟨e1, e2, e3⟩ := hr'
    obtain ⟨hd, u, u1, u2⟩ := end_ok hrel hl fun b hb => hcs b (by rw [← e3]; exact List.mem_append_left _ hb)
    rw [e1, e2] at u2
    have hpost : a'.defers = [] ∧ ∃ v', (results fn a'.tmps).run P w' = .ok v' w' ∧ ∃ c, Ending.returned v' = .returned c ∧ AfterW S w₀ β m' v c w' := ⟨hd, u, u1, u, rfl, u2⟩
    rcases hx with rfl | rfl
    · exact hpost
    · exact hpost

theorem SoundG.inlW (hG : SoundG P G) (hm : P.follows .mixedOrders = true) {n f : Nat} (hc : Entered P f) : SoundG P (inlW P n f G) := by
  refine hG.add fun xs M r hr hcs S w₀ β w cargs hW hfr hv => ?_
  split at hr
  · cases hr
  · rename_i v M' cs hb
    cases hr
    unfold CallOk
    simp only
    exact .inl ⟨f, hc _ _, bodyJ_ok hG hm hb hcs hW (hfr (by simp)) hv⟩

theorem SoundG.inlWs (hm : P.follows .mixedOrders = true) {n : Nat} : ∀ {l : List Nat} {G : Summ}, SoundG P G → (∀ f ∈ l, Entered P f) → SoundG P (inlWs P n l G)
  | [], _, hG, _ => hG
  | f :: r, G, hG, hl => SoundG.inlWs (l := r) (G := Sim.inlW P n f G) hm (SoundG.inlW hG hm (hl f (List.mem_cons_self ..))) fun g hg => hl g (List.mem_cons_of_mem _ hg)

end
end Go.Sim

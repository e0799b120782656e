/-
  Behind a block that is known: a slot's number told apart.
-/
import Derived.Test.YtekilpllicggeaaSimZh
namespace Go.Sim

/-- Behind block 'id', as 'H' tells it, slot 't' holds one of some numbers. -/
def splitW (id t : Nat) (zs : List Int) (H : LTab) : LTab := fun id' E m => match H id' E m with
  | none => none
  | some (cs, .leaf x E' m') => match Nat.beq id' id with
    | false => some (cs, .leaf x E' m')
    | true => match E'.get t with
      | some ⟨_, .sint k v, []⟩ => some (inZs v zs :: cs, splitLR x E' m' t k v zs)
      | _ => none
  | some r => some r

section
variable {P : Program}

theorem HFun.splitW {H : LTab} {A f id t : Nat} {zs : List Int} (h : HFun P A H f) : HFun P A (Sim.splitW id t zs H) f := by
  intro fn c hf hc id' b hmem E m cs tt ht hcs S w₀ β₀ ds a w Q hA hrel hq
  unfold Sim.splitW at ht
  split at ht
  · cases ht
  · rename_i cs' x E' m' hH
    split at ht
    · cases ht
      exact h fn c hf hc id' b hmem E m _ _ hH hcs S w₀ β₀ ds a w Q hA hrel hq
    · split at ht
      rotate_left
      · cases ht
      rename_i s k v hget
      cases ht
      refine h fn c hf hc id' b hmem E m _ _ hH (fun q hq' => hcs q (List.mem_cons_of_mem _ hq')) S w₀ β₀ ds a w Q hA hrel fun a' w' hrel' => ?_
      have hp := splitLR_pick (x := x) (E := E') (m := m') (t := t) (k := k) (v := v) (zs := zs) (hcs _ (List.mem_cons_self ..))
      rw [hp] at hq
      exact hq a' w' (hrel'.setZ hget)
  · rename_i r hne hH
    cases ht
    exact h fn c hf hc id' b hmem E m _ _ hH hcs S w₀ β₀ ds a w Q hA hrel hq
end
end Go.Sim

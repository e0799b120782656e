/-
  A block behind which a slot's number is told apart; a closure whose both ways are brought together, memory and all.
-/
import Derived.Test.YtekilpllicggeaaSimZc
namespace Go.Sim

/-! ### A slot's number told apart -/

def setZ (t : Nat) (k : IntKind) (z : Int) : Env → Env
  | [] => []
  | e :: r => (match Nat.beq e.s t with
    | true => ⟨e.s, .int k z, e.tg⟩
    | false => e) :: setZ t k z r

def splitLR (x : EX) (E : Env) (m : Mem) (t : Nat) (k : IntKind) (v : Int) : List Int → LR
  | [] => .leaf x E m
  | [z] => .leaf x (setZ t k z E) m
  | z :: r => .node (decide (v = z)) (.leaf x (setZ t k z E) m) (splitLR x E m t k v r)

def inZs (v : Int) : List Int → Bool
  | [] => false
  | z :: r => decide (v = z) || inZs v r

/-- Block 'id' is looked into; behind it slot 't' holds one of some numbers. -/
def splitH (P : Program) (G : Summ) (n f id t : Nat) (zs : List Int) : LTab := fun id' E M => match Nat.beq id' id with
  | false => none
  | true => match codeA P G (ntOf P f) n noLT true noMerge (.block id (blkOf P f id)) E M [] [] (fun x E m cs _ => some (x, E, m, cs)) with
    | none => none
    | some (x, E', m', cs) => match E'.get t with
      | some ⟨_, .sint k v, []⟩ => some (inZs v zs :: cs, splitLR x E' m' t k v zs)
      | _ => none

theorem setZ_get {t : Nat} {k : IntKind} {z : Int} : ∀ {E : Env} {t' : Nat}, (setZ t k z E).get t' = (E.get t').map fun e => match Nat.beq e.s t with
    | true => ⟨e.s, .int k z, e.tg⟩
    | false => e
  | [], _ => rfl
  | e :: r, t' => by
    simp only [setZ, Env.get]
    cases h : Nat.beq e.s t with
    | true =>
      simp only
      cases h2 : Nat.beq e.s t' with
      | true => simp [h]
      | false => simp only; exact setZ_get
    | false =>
      simp only
      cases h2 : Nat.beq e.s t' with
      | true => simp [h]
      | false => simp only; exact setZ_get

theorem get_slot : ∀ {E : Env} {t : Nat} {e : Ent}, E.get t = some e → e.s = t
  | [], _, _, h => by cases h
  | a :: r, t, e, h => by
    simp only [Env.get] at h
    split at h
    · rename_i hb; cases h; exact Nat.eq_of_beq_eq_true hb
    · exact get_slot h

theorem setZ_mem {t : Nat} {k : IntKind} {z : Int} : ∀ {E : Env} {x : Ent}, x ∈ setZ t k z E → ∃ y ∈ E, y.s = x.s
  | [], _, h => by simp [setZ] at h
  | e :: r, x, h => by
    rcases List.mem_cons.1 h with rfl | h
    · refine ⟨e, List.mem_cons_self .., ?_⟩
      split <;> rfl
    · obtain ⟨y, h1, h2⟩ := setZ_mem h
      exact ⟨y, List.mem_cons_of_mem _ h1, h2⟩

theorem setZ_uniq {t : Nat} {k : IntKind} {z : Int} : ∀ {E : Env}, Uniq E → Uniq (setZ t k z E)
  | [], _ => trivial
  | e :: r, h => by
    refine ⟨fun x hx => ?_, setZ_uniq h.2⟩
    obtain ⟨y, h1, h2⟩ := setZ_mem hx
    have := h.1 y h1
    rw [h2] at this
    intro hx
    refine this (hx.trans ?_)
    split <;> rfl

section
variable {P : Program} {G : Summ}

theorem Rel.setZ {S : Nat → Prop} {w₀ : World} {β₀ : BM} {nt : Nat} {ds : List Deferred} {E : Env} {m : Mem} {a : Act} {w : World} {t s : Nat} {k : IntKind} {v : Int} (h : Rel S w₀ β₀ nt ds E m a w) (he : E.get t = some ⟨s, .sint k v, []⟩) : Rel S w₀ β₀ nt ds (setZ t k v E) m a w := by
  obtain ⟨⟨β, b1, b2, b3, b4⟩, b5, b6⟩ := h
  have hs := get_slot he
  simp only at hs
  subst hs
  have htag : tagsOf (Sim.setZ s k v E) = tagsOf E := by
    funext x
    refine propext ⟨fun ⟨e, h1, h2⟩ => ?_, fun ⟨e, h1, h2⟩ => ?_⟩
    · rw [setZ_get] at h1
      cases hg : E.get x.1 with
      | none => rw [hg] at h1; cases h1
      | some e0 =>
        rw [hg] at h1
        simp only [Option.map_some, Option.some.injEq] at h1
        cases hb : Nat.beq e0.s s with
        | true => rw [hb] at h1; rw [← h1] at h2; cases h2
        | false => rw [hb] at h1; simp only at h1; subst h1; exact ⟨e0, hg, h2⟩
    · refine ⟨e, ?_, h2⟩
      rw [setZ_get, h1]
      simp only [Option.map_some, Option.some.injEq]
      cases hb : Nat.beq e.s s with
      | true =>
        exfalso
        have e1 := get_slot h1
        have e2 := Nat.eq_of_beq_eq_true hb
        rw [e1] at e2
        rw [e2, he] at h1
        cases h1
        cases h2
      | false => rfl
  refine ⟨⟨β, b1, ⟨b2.size, fun t' e hg => ?_⟩, b3, b4⟩, b5, setZ_uniq b6⟩
  rw [htag]
  rw [setZ_get] at hg
  cases hg0 : E.get t' with
  | none => rw [hg0] at hg; cases hg
  | some e0 =>
    rw [hg0] at hg
    simp only [Option.map_some, Option.some.injEq] at hg
    obtain ⟨c, c1, c2, c3⟩ := b2.get t' e0 hg0
    cases hb : Nat.beq e0.s s with
    | false => rw [hb] at hg; simp only at hg; subst hg; exact ⟨c, c1, c2, c3⟩
    | true =>
      rw [hb] at hg
      simp only at hg
      have e1 := get_slot hg0
      have e2 := Nat.eq_of_beq_eq_true hb
      rw [e1] at e2
      subst e2
      rw [he] at hg0
      cases hg0
      subst hg
      refine ⟨c, c1, fun hh => ?_, c3⟩
      have := c2 hh
      cases this with | sc _ _ q =>
      cases q with | sint _ _ q =>
      exact .sc _ _ (.int _ _ q)

theorem splitLR_pick {x : EX} {E : Env} {m : Mem} {t : Nat} {k : IntKind} {v : Int} : ∀ {zs : List Int}, inZs v zs = true → (splitLR x E m t k v zs).pick = (x, setZ t k v E, m)
  | [], h => by cases h
  | [z], h => by
    simp only [inZs, Bool.or_false, decide_eq_true_eq] at h
    subst h
    rfl
  | z :: y :: r, h => by
    simp only [splitLR, LR.pick]
    by_cases hv : v = z
    · subst hv
      rw [if_pos (decide_eq_true rfl)]
    · rw [if_neg (by rw [decide_eq_false hv]; exact Bool.false_ne_true)]
      refine splitLR_pick (zs := y :: r) ?_
      simp only [inZs] at h ⊢
      rw [decide_eq_false hv, Bool.false_or] at h
      exact h

theorem HFun.split (hG : SoundG P G) (hm : P.follows .mixedOrders = true) {n f id t A : Nat} {zs : List Int} (hb : oneBlk P f id = some [(id, blkOf P f id)]) : HFun P A (splitH P G n f id t zs) f := by
  intro fn c hf hc id' b hmem E m cs tt ht hcs S w₀ β₀ ds a w Q hA hrel hq
  have hnt : ntOf P f = fn.ntmps := by unfold ntOf; rw [hf]
  unfold splitH at ht
  split at ht
  · cases ht
  rename_i hid
  have hid := Nat.eq_of_beq_eq_true hid
  subst hid
  have hone : (blks c).filter (fun p => Nat.beq p.1 id') = [(id', blkOf P f id')] := by
    unfold oneBlk at hb
    rw [hf] at hb
    simp only [hc, Option.some.injEq] at hb
    exact hb
  have : (id', b) ∈ (blks c).filter (fun p => Nat.beq p.1 id') := List.mem_filter.2 ⟨hmem, Nat.beq_refl _⟩
  rw [hone] at this
  simp only [List.mem_singleton, Prod.mk.injEq, true_and] at this
  subst this
  split at ht
  · cases ht
  rename_i x E' m' cs' hcode
  split at ht
  rotate_left
  · cases ht
  rename_i s k v hget
  cases ht
  rw [hnt] at hcode
  obtain ⟨_, h3⟩ := codeA_ok hG hm n (noMerge_ok fun r' => r' = (x, E', m', cs')) (HOk.none (.block id' (blkOf P f id')) A) hcode rfl (fun x1 E1 m1 cs1 D1 r' hk hr' q hq' => by
    simp only [Option.some.injEq] at hk
    rw [hr'] at hk
    simp only [Prod.mk.injEq] at hk
    exact hcs q (List.mem_cons_of_mem _ (by rw [← hk.2.2.2]; exact hq')))
  refine (h3 S w₀ β₀ ds a w Q hA hrel fun x1 E1 m1 cs1 D1 r' a' w' hk hr' hrel' => ?_).wp
  simp only [Option.some.injEq] at hk
  rw [hr'] at hk
  simp only [Prod.mk.injEq] at hk
  obtain ⟨rfl, rfl, rfl, _⟩ := hk
  have hp := splitLR_pick (x := x1) (E := E1) (m := m1) (t := t) (k := k) (v := v) (zs := zs) (hcs _ (List.mem_cons_self ..))
  rw [hp] at hq
  exact hq a' w' (hrel'.setZ hget)

end
end Go.Sim

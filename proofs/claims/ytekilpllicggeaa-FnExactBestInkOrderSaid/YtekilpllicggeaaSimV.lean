/-
  Loops: a body looked at once, and where so many rounds lead.
-/
import Derived.Test.YtekilpllicggeaaSimN
namespace Go.Sim

theorem sameEX_eq {x y : EX} (h : sameEX x y = true) : x = y := by
  cases x <;> cases y <;> simp only [sameEX] at h <;> first | rfl | (rw [Nat.eq_of_beq_eq_true h]) | cases h

theorem mgT_ok (p : Pk) : MgOk mgT fun t : Tr => t.ok ∧ t.pick = p := by
  intro base s x y r h hr
  unfold mgT at h
  split at h
  · cases h
    obtain ⟨⟨h1, h2, h3⟩, h4⟩ := hr
    refine ⟨h1, fun hs => ⟨_, rfl, h2 hs, ?_⟩, fun hs => ⟨_, rfl, h3 hs, ?_⟩⟩
    · rw [← h4, hs]; rfl
    · rw [← h4, hs]; rfl
  · cases h

theorem exitT_ok {A : Nat} {E : Env} {M : Mem} {cs : List Bool} {x : EX} : ∀ {k : Nat} {xs : List (EX × List Nat × Frm)} {r : Tr}, exitT A E M cs x k xs = some r →
    ∃ (j : Nat) (ts : List Nat) (F : Frm), xs[j]? = some (x, ts, F) ∧ matchE A ts F E M (fun s => some (Tr.out (k + j) s cs)) = some r
  | _, [], _, h => by cases h
  | k, (x', ts, F) :: xs, r, h => by
    simp only [exitT] at h
    split at h
    · rename_i hx
      have hx := sameEX_eq hx
      subst hx
      split at h
      · rename_i t ht
        cases h
        exact ⟨0, ts, F, rfl, ht⟩
      · obtain ⟨j, ts', F', h1, h2⟩ := exitT_ok h
        exact ⟨j + 1, ts', F', by simpa using h1, by rw [show k + (j + 1) = k + 1 + j by omega]; exact h2⟩
    · obtain ⟨j, ts', F', h1, h2⟩ := exitT_ok h
      exact ⟨j + 1, ts', F', by simpa using h1, by rw [show k + (j + 1) = k + 1 + j by omega]; exact h2⟩

theorem exitLR_pick {id kk : Nat} {s : SV} : ∀ {k : Nat} {xs : List (EX × List Nat × Frm)} {j : Nat} {x : EX} {ts : List Nat} {F : Frm}, xs[j]? = some (x, ts, F) → kk = k + j → (exitLR id kk s k xs).pick = (blkX id x, mkE ts (mkVs s 0 0 F.vals), mkM F s)
  | _, [], j, _, _, _, h, _ => by simp at h
  | k, [(x', ts', F')], j, x, ts, F, h, hk => by
    cases j with
    | zero => simp only [List.getElem?_cons_zero, Option.some.injEq, Prod.mk.injEq] at h; obtain ⟨rfl, rfl, rfl⟩ := h; rfl
    | succ j => simp at h
  | k, (x', ts', F') :: y :: r, j, x, ts, F, h, hk => by
    cases j with
    | zero =>
      simp only [List.getElem?_cons_zero, Option.some.injEq, Prod.mk.injEq] at h
      obtain ⟨rfl, rfl, rfl⟩ := h
      have : Nat.beq kk k = true := by rw [hk]; exact Nat.beq_refl _
      simp only [exitLR, LR.pick, this, if_true]
    | succ j =>
      have : Nat.beq kk k = false := by
        cases hb : Nat.beq kk k with
        | false => rfl
        | true => have := Nat.eq_of_beq_eq_true hb; omega
      simp only [exitLR, LR.pick, this, Bool.false_eq_true, if_false]
      exact exitLR_pick (k := k + 1) (by simpa using h) (by omega)

theorem blkX_out (id : Nat) (x : EX) (Q : Exit → Act → World → Prop) (a : Act) (w : World) (h : Q (blkX id x).out a w) : Exit.inBlock id Q x.out a w := by
  cases x with
  | normal => exact h
  | ret => exact h
  | exit i =>
    simp only [blkX] at h
    split at h
    · rename_i hb
      have hb := Nat.eq_of_beq_eq_true hb
      subst hb
      simp only [EX.out, Exit.inBlock, if_true]
      exact h
    · rename_i hb
      have hne : i ≠ id := fun e => by rw [e, Nat.beq_refl] at hb; cases hb
      simp only [EX.out, Exit.inBlock, hne, if_false]
      exact h

section
variable {P : Program} {G : Summ} {nt : Nat}

/-- So many rounds. -/
theorem rounds_ok (hG : SoundG P G) (hm : P.follows .mixedOrders = true) {H : LTab} {J : Bool} {n : Nat} {L : LP} {bd : Code} {T : SV → Tr} {pre : SV → List Bool} {μ : SV → Nat}
    (hH : HOk P nt L.A H bd) (hts : nodupN L.ts = true) (hxs : ∀ x ∈ L.xs, nodupN x.2.1 = true) (hT : ∀ s, stepT P G nt H J n L bd s = some (T s))
    (hgo : ∀ s, (∀ b ∈ pre s, b = true) → (T s).ok ∧ ∀ s', (T s).pick = .next s' → (∀ b ∈ pre s', b = true) ∧ μ s' < μ s)
    {S : Nat → Prop} {w₀ : World} {β₀ : BM} {ds : List Deferred} (hA : ∀ i, L.A ≤ i → β₀ i = none) {Q : Exit → Act → World → Prop} : ∀ (N : Nat) (s : SV), μ s < N → (∀ b ∈ pre s, b = true) → ∀ a w, Rel S w₀ β₀ nt ds (L.E s) (L.M s) a w →
    (∀ k s' x ts F, runT T N s = (k, s') → L.xs[k]? = some (x, ts, F) → ∀ a' w', Rel S w₀ β₀ nt ds (mkE ts (mkVs s' 0 0 F.vals)) (mkM F s') a' w' → Q x.out a' w') → Code.rounds P bd Q N a w := by
  intro N
  induction N with
  | zero => intro s h; omega
  | succ N ih =>
    intro s hμ hpre a w hrel hq
    obtain ⟨g1, g2⟩ := hgo s hpre
    have hs := hT s
    unfold stepT at hs
    show Code.rounds P bd Q (N + 1) a w
    refine ((codeA_ok hG hm n (mgT_ok (T s).pick) hH hs ⟨g1, rfl⟩ ?_).2 S w₀ β₀ ds a w (Exit.then (Code.rounds P bd Q N) Q) hA hrel ?_).wp
    · intro x E m cs D r h hr
      have out : ∀ {r : Tr}, exitT L.A E m cs x 0 L.xs = some r → r.ok → ∀ b ∈ cs, b = true := by
        intro r h hr
        obtain ⟨j, ts, F, _, h2⟩ := exitT_ok h
        obtain ⟨s', h3, _⟩ := Rel.frame (nt := nt) (β₀ := fun _ => none) h2 (hxs _ (List.mem_of_getElem? (by assumption))) (fun _ _ => rfl)
        cases h3
        exact hr
      cases x with
      | normal =>
        obtain ⟨s', h3, _⟩ := Rel.frame (nt := nt) (β₀ := fun _ => none) h hts (fun _ _ => rfl)
        cases h3
        exact hr.1
      | exit i => exact out h hr.1
      | ret => exact out h hr.1
    · intro x E m cs D r a' w' h hr hrel'
      have out : ∀ {r : Tr}, exitT L.A E m cs x 0 L.xs = some r → r.ok ∧ r.pick = (T s).pick → Q x.out a' w' := by
        intro r h hr
        obtain ⟨j, ts, F, h1, h2⟩ := exitT_ok h
        obtain ⟨s', h3, h4⟩ := Rel.frame (nt := nt) (β₀ := β₀) h2 (hxs _ (List.mem_of_getElem? h1)) hA
        cases h3
        rw [Nat.zero_add] at hr
        refine hq j s' x ts F ?_ h1 a' w' (h4 hrel')
        simp only [runT, ← hr.2, Tr.pick]
      cases x with
      | normal =>
        obtain ⟨s', h3, h4⟩ := Rel.frame (nt := nt) (β₀ := β₀) h hts hA
        cases h3
        obtain ⟨k1, k2⟩ := g2 s' (by rw [← hr.2]; rfl)
        refine ih s' (by omega) k1 a' w' (h4 hrel') fun k s'' x ts F hrun hx a'' w'' hrel'' => hq k s'' x ts F ?_ hx a'' w'' hrel''
        simp only [runT, ← hr.2, Tr.pick]
        exact hrun
      | exit i => exact out h hr
      | ret => exact out h hr

/-- What leaves a loop, leaves it somewhere. -/
theorem runT_lt {T : SV → Tr} {pre : SV → List Bool} {μ : SV → Nat} {n : Nat} (hgo : ∀ s, (∀ b ∈ pre s, b = true) → (∀ k s', (T s).pick = .out k s' → k < n) ∧ ∀ s', (T s).pick = .next s' → (∀ b ∈ pre s', b = true) ∧ μ s' < μ s) : ∀ (N : Nat) (s : SV), μ s < N → (∀ b ∈ pre s, b = true) → (runT T N s).1 < n := by
  intro N
  induction N with
  | zero => intro s h; omega
  | succ N ih =>
    intro s hμ hpre
    obtain ⟨g1, g2⟩ := hgo s hpre
    simp only [runT]
    split
    · rename_i s' hs
      obtain ⟨k1, k2⟩ := g2 s' hs
      exact ih s' (by omega) k1
    · rename_i k s' hs
      exact g1 k s' hs

/-- A loop's summary holds. -/
theorem hookL_ok (hG : SoundG P G) (hm : P.follows .mixedOrders = true) {H : LTab} {J : Bool} {n : Nat} {L : LP} {bd : Code} {id : Nat} {T : SV → Tr} {pre : SV → List Bool} {μ : SV → Nat}
    (hH : HOk P nt L.A H bd) (hts : nodupN L.ts = true) (hxs : ∀ x ∈ L.xs, nodupN x.2.1 = true) (hT : ∀ s, stepT P G nt H J n L bd s = some (T s))
    (hgo : ∀ s, (∀ b ∈ pre s, b = true) → (T s).ok ∧ (∀ k s', (T s).pick = .out k s' → k < L.xs.length) ∧ ∀ s', (T s).pick = .next s' → (∀ b ∈ pre s', b = true) ∧ μ s' < μ s) :
    BlkOk P nt L.A H id (.loop bd) → BlkOk P nt L.A (hookL id L pre (fun s => runT T (μ s + 1) s) H) id (.loop bd) := by
  intro hold E m cs t ht hcs S w₀ β₀ ds a w Q hA hrel hq
  unfold hookL at ht
  rw [Nat.beq_refl] at ht
  simp only at ht
  split at ht
  rotate_left
  · exact hold E m cs t ht hcs S w₀ β₀ ds a w Q hA hrel hq
  rename_i r hr
  cases ht
  obtain ⟨s, h1, h2⟩ := Rel.frame (nt := nt) (β₀ := β₀) hr hts hA
  cases h1
  refine wp_block (wp_loop_rounds (μ s + 1) (rounds_ok hG hm hH hts hxs hT (fun s hs => ⟨(hgo s hs).1, (hgo s hs).2.2⟩) hA (μ s + 1) s (by omega) hcs a w (h2 hrel) ?_))
  intro k s' x ts F hrun hx a' w' hrel'
  refine blkX_out id x Q a' w' ?_
  have hp := exitLR_pick (id := id) (kk := k) (s := s') (k := 0) hx (by omega)
  rw [hrun, hp] at hq
  exact hq a' w' hrel'

theorem blks_sub : ∀ {c : Code} {id : Nat} {b : Code}, (id, b) ∈ blks c → ∀ p ∈ blks b, p ∈ blks c := by
  intro c
  induction c <;> intro id b h p hp <;> simp only [blks, List.not_mem_nil] at h
  case seq a b iha ihb =>
    rcases List.mem_append.1 h with h | h
    · exact List.mem_append_left _ (iha h p hp)
    · exact List.mem_append_right _ (ihb h p hp)
  case cond c a b iha ihb =>
    rcases List.mem_append.1 h with h | h
    · exact List.mem_append_left _ (iha h p hp)
    · exact List.mem_append_right _ (ihb h p hp)
  case block i b ih =>
    rcases List.mem_cons.1 h with h | h
    · cases h; exact List.mem_cons_of_mem _ hp
    · exact List.mem_cons_of_mem _ (ih h p hp)
  case loop b ih => exact ih h p hp

/-- The block of this name, of a function's body. -/
def oneBlk (P : Program) (f id : Nat) : Option (List (Nat × Code)) :=
  match P.funcs[f]? with
  | some fn => match fn.body with
    | some c => some ((blks c).filter fun p => Nat.beq p.1 id)
    | none => none
  | none => none

theorem HFun.loop (hG : SoundG P G) (hm : P.follows .mixedOrders = true) {H : LTab} {J : Bool} {n f id : Nat} {L : LP} {T : SV → Tr} {pre : SV → List Bool} {μ : SV → Nat} (hH : HFun P L.A H f)
    (hb : oneBlk P f id = some [(id, .loop (loopOf P f id))]) (hts : nodupN L.ts = true) (hxs : (L.xs.all fun x => nodupN x.2.1) = true) (hT : ∀ s, stepT P G (ntOf P f) H J n L (loopOf P f id) s = some (T s))
    (hgo : ∀ s, (∀ b ∈ pre s, b = true) → (T s).ok ∧ (∀ k s', (T s).pick = .out k s' → k < L.xs.length) ∧ ∀ s', (T s).pick = .next s' → (∀ b ∈ pre s', b = true) ∧ μ s' < μ s) :
    HFun P L.A (hookL id L pre (fun s => runT T (μ s + 1) s) H) f := by
  intro fn c hf hc id' b hmem
  have hnt : ntOf P f = fn.ntmps := by unfold ntOf; rw [hf]
  have hone : (blks c).filter (fun p => Nat.beq p.1 id) = [(id, .loop (loopOf P f id))] := by
    unfold oneBlk at hb
    rw [hf] at hb
    simp only [hc, Option.some.injEq] at hb
    exact hb
  by_cases he : id' = id
  · subst he
    have : (id', b) ∈ (blks c).filter (fun p => Nat.beq p.1 id') := List.mem_filter.2 ⟨hmem, Nat.beq_refl _⟩
    rw [hone] at this
    simp only [List.mem_singleton, Prod.mk.injEq, true_and] at this
    subst this
    rw [hnt] at hT
    refine hookL_ok hG hm (fun i b' hb' => ?_) hts (fun x hx => List.all_eq_true.1 hxs x hx) hT hgo (hH fn c hf hc _ _ hmem)
    have := blks_sub hmem (i, b') (by simpa only [blks] using hb')
    exact hH fn c hf hc i b' this
  · intro E m cs t ht
    have hne : Nat.beq id' id = false := by
      cases hq : Nat.beq id' id with
      | false => rfl
      | true => exact absurd (Nat.eq_of_beq_eq_true hq) he
    unfold hookL at ht
    rw [hne] at ht
    exact hH fn c hf hc id' b hmem E m cs t ht

/-! ### A block looked at once -/

theorem hookB_ok (hG : SoundG P G) (hm : P.follows .mixedOrders = true) {H : LTab} {J : Bool} {n : Nat} {L : LP} {b : Code} {id : Nat} {T : SV → Tr} {pre : SV → List Bool}
    (hH : HOk P nt L.A H b) (hts : nodupN L.ts = true) (hxs : ∀ x ∈ L.xs, nodupN x.2.1 = true) (hT : ∀ s, stepB P G nt H J n L b s = some (T s)) (hgo : ∀ s, (∀ b ∈ pre s, b = true) → (T s).ok) :
    BlkOk P nt L.A H id b → BlkOk P nt L.A (hookL id L pre (fun s => endT (T s)) H) id b := by
  intro hold E m cs t ht hcs S w₀ β₀ ds a w Q hA hrel hq
  unfold hookL at ht
  rw [Nat.beq_refl] at ht
  simp only at ht
  split at ht
  rotate_left
  · exact hold E m cs t ht hcs S w₀ β₀ ds a w Q hA hrel hq
  rename_i r hr
  cases ht
  obtain ⟨s, h1, h2⟩ := Rel.frame (nt := nt) (β₀ := β₀) hr hts hA
  cases h1
  have hs := hT s
  unfold stepB at hs
  have hout : ∀ {x : EX} {E : Env} {m : Mem} {cs : List Bool} {r : Tr}, exitT L.A E m cs x 0 L.xs = some r → r.ok → ∀ b ∈ cs, b = true := by
    intro x E m cs r h hr
    obtain ⟨j, ts, F, h1, h2⟩ := exitT_ok h
    obtain ⟨s', h3, _⟩ := Rel.frame (nt := nt) (β₀ := fun _ => none) h2 (hxs _ (List.mem_of_getElem? h1)) (fun _ _ => rfl)
    cases h3
    exact hr
  refine wp_block ((codeA_ok hG hm n (mgT_ok (T s).pick) hH hs ⟨hgo s hcs, rfl⟩ (fun x E m cs D r h hr => hout h hr.1)).2 S w₀ β₀ ds a w (Exit.inBlock id Q) hA (h2 hrel) ?_).wp
  intro x E' m' cs' D' r' a' w' h hr' hrel'
  obtain ⟨j, ts, F, h1, h3⟩ := exitT_ok h
  obtain ⟨s', h4, h5⟩ := Rel.frame (nt := nt) (β₀ := β₀) h3 (hxs _ (List.mem_of_getElem? h1)) hA
  cases h4
  refine blkX_out id x Q a' w' ?_
  have he : endT (T s) = (j, s') := by
    unfold endT
    rw [← hr'.2]
    simp only [Tr.pick, Nat.zero_add]
  have hp := exitLR_pick (id := id) (kk := j) (s := s') (k := 0) h1 (by omega)
  rw [he, hp] at hq
  exact hq a' w' (h5 hrel')

theorem HFun.blk (hG : SoundG P G) (hm : P.follows .mixedOrders = true) {H : LTab} {J : Bool} {n f id : Nat} {L : LP} {T : SV → Tr} {pre : SV → List Bool} (hH : HFun P L.A H f)
    (hb : oneBlk P f id = some [(id, blkOf P f id)]) (hts : nodupN L.ts = true) (hxs : (L.xs.all fun x => nodupN x.2.1) = true) (hT : ∀ s, stepB P G (ntOf P f) H J n L (blkOf P f id) s = some (T s))
    (hgo : ∀ s, (∀ b ∈ pre s, b = true) → (T s).ok) :
    HFun P L.A (hookL id L pre (fun s => endT (T s)) H) f := by
  intro fn c hf hc id' b hmem
  have hnt : ntOf P f = fn.ntmps := by unfold ntOf; rw [hf]
  have hone : (blks c).filter (fun p => Nat.beq p.1 id) = [(id, blkOf P f id)] := by
    unfold oneBlk at hb
    rw [hf] at hb
    simp only [hc, Option.some.injEq] at hb
    exact hb
  by_cases he : id' = id
  · subst he
    have : (id', b) ∈ (blks c).filter (fun p => Nat.beq p.1 id') := List.mem_filter.2 ⟨hmem, Nat.beq_refl _⟩
    rw [hone] at this
    simp only [List.mem_singleton, Prod.mk.injEq, true_and] at this
    subst this
    rw [hnt] at hT
    exact hookB_ok hG hm (fun i b' hb' => hH fn c hf hc i b' (blks_sub hmem (i, b') hb')) hts (fun x hx => List.all_eq_true.1 hxs x hx) hT hgo (hH fn c hf hc _ _ hmem)
  · intro E m cs t ht
    have hne : Nat.beq id' id = false := by
      cases hq : Nat.beq id' id with
      | false => rfl
      | true => exact absurd (Nat.eq_of_beq_eq_true hq) he
    unfold hookL at ht
    rw [hne] at ht
    exact hH fn c hf hc id' b hmem E m cs t ht

end
end Go.Sim

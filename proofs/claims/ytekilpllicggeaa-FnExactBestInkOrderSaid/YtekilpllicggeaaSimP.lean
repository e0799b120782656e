/-
  A region; code.
-/
import Derived.Test.YtekilpllicggeaaSimKb
namespace Go.Sim

section
variable {P : Program} {G : Summ} {S : Nat → Prop} {w₀ w : World} {β β₀ : BM} {m : Mem} {nt : Nat} {E : Env} {a : Act} {ds : List Deferred} {R : Type}

/-- A region. -/
theorem region_ok (hG : SoundG P G) (hm : P.follows .mixedOrders = true) {mg : List Bool → Bool → Option R → Option R → Option R} {Sat : R → Prop} (hmg : MgOk mg Sat) {id : Nat} {draw : Bool} {ops : Array Oper} {cs D : List Bool} {k : Env → Mem → List Bool → List Bool → Option R} {r : R} (h : regionA P G nt mg draw ops E m cs D k = some r) (hr : Sat r)
    (hk : ∀ E m cs D r, k E m cs D = some r → Sat r → ∀ b ∈ cs, b = true) :
    (∀ b ∈ cs, b = true) ∧ ∀ a w (Q : Exit → Act → World → Prop), Rel S w₀ β₀ nt ds E m a w → (∀ E' m' cs' D' r' a' w', k E' m' cs' D' = some r' → Sat r' → Rel S w₀ β₀ nt ds E' m' a' w' → Q .normal a' w') → (Code.region id ops draw).wp P Q a w := by
  unfold regionA at h
  split at h
  · obtain ⟨h1, h2⟩ := opsA_ok (S := S) (w₀ := w₀) (β₀ := β₀) (ds := ds) hG hmg _ h hr fun E m cs D r h' hr' => by
      obtain ⟨E', h2, _⟩ := plainK_uniq h'
      exact hk _ _ _ _ _ h2 hr'
    refine ⟨h1, fun a w Q hrel hq => wp_region_list (h2 a w Q hrel fun E' m' cs' D' r' a' w' h' hr' hrel' => ?_)⟩
    obtain ⟨E'', h3, he, hu⟩ := plainK_uniq h'
    exact hq _ _ _ _ _ _ _ h3 hr' (hrel'.plain he (hu hrel'.uniq))
  · split at h
    · rename_i hs
      obtain ⟨E0, h0, he0, hu0⟩ := plainK_uniq h
      obtain ⟨E1, m1, cs1, h1, hc1, hs1⟩ := draw_ok (S := S) (w₀ := w₀) (β₀ := β₀) (ds := ds) (id := id) hG hm hs (fun e he => (he0 e he).2) h0
      obtain ⟨E', h2, he, hu⟩ := plainK_uniq h1
      have hcs := hk _ _ _ _ _ h2 hr
      exact ⟨fun b hb => hcs b (hc1 b hb), fun a w Q hrel hq => hs1 hcs a w Q (hrel.plain he0 (hu0 hrel.uniq)) fun a' w' hr' => hq _ _ _ _ _ _ _ h2 hr (hr'.plain he (hu hr'.uniq))⟩
    · cases h

/-! ### Code -/

def EX.out : EX → Exit
  | .normal => .normal
  | .exit id => .exit id
  | .ret => .ret

/-- What is shown of a piece of code; of a loop, in so many rounds. -/
def WPN (P : Program) (N : Nat) (c : Code) (Q : Exit → Act → World → Prop) (a : Act) (w : World) : Prop :=
  match c with
  | .loop b => Code.rounds P b Q N a w
  | c => c.wp P Q a w

theorem WPN.wp {N : Nat} {c : Code} {Q : Exit → Act → World → Prop} (h : WPN P N c Q a w) : c.wp P Q a w := by
  cases c <;> first | exact h | exact wp_loop_rounds N h

/-- A continuation's outcome bears what must be true so far. -/
def KOk (Sat : R → Prop) (k : EX → Env → Mem → List Bool → List Bool → Option R) : Prop :=
  ∀ x E m cs D r, k x E m cs D = some r → Sat r → ∀ b ∈ cs, b = true

/-! ### Two outcomes brought together -/

theorem mergeL1_ok {β : BM} {s : Bool} : ∀ {x y z : List AV}, mergeL1 s x y = some z → (∀ c, s = true → SRs β x c → SRs β z c) ∧ (∀ c, s = false → SRs β y c → SRs β z c)
  | [], [], z, h => by cases h; exact ⟨fun c _ hc => hc, fun c _ hc => hc⟩
  | x :: r, [], z, h => by cases h
  | [], y :: r', z, h => by cases h
  | x :: r, y :: r', z, h => by
    simp only [mergeL1] at h
    split at h
    · rename_i v l h1 h2
      cases h
      have e1 := merge1_ok (β := β) h1
      have e2 := mergeL1_ok (β := β) h2
      exact ⟨fun c hs hc => by cases hc with | cons _ _ _ _ a b => exact .cons _ _ _ _ (e1.1 _ hs a) (e2.1 _ hs b), fun c hs hc => by cases hc with | cons _ _ _ _ a b => exact .cons _ _ _ _ (e1.2 _ hs a) (e2.2 _ hs b)⟩
    · cases h

theorem merge1_sc {β : BM} {s : Bool} {x y z : AV} (h : merge1 s x y = some z) : (∀ c, s = true → VR β x c → VR β z c) ∧ (∀ c, s = false → VR β y c → VR β z c) := by
  have e := merge1_ok (β := β) h
  have nx : (∀ l, x ≠ .agg l) ∧ (∀ l, x ≠ .tup l) ∧ (∀ l, y ≠ .agg l) ∧ (∀ l, y ≠ .tup l) := by
    refine ⟨?_, ?_, ?_, ?_⟩ <;> intro l hl <;> subst hl <;> first | (cases h; done) | (cases x <;> cases h)
  refine ⟨fun c hs hc => ?_, fun c hs hc => ?_⟩
  · cases hc with
    | sc _ _ hc => exact .sc _ _ (e.1 _ hs hc)
    | agg l _ _ => exact absurd rfl (nx.1 l)
    | tup l _ _ => exact absurd rfl (nx.2.1 l)
  · cases hc with
    | sc _ _ hc => exact .sc _ _ (e.2 _ hs hc)
    | agg l _ _ => exact absurd rfl (nx.2.2.1 l)
    | tup l _ _ => exact absurd rfl (nx.2.2.2 l)

theorem merge2_ok {β : BM} {s : Bool} {x y z : AV} (h : merge2 s x y = some z) : (∀ c, s = true → VR β x c → VR β z c) ∧ (∀ c, s = false → VR β y c → VR β z c) := by
  unfold merge2 at h
  split at h
  · split at h
    · rename_i l hl
      cases h
      have e := mergeL1_ok (β := β) hl
      exact ⟨fun c hs hc => by cases hc with | sc _ _ hc => cases hc | agg _ _ hc => exact .agg _ _ (e.1 _ hs hc), fun c hs hc => by cases hc with | sc _ _ hc => cases hc | agg _ _ hc => exact .agg _ _ (e.2 _ hs hc)⟩
    · cases h
  · exact merge1_sc h

theorem mergeL2_ok {β : BM} {s : Bool} : ∀ {x y z : List AV}, mergeL2 s x y = some z → (∀ c, s = true → VRs β x c → VRs β z c) ∧ (∀ c, s = false → VRs β y c → VRs β z c)
  | [], [], z, h => by cases h; exact ⟨fun c _ hc => hc, fun c _ hc => hc⟩
  | x :: r, [], z, h => by cases h
  | [], y :: r', z, h => by cases h
  | x :: r, y :: r', z, h => by
    simp only [mergeL2] at h
    split at h
    · rename_i v l h1 h2
      cases h
      have e1 := merge2_ok (β := β) h1
      have e2 := mergeL2_ok (β := β) h2
      exact ⟨fun c hs hc => by cases hc with | cons _ _ _ _ a b => exact .cons _ _ _ _ (e1.1 _ hs a) (e2.1 _ hs b), fun c hs hc => by cases hc with | cons _ _ _ _ a b => exact .cons _ _ _ _ (e1.2 _ hs a) (e2.2 _ hs b)⟩
    · cases h

theorem mergeA_ok {β : BM} {s : Bool} {x y z : AV} (h : mergeA s x y = some z) : (∀ c, s = true → VR β x c → VR β z c) ∧ (∀ c, s = false → VR β y c → VR β z c) := by
  unfold mergeA at h
  split at h
  · split at h
    · rename_i l hl
      cases h
      have e := mergeL2_ok (β := β) hl
      exact ⟨fun c hs hc => by cases hc with | sc _ _ hc => cases hc | tup _ _ hc => exact .tup _ _ (e.1 _ hs hc), fun c hs hc => by cases hc with | sc _ _ hc => cases hc | tup _ _ hc => exact .tup _ _ (e.2 _ hs hc)⟩
    · cases h
  · exact merge2_ok h

theorem mergeC_ok {s : Bool} {x y : List Bool} (h : ∀ b ∈ mergeC s x y, b = true) : (s = true → ∀ b ∈ x, b = true) ∧ (s = false → ∀ b ∈ y, b = true) := by
  induction x with
  | nil =>
    refine ⟨fun _ b hb => by simp at hb, fun hs b hb => ?_⟩
    have := h (s || b) (by simp only [mergeC, List.mem_map]; exact ⟨b, hb, rfl⟩)
    rw [hs] at this
    simpa using this
  | cons a r ih =>
    have ih := ih fun b hb => h b (List.mem_cons_of_mem _ hb)
    refine ⟨fun hs b hb => ?_, ih.2⟩
    rcases List.mem_cons.1 hb with rfl | hb
    · have := h _ (List.mem_cons_self ..)
      rw [hs] at this
      simpa using this
    · exact ih.1 hs b hb

theorem mergeV_ok (v : AV) : MgOk mergeV fun r : AV × List Bool => (∀ b ∈ r.2, b = true) ∧ ∀ β c, VR β r.1 c → VR β v c := by
  intro base s o1 o2 r h hr
  unfold mergeV at h
  split at h
  · rename_i v1 cs1 v2 cs2
    split at h
    · rename_i u hu
      rw [appendK_eq] at h
      cases h
      obtain ⟨h1, h2⟩ := hr
      have hc := mergeC_ok (s := s) (x := cs1) (y := cs2) fun b hb => h1 b (List.mem_append_left _ hb)
      exact ⟨fun b hb => h1 b (List.mem_append_right _ hb), fun hs => ⟨_, rfl, hc.1 hs, fun β c hv => h2 β c ((mergeA_ok hu).1 c hs hv)⟩, fun hs => ⟨_, rfl, hc.2 hs, fun β c hv => h2 β c ((mergeA_ok hu).2 c hs hv)⟩⟩
    · cases h
  · cases h

/-! ### A block's summary -/

/-- How it ends. -/
def LR.pick : LR → EX × Env × Mem
  | .leaf x E m => (x, E, m)
  | .node s a b => if s then a.pick else b.pick

/-- All blocks of a piece of code. -/
def blks : Code → List (Nat × Code)
  | .seq a b => blks a ++ blks b
  | .cond _ a b => blks a ++ blks b
  | .block id b => (id, b) :: blks b
  | .loop b => blks b
  | _ => []

/-- What a summary says of a block, the block does. 'A': how many blocks of memory came with the call. -/
def BlkOk (P : Program) (nt A : Nat) (H : LTab) (id : Nat) (b : Code) : Prop :=
  ∀ E m cs t, H id E m = some (cs, t) → (∀ b ∈ cs, b = true) → ∀ S w₀ β₀ ds a w (Q : Exit → Act → World → Prop), (∀ i, A ≤ i → β₀ i = none) → Rel S w₀ β₀ nt ds E m a w →
    (∀ a' w', Rel S w₀ β₀ nt ds t.pick.2.1 t.pick.2.2 a' w' → Q t.pick.1.out a' w') → (Code.block id b).wp P Q a w

def HOk (P : Program) (nt A : Nat) (H : LTab) (c : Code) : Prop := ∀ id b, (id, b) ∈ blks c → BlkOk P nt A H id b

theorem HOk.none (c : Code) (A : Nat) : HOk P nt A noLT c := fun _ _ _ _ _ _ _ h => by cases h

theorem lrA_ok {mg : List Bool → Bool → Option R → Option R → Option R} {Sat : R → Prop} (hmg : MgOk mg Sat) {k : EX → Env → Mem → List Bool → List Bool → Option R} (hk : KOk Sat k) : ∀ {t : LR} {cs D : List Bool} {r : R}, lrA mg t cs D k = some r → Sat r →
    (∀ b ∈ cs, b = true) ∧ ∃ cs' D' r', k t.pick.1 t.pick.2.1 t.pick.2.2 cs' D' = some r' ∧ Sat r'
  | .leaf x E m, cs, D, r, h, hr => by
    simp only [lrA, forceK_eq] at h
    exact ⟨hk _ _ _ _ _ _ h hr, cs, D, r, h, hr⟩
  | .node s a b, cs, [], r, h, hr => by
    simp only [lrA] at h
    obtain ⟨m0, m1, m2⟩ := hmg _ s _ _ _ h hr
    refine ⟨m0, ?_⟩
    cases s with
    | true =>
      obtain ⟨r1, h1, hr1⟩ := m1 rfl
      exact (lrA_ok hmg hk h1 hr1).2
    | false =>
      obtain ⟨r1, h1, hr1⟩ := m2 rfl
      exact (lrA_ok hmg hk h1 hr1).2
  | .node s a b, cs, true :: D, r, h, hr => by
    simp only [lrA] at h
    obtain ⟨g1, g2⟩ := lrA_ok hmg hk h hr
    have hs := g1 s (List.mem_cons_self ..)
    subst hs
    exact ⟨fun b hb => g1 b (List.mem_cons_of_mem _ hb), g2⟩
  | .node s a b, cs, false :: D, r, h, hr => by
    simp only [lrA] at h
    obtain ⟨g1, g2⟩ := lrA_ok hmg hk h hr
    have hs := g1 (!s) (List.mem_cons_self ..)
    have hs : s = false := by simpa using hs
    subst hs
    exact ⟨fun b hb => g1 b (List.mem_cons_of_mem _ hb), g2⟩

/-! ### Two ways brought together behind a test -/

theorem env_get_cons {e : Ent} {r : Env} {t : Nat} : Env.get (e :: r) t = if e.s = t then some e else Env.get r t := by
  simp only [Env.get]
  split
  · rename_i h; rw [if_pos (Nat.eq_of_beq_eq_true h)]
  · rename_i h; rw [if_neg (fun he => by rw [he, Nat.beq_refl] at h; cases h)]

theorem env_get_s : ∀ {E : Env} {t : Nat} {e : Ent}, E.get t = some e → e.s = t
  | [], _, _, h => by simp [Env.get] at h
  | a :: r, t, e, h => by
    rw [env_get_cons] at h
    split at h
    · rename_i hs; cases h; exact hs
    · exact env_get_s h

/-- .. of 'L'; the others as 'E0' tells them. -/
def SubK (n : Nat) (L : List Nat) (E0 E E' : Env) : Prop := ∀ t e, E'.get t = some e → (natMem t L = false ∧ E0.get t = some e) ∨ (natMem t L = true ∧ e.tg = [] ∧ inBt n e.v = true ∧ ∃ e', E.get t = some e' ∧ e'.tg = [] ∧ ∀ (β : BM) (c : Value), VR β e'.v c → VR β e.v c)

theorem joinE_pure {R : Type} {n : Nat} {L : List Nat} {s : Bool} {E1 E2 : Env} : ∀ (E0 : Env), ∃ E', (∀ k : Env → Option R, joinE n L s E1 E2 E0 k = k E') ∧ (∀ x ∈ E', ∃ e ∈ E0, e.s = x.s) ∧ (Uniq E0 → Uniq E') ∧
    (∀ x ∈ E', (natMem x.s L = false ∧ x ∈ E0) ∨ (natMem x.s L = true ∧ x.tg = [] ∧ inBt n x.v = true ∧ ∃ u1 v1 u2 v2, E1.get x.s = some ⟨u1, v1, []⟩ ∧ E2.get x.s = some ⟨u2, v2, []⟩ ∧ mergeA s v1 v2 = some x.v)) ∧ (∀ t, natMem t L = false → E'.get t = E0.get t)
  | [] => ⟨[], fun _ => rfl, fun x hx => by simp at hx, fun _ => trivial, fun x hx => by simp at hx, fun _ _ => rfl⟩
  | e :: E0 => by
    obtain ⟨E1', g0, g1, g2, g3, g4⟩ := joinE_pure (R := R) (n := n) (L := L) (s := s) (E1 := E1) (E2 := E2) E0
    have skip : natMem e.s L = true → (∀ k : Env → Option R, joinE n L s E1 E2 (e :: E0) k = joinE n L s E1 E2 E0 k) → ∃ E', (∀ k : Env → Option R, joinE n L s E1 E2 (e :: E0) k = k E') ∧ (∀ x ∈ E', ∃ y ∈ e :: E0, y.s = x.s) ∧ (Uniq (e :: E0) → Uniq E') ∧
        (∀ x ∈ E', (natMem x.s L = false ∧ x ∈ e :: E0) ∨ (natMem x.s L = true ∧ x.tg = [] ∧ inBt n x.v = true ∧ ∃ u1 v1 u2 v2, E1.get x.s = some ⟨u1, v1, []⟩ ∧ E2.get x.s = some ⟨u2, v2, []⟩ ∧ mergeA s v1 v2 = some x.v)) ∧ (∀ t, natMem t L = false → E'.get t = Env.get (e :: E0) t) := by
      intro hm hk
      refine ⟨E1', fun k => (hk k).trans (g0 k), fun x hx => let ⟨y, hy, hs⟩ := g1 x hx; ⟨y, List.mem_cons_of_mem _ hy, hs⟩, fun hu => g2 hu.2, fun x hx => ?_, fun t ht => ?_⟩
      · rcases g3 x hx with ⟨q1, q2⟩ | q
        · exact .inl ⟨q1, List.mem_cons_of_mem _ q2⟩
        · exact .inr q
      · rw [env_get_cons, if_neg (fun h => by rw [h, ht] at hm; cases hm)]
        exact g4 t ht
    have put : ∀ x : Ent, x.s = e.s → ((natMem x.s L = false ∧ x = e) ∨ (natMem x.s L = true ∧ x.tg = [] ∧ inBt n x.v = true ∧ ∃ u1 v1 u2 v2, E1.get x.s = some ⟨u1, v1, []⟩ ∧ E2.get x.s = some ⟨u2, v2, []⟩ ∧ mergeA s v1 v2 = some x.v)) →
        (∀ k : Env → Option R, joinE n L s E1 E2 (e :: E0) k = joinE n L s E1 E2 E0 fun r' => k (x :: r')) → ∃ E', (∀ k : Env → Option R, joinE n L s E1 E2 (e :: E0) k = k E') ∧ (∀ x ∈ E', ∃ y ∈ e :: E0, y.s = x.s) ∧ (Uniq (e :: E0) → Uniq E') ∧
        (∀ x ∈ E', (natMem x.s L = false ∧ x ∈ e :: E0) ∨ (natMem x.s L = true ∧ x.tg = [] ∧ inBt n x.v = true ∧ ∃ u1 v1 u2 v2, E1.get x.s = some ⟨u1, v1, []⟩ ∧ E2.get x.s = some ⟨u2, v2, []⟩ ∧ mergeA s v1 v2 = some x.v)) ∧ (∀ t, natMem t L = false → E'.get t = Env.get (e :: E0) t) := by
      intro x hxs hx hk
      refine ⟨x :: E1', fun k => (hk k).trans (g0 _), fun y hy => ?_, fun hu => ⟨fun y hy => ?_, g2 hu.2⟩, fun y hy => ?_, fun t ht => ?_⟩
      · rcases List.mem_cons.1 hy with rfl | hy
        · exact ⟨e, List.mem_cons_self .., hxs.symm⟩
        · obtain ⟨z, hz, hs⟩ := g1 y hy
          exact ⟨z, List.mem_cons_of_mem _ hz, hs⟩
      · obtain ⟨z, hz, hs⟩ := g1 y hy
        rw [← hs, hxs]
        exact hu.1 z hz
      · rcases List.mem_cons.1 hy with rfl | hy
        · rcases hx with ⟨q1, q2⟩ | q
          · exact .inl ⟨q1, by rw [q2]; exact List.mem_cons_self ..⟩
          · exact .inr q
        · rcases g3 y hy with ⟨q1, q2⟩ | q
          · exact .inl ⟨q1, List.mem_cons_of_mem _ q2⟩
          · exact .inr q
      · rw [env_get_cons, env_get_cons, hxs]
        by_cases h : e.s = t
        · rw [if_pos h, if_pos h]
          rcases hx with ⟨_, q2⟩ | q
          · rw [q2]
          · rw [hxs, h, ht] at q
            cases q.1
        · rw [if_neg h, if_neg h]
          exact g4 t ht
    cases hm : natMem e.s L with
    | false => exact put e rfl (.inl ⟨hm, rfl⟩) fun k => by simp only [joinE, hm]
    | true =>
      cases h1 : E1.get e.s with
      | none => exact skip hm fun k => by simp only [joinE, hm, h1]
      | some e1 =>
        obtain ⟨u1, v1, tg1⟩ := e1
        cases tg1 with
        | cons _ _ => exact skip hm fun k => by simp only [joinE, hm, h1]
        | nil =>
          cases h2 : E2.get e.s with
          | none => exact skip hm fun k => by simp only [joinE, hm, h1, h2]
          | some e2 =>
            obtain ⟨u2, v2, tg2⟩ := e2
            cases tg2 with
            | cons _ _ => exact skip hm fun k => by simp only [joinE, hm, h1, h2]
            | nil =>
              cases hv : mergeA s v1 v2 with
              | none => exact skip hm fun k => by simp only [joinE, hm, h1, h2, hv]
              | some v =>
                cases hb : inBt n v with
                | false => exact skip hm fun k => by simp only [joinE, hm, h1, h2, hv, hb]
                | true => exact put ⟨e.s, v, []⟩ rfl (.inr ⟨hm, rfl, hb, u1, v1, u2, v2, h1, h2, hv⟩) fun k => by simp only [joinE, hm, h1, h2, hv, hb]

theorem cutE_pure {R : Type} {n : Nat} {L : List Nat} {E1 : Env} : ∀ (E0 : Env), ∃ E', (∀ k : Env → Option R, cutE n L E1 E0 k = k E') ∧ (∀ x ∈ E', ∃ e ∈ E0, e.s = x.s) ∧ (Uniq E0 → Uniq E') ∧
    (∀ x ∈ E', (natMem x.s L = false ∧ x ∈ E0) ∨ (natMem x.s L = true ∧ x.tg = [] ∧ inBt n x.v = true ∧ ∃ u1, E1.get x.s = some ⟨u1, x.v, []⟩)) ∧ (∀ t, natMem t L = false → E'.get t = E0.get t)
  | [] => ⟨[], fun _ => rfl, fun x hx => by simp at hx, fun _ => trivial, fun x hx => by simp at hx, fun _ _ => rfl⟩
  | e :: E0 => by
    obtain ⟨E1', g0, g1, g2, g3, g4⟩ := cutE_pure (R := R) (n := n) (L := L) (E1 := E1) E0
    have skip : natMem e.s L = true → (∀ k : Env → Option R, cutE n L E1 (e :: E0) k = cutE n L E1 E0 k) → ∃ E', (∀ k : Env → Option R, cutE n L E1 (e :: E0) k = k E') ∧ (∀ x ∈ E', ∃ y ∈ e :: E0, y.s = x.s) ∧ (Uniq (e :: E0) → Uniq E') ∧
        (∀ x ∈ E', (natMem x.s L = false ∧ x ∈ e :: E0) ∨ (natMem x.s L = true ∧ x.tg = [] ∧ inBt n x.v = true ∧ ∃ u1, E1.get x.s = some ⟨u1, x.v, []⟩)) ∧ (∀ t, natMem t L = false → E'.get t = Env.get (e :: E0) t) := by
      intro hm hk
      refine ⟨E1', fun k => (hk k).trans (g0 k), fun x hx => let ⟨y, hy, hs⟩ := g1 x hx; ⟨y, List.mem_cons_of_mem _ hy, hs⟩, fun hu => g2 hu.2, fun x hx => ?_, fun t ht => ?_⟩
      · rcases g3 x hx with ⟨q1, q2⟩ | q
        · exact .inl ⟨q1, List.mem_cons_of_mem _ q2⟩
        · exact .inr q
      · rw [env_get_cons, if_neg (fun h => by rw [h, ht] at hm; cases hm)]
        exact g4 t ht
    have put : ∀ x : Ent, x.s = e.s → ((natMem x.s L = false ∧ x = e) ∨ (natMem x.s L = true ∧ x.tg = [] ∧ inBt n x.v = true ∧ ∃ u1, E1.get x.s = some ⟨u1, x.v, []⟩)) →
        (∀ k : Env → Option R, cutE n L E1 (e :: E0) k = cutE n L E1 E0 fun r' => k (x :: r')) → ∃ E', (∀ k : Env → Option R, cutE n L E1 (e :: E0) k = k E') ∧ (∀ x ∈ E', ∃ y ∈ e :: E0, y.s = x.s) ∧ (Uniq (e :: E0) → Uniq E') ∧
        (∀ x ∈ E', (natMem x.s L = false ∧ x ∈ e :: E0) ∨ (natMem x.s L = true ∧ x.tg = [] ∧ inBt n x.v = true ∧ ∃ u1, E1.get x.s = some ⟨u1, x.v, []⟩)) ∧ (∀ t, natMem t L = false → E'.get t = Env.get (e :: E0) t) := by
      intro x hxs hx hk
      refine ⟨x :: E1', fun k => (hk k).trans (g0 _), fun y hy => ?_, fun hu => ⟨fun y hy => ?_, g2 hu.2⟩, fun y hy => ?_, fun t ht => ?_⟩
      · rcases List.mem_cons.1 hy with rfl | hy
        · exact ⟨e, List.mem_cons_self .., hxs.symm⟩
        · obtain ⟨z, hz, hs⟩ := g1 y hy
          exact ⟨z, List.mem_cons_of_mem _ hz, hs⟩
      · obtain ⟨z, hz, hs⟩ := g1 y hy
        rw [← hs, hxs]
        exact hu.1 z hz
      · rcases List.mem_cons.1 hy with rfl | hy
        · rcases hx with ⟨q1, q2⟩ | q
          · exact .inl ⟨q1, by rw [q2]; exact List.mem_cons_self ..⟩
          · exact .inr q
        · rcases g3 y hy with ⟨q1, q2⟩ | q
          · exact .inl ⟨q1, List.mem_cons_of_mem _ q2⟩
          · exact .inr q
      · rw [env_get_cons, env_get_cons, hxs]
        by_cases h : e.s = t
        · rw [if_pos h, if_pos h]
          rcases hx with ⟨_, q2⟩ | q
          · rw [q2]
          · rw [hxs, h, ht] at q
            cases q.1
        · rw [if_neg h, if_neg h]
          exact g4 t ht
    cases hm : natMem e.s L with
    | false => exact put e rfl (.inl ⟨hm, rfl⟩) fun k => by simp only [cutE, hm]
    | true =>
      cases h1 : E1.get e.s with
      | none => exact skip hm fun k => by simp only [cutE, hm, h1]
      | some e1 =>
        obtain ⟨u1, v1, tg1⟩ := e1
        cases tg1 with
        | cons _ _ => exact skip hm fun k => by simp only [cutE, hm, h1]
        | nil =>
          cases hb : inBt n v1 with
          | false => exact skip hm fun k => by simp only [cutE, hm, h1, hb]
          | true => exact put ⟨e.s, v1, []⟩ rfl (.inr ⟨hm, rfl, hb, u1, h1⟩) fun k => by simp only [cutE, hm, h1, hb]

/-- What stands behind a join: no tags where there were none, the others' slots as they were. -/
structure Joined (L : List Nat) (E0 E' : Env) : Prop where
  uniq : Uniq E0 → Uniq E'
  plain : Plain E0 → Plain E'
  keep : Kp L E0 E'

theorem joinE_sub {R : Type} (n : Nat) (L : List Nat) (s : Bool) (E1 E2 E0 : Env) : ∃ E', (∀ k : Env → Option R, joinE n L s E1 E2 E0 k = k E') ∧ Joined L E0 E' ∧ (s = true → SubK n L E0 E1 E') ∧ (s = false → SubK n L E0 E2 E') := by
  obtain ⟨E', h1, h2, h3, h4, h5⟩ := joinE_pure (R := R) (n := n) (L := L) (s := s) (E1 := E1) (E2 := E2) E0
  have key : ∀ t e, E'.get t = some e → (natMem t L = false ∧ E0.get t = some e) ∨ (natMem t L = true ∧ e.tg = [] ∧ inBt n e.v = true ∧ ∃ u1 v1 u2 v2, E1.get t = some ⟨u1, v1, []⟩ ∧ E2.get t = some ⟨u2, v2, []⟩ ∧ mergeA s v1 v2 = some e.v) := by
    intro t e he
    obtain ⟨hm, hs⟩ := get_mem he
    rcases h4 e hm with ⟨q1, _⟩ | ⟨q1, q2, q3, q4⟩
    · rw [hs] at q1
      exact .inl ⟨q1, by rw [← h5 t q1]; exact he⟩
    · rw [hs] at q4 q1
      exact .inr ⟨q1, q2, q3, q4⟩
  refine ⟨E', h1, ⟨h3, fun hP e he => ?_, fun t ht e he _ => by rw [h5 t ht]; exact he⟩, fun hs t e he => ?_, fun hs t e he => ?_⟩
  · rcases h4 e he with ⟨_, q⟩ | ⟨_, q, _⟩
    · exact hP e q
    · exact q
  · rcases key t e he with q | ⟨k0, k1, k2, u1, v1, u2, v2, k3, k4, k5⟩
    · exact .inl q
    · exact .inr ⟨k0, k1, k2, _, k3, rfl, fun β c hc => (mergeA_ok k5).1 c hs hc⟩
  · rcases key t e he with q | ⟨k0, k1, k2, u1, v1, u2, v2, k3, k4, k5⟩
    · exact .inl q
    · exact .inr ⟨k0, k1, k2, _, k4, rfl, fun β c hc => (mergeA_ok k5).2 c hs hc⟩

theorem cutE_sub {R : Type} (n : Nat) (L : List Nat) (E1 E0 : Env) : ∃ E', (∀ k : Env → Option R, cutE n L E1 E0 k = k E') ∧ Joined L E0 E' ∧ SubK n L E0 E1 E' := by
  obtain ⟨E', h1, h2, h3, h4, h5⟩ := cutE_pure (R := R) (n := n) (L := L) (E1 := E1) E0
  refine ⟨E', h1, ⟨h3, fun hP e he => ?_, fun t ht e he _ => by rw [h5 t ht]; exact he⟩, fun t e he => ?_⟩
  · rcases h4 e he with ⟨_, q⟩ | ⟨_, q, _⟩
    · exact hP e q
    · exact q
  · obtain ⟨hm, hs⟩ := get_mem he
    rcases h4 e hm with ⟨q1, _⟩ | ⟨q1, q2, q3, u1, q4⟩
    · rw [hs] at q1
      exact .inl ⟨q1, by rw [← h5 t q1]; exact he⟩
    · rw [hs] at q4 q1
      exact .inr ⟨q1, q2, q3, _, q4, rfl, fun _ _ hc => hc⟩

theorem joinN_sub {R : Type} {n : Nat} {L : List Nat} {E0 : Env} {s : Bool} {x y : Option Env} {k : Option Env → Option R} {r : R} (h : joinN n L E0 s x y k = some r) :
    ∃ N, k N = some r ∧ (N = none ↔ x = none ∧ y = none) ∧ ∀ E, N = some E → Joined L E0 E ∧ (s = true → ∀ A, x = some A → SubK n L E0 A E) ∧ (s = false → ∀ B, y = some B → SubK n L E0 B E) := by
  unfold joinN at h
  split at h
  · exact ⟨none, h, ⟨fun _ => ⟨rfl, rfl⟩, fun _ => rfl⟩, (fun E he => by cases he)⟩
  · rename_i A
    obtain ⟨E', h1, h2, h3⟩ := cutE_sub (R := R) n L A E0
    rw [h1] at h
    exact ⟨some E', h, ⟨(fun q => by cases q), (fun q => by cases q.1)⟩, (fun E he => by cases he; exact ⟨h2, (fun _ A hA => by cases hA; exact h3), (fun _ B hB => by cases hB)⟩)⟩
  · rename_i B
    obtain ⟨E', h1, h2, h3⟩ := cutE_sub (R := R) n L B E0
    rw [h1] at h
    exact ⟨some E', h, ⟨(fun q => by cases q), (fun q => by cases q.2)⟩, (fun E he => by cases he; exact ⟨h2, (fun _ A hA => by cases hA), (fun _ B hB => by cases hB; exact h3)⟩)⟩
  · rename_i A B
    obtain ⟨E', h1, h2, h3, h4⟩ := joinE_sub (R := R) n L s A B E0
    rw [h1] at h
    exact ⟨some E', h, ⟨(fun q => by cases q), (fun q => by cases q.1)⟩, (fun E he => by cases he; exact ⟨h2, (fun hs A hA => by cases hA; exact h3 hs), (fun hs B hB => by cases hB; exact h4 hs)⟩)⟩

theorem sameEX_is {x y : EX} (h : sameEX x y = true) : x = y := by
  cases x <;> cases y <;> simp only [sameEX] at h <;> first | rfl | (rw [Nat.eq_of_beq_eq_true h]) | cases h

theorem joinX_sub {R : Type} {n : Nat} {L : List Nat} {E0 : Env} {s : Bool} {x y : Option (EX × Env)} {k : Option (EX × Env) → Option R} {r : R} (h : joinX n L E0 s x y k = some r) :
    ∃ N, k N = some r ∧ (N = none ↔ x = none ∧ y = none) ∧ ∀ e E, N = some (e, E) → Joined L E0 E ∧ (s = true → ∀ a A, x = some (a, A) → a = e ∧ SubK n L E0 A E) ∧ (s = false → ∀ b B, y = some (b, B) → b = e ∧ SubK n L E0 B E) := by
  unfold joinX at h
  split at h
  · exact ⟨none, h, ⟨fun _ => ⟨rfl, rfl⟩, fun _ => rfl⟩, (fun e E he => by cases he)⟩
  · rename_i a A
    obtain ⟨E', h1, h2, h3⟩ := cutE_sub (R := R) n L A E0
    rw [h1] at h
    exact ⟨some (a, E'), h, ⟨(fun q => by cases q), (fun q => by cases q.1)⟩, (fun e E he => by cases he; exact ⟨h2, (fun _ a A hA => by cases hA; exact ⟨rfl, h3⟩), (fun _ b B hB => by cases hB)⟩)⟩
  · rename_i b B
    obtain ⟨E', h1, h2, h3⟩ := cutE_sub (R := R) n L B E0
    rw [h1] at h
    exact ⟨some (b, E'), h, ⟨(fun q => by cases q), (fun q => by cases q.2)⟩, (fun e E he => by cases he; exact ⟨h2, (fun _ a A hA => by cases hA), (fun _ b B hB => by cases hB; exact ⟨rfl, h3⟩)⟩)⟩
  · rename_i a A b B
    split at h
    · rename_i hs
      have hs := sameEX_is hs
      subst hs
      obtain ⟨E', h1, h2, h3, h4⟩ := joinE_sub (R := R) n L s A B E0
      rw [h1] at h
      exact ⟨some (a, E'), h, ⟨(fun q => by cases q), (fun q => by cases q.1)⟩, (fun e E he => by cases he; exact ⟨h2, (fun hs a A hA => by cases hA; exact ⟨rfl, h3 hs⟩), (fun hs b B hB => by cases hB; exact ⟨rfl, h4 hs⟩)⟩)⟩
    · cases h

theorem SubK.trans {n : Nat} {L : List Nat} {E0 A B C : Env} (h : SubK n L E0 A B) (k : SubK n L E0 B C) : SubK n L E0 A C := by
  intro t e he
  rcases k t e he with q | ⟨k0, k1, k2, e', k3, k0', k4⟩
  · exact .inl q
  · rcases h t e' k3 with ⟨q1, _⟩ | ⟨_, _, _, e'', h3, h4, h5⟩
    · rw [k0] at q1; cases q1
    · exact .inr ⟨k0, k1, k2, e'', h3, h4, fun β c hc => k4 β c (h5 β c hc)⟩

/-- One way's end, as the joined one tells it. -/
def Tells' (n : Nat) (L : List Nat) (E0 : Env) (a o : JO) : Prop :=
  a.ec = o.ec ∧ (o.ec = false → ∃ A N, a.n = some A ∧ o.n = some N ∧ SubK n L E0 A N) ∧ (o.ec = true → ∃ e A X, a.r = some (e, A) ∧ o.r = some (e, X) ∧ SubK n L E0 A X)

theorem Tells'.trans {n : Nat} {L : List Nat} {E0 : Env} {a b c : JO} (h : Tells' n L E0 a b) (k : Tells' n L E0 b c) : Tells' n L E0 a c := by
  obtain ⟨h1, h2, h3⟩ := h
  obtain ⟨k1, k2, k3⟩ := k
  refine ⟨h1.trans k1, fun hc => ?_, fun hc => ?_⟩
  · obtain ⟨B, C, e1, e2, e3⟩ := k2 hc
    obtain ⟨A, B', e4, e5, e6⟩ := h2 (k1.trans hc)
    rw [e1] at e5
    cases e5
    exact ⟨A, C, e4, e2, e6.trans e3⟩
  · obtain ⟨e, B, C, e1, e2, e3⟩ := k3 hc
    obtain ⟨e', A, B', e4, e5, e6⟩ := h3 (k1.trans hc)
    rw [e1] at e5
    cases e5
    exact ⟨e, A, C, e4, e2, e6.trans e3⟩

theorem ec_false {o : JO} (h : o.ec = false) : ∃ N, o.n = some N := by
  unfold JO.ec at h
  split at h
  · cases h
  · rename_i hn _; exact ⟨_, hn⟩
  · rename_i hn _; exact ⟨_, hn⟩

theorem ec_true {o : JO} (he : o.ends = true) (h : o.ec = true) : ∃ X, o.r = some X := by
  unfold JO.ec at h
  unfold JO.ends at he
  split at h
  · rename_i hn
    rw [hn] at he
    cases hr : o.r with
    | none => rw [hr] at he; cases he
    | some X => exact ⟨X, rfl⟩
  · cases h
  · rename_i hr; exact ⟨_, hr⟩

theorem joinO_sub {n : Nat} {L : List Nat} {E0 : Env} {base : List Bool} {s : Bool} {x y : Option JO} {o : JO} (h : joinO n L E0 base s x y = some o) :
    ∃ a b, x = some a ∧ y = some b ∧ o.cs = mergeC s a.cs b.cs ++ base ∧ ((∀ N, o.n = some N → Joined L E0 N) ∧ (∀ e X, o.r = some (e, X) → Joined L E0 X)) ∧ (s = true → Tells' n L E0 a o) ∧ (s = false → Tells' n L E0 b o) := by
  unfold joinO at h
  split at h
  · rename_i a b
    split at h
    · cases h
    · rename_i hends
      obtain ⟨ea, eb⟩ := Bool.and_eq_true_iff.1 hends
      rw [appendK_eq] at h
      obtain ⟨N, h1, n1, n2⟩ := joinN_sub h
      obtain ⟨X, h2, x1, x2⟩ := joinX_sub h1
      cases h2
      refine ⟨a, b, rfl, rfl, rfl, ⟨fun N' hN => (n2 N' hN).1, fun e X' hX => (x2 e X' hX).1⟩, fun hs => ?_, fun hs => ?_⟩
      · subst hs
        have hec : a.ec = JO.ec { n := N, r := X, c := bif true then a.ec else b.ec, b := a.b || b.b || (a.n.isSome && b.n.isSome && (a.r.isSome || b.r.isSome)), cs := mergeC true a.cs b.cs ++ base } := by
          cases hN : N with
          | none =>
            have := (n1.1 hN).1
            unfold JO.ec
            rw [this]
          | some N' =>
            cases hX : X with
            | some X' => rfl
            | none =>
              show a.ec = false
              have hr := (x1.1 hX).1
              cases hc : a.ec with
              | false => rfl
              | true =>
                obtain ⟨_, q⟩ := ec_true ea hc
                rw [hr] at q
                cases q
        refine ⟨hec, fun hc => ?_, fun hc => ?_⟩
        · rw [← hec] at hc
          obtain ⟨A, hA⟩ := ec_false hc
          cases hN : N with
          | none => rw [(n1.1 hN).1] at hA; cases hA
          | some N' => exact ⟨A, N', hA, rfl, (n2 N' hN).2.1 rfl A hA⟩
        · rw [← hec] at hc
          obtain ⟨⟨e, A⟩, hA⟩ := ec_true ea hc
          cases hX : X with
          | none => rw [(x1.1 hX).1] at hA; cases hA
          | some X' =>
            obtain ⟨e', X''⟩ := X'
            obtain ⟨q1, q2⟩ := (x2 e' X'' hX).2.1 rfl e A hA
            subst q1
            exact ⟨e, A, X'', hA, rfl, q2⟩
      · subst hs
        have hec : b.ec = JO.ec { n := N, r := X, c := bif false then a.ec else b.ec, b := a.b || b.b || (a.n.isSome && b.n.isSome && (a.r.isSome || b.r.isSome)), cs := mergeC false a.cs b.cs ++ base } := by
          cases hN : N with
          | none =>
            have := (n1.1 hN).2
            unfold JO.ec
            rw [this]
          | some N' =>
            cases hX : X with
            | some X' => rfl
            | none =>
              show b.ec = false
              have hr := (x1.1 hX).2
              cases hc : b.ec with
              | false => rfl
              | true =>
                obtain ⟨_, q⟩ := ec_true eb hc
                rw [hr] at q
                cases q
        refine ⟨hec, fun hc => ?_, fun hc => ?_⟩
        · rw [← hec] at hc
          obtain ⟨A, hA⟩ := ec_false hc
          cases hN : N with
          | none => rw [(n1.1 hN).2] at hA; cases hA
          | some N' => exact ⟨A, N', hA, rfl, (n2 N' hN).2.2 rfl A hA⟩
        · rw [← hec] at hc
          obtain ⟨⟨e, A⟩, hA⟩ := ec_true eb hc
          cases hX : X with
          | none => rw [(x1.1 hX).2] at hA; cases hA
          | some X' =>
            obtain ⟨e', X''⟩ := X'
            obtain ⟨q1, q2⟩ := (x2 e' X'' hX).2.2 rfl e A hA
            subst q1
            exact ⟨e, A, X'', hA, rfl, q2⟩
  · cases h

theorem joinO_ok (n : Nat) (L : List Nat) (E0 : Env) (f : JO) : MgOk (joinO n L E0) fun o : JO => (∀ b ∈ o.cs, b = true) ∧ Tells' n L E0 o f := by
  intro base s x y o h hr
  obtain ⟨a, b, hx, hy, hcs, _, h1, h2⟩ := joinO_sub h
  obtain ⟨r1, r2⟩ := hr
  rw [hcs] at r1
  have hc := mergeC_ok (s := s) (x := a.cs) (y := b.cs) fun b hb => r1 b (List.mem_append_left _ hb)
  exact ⟨fun b hb => r1 b (List.mem_append_right _ hb), fun hs => ⟨_, hx, hc.1 hs, (h1 hs).trans r2⟩, fun hs => ⟨_, hy, hc.2 hs, (h2 hs).trans r2⟩⟩

theorem roA_length : ∀ (m : Mem), (roA m).length = m.length
  | [] => rfl
  | none :: r => by simp [roA, roA_length r]
  | some (.lit _ _) :: r => by simp [roA, roA_length r]
  | some (.sym ..) :: r => by simp [roA, roA_length r]

def Blk.roB : Blk → Blk
  | .lit c _ => .lit c false
  | .sym n k y _ => .sym n k y false

theorem roA_at : ∀ {m : Mem} {i : Nat} {bk : Blk}, (roA m).at i = some bk → ∃ bk', m.at i = some bk' ∧ bk = bk'.roB
  | [], i, bk, h => by simp [roA, Mem.at] at h
  | none :: r, 0, bk, h => by simp [roA, Mem.at] at h
  | none :: r, i + 1, bk, h => by simp only [roA, Mem.at] at h ⊢; exact roA_at h
  | some (.lit c rw) :: r, 0, bk, h => by simp only [roA, Mem.at, Option.some.injEq] at h; subst h; exact ⟨_, rfl, rfl⟩
  | some (.lit c rw) :: r, i + 1, bk, h => by simp only [roA, Mem.at] at h ⊢; exact roA_at h
  | some (.sym ..) :: r, 0, bk, h => by simp only [roA, Mem.at, Option.some.injEq] at h; subst h; exact ⟨_, rfl, rfl⟩
  | some (.sym ..) :: r, i + 1, bk, h => by simp only [roA, Mem.at] at h ⊢; exact roA_at h

theorem roB_rw (bk : Blk) : bk.roB.rw = false := by cases bk <;> rfl

theorem BR.roB {bk : Blk} {be : BE} (h : BR β bk be w) : BR β bk.roB be w := by
  obtain ⟨c, e, fr, h1, h2, h3, h4, h5⟩ := h
  cases bk <;> exact ⟨c, e, fr, h1, (fun hh => by cases hh), h3, h4, h5⟩

/-- Looked at alone. -/
theorem WS.ro (h : WS S w₀ β m w) : WS (fun _ => False) w β (roA m) w := by
  refine ⟨⟨fun i bk hi => ?_, fun i j bi bj ei ej hi _ _ hr => ?_⟩, Fr.refl _ w, fun i bk be hi hr => ?_⟩
  · obtain ⟨bk', h1, rfl⟩ := roA_at hi
    obtain ⟨be, h2, h3⟩ := h.sim.blk i bk' h1
    exact ⟨be, h2, h3.roB⟩
  · obtain ⟨bk', _, rfl⟩ := roA_at hi
    rw [roB_rw] at hr; cases hr
  · obtain ⟨bk', _, rfl⟩ := roA_at hi
    rw [roB_rw] at hr; cases hr

/-- The first 'n' blocks alone. -/
def BM.cutB (β : BM) (n : Nat) : BM := fun i => if i < n then β i else none

/-- More blocks known of. -/
theorem WS.more {β' : BM} (h : WS S w₀ β m w) (hb : BLe β β') : WS S w₀ β' m w := by
  have same : ∀ {i : Nat} {bk : Blk} {be : BE}, m.at i = some bk → β' i = some be → β i = some be := by
    intro i bk be hi hbe
    obtain ⟨be', h1, _⟩ := h.sim.blk i bk hi
    have := hb _ _ h1
    rw [this] at hbe
    cases hbe
    exact h1
  refine ⟨⟨fun i bk hi => ?_, fun i j bi bj ei ej hi hj hij hr hei hej => h.sim.sep i j bi bj ei ej hi hj hij hr (same hi hei) (same hj hej)⟩, h.fr, fun i bk be hi hr hbe => h.own i bk be hi hr (same hi hbe)⟩
  obtain ⟨be, h1, h2⟩ := h.sim.blk i bk hi
  exact ⟨be, hb _ _ h1, h2.mono hb rfl⟩

mutual
theorem SR.flatB {β β' : BM} {x : AV} {y : Value} : SR β x y → x.flat = true → SR β' x y
  | .bool b, _ => .bool b
  | .sbool b, _ => .sbool b
  | .int k n h, _ => .int k n h
  | .sint k n h, _ => .sint k n h
  | .flt k x b h h', _ => .flt k x b h h'
  | .str s, _ => .str s
  | .pnil, _ => .pnil
  | .ptr _ _ _ _, h => by simp [AV.flat] at h
  | .snil, _ => .snil
  | .slc _ _ _ _ _ _ _ _ _, h => by simp [AV.flat] at h
  | .sslc _ _ _ _ _ _ _ _ _, h => by simp [AV.flat] at h
  | .fn f caps cs h, hf => .fn f caps cs (SRs.flatB h (by simpa [AV.flat] using hf))
  | .nilfn, _ => .nilfn
theorem SRs.flatB {β β' : BM} {x : List AV} {y : List Value} : SRs β x y → flatL x = true → SRs β' x y
  | .nil, _ => .nil
  | .cons x y xs ys h hs, hf => by
    simp only [flatL, Bool.and_eq_true] at hf
    exact .cons x y xs ys (SR.flatB h hf.1) (SRs.flatB hs hf.2)
end

mutual
theorem VR.flatB {β β' : BM} {x : AV} {y : Value} : VR β x y → x.flat = true → VR β' x y
  | .sc x y h, hf => .sc x y (h.flatB hf)
  | .agg xs ys h, hf => .agg xs ys (h.flatB (by simpa [AV.flat] using hf))
  | .tup xs ys h, hf => .tup xs ys (VRs.flatB h (by simpa [AV.flat] using hf))
theorem VRs.flatB {β β' : BM} {x : List AV} {y : List Value} : VRs β x y → flatL x = true → VRs β' x y
  | .nil, _ => .nil
  | .cons x y xs ys h hs, hf => by
    simp only [flatL, Bool.and_eq_true] at hf
    exact .cons x y xs ys (VR.flatB h hf.1) (VRs.flatB hs hf.2)
end

mutual
theorem SR.cut {β β' : BM} {n : Nat} (hb : ∀ i be, β i = some be → i < n) {x : AV} {c0 : Value} : SR β x c0 → ∀ {c : Value}, SR β' x c → SR (β'.cutB n) x c
  | .bool b, _, h => by cases h; exact .bool _
  | .sbool b, _, h => by cases h; exact .sbool _
  | .int k n _, _, h => by cases h; exact .int _ _ (by assumption)
  | .sint k n _, _, h => by cases h; exact .sint _ _ (by assumption)
  | .flt k x b _ _, _, h => by cases h; exact .flt _ _ _ (by assumption) (by assumption)
  | .str s, _, h => by cases h; exact .str _
  | .pnil, _, h => by cases h; exact .pnil
  | .ptr i off be hi, _, h => by
    cases h with | ptr _ _ be' hi' => exact .ptr _ _ be' (by unfold BM.cutB; rw [if_pos (hb _ _ hi)]; exact hi')
  | .sptr i off n es z be hi _ _, _, h => by
    cases h with | sptr _ _ _ _ _ be' hi' h1 h2 => exact .sptr _ _ _ _ _ be' (by unfold BM.cutB; rw [if_pos (hb _ _ hi)]; exact hi') h1 h2
  | .snil, _, h => by cases h; exact .snil
  | .slc i off len es be cap hi _ _, _, h => by
    cases h with | slc _ _ _ _ be' cap' hi' h1 h2 => exact .slc _ _ _ _ be' cap' (by unfold BM.cutB; rw [if_pos (hb _ _ hi)]; exact hi') h1 h2
  | .sslc i off len es be cap hi _ _, _, h => by
    cases h with | sslc _ _ _ _ be' cap' hi' h1 h2 => exact .sslc _ _ _ _ be' cap' (by unfold BM.cutB; rw [if_pos (hb _ _ hi)]; exact hi') h1 h2
  | .fn f caps cs hs, _, h => by cases h with | fn _ _ cs' hs' => exact .fn _ _ _ (SRs.cut hb hs hs')
  | .nilfn, _, h => by cases h; exact .nilfn
theorem SRs.cut {β β' : BM} {n : Nat} (hb : ∀ i be, β i = some be → i < n) {x : List AV} {c0 : List Value} : SRs β x c0 → ∀ {c : List Value}, SRs β' x c → SRs (β'.cutB n) x c
  | .nil, _, h => by cases h; exact .nil
  | .cons x y xs ys h hs, _, h' => by cases h' with | cons _ _ _ _ a b => exact .cons _ _ _ _ (SR.cut hb h a) (SRs.cut hb hs b)
end

mutual
theorem VR.cut {β β' : BM} {n : Nat} (hb : ∀ i be, β i = some be → i < n) {x : AV} {c0 : Value} : VR β x c0 → ∀ {c : Value}, VR β' x c → VR (β'.cutB n) x c
  | .sc x y h, _, h' => by
    cases h' with
    | sc _ _ a => exact .sc _ _ (h.cut hb a)
    | agg _ _ a => cases h
    | tup _ _ a => cases h
  | .agg xs ys h, _, h' => by
    cases h' with
    | sc _ _ a => cases a
    | agg _ _ a => exact .agg _ _ (h.cut hb a)
  | .tup xs ys h, _, h' => by
    cases h' with
    | sc _ _ a => cases a
    | tup _ _ a => exact .tup _ _ (VRs.cut hb h a)
theorem VRs.cut {β β' : BM} {n : Nat} (hb : ∀ i be, β i = some be → i < n) {x : List AV} {c0 : List Value} : VRs β x c0 → ∀ {c : List Value}, VRs β' x c → VRs (β'.cutB n) x c
  | .nil, _, h => by cases h; exact .nil
  | .cons x y xs ys h hs, _, h' => by cases h' with | cons _ _ _ _ a b => exact .cons _ _ _ _ (VR.cut hb h a) (VRs.cut hb hs b)
end

theorem inBt_ok {β : BM} {n : Nat} {x : AV} {c : Value} (h : VR β x c) (hk : inBt n x = true) : VR (β.cutB n) x c := by
  have key : ∀ {k : Nat} {be : BE}, Nat.blt k n = true → β k = some be → (β.cutB n) k = some be := by
    intro k be hk hb
    have hk : k < n := by simpa [Nat.blt_eq] using hk
    unfold BM.cutB
    rw [if_pos hk]
    exact hb
  cases x with
  | ptr k o => cases h with | sc _ _ h => cases h with | ptr _ _ be hb => exact .sc _ _ (.ptr _ _ be (key hk hb))
  | sptr k o n e z => cases h with | sc _ _ h => cases h with | sptr _ _ _ _ _ be hb h1 h2 => exact .sc _ _ (.sptr _ _ _ _ _ be (key hk hb) h1 h2)
  | slc k o n e => cases h with | sc _ _ h => cases h with | slc _ _ _ _ be cap hb h1 h2 => exact .sc _ _ (.slc _ _ _ _ be cap (key hk hb) h1 h2)
  | sslc k o n e => cases h with | sc _ _ h => cases h with | sslc _ _ _ _ be cap hb h1 h2 => exact .sc _ _ (.sslc _ _ _ _ be cap (key hk hb) h1 h2)
  | tup l => exact h.flatB (by simpa [AV.flat, inBt] using hk)
  | _ => exact h.flatB hk

/-- What stands behind a code is asked of the slots that it assigns alone. -/
theorem codeA_congr (n : Nat) : ∀ {J : Bool} {R : Type} {mg : List Bool → Bool → Option R → Option R → Option R} {c : Code} {L : List Nat} {E : Env} {m : Mem} {cs D : List Bool} {k k' : EX → Env → Mem → List Bool → List Bool → Option R}, Plain E → (∀ x ∈ asg c, x ∈ L) →
    (∀ x E' m' cs' D', Plain E' → Kp L E E' → k x E' m' cs' D' = k' x E' m' cs' D') → codeA P G nt n noLT J mg c E m cs D k = codeA P G nt n noLT J mg c E m cs D k' := by
  induction n with
  | zero => intro J R mg c L E m cs D k k' _ _ _; rfl
  | succ n ih =>
    intro J R mg c L E m cs D k k' hP hL hk
    cases c <;> simp only [codeA]
    case skip => exact hk _ _ _ _ _ hP (Kp.refl L E)
    case ret => exact hk _ _ _ _ _ hP (Kp.refl L E)
    case exit id => exact hk _ _ _ _ _ hP (Kp.refl L E)
    case region id ops draw => exact regionA_congr hP hL fun E' m' cs' D' hP' hK => hk _ _ _ _ _ hP' hK
    case seq a b =>
      refine ih hP (fun x hx => hL x (List.mem_append_left _ hx)) fun x E' m' cs' D' hP' hK => ?_
      cases x with
      | normal => exact ih hP' (fun x hx => hL x (List.mem_append_right _ hx)) fun x E2 m2 cs2 D2 hP2 hK2 => hk _ _ _ _ _ hP2 (hK.trans hK2)
      | exit id => exact hk _ _ _ _ _ hP' hK
      | ret => exact hk _ _ _ _ _ hP' hK
    case cond c a b =>
      have ha : ∀ x ∈ asg a, x ∈ L := fun x hx => hL x (List.mem_append_left _ hx)
      have hb : ∀ x ∈ asg b, x ∈ L := fun x hx => hL x (List.mem_append_right _ hx)
      split
      · exact ih hP ha hk
      · exact ih hP hb hk
      · split
        · split
          · rename_i N cs0 hj
            rw [appendK_eq, appendK_eq]
            have hN : Joined (asg a ++ asg b) E N := by
              unfold ifJ at hj
              split at hj
              · cases hj
              · cases ho : joinO m.length (asg a ++ asg b) E [] _ (codeA P G nt n noLT J (joinO m.length (asg a ++ asg b) E) a E (roA m) [] [] leafJ) (codeA P G nt n noLT J (joinO m.length (asg a ++ asg b) E) b E (roA m) [] [] leafJ) with
                | none => rw [ho] at hj; cases hj
                | some o =>
                  rw [ho] at hj
                  obtain ⟨_, _, _, _, _, h1, _⟩ := joinO_sub ho
                  refine h1.1 N ?_
                  unfold selJ at hj
                  split at hj
                  · cases hj; rename_i q; cases q; rfl
                  · cases hj
                  · cases hj
            exact hk _ _ _ _ _ (hN.plain hP) (hN.keep.mono fun x hx => hL x hx)
          · rename_i N x X c0 cs0 hj
            rw [appendK_eq, appendK_eq]
            have hN : Joined (asg a ++ asg b) E N ∧ Joined (asg a ++ asg b) E X := by
              unfold ifJ at hj
              split at hj
              · cases hj
              · cases ho : joinO m.length (asg a ++ asg b) E [] _ (codeA P G nt n noLT J (joinO m.length (asg a ++ asg b) E) a E (roA m) [] [] leafJ) (codeA P G nt n noLT J (joinO m.length (asg a ++ asg b) E) b E (roA m) [] [] leafJ) with
                | none => rw [ho] at hj; cases hj
                | some o =>
                  rw [ho] at hj
                  obtain ⟨_, _, _, _, _, h1, _⟩ := joinO_sub ho
                  unfold selJ at hj
                  split at hj
                  · cases hj
                  · cases hj; rename_i q; cases q; exact ⟨h1.1 N rfl, h1.2 x X rfl⟩
                  · cases hj
            rw [hk _ _ _ _ _ (hN.1.plain hP) (hN.1.keep.mono fun x hx => hL x hx), hk _ _ _ _ _ (hN.2.plain hP) (hN.2.keep.mono fun x hx => hL x hx)]
          · rw [ih hP ha hk, ih hP hb hk]
        · exact ih hP ha hk
        · exact ih hP hb hk
      · rfl
    case block id b =>
      refine ih hP hL fun x E' m' cs' D' hP' hK => ?_
      cases x with
      | normal => exact hk _ _ _ _ _ hP' hK
      | ret => exact hk _ _ _ _ _ hP' hK
      | exit id' =>
        simp only
        split
        · exact hk _ _ _ _ _ hP' hK
        · exact hk _ _ _ _ _ hP' hK
    case loop b =>
      refine ih hP hL fun x E' m' cs' D' hP' hK => ?_
      cases x with
      | normal => exact ih hP' hL fun x E2 m2 cs2 D2 hP2 hK2 => hk _ _ _ _ _ hP2 (hK.trans hK2)
      | exit id => exact hk _ _ _ _ _ hP' hK
      | ret => exact hk _ _ _ _ _ hP' hK

theorem codeA_ok (hG : SoundG P G) (hm : P.follows .mixedOrders = true) (n : Nat) : ∀ {H : LTab} {J : Bool} {A : Nat} {R : Type} {mg : List Bool → Bool → Option R → Option R → Option R} {Sat : R → Prop}, MgOk mg Sat → ∀ {c : Code} {E : Env} {m : Mem} {cs D : List Bool} {k : EX → Env → Mem → List Bool → List Bool → Option R} {r : R}, HOk P nt A H c →
    codeA P G nt n H J mg c E m cs D k = some r → Sat r → KOk Sat k →
    (∀ b ∈ cs, b = true) ∧ ∀ (S : Nat → Prop) (w₀ : World) (β₀ : BM) (ds : List Deferred) a w (Q : Exit → Act → World → Prop), (∀ i, A ≤ i → β₀ i = none) → Rel S w₀ β₀ nt ds E m a w → (∀ x E' m' cs' D' r' a' w', k x E' m' cs' D' = some r' → Sat r' → Rel S w₀ β₀ nt ds E' m' a' w' → Q x.out a' w') → WPN P n c Q a w := by
  induction n with
  | zero => intro H J A R mg Sat hmg c E m cs D k r _ h; simp [codeA] at h
  | succ n ih =>
    intro H J A R mg Sat hmg c E m cs D k r hH h hr hk
    cases c <;> simp only [codeA] at h <;> try (cases h; done)
    case skip => exact ⟨hk _ _ _ _ _ _ h hr, fun S w₀ β₀ ds a w Q hA hrel hq => wp_skip (hq _ _ _ _ _ _ _ _ h hr hrel)⟩
    case ret => exact ⟨hk _ _ _ _ _ _ h hr, fun S w₀ β₀ ds a w Q hA hrel hq => wp_ret (hq _ _ _ _ _ _ _ _ h hr hrel)⟩
    case exit id => exact ⟨hk _ _ _ _ _ _ h hr, fun S w₀ β₀ ds a w Q hA hrel hq => wp_exit (hq _ _ _ _ _ _ _ _ h hr hrel)⟩
    case region id ops draw =>
      refine ⟨(region_ok (S := fun _ => False) (w₀ := default) (β₀ := fun _ => none) (ds := []) (id := id) hG hm hmg h hr fun E m cs D r h' hr' => hk _ _ _ _ _ _ h' hr').1, fun S w₀ β₀ ds a w Q hA hrel hq => ?_⟩
      obtain ⟨_, h2⟩ := region_ok (S := S) (w₀ := w₀) (β₀ := β₀) (ds := ds) (id := id) hG hm hmg h hr fun E m cs D r h' hr' => hk _ _ _ _ _ _ h' hr'
      exact h2 a w Q hrel fun E' m' cs' D' r' a' w' h' hr' hrel' => hq _ _ _ _ _ _ _ _ h' hr' hrel'
    case seq c1 c2 =>
      have hH1 : HOk P nt A H c1 := fun id b hb => hH id b (List.mem_append_left _ hb)
      have hH2 : HOk P nt A H c2 := fun id b hb => hH id b (List.mem_append_right _ hb)
      have hk1 : KOk Sat (fun x E' m' cs' D' => match x with
          | .normal => codeA P G nt n H J mg c2 E' m' cs' D' k
          | x => k x E' m' cs' D') := by
        intro x E' m' cs' D' r' h' hr'
        cases x with
        | normal => exact (ih hmg hH2 h' hr' hk).1
        | exit id => exact hk _ _ _ _ _ _ h' hr'
        | ret => exact hk _ _ _ _ _ _ h' hr'
      obtain ⟨g1, g2⟩ := ih hmg hH1 h hr hk1
      refine ⟨g1, fun S w₀ β₀ ds a w Q hA hrel hq => wp_seq (g2 S w₀ β₀ ds a w (Exit.then (c2.wp P Q) Q) hA hrel fun x E' m' cs' D' r' a' w' h' hr' hrel' => ?_).wp⟩
      cases x with
      | normal => exact ((ih hmg hH2 h' hr' hk).2 S w₀ β₀ ds a' w' Q hA hrel' hq).wp
      | exit id => exact hq _ _ _ _ _ _ _ _ h' hr' hrel'
      | ret => exact hq _ _ _ _ _ _ _ _ h' hr' hrel'
    case cond c x y =>
      have hHx : HOk P nt A H x := fun id b hb => hH id b (List.mem_append_left _ hb)
      have hHy : HOk P nt A H y := fun id b hb => hH id b (List.mem_append_right _ hb)
      have hc : ∀ {v : AV} {b : Bool}, rd E [] c = some v → (v = .bool b ∨ v = .sbool b) → ∀ {S w₀ β₀ ds} a w, Rel S w₀ β₀ nt ds E m a w → a.eval c = .bool b := by
        intro v b hv hb S w₀ β₀ ds a w hr
        obtain ⟨⟨β, _, hE, _, _⟩, _⟩ := hr
        have := rd_ok hE (holds_nil _) hv
        generalize a.eval c = cv at this
        rcases hb with rfl | rfl
        · cases this with | sc _ _ this => cases this; rfl
        · cases this with | sc _ _ this => cases this; rfl
      split at h
      · rename_i hv
        obtain ⟨g1, g2⟩ := ih hmg hHx h hr hk
        exact ⟨g1, fun S w₀ β₀ ds a w Q hA hrel hq => wp_cond_true (hc hv (.inl rfl) a w hrel) (g2 S w₀ β₀ ds a w Q hA hrel hq).wp⟩
      · rename_i hv
        obtain ⟨g1, g2⟩ := ih hmg hHy h hr hk
        exact ⟨g1, fun S w₀ β₀ ds a w Q hA hrel hq => wp_cond_false (hc hv (.inl rfl) a w hrel) (g2 S w₀ β₀ ds a w Q hA hrel hq).wp⟩
      · rename_i s hv
        split at h
        · -- both ways, brought together: what is behind them
          have joined : Plain E → ∀ {o : JO}, joinO m.length (asg x ++ asg y) E [] s (codeA P G nt n noLT J (joinO m.length (asg x ++ asg y) E) x E (roA m) [] [] leafJ) (codeA P G nt n noLT J (joinO m.length (asg x ++ asg y) E) y E (roA m) [] [] leafJ) = some o → (∀ b ∈ o.cs, b = true) →
              ∀ (S : Nat → Prop) (w₀ : World) (β₀ : BM) (ds : List Deferred) a w (Q : Exit → Act → World → Prop), (∀ i, A ≤ i → β₀ i = none) → Rel S w₀ β₀ nt ds E m a w →
              (∀ N a' w', o.ec = false → o.n = some N → Rel S w₀ β₀ nt ds N m a' w' → Q Exit.normal a' w') → (∀ e X a' w', o.ec = true → o.r = some (e, X) → Rel S w₀ β₀ nt ds X m a' w' → Q e.out a' w') → WPN P (n + 1) (.cond c x y) Q a w := by
            intro hP o ho' hcs S w₀ β₀ ds a w Q hA hrel hq1 hq2
            obtain ⟨o1, o2, hx, hy, hoc, hou, hs1, hs2⟩ := joinO_sub ho'
            have hall : ∀ b ∈ mergeC s o1.cs o2.cs, b = true := fun b hb => hcs b (by rw [hoc]; exact List.mem_append_left _ hb)
            have hmc := mergeC_ok hall
            have hkk : KOk (fun o' : JO => (∀ b ∈ o'.cs, b = true) ∧ Tells' m.length (asg x ++ asg y) E o' o) leafJ := by
              intro x E' m' cs' D' r' h' hr'
              cases x with
              | normal => simp only [leafJ, Option.some.injEq] at h'; subst h'; exact hr'.1
              | exit id => simp only [leafJ, Option.some.injEq] at h'; subst h'; exact hr'.1
              | ret => simp only [leafJ, Option.some.injEq] at h'; subst h'; exact hr'.1
            have way : ∀ {z : Code} {oz : JO}, (∀ t ∈ asg z, t ∈ asg x ++ asg y) → codeA P G nt n noLT J (joinO m.length (asg x ++ asg y) E) z E (roA m) [] [] leafJ = some oz → (∀ b ∈ oz.cs, b = true) → Tells' m.length (asg x ++ asg y) E oz o → z.wp P Q a w := by
              intro z oz hzL hz hzc hzs
              -- .. asked of slots that stay alone
              let kk : EX → Env → Mem → List Bool → List Bool → Option JO := fun x' E' m' cs' D' => by
                classical
                exact if Kp (asg x ++ asg y) E E' then leafJ x' E' m' cs' D' else none
              have hkk' : ∀ {x' E' m' cs' D' r'}, kk x' E' m' cs' D' = some r' → Kp (asg x ++ asg y) E E' ∧ leafJ x' E' m' cs' D' = some r' := by
                intro x' E' m' cs' D' r' hh
                simp only [kk] at hh
                split at hh
                · rename_i q; exact ⟨q, hh⟩
                · cases hh
              have hz : codeA P G nt n noLT J (joinO m.length (asg x ++ asg y) E) z E (roA m) [] [] kk = some oz := by
                rw [← hz]
                refine codeA_congr n hP hzL fun x' E' m' cs' D' _ hK => ?_
                simp only [kk]
                rw [if_pos hK]
              obtain ⟨⟨β, hβ, hE, hW, hF⟩, hd, hu⟩ := hrel
              have hro : Rel (fun _ => False) w β nt ds E (roA m) a w := ⟨⟨β, BLe.refl β, hE, hW.ro, fun i hi => hF i (by rwa [roA_length] at hi)⟩, hd, hu⟩
              refine ((ih (joinO_ok m.length (asg x ++ asg y) E o) (HOk.none z m.length) hz ⟨hzc, hzs⟩ (fun x' E' m' cs' D' r' h' hr' => hkk _ _ _ _ _ _ (hkk' h').2 hr')).2 (fun _ => False) w β ds a w Q (fun i hi => hF i hi) hro fun x' E' m' cs' D' r' a' w' h' hr' hrel' => ?_).wp
              obtain ⟨hKp, h'⟩ := hkk' h'
              have fin : ∀ {N : Env}, SubK m.length (asg x ++ asg y) E E' N → Uniq N → Rel S w₀ β₀ nt ds N m a' w' := by
                intro N hsub huN
                obtain ⟨⟨β', b1, b2, b3, b4⟩, b5, b6⟩ := hrel'
                have hlt : ∀ {i : Nat} {be : BE}, β i = some be → i < m.length := fun {i be} hi => by
                  rcases Nat.lt_or_ge i m.length with h | h
                  · exact h
                  · rw [hF i h] at hi; cases hi
                have hcut : BLe β (β'.cutB m.length) := fun i be hi => by
                  unfold BM.cutB
                  rw [if_pos (hlt hi)]
                  exact b1 i be hi
                have hq : Qt w w' := ⟨b3.fr.os, b3.fr.tape, b3.fr.output, b3.fr.size, fun k hk => b3.fr.block k hk fun hn => hn⟩
                refine ⟨⟨β'.cutB m.length, hβ.trans hcut, ⟨b2.size, fun t e he => ?_⟩, (hW.qt hq).more hcut, fun i hi => ?_⟩, b5, huN⟩
                · rcases hsub t e he with ⟨k0, k1⟩ | ⟨_, k1, k2, e', k3, k4, k5⟩
                  · have ht := hP e (get_mem k1).1
                    obtain ⟨c, c1, c2, _⟩ := b2.get t e (hKp t k0 e k1 ht)
                    obtain ⟨c0, _, d2, _⟩ := hE.get t e k1
                    exact ⟨c, c1, fun _ => VR.cut (fun i be hi => hlt hi) (d2 (by rw [ht]; exact holds_nil _)) (c2 (by rw [ht]; exact holds_nil _)), fun hn => absurd (by rw [ht]; exact holds_nil _) hn⟩
                  · obtain ⟨c, c1, c2, _⟩ := b2.get t e' k3
                    refine ⟨c, c1, fun _ => ?_, fun hn => absurd (by rw [k1]; exact holds_nil _) hn⟩
                    exact inBt_ok (k5 _ _ (c2 (by rw [k4]; exact holds_nil _))) k2
                · unfold BM.cutB
                  rw [if_neg (by omega)]
              obtain ⟨t1, t2, t3⟩ := hr'.2
              cases x' with
              | normal =>
                simp only [leafJ, Option.some.injEq] at h'
                subst h'
                have hec : o.ec = false := t1.symm
                obtain ⟨A', N, e1, e2, e3⟩ := t2 hec
                cases e1
                exact hq1 N a' w' hec e2 (fin e3 ((hou.1 N e2).uniq hu))
              | exit id =>
                simp only [leafJ, Option.some.injEq] at h'
                subst h'
                have hec : o.ec = true := t1.symm
                obtain ⟨e, A', X, e1, e2, e3⟩ := t3 hec
                cases e1
                exact hq2 _ X a' w' hec e2 (fin e3 ((hou.2 _ X e2).uniq hu))
              | ret =>
                simp only [leafJ, Option.some.injEq] at h'
                subst h'
                have hec : o.ec = true := t1.symm
                obtain ⟨e, A', X, e1, e2, e3⟩ := t3 hec
                cases e1
                exact hq2 _ X a' w' hec e2 (fin e3 ((hou.2 _ X e2).uniq hu))
            cases s with
            | true => exact wp_cond_true (hc hv (.inr rfl) a w hrel) (way (fun t ht => List.mem_append_left _ ht) hx (hmc.1 rfl) (hs1 rfl))
            | false => exact wp_cond_false (hc hv (.inr rfl) a w hrel) (way (fun t ht => List.mem_append_right _ ht) hy (hmc.2 rfl) (hs2 rfl))
          have pre : ∀ {js : JS} {o' : Option JO}, selJ (ifJ (J && plainE E) o') = js → js ≠ .no → Plain E ∧ ∃ o, o' = some o ∧ selJ (some o) = js := by
            intro js o' hj hn
            cases hJ : (J && plainE E) with
            | false => rw [hJ] at hj; exact absurd hj.symm hn
            | true =>
              rw [hJ] at hj
              refine ⟨plainE_ok (Bool.and_eq_true_iff.1 hJ).2, ?_⟩
              cases o' with
              | none => exact absurd hj.symm hn
              | some o => exact ⟨o, rfl, hj⟩
          split at h
          · rename_i N cs0 hjs
            obtain ⟨hP, o, ho, hsel⟩ := pre hjs (by simp)
            rw [appendK_eq] at h
            have hcs := hk _ _ _ _ _ _ h hr
            have ho1 : o.n = some N ∧ o.r = none ∧ o.cs = cs0 := by
              unfold selJ at hsel
              split at hsel
              · cases hsel; rename_i q; cases q; exact ⟨rfl, rfl, rfl⟩
              · cases hsel
              · cases hsel
            refine ⟨fun b hb => hcs b (List.mem_append_right _ hb), fun S w₀ β₀ ds a w Q hA hrel hq => joined hP ho (fun b hb => hcs b (List.mem_append_left _ (by rw [← ho1.2.2]; exact hb))) S w₀ β₀ ds a w Q hA hrel (fun N' a' w' _ hN hrel' => ?_) fun e X a' w' _ hX _ => ?_⟩
            · rw [ho1.1] at hN
              cases hN
              exact hq _ _ _ _ _ _ _ _ h hr hrel'
            · rw [ho1.2.1] at hX
              cases hX
          · rename_i N e0 X cc cs0 hjs
            obtain ⟨hP, o, ho, hsel⟩ := pre hjs (by simp)
            rw [appendK_eq] at h
            have ho1 : o.n = some N ∧ o.r = some (e0, X) ∧ o.c = cc ∧ o.cs = cs0 := by
              unfold selJ at hsel
              split at hsel
              · cases hsel
              · cases hsel; rename_i q; cases q; exact ⟨rfl, rfl, rfl, rfl⟩
              · cases hsel
            have hec : o.ec = cc := by
              unfold JO.ec
              rw [ho1.1, ho1.2.1]
              exact ho1.2.2.1
            obtain ⟨m0, m1, m2⟩ := hmg _ cc _ _ _ h hr
            refine ⟨fun b hb => m0 b (List.mem_append_right _ hb), fun S w₀ β₀ ds a w Q hA hrel hq => joined hP ho (fun b hb => m0 b (List.mem_append_left _ (by rw [← ho1.2.2.2]; exact hb))) S w₀ β₀ ds a w Q hA hrel (fun N' a' w' he hN hrel' => ?_) fun e X' a' w' he hX hrel' => ?_⟩
            · rw [ho1.1] at hN
              cases hN
              obtain ⟨r2, h2, hr2⟩ := m2 (hec.symm.trans he)
              exact hq _ _ _ _ _ _ _ _ h2 hr2 hrel'
            · rw [ho1.2.1] at hX
              cases hX
              obtain ⟨r1, h1, hr1⟩ := m1 (hec.symm.trans he)
              exact hq _ _ _ _ _ _ _ _ h1 hr1 hrel'
          · obtain ⟨m0, m1, m2⟩ := hmg _ s _ _ _ h hr
            refine ⟨m0, fun S w₀ β₀ ds a w Q hA hrel hq => ?_⟩
            cases s with
            | true =>
              obtain ⟨r1, h1, hr1⟩ := m1 rfl
              exact wp_cond_true (hc hv (.inr rfl) a w hrel) ((ih hmg hHx h1 hr1 hk).2 S w₀ β₀ ds a w Q hA hrel hq).wp
            | false =>
              obtain ⟨r1, h1, hr1⟩ := m2 rfl
              exact wp_cond_false (hc hv (.inr rfl) a w hrel) ((ih hmg hHy h1 hr1 hk).2 S w₀ β₀ ds a w Q hA hrel hq).wp
        · obtain ⟨g1, g2⟩ := ih hmg hHx h hr hk
          have hs := g1 s (List.mem_cons_self ..)
          subst hs
          exact ⟨fun b hb => g1 b (List.mem_cons_of_mem _ hb), fun S w₀ β₀ ds a w Q hA hrel hq => wp_cond_true (hc hv (.inr rfl) a w hrel) (g2 S w₀ β₀ ds a w Q hA hrel hq).wp⟩
        · obtain ⟨g1, g2⟩ := ih hmg hHy h hr hk
          have hs := g1 (!s) (List.mem_cons_self ..)
          have hs : s = false := by simpa using hs
          subst hs
          exact ⟨fun b hb => g1 b (List.mem_cons_of_mem _ hb), fun S w₀ β₀ ds a w Q hA hrel hq => wp_cond_false (hc hv (.inr rfl) a w hrel) (g2 S w₀ β₀ ds a w Q hA hrel hq).wp⟩
      · cases h
    case block id b =>
      have hHb : HOk P nt A H b := fun id' b' hb => hH id' b' (List.mem_cons_of_mem _ hb)
      split at h
      · rename_i cs0 t ht
        rw [appendK_eq] at h
        obtain ⟨g1, cs', D', r', g2, g3⟩ := lrA_ok hmg hk h hr
        refine ⟨fun b hb => g1 b (List.mem_append_right _ hb), fun S w₀ β₀ ds a w Q hA hrel hq => ?_⟩
        exact hH id b (List.mem_cons_self ..) E m cs0 t ht (fun b hb => g1 b (List.mem_append_left _ hb)) S w₀ β₀ ds a w Q hA hrel fun a' w' hrel' => hq _ _ _ _ _ _ _ _ g2 g3 hrel'
      · have hk1 : KOk Sat (fun x E' m' cs' D' => match x with
            | .exit id' => match Nat.beq id' id with
              | true => k .normal E' m' cs' D'
              | false => k (.exit id') E' m' cs' D'
            | x => k x E' m' cs' D') := by
          intro x E' m' cs' D' r' h' hr'
          cases x with
          | normal => exact hk _ _ _ _ _ _ h' hr'
          | exit id' =>
            simp only at h'
            split at h'
            · exact hk _ _ _ _ _ _ h' hr'
            · exact hk _ _ _ _ _ _ h' hr'
          | ret => exact hk _ _ _ _ _ _ h' hr'
        obtain ⟨g1, g2⟩ := ih hmg hHb h hr hk1
        refine ⟨g1, fun S w₀ β₀ ds a w Q hA hrel hq => wp_block (g2 S w₀ β₀ ds a w (Exit.inBlock id Q) hA hrel fun x E' m' cs' D' r' a' w' h' hr' hrel' => ?_).wp⟩
        cases x with
        | normal => exact hq _ _ _ _ _ _ _ _ h' hr' hrel'
        | ret => exact hq _ _ _ _ _ _ _ _ h' hr' hrel'
        | exit id' =>
          simp only at h'
          split at h'
          · rename_i hb
            have hb := Nat.eq_of_beq_eq_true hb
            subst hb
            simp only [EX.out, Exit.inBlock, if_true]
            exact hq _ _ _ _ _ _ _ _ h' hr' hrel'
          · rename_i hb
            have hne : id' ≠ id := fun e => by rw [e, Nat.beq_refl] at hb; cases hb
            simp only [EX.out, Exit.inBlock, hne, if_false]
            exact hq _ _ _ _ _ _ _ _ h' hr' hrel'
    case loop b =>
      have hHb : HOk P nt A H b := hH
      have hk1 : KOk Sat (fun x E' m' cs' D' => match x with
          | .normal => codeA P G nt n H J mg (.loop b) E' m' cs' D' k
          | x => k x E' m' cs' D') := by
        intro x E' m' cs' D' r' h' hr'
        cases x with
        | normal => exact (ih hmg hH h' hr' hk).1
        | exit id => exact hk _ _ _ _ _ _ h' hr'
        | ret => exact hk _ _ _ _ _ _ h' hr'
      obtain ⟨g1, g2⟩ := ih hmg hHb h hr hk1
      refine ⟨g1, fun S w₀ β₀ ds a w Q hA hrel hq => ?_⟩
      show Code.rounds P b Q (n + 1) a w
      refine (g2 S w₀ β₀ ds a w (Exit.then (Code.rounds P b Q n) Q) hA hrel fun x E' m' cs' D' r' a' w' h' hr' hrel' => ?_).wp
      cases x with
      | normal => exact (ih hmg hH h' hr' hk).2 S w₀ β₀ ds a' w' Q hA hrel' hq
      | exit id => exact hq _ _ _ _ _ _ _ _ h' hr' hrel'
      | ret => exact hq _ _ _ _ _ _ _ _ h' hr' hrel'

end
end Go.Sim

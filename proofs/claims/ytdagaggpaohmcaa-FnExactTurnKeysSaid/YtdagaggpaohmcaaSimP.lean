/-
  A region; code.
-/
import Derived.Test.YtdagaggpaohmcaaSimO
namespace Go.Sim

section
variable {P : Program} {G : Summ} {S : Nat → Prop} {w₀ w : World} {β β₀ : BM} {m : Mem} {nt : Nat} {E : Env} {a : Act} {ds : List Deferred} {R : Type}

/-- A region. -/
theorem region_ok (hG : SoundG P G) (hm : P.follows .mixedOrders = true) {mg : List Bool → Bool → Option R → Option R → Option R} {Sat : R → Prop} (hmg : MgOk mg Sat) {id : Nat} {draw : Bool} {ops : Array Oper} {cs D : List Bool} {k : Env → Mem → List Bool → List Bool → Option R} {r : R} (h : regionA P G nt mg draw ops E m cs D k = some r) (hr : Sat r)
    (hk : ∀ E m cs D r, k E m cs D = some r → Sat r → ∀ b ∈ cs, b = true) :
    (∀ b ∈ cs, b = true) ∧ ∀ a w (Q : Exit → Act → World → Prop), Rel S w₀ β₀ nt ds E m a w → (∀ E' m' cs' D' r' a' w', k E' m' cs' D' = some r' → Sat r' → Rel S w₀ β₀ nt ds E' m' a' w' → Q .normal a' w') → (Code.region id ops draw).wp P Q a w := by
  unfold regionA at h
  split at h
  · obtain ⟨h1, h2⟩ := opsA_ok (S := S) (w₀ := w₀) (β₀ := β₀) (ds := ds) hG hmg _ h hr fun E m cs D r h' hr' => by
      obtain ⟨E', h2, _⟩ := plainK_uniq h'
      exact hk _ _ _ _ _ h2 hr'
    refine ⟨h1, fun a w Q hrel hq => wp_region_list (h2 a w Q hrel fun E' m' cs' D' r' a' w' h' hr' hrel' => ?_)⟩
    obtain ⟨E'', h3, he, hu⟩ := plainK_uniq h'
    exact hq _ _ _ _ _ _ _ h3 hr' (hrel'.plain he (hu hrel'.uniq))
  · split at h
    · rename_i hs
      obtain ⟨E0, h0, he0, hu0⟩ := plainK_uniq h
      obtain ⟨E1, m1, cs1, h1, hc1, hs1⟩ := draw_ok (S := S) (w₀ := w₀) (β₀ := β₀) (ds := ds) (id := id) hG hm hs (fun e he => (he0 e he).2) h0
      obtain ⟨E', h2, he, hu⟩ := plainK_uniq h1
      have hcs := hk _ _ _ _ _ h2 hr
      exact ⟨fun b hb => hcs b (hc1 b hb), fun a w Q hrel hq => hs1 hcs a w Q (hrel.plain he0 (hu0 hrel.uniq)) fun a' w' hr' => hq _ _ _ _ _ _ _ h2 hr (hr'.plain he (hu hr'.uniq))⟩
    · cases h

/-! ### Code -/

def EX.out : EX → Exit
  | .normal => .normal
  | .exit id => .exit id
  | .ret => .ret

/-- What is shown of a piece of code; of a loop, in so many rounds. -/
def WPN (P : Program) (N : Nat) (c : Code) (Q : Exit → Act → World → Prop) (a : Act) (w : World) : Prop :=
  match c with
  | .loop b => Code.rounds P b Q N a w
  | c => c.wp P Q a w

theorem WPN.wp {N : Nat} {c : Code} {Q : Exit → Act → World → Prop} (h : WPN P N c Q a w) : c.wp P Q a w := by
  cases c <;> first | exact h | exact wp_loop_rounds N h

/-- A continuation's outcome bears what must be true so far. -/
def KOk (Sat : R → Prop) (k : EX → Env → Mem → List Bool → List Bool → Option R) : Prop :=
  ∀ x E m cs D r, k x E m cs D = some r → Sat r → ∀ b ∈ cs, b = true

/-! ### Two outcomes brought together -/

theorem merge1_ok {β : BM} {s : Bool} {x y z : AV} (h : merge1 s x y = some z) : (∀ c, s = true → SR β x c → SR β z c) ∧ (∀ c, s = false → SR β y c → SR β z c) := by
  unfold merge1 at h
  repeat' split at h
  all_goals first
    | (cases h; done)
    | (cases h; refine ⟨fun c hs hc => ?_, fun c hs hc => ?_⟩ <;> cases hc <;> subst hs <;> constructor <;> done)
    | skip
  all_goals cases h
  all_goals refine ⟨fun c hs hc => ?_, fun c hs hc => ?_⟩ <;> subst hs <;> simp only [decide_eq_true_eq, Bool.and_eq_true, Nat.beq_eq] at * <;> first | exact hc | skip
  all_goals first
    | (rename_i e; obtain ⟨rfl, rfl⟩ := e; exact hc)
    | (rename_i e; obtain ⟨⟨⟨rfl, rfl⟩, rfl⟩, rfl⟩ := e; exact hc)
    | (subst_vars; exact hc)
    | (subst_vars; cases hc; constructor; done)
    | (subst_vars; cases hc; constructor; assumption)

theorem mergeL1_ok {β : BM} {s : Bool} : ∀ {x y z : List AV}, mergeL1 s x y = some z → (∀ c, s = true → SRs β x c → SRs β z c) ∧ (∀ c, s = false → SRs β y c → SRs β z c)
  | [], [], z, h => by cases h; exact ⟨fun c _ hc => hc, fun c _ hc => hc⟩
  | x :: r, [], z, h => by cases h
  | [], y :: r', z, h => by cases h
  | x :: r, y :: r', z, h => by
    simp only [mergeL1] at h
    split at h
    · rename_i v l h1 h2
      cases h
      have e1 := merge1_ok (β := β) h1
      have e2 := mergeL1_ok (β := β) h2
      exact ⟨fun c hs hc => by cases hc with | cons _ _ _ _ a b => exact .cons _ _ _ _ (e1.1 _ hs a) (e2.1 _ hs b), fun c hs hc => by cases hc with | cons _ _ _ _ a b => exact .cons _ _ _ _ (e1.2 _ hs a) (e2.2 _ hs b)⟩
    · cases h

theorem merge1_sc {β : BM} {s : Bool} {x y z : AV} (h : merge1 s x y = some z) : (∀ c, s = true → VR β x c → VR β z c) ∧ (∀ c, s = false → VR β y c → VR β z c) := by
  have e := merge1_ok (β := β) h
  have nx : (∀ l, x ≠ .agg l) ∧ (∀ l, x ≠ .tup l) ∧ (∀ l, y ≠ .agg l) ∧ (∀ l, y ≠ .tup l) := by
    refine ⟨?_, ?_, ?_, ?_⟩ <;> intro l hl <;> subst hl <;> first | (cases h; done) | (cases x <;> cases h)
  refine ⟨fun c hs hc => ?_, fun c hs hc => ?_⟩
  · cases hc with
    | sc _ _ hc => exact .sc _ _ (e.1 _ hs hc)
    | agg l _ _ => exact absurd rfl (nx.1 l)
    | tup l _ _ => exact absurd rfl (nx.2.1 l)
  · cases hc with
    | sc _ _ hc => exact .sc _ _ (e.2 _ hs hc)
    | agg l _ _ => exact absurd rfl (nx.2.2.1 l)
    | tup l _ _ => exact absurd rfl (nx.2.2.2 l)

theorem merge2_ok {β : BM} {s : Bool} {x y z : AV} (h : merge2 s x y = some z) : (∀ c, s = true → VR β x c → VR β z c) ∧ (∀ c, s = false → VR β y c → VR β z c) := by
  unfold merge2 at h
  split at h
  · split at h
    · rename_i l hl
      cases h
      have e := mergeL1_ok (β := β) hl
      exact ⟨fun c hs hc => by cases hc with | sc _ _ hc => cases hc | agg _ _ hc => exact .agg _ _ (e.1 _ hs hc), fun c hs hc => by cases hc with | sc _ _ hc => cases hc | agg _ _ hc => exact .agg _ _ (e.2 _ hs hc)⟩
    · cases h
  · exact merge1_sc h

theorem mergeL2_ok {β : BM} {s : Bool} : ∀ {x y z : List AV}, mergeL2 s x y = some z → (∀ c, s = true → VRs β x c → VRs β z c) ∧ (∀ c, s = false → VRs β y c → VRs β z c)
  | [], [], z, h => by cases h; exact ⟨fun c _ hc => hc, fun c _ hc => hc⟩
  | x :: r, [], z, h => by cases h
  | [], y :: r', z, h => by cases h
  | x :: r, y :: r', z, h => by
    simp only [mergeL2] at h
    split at h
    · rename_i v l h1 h2
      cases h
      have e1 := merge2_ok (β := β) h1
      have e2 := mergeL2_ok (β := β) h2
      exact ⟨fun c hs hc => by cases hc with | cons _ _ _ _ a b => exact .cons _ _ _ _ (e1.1 _ hs a) (e2.1 _ hs b), fun c hs hc => by cases hc with | cons _ _ _ _ a b => exact .cons _ _ _ _ (e1.2 _ hs a) (e2.2 _ hs b)⟩
    · cases h

theorem mergeA_ok {β : BM} {s : Bool} {x y z : AV} (h : mergeA s x y = some z) : (∀ c, s = true → VR β x c → VR β z c) ∧ (∀ c, s = false → VR β y c → VR β z c) := by
  unfold mergeA at h
  split at h
  · split at h
    · rename_i l hl
      cases h
      have e := mergeL2_ok (β := β) hl
      exact ⟨fun c hs hc => by cases hc with | sc _ _ hc => cases hc | tup _ _ hc => exact .tup _ _ (e.1 _ hs hc), fun c hs hc => by cases hc with | sc _ _ hc => cases hc | tup _ _ hc => exact .tup _ _ (e.2 _ hs hc)⟩
    · cases h
  · exact merge2_ok h

theorem mergeC_ok {s : Bool} {x y : List Bool} (h : ∀ b ∈ mergeC s x y, b = true) : (s = true → ∀ b ∈ x, b = true) ∧ (s = false → ∀ b ∈ y, b = true) := by
  induction x with
  | nil =>
    refine ⟨fun _ b hb => by simp at hb, fun hs b hb => ?_⟩
    have := h (s || b) (by simp only [mergeC, List.mem_map]; exact ⟨b, hb, rfl⟩)
    rw [hs] at this
    simpa using this
  | cons a r ih =>
    have ih := ih fun b hb => h b (List.mem_cons_of_mem _ hb)
    refine ⟨fun hs b hb => ?_, ih.2⟩
    rcases List.mem_cons.1 hb with rfl | hb
    · have := h _ (List.mem_cons_self ..)
      rw [hs] at this
      simpa using this
    · exact ih.1 hs b hb

theorem mergeV_ok (v : AV) : MgOk mergeV fun r : AV × List Bool => (∀ b ∈ r.2, b = true) ∧ ∀ β c, VR β r.1 c → VR β v c := by
  intro base s o1 o2 r h hr
  unfold mergeV at h
  split at h
  · rename_i v1 cs1 v2 cs2
    split at h
    · rename_i u hu
      rw [appendK_eq] at h
      cases h
      obtain ⟨h1, h2⟩ := hr
      have hc := mergeC_ok (s := s) (x := cs1) (y := cs2) fun b hb => h1 b (List.mem_append_left _ hb)
      exact ⟨fun b hb => h1 b (List.mem_append_right _ hb), fun hs => ⟨_, rfl, hc.1 hs, fun β c hv => h2 β c ((mergeA_ok hu).1 c hs hv)⟩, fun hs => ⟨_, rfl, hc.2 hs, fun β c hv => h2 β c ((mergeA_ok hu).2 c hs hv)⟩⟩
    · cases h
  · cases h

/-! ### A block's summary -/

/-- How it ends. -/
def LR.pick : LR → EX × Env × Mem
  | .leaf x E m => (x, E, m)
  | .node s a b => if s then a.pick else b.pick

/-- All blocks of a piece of code. -/
def blks : Code → List (Nat × Code)
  | .seq a b => blks a ++ blks b
  | .cond _ a b => blks a ++ blks b
  | .block id b => (id, b) :: blks b
  | .loop b => blks b
  | _ => []

/-- What a summary says of a block, the block does. 'A': how many blocks of memory came with the call. -/
def BlkOk (P : Program) (nt A : Nat) (H : LTab) (id : Nat) (b : Code) : Prop :=
  ∀ E m cs t, H id E m = some (cs, t) → (∀ b ∈ cs, b = true) → ∀ S w₀ β₀ ds a w (Q : Exit → Act → World → Prop), (∀ i, A ≤ i → β₀ i = none) → Rel S w₀ β₀ nt ds E m a w →
    (∀ a' w', Rel S w₀ β₀ nt ds t.pick.2.1 t.pick.2.2 a' w' → Q t.pick.1.out a' w') → (Code.block id b).wp P Q a w

def HOk (P : Program) (nt A : Nat) (H : LTab) (c : Code) : Prop := ∀ id b, (id, b) ∈ blks c → BlkOk P nt A H id b

theorem HOk.none (c : Code) (A : Nat) : HOk P nt A noLT c := fun _ _ _ _ _ _ _ h => by cases h

theorem lrA_ok {mg : List Bool → Bool → Option R → Option R → Option R} {Sat : R → Prop} (hmg : MgOk mg Sat) {k : EX → Env → Mem → List Bool → List Bool → Option R} (hk : KOk Sat k) : ∀ {t : LR} {cs D : List Bool} {r : R}, lrA mg t cs D k = some r → Sat r →
    (∀ b ∈ cs, b = true) ∧ ∃ cs' D' r', k t.pick.1 t.pick.2.1 t.pick.2.2 cs' D' = some r' ∧ Sat r'
  | .leaf x E m, cs, D, r, h, hr => by
    simp only [lrA, forceK_eq] at h
    exact ⟨hk _ _ _ _ _ _ h hr, cs, D, r, h, hr⟩
  | .node s a b, cs, [], r, h, hr => by
    simp only [lrA] at h
    obtain ⟨m0, m1, m2⟩ := hmg _ s _ _ _ h hr
    refine ⟨m0, ?_⟩
    cases s with
    | true =>
      obtain ⟨r1, h1, hr1⟩ := m1 rfl
      exact (lrA_ok hmg hk h1 hr1).2
    | false =>
      obtain ⟨r1, h1, hr1⟩ := m2 rfl
      exact (lrA_ok hmg hk h1 hr1).2
  | .node s a b, cs, true :: D, r, h, hr => by
    simp only [lrA] at h
    obtain ⟨g1, g2⟩ := lrA_ok hmg hk h hr
    have hs := g1 s (List.mem_cons_self ..)
    subst hs
    exact ⟨fun b hb => g1 b (List.mem_cons_of_mem _ hb), g2⟩
  | .node s a b, cs, false :: D, r, h, hr => by
    simp only [lrA] at h
    obtain ⟨g1, g2⟩ := lrA_ok hmg hk h hr
    have hs := g1 (!s) (List.mem_cons_self ..)
    have hs : s = false := by simpa using hs
    subst hs
    exact ⟨fun b hb => g1 b (List.mem_cons_of_mem _ hb), g2⟩

/-! ### Two ways brought together behind a test -/

/-- Slots of 'E' as 'E'' tells them. -/
def SubE (n : Nat) (E E' : Env) : Prop := ∀ t e, E'.get t = some e → e.tg = [] ∧ inBt n e.v = true ∧ ∃ e', E.get t = some e' ∧ e'.tg = [] ∧ ∀ (β : BM) (c : Value), VR β e'.v c → VR β e.v c

theorem env_get_cons {e : Ent} {r : Env} {t : Nat} : Env.get (e :: r) t = if e.s = t then some e else Env.get r t := by
  simp only [Env.get]
  split
  · rename_i h; rw [if_pos (Nat.eq_of_beq_eq_true h)]
  · rename_i h; rw [if_neg (fun he => by rw [he, Nat.beq_refl] at h; cases h)]

theorem env_get_s : ∀ {E : Env} {t : Nat} {e : Ent}, E.get t = some e → e.s = t
  | [], _, _, h => by simp [Env.get] at h
  | a :: r, t, e, h => by
    rw [env_get_cons] at h
    split at h
    · rename_i hs; cases h; exact hs
    · exact env_get_s h

theorem joinE_eq {n : Nat} {s : Bool} {E1 E2 : Env} : ∀ {E0 : Env} {k : Env → Option JO} {r : JO}, joinE n s E1 E2 E0 k = some r → ∃ E', k E' = some r ∧ (∀ x ∈ E', ∃ e ∈ E0, e.s = x.s) ∧ (Uniq E0 → Uniq E') ∧
    (∀ x ∈ E', x.tg = [] ∧ inBt n x.v = true ∧ ∃ u1 v1 u2 v2, E1.get x.s = some ⟨u1, v1, []⟩ ∧ E2.get x.s = some ⟨u2, v2, []⟩ ∧ mergeA s v1 v2 = some x.v)
  | [], k, r, h => ⟨[], h, fun x hx => by simp at hx, fun _ => trivial, fun x hx => by simp at hx⟩
  | e :: E0, k, r, h => by
    have skip : joinE n s E1 E2 E0 k = some r → (∃ E', k E' = some r ∧ (∀ x ∈ E', ∃ y ∈ e :: E0, y.s = x.s) ∧ (Uniq (e :: E0) → Uniq E') ∧
        (∀ x ∈ E', x.tg = [] ∧ inBt n x.v = true ∧ ∃ u1 v1 u2 v2, E1.get x.s = some ⟨u1, v1, []⟩ ∧ E2.get x.s = some ⟨u2, v2, []⟩ ∧ mergeA s v1 v2 = some x.v)) := fun h' => by
      obtain ⟨E', h1, h2, h3, h4⟩ := joinE_eq h'
      exact ⟨E', h1, fun x hx => let ⟨y, hy, hs⟩ := h2 x hx; ⟨y, List.mem_cons_of_mem _ hy, hs⟩, fun hu => h3 hu.2, h4⟩
    simp only [joinE] at h
    split at h
    · rename_i u1 v1 u2 v2 h1 h2
      split at h
      · rename_i v hv
        split at h
        · rename_i hin
          obtain ⟨E', g1, g2, g3, g4⟩ := joinE_eq h
          refine ⟨_, g1, fun x hx => ?_, fun hu => ⟨fun x hx => ?_, g3 hu.2⟩, fun x hx => ?_⟩
          · rcases List.mem_cons.1 hx with rfl | hx
            · exact ⟨e, List.mem_cons_self .., rfl⟩
            · obtain ⟨y, hy, hs⟩ := g2 x hx
              exact ⟨y, List.mem_cons_of_mem _ hy, hs⟩
          · obtain ⟨y, hy, hs⟩ := g2 x hx
            rw [← hs]
            exact hu.1 y hy
          · rcases List.mem_cons.1 hx with rfl | hx
            · exact ⟨rfl, hin, u1, v1, u2, v2, h1, h2, hv⟩
            · exact g4 x hx
        · exact skip h
      · exact skip h
    · exact skip h

theorem joinO_sub {n : Nat} {E0 : Env} {base : List Bool} {s : Bool} {x y : Option JO} {o : JO} (h : joinO n E0 base s x y = some o) :
    ∃ E1 cs1 E2 cs2, x = some ⟨E1, cs1⟩ ∧ y = some ⟨E2, cs2⟩ ∧ o.cs = mergeC s cs1 cs2 ++ base ∧ (Uniq E0 → Uniq o.E) ∧ (s = true → SubE n E1 o.E) ∧ (s = false → SubE n E2 o.E) ∧ SubE n o.E o.E := by
  unfold joinO at h
  split at h
  · rename_i E1 cs1 E2 cs2
    rw [appendK_eq] at h
    obtain ⟨E', h1, h2, h3, h4⟩ := joinE_eq h
    cases h1
    have key : ∀ t e, E'.get t = some e → e.tg = [] ∧ inBt n e.v = true ∧ ∃ u1 v1 u2 v2, E1.get t = some ⟨u1, v1, []⟩ ∧ E2.get t = some ⟨u2, v2, []⟩ ∧ mergeA s v1 v2 = some e.v := by
      intro t e he
      obtain ⟨hm, hs⟩ := get_mem he
      obtain ⟨k1, k2, k3⟩ := h4 e hm
      rw [hs] at k3
      exact ⟨k1, k2, k3⟩
    refine ⟨E1, cs1, E2, cs2, rfl, rfl, rfl, h3, fun hs t e he => ?_, fun hs t e he => ?_, fun t e he => ?_⟩
    · obtain ⟨k1, k2, u1, v1, u2, v2, k3, k4, k5⟩ := key t e he
      exact ⟨k1, k2, _, k3, rfl, fun β c hc => (mergeA_ok k5).1 c hs hc⟩
    · obtain ⟨k1, k2, u1, v1, u2, v2, k3, k4, k5⟩ := key t e he
      exact ⟨k1, k2, _, k4, rfl, fun β c hc => (mergeA_ok k5).2 c hs hc⟩
    · obtain ⟨k1, k2, _⟩ := key t e he
      exact ⟨k1, k2, e, he, k1, fun _ _ hc => hc⟩
  · cases h

theorem SubE.trans {n : Nat} {A B C : Env} (h : SubE n A B) (k : SubE n B C) : SubE n A C := by
  intro t e he
  obtain ⟨k1, k2, e', k3, _, k4⟩ := k t e he
  obtain ⟨_, _, e'', h3, h4, h5⟩ := h t e' k3
  exact ⟨k1, k2, e'', h3, h4, fun β c hc => k4 β c (h5 β c hc)⟩

theorem joinO_ok (n : Nat) (E0 Ef : Env) : MgOk (joinO n E0) fun o : JO => (∀ b ∈ o.cs, b = true) ∧ SubE n o.E Ef := by
  intro base s x y o h hr
  obtain ⟨E1, cs1, E2, cs2, hx, hy, hcs, _, h1, h2, _⟩ := joinO_sub h
  obtain ⟨r1, r2⟩ := hr
  rw [hcs] at r1
  have hc := mergeC_ok (s := s) (x := cs1) (y := cs2) fun b hb => r1 b (List.mem_append_left _ hb)
  exact ⟨fun b hb => r1 b (List.mem_append_right _ hb), fun hs => ⟨_, hx, hc.1 hs, (h1 hs).trans r2⟩, fun hs => ⟨_, hy, hc.2 hs, (h2 hs).trans r2⟩⟩

theorem roA_length : ∀ (m : Mem), (roA m).length = m.length
  | [] => rfl
  | none :: r => by simp [roA, roA_length r]
  | some (.lit _ _) :: r => by simp [roA, roA_length r]
  | some (.sym ..) :: r => by simp [roA, roA_length r]

def Blk.roB : Blk → Blk
  | .lit c _ => .lit c false
  | .sym n k y _ => .sym n k y false

theorem roA_at : ∀ {m : Mem} {i : Nat} {bk : Blk}, (roA m).at i = some bk → ∃ bk', m.at i = some bk' ∧ bk = bk'.roB
  | [], i, bk, h => by simp [roA, Mem.at] at h
  | none :: r, 0, bk, h => by simp [roA, Mem.at] at h
  | none :: r, i + 1, bk, h => by simp only [roA, Mem.at] at h ⊢; exact roA_at h
  | some (.lit c rw) :: r, 0, bk, h => by simp only [roA, Mem.at, Option.some.injEq] at h; subst h; exact ⟨_, rfl, rfl⟩
  | some (.lit c rw) :: r, i + 1, bk, h => by simp only [roA, Mem.at] at h ⊢; exact roA_at h
  | some (.sym ..) :: r, 0, bk, h => by simp only [roA, Mem.at, Option.some.injEq] at h; subst h; exact ⟨_, rfl, rfl⟩
  | some (.sym ..) :: r, i + 1, bk, h => by simp only [roA, Mem.at] at h ⊢; exact roA_at h

theorem roB_rw (bk : Blk) : bk.roB.rw = false := by cases bk <;> rfl

theorem BR.roB {bk : Blk} {be : BE} (h : BR β bk be w) : BR β bk.roB be w := by
  obtain ⟨c, e, fr, h1, h2, h3, h4, h5⟩ := h
  cases bk <;> exact ⟨c, e, fr, h1, (fun hh => by cases hh), h3, h4, h5⟩

/-- Looked at alone. -/
theorem WS.ro (h : WS S w₀ β m w) : WS (fun _ => False) w β (roA m) w := by
  refine ⟨⟨fun i bk hi => ?_, fun i j bi bj ei ej hi _ _ hr => ?_⟩, Fr.refl _ w, fun i bk be hi hr => ?_⟩
  · obtain ⟨bk', h1, rfl⟩ := roA_at hi
    obtain ⟨be, h2, h3⟩ := h.sim.blk i bk' h1
    exact ⟨be, h2, h3.roB⟩
  · obtain ⟨bk', _, rfl⟩ := roA_at hi
    rw [roB_rw] at hr; cases hr
  · obtain ⟨bk', _, rfl⟩ := roA_at hi
    rw [roB_rw] at hr; cases hr

/-- The first 'n' blocks alone. -/
def BM.cutB (β : BM) (n : Nat) : BM := fun i => if i < n then β i else none

/-- More blocks known of. -/
theorem WS.more {β' : BM} (h : WS S w₀ β m w) (hb : BLe β β') : WS S w₀ β' m w := by
  have same : ∀ {i : Nat} {bk : Blk} {be : BE}, m.at i = some bk → β' i = some be → β i = some be := by
    intro i bk be hi hbe
    obtain ⟨be', h1, _⟩ := h.sim.blk i bk hi
    have := hb _ _ h1
    rw [this] at hbe
    cases hbe
    exact h1
  refine ⟨⟨fun i bk hi => ?_, fun i j bi bj ei ej hi hj hij hr hei hej => h.sim.sep i j bi bj ei ej hi hj hij hr (same hi hei) (same hj hej)⟩, h.fr, fun i bk be hi hr hbe => h.own i bk be hi hr (same hi hbe)⟩
  obtain ⟨be, h1, h2⟩ := h.sim.blk i bk hi
  exact ⟨be, hb _ _ h1, h2.mono hb rfl⟩

mutual
theorem SR.flatB {β β' : BM} {x : AV} {y : Value} : SR β x y → x.flat = true → SR β' x y
  | .bool b, _ => .bool b
  | .sbool b, _ => .sbool b
  | .int k n h, _ => .int k n h
  | .sint k n h, _ => .sint k n h
  | .flt k x b h h', _ => .flt k x b h h'
  | .str s, _ => .str s
  | .pnil, _ => .pnil
  | .ptr _ _ _ _, h => by simp [AV.flat] at h
  | .snil, _ => .snil
  | .slc _ _ _ _ _ _ _ _ _, h => by simp [AV.flat] at h
  | .sslc _ _ _ _ _ _ _ _ _, h => by simp [AV.flat] at h
  | .fn f caps cs h, hf => .fn f caps cs (SRs.flatB h (by simpa [AV.flat] using hf))
  | .nilfn, _ => .nilfn
theorem SRs.flatB {β β' : BM} {x : List AV} {y : List Value} : SRs β x y → flatL x = true → SRs β' x y
  | .nil, _ => .nil
  | .cons x y xs ys h hs, hf => by
    simp only [flatL, Bool.and_eq_true] at hf
    exact .cons x y xs ys (SR.flatB h hf.1) (SRs.flatB hs hf.2)
end

mutual
theorem VR.flatB {β β' : BM} {x : AV} {y : Value} : VR β x y → x.flat = true → VR β' x y
  | .sc x y h, hf => .sc x y (h.flatB hf)
  | .agg xs ys h, hf => .agg xs ys (h.flatB (by simpa [AV.flat] using hf))
  | .tup xs ys h, hf => .tup xs ys (VRs.flatB h (by simpa [AV.flat] using hf))
theorem VRs.flatB {β β' : BM} {x : List AV} {y : List Value} : VRs β x y → flatL x = true → VRs β' x y
  | .nil, _ => .nil
  | .cons x y xs ys h hs, hf => by
    simp only [flatL, Bool.and_eq_true] at hf
    exact .cons x y xs ys (VR.flatB h hf.1) (VRs.flatB hs hf.2)
end

theorem inBt_ok {β : BM} {n : Nat} {x : AV} {c : Value} (h : VR β x c) (hk : inBt n x = true) : VR (β.cutB n) x c := by
  have key : ∀ {k : Nat} {be : BE}, Nat.blt k n = true → β k = some be → (β.cutB n) k = some be := by
    intro k be hk hb
    have hk : k < n := by simpa [Nat.blt_eq] using hk
    unfold BM.cutB
    rw [if_pos hk]
    exact hb
  cases x with
  | ptr k o => cases h with | sc _ _ h => cases h with | ptr _ _ be hb => exact .sc _ _ (.ptr _ _ be (key hk hb))
  | slc k o n e => cases h with | sc _ _ h => cases h with | slc _ _ _ _ be cap hb h1 h2 => exact .sc _ _ (.slc _ _ _ _ be cap (key hk hb) h1 h2)
  | sslc k o n e => cases h with | sc _ _ h => cases h with | sslc _ _ _ _ be cap hb h1 h2 => exact .sc _ _ (.sslc _ _ _ _ be cap (key hk hb) h1 h2)
  | tup l => exact h.flatB (by simpa [AV.flat, inBt] using hk)
  | _ => exact h.flatB hk

theorem codeA_ok (hG : SoundG P G) (hm : P.follows .mixedOrders = true) (n : Nat) : ∀ {H : LTab} {J : Bool} {A : Nat} {R : Type} {mg : List Bool → Bool → Option R → Option R → Option R} {Sat : R → Prop}, MgOk mg Sat → ∀ {c : Code} {E : Env} {m : Mem} {cs D : List Bool} {k : EX → Env → Mem → List Bool → List Bool → Option R} {r : R}, HOk P nt A H c →
    codeA P G nt n H J mg c E m cs D k = some r → Sat r → KOk Sat k →
    (∀ b ∈ cs, b = true) ∧ ∀ (S : Nat → Prop) (w₀ : World) (β₀ : BM) (ds : List Deferred) a w (Q : Exit → Act → World → Prop), (∀ i, A ≤ i → β₀ i = none) → Rel S w₀ β₀ nt ds E m a w → (∀ x E' m' cs' D' r' a' w', k x E' m' cs' D' = some r' → Sat r' → Rel S w₀ β₀ nt ds E' m' a' w' → Q x.out a' w') → WPN P n c Q a w := by
  induction n with
  | zero => intro H J A R mg Sat hmg c E m cs D k r _ h; simp [codeA] at h
  | succ n ih =>
    intro H J A R mg Sat hmg c E m cs D k r hH h hr hk
    cases c <;> simp only [codeA] at h <;> try (cases h; done)
    case skip => exact ⟨hk _ _ _ _ _ _ h hr, fun S w₀ β₀ ds a w Q hA hrel hq => wp_skip (hq _ _ _ _ _ _ _ _ h hr hrel)⟩
    case ret => exact ⟨hk _ _ _ _ _ _ h hr, fun S w₀ β₀ ds a w Q hA hrel hq => wp_ret (hq _ _ _ _ _ _ _ _ h hr hrel)⟩
    case exit id => exact ⟨hk _ _ _ _ _ _ h hr, fun S w₀ β₀ ds a w Q hA hrel hq => wp_exit (hq _ _ _ _ _ _ _ _ h hr hrel)⟩
    case region id ops draw =>
      refine ⟨(region_ok (S := fun _ => False) (w₀ := default) (β₀ := fun _ => none) (ds := []) (id := id) hG hm hmg h hr fun E m cs D r h' hr' => hk _ _ _ _ _ _ h' hr').1, fun S w₀ β₀ ds a w Q hA hrel hq => ?_⟩
      obtain ⟨_, h2⟩ := region_ok (S := S) (w₀ := w₀) (β₀ := β₀) (ds := ds) (id := id) hG hm hmg h hr fun E m cs D r h' hr' => hk _ _ _ _ _ _ h' hr'
      exact h2 a w Q hrel fun E' m' cs' D' r' a' w' h' hr' hrel' => hq _ _ _ _ _ _ _ _ h' hr' hrel'
    case seq c1 c2 =>
      have hH1 : HOk P nt A H c1 := fun id b hb => hH id b (List.mem_append_left _ hb)
      have hH2 : HOk P nt A H c2 := fun id b hb => hH id b (List.mem_append_right _ hb)
      have hk1 : KOk Sat (fun x E' m' cs' D' => match x with
          | .normal => codeA P G nt n H J mg c2 E' m' cs' D' k
          | x => k x E' m' cs' D') := by
        intro x E' m' cs' D' r' h' hr'
        cases x with
        | normal => exact (ih hmg hH2 h' hr' hk).1
        | exit id => exact hk _ _ _ _ _ _ h' hr'
        | ret => exact hk _ _ _ _ _ _ h' hr'
      obtain ⟨g1, g2⟩ := ih hmg hH1 h hr hk1
      refine ⟨g1, fun S w₀ β₀ ds a w Q hA hrel hq => wp_seq (g2 S w₀ β₀ ds a w (Exit.then (c2.wp P Q) Q) hA hrel fun x E' m' cs' D' r' a' w' h' hr' hrel' => ?_).wp⟩
      cases x with
      | normal => exact ((ih hmg hH2 h' hr' hk).2 S w₀ β₀ ds a' w' Q hA hrel' hq).wp
      | exit id => exact hq _ _ _ _ _ _ _ _ h' hr' hrel'
      | ret => exact hq _ _ _ _ _ _ _ _ h' hr' hrel'
    case cond c x y =>
      have hHx : HOk P nt A H x := fun id b hb => hH id b (List.mem_append_left _ hb)
      have hHy : HOk P nt A H y := fun id b hb => hH id b (List.mem_append_right _ hb)
      have hc : ∀ {v : AV} {b : Bool}, rd E [] c = some v → (v = .bool b ∨ v = .sbool b) → ∀ {S w₀ β₀ ds} a w, Rel S w₀ β₀ nt ds E m a w → a.eval c = .bool b := by
        intro v b hv hb S w₀ β₀ ds a w hr
        obtain ⟨⟨β, _, hE, _, _⟩, _⟩ := hr
        have := rd_ok hE (holds_nil _) hv
        generalize a.eval c = cv at this
        rcases hb with rfl | rfl
        · cases this with | sc _ _ this => cases this; rfl
        · cases this with | sc _ _ this => cases this; rfl
      split at h
      · rename_i hv
        obtain ⟨g1, g2⟩ := ih hmg hHx h hr hk
        exact ⟨g1, fun S w₀ β₀ ds a w Q hA hrel hq => wp_cond_true (hc hv (.inl rfl) a w hrel) (g2 S w₀ β₀ ds a w Q hA hrel hq).wp⟩
      · rename_i hv
        obtain ⟨g1, g2⟩ := ih hmg hHy h hr hk
        exact ⟨g1, fun S w₀ β₀ ds a w Q hA hrel hq => wp_cond_false (hc hv (.inl rfl) a w hrel) (g2 S w₀ β₀ ds a w Q hA hrel hq).wp⟩
      · rename_i s hv
        split at h
        · split at h
          · rename_i o ho
            rw [appendK_eq] at h
            have ho' : joinO m.length E [] s
              (codeA P G nt n noLT J (joinO m.length E) x E (roA m) [] [] fun x E' _ cs' _ => match x with
                | .normal => some ⟨E', cs'⟩
                | _ => none)
              (codeA P G nt n noLT J (joinO m.length E) y E (roA m) [] [] fun x E' _ cs' _ => match x with
                | .normal => some ⟨E', cs'⟩
                | _ => none) = some o := by
              cases J with
              | false => cases ho
              | true => exact ho
            have hcs := hk _ _ _ _ _ _ h hr
            obtain ⟨E1, cs1, E2, cs2, hx, hy, hoc, hou, hs1, hs2, hself⟩ := joinO_sub ho'
            have hall : ∀ b ∈ mergeC s cs1 cs2, b = true := fun b hb => hcs b (List.mem_append_left _ (by rw [hoc]; exact List.mem_append_left _ hb))
            have hmc := mergeC_ok hall
            have hkk : KOk (fun o' : JO => (∀ b ∈ o'.cs, b = true) ∧ SubE m.length o'.E o.E) (fun x E' _ cs' _ => match x with
                | .normal => some ⟨E', cs'⟩
                | _ => none) := by
              intro x E' m' cs' D' r' h' hr'
              cases x with
              | normal => simp only [Option.some.injEq] at h'; subst h'; exact hr'.1
              | exit id => cases h'
              | ret => cases h'
            -- one of the two ways, and what is behind it
            have way : ∀ {z : Code} {Ez : Env} {csz : List Bool}, codeA P G nt n noLT J (joinO m.length E) z E (roA m) [] [] (fun x E' _ cs' _ => match x with
                | .normal => some (⟨E', cs'⟩ : JO)
                | _ => none) = some ⟨Ez, csz⟩ → (∀ b ∈ csz, b = true) → SubE m.length Ez o.E → ∀ (S : Nat → Prop) (w₀ : World) (β₀ : BM) (ds : List Deferred) a w (Q : Exit → Act → World → Prop), (∀ i, A ≤ i → β₀ i = none) → Rel S w₀ β₀ nt ds E m a w → (∀ x E' m' cs' D' r' a' w', k x E' m' cs' D' = some r' → Sat r' → Rel S w₀ β₀ nt ds E' m' a' w' → Q x.out a' w') → z.wp P Q a w := by
              intro z Ez csz hz hzc hzs S w₀ β₀ ds a w Q hA hrel hq
              obtain ⟨⟨β, hβ, hE, hW, hF⟩, hd, hu⟩ := hrel
              have hro : Rel (fun _ => False) w β nt ds E (roA m) a w := ⟨⟨β, BLe.refl β, hE, hW.ro, fun i hi => hF i (by rwa [roA_length] at hi)⟩, hd, hu⟩
              refine ((ih (joinO_ok m.length E o.E) (HOk.none z m.length) hz ⟨hzc, hzs⟩ hkk).2 (fun _ => False) w β ds a w Q (fun i hi => hF i hi) hro fun x' E' m' cs' D' r' a' w' h' hr' hrel' => ?_).wp
              cases x' with
              | exit id => cases h'
              | ret => cases h'
              | normal =>
                simp only [Option.some.injEq] at h'
                subst h'
                refine hq _ _ _ _ _ _ _ _ h hr ?_
                obtain ⟨⟨β', b1, b2, b3, b4⟩, b5, b6⟩ := hrel'
                have hlt : ∀ {i : Nat} {be : BE}, β i = some be → i < m.length := fun {i be} hi => by
                  rcases Nat.lt_or_ge i m.length with h | h
                  · exact h
                  · rw [hF i h] at hi; cases hi
                have hcut : BLe β (β'.cutB m.length) := fun i be hi => by
                  unfold BM.cutB
                  rw [if_pos (hlt hi)]
                  exact b1 i be hi
                have hq : Qt w w' := ⟨b3.fr.os, b3.fr.tape, b3.fr.output, b3.fr.size, fun k hk => b3.fr.block k hk fun hn => hn⟩
                refine ⟨⟨β'.cutB m.length, hβ.trans hcut, ⟨b2.size, fun t e he => ?_⟩, (hW.qt hq).more hcut, fun i hi => ?_⟩, b5, hou hu⟩
                · obtain ⟨k1, k2, e', k3, k4, k5⟩ := hr'.2 t e he
                  obtain ⟨c, c1, c2, _⟩ := b2.get t e' k3
                  refine ⟨c, c1, fun _ => ?_, fun hn => absurd (by rw [k1]; exact holds_nil _) hn⟩
                  exact inBt_ok (k5 _ _ (c2 (by rw [k4]; exact holds_nil _))) k2
                · unfold BM.cutB
                  rw [if_neg (by omega)]
            refine ⟨fun b hb => hcs b (List.mem_append_right _ hb), fun S w₀ β₀ ds a w Q hA hrel hq => ?_⟩
            cases s with
            | true => exact wp_cond_true (hc hv (.inr rfl) a w hrel) (way hx (hmc.1 rfl) (hs1 rfl) S w₀ β₀ ds a w Q hA hrel hq)
            | false => exact wp_cond_false (hc hv (.inr rfl) a w hrel) (way hy (hmc.2 rfl) (hs2 rfl) S w₀ β₀ ds a w Q hA hrel hq)
          · obtain ⟨m0, m1, m2⟩ := hmg _ s _ _ _ h hr
            refine ⟨m0, fun S w₀ β₀ ds a w Q hA hrel hq => ?_⟩
            cases s with
            | true =>
              obtain ⟨r1, h1, hr1⟩ := m1 rfl
              exact wp_cond_true (hc hv (.inr rfl) a w hrel) ((ih hmg hHx h1 hr1 hk).2 S w₀ β₀ ds a w Q hA hrel hq).wp
            | false =>
              obtain ⟨r1, h1, hr1⟩ := m2 rfl
              exact wp_cond_false (hc hv (.inr rfl) a w hrel) ((ih hmg hHy h1 hr1 hk).2 S w₀ β₀ ds a w Q hA hrel hq).wp
        · obtain ⟨g1, g2⟩ := ih hmg hHx h hr hk
          have hs := g1 s (List.mem_cons_self ..)
          subst hs
          exact ⟨fun b hb => g1 b (List.mem_cons_of_mem _ hb), fun S w₀ β₀ ds a w Q hA hrel hq => wp_cond_true (hc hv (.inr rfl) a w hrel) (g2 S w₀ β₀ ds a w Q hA hrel hq).wp⟩
        · obtain ⟨g1, g2⟩ := ih hmg hHy h hr hk
          have hs := g1 (!s) (List.mem_cons_self ..)
          have hs : s = false := by simpa using hs
          subst hs
          exact ⟨fun b hb => g1 b (List.mem_cons_of_mem _ hb), fun S w₀ β₀ ds a w Q hA hrel hq => wp_cond_false (hc hv (.inr rfl) a w hrel) (g2 S w₀ β₀ ds a w Q hA hrel hq).wp⟩
      · cases h
    case block id b =>
      have hHb : HOk P nt A H b := fun id' b' hb => hH id' b' (List.mem_cons_of_mem _ hb)
      split at h
      · rename_i cs0 t ht
        rw [appendK_eq] at h
        obtain ⟨g1, cs', D', r', g2, g3⟩ := lrA_ok hmg hk h hr
        refine ⟨fun b hb => g1 b (List.mem_append_right _ hb), fun S w₀ β₀ ds a w Q hA hrel hq => ?_⟩
        exact hH id b (List.mem_cons_self ..) E m cs0 t ht (fun b hb => g1 b (List.mem_append_left _ hb)) S w₀ β₀ ds a w Q hA hrel fun a' w' hrel' => hq _ _ _ _ _ _ _ _ g2 g3 hrel'
      · have hk1 : KOk Sat (fun x E' m' cs' D' => match x with
            | .exit id' => match Nat.beq id' id with
              | true => k .normal E' m' cs' D'
              | false => k (.exit id') E' m' cs' D'
            | x => k x E' m' cs' D') := by
          intro x E' m' cs' D' r' h' hr'
          cases x with
          | normal => exact hk _ _ _ _ _ _ h' hr'
          | exit id' =>
            simp only at h'
            split at h'
            · exact hk _ _ _ _ _ _ h' hr'
            · exact hk _ _ _ _ _ _ h' hr'
          | ret => exact hk _ _ _ _ _ _ h' hr'
        obtain ⟨g1, g2⟩ := ih hmg hHb h hr hk1
        refine ⟨g1, fun S w₀ β₀ ds a w Q hA hrel hq => wp_block (g2 S w₀ β₀ ds a w (Exit.inBlock id Q) hA hrel fun x E' m' cs' D' r' a' w' h' hr' hrel' => ?_).wp⟩
        cases x with
        | normal => exact hq _ _ _ _ _ _ _ _ h' hr' hrel'
        | ret => exact hq _ _ _ _ _ _ _ _ h' hr' hrel'
        | exit id' =>
          simp only at h'
          split at h'
          · rename_i hb
            have hb := Nat.eq_of_beq_eq_true hb
            subst hb
            simp only [EX.out, Exit.inBlock, if_true]
            exact hq _ _ _ _ _ _ _ _ h' hr' hrel'
          · rename_i hb
            have hne : id' ≠ id := fun e => by rw [e, Nat.beq_refl] at hb; cases hb
            simp only [EX.out, Exit.inBlock, hne, if_false]
            exact hq _ _ _ _ _ _ _ _ h' hr' hrel'
    case loop b =>
      have hHb : HOk P nt A H b := hH
      have hk1 : KOk Sat (fun x E' m' cs' D' => match x with
          | .normal => codeA P G nt n H J mg (.loop b) E' m' cs' D' k
          | x => k x E' m' cs' D') := by
        intro x E' m' cs' D' r' h' hr'
        cases x with
        | normal => exact (ih hmg hH h' hr' hk).1
        | exit id => exact hk _ _ _ _ _ _ h' hr'
        | ret => exact hk _ _ _ _ _ _ h' hr'
      obtain ⟨g1, g2⟩ := ih hmg hHb h hr hk1
      refine ⟨g1, fun S w₀ β₀ ds a w Q hA hrel hq => ?_⟩
      show Code.rounds P b Q (n + 1) a w
      refine (g2 S w₀ β₀ ds a w (Exit.then (Code.rounds P b Q n) Q) hA hrel fun x E' m' cs' D' r' a' w' h' hr' hrel' => ?_).wp
      cases x with
      | normal => exact (ih hmg hH h' hr' hk).2 S w₀ β₀ ds a' w' Q hA hrel' hq
      | exit id => exact hq _ _ _ _ _ _ _ _ h' hr' hrel'
      | ret => exact hq _ _ _ _ _ _ _ _ h' hr' hrel'

end
end Go.Sim

/-
  A region; code.
-/
import Derived.Test.YtdagaggpaohmcaaSimO
namespace Go.Sim

section
variable {P : Program} {G : Summ} {S : Nat → Prop} {w₀ w : World} {β β₀ : BM} {m : Mem} {nt : Nat} {E : Env} {a : Act} {ds : List Deferred} {R : Type}

/-- A region. -/
theorem region_ok (hG : SoundG P G) (hm : P.follows .mixedOrders = true) {mg : List Bool → Bool → Option R → Option R → Option R} {Sat : R → Prop} (hmg : MgOk mg Sat) {id : Nat} {draw : Bool} {ops : Array Oper} {cs D : List Bool} {k : Env → Mem → List Bool → List Bool → Option R} {r : R} (h : regionA P G nt mg draw ops E m cs D k = some r) (hr : Sat r)
    (hk : ∀ E m cs D r, k E m cs D = some r → Sat r → ∀ b ∈ cs, b = true) :
    (∀ b ∈ cs, b = true) ∧ ∀ a w (Q : Exit → Act → World → Prop), Rel S w₀ β₀ nt ds E m a w → (∀ E' m' cs' D' r' a' w', k E' m' cs' D' = some r' → Sat r' → Rel S w₀ β₀ nt ds E' m' a' w' → Q .normal a' w') → (Code.region id ops draw).wp P Q a w := by
  unfold regionA at h
  split at h
  · obtain ⟨h1, h2⟩ := opsA_ok (S := S) (w₀ := w₀) (β₀ := β₀) (ds := ds) hG hmg _ h hr fun E m cs D r h' hr' => by
      obtain ⟨E', h2, _⟩ := plainK_uniq h'
      exact hk _ _ _ _ _ h2 hr'
    refine ⟨h1, fun a w Q hrel hq => wp_region_list (h2 a w Q hrel fun E' m' cs' D' r' a' w' h' hr' hrel' => ?_)⟩
    obtain ⟨E'', h3, he, hu⟩ := plainK_uniq h'
    exact hq _ _ _ _ _ _ _ h3 hr' (hrel'.plain he (hu hrel'.uniq))
  · split at h
    · rename_i hs
      obtain ⟨E0, h0, he0, hu0⟩ := plainK_uniq h
      obtain ⟨E1, m1, cs1, h1, hc1, hs1⟩ := draw_ok (S := S) (w₀ := w₀) (β₀ := β₀) (ds := ds) (id := id) hG hm hs (fun e he => (he0 e he).2) h0
      obtain ⟨E', h2, he, hu⟩ := plainK_uniq h1
      have hcs := hk _ _ _ _ _ h2 hr
      exact ⟨fun b hb => hcs b (hc1 b hb), fun a w Q hrel hq => hs1 hcs a w Q (hrel.plain he0 (hu0 hrel.uniq)) fun a' w' hr' => hq _ _ _ _ _ _ _ h2 hr (hr'.plain he (hu hr'.uniq))⟩
    · cases h

/-! ### Code -/

def EX.out : EX → Exit
  | .normal => .normal
  | .exit id => .exit id
  | .ret => .ret

/-- What is shown of a piece of code; of a loop, in so many rounds. -/
def WPN (P : Program) (N : Nat) (c : Code) (Q : Exit → Act → World → Prop) (a : Act) (w : World) : Prop :=
  match c with
  | .loop b => Code.rounds P b Q N a w
  | c => c.wp P Q a w

theorem WPN.wp {N : Nat} {c : Code} {Q : Exit → Act → World → Prop} (h : WPN P N c Q a w) : c.wp P Q a w := by
  cases c <;> first | exact h | exact wp_loop_rounds N h

/-- A continuation's outcome bears what must be true so far. -/
def KOk (Sat : R → Prop) (k : EX → Env → Mem → List Bool → List Bool → Option R) : Prop :=
  ∀ x E m cs D r, k x E m cs D = some r → Sat r → ∀ b ∈ cs, b = true

theorem codeA_ok (hG : SoundG P G) (hm : P.follows .mixedOrders = true) {mg : List Bool → Bool → Option R → Option R → Option R} {Sat : R → Prop} (hmg : MgOk mg Sat) (n : Nat) : ∀ {c : Code} {E : Env} {m : Mem} {cs D : List Bool} {k : EX → Env → Mem → List Bool → List Bool → Option R} {r : R},
    codeA P G nt mg n c E m cs D k = some r → Sat r → KOk Sat k →
    (∀ b ∈ cs, b = true) ∧ ∀ a w (Q : Exit → Act → World → Prop), Rel S w₀ β₀ nt ds E m a w → (∀ x E' m' cs' D' r' a' w', k x E' m' cs' D' = some r' → Sat r' → Rel S w₀ β₀ nt ds E' m' a' w' → Q x.out a' w') → WPN P n c Q a w := by
  induction n with
  | zero => intro c E m cs D k r h; simp [codeA] at h
  | succ n ih =>
    intro c E m cs D k r h hr hk
    cases c <;> simp only [codeA] at h <;> try (cases h; done)
    case skip => exact ⟨hk _ _ _ _ _ _ h hr, fun a w Q hrel hq => wp_skip (hq _ _ _ _ _ _ _ _ h hr hrel)⟩
    case ret => exact ⟨hk _ _ _ _ _ _ h hr, fun a w Q hrel hq => wp_ret (hq _ _ _ _ _ _ _ _ h hr hrel)⟩
    case exit id => exact ⟨hk _ _ _ _ _ _ h hr, fun a w Q hrel hq => wp_exit (hq _ _ _ _ _ _ _ _ h hr hrel)⟩
    case region id ops draw =>
      obtain ⟨h1, h2⟩ := region_ok (S := S) (w₀ := w₀) (β₀ := β₀) (ds := ds) (id := id) hG hm hmg h hr fun E m cs D r h' hr' => hk _ _ _ _ _ _ h' hr'
      exact ⟨h1, fun a w Q hrel hq => h2 a w Q hrel fun E' m' cs' D' r' a' w' h' hr' hrel' => hq _ _ _ _ _ _ _ _ h' hr' hrel'⟩
    case seq c1 c2 =>
      have hk1 : KOk Sat (fun x E' m' cs' D' => match x with
          | .normal => codeA P G nt mg n c2 E' m' cs' D' k
          | x => k x E' m' cs' D') := by
        intro x E' m' cs' D' r' h' hr'
        cases x with
        | normal => exact (ih h' hr' hk).1
        | exit id => exact hk _ _ _ _ _ _ h' hr'
        | ret => exact hk _ _ _ _ _ _ h' hr'
      obtain ⟨g1, g2⟩ := ih h hr hk1
      refine ⟨g1, fun a w Q hrel hq => wp_seq (g2 a w (Exit.then (c2.wp P Q) Q) hrel fun x E' m' cs' D' r' a' w' h' hr' hrel' => ?_).wp⟩
      cases x with
      | normal => exact ((ih h' hr' hk).2 a' w' Q hrel' hq).wp
      | exit id => exact hq _ _ _ _ _ _ _ _ h' hr' hrel'
      | ret => exact hq _ _ _ _ _ _ _ _ h' hr' hrel'
    case cond c x y =>
      have hc : ∀ {v : AV} {b : Bool}, rd E [] c = some v → (v = .bool b ∨ v = .sbool b) → ∀ a w, Rel S w₀ β₀ nt ds E m a w → a.eval c = .bool b := by
        intro v b hv hb a w hr
        obtain ⟨⟨β, _, hE, _, _⟩, _⟩ := hr
        have := rd_ok hE (holds_nil _) hv
        generalize a.eval c = cv at this
        rcases hb with rfl | rfl
        · cases this with | sc _ _ this => cases this; rfl
        · cases this with | sc _ _ this => cases this; rfl
      split at h
      · rename_i hv
        obtain ⟨g1, g2⟩ := ih h hr hk
        exact ⟨g1, fun a w Q hrel hq => wp_cond_true (hc hv (.inl rfl) a w hrel) (g2 a w Q hrel hq).wp⟩
      · rename_i hv
        obtain ⟨g1, g2⟩ := ih h hr hk
        exact ⟨g1, fun a w Q hrel hq => wp_cond_false (hc hv (.inl rfl) a w hrel) (g2 a w Q hrel hq).wp⟩
      · rename_i s hv
        split at h
        · obtain ⟨m0, m1, m2⟩ := hmg _ s _ _ _ h hr
          cases s with
          | true =>
            obtain ⟨r1, h1, hr1⟩ := m1 rfl
            obtain ⟨_, g2⟩ := ih h1 hr1 hk
            exact ⟨m0, fun a w Q hrel hq => wp_cond_true (hc hv (.inr rfl) a w hrel) (g2 a w Q hrel hq).wp⟩
          | false =>
            obtain ⟨r1, h1, hr1⟩ := m2 rfl
            obtain ⟨_, g2⟩ := ih h1 hr1 hk
            exact ⟨m0, fun a w Q hrel hq => wp_cond_false (hc hv (.inr rfl) a w hrel) (g2 a w Q hrel hq).wp⟩
        · obtain ⟨g1, g2⟩ := ih h hr hk
          have hs := g1 s (List.mem_cons_self ..)
          subst hs
          exact ⟨fun b hb => g1 b (List.mem_cons_of_mem _ hb), fun a w Q hrel hq => wp_cond_true (hc hv (.inr rfl) a w hrel) (g2 a w Q hrel hq).wp⟩
        · obtain ⟨g1, g2⟩ := ih h hr hk
          have hs := g1 (!s) (List.mem_cons_self ..)
          have hs : s = false := by simpa using hs
          subst hs
          exact ⟨fun b hb => g1 b (List.mem_cons_of_mem _ hb), fun a w Q hrel hq => wp_cond_false (hc hv (.inr rfl) a w hrel) (g2 a w Q hrel hq).wp⟩
      · cases h
    case block id b =>
      have hk1 : KOk Sat (fun x E' m' cs' D' => match x with
          | .exit id' => match Nat.beq id' id with
            | true => k .normal E' m' cs' D'
            | false => k (.exit id') E' m' cs' D'
          | x => k x E' m' cs' D') := by
        intro x E' m' cs' D' r' h' hr'
        cases x with
        | normal => exact hk _ _ _ _ _ _ h' hr'
        | exit id' =>
          simp only at h'
          split at h'
          · exact hk _ _ _ _ _ _ h' hr'
          · exact hk _ _ _ _ _ _ h' hr'
        | ret => exact hk _ _ _ _ _ _ h' hr'
      obtain ⟨g1, g2⟩ := ih h hr hk1
      refine ⟨g1, fun a w Q hrel hq => wp_block (g2 a w (Exit.inBlock id Q) hrel fun x E' m' cs' D' r' a' w' h' hr' hrel' => ?_).wp⟩
      cases x with
      | normal => exact hq _ _ _ _ _ _ _ _ h' hr' hrel'
      | ret => exact hq _ _ _ _ _ _ _ _ h' hr' hrel'
      | exit id' =>
        simp only at h'
        split at h'
        · rename_i hb
          have hb := Nat.eq_of_beq_eq_true hb
          subst hb
          simp only [EX.out, Exit.inBlock, if_true]
          exact hq _ _ _ _ _ _ _ _ h' hr' hrel'
        · rename_i hb
          have hne : id' ≠ id := fun e => by rw [e, Nat.beq_refl] at hb; cases hb
          simp only [EX.out, Exit.inBlock, hne, if_false]
          exact hq _ _ _ _ _ _ _ _ h' hr' hrel'
    case loop b =>
      have hk1 : KOk Sat (fun x E' m' cs' D' => match x with
          | .normal => codeA P G nt mg n (.loop b) E' m' cs' D' k
          | x => k x E' m' cs' D') := by
        intro x E' m' cs' D' r' h' hr'
        cases x with
        | normal => exact (ih h' hr' hk).1
        | exit id => exact hk _ _ _ _ _ _ h' hr'
        | ret => exact hk _ _ _ _ _ _ h' hr'
      obtain ⟨g1, g2⟩ := ih h hr hk1
      refine ⟨g1, fun a w Q hrel hq => ?_⟩
      show Code.rounds P b Q (n + 1) a w
      refine (g2 a w (Exit.then (Code.rounds P b Q n) Q) hrel fun x E' m' cs' D' r' a' w' h' hr' hrel' => ?_).wp
      cases x with
      | normal => exact (ih h' hr' hk).2 a' w' Q hrel' hq
      | exit id => exact hq _ _ _ _ _ _ _ _ h' hr' hrel'
      | ret => exact hq _ _ _ _ _ _ _ _ h' hr' hrel'

end
end Go.Sim

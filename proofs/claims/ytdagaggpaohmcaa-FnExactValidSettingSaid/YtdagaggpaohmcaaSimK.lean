/-
  A region's operations one behind the other.
-/
import Derived.Test.YtdagaggpaohmcaaSimJ
namespace Go.Sim

/-- The model's state against the abstract one. -/
structure Rel (S : Nat → Prop) (w₀ : World) (β₀ : BM) (nt : Nat) (ds : List Deferred) (E : Env) (m : Mem) (a : Act) (w : World) : Prop where
  ex : ∃ β, BLe β₀ β ∧ ER (tagsOf E) β nt E a.tmps ∧ WS S w₀ β m w ∧ Fresh β m
  defers : a.defers = ds
  uniq : Uniq E

section
variable {P : Program} {G : Summ} {S : Nat → Prop} {w₀ w : World} {β β₀ : BM} {m : Mem} {nt : Nat} {E : Env} {a : Act} {ds : List Deferred} {R : Type}

theorem putA_ok {d : Option Nat} {v : AV} {tg : List (Nat × Bool)} {k : Env → Option R} {r : R} (h : putA nt d v tg E k = some r) :
    ∃ E', k E' = some r ∧ ∀ β' (c : Value) (a : Act), ER (tagsOf E) β' nt E a.tmps → (holds (tagsOf E) tg → VR β' v c) → (¬ holds (tagsOf E) tg → c = undef) → ER (tagsOf E') β' nt E' (a.put d c).tmps ∧ (Uniq E → Uniq E') := by
  cases d with
  | none => exact ⟨E, h, fun β' c a hE _ _ => ⟨hE, id⟩⟩
  | some d =>
    simp only [putA] at h
    split at h
    · cases h
    · rename_i hb
      simp only [Bool.or_eq_false_iff, Bool.not_eq_false'] at hb
      obtain ⟨⟨h1, h2⟩, h3⟩ := hb
      have h3 : d < nt := by simpa [Nat.blt_eq] using h3
      obtain ⟨E', e1, e2, e3, e4⟩ := putK_eq E ⟨d, v, tg⟩ k
      rw [e1] at h
      refine ⟨E', h, fun β' c a hE hv hn => ?_⟩
      have ht := tagsOf_put e2 (hasTag_false h2)
      exact ⟨hE.put e2 (fun x hx => tagsOf_put e2 (tagged_false h1 x hx)) h3 (fun hh => hv (ht.1 hh)) (fun hh => hn fun q => hh (ht.2 q)), e4⟩

theorem memK_ok {nw : Option Blk} {m' : Option Mem} {k : Mem → Option R} {r : R} (h : memK m nw m' k = some r) :
    ∃ m'', k m'' = some r ∧ ((nw = none ∧ m' = none ∧ m'' = m) ∨ (∃ b, nw = some b ∧ m' = none ∧ m'' = m ++ [some b]) ∨ (nw = none ∧ m' = some m'')) := by
  unfold memK at h
  split at h
  · exact ⟨m, h, .inl ⟨rfl, rfl, rfl⟩⟩
  · rw [appendK_eq] at h; exact ⟨_, h, .inr (.inl ⟨_, rfl, rfl, rfl⟩)⟩
  · exact ⟨_, h, .inr (.inr ⟨rfl, rfl⟩)⟩
  · cases h

/-- One operation, in its place. -/
theorem stepA_ok (hG : SoundG P G) {ops : Array Oper} {o : Oper} {cs : List Bool} {k : SRes → Env → Mem → List Bool → Option R} {r : R} (h : stepA P G nt ops o E m cs k = some r) :
    ∃ q E' m' cs', k q E' m' cs' = some r ∧ cs' = q.cs ++ cs ∧ ((∀ b ∈ q.cs, b = true) → ∀ a w (next : Act → World → Prop) Q, Rel S w₀ β₀ nt ds E m a w → (∀ a' w', Rel S w₀ β₀ nt ds E' m' a' w' → next a' w') →
      if Region.wanted o (yielded ops a.tmps) then o.wp P a w next Q else next (a.put o.dst undef) w) := by
  unfold stepA at h
  split at h
  · cases h
  · rename_i q hq
    rw [appendK_eq] at h
    obtain ⟨m', h1, hm'⟩ := memK_ok h
    obtain ⟨E', h2, hput⟩ := putA_ok h1
    refine ⟨q, E', m', _, h2, rfl, fun hcs a w next Q hrel hn => ?_⟩
    obtain ⟨⟨β, hβ, hE, hW, hF⟩, hd, hu⟩ := hrel
    have hd' : ∀ v, (a.put o.dst v).defers = ds := fun v => by rw [← hd]; cases o.dst <;> rfl
    have fin : ∀ v w', SAfter S w₀ (tagsOf E) β m w q v w' → Rel S w₀ β₀ nt ds E' m' (a.put o.dst v) w' := by
      intro v w' hs
      unfold SAfter at hs
      rcases hm' with ⟨e1, e2, e3⟩ | ⟨b, e1, e2, e3⟩ | ⟨e1, e2⟩
      · rw [e1, e2] at hs
        obtain ⟨q1, q2, q3⟩ := hs
        subst e3
        obtain ⟨p1, p2⟩ := hput β v a hE q2 q3
        exact ⟨⟨β, hβ, p1, hW.qt q1, hF⟩, hd' v, p2 hu⟩
      · rw [e1, e2] at hs
        obtain ⟨ht, cells, c, e, g1, g2, g3, g4⟩ := hs
        subst e3 g1 g2
        have hfl := hF m.length (Nat.le_refl _)
        have hle := BM.upd_le hfl ⟨w.heap.size, 0, some c.size⟩
        obtain ⟨p1, p2⟩ := hput _ v a (hE.mono hle) (fun _ => g4) (fun hn => absurd (by rw [ht]; exact holds_nil _) hn)
        exact ⟨⟨_, hβ.trans hle, p1, hW.new hfl e g3, hF.upd⟩, hd' v, p2 hu⟩
      · rw [e2] at hs
        obtain ⟨_, ht, β', b1, b2, b3, b4⟩ := hs
        obtain ⟨p1, p2⟩ := hput _ v a (hE.mono b1) (fun _ => b4) (fun hn => absurd (by rw [ht]; exact holds_nil _) hn)
        exact ⟨⟨β', hβ.trans b1, p1, b3, b2⟩, hd' v, p2 hu⟩
    rcases stepR_ok hG hE hW (fun _ => tells_tagsOf E) hq (fun _ => hF) hcs with ⟨hw, ho⟩ | ⟨hw, hs⟩
    · rw [if_pos hw]
      exact ho a next Q fun v w' hv => hn _ _ (fin v w' hv)
    · rw [if_neg (by rw [hw]; exact Bool.false_ne_true)]
      exact hn _ _ (fin undef w hs)

theorem opsA_ok (hG : SoundG P G) {ops : Array Oper} (l : List Oper) : ∀ {E : Env} {m : Mem} {cs : List Bool} {k : Env → Mem → List Bool → Option R} {r : R}, opsA P G nt ops l E m cs k = some r →
    ∃ E' m' cs', k E' m' cs' = some r ∧ (∀ b ∈ cs, b ∈ cs') ∧ ((∀ b ∈ cs', b = true) → ∀ a w Q, Rel S w₀ β₀ nt ds E m a w → (∀ a' w', Rel S w₀ β₀ nt ds E' m' a' w' → Q .normal a' w') → wpList P ops Q l a w) := by
  induction l with
  | nil =>
    intro E m cs k r h
    exact ⟨E, m, cs, h, fun b hb => hb, fun _ a w Q hr hq => hq a w hr⟩
  | cons o l ih =>
    intro E m cs k r h
    simp only [opsA] at h
    obtain ⟨q, E1, m1, cs1, h1, hc1, hs⟩ := stepA_ok (S := S) (w₀ := w₀) (β₀ := β₀) (ds := ds) hG h
    obtain ⟨E', m', cs', h2, hc2, hs2⟩ := ih h1
    refine ⟨E', m', cs', h2, fun b hb => hc2 b (by rw [hc1]; exact List.mem_append_right _ hb), fun hall a w Q hr hq => ?_⟩
    have := hs (fun b hb => hall b (hc2 b (by rw [hc1]; exact List.mem_append_left _ hb))) a w (wpList P ops Q l) Q hr fun a' w' hr' => hs2 hall a' w' Q hr' hq
    unfold wpList
    split
    · rename_i hw; rw [if_pos hw] at this; exact .inl this
    · rename_i hw; rw [if_neg hw] at this; exact this

theorem plainK_uniq {E : Env} : ∀ {k : Env → Option R} {r : R}, plainK E k = some r → ∃ E', k E' = some r ∧ (∀ e ∈ E', e ∈ E ∧ e.tg = []) ∧ (Uniq E → Uniq E') := by
  induction E with
  | nil => intro k r h; exact ⟨[], h, fun e he => by simp at he, fun _ => trivial⟩
  | cons x E ih =>
    intro k r h
    simp only [plainK] at h
    split at h
    · rename_i ht
      obtain ⟨E', h1, h2, h3⟩ := ih h
      refine ⟨x :: E', h1, fun e he => ?_, fun hu => ⟨fun e he => hu.1 e (h2 e he).1, h3 hu.2⟩⟩
      rcases List.mem_cons.1 he with rfl | he
      · exact ⟨List.mem_cons_self .., ht⟩
      · exact ⟨List.mem_cons_of_mem _ (h2 e he).1, (h2 e he).2⟩
    · obtain ⟨E', h1, h2, h3⟩ := ih h
      exact ⟨E', h1, fun e he => ⟨List.mem_cons_of_mem _ (h2 e he).1, (h2 e he).2⟩, fun hu => h3 hu.2⟩

/-- Fewer slots, none of them under a tag. -/
theorem Rel.plain {E' : Env} (h : Rel S w₀ β₀ nt ds E m a w) (he : ∀ e ∈ E', e ∈ E ∧ e.tg = []) (hu : Uniq E') : Rel S w₀ β₀ nt ds E' m a w := by
  obtain ⟨⟨β, h1, h2, h3, h4⟩, h5, h6⟩ := h
  refine ⟨⟨β, h1, ⟨h2.size, fun t e hg => ?_⟩, h3, h4⟩, h5, hu⟩
  obtain ⟨hm, hs⟩ := get_mem hg
  obtain ⟨hE, htg⟩ := he e hm
  have := uniq_get h6 hE
  rw [hs] at this
  obtain ⟨c, c1, c2, c3⟩ := h2.get t e this
  refine ⟨c, c1, fun _ => c2 (by rw [htg]; exact holds_nil _), fun hn => absurd (by rw [htg]; exact holds_nil _) hn⟩

end
end Go.Sim

/-
  A region's operations one behind the other.
-/
import Derived.Test.YtekilpllicggeaaSimJ
namespace Go.Sim

/-- The model's state against the abstract one. -/
structure Rel (S : Nat → Prop) (w₀ : World) (β₀ : BM) (nt : Nat) (ds : List Deferred) (E : Env) (m : Mem) (a : Act) (w : World) : Prop where
  ex : ∃ β, BLe β₀ β ∧ ER (tagsOf E) β nt E a.tmps ∧ WS S w₀ β m w ∧ Fresh β m
  defers : a.defers = ds
  uniq : Uniq E

section
variable {P : Program} {G : Summ} {S : Nat → Prop} {w₀ w : World} {β β₀ : BM} {m : Mem} {nt : Nat} {E : Env} {a : Act} {ds : List Deferred} {R : Type}

theorem putA_ok {d : Option Nat} {v : AV} {tg : List (Nat × Bool)} {k : Env → Option R} {r : R} (h : putA nt d v tg E k = some r) :
    ∃ E', k E' = some r ∧ ∀ β' (c : Value) (a : Act), ER (tagsOf E) β' nt E a.tmps → (holds (tagsOf E) tg → VR β' v c) → (¬ holds (tagsOf E) tg → c = undef) → ER (tagsOf E') β' nt E' (a.put d c).tmps ∧ (Uniq E → Uniq E') := by
  cases d with
  | none => exact ⟨E, h, fun β' c a hE _ _ => ⟨hE, id⟩⟩
  | some d =>
    simp only [putA] at h
    split at h
    · cases h
    · rename_i hb
      simp only [Bool.or_eq_false_iff, Bool.not_eq_false'] at hb
      obtain ⟨⟨h1, h2⟩, h3⟩ := hb
      have h3 : d < nt := by simpa [Nat.blt_eq] using h3
      obtain ⟨E', e1, e2, e3, e4⟩ := putK_eq E ⟨d, v, tg⟩ k
      rw [e1] at h
      refine ⟨E', h, fun β' c a hE hv hn => ?_⟩
      have ht := tagsOf_put e2 (hasTag_false h2)
      exact ⟨hE.put e2 (fun x hx => tagsOf_put e2 (tagged_false h1 x hx)) h3 (fun hh => hv (ht.1 hh)) (fun hh => hn fun q => hh (ht.2 q)), e4⟩

theorem memK_ok {nw : Option Blk} {m' : Option Mem} {k : Mem → Option R} {r : R} (h : memK m nw m' k = some r) :
    ∃ m'', k m'' = some r ∧ ((nw = none ∧ m' = none ∧ m'' = m) ∨ (∃ b, nw = some b ∧ m' = none ∧ m'' = m ++ [some b]) ∨ (nw = none ∧ m' = some m'')) := by
  unfold memK at h
  split at h
  · exact ⟨m, h, .inl ⟨rfl, rfl, rfl⟩⟩
  · rw [appendK_eq] at h; exact ⟨_, h, .inr (.inl ⟨_, rfl, rfl, rfl⟩)⟩
  · exact ⟨_, h, .inr (.inr ⟨rfl, rfl⟩)⟩
  · cases h

/-- One operation, in its place. -/
theorem stepA_ok (hG : SoundG P G) {ops : Array Oper} {o : Oper} {cs : List Bool} {k : SRes → Env → Mem → List Bool → Option R} {r : R} (h : stepA P G nt ops o E m cs k = some r) :
    ∃ q E' m' cs', k q E' m' cs' = some r ∧ cs' = q.cs ++ cs ∧ ((∀ b ∈ q.cs, b = true) → ∀ a w (next : Act → World → Prop) Q, Rel S w₀ β₀ nt ds E m a w → (∀ a' w', Rel S w₀ β₀ nt ds E' m' a' w' → next a' w') →
      if Region.wanted o (yielded ops a.tmps) then o.wp P a w next Q else next (a.put o.dst undef) w) := by
  unfold stepA at h
  split at h
  · cases h
  · rename_i q hq
    rw [appendK_eq] at h
    obtain ⟨m', h1, hm'⟩ := memK_ok h
    obtain ⟨E', h2, hput⟩ := putA_ok h1
    refine ⟨q, E', m', _, h2, rfl, fun hcs a w next Q hrel hn => ?_⟩
    obtain ⟨⟨β, hβ, hE, hW, hF⟩, hd, hu⟩ := hrel
    have hd' : ∀ v, (a.put o.dst v).defers = ds := fun v => by rw [← hd]; cases o.dst <;> rfl
    have fin : ∀ v w', SAfter S w₀ (tagsOf E) β m w q v w' → Rel S w₀ β₀ nt ds E' m' (a.put o.dst v) w' := by
      intro v w' hs
      unfold SAfter at hs
      rcases hm' with ⟨e1, e2, e3⟩ | ⟨b, e1, e2, e3⟩ | ⟨e1, e2⟩
      · rw [e1, e2] at hs
        obtain ⟨q1, q2, q3⟩ := hs
        subst e3
        obtain ⟨p1, p2⟩ := hput β v a hE q2 q3
        exact ⟨⟨β, hβ, p1, hW.qt q1, hF⟩, hd' v, p2 hu⟩
      · rw [e1, e2] at hs
        obtain ⟨ht, cells, c, e, g1, g2, g3, g4⟩ := hs
        subst e3 g1 g2
        have hfl := hF m.length (Nat.le_refl _)
        have hle := BM.upd_le hfl ⟨w.heap.size, 0, some c.size⟩
        obtain ⟨p1, p2⟩ := hput _ v a (hE.mono hle) (fun _ => g4) (fun hn => absurd (by rw [ht]; exact holds_nil _) hn)
        exact ⟨⟨_, hβ.trans hle, p1, hW.new hfl e g3, hF.upd⟩, hd' v, p2 hu⟩
      · rw [e2] at hs
        obtain ⟨_, ht, β', b1, b2, b3, b4⟩ := hs
        obtain ⟨p1, p2⟩ := hput _ v a (hE.mono b1) (fun _ => b4) (fun hn => absurd (by rw [ht]; exact holds_nil _) hn)
        exact ⟨⟨β', hβ.trans b1, p1, b3, b2⟩, hd' v, p2 hu⟩
    rcases stepR_ok hG hE hW (fun _ => tells_tagsOf E) hq (fun _ => hF) hcs with ⟨hw, ho⟩ | ⟨hw, hs⟩
    · rw [if_pos hw]
      exact ho a next Q fun v w' hv => hn _ _ (fin v w' hv)
    · rw [if_neg (by rw [hw]; exact Bool.false_ne_true)]
      exact hn _ _ (fin undef w hs)

/-- What the bringing together of two outcomes keeps. -/
def MgOk (mg : List Bool → Bool → Option R → Option R → Option R) (Sat : R → Prop) : Prop :=
  ∀ cs s o1 o2 r, mg cs s o1 o2 = some r → Sat r → (∀ b ∈ cs, b = true) ∧ (s = true → ∃ r1, o1 = some r1 ∧ Sat r1) ∧ (s = false → ∃ r2, o2 = some r2 ∧ Sat r2)

theorem noMerge_ok (Sat : R → Prop) : MgOk (noMerge (R := R)) Sat := fun cs s o1 o2 r h => by cases h

theorem cutT_ok {t : Nat} {b : Bool} {T : Tags} (hT : ∀ pol, T (t, pol) ↔ pol = b) : ∀ {tg : List (Nat × Bool)}, (cutT t b tg = some true → holds T tg) ∧ (cutT t b tg = some false → ¬ holds T tg)
  | [] => ⟨fun _ => holds_nil T, fun h => by cases h⟩
  | x :: r => by
    simp only [cutT]
    split
    · rename_i hx
      have hx := Nat.eq_of_beq_eq_true hx
      obtain ⟨u, pol⟩ := x
      simp only at hx
      subst hx
      split
      · rename_i hp
        have hp : pol = b := of_decide_eq_true hp
        subst hp
        obtain ⟨i1, i2⟩ := cutT_ok hT (tg := r)
        exact ⟨fun h => holds_cons ((hT pol).2 rfl) (i1 h), fun h hh => i2 h fun z hz => hh z (List.mem_cons_of_mem _ hz)⟩
      · rename_i hp
        have hp : ¬ pol = b := of_decide_eq_false hp
        exact ⟨(fun h => by cases h), fun _ hh => hp ((hT pol).1 (hh _ (List.mem_cons_self ..)))⟩
    · exact ⟨(fun h => by cases h), (fun h => by cases h)⟩

theorem forkK_eq {t : Nat} {b : Bool} : ∀ {E : Env} {k : Env → Option R} {r : R}, forkK t b E k = some r → ∃ E', k E' = some r ∧ (∀ e' ∈ E', e'.tg = [] ∧ ∃ e ∈ E, e.s = e'.s ∧ ((e.s = t ∧ e'.v = .bool b) ∨ (cutT t b e.tg = some true ∧ e'.v = e.v) ∨ (cutT t b e.tg = some false ∧ e'.v = .tup []))) ∧ (Uniq E → Uniq E')
  | [], k, r, h => ⟨[], h, fun e he => by simp at he, fun _ => trivial⟩
  | e :: E, k, r, h => by
    have one : ∀ v : AV, (e.s = t ∧ v = .bool b) ∨ (cutT t b e.tg = some true ∧ v = e.v) ∨ (cutT t b e.tg = some false ∧ v = .tup []) → (forkK t b E fun r' => k (⟨e.s, v, []⟩ :: r')) = some r → ∃ E', k E' = some r ∧ (∀ e' ∈ E', e'.tg = [] ∧ ∃ e0 ∈ e :: E, e0.s = e'.s ∧ ((e0.s = t ∧ e'.v = .bool b) ∨ (cutT t b e0.tg = some true ∧ e'.v = e0.v) ∨ (cutT t b e0.tg = some false ∧ e'.v = .tup []))) ∧ (Uniq (e :: E) → Uniq E') := by
      intro v hv h
      obtain ⟨E', h1, h2, h3⟩ := forkK_eq h
      refine ⟨⟨e.s, v, []⟩ :: E', h1, fun e' he' => ?_, fun hu => ⟨fun x hx => ?_, h3 hu.2⟩⟩
      · rcases List.mem_cons.1 he' with rfl | he'
        · exact ⟨rfl, e, List.mem_cons_self .., rfl, hv⟩
        · obtain ⟨g1, e0, g2, g3⟩ := h2 e' he'
          exact ⟨g1, e0, List.mem_cons_of_mem _ g2, g3⟩
      · obtain ⟨_, e0, g2, g3, _⟩ := h2 x hx
        have := hu.1 e0 g2
        show x.s ≠ e.s
        rw [← g3]
        exact this
    simp only [forkK] at h
    split at h
    · rename_i hs
      exact one _ (.inl ⟨Nat.eq_of_beq_eq_true hs, rfl⟩) h
    · split at h
      · rename_i hc; exact one _ (.inr (.inl ⟨hc, rfl⟩)) h
      · rename_i hc; exact one _ (.inr (.inr ⟨hc, rfl⟩)) h
      · obtain ⟨E', h1, h2, h3⟩ := forkK_eq h
        refine ⟨E', h1, fun e' he' => ?_, fun hu => h3 hu.2⟩
        obtain ⟨g1, e0, g2, g3⟩ := h2 e' he'
        exact ⟨g1, e0, List.mem_cons_of_mem _ g2, g3⟩

theorem Rel.fork {t : Nat} {b : Bool} {E' : Env} (h : Rel S w₀ β₀ nt ds E m a w) {u : Nat} (ht : E.get t = some ⟨u, .sbool b, []⟩) (he : ∀ e' ∈ E', e'.tg = [] ∧ ∃ e ∈ E, e.s = e'.s ∧ ((e.s = t ∧ e'.v = .bool b) ∨ (cutT t b e.tg = some true ∧ e'.v = e.v) ∨ (cutT t b e.tg = some false ∧ e'.v = .tup []))) (hu : Uniq E') : Rel S w₀ β₀ nt ds E' m a w := by
  obtain ⟨⟨β, h1, h2, h3, h4⟩, h5, h6⟩ := h
  have hT : ∀ pol, tagsOf E (t, pol) ↔ pol = b := tells_tagsOf E t _ b ht rfl
  refine ⟨⟨β, h1, ⟨h2.size, fun q e' hg => ?_⟩, h3, h4⟩, h5, hu⟩
  obtain ⟨hm, hs⟩ := get_mem hg
  obtain ⟨g1, e, g2, g3, g4⟩ := he e' hm
  have hget := uniq_get h6 g2
  rw [g3, hs] at hget
  obtain ⟨c, c1, c2, c3⟩ := h2.get q e hget
  refine ⟨c, c1, fun _ => ?_, fun hn => absurd (by rw [g1]; exact holds_nil _) hn⟩
  rcases g4 with ⟨k1, k2⟩ | ⟨k1, k2⟩ | ⟨k1, k2⟩
  · have : q = t := by rw [← hs, ← g3, k1]
    subst this
    rw [ht] at hget
    cases hget
    have := c2 (holds_nil _)
    rw [k2]
    cases this with | sc _ _ this => cases this; exact .sc _ _ (.bool _)
  · rw [k2]; exact c2 ((cutT_ok hT).1 k1)
  · rw [k2, c3 ((cutT_ok hT).2 k1)]
    exact .tup _ _ .nil

theorem forkA_ok {ops : Array Oper} {o : Oper} {t : Nat} {s : Bool} (h : forkA P G ops o E m = some (t, s)) : ∃ u, E.get t = some ⟨u, .sbool s, []⟩ := by
  unfold forkA at h
  split at h
  · split at h
    · rename_i u s' hg
      split at h
      · cases h; exact ⟨u, hg⟩
      · split at h
        · cases h
        · cases h; exact ⟨u, hg⟩
    · cases h
  · cases h

theorem opsA_ok (hG : SoundG P G) {mg : List Bool → Bool → Option R → Option R → Option R} {Sat : R → Prop} (hmg : MgOk mg Sat) {ops : Array Oper} (l : List Oper) : ∀ {E : Env} {m : Mem} {cs D : List Bool} {k : Env → Mem → List Bool → List Bool → Option R} {r : R}, opsA P G nt mg ops l E m cs D k = some r → Sat r →
    (∀ E m cs D r, k E m cs D = some r → Sat r → ∀ b ∈ cs, b = true) →
    (∀ b ∈ cs, b = true) ∧ ∀ a w Q, Rel S w₀ β₀ nt ds E m a w → (∀ E' m' cs' D' r' a' w', k E' m' cs' D' = some r' → Sat r' → Rel S w₀ β₀ nt ds E' m' a' w' → Q .normal a' w') → wpList P ops Q l a w := by
  induction l with
  | nil =>
    intro E m cs D k r h hr hk
    exact ⟨hk _ _ _ _ _ h hr, fun a w Q hrel hq => hq _ _ _ _ _ a w h hr hrel⟩
  | cons o l ih =>
    intro E m cs D k r h hr hk
    have step : ∀ {E : Env} {cs D : List Bool} {r : R}, (stepA P G nt ops o E m cs fun _ E' m' cs' => opsA P G nt mg ops l E' m' cs' D k) = some r → Sat r →
        (∀ b ∈ cs, b = true) ∧ ∀ a w Q, Rel S w₀ β₀ nt ds E m a w → (∀ E' m' cs' D' r' a' w', k E' m' cs' D' = some r' → Sat r' → Rel S w₀ β₀ nt ds E' m' a' w' → Q .normal a' w') → wpList P ops Q (o :: l) a w := by
      intro E cs D r h hr
      obtain ⟨q, E1, m1, cs1, h1, hc1, hs⟩ := stepA_ok (S := S) (w₀ := w₀) (β₀ := β₀) (ds := ds) hG h
      obtain ⟨g1, g2⟩ := ih h1 hr hk
      rw [hc1] at g1
      refine ⟨fun b hb => g1 b (List.mem_append_right _ hb), fun a w Q hrel hq => ?_⟩
      have := hs (fun b hb => g1 b (List.mem_append_left _ hb)) a w (wpList P ops Q l) Q hrel fun a' w' hr' => g2 a' w' Q hr' hq
      unfold wpList
      split
      · rename_i hw; rw [if_pos hw] at this; exact .inl this
      · rename_i hw; rw [if_neg hw] at this; exact this
    have both : ∀ {s b : Bool} {t : Nat} {cs D : List Bool} {r : R} {u : Nat}, E.get t = some ⟨u, .sbool s, []⟩ → s = b → (forkK t b E fun E1 => stepA P G nt ops o E1 m cs fun _ E' m' cs' => opsA P G nt mg ops l E' m' cs' D k) = some r → Sat r →
        (∀ b ∈ cs, b = true) ∧ ∀ a w Q, Rel S w₀ β₀ nt ds E m a w → (∀ E' m' cs' D' r' a' w', k E' m' cs' D' = some r' → Sat r' → Rel S w₀ β₀ nt ds E' m' a' w' → Q .normal a' w') → wpList P ops Q (o :: l) a w := by
      intro s b t cs D r u hg hs h hr
      subst hs
      obtain ⟨E1, h1, h2, h3⟩ := forkK_eq h
      obtain ⟨g1, g2⟩ := step h1 hr
      exact ⟨g1, fun a w Q hrel hq => g2 a w Q (hrel.fork hg h2 (h3 hrel.uniq)) hq⟩
    simp only [opsA] at h
    split at h
    · exact step h hr
    · rename_i t s hf
      obtain ⟨u, hg⟩ := forkA_ok hf
      split at h
      · obtain ⟨m0, m1, m2⟩ := hmg _ s _ _ _ h hr
        cases s with
        | true => obtain ⟨r1, h1, hr1⟩ := m1 rfl; exact ⟨m0, (both hg rfl h1 hr1).2⟩
        | false => obtain ⟨r1, h1, hr1⟩ := m2 rfl; exact ⟨m0, (both hg rfl h1 hr1).2⟩
      · have hs : s = true := by
          obtain ⟨E1, h1, _⟩ := forkK_eq h
          exact (step h1 hr).1 s (List.mem_cons_self ..)
        obtain ⟨g1, g2⟩ := both hg hs h hr
        exact ⟨fun b hb => g1 b (List.mem_cons_of_mem _ hb), g2⟩
      · have hs : s = false := by
          obtain ⟨E1, h1, _⟩ := forkK_eq h
          simpa using (step h1 hr).1 (!s) (List.mem_cons_self ..)
        obtain ⟨g1, g2⟩ := both hg hs h hr
        exact ⟨fun b hb => g1 b (List.mem_cons_of_mem _ hb), g2⟩

theorem plainK_uniq {E : Env} : ∀ {k : Env → Option R} {r : R}, plainK E k = some r → ∃ E', k E' = some r ∧ (∀ e ∈ E', e ∈ E ∧ e.tg = []) ∧ (Uniq E → Uniq E') := by
  induction E with
  | nil => intro k r h; exact ⟨[], h, fun e he => by simp at he, fun _ => trivial⟩
  | cons x E ih =>
    intro k r h
    simp only [plainK] at h
    split at h
    · rename_i ht
      obtain ⟨E', h1, h2, h3⟩ := ih h
      refine ⟨x :: E', h1, fun e he => ?_, fun hu => ⟨fun e he => hu.1 e (h2 e he).1, h3 hu.2⟩⟩
      rcases List.mem_cons.1 he with rfl | he
      · exact ⟨List.mem_cons_self .., ht⟩
      · exact ⟨List.mem_cons_of_mem _ (h2 e he).1, (h2 e he).2⟩
    · obtain ⟨E', h1, h2, h3⟩ := ih h
      exact ⟨E', h1, fun e he => ⟨List.mem_cons_of_mem _ (h2 e he).1, (h2 e he).2⟩, fun hu => h3 hu.2⟩

/-- Fewer slots, none of them under a tag. -/
theorem Rel.plain {E' : Env} (h : Rel S w₀ β₀ nt ds E m a w) (he : ∀ e ∈ E', e ∈ E ∧ e.tg = []) (hu : Uniq E') : Rel S w₀ β₀ nt ds E' m a w := by
  obtain ⟨⟨β, h1, h2, h3, h4⟩, h5, h6⟩ := h
  refine ⟨⟨β, h1, ⟨h2.size, fun t e hg => ?_⟩, h3, h4⟩, h5, hu⟩
  obtain ⟨hm, hs⟩ := get_mem hg
  obtain ⟨hE, htg⟩ := he e hm
  have := uniq_get h6 hE
  rw [hs] at this
  obtain ⟨c, c1, c2, c3⟩ := h2.get t e this
  refine ⟨c, c1, fun _ => c2 (by rw [htg]; exact holds_nil _), fun hn => absurd (by rw [htg]; exact holds_nil _) hn⟩

end
end Go.Sim

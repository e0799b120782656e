/-
  Slots that a code does not assign stay as they are; what stands behind a code is asked of no other slots.
-/
import Derived.Test.YtekilpllicggeaaSimO
namespace Go.Sim

section
variable {P : Program} {G : Summ} {nt : Nat} {R : Type}

/-- Slots not of 'L', under no tag, stand as they stood. -/
def Kp (L : List Nat) (E E' : Env) : Prop := ∀ t, natMem t L = false → ∀ e, E.get t = some e → e.tg = [] → E'.get t = some e
def TagsIn (L : List Nat) (E : Env) : Prop := ∀ e ∈ E, ∀ x ∈ e.tg, natMem x.1 L = true
def Plain (E : Env) : Prop := ∀ e ∈ E, e.tg = []

theorem Kp.refl (L : List Nat) (E : Env) : Kp L E E := fun _ _ _ h _ => h
theorem Kp.trans {L : List Nat} {A B C : Env} (h : Kp L A B) (k : Kp L B C) : Kp L A C := fun t ht e he hg => k t ht e (h t ht e he hg) hg
theorem Plain.tags {L : List Nat} {E : Env} (h : Plain E) : TagsIn L E := fun e he x hx => by rw [h e he] at hx; simp at hx

theorem plainE_ok : ∀ {E : Env}, plainE E = true → Plain E
  | [], _ => fun e he => by simp at he
  | e :: r, h => by
    simp only [plainE] at h
    split at h
    · rename_i ht
      intro x hx
      rcases List.mem_cons.1 hx with rfl | hx
      · exact ht
      · exact plainE_ok h x hx
    · cases h

theorem natMem_iff {j : Nat} : ∀ {L : List Nat}, natMem j L = true ↔ j ∈ L
  | [] => by simp [natMem]
  | x :: r => by
    simp only [natMem]
    split
    · rename_i h
      have := Nat.eq_of_beq_eq_true h
      simp [this]
    · rename_i h
      have hne : x ≠ j := fun e => by rw [e, Nat.beq_refl] at h; cases h
      rw [natMem_iff (L := r)]
      simp [Ne.symm hne]

theorem natMem_false {j : Nat} {L : List Nat} : natMem j L = false ↔ j ∉ L := by
  rw [← Bool.not_eq_true, natMem_iff]

theorem Kp.mono {L L' : List Nat} {A B : Env} (h : Kp L A B) (hs : ∀ x ∈ L, x ∈ L') : Kp L' A B := fun t ht e he hg => h t (natMem_false.2 fun hm => natMem_false.1 ht (hs t hm)) e he hg

theorem putK_pure (E : Env) (e : Ent) : ∃ E', (∀ k : Env → Option R, Env.putK E e k = k E') ∧ (∀ t, E'.get t = if e.s = t then some e else E.get t) ∧ (∀ x ∈ E', x = e ∨ x ∈ E) := by
  induction E with
  | nil =>
    refine ⟨[e], fun _ => rfl, fun t => ?_, fun x hx => by simp at hx; exact .inl hx⟩
    simp only [Env.get]
    by_cases h : e.s = t
    · rw [if_pos h, h, Nat.beq_refl]
    · rw [if_neg h]
      have : Nat.beq e.s t = false := by
        cases hb : Nat.beq e.s t
        · rfl
        · exact absurd (Nat.eq_of_beq_eq_true hb) h
      rw [this]
  | cons x E ih =>
    obtain ⟨E1, e1, e2, e3⟩ := ih
    cases hb : Nat.beq x.s e.s with
    | true =>
      have hx := Nat.eq_of_beq_eq_true hb
      refine ⟨e :: E, fun k => by simp only [Env.putK, hb], fun t => ?_, fun y hy => ?_⟩
      · simp only [Env.get]
        by_cases h : e.s = t
        · rw [if_pos h, h, Nat.beq_refl]
        · have h1 : Nat.beq e.s t = false := by
            cases hb : Nat.beq e.s t
            · rfl
            · exact absurd (Nat.eq_of_beq_eq_true hb) h
          rw [if_neg h, h1, hx, h1]
      · rcases List.mem_cons.1 hy with rfl | hy
        · exact .inl rfl
        · exact .inr (List.mem_cons_of_mem _ hy)
    | false =>
      have hne : x.s ≠ e.s := fun h => by rw [h, Nat.beq_refl] at hb; cases hb
      refine ⟨x :: E1, fun k => by simp only [Env.putK, hb, e1], fun t => ?_, fun y hy => ?_⟩
      · simp only [Env.get]
        split
        · rename_i hx
          have hx := Nat.eq_of_beq_eq_true hx
          rw [if_neg (by omega)]
        · exact e2 t
      · rcases List.mem_cons.1 hy with rfl | hy
        · exact .inr (List.mem_cons_self ..)
        · rcases e3 y hy with h | h
          · exact .inl h
          · exact .inr (List.mem_cons_of_mem _ h)

theorem cutT_nil (t : Nat) (b : Bool) : cutT t b [] = some true := rfl

theorem forkK_pure (t : Nat) (b : Bool) (E : Env) : ∃ E', (∀ k : Env → Option R, forkK t b E k = k E') ∧ Plain E' ∧ ∀ u, u ≠ t → ∀ e, E.get u = some e → e.tg = [] → E'.get u = some e := by
  induction E with
  | nil => exact ⟨[], fun _ => rfl, fun e he => by simp at he, fun u _ e he => by simp [Env.get] at he⟩
  | cons x E ih =>
    obtain ⟨E1, e1, e2, e3⟩ := ih
    have gc : ∀ {r : Env} {y : Ent} {u : Nat}, Env.get (y :: r) u = if y.s = u then some y else r.get u := by
      intro r y u
      simp only [Env.get]
      split
      · rename_i h; rw [if_pos (Nat.eq_of_beq_eq_true h)]
      · rename_i h; rw [if_neg (fun he => by rw [he, Nat.beq_refl] at h; cases h)]
    have put : ∀ v : AV, (∀ u, u ≠ t → x.s = u → x.tg = [] → v = x.v) → Plain (⟨x.s, v, []⟩ :: E1) ∧ ∀ u, u ≠ t → ∀ e, Env.get (x :: E) u = some e → e.tg = [] → Env.get (⟨x.s, v, []⟩ :: E1) u = some e := by
      intro v hv
      refine ⟨fun y hy => ?_, fun u hu e he hg => ?_⟩
      · rcases List.mem_cons.1 hy with rfl | hy
        · rfl
        · exact e2 y hy
      · rw [gc] at he ⊢
        split at he
        · rename_i hs
          cases he
          rw [if_pos hs, hv u hu hs hg]
          cases x
          simp only at hg
          rw [hg]
        · rename_i hs
          rw [if_neg hs]
          exact e3 u hu e he hg
    cases hb : Nat.beq x.s t with
    | true =>
      obtain ⟨p1, p2⟩ := put (.bool b) fun u hu hs _ => absurd (hs.symm.trans (Nat.eq_of_beq_eq_true hb)) hu
      exact ⟨_, fun k => by simp only [forkK, hb, e1], p1, p2⟩
    | false =>
      cases hc : cutT t b x.tg with
      | none =>
        refine ⟨E1, fun k => by simp only [forkK, hb, hc, e1], e2, fun u hu e he hg => ?_⟩
        rw [gc] at he
        split at he
        · cases he
          rw [hg] at hc
          cases hc
        · exact e3 u hu e he hg
      | some c =>
        cases c with
        | true =>
          obtain ⟨p1, p2⟩ := put x.v fun _ _ _ _ => rfl
          exact ⟨_, fun k => by simp only [forkK, hb, hc, e1], p1, p2⟩
        | false =>
          obtain ⟨p1, p2⟩ := put (.tup []) fun u hu hs hg => by rw [hg] at hc; cases hc
          exact ⟨_, fun k => by simp only [forkK, hb, hc, e1], p1, p2⟩

theorem plainK_pure (E : Env) : ∃ E', (∀ k : Env → Option R, plainK E k = k E') ∧ Plain E' ∧ ∀ u e, E.get u = some e → e.tg = [] → E'.get u = some e := by
  induction E with
  | nil => exact ⟨[], fun _ => rfl, fun e he => by simp at he, fun u e he => by simp [Env.get] at he⟩
  | cons x E ih =>
    obtain ⟨E1, e1, e2, e3⟩ := ih
    have gc : ∀ {r : Env} {y : Ent} {u : Nat}, Env.get (y :: r) u = if y.s = u then some y else r.get u := by
      intro r y u
      simp only [Env.get]
      split
      · rename_i h; rw [if_pos (Nat.eq_of_beq_eq_true h)]
      · rename_i h; rw [if_neg (fun he => by rw [he, Nat.beq_refl] at h; cases h)]
    cases ht : x.tg with
    | nil =>
      refine ⟨x :: E1, fun k => by simp only [plainK, ht, e1], fun y hy => ?_, fun u e he hg => ?_⟩
      · rcases List.mem_cons.1 hy with rfl | hy
        · exact ht
        · exact e2 y hy
      · rw [gc] at he ⊢
        split at he
        · rename_i hs; rw [if_pos hs]; exact he
        · rename_i hs; rw [if_neg hs]; exact e3 u e he hg
    | cons y r =>
      refine ⟨E1, fun k => by simp only [plainK, ht, e1], e2, fun u e he hg => ?_⟩
      rw [gc] at he
      split at he
      · cases he; rw [ht] at hg; cases hg
      · exact e3 u e he hg

theorem guardA_tags {L : List Nat} {ops : Array Oper} {E : Env} {o : Oper} {tg : List (Nat × Bool)} (h : guardA ops E o = some (.yes tg)) (hT : TagsIn L E) (hL : ∀ o ∈ ops.toList, ∀ d, o.dst = some d → natMem d L = true) : ∀ x ∈ tg, natMem x.1 L = true := by
  unfold guardA at h
  split at h
  · cases h; intro x hx; simp at hx
  · split at h
    · cases h
    · rename_i j pol oj hoj
      split at h
      · cases h
      · rename_i t ht
        have hm : oj ∈ ops.toList := by
          rw [Array.mem_toList_iff]
          exact Array.mem_of_getElem? hoj
        split at h
        · rename_i u b tg' hg
          split at h
          · cases h; exact fun x hx => hT _ (get_mem hg).1 x hx
          · cases h; exact fun x hx => hT _ (get_mem hg).1 x hx
          · cases h
        · rename_i u b tg' hg
          cases h
          intro x hx
          rcases List.mem_cons.1 hx with rfl | hx
          · exact hL oj hm t ht
          · exact hT _ (get_mem hg).1 x hx
        · cases h
        · cases h

theorem stepR_tags {L : List Nat} {ops : Array Oper} {E : Env} {m : Mem} {o : Oper} {r : SRes} (h : stepR P G ops o E m = some r) (hT : TagsIn L E) (hL : ∀ o ∈ ops.toList, ∀ d, o.dst = some d → natMem d L = true) : ∀ x ∈ r.tg, natMem x.1 L = true := by
  unfold stepR at h
  split at h
  · cases h
  · cases h; intro x hx; simp at hx
  · rename_i tg hg
    have := guardA_tags hg hT hL
    split at h
    · cases h
    · cases h; exact this
    · split at h
      · cases h; intro x hx; simp at hx
      · cases h

theorem stepA_congr {L : List Nat} {ops : Array Oper} {o : Oper} {E : Env} {m : Mem} {cs : List Bool} {k k' : SRes → Env → Mem → List Bool → Option R} (hT : TagsIn L E) (hL : ∀ o ∈ ops.toList, ∀ d, o.dst = some d → natMem d L = true) (ho : o ∈ ops.toList)
    (hk : ∀ q E' m' cs', TagsIn L E' → Kp L E E' → k q E' m' cs' = k' q E' m' cs') : stepA P G nt ops o E m cs k = stepA P G nt ops o E m cs k' := by
  unfold stepA
  cases hr : stepR P G ops o E m with
  | none => rfl
  | some r =>
    have htg := stepR_tags hr hT hL
    simp only [appendK_eq]
    have fin : ∀ m' : Mem, (putA nt o.dst r.v r.tg E fun E' => k r E' m' (r.cs ++ cs)) = putA nt o.dst r.v r.tg E fun E' => k' r E' m' (r.cs ++ cs) := by
      intro m'
      unfold putA
      cases hd : o.dst with
      | none => exact hk _ _ _ _ hT (Kp.refl L E)
      | some d =>
        simp only
        split
        · rfl
        · obtain ⟨E1, e1, e2, e3⟩ := putK_pure (R := R) E ⟨d, r.v, r.tg⟩
          rw [e1, e1]
          refine hk _ _ _ _ (fun e he x hx => ?_) fun t ht e he hg => ?_
          · rcases e3 e he with rfl | he
            · exact htg x hx
            · exact hT e he x hx
          · rw [e2, if_neg]
            · exact he
            · intro hdt
              have := hL o ho d hd
              simp only at hdt
              rw [hdt, ht] at this
              cases this
    unfold memK
    split
    · exact fin _
    · rw [appendK_eq, appendK_eq]; exact fin _
    · exact fin _
    · rfl

theorem opsA_congr {L : List Nat} {ops : Array Oper} {mg : List Bool → Bool → Option R → Option R → Option R} (hL : ∀ o ∈ ops.toList, ∀ d, o.dst = some d → natMem d L = true) (l : List Oper) (hl : ∀ o ∈ l, o ∈ ops.toList) : ∀ {E : Env} {m : Mem} {cs D : List Bool} {k k' : Env → Mem → List Bool → List Bool → Option R}, TagsIn L E →
    (∀ E' m' cs' D', TagsIn L E' → Kp L E E' → k E' m' cs' D' = k' E' m' cs' D') → opsA P G nt mg ops l E m cs D k = opsA P G nt mg ops l E m cs D k' := by
  induction l with
  | nil => intro E m cs D k k' hT hk; exact hk _ _ _ _ hT (Kp.refl L E)
  | cons o l ih =>
    intro E m cs D k k' hT hk
    have ho := hl o (List.mem_cons_self ..)
    have hl' := fun o h => hl o (List.mem_cons_of_mem _ h)
    simp only [opsA]
    cases hf : forkA P G ops o E m with
    | none => exact stepA_congr hT hL ho fun q E' m' cs' hT' hK => ih hl' hT' fun E2 m2 cs2 D2 h2 k2 => hk _ _ _ _ h2 (hK.trans k2)
    | some ts =>
      obtain ⟨t, s⟩ := ts
      have htL : natMem t L = true := by
        unfold forkA at hf
        split at hf
        · rename_i x hg
          have := guardA_tags hg hT hL x (List.mem_cons_self ..)
          split at hf
          · split at hf
            · cases hf; exact this
            · split at hf
              · cases hf
              · cases hf; exact this
          · cases hf
        · cases hf
      have one : ∀ (b : Bool) (cs D : List Bool), (forkK t b E fun E1 => stepA P G nt ops o E1 m cs fun _ E' m' cs' => opsA P G nt mg ops l E' m' cs' D k) = forkK t b E fun E1 => stepA P G nt ops o E1 m cs fun _ E' m' cs' => opsA P G nt mg ops l E' m' cs' D k' := by
        intro b cs D
        obtain ⟨E1, e1, e2, e3⟩ := forkK_pure (R := R) t b E
        rw [e1, e1]
        have hK1 : Kp L E E1 := fun u hu e he hg => e3 u (fun h => by rw [h, htL] at hu; cases hu) e he hg
        exact stepA_congr e2.tags hL ho fun q E' m' cs' hT' hK => ih hl' hT' fun E2 m2 cs2 D2 h2 k2 => hk _ _ _ _ h2 ((hK1.trans hK).trans k2)
      cases D with
      | nil => simp only; rw [one true, one false]
      | cons d D =>
        cases d with
        | true => exact one true _ _
        | false => exact one false _ _

theorem drawA_congr {L : List Nat} {ops : Array Oper} (hL : ∀ o ∈ ops.toList, ∀ d, o.dst = some d → natMem d L = true) (l : List Oper) (hl : ∀ o ∈ l, o ∈ ops.toList) : ∀ {as : List (List Nat)} {done : List ((Loud × Option Nat) × Bool)} {E : Env} {m : Mem} {cs : List Bool} {k k' : Env → Mem → List Bool → Option R}, TagsIn L E →
    (∀ E' m' cs', TagsIn L E' → Kp L E E' → k E' m' cs' = k' E' m' cs') → drawA P G nt ops l as done E m cs k = drawA P G nt ops l as done E m cs k' := by
  induction l with
  | nil => intro as done E m cs k k' hT hk; simp only [drawA]; exact hk _ _ _ hT (Kp.refl L E)
  | cons o l ih =>
    intro as done E m cs k k' hT hk
    cases as with
    | nil => rfl
    | cons anc as =>
      simp only [drawA]
      refine stepA_congr hT hL (hl o (List.mem_cons_self ..)) fun q E' m' cs' hT' hK => ?_
      split
      · exact ih (fun o h => hl o (List.mem_cons_of_mem _ h)) hT' fun E2 m2 cs2 h2 k2 => hk _ _ _ h2 (hK.trans k2)
      · rfl

theorem asgR_mem {l : List Oper} {o : Oper} {d : Nat} (ho : o ∈ l) (hd : o.dst = some d) : d ∈ asgR l := by
  induction l with
  | nil => simp at ho
  | cons x r ih =>
    simp only [asgR]
    rcases List.mem_cons.1 ho with rfl | ho
    · rw [hd]; exact List.mem_cons_self ..
    · have := ih ho
      split
      · exact this
      · exact List.mem_cons_of_mem _ this

theorem regionA_congr {L : List Nat} {ops : Array Oper} {draw : Bool} {mg : List Bool → Bool → Option R → Option R → Option R} {E : Env} {m : Mem} {cs D : List Bool} {k k' : Env → Mem → List Bool → List Bool → Option R} (hP : Plain E) (hL : ∀ x ∈ asgR ops.toList, x ∈ L)
    (hk : ∀ E' m' cs' D', Plain E' → Kp L E E' → k E' m' cs' D' = k' E' m' cs' D') : regionA P G nt mg draw ops E m cs D k = regionA P G nt mg draw ops E m cs D k' := by
  have hL' : ∀ o ∈ ops.toList, ∀ d, o.dst = some d → natMem d L = true := fun o ho d hd => natMem_iff.2 (hL d (asgR_mem ho hd))
  unfold regionA
  cases draw with
  | false =>
    refine opsA_congr hL' _ (fun _ h => h) hP.tags fun E' m' cs' D' _ hK => ?_
    obtain ⟨E1, e1, e2, e3⟩ := plainK_pure (R := R) E'
    rw [e1, e1]
    exact hk _ _ _ _ e2 fun u hu e he hg => e3 u e (hK u hu e he hg) hg
  | true =>
    simp only
    split
    · obtain ⟨E0, f1, f2, f3⟩ := plainK_pure (R := R) E
      rw [f1, f1]
      refine drawA_congr hL' _ (fun _ h => h) f2.tags fun E' m' cs' _ hK => ?_
      obtain ⟨E1, e1, e2, e3⟩ := plainK_pure (R := R) E'
      rw [e1, e1]
      exact hk _ _ _ _ e2 fun u hu e he hg => e3 u e (hK u hu e (f3 u e he hg) hg) hg
    · rfl

end
end Go.Sim

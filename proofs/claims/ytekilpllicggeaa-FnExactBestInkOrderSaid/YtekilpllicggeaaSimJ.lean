/-
  Every operation; regions in whatever order.
-/
import Derived.Test.YtekilpllicggeaaSimI
namespace Go.Sim

section
variable {P : Program} {G : Summ} {S : Nat → Prop} {w₀ w : World} {β : BM} {m : Mem} {T : Tags} {nt : Nat} {E : Env} {a : Act} {tg : List (Nat × Bool)}

/-- An operation that gives a value as a run of its own says. -/
theorem Outc.of_run {o : Oper} {s : Sem Value} {R : Value → World → Prop} (he : execOp a.eval o = (do pure (.value (← s)))) {v : Value} {w' : World} (h : s.run P w = .ok v w') (hR : R v w') : Outc P o ((execOp a.eval o).run P w) R := by
  refine Outc.value (v := v) (w' := w') ?_ hR
  rw [he, Sem.run_bind, h]
  rfl

theorem scL_ok {xs : List AV} {ys : List Value} (h : scL xs = true) (hv : VRs β xs ys) : SRs β xs ys := by
  induction xs generalizing ys with
  | nil => cases hv; exact .nil
  | cons x xs ih =>
    cases hv with | cons _ y _ ys hx hxs =>
    cases hx with
    | sc _ _ hx => exact .cons _ _ _ _ hx (ih (by cases x <;> first | exact h | (simp [scL] at h)) hxs)
    | agg => simp [scL] at h
    | tup => simp [scL] at h

set_option maxHeartbeats 2000000 in
theorem opA_ok (hG : SoundG P G) (hE : ER T β nt E a.tmps) (ht : holds T tg) (hW : WS S w₀ β m w) (o : Oper) (hT : (∃ c x y, o.op = .pick c x y) → Tells T E) {r : OR} (hfr : r.m ≠ none → Fresh β m) (h : opA P G E tg m o.op = some r) (hcs : ∀ b ∈ r.cs, b = true) :
    Outc P o ((execOp a.eval o).run P w) (After S w₀ β m w r) := by
  have hx : ∀ op, o.op = op → execOp a.eval o = execOp a.eval { o with op := op } := by
    intro op h; subst h; rfl
  generalize hop : o.op = op at h
  have hex := hx op hop
  cases op <;> simp only [opA] at h <;> try (cases h; done)
  case move x =>
    split at h
    · rename_i v hv; cases h
      exact Outc.value (v := a.eval x) (by rw [hex]; rfl) (After.same (Qt.refl w) ⟨rfl, rfl⟩ (rd_ok hE ht hv))
    · cases h
  case assign x =>
    split at h
    · rename_i v hv; cases h
      exact Outc.value (v := a.eval x) (by rw [hex]; rfl) (After.same (Qt.refl w) ⟨rfl, rfl⟩ (rd_ok hE ht hv))
    · cases h
  case pick c x y =>
    obtain ⟨h1, b, h2, h3⟩ := pickA_ok hE (hT ⟨_, _, _, hop⟩) ht h
    refine Outc.value (v := if b then a.eval x else a.eval y) ?_ (After.same (Qt.refl w) h1 h3)
    rw [hex]
    simp only [execOp, h2, asBool, Sem.run_bind, Sem.run_pure, Result.andThen_ok]
  case alloc t =>
    split at h
    · rename_i ti hti
      obtain ⟨z, hz1, hz2⟩ := (tiOf_ok hti).zero β w
      have hr := newA_eq h
      subst hr
      refine Outc.value (v := .pointer (some ⟨w.heap.size, 0, none⟩)) (w' := w.alloc (.cells z.cells t)) ?_ (After.lays ⟨_, _, _, rfl, rfl, rfl, hz2, ?_⟩)
      · rw [hex]
        simp only [execOp, Instr.alloc, newVar, Sem.run_bind, hz1, Result.andThen_ok, run_newRow, Sem.run_pure]
      · exact .sc _ _ (.ptr _ 0 _ (BM.upd_self ..))
    · cases h
  case box t x =>
    split at h
    · rename_i v hv
      split at h
      · rename_i vs hvs
        have hc := (rd_ok hE ht hv).cells hvs
        have hr := newA_eq h
        subst hr
        refine Outc.value (v := .pointer (some ⟨w.heap.size, 0, none⟩)) (w' := w.alloc (.cells (a.eval x).cells t)) ?_ (After.lays ⟨_, _, _, rfl, rfl, rfl, hc, ?_⟩)
        · rw [hex]
          simp only [execOp, Instr.box, newVar, Sem.run_bind, Result.andThen_ok, run_newRow, Sem.run_pure]
        · exact .sc _ _ (.ptr _ 0 _ (BM.upd_self ..))
      · cases h
    · cases h
  case build t ps =>
    split at h
    · rename_i l hl
      obtain ⟨p1, p2⟩ := partsL_ok hE ht hl
      obtain ⟨h1, h2, v, h3, h4⟩ := buildA_ok (P := P) (w := w) (cps := ps.map fun (i, x) => (i, a.eval x)) h (by rw [p1]; simp [Function.comp_def]) (by simpa [Function.comp_def] using p2)
      exact Outc.of_run (s := Instr.build t (ps.map fun (i, x) => (i, a.eval x))) (by rw [hex]; rfl) h3 (After.same (Qt.refl w) h1 h4)
    · cases h
  case buildSlice t n ps =>
    split at h
    · rename_i l hl
      obtain ⟨p1, p2⟩ := partsL_ok hE ht hl
      obtain ⟨h1, v, w', h3, h4⟩ := buildSliceA_ok (P := P) (w := w) (m := m) (cps := ps.map fun (i, x) => (i, a.eval x)) h (by rw [p1]; simp [Function.comp_def]) (by simpa [Function.comp_def] using p2)
      exact Outc.of_run (s := Instr.buildSlice t n (ps.map fun (i, x) => (i, a.eval x))) (by rw [hex]; rfl) h3 (After.lays h4)
    · cases h
  case load t x =>
    split at h
    · rename_i v hv
      obtain ⟨h1, h1', u, h2, h3⟩ := loadA_ok (P := P) hW h hcs (rd_ok hE ht hv)
      exact Outc.of_run (s := Instr.loadAt t (a.eval x)) (by rw [hex]; rfl) h2 (After.same (Qt.refl w) ⟨h1, h1'⟩ h3)
    · cases h
  case store t x y =>
    split at h
    · rename_i v u hv hu
      obtain ⟨w', m', h1, h1', hl, h2, h3, h4⟩ := storeA_ok (P := P) hW h hcs (rd_ok hE ht hv) (rd_ok hE ht hu)
      have hF := hfr (by rw [h1]; simp)
      refine Outc.skip (w' := w') ?_ (After.writes h1 h1' ⟨β, BLe.refl β, fun i hi => hF i (by omega), h4, by rw [h2]; exact .tup _ _ .nil⟩)
      rw [hex]
      simp only [execOp, Sem.run_bind, h3, Result.andThen_ok, Sem.run_pure]
    · cases h
  case nilCheck x =>
    split at h
    · rename_i i off hv
      cases h
      have hv' := rd_ok hE ht hv
      refine Outc.value (v := a.eval x) (w' := w) ?_ (After.same (Qt.refl w) ⟨rfl, rfl⟩ hv')
      rw [hex]
      generalize hc : a.eval x = c at hv'
      cases hv' with | sc _ _ hv' =>
      cases hv'
      simp only [execOp, hc, Sem.run_pure]
    · rename_i i off n es z hv
      cases h
      have hv' := rd_ok hE ht hv
      refine Outc.value (v := a.eval x) (w' := w) ?_ (After.same (Qt.refl w) ⟨rfl, rfl⟩ hv')
      rw [hex]
      generalize hc : a.eval x = c at hv'
      cases hv' with | sc _ _ hv' =>
      cases hv'
      simp only [execOp, hc, Sem.run_pure]
    · rename_i f caps hv
      cases h
      have hv' := rd_ok hE ht hv
      refine Outc.value (v := a.eval x) (w' := w) ?_ (After.same (Qt.refl w) ⟨rfl, rfl⟩ hv')
      rw [hex]
      generalize hc : a.eval x = c at hv'
      cases hv' with | sc _ _ hv' =>
      cases hv'
      simp only [execOp, hc, Sem.run_pure]
    · cases h
  case binOp op t x y yt =>
    split at h
    · rename_i u v hu hv
      obtain ⟨h1, c, n, h2, h3⟩ := binV_ok (P := P) (w := w) h hcs x y (rd_ok hE ht hu) (rd_ok hE ht hv)
      exact Outc.of_run (s := do eqGuard op t x y (a.eval x) (a.eval y); binOp op t (a.eval x) (a.eval y)) (by rw [hex]; rfl) h2 (After.same (Qt.drewN w n) h1 h3)
    · cases h
  case unOp op t x =>
    split at h
    · rename_i u hu
      obtain ⟨h1, h2, c, h3, h4⟩ := unA_ok (P := P) (w := w) h (rd_ok hE ht hu)
      exact Outc.of_run (s := Op.unary op (a.eval x)) (by rw [hex]; rfl) h3 (After.same (Qt.refl w) h1 h4)
    · cases h
  case convert s d x =>
    split at h
    · rename_i u hu
      obtain ⟨h1, c, n, h3, h4⟩ := convA_ok (P := P) (w := w) h hcs (rd_ok hE ht hu)
      exact Outc.of_run (s := convert s d (a.eval x)) (by rw [hex]; rfl) h3 (After.same (Qt.drewN w n) h1 h4)
    · cases h
  case makeFunc fn first caps =>
    cases fn with
    | func f =>
      simp only at h
      split at h
      · rename_i l hf hl
        split at h
        · rename_i hsc
          cases h
          have hf' : first = #[] := by
            have : first = ⟨first.toList⟩ := rfl
            rw [this, hf]
          have hl' := scL_ok hsc (rdL_ok hE ht hl)
          have hm : caps.map a.eval = ⟨caps.toList.map a.eval⟩ := by apply Array.ext'; simp
          refine Outc.of_run (s := Instr.makeFunc (.func f) (first.map a.eval) (caps.map a.eval)) (by rw [hex]; rfl) (v := .func (.func f) #[] ⟨caps.toList.map a.eval⟩) (w' := w) ?_ (After.same (Qt.refl w) ⟨rfl, rfl⟩ (.sc _ _ (.fn _ _ _ hl')))
          rw [hf', hm]
          simp [Instr.makeFunc]
        · cases h
      · cases h
    | _ => simp only at h; cases h
  case makeSlice t l c =>
    split at h
    · rename_i u v hu hv
      unfold makeX at h
      split at h
      · obtain ⟨hn, c', w', m', h1, h2, h3⟩ := makeS_ok (P := P) (w := w) (m := m) hW hfr h hcs (rd_ok hE ht hu) (rd_ok hE ht hv)
        exact Outc.of_run (s := Instr.makeSlice t (a.eval l) (a.eval c)) (by rw [hex]; rfl) h2 (After.writes h1 hn h3)
      · obtain ⟨h1, c', w', h2, h3⟩ := makeSliceA_ok (P := P) (w := w) (m := m) h (rd_ok hE ht hu) (rd_ok hE ht hv)
        exact Outc.of_run (s := Instr.makeSlice t (a.eval l) (a.eval c)) (by rw [hex]; rfl) h2 (After.lays h3)
    · cases h
  case slice t x lo hi mx =>
    cases mx with
    | some q => simp only at h; cases h
    | none =>
      simp only at h
      split at h
      · rename_i u l hh hu hl hhi
        obtain ⟨h1, c, h2, h3⟩ := sliceAV_ok (P := P) hW h hcs (rd_ok hE ht hu) (optA_ok hE ht hl) (optA_ok hE ht hhi)
        exact Outc.of_run (s := Instr.sliceAt t (a.eval x) (lo.map a.eval) (hi.map a.eval) none) (by rw [hex]; rfl) h2 (After.same (Qt.refl w) h1 h3)
      · cases h
  case fieldAddr t x f =>
    split at h
    · rename_i u hu
      obtain ⟨h1, h2, c, h3, h4⟩ := fieldAddrA_ok (P := P) (w := w) h (rd_ok hE ht hu)
      exact Outc.of_run (s := Instr.fieldAt t (a.eval x) f) (by rw [hex]; rfl) h3 (After.same (Qt.refl w) h1 h4)
    · cases h
  case field t x f =>
    split at h
    · rename_i u hu
      obtain ⟨h1, h2, c, h3, h4⟩ := fieldA_ok (P := P) (w := w) h (rd_ok hE ht hu)
      exact Outc.of_run (s := Instr.field t (a.eval x) f) (by rw [hex]; rfl) h3 (After.same (Qt.refl w) h1 h4)
    · cases h
  case indexAddr t x i =>
    split at h
    · rename_i u v hu hv
      obtain ⟨h1, c, h3, h4⟩ := indexAddrA_ok (P := P) (w := w) h hcs (rd_ok hE ht hu) (rd_ok hE ht hv)
      exact Outc.of_run (s := Instr.indexAt t (a.eval x) (a.eval i)) (by rw [hex]; rfl) h3 (After.same (Qt.refl w) h1 h4)
    · cases h
  case index t x i =>
    split at h
    · rename_i u v hu hv
      obtain ⟨h1, c, h3, h4⟩ := indexA_ok (P := P) (w := w) h hcs (rd_ok hE ht hu) (rd_ok hE ht hv)
      exact Outc.of_run (s := Instr.index t (a.eval x) (a.eval i)) (by rw [hex]; rfl) h3 (After.same (Qt.refl w) h1 h4)
    · cases h
  case extract x i =>
    split at h
    · rename_i vs hv
      split at h
      · rename_i v hi
        cases h
        have hv' := rd_ok hE ht hv
        generalize hc : a.eval x = c at hv'
        cases hv' with
        | sc _ _ hv' => cases hv'
        | tup _ cs hcs' =>
          obtain ⟨c, e1, e2⟩ := hcs'.get hi
          refine Outc.of_run (s := Instr.extract (a.eval x) i) (by rw [hex]; rfl) (v := c) (w' := w) ?_ (After.same (Qt.refl w) ⟨rfl, rfl⟩ e2)
          rw [hc]
          have e1' : (⟨cs⟩ : Array Value)[i]? = some c := by simpa using e1
          simp only [Instr.extract, e1', Sem.run_pure]
      · cases h
    · cases h
  case call c => exact callA_ok hG hE ht hW (fun r' hr' hm => hfr (by rw [← Option.some.inj (hr'.symm.trans h)]; exact hm)) h hcs o hop

/-! ### Slots behind an operation -/

/-- Slots written once each. -/
def Uniq : Env → Prop
  | [] => True
  | e :: r => (∀ x ∈ r, x.s ≠ e.s) ∧ Uniq r

theorem uniq_get {E : Env} (h : Uniq E) {e : Ent} (he : e ∈ E) : E.get e.s = some e := by
  induction E with
  | nil => simp at he
  | cons x E ih =>
    simp only [Env.get]
    rcases List.mem_cons.1 he with rfl | he
    · rw [Nat.beq_refl]
    · have hne := h.1 e he
      have : Nat.beq x.s e.s = false := by
        cases hb : Nat.beq x.s e.s
        · rfl
        · exact absurd (Nat.eq_of_beq_eq_true hb).symm hne
      rw [this]
      exact ih h.2 he


theorem putK_eq {R : Type} (E : Env) (e : Ent) (k : Env → Option R) : ∃ E', Env.putK E e k = k E' ∧ (∀ t, E'.get t = if e.s = t then some e else E.get t) ∧ (∀ x ∈ E', x = e ∨ x ∈ E) ∧ (Uniq E → Uniq E') := by
  induction E generalizing k with
  | nil =>
    refine ⟨[e], rfl, fun t => ?_, fun x hx => by simp at hx; exact .inl hx, fun _ => ⟨fun x hx => by simp at hx, trivial⟩⟩
    simp only [Env.get]
    by_cases h : e.s = t
    · rw [if_pos h, h, Nat.beq_refl]
    · rw [if_neg h]
      have : Nat.beq e.s t = false := by
        cases hb : Nat.beq e.s t
        · rfl
        · exact absurd (Nat.eq_of_beq_eq_true hb) h
      rw [this]
  | cons x E ih =>
    simp only [Env.putK]
    split
    · rename_i hb
      have hb := Nat.eq_of_beq_eq_true hb
      refine ⟨e :: E, rfl, fun t => ?_, fun y hy => ?_, fun hu => ⟨fun y hy => by rw [← hb]; exact hu.1 y hy, hu.2⟩⟩
      · simp only [Env.get]
        by_cases h : e.s = t
        · rw [if_pos h, h, Nat.beq_refl]
        · have h1 : Nat.beq e.s t = false := by
            cases hb : Nat.beq e.s t
            · rfl
            · exact absurd (Nat.eq_of_beq_eq_true hb) h
          rw [if_neg h, h1, hb, h1]
      · rcases List.mem_cons.1 hy with rfl | hy
        · exact .inl rfl
        · exact .inr (List.mem_cons_of_mem _ hy)
    · rename_i hb
      have hne : x.s ≠ e.s := fun h => by rw [h, Nat.beq_refl] at hb; cases hb
      obtain ⟨E', e1, e2, e3, e4⟩ := ih fun r' => k (x :: r')
      refine ⟨x :: E', e1, fun t => ?_, fun y hy => ?_, fun hu => ⟨fun y hy => ?_, e4 hu.2⟩⟩
      · simp only [Env.get]
        split
        · rename_i hx
          have hx := Nat.eq_of_beq_eq_true hx
          rw [if_neg (by omega)]
        · exact e2 t
      · rcases List.mem_cons.1 hy with rfl | hy
        · exact .inr (List.mem_cons_self ..)
        · rcases e3 y hy with h | h
          · exact .inl h
          · exact .inr (List.mem_cons_of_mem _ h)
      · rcases e3 y hy with h | h
        · rw [h]; exact fun he => hne he.symm
        · exact hu.1 y h

theorem hasTag_false {t : Nat} {tg : List (Nat × Bool)} (h : hasTag t tg = false) : ∀ x ∈ tg, x.1 ≠ t := by
  induction tg with
  | nil => simp
  | cons y r ih =>
    simp only [hasTag] at h
    split at h
    · cases h
    · rename_i hb
      intro x hx
      rcases List.mem_cons.1 hx with rfl | hx
      · intro he; rw [he, Nat.beq_refl] at hb; cases hb
      · exact ih h x hx

theorem get_mem {E : Env} {t : Nat} {e : Ent} (h : E.get t = some e) : e ∈ E ∧ e.s = t := by
  induction E with
  | nil => simp [Env.get] at h
  | cons x E ih =>
    simp only [Env.get] at h
    split at h
    · rename_i hb; cases h; exact ⟨List.mem_cons_self .., Nat.eq_of_beq_eq_true hb⟩
    · obtain ⟨h1, h2⟩ := ih h; exact ⟨List.mem_cons_of_mem _ h1, h2⟩

theorem tagged_false {t : Nat} {E : Env} (h : tagged t E = false) : ∀ e ∈ E, ∀ x ∈ e.tg, x.1 ≠ t := by
  induction E with
  | nil => simp
  | cons y r ih =>
    simp only [tagged] at h
    split at h
    · cases h
    · rename_i hb
      intro e he
      rcases List.mem_cons.1 he with rfl | he
      · exact hasTag_false hb
      · exact ih h e he

/-- A slot written, in the model and in the abstract machine. -/
theorem ER.put {T' : Tags} {E' : Env} {e : Ent} (hE : ER T β nt E a.tmps) (hg : ∀ t, E'.get t = if e.s = t then some e else E.get t) (hT : ∀ x ∈ E, (holds T' x.tg ↔ holds T x.tg)) (hn : e.s < nt) {v : Value}
    (h1 : holds T' e.tg → VR β e.v v) (h2 : ¬ holds T' e.tg → v = undef) : ER T' β nt E' (a.put (some e.s) v).tmps := by
  refine ⟨by simp [Act.put, hE.size], fun t x hx => ?_⟩
  rw [hg] at hx
  by_cases ht' : e.s = t
  · rw [if_pos ht'] at hx
    cases hx
    refine ⟨v, ?_, h1, h2⟩
    subst ht'
    simp [Act.put, hE.size, hn]
  · rw [if_neg ht'] at hx
    obtain ⟨c, e1, e2, e3⟩ := hE.get t x hx
    have hxm := (get_mem hx).1
    refine ⟨c, ?_, fun hh => e2 ((hT x hxm).1 hh), fun hh => e3 fun q => hh ((hT x hxm).2 q)⟩
    simp only [Act.put]
    rw [Array.getElem?_setIfInBounds_ne ht']
    exact e1

/-- The slots' own tags, behind a slot that none of them speaks of is written. -/
theorem tagsOf_put {E E' : Env} {e : Ent} (hg : ∀ t, E'.get t = if e.s = t then some e else E.get t) {tg : List (Nat × Bool)} (h : ∀ x ∈ tg, x.1 ≠ e.s) : holds (tagsOf E') tg ↔ holds (tagsOf E) tg := by
  constructor
  · intro hh x hx
    have := hh x hx
    unfold tagsOf at *
    rwa [hg, if_neg (Ne.symm (h x hx))] at this
  · intro hh x hx
    have := hh x hx
    unfold tagsOf at *
    rwa [hg, if_neg (Ne.symm (h x hx))]

/-! ### A region's operations -/

theorem some_ne {b pol : Bool} (h1 : b = true → pol = true → False) (h2 : b = false → pol = false → False) : (some b == some pol) = false := by
  cases b <;> cases pol <;> first | rfl | exact (h1 rfl rfl).elim | exact (h2 rfl rfl).elim

theorem guardA_ok (hE : ER T β nt E a.tmps) {ops : Array Oper} {o : Oper} (hT : o.guard.isSome → Tells T E) {g : GW} (h : guardA ops E o = some g) :
    match g with
    | .no => Region.wanted o (yielded ops a.tmps) = false
    | .yes tg => (Region.wanted o (yielded ops a.tmps) = true ↔ holds T tg) := by
  unfold guardA at h
  unfold Region.wanted
  split at h
  · rename_i hg
    cases h
    simp only [hg]
    exact ⟨fun _ => holds_nil T, fun _ => trivial⟩
  · rename_i j pol hg
    have hT := hT (by rw [hg]; rfl)
    simp only [hg]
    split at h
    · cases h
    · rename_i oj hoj
      split at h
      · cases h
      · rename_i t ht
        have hy : ∀ c, a.tmps[t]? = some c → yielded ops a.tmps j = match c with | .bool b => some b | _ => none := by
          intro c hc
          unfold yielded
          rw [hoj]
          simp only [Option.bind_some, ht, hc]
          cases c <;> rfl
        split at h
        · rename_i s b tg hget
          obtain ⟨c, c1, c2, c3⟩ := hE.get t _ hget
          have hb : holds T tg → yielded ops a.tmps j = some b := by
            intro hh
            have := c2 hh
            cases this with | sc _ _ this =>
            cases this
            rw [hy _ c1]
          have hnb : ¬ holds T tg → yielded ops a.tmps j = none := by
            intro hh
            have := c3 hh
            subst this
            rw [hy _ c1]
            rfl
          have hany : yielded ops a.tmps j = some b ∨ yielded ops a.tmps j = none := by
            by_cases hh : holds T tg
            · exact .inl (hb hh)
            · exact .inr (hnb hh)
          split at h
          · cases h
            constructor
            · intro hw
              by_cases hh : holds T tg
              · exact hh
              · rw [hnb hh] at hw; simp at hw
            · intro hh; rw [hb hh]; rfl
          · cases h
            constructor
            · intro hw
              by_cases hh : holds T tg
              · exact hh
              · rw [hnb hh] at hw; simp at hw
            · intro hh; rw [hb hh]; rfl
          · rename_i hn1 hn2
            cases h
            rcases hany with h1 | h1
            · rw [h1]
              exact some_ne hn1 hn2
            · rw [h1]; rfl
        · rename_i s b tg hget
          cases h
          obtain ⟨c, c1, c2, c3⟩ := hE.get t _ hget
          have hTt := hT t _ b hget rfl pol
          by_cases hh : holds T tg
          · have := c2 hh
            cases this with | sc _ _ this =>
            cases this
            rw [hy _ c1]
            simp only
            constructor
            · intro hw
              have : b = pol := by simpa using hw
              exact holds_cons (hTt.2 this.symm) hh
            · intro hw
              have := hTt.1 (hw _ (List.mem_cons_self ..))
              rw [this]; simp
          · have := c3 hh
            subst this
            rw [hy _ c1]
            constructor
            · intro hw; simp [undef] at hw
            · intro hw; exact absurd (fun x hx => hw x (List.mem_cons_of_mem _ hx)) hh
        · rename_i s hget
          cases h
          obtain ⟨c, c1, c2, c3⟩ := hE.get t _ hget
          have := c2 (holds_nil T)
          cases this with
          | sc _ _ this => cases this
          | tup _ ys this =>
            rw [hy _ c1]
            rfl
        · cases h

/-- What a step of a region comes to. -/
def SAfter (S : Nat → Prop) (w₀ : World) (T : Tags) (β : BM) (m : Mem) (w : World) (q : SRes) (v : Value) (w' : World) : Prop :=
  match q.m with
  | some m' => q.nw = none ∧ q.tg = [] ∧ AfterW S w₀ β m' q.v v w'
  | none => match q.nw with
    | some b => q.tg = [] ∧ ∃ cells c e, b = .lit cells true ∧ w' = w.alloc (.cells c e) ∧ SRs β cells c.toList ∧ VR (β.upd m.length ⟨w.heap.size, 0, some c.size⟩) q.v v
    | none => Qt w w' ∧ (holds T q.tg → VR β q.v v) ∧ (¬ holds T q.tg → v = undef)

theorem stepR_ok (hG : SoundG P G) (hE : ER T β nt E a.tmps) (hW : WS S w₀ β m w) {ops : Array Oper} {o : Oper} (hT : (∃ c x y, o.op = .pick c x y) ∨ o.guard.isSome → Tells T E) {q : SRes} (h : stepR P G ops o E m = some q) (hfr : q.m ≠ none → Fresh β m) (hcs : ∀ b ∈ q.cs, b = true) :
    (Region.wanted o (yielded ops a.tmps) = true ∧ Outc P o ((execOp a.eval o).run P w) (SAfter S w₀ T β m w q)) ∨
    (Region.wanted o (yielded ops a.tmps) = false ∧ SAfter S w₀ T β m w q undef w) := by
  unfold stepR at h
  split at h
  · cases h
  · rename_i hg
    have hw := guardA_ok hE (fun hs => hT (.inr hs)) hg
    simp only at hw
    cases h
    right
    exact ⟨hw, Qt.refl w, fun _ => .tup _ _ .nil, fun _ => rfl⟩
  · rename_i tg hg
    have hw := guardA_ok hE (fun hs => hT (.inr hs)) hg
    simp only at hw
    split at h
    · cases h
    · rename_i v cs hop
      cases h
      by_cases hh : holds T tg
      · left
        refine ⟨hw.2 hh, ?_⟩
        have := opA_ok hG hE hh hW o (fun hp => hT (.inl hp)) (r := ⟨v, none, none, cs⟩) (fun hm => absurd rfl hm) hop hcs
        refine this.mono fun u w' hu => ?_
        exact ⟨hu.1, fun _ => hu.2, fun hn => absurd hh hn⟩
      · right
        refine ⟨?_, Qt.refl w, fun hn => absurd hn hh, fun _ => rfl⟩
        cases hb : Region.wanted o (yielded ops a.tmps)
        · rfl
        · exact absurd (hw.1 hb) hh
    · rename_i v nw m' cs hne hop
      split at h
      · cases h
        left
        refine ⟨hw.2 (holds_nil T), ?_⟩
        have := opA_ok hG hE (holds_nil T) hW o (fun hp => hT (.inl hp)) (r := ⟨v, nw, m', cs⟩) hfr hop hcs
        refine this.mono fun u w' hu => ?_
        unfold After at hu
        unfold SAfter
        cases m' with
        | some m' => exact ⟨hu.1, rfl, hu.2⟩
        | none =>
          cases nw with
          | none => exact absurd rfl (hne rfl)
          | some b =>
            obtain ⟨cells, c, e, h1, h2, h3⟩ := hu
            simp only [Option.some.injEq] at h1
            exact ⟨rfl, cells, c, e, h1, h3⟩
      · cases h

end
end Go.Sim

/-
  A region that draws its order: any order comes to the same.
-/
import Derived.Test.YtekilpllicggeaaSimK
namespace Go.Sim

/-! ### Slots looked at -/

def Env.only (E : Env) (ks : List Nat) : Env := E.filter fun e => ks.contains e.s

theorem only_cons (x : Ent) (E : Env) (ks : List Nat) : Env.only (x :: E) ks = if ks.contains x.s then x :: Env.only E ks else Env.only E ks := by
  unfold Env.only
  rw [List.filter_cons]

theorem only_get {E : Env} {ks : List Nat} {t : Nat} (h : t ∈ ks) : (E.only ks).get t = E.get t := by
  induction E with
  | nil => rfl
  | cons x E ih =>
    rw [only_cons]
    by_cases hx : ks.contains x.s = true
    · rw [if_pos hx]
      simp only [Env.get, ih]
    · rw [if_neg hx, ih]
      have hne : x.s ≠ t := fun e => hx (by rw [e]; simpa using h)
      have hb : Nat.beq x.s t = false := by
        cases hb : Nat.beq x.s t
        · rfl
        · exact absurd (Nat.eq_of_beq_eq_true hb) hne
      simp only [Env.get, hb]

theorem only_get_some {E : Env} {ks : List Nat} {t : Nat} {e : Ent} (h : (E.only ks).get t = some e) : t ∈ ks ∧ E.get t = some e := by
  have hm : t ∈ ks := by
    obtain ⟨h1, h2⟩ := get_mem h
    unfold Env.only at h1
    rw [List.mem_filter] at h1
    rw [← h2]
    simpa using h1.2
  exact ⟨hm, by rw [← only_get hm]; exact h⟩

section
variable {P : Program} {G : Summ} {E E' : Env} {tg : List (Nat × Bool)} {m : Mem}

/-- Two environments that say the same of an operand. -/
def Same (E E' : Env) (x : Operand) : Prop := ∀ t, x = .tmp t → E.get t = E'.get t

theorem rd_congr {x : Operand} (h : Same E E' x) : rd E tg x = rd E' tg x := by
  cases x with
  | tmp t => simp only [rd, h t rfl]
  | _ => rfl

theorem rdL_congr {l : List Operand} (h : ∀ x ∈ l, Same E E' x) : rdL E tg l = rdL E' tg l := by
  induction l with
  | nil => rfl
  | cons x l ih => simp only [rdL, rd_congr (h x (List.mem_cons_self ..)), ih fun y hy => h y (List.mem_cons_of_mem _ hy)]

theorem partsL_congr {l : List (Nat × Operand)} (h : ∀ x ∈ l, Same E E' x.2) : partsL E tg l = partsL E' tg l := by
  induction l with
  | nil => rfl
  | cons x l ih =>
    obtain ⟨i, x⟩ := x
    simp only [partsL, rd_congr (h (i, x) (List.mem_cons_self ..)), ih fun y hy => h y (List.mem_cons_of_mem _ hy)]

theorem optA_congr {x : Option Operand} (h : ∀ y, x = some y → Same E E' y) : optA E tg x = optA E' tg x := by
  cases x with
  | none => rfl
  | some x => simp only [optA, rd_congr (h x rfl)]

theorem pickA_congr {c a b : Operand} (hc : Same E E' c) (ha : Same E E' a) (hb : Same E E' b) : pickA E tg c a b = pickA E' tg c a b := by
  unfold pickA
  rw [rd_congr hc, rd_congr ha, rd_congr hb]
  simp only [rd_congr ha, rd_congr hb]

theorem callA_congr {c : Call} (h : ∀ x ∈ c.operands, Same E E' x) : callA P G E tg m c = callA P G E' tg m c := by
  have ha : rdL E tg c.args.toList = rdL E' tg c.args.toList := rdL_congr fun x hx => h x (by simp [Call.operands, Array.mem_toList_iff.1 hx])
  unfold callA
  cases hc : c.callee with
  | value f => simp only [ha, rd_congr (h f (by simp [Call.operands, hc]))]
  | invoke r m => rfl
  | builtin b => cases b <;> simp only [ha]

theorem opA_congr {op : Op} (h : ∀ x ∈ op.operands, Same E E' x) : opA P G E tg m op = opA P G E' tg m op := by
  cases op <;> simp only [Op.operands] at h <;> simp only [opA]
  case pick c a b => exact pickA_congr (h _ (by simp)) (h _ (by simp)) (h _ (by simp))
  case build t ps => rw [partsL_congr fun x hx => h x.2 (by simp only [List.mem_toArray, List.mem_map]; exact ⟨x, hx, rfl⟩)]
  case buildSlice t n ps => rw [partsL_congr fun x hx => h x.2 (by simp only [List.mem_toArray, List.mem_map]; exact ⟨x, hx, rfl⟩)]
  case makeFunc fn first caps =>
    cases fn with
    | func f => simp only [rdL_congr (E := E) (E' := E') fun x (hx : x ∈ caps.toList) => h x (by simp [Array.mem_toList_iff.1 hx])]
    | _ => rfl
  case call c => exact callA_congr h
  case slice t x lo hi mx =>
    cases mx with
    | some q => rfl
    | none =>
      simp only [rd_congr (h x (by simp)), optA_congr (E := E) (E' := E') (x := lo) (fun y hy => h y (by simp [hy])), optA_congr (E := E) (E' := E') (x := hi) (fun y hy => h y (by simp [hy]))]
  case move x => rw [rd_congr (h x (by simp))]
  case assign x => rw [rd_congr (h x (by simp))]
  case box t x => rw [rd_congr (h x (by simp))]
  case load t x => rw [rd_congr (h x (by simp))]
  case store t x y => rw [rd_congr (h x (by simp)), rd_congr (h y (by simp))]
  case nilCheck x => rw [rd_congr (h x (by simp))]
  case binOp op t x y yt => rw [rd_congr (h x (by simp)), rd_congr (h y (by simp))]
  case unOp op t x => rw [rd_congr (h x (by simp))]
  case convert s d x => rw [rd_congr (h x (by simp))]
  case makeSlice t x y => rw [rd_congr (h x (by simp)), rd_congr (h y (by simp))]
  case fieldAddr t x f => rw [rd_congr (h x (by simp))]
  case field t x f => rw [rd_congr (h x (by simp))]
  case indexAddr t x y => rw [rd_congr (h x (by simp)), rd_congr (h y (by simp))]
  case index t x y => rw [rd_congr (h x (by simp)), rd_congr (h y (by simp))]
  case extract x i => rw [rd_congr (h x (by simp))]

theorem guardA_congr {ops : Array Oper} {o : Oper} (h : ∀ t ∈ o.looksAt ops, E.get t = E'.get t) : guardA ops E o = guardA ops E' o := by
  unfold guardA
  split
  · rfl
  · rename_i j pol hg
    split
    · rfl
    · rename_i oj hj
      split
      · rfl
      · rename_i t ht
        rw [h t (by simp [Oper.looksAt, hg, hj, ht])]

theorem stepR_congr {ops : Array Oper} {o : Oper} (h : ∀ t ∈ o.looksAt ops, E.get t = E'.get t) : stepR P G ops o E m = stepR P G ops o E' m := by
  unfold stepR
  rw [guardA_congr h]
  have hop : ∀ tg, opA P G E tg m o.op = opA P G E' tg m o.op := fun tg => opA_congr fun x hx t ht => h t (by
    subst ht
    exact List.mem_append_left _ (List.mem_filterMap.2 ⟨.tmp t, by simpa using hx, rfl⟩))
  simp only [hop]

/-! ### Operations that look at no memory -/

theorem newA_len {m m' : Mem} (h : m.length = m'.length) (cells : List AV) (k : Nat → AV) : newA m cells k = newA m' cells k := by
  unfold newA
  rw [h]

theorem opA_free {m m' : Mem} {op : Op} (h : freeOp op = true) : opA P G E tg m op = opA P G E tg m' op := by
  cases op <;> first | rfl | (simp [freeOp] at h; done) | skip
  case makeFunc fn first caps => cases fn <;> rfl

theorem makeS_m {m m' : Mem} {t : Nat} {z z' : Int} : (makeS P m t z z' = none ∧ makeS P m' t z z' = none) ∨ ∃ r, makeS P m t z z' = some r ∧ r.m ≠ none := by
  unfold makeS
  split
  · exact .inl ⟨rfl, rfl⟩
  · split
    · split
      · exact .inl ⟨rfl, rfl⟩
      · split
        · rw [appendK_eq]; exact .inr ⟨_, rfl, by simp⟩
        · exact .inl ⟨rfl, rfl⟩
    · exact .inl ⟨rfl, rfl⟩

theorem opA_lay {m m' : Mem} {op : Op} (h : layOp op = true) (hl : m.length = m'.length) : opA P G E tg m op = opA P G E tg m' op ∨ ∃ r, opA P G E tg m op = some r ∧ r.m ≠ none := by
  cases op <;> first | (simp [layOp] at h; done) | skip
  case alloc t => left; simp only [opA, newA_len hl]
  case box t x => left; simp only [opA, newA_len hl]
  case buildSlice t n ps => left; simp only [opA, buildSliceA, newA_len hl]
  case makeSlice t l c =>
    simp only [opA]
    split
    · unfold makeX
      split
      · rcases makeS_m (P := P) (m := m) (m' := m') with ⟨e1, e2⟩ | h
        · left; rw [e1, e2]
        · right; exact h
      · left; simp only [makeSliceA, newA_len hl]
    · left; rfl

/-- Of an operation that is not loud: the memory does not matter. -/
theorem stepR_of {ops : Array Oper} {o : Oper} {m m' : Mem} {q : SRes} (h : stepR P G ops o E m = some q) (hq : q.m = none) (hop : ∀ tg, opA P G E tg m o.op = opA P G E tg m' o.op ∨ ∃ r, opA P G E tg m o.op = some r ∧ r.m ≠ none) : stepR P G ops o E m' = some q := by
  unfold stepR at h ⊢
  split at h
  · cases h
  · exact h
  · rename_i tg hg
    rcases hop tg with e | ⟨r, e, hr⟩
    · rw [← e]; exact h
    · rw [e] at h
      obtain ⟨v, nw, m1, cs⟩ := r
      cases m1 with
      | none => exact absurd rfl hr
      | some m1 =>
        simp only at h
        cases nw <;> cases tg <;> simp only [Option.some.injEq, reduceCtorEq] at h <;> (subst h; cases hq)

theorem stepR_free {ops : Array Oper} {o : Oper} {m m' : Mem} {q : SRes} (h : stepR P G ops o E m = some q) (hl : loudOf o.op q = .free) (hl' : m.length = m'.length) : stepR P G ops o E m' = some q := by
  unfold loudOf at hl
  split at hl
  · cases hl
  · rename_i hq
    refine stepR_of h hq fun tg => ?_
    split at hl
    · split at hl <;> cases hl
    · split at hl
      · rename_i hf
        rw [Bool.or_eq_true] at hf
        rcases hf with hf | hf
        · exact .inl (opA_free hf)
        · exact opA_lay hf hl'
      · cases hl

theorem stepR_lay {ops : Array Oper} {o : Oper} {m m' : Mem} {q : SRes} (h : stepR P G ops o E m = some q) (hl : loudOf o.op q = .lays) (hl' : m.length = m'.length) : stepR P G ops o E m' = some q := by
  unfold loudOf at hl
  split at hl
  · cases hl
  · rename_i hq
    refine stepR_of h hq fun tg => ?_
    split at hl
    · split at hl
      · rename_i hf
        exact opA_lay hf hl'
      · cases hl
    · split at hl <;> cases hl

theorem disj_lays {x : Loud × Option Nat} {r : Option Nat} : disjM x (.lays, r) = false ∧ (disjM (.lays, r) x = true → x.1 = .looks) := by
  obtain ⟨l, s⟩ := x
  cases l <;> cases s <;> cases r <;> first | exact ⟨rfl, fun h => by cases h⟩ | exact ⟨rfl, fun _ => rfl⟩

theorem disj_ww {r s : Option Nat} : disjM (.writes, r) (.writes, s) = false := by cases r <;> cases s <;> rfl

theorem disj_free {x : Loud × Option Nat} {r : Option Nat} : disjM x (.free, r) = false ∧ disjM (.free, r) x = false := by
  obtain ⟨l, s⟩ := x
  cases l <;> cases s <;> cases r <;> exact ⟨rfl, rfl⟩

theorem disj_none {x : Loud × Option Nat} {l : Loud} : disjM x (l, none) = false ∧ disjM (l, none) x = false := by
  obtain ⟨k, s⟩ := x
  cases l <;> cases k <;> cases s <;> exact ⟨rfl, rfl⟩

/-- What stands apart by its block. -/
theorem disj_looks {x : Loud × Option Nat} {i : Nat} : (disjM x (.looks, some i) = true → (x.1 = .writes ∨ x.1 = .lays) ∧ ∃ b, x.2 = some b ∧ b ≠ i) ∧ (disjM (.looks, some i) x = true → x.1 = .writes ∧ ∃ b, x.2 = some b ∧ b ≠ i) := by
  obtain ⟨l, s⟩ := x
  refine ⟨fun h => ?_, fun h => ?_⟩
  · cases l <;> cases s <;> simp only [disjM, Bool.false_eq_true, Bool.not_eq_true'] at h
    · rename_i b
      exact ⟨.inr rfl, b, rfl, fun e => by subst e; rw [Nat.beq_refl] at h; cases h⟩
    · rename_i b
      exact ⟨.inl rfl, b, rfl, fun e => by subst e; rw [Nat.beq_refl] at h; cases h⟩
  · cases l <;> cases s <;> simp only [disjM, Bool.false_eq_true, Bool.not_eq_true'] at h
    rename_i b
    exact ⟨rfl, b, rfl, fun e => by subst e; rw [Nat.beq_refl] at h; cases h⟩

theorem refL_of {E : Env} {m : Mem} {q : SRes} {o : Oper} (h : loudOf o.op q ≠ .lays) : refL E m q o = refA E o := by
  unfold refL
  split
  · rename_i e; exact absurd e h
  · rfl

theorem refW_of {E : Env} {m : Mem} {q : SRes} {o : Oper} (h : loudOf o.op q ≠ .writes) : refW E m q o = refL E m q o := by
  unfold refW
  split
  · rename_i e; exact absurd e h
  · rfl

theorem refW_w {E : Env} {m : Mem} {q : SRes} {o : Oper} {b : Nat} (h : loudOf o.op q = .writes) (hb : refW E m q o = some b) : refA E o = some b ∨ (refA E o = none ∧ apB E o = some b) := by
  unfold refW at hb
  rw [h] at hb
  simp only at hb
  split at hb
  · rename_i i hi; cases hb; exact .inl hi
  · rename_i hi; exact .inr ⟨hi, hb⟩

theorem refL_lays {E : Env} {m : Mem} {q : SRes} {o : Oper} (h : loudOf o.op q = .lays) : refL E m q o = some m.length := by
  unfold refL
  rw [h]

theorem loadA0_at {m m' : Mem} {t i off : Nat} (h : m'.at i = m.at i) : loadA0 P m' t (.ptr i off) = loadA0 P m t (.ptr i off) := by
  unfold loadA0
  simp only [h]

theorem loadA_at {m m' : Mem} {t i : Nat} {v : AV} (hv : adrB v = some i) (h : m'.at i = m.at i) : loadA P m' t v = loadA P m t v := by
  cases v <;> simp only [adrB, Option.some.injEq] at hv <;> (try (cases hv; done))
  · subst hv
    exact loadA0_at h
  · subst hv
    simp only [loadA, h, loadA0_at h]

theorem loadA_none {m : Mem} {t i : Nat} {v : AV} (hv : adrB v = some i) (h : m.at i = none) : loadA P m t v = none := by
  cases v <;> simp only [adrB, Option.some.injEq] at hv <;> (try (cases hv; done))
  · subst hv
    simp only [loadA, loadA0, h]
    split <;> rfl
  · subst hv
    simp only [loadA, h]
    split <;> rfl

theorem loadA0_q {m : Mem} {t : Nat} {v : AV} {r : OR} (h : loadA0 P m t v = some r) : r.m = none ∧ r.nw = none := by
  unfold loadA0 at h
  repeat' split at h
  all_goals first | (cases h; done) | (cases h; exact ⟨rfl, rfl⟩)

theorem loadA_q {m : Mem} {t : Nat} {v : AV} {r : OR} (h : loadA P m t v = some r) : r.m = none ∧ r.nw = none := by
  unfold loadA at h
  repeat' split at h
  all_goals first | (cases h; done) | (exact loadA0_q h) | (cases h; exact ⟨rfl, rfl⟩)

theorem refA_cases {o : Oper} {i : Nat} (h : refA E o = some i) : o.guard = none ∧ ((∃ t a v, o.op = .load t a ∧ rd E [] a = some v ∧ adrB v = some i) ∨ (∃ t a x v, o.op = .store t a x ∧ rd E [] a = some v ∧ adrB v = some i)) := by
  unfold refA at h
  split at h
  · cases h
  · rename_i hg
    refine ⟨hg, ?_⟩
    split at h
    · rename_i t a ho
      split at h
      · rename_i v hr; exact .inl ⟨t, a, v, ho, hr, h⟩
      · cases h
    · rename_i t a x ho
      split at h
      · rename_i v hr; exact .inr ⟨t, a, x, v, ho, hr, h⟩
      · cases h
    · cases h

theorem stepR_plain {ops : Array Oper} {o : Oper} (hg : o.guard = none) : stepR P G ops o E m = match opA P G E [] m o.op with
    | none => none
    | some ⟨v, none, none, cs⟩ => some ⟨v, [], none, none, cs⟩
    | some ⟨v, nw, m', cs⟩ => some ⟨v, [], nw, m', cs⟩ := by
  unfold stepR guardA
  rw [hg]
  rfl

theorem storeA0_m {t : Nat} {a v : AV} {r : OR} (h : storeA0 P m t a v = some r) : ∃ i, adrB a = some i ∧ ∃ m', r.m = some m' ∧ m'.length = m.length ∧ ∀ x, x ≠ i → m'.at x = m.at x := by
  unfold storeA0 at h
  split at h
  · rename_i i off
    refine ⟨i, rfl, ?_⟩
    split at h
    · cases h
    · split at h
      · split at h
        · cases h
        · split at h
          · cases h
          · split at h
            · cases h
            · rw [forceK_eq, setK_eq] at h
              cases h
              refine ⟨_, rfl, by simp, fun x hx => ?_⟩
              rw [at_eq, at_eq, List.getElem?_set_ne (Ne.symm hx)]
      · split at h
        · cases h
        · split at h
          · cases h
          · rw [setK_eq] at h
            cases h
            refine ⟨_, rfl, by simp, fun x hx => ?_⟩
            rw [at_eq, at_eq, List.getElem?_set_ne (Ne.symm hx)]
      · cases h
  · cases h

theorem storeA_m {t : Nat} {a v : AV} {r : OR} (h : storeA P m t a v = some r) : ∃ i, adrB a = some i ∧ ∃ m', r.m = some m' ∧ m'.length = m.length ∧ ∀ x, x ≠ i → m'.at x = m.at x := by
  unfold storeA at h
  split at h
  · rename_i i off n es z
    split at h
    · cases h
    · split at h
      · split at h
        · cases h
        · split at h
          · cases h
          · obtain ⟨l', h1, _, _⟩ := putZ_ok h
            rw [setK_eq] at h1
            cases h1
            refine ⟨i, rfl, _, rfl, by simp, fun x hx => ?_⟩
            rw [at_eq, at_eq, List.getElem?_set_ne (Ne.symm hx)]
      · obtain ⟨i', e, m1, q⟩ := storeA0_m h
        cases e
        exact ⟨i, rfl, m1, q⟩
      · cases h
  · exact storeA0_m h

/-- A look at one block stands on that block alone. -/
theorem stepR_look {ops : Array Oper} {o : Oper} {q : SRes} {i : Nat} {m' : Mem} (hr : refA E o = some i) (hl : loudOf o.op q = .looks) (h : stepR P G ops o E m = some q) (hat : m'.at i = m.at i) : stepR P G ops o E m' = some q ∧ i < m.length := by
  obtain ⟨hg, hr⟩ := refA_cases hr
  rw [stepR_plain hg] at h ⊢
  rcases hr with ⟨t, a, v, ho, hra, hv⟩ | ⟨t, a, x, v, ho, hra, hv⟩
  · have e : ∀ mm : Mem, opA P G E [] mm o.op = loadA P mm t v := fun mm => by rw [ho]; simp only [opA, hra]
    rw [e] at h ⊢
    rw [loadA_at hv hat]
    refine ⟨h, ?_⟩
    cases hm : m.at i with
    | some bk => exact at_lt hm
    | none =>
      rw [loadA_none hv hm] at h
      cases h
  · exfalso
    rw [ho] at h
    simp only [opA, hra] at h
    split at h
    · cases h
    · rename_i hq
      split at hq
      · obtain ⟨_, _, m1, e1, _⟩ := storeA_m hq; cases e1
      · cases hq
    · rename_i v nw m1 cs hne hq
      cases h
      split at hq
      · obtain ⟨_, _, m2, e1, _⟩ := storeA_m hq
        simp only at e1
        subst e1
        unfold loudOf at hl
        cases hl
      · cases hq

/-- A store changes its block alone. -/
theorem stepR_store {ops : Array Oper} {o : Oper} {q : SRes} {i : Nat} (hr : refA E o = some i) (h : stepR P G ops o E m = some q) {m' : Mem} (hm : q.m = some m') : q.nw = none ∨ True → ∀ x, x ≠ i → m'.at x = m.at x := by
  intro _
  obtain ⟨hg, hr⟩ := refA_cases hr
  rw [stepR_plain hg] at h
  rcases hr with ⟨t, a, v0, ho, hra, hv0⟩ | ⟨t, a, y, v0, ho, hra, hv0⟩
  · rw [ho] at h
    simp only [opA, hra] at h
    have hn : ∀ r, loadA P m t v0 = some r → r.m = none := fun r hr => (loadA_q hr).1
    split at h
    · cases h
    · cases h; cases hm
    · rename_i hq
      cases h
      have := hn _ hq
      simp only at this hm
      rw [this] at hm
      cases hm
  · rw [ho] at h
    simp only [opA, hra] at h
    have hs : ∀ r, (match some v0, rd E [] y with
        | some v, some u => storeA P m t v u
        | _, _ => none) = some r → ∀ m', r.m = some m' → ∀ x, x ≠ i → m'.at x = m.at x := by
      intro r hr m' hm' x hx
      split at hr
      · rename_i v u hv hu
        cases hv
        obtain ⟨i', e, m1, e1, _, e3⟩ := storeA_m hr
        rw [hv0] at e
        cases e
        rw [hm'] at e1
        cases e1
        exact e3 x hx
      · cases hr
    split at h
    · cases h
    · cases h; cases hm
    · rename_i hq
      cases h
      exact hs _ hq _ hm

theorem at_grow {m : Mem} {j x : Nat} {b : Option Blk} (hx : x ≠ j) (hl : x < m.length) : Mem.at (m.set j none ++ [b]) x = m.at x := by
  rw [at_eq, List.getElem?_append_left (by simpa using hl), List.getElem?_set_ne (Ne.symm hx), ← at_eq]

theorem appendX_at {m : Mem} {ts tx j off len es : Nat} {s x : AV} {r : OR} (hs : s = .slc j off len es ∨ s = .sslc j off len es) (h : appendX P m ts tx s x = some r) {m' : Mem} (hm : r.m = some m') : ∀ y, y ≠ j → y < m.length → m'.at y = m.at y := by
  intro y hy hl
  rcases hs with rfl | rfl
  · simp only [appendX] at h
    unfold appendA at h
    split at h
    rotate_left
    · cases h
    split at h
    · cases h
    split at h
    · cases h
    split at h
    · cases h
    simp only at h
    split at h
    rotate_left
    · cases h
    split at h
    rotate_left
    · cases h
    simp only [appendK_eq, setK_eq, Option.some.injEq] at h
    subst h
    simp only [Option.some.injEq] at hm
    subst hm
    exact at_grow hy hl
  · simp only [appendX] at h
    unfold appendS at h
    repeat' split at h
    all_goals first
      | (cases h; done)
      | skip
    simp only [appendK_eq, setK_eq, Option.some.injEq] at h
    subst h
    simp only [Option.some.injEq] at hm
    subst hm
    exact at_grow hy hl

theorem stepR_app {ops : Array Oper} {o : Oper} {q : SRes} {b : Nat} (hr : apB E o = some b) (h : stepR P G ops o E m = some q) {m' : Mem} (hm : q.m = some m') : ∀ x, x ≠ b → x < m.length → m'.at x = m.at x := by
  unfold apB at hr
  split at hr
  · cases hr
  rename_i hg
  split at hr
  rotate_left
  · cases hr
  rename_i c ho
  rw [stepR_plain hg, ho] at h
  have key : ∀ (s x : AV) (off len es : Nat), c.callee = .builtin .append → rdL E [] c.args.toList = some [s, x] → (s = .slc b off len es ∨ s = .sslc b off len es) → ∀ r, opA P G E [] m (.call c) = some r → ∀ m', r.m = some m' → ∀ y, y ≠ b → y < m.length → m'.at y = m.at y := by
    intro s x off len es h1 h2 h3 r h4 m' h5
    simp only [opA, callA, h1, h2] at h4
    split at h4
    · rename_i ts tx s' x' hts hsx
      simp only [Option.some.injEq, List.cons.injEq, and_true] at hsx
      obtain ⟨rfl, rfl⟩ := hsx
      exact appendX_at h3 h4 h5
    · cases h4
  have fin : ∀ r, opA P G E [] m (.call c) = some r → ∀ m', r.m = some m' → ∀ y, y ≠ b → y < m.length → m'.at y = m.at y := by
    split at hr
    · rename_i j off len es x h1 h2
      cases hr
      exact key _ _ _ _ _ h1 h2 (.inl rfl)
    · rename_i j off len es x h1 h2
      cases hr
      exact key _ _ _ _ _ h1 h2 (.inr rfl)
    · cases hr
  split at h
  · cases h
  · cases h; cases hm
  · rename_i r hq
    cases h
    exact fin _ hq _ hm

theorem storeA0_loc {t i off : Nat} {v : AV} {r : OR} (h : storeA0 P m t (.ptr i off) v = some r) : ∃ nb b0, m.at i = some b0 ∧ b0.rw = true ∧ r.v = .tup [] ∧ r.nw = none ∧ r.m = some (m.set i (some nb)) ∧ ∀ mv : Mem, mv.at i = m.at i → storeA0 P mv t (.ptr i off) v = some { r with m := some (mv.set i (some nb)) } := by
  unfold storeA0 at h
  simp only at h
  split at h
  · cases h
  rename_i ti hti
  split at h
  · rename_i cells hb
    split at h
    · cases h
    rename_i vs hvs
    split at h
    · cases h
    rename_i hl
    split at h
    · cases h
    rename_i cells' hp
    rw [forceK_eq, setK_eq] at h
    cases h
    refine ⟨_, _, hb, rfl, rfl, rfl, rfl, fun mv hmv => ?_⟩
    unfold storeA0
    simp only [hti, hmv, hb, hvs, hl, hp, forceK_eq, setK_eq]
  · rename_i n k y hb
    split at h
    · cases h
    rename_i vs hvs
    split at h
    · cases h
    rename_i hl
    rw [setK_eq] at h
    cases h
    refine ⟨_, _, hb, rfl, rfl, rfl, rfl, fun mv hmv => ?_⟩
    unfold storeA0
    simp only [hti, hmv, hb, hvs, hl, setK_eq]
  · cases h

theorem stepR_st {ops : Array Oper} {o : Oper} {q : SRes} {i : Nat} (hr : stB E o = some i) (h : stepR P G ops o E m = some q) : ∃ nb b0, m.at i = some b0 ∧ b0.rw = true ∧ q.v = .tup [] ∧ q.tg = [] ∧ q.nw = none ∧ q.m = some (m.set i (some nb)) ∧ ∀ mv : Mem, mv.at i = m.at i → stepR P G ops o E mv = some { q with m := some (mv.set i (some nb)) } := by
  unfold stB at hr
  split at hr
  · cases hr
  rename_i hg
  split at hr
  rotate_left
  · cases hr
  rename_i t a x ho
  split at hr
  rotate_left
  · cases hr
  rename_i i' off hra
  cases hr
  rw [stepR_plain hg, ho] at h
  simp only [opA, hra] at h
  cases hx : rd E [] x with
  | none => rw [hx] at h; simp at h
  | some u =>
    rw [hx] at h
    simp only at h
    cases hs : storeA P m t (.ptr i off) u with
    | none => rw [hs] at h; simp at h
    | some r =>
      rw [hs] at h
      obtain ⟨nb, b0, g1, g2, g3, g4, g5, g6⟩ := storeA0_loc (show storeA0 P m t (.ptr i off) u = some r from hs)
      obtain ⟨rv, rn, rm, rc⟩ := r
      simp only at g3 g4 g5
      subst g3 g4 g5
      simp only [Option.some.injEq] at h
      subst h
      refine ⟨nb, b0, g1, g2, rfl, rfl, rfl, rfl, fun mv hmv => ?_⟩
      rw [stepR_plain hg, ho]
      simp only [opA, hra, hx]
      rw [show storeA P mv t (.ptr i off) u = storeA0 P mv t (.ptr i off) u from rfl, g6 mv hmv]

theorem laM_ok {y : Loud × Option Nat} {s : Option Nat} (h : laM y s = true) : y.1 = .lays ∧ ∃ i b, y.2 = some i ∧ s = some b ∧ i ≠ b := by
  obtain ⟨l, r⟩ := y
  cases l <;> cases r <;> cases s <;> simp only [laM, Bool.false_eq_true, Bool.not_eq_true'] at h
  rename_i i b
  exact ⟨rfl, i, b, rfl, rfl, fun e => by subst e; rw [Nat.beq_refl] at h; cases h⟩

theorem stC_ok {ops : Array Oper} {o : Oper} {E : Env} {m : Mem} {q : SRes} {b : Nat} (h : stC ops o E m q = some b) : makesA ops o E m q = false ∧ stB E o = some b := by
  unfold stC at h
  split at h
  · cases h
  · rename_i hm; exact ⟨hm, h⟩

theorem loud_free {o : Op} {q : SRes} (h : loudOf o q = .free) : q.m = none ∧ q.nw = none := by
  unfold loudOf at h
  split at h
  · cases h
  · rename_i hm
    split at h
    · split at h <;> cases h
    · rename_i hn
      exact ⟨hm, hn⟩

theorem loud_looks {o : Op} {q : SRes} (h : loudOf o q = .looks) : q.m = none ∧ q.nw = none := by
  unfold loudOf at h
  split at h
  · cases h
  · rename_i hm
    split at h
    · split at h <;> cases h
    · rename_i hn
      exact ⟨hm, hn⟩

theorem loud_lays {o : Op} {q : SRes} (h : loudOf o q = .lays) : q.m = none ∧ ∃ b, q.nw = some b := by
  unfold loudOf at h
  split at h
  · cases h
  · rename_i hm
    split at h
    · rename_i b hn
      exact ⟨hm, b, hn⟩
    · split at h <;> cases h

theorem loud_writes {o : Op} {q : SRes} (h : loudOf o q = .writes) : (∃ m', q.m = some m') ∨ ∃ b, q.nw = some b := by
  unfold loudOf at h
  split at h
  · rename_i m' hm
    exact .inl ⟨m', hm⟩
  · split at h
    · rename_i b hn
      exact .inr ⟨b, hn⟩
    · split at h <;> cases h

end

/-! ### Whom an operation waits for, at last -/

theorem ancs_spec (l : List Oper) : ∀ acc : List (List Nat), ∃ t, ancs l acc = acc ++ t ∧ t.length = l.length ∧ ∀ j o, l[j]? = some o → (ancs l acc)[acc.length + j]? = some (ancOf ((ancs l acc).take (acc.length + j)) o.after.toList) := by
  induction l with
  | nil => intro acc; exact ⟨[], by simp [ancs], rfl, fun j o h => by simp at h⟩
  | cons o l ih =>
    intro acc
    obtain ⟨t, h1, h2, h3⟩ := ih (acc ++ [ancOf acc o.after.toList])
    refine ⟨ancOf acc o.after.toList :: t, by simp only [ancs, h1]; simp, by simp [h2], fun j o' hj => ?_⟩
    simp only [ancs]
    cases j with
    | zero =>
      simp at hj
      subst hj
      rw [h1]
      simp
    | succ j =>
      have := h3 j o' (by simpa using hj)
      simp only [List.length_append, List.length_cons, List.length_nil] at this
      rw [show acc.length + (j + 1) = acc.length + (0 + 1) + j by omega]
      exact this

theorem natMem_append {i : Nat} {l l' : List Nat} (h : natMem i (l ++ l') = true) : natMem i l = true ∨ natMem i l' = true := by
  induction l with
  | nil => exact .inr h
  | cons x l ih =>
    simp only [List.cons_append, natMem] at h ⊢
    split at h
    · exact .inl rfl
    · exact ih h

theorem ancOf_spec {acc : List (List Nat)} {es : List Edge} {i : Nat} (h : natMem i (ancOf acc es) = true) : ∃ e ∈ es, Region.binds .any e = true ∧ (i = e.on ∨ ∃ l, acc[e.on]? = some l ∧ natMem i l = true) := by
  induction es with
  | nil => simp [ancOf, natMem] at h
  | cons e es ih =>
    simp only [ancOf] at h
    split at h
    · obtain ⟨e', h1, h2⟩ := ih h
      exact ⟨e', List.mem_cons_of_mem _ h1, h2⟩
    · rename_i hb
      have fin : natMem i (ancOf acc es) = true → ∃ e' ∈ e :: es, Region.binds .any e' = true ∧ (i = e'.on ∨ ∃ l, acc[e'.on]? = some l ∧ natMem i l = true) := fun h => by
        obtain ⟨e', h1, h2⟩ := ih h
        exact ⟨e', List.mem_cons_of_mem _ h1, h2⟩
      split at h
      · simp only [natMem] at h
        split at h
        · rename_i he
          exact ⟨e, List.mem_cons_self .., hb, .inl (Nat.eq_of_beq_eq_true he).symm⟩
        · exact fin h
      · rename_i l hl
        simp only [natMem] at h
        split at h
        · rename_i he
          exact ⟨e, List.mem_cons_self .., hb, .inl (Nat.eq_of_beq_eq_true he).symm⟩
        · rcases natMem_append h with h | h
          · exact ⟨e, List.mem_cons_self .., hb, .inr ⟨l, hl, h⟩⟩
          · exact fin h

/-- Those listed wait for nobody who is not. -/
def Closed (ops : Array Oper) (L : Nat → Bool) : Prop := ∀ j o, ops[j]? = some o → L j = true → ∀ e ∈ o.after, Region.binds .any e = true → L e.on = true

theorem anc_listed {ops : Array Oper} {L : Nat → Bool} (hc : Closed ops L) (hlt : ∀ j o, ops[j]? = some o → ∀ e ∈ o.after, Region.binds .any e = true → e.on < j) (j : Nat) :
    ∀ o, ops[j]? = some o → (∀ e ∈ o.after, Region.binds .any e = true → L e.on = true) → ∀ anc, (ancs ops.toList [])[j]? = some anc → ∀ i, natMem i anc = true → L i = true ∧ i < j := by
  induction j using Nat.strongRecOn with
  | _ j ih =>
    intro o ho hr anc ha i hi
    obtain ⟨t, _, h2, h3⟩ := ancs_spec ops.toList []
    have h4 := h3 j o (by simpa using ho)
    simp only [List.length_nil, Nat.zero_add] at h4
    rw [ha] at h4
    cases h4
    obtain ⟨e, he, hb, h5⟩ := ancOf_spec hi
    have he' : e ∈ o.after := by simpa using he
    have hej := hlt j o ho e he' hb
    have hLe := hr e he' hb
    rcases h5 with rfl | ⟨l, hl, hil⟩
    · exact ⟨hLe, hej⟩
    · rw [List.getElem?_take_of_lt hej] at hl
      have hej' : e.on < ops.size := Nat.lt_trans hej (Array.getElem?_eq_some_iff.1 ho).1
      have hoe : ops[e.on]? = some ops[e.on] := Array.getElem?_eq_getElem hej'
      have := ih e.on hej _ hoe (hc e.on _ hoe hLe) l hl i hil
      exact ⟨this.1, by omega⟩

/-! ### The run as the text has it -/

/-- One step's facts. -/
structure StepF (P : Program) (G : Summ) (nt : Nat) (ops : Array Oper) (o : Oper) (E : Env) (m : Mem) (q : SRes) (E' : Env) (m' : Mem) : Prop where
  step : stepR P G ops o E m = some q
  mem : (q.nw = none ∧ q.m = none ∧ m' = m) ∨ (∃ b, q.nw = some b ∧ q.m = none ∧ m' = m ++ [some b]) ∨ (q.nw = none ∧ q.m = some m')
  len : m.length ≤ m'.length
  none : o.dst = none → E' = E
  some : ∀ d, o.dst = some d → d < nt ∧ ∀ t, E'.get t = if d = t then some ⟨d, q.v, q.tg⟩ else E.get t
  uniq : Uniq E → Uniq E'

theorem memK_eq {R : Type} {m : Mem} {nw : Option Blk} {m' : Option Mem} {k : Mem → Option R} {r : R} (h : memK m nw m' k = some r) :
    ∃ m'', k m'' = some r ∧ ((nw = none ∧ m' = none ∧ m'' = m) ∨ (∃ b, nw = some b ∧ m' = none ∧ m'' = m ++ [some b]) ∨ (nw = none ∧ m' = some m'')) := memK_ok h

theorem putA_eq {R : Type} {nt : Nat} {d : Option Nat} {v : AV} {tg : List (Nat × Bool)} {E : Env} {k : Env → Option R} {r : R} (h : putA nt d v tg E k = some r) :
    ∃ E', k E' = some r ∧ (d = none → E' = E) ∧ (∀ d', d = some d' → d' < nt ∧ ∀ t, E'.get t = if d' = t then some ⟨d', v, tg⟩ else E.get t) ∧ (Uniq E → Uniq E') := by
  cases d with
  | none => exact ⟨E, h, fun _ => rfl, (fun d' hd => by cases hd), id⟩
  | some d =>
    simp only [putA] at h
    split at h
    · cases h
    · rename_i hb
      simp only [Bool.or_eq_false_iff, Bool.not_eq_false'] at hb
      obtain ⟨⟨h1, h2⟩, h3⟩ := hb
      have h3 : d < nt := by simpa [Nat.blt_eq] using h3
      obtain ⟨E', e1, e2, e3, e4⟩ := putK_eq E ⟨d, v, tg⟩ k
      rw [e1] at h
      exact ⟨E', h, (fun hd => by cases hd), (fun d' hd => by cases hd; exact ⟨h3, e2⟩), e4⟩

def loudAt (ops : Array Oper) (l : List Oper) (EE : Nat → Env) (MM : Nat → Mem) (QQ : Nat → SRes) (i : Nat) : (Loud × Option Nat) × Bool :=
  match l[i]? with
  | some o => ((loudOf o.op (QQ i), refL (EE i) (MM i) (QQ i) o), makesA ops o (EE i) (MM i) (QQ i))
  | none => ((.free, none), false)

theorem drawA_run {P : Program} {G : Summ} {nt : Nat} {ops : Array Oper} {R : Type} (l : List Oper) : ∀ {as : List (List Nat)} {done : List ((Loud × Option Nat) × Bool)} {E : Env} {m : Mem} {cs : List Bool} {k : Env → Mem → List Bool → Option R} {r : R},
    drawA P G nt ops l as done E m cs k = some r →
    ∃ (EE : Nat → Env) (MM : Nat → Mem) (QQ : Nat → SRes) (cs' : List Bool), EE 0 = E ∧ MM 0 = m ∧ k (EE l.length) (MM l.length) cs' = some r ∧ (∀ b ∈ cs, b ∈ cs') ∧
      ∀ j o, l[j]? = some o → StepF P G nt ops o (EE j) (MM j) (QQ j) (EE (j + 1)) (MM (j + 1)) ∧ (∀ b ∈ (QQ j).cs, b ∈ cs') ∧
        ∃ anc, as[j]? = some anc ∧ apartAll (loudOf o.op (QQ j), refW (EE j) (MM j) (QQ j) o) (stC ops o (EE j) (MM j) (QQ j)) anc 0 (done ++ (List.range j).map (loudAt ops l EE MM QQ)) = true := by
  induction l with
  | nil => intro as done E m cs k r h; exact ⟨fun _ => E, fun _ => m, fun _ => ⟨.tup [], [], none, none, []⟩, cs, rfl, rfl, h, fun b hb => hb, fun j o hj => by simp at hj⟩
  | cons o l ih =>
    intro as done E m cs k r h
    cases as with
    | nil => simp [drawA] at h
    | cons anc as =>
      simp only [drawA] at h
      unfold stepA at h
      split at h
      · cases h
      · rename_i q hq
        rw [appendK_eq] at h
        obtain ⟨m1, h1, hm1⟩ := memK_eq h
        obtain ⟨E1, h2, hd1, hd2, hd3⟩ := putA_eq h1
        simp only at h2
        split at h2
        · rename_i hap
          rw [Bool.and_eq_true] at hap
          obtain ⟨EE, MM, QQ, cs', e1, e2, e3, e4, e5⟩ := ih h2
          refine ⟨fun j => match j with | 0 => E | j + 1 => EE j, fun j => match j with | 0 => m | j + 1 => MM j, fun j => match j with | 0 => q | j + 1 => QQ j, cs', rfl, rfl, e3, fun b hb => e4 b (List.mem_append_right _ hb), fun j o' hj => ?_⟩
          cases j with
          | zero =>
            simp at hj
            subst hj
            subst e1
            subst e2
            exact ⟨⟨hq, hm1, by simpa [Nat.ble_eq] using hap.2, hd1, hd2, hd3⟩, fun b hb => e4 b (List.mem_append_left _ hb), anc, rfl, by simpa using hap.1⟩
          | succ j =>
            obtain ⟨f1, f2, anc', f3, f4⟩ := e5 j o' (by simpa using hj)
            refine ⟨f1, f2, anc', by simpa using f3, ?_⟩
            rw [List.append_assoc] at f4
            rw [List.range_succ_eq_map, List.map_cons, List.map_map]
            exact f4
        · cases h2

theorem apartAll_get {x : Loud × Option Nat} {s : Option Nat} {anc : List Nat} : ∀ {d : Nat} {l : List ((Loud × Option Nat) × Bool)}, apartAll x s anc d l = true → ∀ i y, l[i]? = some y → apartM y.1.1 x.1 = true ∨ natMem (d + i) anc = true ∨ disjM y.1 x = true ∨ (wlM y.1.1 x.1 = true ∧ y.2 = true) ∨ laM y.1 s = true := by
  intro d l
  induction l generalizing d with
  | nil => intro _ i y hi; simp at hi
  | cons a l ih =>
    intro h i y hi
    simp only [apartAll] at h
    split at h
    · rename_i hb
      cases i with
      | zero => simp at hi; subst hi; rw [Bool.or_eq_true, Bool.or_eq_true, Bool.or_eq_true, Bool.or_eq_true, Bool.and_eq_true] at hb; rcases hb with (((hb | hb) | hb) | hb) | hb; exact .inl hb; exact .inr (.inl hb); exact .inr (.inr (.inl hb)); exact .inr (.inr (.inr (.inl hb))); exact .inr (.inr (.inr (.inr hb)))
      | succ i =>
        have := ih h i y (by simpa using hi)
        rw [show d + (i + 1) = d + 1 + i by omega]
        exact this
    · cases h


/-- A region's run, in the text's order, and that its order is free. -/
structure Run (P : Program) (G : Summ) (nt : Nat) (ops : Array Oper) (EE : Nat → Env) (MM : Nat → Mem) (QQ : Nat → SRes) : Prop where
  step : ∀ j o, ops[j]? = some o → StepF P G nt ops o (EE j) (MM j) (QQ j) (EE (j + 1)) (MM (j + 1))
  apart : ∀ i j oi oj, ops[i]? = some oi → ops[j]? = some oj → i < j → apartM (loudOf oi.op (QQ i)) (loudOf oj.op (QQ j)) = true ∨ (∃ anc, (ancs ops.toList [])[j]? = some anc ∧ natMem i anc = true) ∨ disjM (loudOf oi.op (QQ i), refL (EE i) (MM i) (QQ i) oi) (loudOf oj.op (QQ j), refW (EE j) (MM j) (QQ j) oj) = true ∨ (wlM (loudOf oi.op (QQ i)) (loudOf oj.op (QQ j)) = true ∧ makesA ops oi (EE i) (MM i) (QQ i) = true) ∨ laM (loudOf oi.op (QQ i), refL (EE i) (MM i) (QQ i) oi) (stC ops oj (EE j) (MM j) (QQ j)) = true
  lt : ∀ j o, ops[j]? = some o → ∀ e ∈ o.after, Region.binds .any e = true → e.on < j
  slots : ∀ i j oi oj, ops[i]? = some oi → ops[j]? = some oj → ∃ ai aj, (ancs ops.toList [])[i]? = some ai ∧ (ancs ops.toList [])[j]? = some aj ∧ slotPair ops oj aj j oi ai i = true
  plain : ∀ t e, (EE 0).get t = some e → e.tg = []

/-- The memory behind those listed. -/
def cur (st : Nat → Option Nat) (MM : Nat → Mem) (QQ : Nat → SRes) (L : Nat → Bool) : Nat → Nat → Option Blk
  | 0 => fun x => (MM 0).at x
  | j + 1 => if L j = true then
      match (QQ j).m with
      | some m' => match st j with
        | some b => fun x => if x = b then m'.at x else cur st MM QQ L j x
        | none => fun x => m'.at x
      | none => match (QQ j).nw with
        | some b => fun x => if x = (MM j).length then some b else cur st MM QQ L j x
        | none => cur st MM QQ L j
    else cur st MM QQ L j

def stAt (ops : Array Oper) (EE : Nat → Env) (MM : Nat → Mem) (QQ : Nat → SRes) (j : Nat) : Option Nat :=
  match ops[j]? with
  | some o => stC ops o (EE j) (MM j) (QQ j)
  | none => none

def Eff (q : SRes) : Prop := q.m ≠ none ∨ q.nw ≠ none

def updL (L : Nat → Bool) (j : Nat) : Nat → Bool := fun i => if i = j then true else L i

theorem at_append_eq (m : Mem) (x : Option Blk) (i : Nat) : (m ++ [x] : Mem).at i = if i = m.length then x else m.at i := by
  rw [at_eq, at_eq]
  by_cases h : i < m.length
  · rw [List.getElem?_append_left h, if_neg (by omega)]
  · rw [List.getElem?_append_right (by omega)]
    by_cases h' : i = m.length
    · rw [if_pos h', h']; simp
    · rw [if_neg h', List.getElem?_eq_none (by simp; omega), List.getElem?_eq_none (by omega)]

section
variable {P : Program} {G : Summ} {nt : Nat} {ops : Array Oper} {EE : Nat → Env} {MM : Nat → Mem} {QQ : Nat → SRes} {L L' : Nat → Bool}

theorem opAt {j : Nat} (h : j < ops.size) : ∃ o, ops[j]? = some o := ⟨_, Array.getElem?_eq_getElem h⟩

theorem Run.len (hr : Run P G nt ops EE MM QQ) {i : Nat} : ∀ {j : Nat}, i ≤ j → j ≤ ops.size → (MM i).length ≤ (MM j).length := by
  intro j hij hj
  induction j with
  | zero => rw [Nat.le_zero.1 hij]; exact Nat.le_refl _
  | succ j ih =>
    rcases Nat.lt_or_ge i (j + 1) with h | h
    · obtain ⟨o, ho⟩ := opAt (ops := ops) (j := j) (by omega)
      exact Nat.le_trans (ih (by omega) (by omega)) (hr.step j o ho).len
    · rw [show i = j + 1 by omega]; exact Nat.le_refl _

theorem Run.hist (hr : Run P G nt ops EE MM QQ) (t : Nat) : ∀ j, j ≤ ops.size →
    (∃ i o, i < j ∧ ops[i]? = some o ∧ o.dst = some t ∧ (EE j).get t = some ⟨t, (QQ i).v, (QQ i).tg⟩) ∨ ((∀ i o, i < j → ops[i]? = some o → o.dst ≠ some t) ∧ (EE j).get t = (EE 0).get t) := by
  intro j
  induction j with
  | zero => intro _; exact .inr ⟨fun i o hi => by omega, rfl⟩
  | succ j ih =>
    intro hj
    obtain ⟨o, ho⟩ := opAt (ops := ops) (j := j) (by omega)
    have hs := hr.step j o ho
    have same : o.dst ≠ some t → (EE (j + 1)).get t = (EE j).get t := by
      intro hne
      cases hd : o.dst with
      | none => rw [hs.none hd]
      | some d => rw [(hs.some d hd).2 t, if_neg (fun e => hne (by rw [hd, e]))]
    by_cases hd : o.dst = some t
    · refine .inl ⟨j, o, by omega, ho, hd, ?_⟩
      rw [(hs.some t hd).2 t, if_pos rfl]
    · rw [same hd]
      rcases ih (by omega) with ⟨i, o', h1, h2, h3, h4⟩ | ⟨h1, h2⟩
      · exact .inl ⟨i, o', by omega, h2, h3, h4⟩
      · refine .inr ⟨fun i o' hi ho' => ?_, h2⟩
        rcases Nat.lt_or_ge i j with h | h
        · exact h1 i o' h ho'
        · have : i = j := by omega
          subst this
          rw [ho] at ho'
          cases ho'
          exact hd

theorem Run.keep (hr : Run P G nt ops EE MM QQ) {t j : Nat} : ∀ {k : Nat}, j ≤ k → k ≤ ops.size → (∀ i o, j ≤ i → i < k → ops[i]? = some o → o.dst ≠ some t) → (EE k).get t = (EE j).get t := by
  intro k hjk hk h
  induction k with
  | zero => rw [Nat.le_zero.1 hjk]
  | succ k ih =>
    rcases Nat.lt_or_ge j (k + 1) with hlt | hge
    · obtain ⟨o, ho⟩ := opAt (ops := ops) (j := k) (by omega)
      have hs := hr.step k o ho
      have hne := h k o (by omega) (by omega) ho
      rw [← ih (by omega) (by omega) fun i o' h1 h2 => h i o' h1 (by omega)]
      cases hd : o.dst with
      | none => rw [hs.none hd]
      | some d => rw [(hs.some d hd).2 t, if_neg (fun e => hne (by rw [hd, e]))]
    · rw [show j = k + 1 by omega]

theorem Run.stF (hr : Run P G nt ops EE MM QQ) {j b : Nat} (h : stAt ops EE MM QQ j = some b) : ∃ o nb b0, ops[j]? = some o ∧ stB (EE j) o = some b ∧ makesA ops o (EE j) (MM j) (QQ j) = false ∧ (MM j).at b = some b0 ∧ b0.rw = true ∧ (QQ j).m = some ((MM j).set b (some nb)) ∧ MM (j + 1) = (MM j).set b (some nb) ∧ ∀ x, x ≠ b → (MM (j + 1)).at x = (MM j).at x := by
  unfold stAt at h
  split at h
  rotate_left
  · cases h
  rename_i o ho
  obtain ⟨h1, h2⟩ := stC_ok h
  have st := hr.step j o ho
  obtain ⟨nb, b0, g1, g2, _, _, g4, g5, _⟩ := stepR_st h2 st.step
  have hm : MM (j + 1) = (MM j).set b (some nb) := by
    rcases st.mem with ⟨_, e2, _⟩ | ⟨_, _, e2, _⟩ | ⟨_, e2⟩
    · rw [g5] at e2; cases e2
    · rw [g5] at e2; cases e2
    · rw [g5] at e2; exact (Option.some.inj e2).symm
  refine ⟨o, nb, b0, ho, h2, h1, g1, g2, g5, hm, fun x hx => ?_⟩
  rw [hm, at_eq, List.getElem?_set_ne (Ne.symm hx), ← at_eq]

theorem cur_congr {j : Nat} (h : ∀ i, i < j → L i = L' i) : cur (stAt ops EE MM QQ) MM QQ L j = cur (stAt ops EE MM QQ) MM QQ L' j := by
  induction j with
  | zero => rfl
  | succ j ih => simp only [cur, h j (by omega), ih fun i hi => h i (by omega)]

theorem cur_quiet {j : Nat} (hq : ¬ Eff (QQ j)) : cur (stAt ops EE MM QQ) MM QQ L (j + 1) = cur (stAt ops EE MM QQ) MM QQ L j := by
  have hm : (QQ j).m = none := Classical.byContradiction fun h => hq (.inl h)
  have hn : (QQ j).nw = none := Classical.byContradiction fun h => hq (.inr h)
  simp only [cur, hm, hn, ite_self]

theorem cur_un {j : Nat} (hL : L j = false) : cur (stAt ops EE MM QQ) MM QQ L (j + 1) = cur (stAt ops EE MM QQ) MM QQ L j := by
  simp only [cur, hL, Bool.false_eq_true, if_false]

theorem cur_still {j : Nat} : ∀ {k : Nat}, j ≤ k → (∀ i, j ≤ i → i < k → Eff (QQ i) → L i = false) → cur (stAt ops EE MM QQ) MM QQ L k = cur (stAt ops EE MM QQ) MM QQ L j := by
  intro k hjk h
  induction k with
  | zero => rw [Nat.le_zero.1 hjk]
  | succ k ih =>
    rcases Nat.lt_or_ge j (k + 1) with hlt | hge
    · rw [← ih (by omega) fun i h1 h2 => h i h1 (by omega)]
      by_cases hq : Eff (QQ k)
      · exact cur_un (h k (by omega) (by omega) hq)
      · exact cur_quiet hq
    · rw [show j = k + 1 by omega]

theorem Run.cur_full (hr : Run P G nt ops EE MM QQ) : ∀ {j : Nat}, j ≤ ops.size → (∀ i, i < j → Eff (QQ i) → L i = true) → ∀ x, cur (stAt ops EE MM QQ) MM QQ L j x = (MM j).at x := by
  intro j
  induction j with
  | zero => intro _ _ x; rfl
  | succ j ih =>
    intro hj h x
    obtain ⟨o, ho⟩ := opAt (ops := ops) (j := j) (by omega)
    have hi := ih (by omega) fun i hi => h i (by omega)
    rcases (hr.step j o ho).mem with ⟨e1, e2, e3⟩ | ⟨b, e1, e2, e3⟩ | ⟨e1, e2⟩
    · rw [e3, cur_quiet (fun hq => by rcases hq with hq | hq; exact hq e2; exact hq e1)]
      exact hi x
    · have hL := h j (by omega) (.inr (by rw [e1]; simp))
      simp only [cur, hL, if_true, e1, e2]
      rw [e3, at_append_eq]
      split
      · rfl
      · exact hi x
    · have hL := h j (by omega) (.inl (by rw [e2]; simp))
      cases hs : stAt ops EE MM QQ j with
      | none => simp only [cur, hL, if_true, e2, hs]
      | some b =>
        obtain ⟨_, _, _, _, _, _, _, _, _, _, hk⟩ := hr.stF hs
        simp only [cur, hL, if_true, e2, hs]
        by_cases hx : x = b
        · rw [if_pos hx]
        · rw [if_neg hx, hi x, hk x hx]

theorem Run.cur_ext (hr : Run P G nt ops EE MM QQ) {j : Nat} : ∀ {k : Nat}, j ≤ k → k ≤ ops.size → (∀ i, j ≤ i → i < k → L i = true → (QQ i).m = none) → ∀ x, x < (MM j).length → cur (stAt ops EE MM QQ) MM QQ L k x = cur (stAt ops EE MM QQ) MM QQ L j x := by
  intro k hjk hk h x hx
  induction k with
  | zero => rw [Nat.le_zero.1 hjk]
  | succ k ih =>
    rcases Nat.lt_or_ge j (k + 1) with hlt | hge
    · rw [← ih (by omega) (by omega) fun i h1 h2 => h i h1 (by omega)]
      by_cases hL : L k = true
      · have hm := h k (by omega) (by omega) hL
        have hl := hr.len (i := j) (j := k) (by omega) (by omega)
        cases hnw : (QQ k).nw with
        | none => simp only [cur, hL, if_true, hm, hnw]
        | some b =>
          simp only [cur, hL, if_true, hm, hnw]
          rw [if_neg (by omega)]
      · rw [cur_un (by simpa using hL)]
    · rw [show j = k + 1 by omega]

/-- Block 'i0' as it is where number j stands, if whoever writes it is in order. -/
theorem Run.cur_at (hr : Run P G nt ops EE MM QQ) {j : Nat} (hj : j < ops.size) (hL : L j = false) {i0 : Nat} (hi0 : i0 < (MM j).length)
    (hb : ∀ i, i < j → Eff (QQ i) → L i = true ∨ ((QQ i).m ≠ none ∧ ∀ m', (QQ i).m = some m' → m'.at i0 = (MM i).at i0) ∨ ((QQ i).m = none ∧ i0 ≠ (MM i).length))
    (ha : ∀ i, j < i → i < ops.size → L i = true → (QQ i).m = none ∨ ((QQ i).m ≠ none ∧ ∀ m', (QQ i).m = some m' → m'.at i0 = (MM i).at i0))
    (hww : ∀ i k, i < k → k < ops.size → (QQ i).m ≠ none → (QQ k).m ≠ none → L k = true → L i = true) : cur (stAt ops EE MM QQ) MM QQ L ops.size i0 = (MM j).at i0 := by
  have first : ∀ k, k ≤ j → cur (stAt ops EE MM QQ) MM QQ L k i0 = (MM k).at i0 := by
    intro k
    induction k with
    | zero => intro _; rfl
    | succ k ih =>
      intro hk
      have ih := ih (by omega)
      obtain ⟨o, ho⟩ := opAt (ops := ops) (j := k) (by omega)
      rcases (hr.step k o ho).mem with ⟨e1, e2, e3⟩ | ⟨b, e1, e2, e3⟩ | ⟨e1, e2⟩
      · rw [cur_quiet (fun h => by rcases h with h | h; exact h e2; exact h e1), e3]; exact ih
      · cases hLk : L k with
        | true =>
          simp only [cur, hLk, if_true, e1, e2]
          rw [e3, at_append_eq]
          split
          · rfl
          · exact ih
        | false =>
          rcases hb k (by omega) (.inr (by rw [e1]; simp)) with h | h | h
          · rw [hLk] at h; cases h
          · exact absurd e2 h.1
          · rw [cur_un hLk, e3, at_append_eq, if_neg h.2]
            exact ih
      · cases hLk : L k with
        | true =>
          cases hs : stAt ops EE MM QQ k with
          | none => simp only [cur, hLk, if_true, e2, hs]
          | some b =>
            obtain ⟨_, _, _, _, _, _, _, _, _, _, hkp⟩ := hr.stF hs
            simp only [cur, hLk, if_true, e2, hs]
            by_cases hx : i0 = b
            · rw [if_pos hx]
            · rw [if_neg hx, ih, hkp i0 hx]
        | false =>
          rw [cur_un hLk, ih]
          rcases hb k (by omega) (.inl (by rw [e2]; simp)) with h | h | h
          · rw [hLk] at h; cases h
          · exact (h.2 _ e2).symm
          · rw [e2] at h; cases h.1
  have keep : ∀ k, j ≤ k → k < ops.size → L k = true → (QQ k).m ≠ none → (MM k).at i0 = (MM j).at i0 := by
    intro k hjk hk hLk hmk
    have : ∀ i, j ≤ i → i ≤ k → (MM i).at i0 = (MM j).at i0 := by
      intro i
      induction i with
      | zero => intro h _; rw [Nat.le_zero.1 h]
      | succ i ih =>
        intro h1 h2
        rcases Nat.lt_or_ge j (i + 1) with hlt | hge
        · have ih := ih (by omega) (by omega)
          obtain ⟨o, ho⟩ := opAt (ops := ops) (j := i) (by omega)
          have hlen := hr.len (i := j) (j := i) (by omega) (by omega)
          rcases (hr.step i o ho).mem with ⟨e1, e2, e3⟩ | ⟨b, e1, e2, e3⟩ | ⟨e1, e2⟩
          · rw [e3]; exact ih
          · rw [e3, at_append_eq, if_neg (by omega)]; exact ih
          · have hmi : (QQ i).m ≠ none := by rw [e2]; simp
            have hLi := hww i k (by omega) hk hmi hmk hLk
            have hji : j < i := by
              rcases Nat.lt_or_ge j i with h | h
              · exact h
              · have : i = j := by omega
                subst this
                rw [hL] at hLi
                cases hLi
            rcases ha i hji (by omega) hLi with h | h
            · exact absurd h hmi
            · rw [h.2 _ e2]; exact ih
        · rw [show i + 1 = j by omega]
    exact this k hjk (Nat.le_refl _)
  have rest : ∀ k, j ≤ k → k ≤ ops.size → cur (stAt ops EE MM QQ) MM QQ L k i0 = (MM j).at i0 := by
    intro k
    induction k with
    | zero => intro h _; rw [Nat.le_zero.1 h]; exact first 0 (by omega)
    | succ k ih =>
      intro h1 h2
      rcases Nat.lt_or_ge j (k + 1) with hlt | hge
      · have ih := ih (by omega) (by omega)
        cases hLk : L k with
        | false => rw [cur_un hLk]; exact ih
        | true =>
          have hjk : j < k := by
            rcases Nat.lt_or_ge j k with h | h
            · exact h
            · have : k = j := by omega
              subst this
              rw [hL] at hLk
              cases hLk
          have hlen := hr.len (i := j) (j := k) (by omega) (by omega)
          obtain ⟨o, ho⟩ := opAt (ops := ops) (j := k) (by omega)
          rcases (hr.step k o ho).mem with ⟨e1, e2, e3⟩ | ⟨b, e1, e2, e3⟩ | ⟨e1, e2⟩
          · rw [cur_quiet (fun h => by rcases h with h | h; exact h e2; exact h e1)]; exact ih
          · simp only [cur, hLk, if_true, e1, e2]
            rw [if_neg (by omega)]
            exact ih
          · have hmk : (QQ k).m ≠ none := by rw [e2]; simp
            have fin : (MM (k + 1)).at i0 = (MM j).at i0 := by
              rcases ha k hjk (by omega) hLk with h | h
              · exact absurd h hmk
              · rw [h.2 _ e2]; exact keep k (by omega) (by omega) hLk hmk
            cases hs : stAt ops EE MM QQ k with
            | none => simp only [cur, hLk, if_true, e2, hs]; exact fin
            | some b =>
              simp only [cur, hLk, if_true, e2, hs]
              by_cases hx : i0 = b
              · rw [if_pos hx]; exact fin
              · rw [if_neg hx]; exact ih
      · rw [show k + 1 = j by omega]; exact first j (Nat.le_refl _)
  exact rest ops.size (by omega) (Nat.le_refl _)

theorem updL_ne {i j : Nat} (h : i ≠ j) : updL L j i = L i := by simp [updL, h]
theorem updL_self (j : Nat) : updL L j j = true := by simp [updL]
theorem updL_of {i j : Nat} (h : L i = true) : updL L j i = true := by unfold updL; split <;> simp [h]

theorem cur_upd_quiet {j : Nat} (hq : ¬ Eff (QQ j)) : ∀ k, cur (stAt ops EE MM QQ) MM QQ (updL L j) k = cur (stAt ops EE MM QQ) MM QQ L k := by
  intro k
  induction k with
  | zero => rfl
  | succ k ih =>
    by_cases hk : k = j
    · subst hk
      rw [cur_quiet hq, cur_quiet hq, ih]
    · simp only [cur, updL_ne hk, ih]

theorem Run.cur_upd_lay (hr : Run P G nt ops EE MM QQ) {j : Nat} {b : Blk} (hj : j < ops.size) (hL : L j = false) (hm : (QQ j).m = none) (hn : (QQ j).nw = some b) :
    ∀ {k : Nat}, j < k → k ≤ ops.size → (∀ i, j < i → i < k → L i = true → (QQ i).m = none ∨ ∃ b', stAt ops EE MM QQ i = some b' ∧ b' ≠ (MM j).length) → ∀ x, cur (stAt ops EE MM QQ) MM QQ (updL L j) k x = if x = (MM j).length then some b else cur (stAt ops EE MM QQ) MM QQ L k x := by
  intro k hjk hk h x
  obtain ⟨o, ho⟩ := opAt hj
  have hlen : (MM (j + 1)).length = (MM j).length + 1 := by
    rcases (hr.step j o ho).mem with ⟨e1, e2, e3⟩ | ⟨b', e1, e2, e3⟩ | ⟨e1, e2⟩
    · rw [hn] at e1; cases e1
    · rw [e3]; simp
    · rw [hm] at e2; cases e2
  induction k with
  | zero => omega
  | succ k ih =>
    rcases Nat.lt_or_ge j k with hlt | hge
    · have ih := ih hlt (by omega) fun i h1 h2 => h i h1 (by omega)
      by_cases hLk : L k = true
      · have hl := hr.len (i := j + 1) (j := k) (by omega) (by omega)
        rcases h k hlt (by omega) hLk with hmk | ⟨b', hs, hne⟩
        · cases hnw : (QQ k).nw with
          | none =>
            simp only [cur, updL_of hLk, hLk, if_true, hmk, hnw]
            exact ih
          | some b' =>
            simp only [cur, updL_of hLk, hLk, if_true, hmk, hnw]
            by_cases hx : x = (MM k).length
            · rw [if_pos hx, if_pos hx, if_neg (by omega)]
            · rw [if_neg hx, if_neg hx, ih]
        · obtain ⟨_, nb, _, _, _, _, _, _, hmk, _, _⟩ := hr.stF hs
          simp only [cur, updL_of hLk, hLk, if_true, hmk, hs]
          by_cases hx : x = b'
          · rw [if_pos hx, if_pos hx, if_neg (by omega)]
          · rw [if_neg hx, if_neg hx, ih]
      · have hLk : L k = false := by simpa using hLk
        rw [cur_un (by rw [updL_ne (by omega)]; exact hLk), cur_un hLk]
        exact ih
    · have : k = j := by omega
      subst this
      rw [cur_un hL, ← cur_congr (L := updL L k) (L' := L) fun i hi => updL_ne (by omega)]
      simp only [cur, updL_self, if_true, hm, hn]

end

/-! ### Values without an address -/

mutual
theorem SR.flatO {β β' : BM} {x : AV} {y : Value} : SR β x y → x.flat = true → SR β' x y
  | .bool b, _ => .bool b
  | .sbool b, _ => .sbool b
  | .int k n h, _ => .int k n h
  | .sint k n h, _ => .sint k n h
  | .flt k x b h h', _ => .flt k x b h h'
  | .str s, _ => .str s
  | .pnil, _ => .pnil
  | .ptr _ _ _ _, h => by simp [AV.flat] at h
  | .snil, _ => .snil
  | .slc _ _ _ _ _ _ _ _ _, h => by simp [AV.flat] at h
  | .sslc _ _ _ _ _ _ _ _ _, h => by simp [AV.flat] at h
  | .fn f caps cs h, hf => .fn f caps cs (SRs.flatO h (by simpa [AV.flat] using hf))
  | .nilfn, _ => .nilfn
theorem SRs.flatO {β β' : BM} {x : List AV} {y : List Value} : SRs β x y → flatL x = true → SRs β' x y
  | .nil, _ => .nil
  | .cons x y xs ys h hs, hf => by
    simp only [flatL, Bool.and_eq_true] at hf
    exact .cons x y xs ys (SR.flatO h hf.1) (SRs.flatO hs hf.2)
end

mutual
theorem VR.flatO {β β' : BM} {x : AV} {y : Value} : VR β x y → x.flat = true → VR β' x y
  | .sc x y h, hf => .sc x y (h.flatO hf)
  | .agg xs ys h, hf => .agg xs ys (h.flatO (by simpa [AV.flat] using hf))
  | .tup xs ys h, hf => .tup xs ys (VRs.flatO h (by simpa [AV.flat] using hf))
theorem VRs.flatO {β β' : BM} {x : List AV} {y : List Value} : VRs β x y → flatL x = true → VRs β' x y
  | .nil, _ => .nil
  | .cons x y xs ys h hs, hf => by
    simp only [flatL, Bool.and_eq_true] at hf
    exact .cons x y xs ys (VR.flatO h hf.1) (VRs.flatO hs hf.2)
end

theorem flatL_getO {l : List AV} (h : flatL l = true) {j : Nat} {v : AV} (hj : l[j]? = some v) : v.flat = true := by
  induction l generalizing j with
  | nil => simp at hj
  | cons x l ih =>
    simp only [flatL, Bool.and_eq_true] at h
    cases j with
    | zero => simp at hj; subst hj; exact h.1
    | succ j => exact ih h.2 (by simpa using hj)

theorem mkK_flatO (x : Vars) (j : Nat) (k : Kd) : (mkK x j k).flat = true := by cases k <;> rfl

theorem BR.flatO {β β' : BM} {bk : Blk} {be : BE} {w : World} (h : BR β bk be w) (hf : ∀ cells rw, bk = .lit cells rw → flatL cells = true) : BR β' bk be w := by
  obtain ⟨c, e, fr, h1, h2, h3, h4, h5⟩ := h
  cases bk with
  | lit cells rw =>
    refine ⟨c, e, fr, h1, h2, h3, h4, fun j v hj => ?_⟩
    obtain ⟨cv, c1, c2⟩ := h5 j v hj
    exact ⟨cv, c1, c2.flatO (flatL_getO (hf _ _ rfl) hj)⟩
  | sym n k y rw =>
    refine ⟨c, e, fr, h1, h2, h3, h4, fun j hj => ?_⟩
    obtain ⟨cv, c1, c2⟩ := h5 j hj
    exact ⟨cv, c1, c2.flatO (mkK_flatO y j k)⟩

theorem flatSlots_ok {E : Env} : ∀ {l : List Nat}, flatSlots E l = true → ∀ t ∈ l, ∀ e, E.get t = some e → e.v.flat = true
  | [], _, _, ht, _, _ => by cases ht
  | a :: r, h, t, ht, e, he => by
    simp only [flatSlots] at h
    split at h
    · rename_i e' he'
      split at h
      · rename_i hf
        rcases List.mem_cons.1 ht with rfl | ht
        · rw [he'] at he; cases he; exact hf
        · exact flatSlots_ok h t ht e he
      · cases h
    · rename_i he'
      rcases List.mem_cons.1 ht with rfl | ht
      · rw [he'] at he; cases he
      · exact flatSlots_ok h t ht e he

theorem flatM_ok : ∀ {m : Mem}, flatM m = true → ∀ i cells rw, m.at i = some (.lit cells rw) → flatL cells = true
  | [], _, i, _, _, hi => by simp [Mem.at] at hi
  | x :: r, h, i, cells, rw, hi => by
    have hr : flatM r = true := by
      unfold flatM at h
      split at h
      · rename_i heq
        cases heq
      · rename_i heq
        cases heq
        split at h
        · exact h
        · cases h
      · rename_i heq
        cases heq
        exact h
    cases i with
    | zero =>
      simp only [Mem.at] at hi
      subst hi
      simp only [flatM] at h
      split at h
      · rename_i hf; exact hf
      · cases h
    | succ i => exact flatM_ok hr i cells rw (by simpa [Mem.at] using hi)

theorem allRw_ok : ∀ {m : Mem}, allRw m = true → ∀ i bk, m.at i = some bk → bk.rw = true
  | [], _, i, _, hi => by simp [Mem.at] at hi
  | none :: r, h, i, bk, hi => by
    cases i with
    | zero => simp [Mem.at] at hi
    | succ i => exact allRw_ok (m := r) (by simpa [allRw] using h) i bk (by simpa [Mem.at] using hi)
  | some b :: r, h, i, bk, hi => by
    simp only [allRw] at h
    split at h
    · rename_i hb
      cases i with
      | zero => simp [Mem.at] at hi; subst hi; exact hb
      | succ i => exact allRw_ok h i bk (by simpa [Mem.at] using hi)
    · cases h

theorem grewM_ok : ∀ {m m' : Mem}, grewM m m' = true → ∀ i bk, m'.at i = some bk → (i < m.length → ∃ b, m.at i = some b) ∧ (m.length ≤ i → bk.rw = true)
  | [], m', h, i, bk, hi => ⟨fun h0 => absurd h0 (by simp), fun _ => allRw_ok (by simpa [grewM] using h) i bk hi⟩
  | _ :: _, [], h, _, _, _ => by simp [grewM] at h
  | a :: r, b :: r', h, i, bk, hi => by
    have hr : grewM r r' = true ∧ (a = none → b = none) := by
      cases a <;> cases b <;> simp_all [grewM]
    cases i with
    | zero =>
      simp only [Mem.at] at hi
      refine ⟨fun _ => ?_, fun h0 => absurd h0 (by simp)⟩
      cases a with
      | none => rw [hr.2 rfl] at hi; cases hi
      | some x => exact ⟨x, rfl⟩
    | succ i =>
      obtain ⟨q1, q2⟩ := grewM_ok hr.1 i bk (by simpa [Mem.at] using hi)
      exact ⟨fun h0 => by simpa [Mem.at] using q1 (by simpa using h0), fun h0 => q2 (by simpa using h0)⟩

theorem at_range (f : Nat → Option Blk) (N i : Nat) : Mem.at ((List.range N).map f) i = if i < N then f i else none := by
  rw [at_eq]
  by_cases h : i < N
  · simp [h]
  · simp [h]

theorem wl_no {x : Loud} : wlM x .looks = false ∧ wlM .looks x = false ∧ wlM .lays x = false ∧ wlM x .writes = false ∧ wlM x .free = false ∧ wlM .free x = false := by
  cases x <;> exact ⟨rfl, rfl, rfl, rfl, rfl, rfl⟩

section
variable {P : Program} {G : Summ} {nt : Nat} {ops : Array Oper} {EE : Nat → Env} {MM : Nat → Mem} {QQ : Nat → SRes} {L L' : Nat → Bool}

theorem Run.cur_upd_w (hr : Run P G nt ops EE MM QQ) {j : Nat} {m' : Mem} (hst : stAt ops EE MM QQ j = none) (_hL : L j = false) (hm : (QQ j).m = some m') (hm1 : MM (j + 1) = m') (hn : ∀ x, m'.length ≤ x → cur (stAt ops EE MM QQ) MM QQ L j x = none) :
    ∀ {k : Nat}, j < k → k ≤ ops.size → (∀ i, j < i → i < k → L i = true → (QQ i).m = none) → ∀ x, cur (stAt ops EE MM QQ) MM QQ (updL L j) k x = if x < m'.length then m'.at x else cur (stAt ops EE MM QQ) MM QQ L k x := by
  intro k hjk hk h x
  induction k with
  | zero => omega
  | succ k ih =>
    rcases Nat.lt_or_ge j k with hlt | hge
    · have ih := ih hlt (by omega) fun i h1 h2 => h i h1 (by omega)
      by_cases hLk : L k = true
      · have hmk := h k hlt (by omega) hLk
        have hl := hr.len (i := j + 1) (j := k) (by omega) (by omega)
        rw [hm1] at hl
        cases hnw : (QQ k).nw with
        | none =>
          simp only [cur, updL_of hLk, hLk, if_true, hmk, hnw]
          exact ih
        | some b' =>
          simp only [cur, updL_of hLk, hLk, if_true, hmk, hnw]
          by_cases hx : x = (MM k).length
          · rw [if_pos hx, if_pos hx, if_neg (by omega)]
          · rw [if_neg hx, if_neg hx, ih]
      · have hLk : L k = false := by simpa using hLk
        rw [cur_un (by rw [updL_ne (by omega)]; exact hLk), cur_un hLk]
        exact ih
    · have : k = j := by omega
      subst this
      rw [cur_un _hL]
      simp only [cur, updL_self, if_true, hm, hst]
      by_cases hx : x < m'.length
      · rw [if_pos hx]
      · rw [if_neg hx, hn x (by omega), at_eq, List.getElem?_eq_none (by omega)]
        rfl
end

/-! ### Behind some of them -/

/-- The slots. -/
structure Slots (T : Tags) (β : BM) (ops : Array Oper) (E₀ : Env) (QQ : Nat → SRes) (L : Nat → Bool) (tmps : Array Value) : Prop where
  wr : ∀ i o d, ops[i]? = some o → o.dst = some d → L i = true → ∃ c, tmps[d]? = some c ∧ (holds T (QQ i).tg → VR β (QQ i).v c) ∧ (¬ holds T (QQ i).tg → c = undef)
  un : ∀ t e, E₀.get t = some e → (∀ i o, ops[i]? = some o → o.dst = some t → L i = false) → ∃ c, tmps[t]? = some c ∧ VR β e.v c

structure Inv (S : Nat → Prop) (w₀ : World) (β₀ : BM) (nt : Nat) (ds : List Deferred) (ops : Array Oper) (EE : Nat → Env) (MM : Nat → Mem) (QQ : Nat → SRes) (L : Nat → Bool) (a : Act) (w : World) : Prop where
  closed : Closed ops L
  defers : a.defers = ds
  size : a.tmps.size = nt
  ex : ∃ β, BLe β₀ β ∧ Slots (tagsOf (EE ops.size)) β ops (EE 0) QQ L a.tmps ∧
    (∀ m : Mem, (∀ i bk, m.at i = some bk → cur (stAt ops EE MM QQ) MM QQ L ops.size i = some bk) → WS S w₀ β m w) ∧
    (∀ x, β x ≠ none → x < (MM 0).length ∨ ∃ i, i < ops.size ∧ L i = true ∧ (MM i).length ≤ x ∧ x < (MM (i + 1)).length)

section
variable {P : Program} {G : Summ} {S : Nat → Prop} {w₀ w : World} {β₀ β : BM} {nt : Nat} {ds : List Deferred} {ops : Array Oper} {EE : Nat → Env} {MM : Nat → Mem} {QQ : Nat → SRes} {L : Nat → Bool} {a : Act}

theorem Slots.put (hr : Run P G nt ops EE MM QQ) {T : Tags} (hs : Slots T β ops (EE 0) QQ L a.tmps) (hsz : a.tmps.size = nt) {β' : BM} (hβ : BLe β β') {j : Nat} {o : Oper} (ho : ops[j]? = some o) {v : Value}
    (h1 : holds T (QQ j).tg → VR β' (QQ j).v v) (h2 : ¬ holds T (QQ j).tg → v = undef) : Slots T β' ops (EE 0) QQ (updL L j) (a.put o.dst v).tmps := by
  have other : ∀ t, o.dst ≠ some t → (a.put o.dst v).tmps[t]? = a.tmps[t]? := by
    intro t ht
    cases hd : o.dst with
    | none => rfl
    | some d =>
      have : d ≠ t := fun e => ht (by rw [hd, e])
      simp only [Act.put]
      rw [Array.getElem?_setIfInBounds_ne this]
  refine ⟨fun i oi d hi hd hL => ?_, fun t e he hu => ?_⟩
  · by_cases hij : i = j
    · subst hij
      rw [ho] at hi
      cases hi
      have hlt := ((hr.step i o ho).some d hd).1
      refine ⟨v, ?_, h1, h2⟩
      rw [hd]
      simp [Act.put, hsz, hlt]
    · rw [updL_ne hij] at hL
      obtain ⟨c, c1, c2, c3⟩ := hs.wr i oi d hi hd hL
      refine ⟨c, ?_, fun hh => (c2 hh).mono hβ, c3⟩
      rw [other d ?_]
      · exact c1
      · obtain ⟨ai, aj, _, _, hp⟩ := hr.slots i j oi o hi ho
        unfold slotPair at hp
        rw [hd] at hp
        have hb : Nat.beq i j = false := by
          cases hb : Nat.beq i j
          · rfl
          · exact absurd (Nat.eq_of_beq_eq_true hb) hij
        simp only [hb, Bool.and_eq_true, bne_iff_ne, ne_eq] at hp
        exact hp.1
  · have hne : o.dst ≠ some t := fun hd => by
      have := hu j o ho hd
      rw [updL_self] at this
      cases this
    obtain ⟨c, c1, c2⟩ := hs.un t e he fun i oi hi hd => by
      have := hu i oi hi hd
      rw [updL_ne (fun e => by subst e; rw [ho] at hi; cases hi; exact hne hd)] at this
      exact this
    exact ⟨c, by rw [other t hne]; exact c1, c2.mono hβ⟩

/-- What an operation that is next looks at. -/
theorem Slots.er (hr : Run P G nt ops EE MM QQ) (hc : Closed ops L) (hs : Slots (tagsOf (EE ops.size)) β ops (EE 0) QQ L a.tmps) (hsz : a.tmps.size = nt) {j : Nat} {o : Oper} (ho : ops[j]? = some o) (hL : L j = false) (he : ∀ e ∈ o.after, Region.binds .any e = true → L e.on = true) :
    ER (tagsOf (EE ops.size)) β nt ((EE j).only (o.looksAt ops)) a.tmps ∧ (plainOper o = false → Tells (tagsOf (EE ops.size)) ((EE j).only (o.looksAt ops))) := by
  have hj : j < ops.size := (Array.getElem?_eq_some_iff.1 ho).1
  have hpair : ∀ {i : Nat} {oi : Oper} {t : Nat}, ops[i]? = some oi → oi.dst = some t → t ∈ o.looksAt ops → i ≠ j → (i < j ∧ L i = true) ∨ (j < i ∧ L i = false ∧ plainOper o = true) := by
    intro i oi t hi hd ht hij
    obtain ⟨ai, aj, ha1, ha2, hp⟩ := hr.slots i j oi o hi ho
    unfold slotPair at hp
    rw [hd] at hp
    have hb : Nat.beq i j = false := by
      cases hb : Nat.beq i j
      · rfl
      · exact absurd (Nat.eq_of_beq_eq_true hb) hij
    have hcon : (o.looksAt ops).contains t = true := by simpa using ht
    simp only [hb, hcon, Bool.not_true, Bool.false_or, Bool.and_eq_true, Bool.or_eq_true, Nat.blt_eq] at hp
    rcases hp.2 with ⟨h1, h2⟩ | ⟨⟨h1, h2⟩, h3⟩
    · exact .inl ⟨h1, (anc_listed hc hr.lt j o ho he aj ha2 i h2).1⟩
    · refine .inr ⟨h1, ?_, h3⟩
      cases hLi : L i
      · rfl
      · have := (anc_listed hc hr.lt i oi hi (fun e he hb => hc i oi hi hLi e he hb) ai ha1 j h2).1
        rw [hL] at this
        cases this
  refine ⟨⟨hsz, fun t e hg => ?_⟩, fun hp t e s hg hv pol => ?_⟩
  · obtain ⟨ht, hg⟩ := only_get_some hg
    rcases hr.hist t j (by omega) with ⟨i, oi, h1, h2, h3, h4⟩ | ⟨h1, h2⟩
    · rw [h4] at hg
      cases hg
      rcases hpair h2 h3 ht (by omega) with ⟨_, hLi⟩ | ⟨h, _⟩
      · exact hs.wr i oi t h2 h3 hLi
      · omega
    · rw [h2] at hg
      obtain ⟨c, c1, c2⟩ := hs.un t e hg fun i oi hi hd => by
        by_cases hij : i = j
        · rw [hij]; exact hL
        · rcases hpair hi hd ht hij with ⟨h, _⟩ | ⟨_, h, _⟩
          · exact absurd hd (h1 i oi h hi)
          · exact h
      refine ⟨c, c1, fun _ => c2, fun hn => absurd (by rw [hr.plain t e hg]; exact holds_nil _) hn⟩
  · obtain ⟨ht, hg⟩ := only_get_some hg
    have hk : (EE ops.size).get t = (EE j).get t := hr.keep (by omega) (Nat.le_refl _) fun i oi h1 h2 hi hd => by
      by_cases hij : i = j
      · subst hij
        rw [ho] at hi
        cases hi
        obtain ⟨ai, aj, ha1, ha2, hpp⟩ := hr.slots i i o o ho ho
        unfold slotPair at hpp
        rw [hd] at hpp
        have hcon : (o.looksAt ops).contains t = true := by simpa using ht
        simp only [Nat.beq_refl, hcon, hp, Bool.not_true, Bool.or_self] at hpp
        cases hpp
      · rcases hpair hi hd ht hij with ⟨h, _⟩ | ⟨_, _, h⟩
        · omega
        · rw [hp] at h; cases h
    constructor
    · rintro ⟨e', h1, h2⟩
      simp only at h1 h2
      rw [hk, hg] at h1
      cases h1
      rw [hv] at h2
      cases h2
      rfl
    · rintro rfl
      exact ⟨e, by rw [hk]; exact hg, hv⟩


theorem eff_loud {q : SRes} {o : Op} (h : Eff q) : loudOf o q = .lays ∨ loudOf o q = .writes := by
  cases hl : loudOf o q with
  | free => obtain ⟨h1, h2⟩ := loud_free hl; rcases h with h | h; exact absurd h1 h; exact absurd h2 h
  | looks => obtain ⟨h1, h2⟩ := loud_looks hl; rcases h with h | h; exact absurd h1 h; exact absurd h2 h
  | lays => exact .inl rfl
  | writes => exact .inr rfl

theorem Run.eff_of_len (hr : Run P G nt ops EE MM QQ) {i : Nat} (hi : i < ops.size) (h : (MM i).length < (MM (i + 1)).length) : Eff (QQ i) := by
  obtain ⟨o, ho⟩ := opAt hi
  rcases (hr.step i o ho).mem with ⟨e1, e2, e3⟩ | ⟨b, e1, e2, e3⟩ | ⟨e1, e2⟩
  · rw [e3] at h; omega
  · exact .inr (by rw [e1]; simp)
  · exact .inl (by rw [e2]; simp)

theorem between {MM : Nat → Mem} {x : Nat} : ∀ {k : Nat}, x < (MM k).length → x < (MM 0).length ∨ ∃ i, i < k ∧ (MM i).length ≤ x ∧ x < (MM (i + 1)).length := by
  intro k
  induction k with
  | zero => intro h; exact .inl h
  | succ k ih =>
    intro h
    rcases Nat.lt_or_ge x (MM k).length with hk | hk
    · rcases ih hk with h | ⟨i, h1, h2⟩
      · exact .inl h
      · exact .inr ⟨i, by omega, h2⟩
    · exact .inr ⟨k, by omega, hk, h⟩

theorem at_replicate (n i : Nat) : Mem.at (List.replicate n none) i = none := by
  rw [at_eq]
  rcases Nat.lt_or_ge i n with h | h
  · rw [List.getElem?_replicate_of_lt h]; rfl
  · rw [List.getElem?_eq_none (by simp; omega)]; rfl

theorem Closed.upd {L : Nat → Bool} (h : Closed ops L) {j : Nat} {o : Oper} (ho : ops[j]? = some o) (he : ∀ e ∈ o.after, Region.binds .any e = true → L e.on = true) : Closed ops (updL L j) := by
  intro i oi hi hL e hm hb
  by_cases hij : i = j
  · subst hij
    rw [ho] at hi
    cases hi
    exact updL_of (he e hm hb)
  · rw [updL_ne hij] at hL
    exact updL_of (h i oi hi hL e hm hb)

theorem put_defers (a : Act) (d : Option Nat) (v : Value) : (a.put d v).defers = a.defers := by cases d <;> rfl
theorem put_size (a : Act) (d : Option Nat) (v : Value) : (a.put d v).tmps.size = a.tmps.size := by cases d <;> simp [Act.put]

theorem Run.cur_high (hr : Run P G nt ops EE MM QQ) : ∀ {k : Nat}, k ≤ ops.size → ∀ x, (MM k).length ≤ x → cur (stAt ops EE MM QQ) MM QQ L k x = none := by
  intro k
  induction k with
  | zero =>
    intro _ x hx
    simp only [cur]
    rw [at_eq, List.getElem?_eq_none hx]
    rfl
  | succ k ih =>
    intro hk x hx
    have hlen := hr.len (i := k) (j := k + 1) (by omega) (by omega)
    have hi := ih (by omega) x (by omega)
    cases hLk : L k with
    | false => rw [cur_un hLk]; exact hi
    | true =>
      obtain ⟨o, ho⟩ := opAt (ops := ops) (j := k) (by omega)
      rcases (hr.step k o ho).mem with ⟨e1, e2, e3⟩ | ⟨b, e1, e2, e3⟩ | ⟨e1, e2⟩
      · simp only [cur, hLk, if_true, e1, e2]; exact hi
      · simp only [cur, hLk, if_true, e1, e2]
        rw [e3] at hx
        simp at hx
        rw [if_neg (by omega)]
        exact hi
      · have hnone : (MM (k + 1)).at x = none := by
          rw [at_eq, List.getElem?_eq_none hx]
          rfl
        cases hs : stAt ops EE MM QQ k with
        | none => simp only [cur, hLk, if_true, e2, hs]; exact hnone
        | some b =>
          simp only [cur, hLk, if_true, e2, hs]
          by_cases hxb : x = b
          · rw [if_pos hxb]; exact hnone
          · rw [if_neg hxb]; exact hi

theorem store_step {m : Mem} {E E' : Env} {T : Tags} (hE : ER T β nt E a.tmps) (hW : WS S w₀ β m w) {ops : Array Oper} {o : Oper} {b : Nat} (hB : stB E' o = some b) {q : SRes} (h : stepR P G ops o E m = some q) (hcs : ∀ b ∈ q.cs, b = true) :
    Region.wanted o (yielded ops a.tmps) = true ∧ ∃ w' m', q.m = some m' ∧ (execOp a.eval o).run P w = .ok .skip w' ∧ WS S w₀ β m' w' := by
  unfold stB at hB
  split at hB
  · cases hB
  rename_i hg
  split at hB
  rotate_left
  · cases hB
  rename_i t x y ho
  refine ⟨by unfold Region.wanted; rw [hg], ?_⟩
  rw [stepR_plain hg, ho] at h
  simp only [opA] at h
  cases hx : rd E [] x with
  | none => rw [hx] at h; simp at h
  | some v =>
    cases hy : rd E [] y with
    | none => rw [hx, hy] at h; simp at h
    | some u =>
      rw [hx, hy] at h
      simp only at h
      cases hs : storeA P m t v u with
      | none => rw [hs] at h; simp at h
      | some r =>
        rw [hs] at h
        obtain ⟨r1, r2, r3, r4⟩ := r
        have hcs' : ∀ b ∈ r4, b = true := by
          have hq : q.cs = r4 := by
            cases r2 <;> cases r3 <;> simp at h <;> rw [← h]
          rw [← hq]; exact hcs
        obtain ⟨w', m', h1, h1', hl, h2, h3, h4⟩ := storeA_ok (P := P) hW hs hcs' (rd_ok hE (holds_nil T) hx) (rd_ok hE (holds_nil T) hy)
        simp only at h1 h1'
        subst h1 h1'
        simp at h
        refine ⟨w', m', by rw [← h], ?_, h4⟩
        have hex : execOp a.eval o = execOp a.eval { o with op := .store t x y } := by rw [← ho]
        rw [hex]
        simp only [execOp, Sem.run_bind, h3, Result.andThen_ok, Sem.run_pure]

/-- Memory, behind a step that looks alone or does nothing to memory. -/
theorem Inv.step (hG : SoundG P G) (hr : Run P G nt ops EE MM QQ) {j : Nat} {o : Oper} (hcs : ∀ b ∈ (QQ j).cs, b = true) (h : Inv S w₀ β₀ nt ds ops EE MM QQ L a w) (ho : ops[j]? = some o) (hL : L j = false) (he : ∀ e ∈ o.after, Region.binds .any e = true → L e.on = true)
    {Q : Exit → Act → World → Prop} {K : Act → World → Prop} (hK : ∀ a' w', Inv S w₀ β₀ nt ds ops EE MM QQ (updL L j) a' w' → K a' w') : wpOp P ops Q j K a w := by
  obtain ⟨hc, hd, hsz, β, hβ, hs, hmem, hf⟩ := h
  have hj : j < ops.size := (Array.getElem?_eq_some_iff.1 ho).1
  obtain ⟨hER, hTl⟩ := hs.er hr hc hsz ho hL he
  have st := hr.step j o ho
  have st' : stepR P G ops o ((EE j).only (o.looksAt ops)) (MM j) = some (QQ j) := by
    rw [stepR_congr (E' := EE j) fun t ht => only_get ht]
    exact st.step
  have hT : (∃ c x y, o.op = .pick c x y) ∨ o.guard.isSome → Tells (tagsOf (EE ops.size)) ((EE j).only (o.looksAt ops)) := by
    intro hp
    refine hTl ?_
    unfold plainOper
    rcases hp with ⟨c, x, y, hp⟩ | hp
    · rw [hp]; rfl
    · cases hg : o.guard with
      | none => rw [hg] at hp; cases hp
      | some g => simp
  have hc' := hc.upd ho he
  -- operations before and behind
  have before5 : ∀ i oi, ops[i]? = some oi → i < j → apartM (loudOf oi.op (QQ i)) (loudOf o.op (QQ j)) = true ∨ L i = true ∨ disjM (loudOf oi.op (QQ i), refL (EE i) (MM i) (QQ i) oi) (loudOf o.op (QQ j), refW (EE j) (MM j) (QQ j) o) = true ∨ wlM (loudOf oi.op (QQ i)) (loudOf o.op (QQ j)) = true ∨ laM (loudOf oi.op (QQ i), refL (EE i) (MM i) (QQ i) oi) (stC ops o (EE j) (MM j) (QQ j)) = true := fun i oi hi hij => by
    rcases hr.apart i j oi o hi ho hij with h | ⟨anc, ha, hn⟩ | h | ⟨h, _⟩ | h
    · exact .inl h
    · exact .inr (.inl (anc_listed hc hr.lt j o ho he anc ha i hn).1)
    · exact .inr (.inr (.inl h))
    · exact .inr (.inr (.inr (.inl h)))
    · exact .inr (.inr (.inr (.inr h)))
  have behind : ∀ i oi, ops[i]? = some oi → j < i → apartM (loudOf o.op (QQ j)) (loudOf oi.op (QQ i)) = true ∨ L i = false ∨ disjM (loudOf o.op (QQ j), refL (EE j) (MM j) (QQ j) o) (loudOf oi.op (QQ i), refW (EE i) (MM i) (QQ i) oi) = true ∨ (wlM (loudOf o.op (QQ j)) (loudOf oi.op (QQ i)) = true ∧ makesA ops o (EE j) (MM j) (QQ j) = true) ∨ laM (loudOf o.op (QQ j), refL (EE j) (MM j) (QQ j) o) (stC ops oi (EE i) (MM i) (QQ i)) = true := fun i oi hi hij => by
    rcases hr.apart j i o oi ho hi hij with h | ⟨anc, ha, hn⟩ | h | h | h
    · exact .inl h
    · cases hLi : L i
      · exact .inr (.inl rfl)
      · have := (anc_listed hc hr.lt i oi hi (fun e hm hb => hc i oi hi hLi e hm hb) anc ha j hn).1
        rw [hL] at this
        cases this
    · exact .inr (.inr (.inl h))
    · exact .inr (.inr (.inr (.inl h)))
    · exact .inr (.inr (.inr (.inr h)))
  have hf' : ∀ x, β x ≠ none → x < (MM 0).length ∨ ∃ i, i < ops.size ∧ updL L j i = true ∧ (MM i).length ≤ x ∧ x < (MM (i + 1)).length := fun x hx => by
    rcases hf x hx with h | ⟨i, h1, h2, h3⟩
    · exact .inl h
    · exact .inr ⟨i, h1, updL_of h2, h3⟩
  cases hst : stAt ops EE MM QQ j with
  | some b =>
    obtain ⟨o', nb, b0, ho', hB, hmk, hb0, hrw, hQm, hMM, hkeep⟩ := hr.stF hst
    rw [ho] at ho'
    cases ho'
    obtain ⟨nb', b0', e1, e2, e3, e4, e5, e6, e7⟩ := stepR_st hB st.step
    rw [hQm] at e6
    have hbl : b < (MM j).length := at_lt hb0
    have hl : loudOf o.op (QQ j) = .writes := by
      unfold loudOf
      rw [hQm]
    have hbef : ∀ i, i < j → Eff (QQ i) → L i = true ∨ ((QQ i).m = none ∧ b ≠ (MM i).length) := fun i h1 h2 => by
      obtain ⟨oi, hoi⟩ := opAt (ops := ops) (j := i) (by omega)
      have hb5 := before5 i oi hoi h1
      rw [hl] at hb5
      rcases hb5 with h | h | h | h | h
      · rcases eff_loud (o := oi.op) h2 with e | e <;> rw [e] at h <;> cases h
      · exact .inl h
      · rcases eff_loud (o := oi.op) h2 with e | e
        · rw [e] at h; cases disj_lays.2 h
        · rw [e, disj_ww] at h; cases h
      · rw [wl_no.2.2.2.1] at h; cases h
      · obtain ⟨q1, i1, b1, q2, q3, q4⟩ := laM_ok h
        simp only at q1 q2
        rw [refL_lays q1] at q2
        cases q2
        have : stC ops o (EE j) (MM j) (QQ j) = some b := by
          have := hst
          unfold stAt at this
          rw [ho] at this
          exact this
        rw [this] at q3
        cases q3
        exact .inr ⟨(loud_lays q1).1, Ne.symm q4⟩
    have hbeh : ∀ i, j < i → i < ops.size → Eff (QQ i) → L i = false := fun i h h2 h3 => by
      obtain ⟨oi, hoi⟩ := opAt (ops := ops) (j := i) (by omega)
      have hb := behind i oi hoi h
      rw [hl] at hb
      rcases hb with h | h | h | ⟨_, h⟩ | h
      · rcases eff_loud (o := oi.op) h3 with e | e <;> rw [e] at h <;> cases h
      · exact h
      · rcases eff_loud (o := oi.op) h3 with e | e
        · rw [e, disj_lays.1] at h; cases h
        · rw [e, disj_ww] at h; cases h
      · rw [hmk] at h; cases h
      · cases (laM_ok h).1
    have hcj : cur (stAt ops EE MM QQ) MM QQ L ops.size = cur (stAt ops EE MM QQ) MM QQ L j :=
      cur_still (j := j) (by omega) fun i h1 h2 h3 => by
        rcases Nat.lt_or_ge j i with h | h
        · exact hbeh i h h2 h3
        · rw [show i = j by omega]; exact hL
    have hcb : cur (stAt ops EE MM QQ) MM QQ L ops.size b = (MM j).at b := by
      refine hr.cur_at hj hL hbl (fun i h1 h2 => ?_) (fun i h1 h2 h3 => ?_) (fun i k h1 h2 h3 h4 h5 => ?_)
      · rcases hbef i h1 h2 with h | h
        · exact .inl h
        · exact .inr (.inr h)
      · left
        refine Classical.byContradiction fun hn => ?_
        rw [hbeh i h1 h2 (.inl hn)] at h3
        cases h3
      · rcases Nat.lt_trichotomy k j with h | h | h
        · rcases hbef i (by omega) (.inl h3) with h6 | h6
          · exact h6
          · exact absurd h6.1 h3
        · rw [h, hL] at h5; cases h5
        · rw [hbeh k h h2 (.inl h4)] at h5; cases h5
    let cm : Mem := (List.range (MM ops.size).length).map (cur (stAt ops EE MM QQ) MM QQ L ops.size)
    have hcm : ∀ x, cm.at x = cur (stAt ops EE MM QQ) MM QQ L ops.size x := fun x => by
      show Mem.at ((List.range (MM ops.size).length).map (cur (stAt ops EE MM QQ) MM QQ L ops.size)) x = _
      rw [at_range]
      split
      · rfl
      · exact (hr.cur_high (Nat.le_refl _) x (by omega)).symm
    have hW : WS S w₀ β cm w := hmem cm fun i bk hi => by rw [← hcm]; exact hi
    have hnb : nb' = nb := by
      have := Option.some.inj e6
      have h1 : Mem.at ((MM j).set b (some nb)) b = some nb := by rw [at_eq, List.getElem?_set_self hbl]; rfl
      rw [this, at_eq, List.getElem?_set_self hbl] at h1
      exact Option.some.inj (Option.some.inj h1 ▸ rfl)
    subst hnb
    have hs7 := e7 cm (by rw [hcm]; exact hcb)
    rw [← stepR_congr (E := (EE j).only (o.looksAt ops)) (E' := EE j) fun t ht => only_get ht] at hs7
    have hcs' : ∀ b1 : Bool, b1 ∈ ({ QQ j with m := some (cm.set b (some nb')) } : SRes).cs → b1 = true := hcs
    obtain ⟨hwn, w', m', g1, g2, g3⟩ := store_step hER hW hB hs7 hcs'
    simp only [Option.some.injEq] at g1
    subst g1
    unfold wpOp
    rw [ho]
    simp only
    rw [if_pos hwn]
    refine .inl (Outc.skip (P := P) (o := o) (R := fun v w'' => v = undef ∧ w'' = w') g2 ⟨rfl, rfl⟩ a K Q fun v w'' hv => ?_)
    obtain ⟨hv1, hv2⟩ := hv
    subst hv1 hv2
    refine hK _ _ ⟨hc', by rw [put_defers]; exact hd, by rw [put_size]; exact hsz, β, hβ, hs.put hr hsz (BLe.refl β) ho (fun _ => by rw [e3]; exact .tup _ _ .nil) (fun _ => rfl), fun mm hmm => g3.less fun i bk hi => ?_, hf'⟩
    have := hmm i bk hi
    rw [cur_still (j := j + 1) (by omega) (fun i h1 h2 h3 => by rw [updL_ne (by omega)]; exact hbeh i (by omega) h2 h3)] at this
    simp only [cur, updL_self, if_true, hQm, hst] at this
    by_cases hx : i = b
    · rw [if_pos hx] at this
      subst hx
      rw [at_eq, List.getElem?_set_self hbl] at this
      rw [at_eq, List.getElem?_set_self (by
        have := hr.len (i := j) (j := ops.size) (by omega) (by omega)
        simp [cm]; omega)]
      exact this
    · rw [if_neg hx, cur_congr (L' := L) (fun i h => updL_ne (by omega)), ← hcj] at this
      rw [at_eq, List.getElem?_set_ne (Ne.symm hx), ← at_eq, hcm]
      exact this
  | none =>
  have before : ∀ i oi, ops[i]? = some oi → i < j → apartM (loudOf oi.op (QQ i)) (loudOf o.op (QQ j)) = true ∨ L i = true ∨ disjM (loudOf oi.op (QQ i), refL (EE i) (MM i) (QQ i) oi) (loudOf o.op (QQ j), refW (EE j) (MM j) (QQ j) o) = true ∨ wlM (loudOf oi.op (QQ i)) (loudOf o.op (QQ j)) = true := fun i oi hi hij => by
    have hn : stC ops o (EE j) (MM j) (QQ j) = none := by
      have := hst
      unfold stAt at this
      rw [ho] at this
      exact this
    rcases before5 i oi hi hij with h | h | h | h | h
    · exact .inl h
    · exact .inr (.inl h)
    · exact .inr (.inr (.inl h))
    · exact .inr (.inr (.inr h))
    · rw [hn] at h
      obtain ⟨_, _, _, _, q, _⟩ := laM_ok h
      cases q
  suffices hv : ∃ (S1 : Nat → Prop) (w1 : World) (β1 : BM) (mv : Mem), ER (tagsOf (EE ops.size)) β1 nt ((EE j).only (o.looksAt ops)) a.tmps ∧ stepR P G ops o ((EE j).only (o.looksAt ops)) mv = some (QQ j) ∧ WS S1 w1 β1 mv w ∧ ((QQ j).m ≠ none → Fresh β1 mv) ∧ ∀ v w', SAfter S1 w1 (tagsOf (EE ops.size)) β1 mv w (QQ j) v w' → Inv S w₀ β₀ nt ds ops EE MM QQ (updL L j) (a.put o.dst v) w' by
    obtain ⟨S1, w1, β1, mv, h0, h1, h2, h3, h4⟩ := hv
    unfold wpOp
    rw [ho]
    simp only
    rcases stepR_ok hG h0 h2 hT h1 h3 hcs with ⟨hw, hout⟩ | ⟨hw, hs'⟩
    · rw [if_pos hw]
      exact .inl (hout a K Q fun v w' hv => hK _ _ (h4 v w' hv))
    · rw [if_neg (by rw [hw]; exact Bool.false_ne_true)]
      exact hK _ _ (h4 undef w hs')
  by_cases hmk : loudOf o.op (QQ j) = .writes ∧ makesA ops o (EE j) (MM j) (QQ j) = true
  · obtain ⟨hl, hmk⟩ := hmk
    rw [hl] at before behind
    have hbef : ∀ i, i < j → Eff (QQ i) → L i = true := fun i h1 h2 => by
      obtain ⟨oi, hoi⟩ := opAt (ops := ops) (j := i) (by omega)
      rcases before i oi hoi h1 with h | h | h | h
      · rcases eff_loud (o := oi.op) h2 with e | e <;> rw [e] at h <;> cases h
      · exact h
      · rcases eff_loud (o := oi.op) h2 with e | e
        · rw [e] at h; cases disj_lays.2 h
        · rw [e, disj_ww] at h; cases h
      · rw [wl_no.2.2.2.1] at h; cases h
    have hbeh : ∀ i, j ≤ i → i < ops.size → L i = true → (QQ i).m = none := fun i h1 h2 h3 => by
      have hij : j < i := by
        rcases Nat.lt_or_ge j i with h | h
        · exact h
        · rw [show i = j by omega, hL] at h3; cases h3
      obtain ⟨oi, hoi⟩ := opAt (ops := ops) (j := i) h2
      cases hli : loudOf oi.op (QQ i) with
      | free => exact (loud_free hli).1
      | looks => exact (loud_looks hli).1
      | lays => exact (loud_lays hli).1
      | writes =>
        rcases behind i oi hoi hij with h | h | h | ⟨h, _⟩ | h
        · rw [hli] at h; cases h
        · rw [h] at h3; cases h3
        · rw [hli, disj_ww] at h; cases h
        · rw [hli] at h; cases h
        · cases (laM_ok h).1
    have hj0 : ∀ x, x < (MM j).length → cur (stAt ops EE MM QQ) MM QQ L ops.size x = (MM j).at x := fun x hx => by
      rw [hr.cur_ext (j := j) (by omega) (Nat.le_refl _) hbeh x hx, hr.cur_full (by omega) hbef]
    unfold makesA at hmk
    cases hm : (QQ j).m with
    | none => rw [hm] at hmk; cases hmk
    | some m' =>
    rw [hm] at hmk
    simp only [Bool.and_eq_true] at hmk
    obtain ⟨⟨k1, k2⟩, k3⟩ := hmk
    have hm1 : MM (j + 1) = m' := by
      rcases st.mem with ⟨_, e2, _⟩ | ⟨_, _, e2, _⟩ | ⟨_, e2⟩
      · rw [hm] at e2; cases e2
      · rw [hm] at e2; cases e2
      · rw [hm] at e2; exact (Option.some.inj e2).symm
    have hlen : (MM j).length ≤ m'.length := hm1 ▸ st.len
    have hW : WS S w₀ β (MM j) w := hmem _ fun i bk hi => (hj0 i (at_lt hi)).trans hi
    -- what the operation sees of memory
    let β1 : BM := fun x => if x < (MM j).length then β x else none
    have hb1 : ∀ {i be}, β1 i = some be → i < (MM j).length ∧ β i = some be := fun {i be} h => by
      simp only [β1] at h
      split at h
      · exact ⟨‹_›, h⟩
      · cases h
    have hb2 : ∀ {i}, i < (MM j).length → β1 i = β i := fun {i} h => by simp only [β1]; rw [if_pos h]
    let S1 : Nat → Prop := fun k => ∃ i bk be, (MM j).at i = some bk ∧ bk.rw = true ∧ β i = some be ∧ be.b = k
    have hW1 : WS S1 w β1 (MM j) w := by
      refine ⟨⟨fun i bk hi => ?_, fun i x bi bj ei ej hi hx hne hrw h1 h2 => hW.sim.sep i x bi bj ei ej hi hx hne hrw (hb1 h1).2 (hb1 h2).2⟩, Fr.refl _ _, fun i bk be hi hrw hb => .inl ⟨i, bk, be, hi, hrw, (hb1 hb).2, rfl⟩⟩
      obtain ⟨be, h1, h2⟩ := hW.sim.blk i bk hi
      exact ⟨be, (hb2 (at_lt hi)).trans h1, h2.flatO fun cells rw e => flatM_ok k2 i cells rw (e ▸ hi)⟩
    have hER1 : ER (tagsOf (EE ops.size)) β1 nt ((EE j).only (o.looksAt ops)) a.tmps := by
      refine ⟨hER.size, fun t e he => ?_⟩
      obtain ⟨c, h1, h2, h3⟩ := hER.get t e he
      obtain ⟨g1, g2⟩ := only_get_some he
      exact ⟨c, h1, fun hh => (h2 hh).flatO (flatSlots_ok k1 t g1 e g2), h3⟩
    refine ⟨S1, w, β1, MM j, hER1, st', hW1, fun _ x hx => (by simp only [β1]; rw [if_neg (by omega)]), fun v w' hv => ?_⟩
    unfold SAfter at hv
    rw [hm] at hv
    obtain ⟨_, ht, β', b1, b2, b3, b4⟩ := hv
    let β2 : BM := fun x => if x < m'.length then β' x else β x
    have c1 : ∀ {i}, i < m'.length → β2 i = β' i := fun {i} h => by simp only [β2]; rw [if_pos h]
    have c2 : ∀ {i}, m'.length ≤ i → β2 i = β i := fun {i} h => by simp only [β2]; rw [if_neg (by omega)]
    have hle' : BLe β' β2 := fun i be h => by
      rcases Nat.lt_or_ge i m'.length with hi | hi
      · rw [c1 hi]; exact h
      · rw [b2 i hi] at h; cases h
    have hle : BLe β β2 := fun i be h => by
      rcases Nat.lt_or_ge i m'.length with hi | hi
      · rw [c1 hi]
        rcases Nat.lt_or_ge i (MM j).length with hi2 | hi2
        · exact b1 i be ((hb2 hi2).trans h)
        · exfalso
          rcases hf i (by rw [h]; simp) with q | ⟨t, q1, q2, q3, q4⟩
          · have := hr.len (i := 0) (j := j) (by omega) (by omega); omega
          · rcases Nat.lt_trichotomy t j with q | q | q
            · have := hr.len (i := t + 1) (j := j) (by omega) (by omega); omega
            · rw [q, hL] at q2; cases q2
            · have := hr.len (i := j + 1) (j := t) (by omega) (by omega)
              rw [hm1] at this
              omega
      · rw [c2 hi]; exact h
    refine ⟨hc', by rw [put_defers]; exact hd, by rw [put_size]; exact hsz, β2, hβ.trans hle, hs.put hr hsz hle ho (fun _ => b4.mono hle') (fun hh => absurd (by rw [ht]; exact holds_nil _) hh), fun mm hmm => ?_, fun x hx => ?_⟩
    · -- memory
      have hcu := hr.cur_upd_w (L := L) hst hL hm hm1 (fun x hx => by
        rw [hr.cur_full (by omega) hbef, at_eq, List.getElem?_eq_none (by omega)]
        rfl) (k := ops.size) (by omega) (Nat.le_refl _) (fun i h1 h2 h3 => hbeh i (by omega) h2 h3)
      have hO : WS S w₀ β ((List.range (mm.length + (MM j).length)).map (cur (stAt ops EE MM QQ) MM QQ L ops.size)) w := hmem _ fun i bk hi => by
        rw [at_range] at hi
        split at hi
        · exact hi
        · cases hi
      have old : ∀ {i bk}, (MM j).at i = some bk → Mem.at ((List.range (mm.length + (MM j).length)).map (cur (stAt ops EE MM QQ) MM QQ L ops.size)) i = some bk := fun {i bk} hi => by
        have := at_lt hi
        rw [at_range, if_pos (by omega), hj0 i this]
        exact hi
      have lay : ∀ {i bk}, mm.at i = some bk → m'.length ≤ i → Mem.at ((List.range (mm.length + (MM j).length)).map (cur (stAt ops EE MM QQ) MM QQ L ops.size)) i = some bk := fun {i bk} hi hge => by
        have := hmm i bk hi
        rw [hcu, if_neg (by omega)] at this
        have := at_lt hi
        rw [at_range, if_pos (by omega)]
        assumption
      have new : ∀ {i bk}, mm.at i = some bk → i < m'.length → m'.at i = some bk := fun {i bk} hi hlt => by
        have := hmm i bk hi
        rw [hcu, if_pos hlt] at this
        exact this
      have off : ∀ {i bk be}, mm.at i = some bk → m'.length ≤ i → β i = some be → ¬ S1 be.b := fun {i bk be} hi hge hb ⟨i2, bk2, be2, q1, q2, q3, q4⟩ => by
        have := at_lt q1
        exact hO.sim.sep i2 i bk2 bk be2 be (old q1) (lay hi hge) (by omega) q2 q3 hb q4
      have inw : ∀ {i bk be}, mm.at i = some bk → m'.length ≤ i → β i = some be → be.b < w.heap.size := fun {i bk be} hi hge hb => (hO.sim.br (lay hi hge) hb).lt
      have apart2 : ∀ {i x bi bx ei ex}, mm.at i = some bi → mm.at x = some bx → m'.length ≤ i → x < m'.length → (bi.rw = true ∨ bx.rw = true) → β i = some ei → β' x = some ex → ei.b ≠ ex.b := fun {i x bi bx ei ex} hi hx h1 h2 hrw e1 e2 heq => by
        have hx' := new hx h2
        obtain ⟨g1, g2⟩ := grewM_ok k3 x bx hx'
        have hrw' : bx.rw = true → False := fun hb => by
          rcases b3.own x bx ex hx' hb e2 with h | h
          · exact off hi h1 e1 (heq ▸ h)
          · have := inw hi h1 e1
            omega
        rcases hrw with hrw | hrw
        · rcases Nat.lt_or_ge x (MM j).length with hlt | hge
          · obtain ⟨b0, hb0⟩ := g1 hlt
            obtain ⟨e0, he0, _⟩ := hW.sim.blk x b0 hb0
            have he1 : β' x = some e0 := b1 x e0 ((hb2 hlt).trans he0)
            rw [e2] at he1
            cases he1
            exact hO.sim.sep i x bi b0 ei ex (lay hi h1) (old hb0) (by omega) hrw e1 he0 heq
          · exact hrw' (g2 hge)
        · exact hrw' hrw
      have hown : ∀ {k}, S1 k → S k ∨ w₀.heap.size ≤ k := fun {k} ⟨i2, bk2, be2, q1, q2, q3, q4⟩ => q4 ▸ hW.own i2 bk2 be2 q1 q2 q3
      refine ⟨⟨fun i bk hi => ?_, fun i x bi bx ei ex hi hx hne hrw e1 e2 => ?_⟩, ?_, fun i bk be hi hrw hb => ?_⟩
      · rcases Nat.lt_or_ge i m'.length with hlt | hge
        · obtain ⟨be, h1, h2⟩ := b3.sim.blk i bk (new hi hlt)
          exact ⟨be, (c1 hlt).trans h1, h2.mono hle' rfl⟩
        · obtain ⟨be, h1, h2⟩ := hO.sim.blk i bk (lay hi hge)
          exact ⟨be, (c2 hge).trans h1, h2.mono hle (b3.fr.block _ h2.lt (off hi hge h1))⟩
      · rcases Nat.lt_or_ge i m'.length with hi1 | hi1
        · rcases Nat.lt_or_ge x m'.length with hx1 | hx1
          · exact b3.sim.sep i x bi bx ei ex (new hi hi1) (new hx hx1) hne hrw ((c1 hi1).symm.trans e1) ((c1 hx1).symm.trans e2)
          · exact (apart2 hx hi hx1 hi1 (.inr hrw) ((c2 hx1).symm.trans e2) ((c1 hi1).symm.trans e1)).symm
        · rcases Nat.lt_or_ge x m'.length with hx1 | hx1
          · exact apart2 hi hx hi1 hx1 (.inl hrw) ((c2 hi1).symm.trans e1) ((c1 hx1).symm.trans e2)
          · exact hO.sim.sep i x bi bx ei ex (lay hi hi1) (lay hx hx1) hne hrw ((c2 hi1).symm.trans e1) ((c2 hx1).symm.trans e2)
      · exact ⟨b3.fr.os.trans hW.fr.os, b3.fr.tape.trans hW.fr.tape, b3.fr.output.trans hW.fr.output, Nat.le_trans hW.fr.size b3.fr.size, fun k hk hns => by
          refine (b3.fr.block k (Nat.lt_of_lt_of_le hk hW.fr.size) fun h1 => ?_).trans (hW.fr.block k hk hns)
          rcases hown h1 with h | h
          · exact hns h
          · omega⟩
      · rcases Nat.lt_or_ge i m'.length with hlt | hge
        · rcases b3.own i bk be (new hi hlt) hrw ((c1 hlt).symm.trans hb) with h | h
          · exact hown h
          · exact .inr (Nat.le_trans hW.fr.size h)
        · exact hO.own i bk be (lay hi hge) hrw ((c2 hge).symm.trans hb)
    · rcases Nat.lt_or_ge x m'.length with hlt | hge
      · rcases between (MM := MM) (k := j + 1) (by rw [hm1]; exact hlt) with h | ⟨i, h1, h2, h3⟩
        · exact .inl h
        · refine .inr ⟨i, by omega, ?_, h2, h3⟩
          by_cases hij : i = j
          · rw [hij]; exact updL_self j
          · exact updL_of (hbef i (by omega) (hr.eff_of_len (by omega) (by omega)))
      · exact hf' x (by rw [← c2 hge]; exact hx)
  suffices hv : ∃ mv : Mem, stepR P G ops o ((EE j).only (o.looksAt ops)) mv = some (QQ j) ∧ WS S w₀ β mv w ∧ ((QQ j).m ≠ none → Fresh β mv) ∧ ∀ v w', SAfter S w₀ (tagsOf (EE ops.size)) β mv w (QQ j) v w' → Inv S w₀ β₀ nt ds ops EE MM QQ (updL L j) (a.put o.dst v) w' from
    let ⟨mv, h1, h2, h3, h4⟩ := hv
    ⟨S, w₀, β, mv, hER, h1, h2, h3, h4⟩
  have quiet : ¬ Eff (QQ j) → ∀ mv : Mem, stepR P G ops o ((EE j).only (o.looksAt ops)) mv = some (QQ j) → WS S w₀ β mv w → ∃ mv : Mem, stepR P G ops o ((EE j).only (o.looksAt ops)) mv = some (QQ j) ∧ WS S w₀ β mv w ∧ ((QQ j).m ≠ none → Fresh β mv) ∧ ∀ v w', SAfter S w₀ (tagsOf (EE ops.size)) β mv w (QQ j) v w' → Inv S w₀ β₀ nt ds ops EE MM QQ (updL L j) (a.put o.dst v) w' := by
    intro hq mv h1 h2
    have hm : (QQ j).m = none := Classical.byContradiction fun h => hq (.inl h)
    have hn : (QQ j).nw = none := Classical.byContradiction fun h => hq (.inr h)
    refine ⟨mv, h1, h2, fun h => absurd hm h, fun v w' hv => ?_⟩
    unfold SAfter at hv
    rw [hm, hn] at hv
    obtain ⟨q1, q2, q3⟩ := hv
    refine ⟨hc', by rw [put_defers]; exact hd, by rw [put_size]; exact hsz, β, hβ, hs.put hr hsz (BLe.refl β) ho q2 q3, fun m hm => ?_, hf'⟩
    rw [cur_upd_quiet hq] at hm
    exact (hmem m hm).qt q1
  cases hl : loudOf o.op (QQ j) with
  | free =>
    obtain ⟨hm, hn⟩ := loud_free hl
    refine quiet (fun hq => by rcases hq with hq | hq; exact hq hm; exact hq hn) (List.replicate (MM j).length none) (stepR_free st' hl (by simp)) (hmem _ fun i bk hi => ?_)
    rw [at_replicate] at hi
    cases hi
  | looks =>
    obtain ⟨hm, hn⟩ := loud_looks hl
    have hqj : ¬ Eff (QQ j) := fun hq => by rcases hq with hq | hq; exact hq hm; exact hq hn
    have hrl : refL (EE j) (MM j) (QQ j) o = refA (EE j) o := refL_of (by rw [hl]; intro h; cases h)
    have hrw : refW (EE j) (MM j) (QQ j) o = refA (EE j) o := (refW_of (by rw [hl]; intro h; cases h)).trans hrl
    rw [hrw] at before
    rw [hrl] at behind
    cases hrf : refA (EE j) o with
    | none =>
      rw [hl, hrf] at before behind
      refine quiet hqj (MM j) st' (hmem _ fun i bk hi => ?_)
      have hlt := at_lt hi
      rw [hr.cur_ext (j := j) (by omega) (Nat.le_refl _) (fun i h1 h2 h3 => ?_) i hlt, hr.cur_full (by omega) (fun i h1 h2 => ?_)]
      · exact hi
      · obtain ⟨oi, hoi⟩ := opAt (ops := ops) (j := i) (by omega)
        rcases before i oi hoi h1 with h | h | h | h
        · rcases eff_loud (o := oi.op) h2 with e | e <;> rw [e] at h <;> cases h
        · exact h
        · rw [disj_none.1] at h; cases h
        · rw [wl_no.1] at h; cases h
      · obtain ⟨oi, hoi⟩ := opAt (ops := ops) (j := i) (by omega)
        have hij : j < i := by
          rcases Nat.lt_or_ge j i with h | h
          · exact h
          · have : i = j := by omega
            rw [this, hL] at h3
            cases h3
        rcases behind i oi hoi hij with h | h | h | ⟨h, _⟩ | h
        · cases hli : loudOf oi.op (QQ i) with
          | free => exact (loud_free hli).1
          | looks => exact (loud_looks hli).1
          | lays => exact (loud_lays hli).1
          | writes => rw [hli] at h; cases h
        · rw [h] at h3; cases h3
        · rw [disj_none.2] at h; cases h
        · rw [wl_no.2.1] at h; cases h
        · cases (laM_ok h).1
    | some i0 =>
      rw [hl, hrf] at before behind
      have hat : Mem.at ((List.replicate (MM j).length none).set i0 ((MM j).at i0)) i0 = (MM j).at i0 := by
        rw [at_eq, List.getElem?_set_self']
        cases hmi : (MM j).at i0 with
        | none => by_cases hx : i0 < (MM j).length <;> simp [hx]
        | some bk => have := at_lt hmi; simp [this]
      obtain ⟨s1, s2⟩ := stepR_look hrf hl st.step hat
      have s3 : stepR P G ops o ((EE j).only (o.looksAt ops)) ((List.replicate (MM j).length none).set i0 ((MM j).at i0)) = some (QQ j) := by
        rw [stepR_congr (E' := EE j) fun t ht => only_get ht]
        exact s1
      have store : ∀ i oi, ops[i]? = some oi → (loudOf oi.op (QQ i), refL (EE i) (MM i) (QQ i) oi).1 = .writes ∧ (∃ b, (loudOf oi.op (QQ i), refL (EE i) (MM i) (QQ i) oi).2 = some b ∧ b ≠ i0) → (QQ i).m ≠ none ∧ ∀ m', (QQ i).m = some m' → m'.at i0 = (MM i).at i0 := by
        intro i oi hoi ⟨h1, b, h2, h3⟩
        simp only at h1 h2
        rw [refL_of (by rw [h1]; intro h; cases h)] at h2
        have sti := (hr.step i oi hoi).step
        refine ⟨fun hnone => ?_, fun m' hm' => stepR_store h2 sti hm' (.inr trivial) i0 (Ne.symm h3)⟩
        obtain ⟨hg, hc⟩ := refA_cases h2
        rcases loud_writes h1 with ⟨m1, hm1⟩ | ⟨b1, hb1⟩
        · rw [hm1] at hnone; cases hnone
        · rw [stepR_plain hg] at sti
          rcases hc with ⟨t, x, v0, ho1, hx, hv0⟩ | ⟨t, x, y, v0, ho1, hx, hv0⟩
          · have : loudOf oi.op (QQ i) = .looks := by
              rw [ho1] at sti
              simp only [opA, hx] at sti
              have hn : ∀ r, loadA P (MM i) t v0 = some r → r.nw = none := fun r hr => (loadA_q hr).2
              split at sti
              · cases sti
              · rename_i hq; rw [← Option.some.inj sti] at hb1; cases hb1
              · rename_i hq
                have := hn _ hq
                rw [← Option.some.inj sti] at hb1
                simp only at this hb1
                rw [this] at hb1
                cases hb1
            rw [this] at h1
            cases h1
          · rw [ho1] at sti
            simp only [opA, hx] at sti
            have hs : ∀ r, (match some v0, rd (EE i) [] y with
                | some v, some u => storeA P (MM i) t v u
                | _, _ => none) = some r → ∃ m', r.m = some m' := by
              intro r hr
              split at hr
              · obtain ⟨_, _, m1, e1, _⟩ := storeA_m hr; exact ⟨m1, e1⟩
              · cases hr
            split at sti
            · cases sti
            · rename_i hq; obtain ⟨m1, e1⟩ := hs _ hq; cases e1
            · rename_i hq
              obtain ⟨m1, e1⟩ := hs _ hq
              rw [← Option.some.inj sti] at hnone
              simp only at e1 hnone
              rw [e1] at hnone
              cases hnone
      refine quiet hqj _ s3 (hmem _ fun x bk hx => ?_)
      have hxi : x = i0 := by
        refine Classical.byContradiction fun hne => ?_
        rw [at_eq, List.getElem?_set_ne (Ne.symm hne), ← at_eq, at_replicate] at hx
        cases hx
      subst hxi
      rw [hat] at hx
      rw [hr.cur_at hj hL s2 (fun i h1 h2 => ?_) (fun i h1 h2 h3 => ?_) (fun i k h1 h2 h3 h4 h5 => ?_)]
      · exact hx
      · obtain ⟨oi, hoi⟩ := opAt (ops := ops) (j := i) (by omega)
        rcases before i oi hoi h1 with h | h | h | h
        · rcases eff_loud (o := oi.op) h2 with e | e <;> rw [e] at h <;> cases h
        · exact .inl h
        · obtain ⟨h6, h7⟩ := disj_looks.1 h
          rcases h6 with h6 | h6
          · exact .inr (.inl (store i oi hoi ⟨h6, h7⟩))
          · obtain ⟨b, h8, h9⟩ := h7
            simp only at h6 h8
            rw [refL_lays h6] at h8
            cases h8
            exact .inr (.inr ⟨(loud_lays h6).1, Ne.symm h9⟩)
        · rw [wl_no.1] at h; cases h
      · obtain ⟨oi, hoi⟩ := opAt (ops := ops) (j := i) (by omega)
        rcases behind i oi hoi h1 with h | h | h | ⟨h, _⟩ | h
        · left
          cases hli : loudOf oi.op (QQ i) with
          | free => exact (loud_free hli).1
          | looks => exact (loud_looks hli).1
          | lays => exact (loud_lays hli).1
          | writes => rw [hli] at h; cases h
        · rw [h] at h3; cases h3
        · obtain ⟨h6, b, h8, h9⟩ := disj_looks.2 h
          simp only at h6 h8
          rcases refW_w h6 h8 with h10 | ⟨h10, h11⟩
          · exact .inr (store i oi hoi ⟨h6, b, (refL_of (by rw [h6]; intro h; cases h)).trans h10, h9⟩)
          · rcases loud_writes h6 with ⟨m1, hm1⟩ | ⟨b1, hb1⟩
            · refine .inr ⟨by rw [hm1]; simp, fun m' hm' => ?_⟩
              have hlen := hr.len (i := j) (j := i) (by omega) (by omega)
              exact stepR_app h11 (hr.step i oi hoi).step hm' x (Ne.symm h9) (by omega)
            · cases hmm : (QQ i).m with
              | none => exact .inl rfl
              | some m1 =>
                refine .inr ⟨by simp, fun m' hm' => ?_⟩
                have hlen := hr.len (i := j) (j := i) (by omega) (by omega)
                exact stepR_app h11 (hr.step i oi hoi).step (hmm.trans hm') x (Ne.symm h9) (by omega)
        · rw [wl_no.2.1] at h; cases h
        · cases (laM_ok h).1
      · obtain ⟨oi, hoi⟩ := opAt (ops := ops) (j := i) (by omega)
        obtain ⟨ok, hok⟩ := opAt (ops := ops) (j := k) (by omega)
        have w1 : loudOf oi.op (QQ i) = .writes := by
          unfold loudOf
          cases hmm : (QQ i).m with
          | none => exact absurd hmm h3
          | some _ => rfl
        have w2 : loudOf ok.op (QQ k) = .writes := by
          unfold loudOf
          cases hmm : (QQ k).m with
          | none => exact absurd hmm h4
          | some _ => rfl
        rcases hr.apart i k oi ok hoi hok h1 with h | ⟨anc, ha, hn⟩ | h | ⟨h, _⟩ | h
        · rw [w1, w2] at h; cases h
        · exact (anc_listed hc hr.lt k ok hok (fun e hm hb => hc k ok hok h5 e hm hb) anc ha i hn).1
        · rw [w1, w2, disj_ww] at h; cases h
        · rw [w1, w2] at h; cases h
        · have := (laM_ok h).1
          simp only at this
          rw [w1] at this
          cases this
  | lays =>
    obtain ⟨hm, b, hn⟩ := loud_lays hl
    rw [hl] at before behind
    have hj0 : β (MM j).length = none := by
      refine Classical.byContradiction fun hx => ?_
      rcases hf _ hx with h | ⟨i, h1, h2, h3, h4⟩
      · have := hr.len (i := 0) (j := j) (by omega) (by omega); omega
      · rcases Nat.lt_trichotomy i j with h | h | h
        · have := hr.len (i := i + 1) (j := j) (by omega) (by omega); omega
        · rw [h, hL] at h2; cases h2
        · have h5 := hr.len (i := j + 1) (j := i) (by omega) (by omega)
          rcases st.mem with ⟨e1, e2, e3⟩ | ⟨b', e1, e2, e3⟩ | ⟨e1, e2⟩
          · rw [hn] at e1; cases e1
          · rw [e3] at h5; simp at h5; omega
          · rw [hm] at e2; cases e2
    refine ⟨List.replicate (MM j).length none, stepR_lay st' hl (by simp), hmem _ fun i bk hi => (by rw [at_replicate] at hi; cases hi), fun h => absurd hm h, fun v w' hv => ?_⟩
    unfold SAfter at hv
    rw [hm, hn] at hv
    obtain ⟨ht, cells, c, e, g1, g2, g3, g4⟩ := hv
    rw [List.length_replicate] at g4
    subst g1 g2
    have hle := BM.upd_le hj0 ⟨w.heap.size, 0, some c.size⟩
    refine ⟨hc', by rw [put_defers]; exact hd, by rw [put_size]; exact hsz, _, hβ.trans hle, hs.put hr hsz hle ho (fun _ => g4) (fun hh => absurd (by rw [ht]; exact holds_nil _) hh), fun m hmm => ?_, fun x hx => ?_⟩
    · have hcur := hr.cur_upd_lay hj hL hm hn hj (Nat.le_refl _) fun i h1 h2 h3 => by
        obtain ⟨oi, hoi⟩ := opAt (ops := ops) (j := i) (by omega)
        rcases behind i oi hoi h1 with h | h | h | ⟨h, _⟩ | h
        · left
          cases hli : loudOf oi.op (QQ i) with
          | free => exact (loud_free hli).1
          | looks => exact (loud_looks hli).1
          | lays => exact (loud_lays hli).1
          | writes => rw [hli] at h; cases h
        · rw [h] at h3; cases h3
        · exact .inl (loud_looks (disj_lays.2 h)).1
        · rw [wl_no.2.2.1] at h; cases h
        · right
          obtain ⟨_, i1, b1, q2, q3, q4⟩ := laM_ok h
          simp only at q2
          rw [refL_lays hl] at q2
          cases q2
          refine ⟨b1, ?_, Ne.symm q4⟩
          unfold stAt
          rw [hoi]
          exact q3
      have hold := hmem (m.set (MM j).length none) fun i bk hi => by
        rcases at_set hi with ⟨hne, hi⟩ | ⟨_, hx⟩
        · have := hmm i bk hi
          rw [hcur, if_neg hne] at this
          exact this
        · cases hx
      refine hold.newAt hj0 (m' := m) (fun i bk hi => ?_) e (by rw [g3.length]; simp) (fun j v hj => by simpa using g3.get hj) fun bk hi => ?_
      · by_cases hx : i = (MM j).length
        · have := hmm i bk hi
          rw [hcur, if_pos hx] at this
          cases this
          exact .inr ⟨hx, _, rfl, trivial⟩
        · left
          rw [at_eq, List.getElem?_set_ne (Ne.symm hx), ← at_eq]
          exact hi
      · have := hmm _ bk hi
        rw [hcur, if_pos rfl] at this
        cases this
        rfl
    · unfold BM.upd at hx
      split at hx
      · rename_i hxe
        refine .inr ⟨j, hj, updL_self j, by omega, ?_⟩
        rcases st.mem with ⟨e1, e2, e3⟩ | ⟨b', e1, e2, e3⟩ | ⟨e1, e2⟩
        · rw [hn] at e1; cases e1
        · rw [e3]; simp; omega
        · rw [hm] at e2; cases e2
      · exact hf' x hx
  | writes =>
    rw [hl] at before behind
    have hbef : ∀ i, i < j → Eff (QQ i) → L i = true := fun i h1 h2 => by
      obtain ⟨oi, hoi⟩ := opAt (ops := ops) (j := i) (by omega)
      rcases before i oi hoi h1 with h | h | h | h
      · rcases eff_loud (o := oi.op) h2 with e | e <;> rw [e] at h <;> cases h
      · exact h
      · rcases eff_loud (o := oi.op) h2 with e | e
        · rw [e] at h; cases disj_lays.2 h
        · rw [e, disj_ww] at h; cases h
      · rw [wl_no.2.2.2.1] at h; cases h
    have hbeh : ∀ i, j ≤ i → i < ops.size → Eff (QQ i) → L i = false := fun i h1 h2 h3 => by
      rcases Nat.lt_or_ge j i with h | h
      · obtain ⟨oi, hoi⟩ := opAt (ops := ops) (j := i) (by omega)
        rcases behind i oi hoi h with h | h | h | ⟨_, h⟩ | h
        · rcases eff_loud (o := oi.op) h3 with e | e <;> rw [e] at h <;> cases h
        · exact h
        · rcases eff_loud (o := oi.op) h3 with e | e
          · rw [e, disj_lays.1] at h; cases h
          · rw [e, disj_ww] at h; cases h
        · exact absurd ⟨hl, h⟩ hmk
        · cases (laM_ok h).1
      · rw [show i = j by omega]; exact hL
    have hW : WS S w₀ β (MM j) w := hmem _ fun i bk hi => by
      rw [cur_still (j := j) (by omega) fun i h1 h2 h3 => hbeh i h1 h2 h3, hr.cur_full (by omega) hbef]
      exact hi
    have hF : Fresh β (MM j) := fun x hx => by
      refine Classical.byContradiction fun hxn => ?_
      rcases hf x hxn with h | ⟨i, h1, h2, h3, h4⟩
      · have := hr.len (i := 0) (j := j) (by omega) (by omega); omega
      · rcases Nat.lt_or_ge i j with h | h
        · have := hr.len (i := i + 1) (j := j) (by omega) (by omega); omega
        · have := hbeh i h h1 (hr.eff_of_len h1 (by omega))
          rw [h2] at this
          cases this
    refine ⟨MM j, st', hW, fun _ => hF, fun v w' hv => ?_⟩
    have key : (QQ j).tg = [] ∧ ∃ β', BLe β β' ∧ Fresh β' (MM (j + 1)) ∧ WS S w₀ β' (MM (j + 1)) w' ∧ VR β' (QQ j).v v := by
      unfold SAfter at hv
      rcases st.mem with ⟨e1, e2, e3⟩ | ⟨b, e1, e2, e3⟩ | ⟨e1, e2⟩
      · rcases loud_writes hl with ⟨m', h⟩ | ⟨b, h⟩
        · rw [h] at e2; cases e2
        · rw [h] at e1; cases e1
      · rw [e2, e1] at hv
        obtain ⟨ht, cells, c, e, g1, g2, g3, g4⟩ := hv
        have hfl := hF (MM j).length (Nat.le_refl _)
        subst g1 g2
        rw [e3]
        exact ⟨ht, _, BM.upd_le hfl _, hF.upd, hW.new hfl e g3, g4⟩
      · rw [e2] at hv
        obtain ⟨_, ht, β', b1, b2, b3, b4⟩ := hv
        exact ⟨ht, β', b1, b2, b3, b4⟩
    obtain ⟨ht, β', b1, b2, b3, b4⟩ := key
    have heff : Eff (QQ j) := by
      rcases loud_writes hl with ⟨m', h⟩ | ⟨b, h⟩
      · exact .inl (by rw [h]; simp)
      · exact .inr (by rw [h]; simp)
    refine ⟨hc', by rw [put_defers]; exact hd, by rw [put_size]; exact hsz, β', hβ.trans b1, hs.put hr hsz b1 ho (fun _ => b4) (fun hh => absurd (by rw [ht]; exact holds_nil _) hh), fun m hmm => b3.less fun i bk hi => ?_, fun x hx => ?_⟩
    · have := hmm i bk hi
      rw [cur_still (j := j + 1) (by omega) (fun i h1 h2 h3 => by rw [updL_ne (by omega)]; exact hbeh i (by omega) h2 h3), hr.cur_full (by omega) fun i h1 h2 => ?_] at this
      · exact this
      · by_cases hij : i = j
        · rw [hij]; exact updL_self j
        · exact updL_of (hbef i (by omega) h2)
    · have hlt : x < (MM (j + 1)).length := Classical.byContradiction fun hn => hx (b2 x (by omega))
      rcases between hlt with h | ⟨i, h1, h2, h3⟩
      · exact .inl h
      · refine .inr ⟨i, by omega, ?_, h2, h3⟩
        by_cases hij : i = j
        · rw [hij]; exact updL_self j
        · exact updL_of (hbef i (by omega) (hr.eff_of_len (by omega) (by omega)))

theorem Run.uniq (hr : Run P G nt ops EE MM QQ) (hu : Uniq (EE 0)) : ∀ j, j ≤ ops.size → Uniq (EE j) := by
  intro j
  induction j with
  | zero => exact fun _ => hu
  | succ j ih =>
    intro hj
    obtain ⟨o, ho⟩ := opAt (ops := ops) (j := j) (by omega)
    exact (hr.step j o ho).uniq (ih (by omega))

/-- All of them done. -/
theorem Inv.done (hr : Run P G nt ops EE MM QQ) (hu : Uniq (EE 0)) (h : Inv S w₀ β₀ nt ds ops EE MM QQ L a w) (hall : ∀ i, i < ops.size → L i = true) : Rel S w₀ β₀ nt ds (EE ops.size) (MM ops.size) a w := by
  obtain ⟨hc, hd, hsz, β, hβ, hs, hmem, hf⟩ := h
  refine ⟨⟨β, hβ, ⟨hsz, fun t e hg => ?_⟩, hmem _ fun i bk hi => ?_, fun x hx => ?_⟩, hd, hr.uniq hu _ (Nat.le_refl _)⟩
  · rcases hr.hist t ops.size (Nat.le_refl _) with ⟨i, oi, h1, h2, h3, h4⟩ | ⟨h1, h2⟩
    · rw [h4] at hg
      cases hg
      exact hs.wr i oi t h2 h3 (hall i h1)
    · rw [h2] at hg
      obtain ⟨c, c1, c2⟩ := hs.un t e hg fun i oi hi hdd => absurd hdd (h1 i oi (Array.getElem?_eq_some_iff.1 hi).1 hi)
      exact ⟨c, c1, fun _ => c2, fun hn => absurd (by rw [hr.plain t e hg]; exact holds_nil _) hn⟩
  · rw [hr.cur_full (Nat.le_refl _) fun i h1 _ => hall i h1]
    exact hi
  · refine Classical.byContradiction fun hxn => ?_
    rcases hf x hxn with h | ⟨i, h1, h2, h3, h4⟩
    · have := hr.len (i := 0) (j := ops.size) (by omega) (by omega); omega
    · have := hr.len (i := i + 1) (j := ops.size) (by omega) (by omega); omega

theorem Inv.any (hG : SoundG P G) (hr : Run P G nt ops EE MM QQ) (hu : Uniq (EE 0)) (hcs : ∀ j o, ops[j]? = some o → ∀ b ∈ (QQ j).cs, b = true) {Q : Exit → Act → World → Prop} (hQ : ∀ a' w', Rel S w₀ β₀ nt ds (EE ops.size) (MM ops.size) a' w' → Q .normal a' w') :
    ∀ (fuel : Nat) (listed : Array Bool) (a : Act) (w : World), listed.size = ops.size → (∃ l : List Nat, l.length ≤ fuel ∧ ∀ i, i < ops.size → listed.getD i false = false → i ∈ l) → Inv S w₀ β₀ nt ds ops EE MM QQ (fun i => listed.getD i false) a w → wpAny P .any ops Q fuel listed a w := by
  have rdy : ∀ {listed : Array Bool}, listed.size = ops.size → ∀ j, j ∈ Region.ready .any ops listed → ∃ o, ops[j]? = some o ∧ listed.getD j false = false ∧ ∀ e ∈ o.after, Region.binds .any e = true → listed.getD e.on false = true := by
    intro listed hsz j hj
    obtain ⟨h0, o, ho, hall⟩ := mem_ready.1 hj
    have hlt : j < listed.size := by rw [hsz]; exact (Array.getElem?_eq_some_iff.1 ho).1
    refine ⟨o, ho, ?_, hall⟩
    simp only [Array.getD_eq_getD_getElem?, Array.getElem?_eq_getElem hlt, Option.getD_some] at h0 ⊢
    exact h0
  have full : ∀ {listed : Array Bool}, listed.size = ops.size → Region.ready .any ops listed = [] → ∀ j, j < ops.size → listed.getD j false = true := by
    intro listed hsz hr0 j
    induction j using Nat.strongRecOn with
    | _ j ih =>
      intro hj
      obtain ⟨o, ho⟩ := opAt hj
      refine Classical.byContradiction fun hn => ?_
      have hmem : j ∈ Region.ready .any ops listed := mem_ready.2 ⟨?_, o, ho, fun e he hb => ?_⟩
      · rw [hr0] at hmem; cases hmem
      · have hlt : j < listed.size := by omega
        simp only [Array.getD_eq_getD_getElem?, Array.getElem?_eq_getElem hlt, Option.getD_some] at hn ⊢
        simpa using hn
      · have := hr.lt j o ho e he hb
        exact ih e.on this (by omega)
  intro fuel
  induction fuel with
  | zero =>
    intro listed a w hsz ⟨l, hl, hmem⟩ hI
    have hl : l = [] := List.length_eq_zero_iff.1 (by omega)
    subst hl
    have hall : ∀ i, i < ops.size → listed.getD i false = true := fun i hi => by
      cases h : listed.getD i false
      · exact absurd (hmem i hi h) (by simp)
      · rfl
    refine ⟨?_, hQ _ _ (hI.done hr hu hall)⟩
    cases hrd : Region.ready .any ops listed with
    | nil => rfl
    | cons j r =>
      obtain ⟨o, ho, h1, _⟩ := rdy hsz j (by rw [hrd]; exact List.mem_cons_self ..)
      have := hall j (Array.getElem?_eq_some_iff.1 ho).1
      rw [h1] at this
      cases this
  | succ fuel ih =>
    intro listed a w hsz ⟨l, hl, hmem⟩ hI
    refine ⟨fun h0 => hQ _ _ (hI.done hr hu (full hsz h0)), fun j hj => ?_⟩
    obtain ⟨o, ho, h1, h2⟩ := rdy hsz j hj
    have hjs : j < ops.size := (Array.getElem?_eq_some_iff.1 ho).1
    refine hI.step hG hr (hcs j o ho) ho h1 h2 fun a' w' hI' => ih _ _ _ (by simp [hsz]) ?_ ?_
    · have hjl := hmem j hjs h1
      refine ⟨l.erase j, by rw [List.length_erase_of_mem hjl]; omega, fun i hi hli => ?_⟩
      by_cases hij : i = j
      · subst hij
        simp [hsz, hjs] at hli
      · rw [getD_set_ne false (Ne.symm hij)] at hli
        exact (List.mem_erase_of_ne hij).2 (hmem i hi hli)
    · have : (fun i => (listed.setIfInBounds j true).getD i false) = updL (fun i => listed.getD i false) j := by
        funext i
        by_cases hij : i = j
        · subst hij
          simp [hsz, hjs, updL]
        · rw [getD_set_ne false (Ne.symm hij), updL_ne hij]
      rw [this]
      exact hI'

theorem slotsOk_spec {ops : Array Oper} (h : slotsOk ops (ancs ops.toList []) = true) :
    (∀ j o, ops[j]? = some o → ∀ e ∈ o.after, Region.binds .any e = true → e.on < j) ∧
    (∀ i j oi oj, ops[i]? = some oi → ops[j]? = some oj → ∃ ai aj, (ancs ops.toList [])[i]? = some ai ∧ (ancs ops.toList [])[j]? = some aj ∧ slotPair ops oj aj j oi ai i = true) := by
  obtain ⟨t, h1, h2, h3⟩ := ancs_spec ops.toList []
  have hmem : ∀ j o, ops[j]? = some o → ∃ aj, (ancs ops.toList [])[j]? = some aj ∧ ((o, aj), j) ∈ (ops.toList.zip (ancs ops.toList [])).zipIdx := by
    intro j o ho
    have h4 := h3 j o (by simpa using ho)
    simp only [List.length_nil, Nat.zero_add] at h4
    refine ⟨_, h4, ?_⟩
    rw [List.mem_zipIdx_iff_getElem?, List.getElem?_zip_eq_some]
    exact ⟨by simpa using ho, h4⟩
  unfold slotsOk at h
  rw [List.all_eq_true] at h
  constructor
  · intro j o ho e he hb
    obtain ⟨aj, _, hm⟩ := hmem j o ho
    have := h _ hm
    rw [Bool.and_eq_true, List.all_eq_true] at this
    have := this.1 e (by simpa using he)
    simp only [hb, Bool.not_true, Bool.false_or, Nat.blt_eq] at this
    exact this
  · intro i j oi oj hi hj
    obtain ⟨ai, h4, hmi⟩ := hmem i oi hi
    obtain ⟨aj, h5, hmj⟩ := hmem j oj hj
    refine ⟨ai, aj, h4, h5, ?_⟩
    have := h _ hmj
    rw [Bool.and_eq_true, List.all_eq_true, List.all_eq_true] at this
    exact this.2 _ hmi

/-- A region that draws its order. -/
theorem draw_ok (hG : SoundG P G) (hm : P.follows .mixedOrders = true) {id : Nat} {ops : Array Oper} {E : Env} {m : Mem} {cs : List Bool} {R : Type} {k : Env → Mem → List Bool → Option R} {r : R} (hs : slotsOk ops (ancs ops.toList []) = true) (hp : ∀ e ∈ E, e.tg = []) (h : drawA P G nt ops ops.toList (ancs ops.toList []) [] E m cs k = some r) :
    ∃ E' m' cs', k E' m' cs' = some r ∧ (∀ b ∈ cs, b ∈ cs') ∧ ((∀ b ∈ cs', b = true) → ∀ a w (Q : Exit → Act → World → Prop), Rel S w₀ β₀ nt ds E m a w → (∀ a' w', Rel S w₀ β₀ nt ds E' m' a' w' → Q .normal a' w') → (Code.region id ops true).wp P Q a w) := by
  obtain ⟨EE, MM, QQ, cs', e1, e2, e3, e4, e5⟩ := drawA_run ops.toList h
  have hsz : ops.toList.length = ops.size := by simp
  rw [hsz] at e3
  refine ⟨_, _, cs', e3, e4, fun hall a w Q hrel hQ => ?_⟩
  obtain ⟨s1, s2⟩ := slotsOk_spec hs
  have hr : Run P G nt ops EE MM QQ := by
    refine ⟨fun j o ho => (e5 j o (by simpa using ho)).1, fun i j oi oj hi hj hij => ?_, s1, s2, fun t e he => ?_⟩
    · obtain ⟨_, _, anc, ha, hap⟩ := e5 j oj (by simpa using hj)
      rcases apartAll_get hap i ((loudOf oi.op (QQ i), refL (EE i) (MM i) (QQ i) oi), makesA ops oi (EE i) (MM i) (QQ i)) (by simp [hij, loudAt, hi]) with h | h | h | h
      · exact .inl h
      · exact .inr (.inl ⟨anc, ha, by simpa using h⟩)
      · exact .inr (.inr (.inl h))
      · exact .inr (.inr (.inr h))
    · rw [e1] at he
      exact hp e (get_mem he).1
  subst e1
  subst e2
  refine wp_region_any hm (Inv.any hG hr hrel.uniq (fun j o ho b hb => hall b ((e5 j o (by simpa using ho)).2.1 b hb)) hQ ops.size _ _ _ (by simp) ⟨List.range ops.size, by simp, fun i hi _ => by simpa using hi⟩ ?_)
  have hL : (fun i => (Array.replicate ops.size false).getD i false) = fun _ => false := by
    funext i
    by_cases hi : i < ops.size
    · simp [hi]
    · simp [hi]
  rw [hL]
  obtain ⟨⟨β, hβ, hE, hW, hF⟩, hd, hu⟩ := hrel
  refine ⟨(fun j o _ h => by cases h), hd, hE.size, β, hβ, ⟨(fun i o d _ _ h => by cases h), fun t e he _ => ?_⟩, fun mm hmm => ?_, fun x hx => ?_⟩
  · obtain ⟨c, c1, c2, _⟩ := hE.get t e he
    exact ⟨c, c1, c2 (by rw [hr.plain t e he]; exact holds_nil _)⟩
  · rw [cur_still (j := 0) (by omega) fun _ _ _ _ => rfl] at hmm
    exact (hW.drew).less hmm
  · left
    exact Classical.byContradiction fun hn => hx (hF x (by omega))

end
end Go.Sim

/-
  A closure whose both ways are brought together, memory and all.
-/
import Derived.Test.YtekilpllicggeaaSimZd
namespace Go.Sim

/-! ### A closure that keeps the better one of two lists: both ways, memory and all -/

def Blk.rwB (x : Bool) : Blk → Blk
  | .lit c rw => .lit c (rw && x)
  | .sym n k y rw => .sym n k y (rw && x)

/-- All but some blocks for reading alone. -/
def roExc (W : List Nat) : Nat → Mem → Mem
  | _, [] => []
  | i, b :: r => (match b with
    | some bk => some (bk.rwB (natMem i W))
    | none => none) :: roExc W (i + 1) r

theorem roExc_at {W : List Nat} : ∀ {M : Mem} {k i : Nat} {bk : Blk}, (roExc W k M).at i = some bk → ∃ b0, M.at i = some b0 ∧ bk = b0.rwB (natMem (k + i) W)
  | [], _, _, _, h => by simp [roExc, Mem.at] at h
  | none :: r, k, i, bk, h => by
    cases i with
    | zero => simp [roExc, Mem.at] at h
    | succ i =>
      obtain ⟨b0, h1, h2⟩ := roExc_at (M := r) (k := k + 1) (i := i) (by simpa [roExc, Mem.at] using h)
      exact ⟨b0, by simpa [Mem.at] using h1, by rw [h2, show k + 1 + i = k + (i + 1) by omega]⟩
  | some b :: r, k, i, bk, h => by
    cases i with
    | zero =>
      simp only [roExc, Mem.at, Option.some.injEq] at h
      exact ⟨b, rfl, h.symm⟩
    | succ i =>
      obtain ⟨b0, h1, h2⟩ := roExc_at (M := r) (k := k + 1) (i := i) (by simpa [roExc, Mem.at] using h)
      exact ⟨b0, by simpa [Mem.at] using h1, by rw [h2, show k + 1 + i = k + (i + 1) by omega]⟩

theorem roExc_len {W : List Nat} : ∀ {M : Mem} {k : Nat}, (roExc W k M).length = M.length
  | [], _ => rfl
  | _ :: r, k => by simp only [roExc, List.length_cons, roExc_len (M := r)]

theorem rwB_rw {b : Blk} {x : Bool} : (b.rwB x).rw = (b.rw && x) := by cases b <;> rfl

theorem BR.rwB {β : BM} {b : Blk} {be : BE} {w : World} {x : Bool} (h : BR β b be w) : BR β (b.rwB x) be w := by
  obtain ⟨c, e, fr, h1, h2, h3, h4, h5⟩ := h
  cases b <;> exact ⟨c, e, fr, h1, (fun hh => h2 (Bool.and_eq_true_iff.1 hh).1), h3, h4, h5⟩

theorem natMem_ok {j : Nat} : ∀ {l : List Nat}, natMem j l = true → j ∈ l
  | [], h => by cases h
  | a :: r, h => by
    unfold natMem at h
    split at h
    · rename_i hb; rw [Nat.eq_of_beq_eq_true hb]; exact List.mem_cons_self ..
    · exact List.mem_cons_of_mem _ (natMem_ok h)

/-- The blocks that may be written, in the world. -/
def Wr (β : BM) (b l : Nat) (q : Nat) : Prop := ∃ be, (β b = some be ∨ β l = some be) ∧ be.b = q

theorem WS.exc {S : Nat → Prop} {w₀ w : World} {β : BM} {M : Mem} {b l : Nat} (h : WS S w₀ β M w) : WS (Wr β b l) w β (roExc [b, l] 0 M) w := by
  refine ⟨⟨fun i bk hi => ?_, fun i j bi bj ei ej hi hj hij hr => ?_⟩, Fr.refl _ w, fun i bk be hi hr hb => ?_⟩
  · obtain ⟨b0, h1, rfl⟩ := roExc_at hi
    obtain ⟨be, h2, h3⟩ := h.sim.blk i b0 h1
    exact ⟨be, h2, h3.rwB⟩
  · obtain ⟨b1, h1, rfl⟩ := roExc_at hi
    obtain ⟨b2, h2, rfl⟩ := roExc_at hj
    rw [rwB_rw, Bool.and_eq_true_iff] at hr
    exact h.sim.sep i j b1 b2 ei ej h1 h2 hij hr.1
  · obtain ⟨b1, h1, rfl⟩ := roExc_at hi
    rw [rwB_rw, Bool.and_eq_true_iff, Nat.zero_add] at hr
    have := natMem_ok hr.2
    rcases List.mem_cons.1 this with rfl | this
    · exact .inl ⟨be, .inl hb, rfl⟩
    · rw [List.mem_singleton.1 this] at hb
      exact .inl ⟨be, .inr hb, rfl⟩

def joinM (M : Mem) (b l i j : Nat) (k : FloatKind) (z m : Nat) (cm : List AV) : Mem :=
  ((((M.set b (some (.lit [.slc M.length 0 m 1] true))).set l (some (.lit [.flt k z] true))).set i none).set j none) ++ [some (.lit cm true)]

theorem joinM_len (M : Mem) (b l i j : Nat) (k : FloatKind) (z m : Nat) (cm : List AV) : (joinM M b l i j k z m cm).length = M.length + 1 := by
  unfold joinM
  simp

theorem joinM_at {M : Mem} {b l i j : Nat} {k : FloatKind} {z m : Nat} {cm : List AV} {q : Nat} {bk : Blk} (h : (joinM M b l i j k z m cm).at q = some bk) :
    (q < M.length ∧ q ≠ b ∧ q ≠ l ∧ q ≠ i ∧ q ≠ j ∧ M.at q = some bk) ∨ (q = b ∧ q < M.length ∧ bk = .lit [.slc M.length 0 m 1] true ∧ q ≠ l ∧ q ≠ i ∧ q ≠ j) ∨ (q = l ∧ q < M.length ∧ bk = .lit [.flt k z] true ∧ q ≠ i ∧ q ≠ j) ∨ (q = M.length ∧ bk = .lit cm true) := by
  unfold joinM at h
  by_cases hq : q < M.length
  · rw [at_eq, List.getElem?_append_left (by simpa using hq), ← at_eq] at h
    rcases at_set h with ⟨n1, h⟩ | ⟨_, h⟩
    rotate_left
    · cases h
    rcases at_set h with ⟨n2, h⟩ | ⟨_, h⟩
    rotate_left
    · cases h
    rcases at_set h with ⟨n3, h⟩ | ⟨e, h⟩
    rotate_left
    · cases h; exact .inr (.inr (.inl ⟨e, hq, rfl, n2, n1⟩))
    rcases at_set h with ⟨n4, h⟩ | ⟨e, h⟩
    rotate_left
    · cases h; exact .inr (.inl ⟨e, hq, rfl, n3, n2, n1⟩)
    exact .inl ⟨hq, n4, n3, n2, n1, h⟩
  · have hl : (((((M.set b (some (.lit [.slc M.length 0 m 1] true))).set l (some (.lit [.flt k z] true))).set i none).set j none)).length = M.length := by simp
    rw [at_eq, List.getElem?_append_right (by omega), hl] at h
    cases hd : q - M.length with
    | zero =>
      rw [hd] at h
      simp only [List.getElem?_cons_zero, Option.join_some, Option.some.injEq] at h
      exact .inr (.inr (.inr ⟨by omega, h.symm⟩))
    | succ n => rw [hd] at h; simp at h

/-- One way of it. -/
theorem way_ok {S : Nat → Prop} {w₀ w w' : World} {β β' : BM} {M M1 : Mem} {b l i j e m : Nat} {k : FloatKind} {z : Nat} {cm ce cb cl : List AV}
    (hW : WS S w₀ β M w) (hF : Fresh β M) (b1 : BLe β β') (b3 : WS (Wr β b l) w β' M1 w')
    (hb1 : M1.at b = some (.lit [.slc e 0 m 1] true)) (hl1 : M1.at l = some (.lit [.flt k z] true))
    (hMb : M.at b = some (.lit cb true)) (hMl : M.at l = some (.lit cl true)) (hMe : M.at e = some (.lit ce true))
    (hbl : b ≠ l) (hij : e = i ∨ e = j) (heb : e ≠ b) (hel : e ≠ l)
    (hz : cm.length = ce.length ∧ ∀ (t : Nat) (v : AV), cm[t]? = some v → ∃ v0, ce[t]? = some v0 ∧ ∀ (β1 β2 : BM) cv, SR β1 v0 cv → SR β2 v cv) :
    ∃ β'', BLe β β'' ∧ Fresh β'' (joinM M b l i j k z m cm) ∧ WS S w₀ β'' (joinM M b l i j k z m cm) w' := by
  have hlt : ∀ {q : Nat} {be : BE}, β q = some be → q < M.length := fun {q be} hi => by
    rcases Nat.lt_or_ge q M.length with h | h
    · exact h
    · rw [hF q h] at hi; cases hi
  obtain ⟨eb, xb, yb⟩ := hW.sim.blk b _ hMb
  obtain ⟨el, xl, yl⟩ := hW.sim.blk l _ hMl
  obtain ⟨ee, xe, ye⟩ := hW.sim.blk e _ hMe
  let β'' : BM := fun q => if q < M.length then β q else if q = M.length then some ee else none
  have hlow : ∀ {q : Nat}, q < M.length → β'' q = β q := fun {q} hq => by
    show (if q < M.length then β q else _) = _
    rw [if_pos hq]
  have htop : β'' M.length = some ee := by
    show (if M.length < M.length then _ else if M.length = M.length then some ee else none) = _
    rw [if_neg (Nat.lt_irrefl _), if_pos rfl]
  have hle : BLe β β'' := fun q be hq => (hlow (hlt hq)).trans hq
  -- what is not written stays
  have hkeep : ∀ {q : Nat} {bk : Blk} {be : BE}, M.at q = some bk → β q = some be → q ≠ b → q ≠ l → w'.heap[be.b]? = w.heap[be.b]? := by
    intro q bk be hq hb nb nl
    refine b3.fr.block be.b (hW.sim.br hq hb).lt ?_
    rintro ⟨be2, hh, he⟩
    rcases hh with hh | hh
    · exact hW.sim.sep b q _ bk be2 be hMb hq (Ne.symm nb) rfl hh hb he
    · exact hW.sim.sep l q _ bk be2 be hMl hq (Ne.symm nl) rfl hh hb he
  -- where each block was
  have horig : ∀ {q : Nat} {bk : Blk} {be : BE}, (joinM M b l i j k z m cm).at q = some bk → β'' q = some be → ∃ q0 b0, M.at q0 = some b0 ∧ β q0 = some be ∧ (bk.rw = true → b0.rw = true) ∧ (q0 = q ∧ q ≠ e ∧ q < M.length ∨ q0 = e ∧ q = M.length) := by
    intro q bk be hq hb
    rcases joinM_at hq with ⟨h1, h2, h3, h4, h5, h6⟩ | ⟨h1, h2, h3, _, _, _⟩ | ⟨h1, h2, h3, _, _⟩ | ⟨h1, h2⟩
    · refine ⟨q, bk, h6, (hlow h1) ▸ hb, id, .inl ⟨rfl, ?_, h1⟩⟩
      rcases hij with hh | hh <;> rw [hh] <;> assumption
    · subst h1; exact ⟨q, _, hMb, (hlow h2) ▸ hb, fun _ => rfl, .inl ⟨rfl, Ne.symm heb, h2⟩⟩
    · subst h1; exact ⟨q, _, hMl, (hlow h2) ▸ hb, fun _ => rfl, .inl ⟨rfl, Ne.symm hel, h2⟩⟩
    · subst h1; rw [htop] at hb; cases hb; exact ⟨e, _, hMe, xe, fun _ => rfl, .inr ⟨rfl, rfl⟩⟩
  refine ⟨β'', hle, fun q hq => ?_, ⟨fun q bk hq => ?_, fun q1 q2 k1 k2 e1 e2 h1 h2 hne hr he1 he2 => ?_⟩, ?_, fun q bk be hq hr hb => ?_⟩
  · rw [joinM_len] at hq
    show (if q < M.length then _ else if q = M.length then _ else none) = none
    rw [if_neg (by omega), if_neg (by omega)]
  · rcases joinM_at hq with ⟨h1, h2, h3, h4, h5, h6⟩ | ⟨h1, h2, h3, _, _, _⟩ | ⟨h1, h2, h3, _, _⟩ | ⟨h1, h2⟩
    · obtain ⟨be, g1, g2⟩ := hW.sim.blk q bk h6
      exact ⟨be, hle _ _ g1, g2.mono hle (hkeep h6 g1 h2 h3)⟩
    · subst h1 h3
      obtain ⟨be, g1, c, e0, fr, g3, g4, g5, g6, g7⟩ := b3.sim.blk q _ hb1
      have hbe : be = eb := by have := b1 _ _ xb; rw [g1] at this; cases this; rfl
      subst hbe
      refine ⟨be, hle _ _ xb, c, e0, fr, g3, g4, g5, g6, fun t v ht => ?_⟩
      cases t with
      | succ t => simp at ht
      | zero =>
        simp only [List.getElem?_cons_zero, Option.some.injEq] at ht
        subst ht
        obtain ⟨cv, r1, r2⟩ := g7 0 _ rfl
        refine ⟨cv, r1, ?_⟩
        cases r2 with | slc _ _ _ _ be2 cap q0 q1 q2 =>
        have : be2 = ee := by have := b1 _ _ xe; rw [q0] at this; cases this; rfl
        subst this
        exact .slc _ _ _ _ be2 cap htop q1 q2
    · subst h1 h3
      obtain ⟨be, g1, c, e0, fr, g3, g4, g5, g6, g7⟩ := b3.sim.blk q _ hl1
      have hbe : be = el := by have := b1 _ _ xl; rw [g1] at this; cases this; rfl
      subst hbe
      refine ⟨be, hle _ _ xl, c, e0, fr, g3, g4, g5, g6, fun t v ht => ?_⟩
      cases t with
      | succ t => simp at ht
      | zero =>
        simp only [List.getElem?_cons_zero, Option.some.injEq] at ht
        subst ht
        obtain ⟨cv, r1, r2⟩ := g7 0 _ rfl
        exact ⟨cv, r1, r2.flat rfl⟩
    · subst h1 h2
      obtain ⟨c, e0, fr, g3, g4, g5, g6, g7⟩ := ye
      have hlen : (Blk.lit cm true).len = (Blk.lit ce true).len := hz.1
      refine ⟨ee, htop, c, e0, fr, (hkeep hMe xe heb hel).trans g3, g4, fun n hn => by rw [hlen]; exact g5 n hn, by rw [hlen]; exact g6, fun t v ht => ?_⟩
      obtain ⟨v0, r1, r2⟩ := hz.2 t v ht
      obtain ⟨cv, r3, r4⟩ := g7 t v0 r1
      exact ⟨cv, r3, r2 _ _ _ r4⟩
  · obtain ⟨p1, c1, o1, o2, o3, o4⟩ := horig h1 he1
    obtain ⟨p2, c2, o5, o6, o7, o8⟩ := horig h2 he2
    refine hW.sim.sep p1 p2 c1 c2 e1 e2 o1 o5 ?_ (o3 hr) o2 o6
    rcases o4 with ⟨rfl, n1, n2⟩ | ⟨rfl, n1⟩ <;> rcases o8 with ⟨rfl, n3, n4⟩ | ⟨rfl, n3⟩
    · exact hne
    · exact n1
    · exact Ne.symm n3
    · exact absurd (n1.trans n3.symm) hne
  · refine ⟨b3.fr.os.trans hW.fr.os, b3.fr.tape.trans hW.fr.tape, b3.fr.output.trans hW.fr.output, Nat.le_trans hW.fr.size b3.fr.size, fun q hq hs => ?_⟩
    rw [b3.fr.block q (Nat.lt_of_lt_of_le hq hW.fr.size) ?_]
    · exact hW.fr.block q hq hs
    · rintro ⟨be, hh, rfl⟩
      rcases hh with hh | hh
      · rcases hW.own b _ be hMb rfl hh with ho | ho
        · exact hs ho
        · omega
      · rcases hW.own l _ be hMl rfl hh with ho | ho
        · exact hs ho
        · omega
  · obtain ⟨p1, c1, o1, o2, o3, _⟩ := horig hq hb
    exact hW.own p1 c1 be o1 (o3 hr) o2

/-- Two lists of numbers, told apart by a test. -/
def zipI (c : Bool) : List AV → List AV → Option (List AV)
  | [], [] => some []
  | a :: r, b :: r' => match zipI c r r' with
    | none => none
    | some l => match a, b with
      | .int k x, .int k' y => match decide (k = k'), decide (x = y) with
        | true, true => some (.int k x :: l)
        | true, false => some (.sint k (bif c then x else y) :: l)
        | _, _ => none
      | .int k x, .sint k' y | .sint k x, .int k' y | .sint k x, .sint k' y => match decide (k = k') with
        | true => some (.sint k (bif c then x else y) :: l)
        | false => none
      | _, _ => none
  | _, _ => none

def OneOf (v0 v : AV) : Prop := ∀ (β1 β2 : BM) cv, SR β1 v0 cv → SR β2 v cv

theorem oneI {k : IntKind} {x : Int} : OneOf (.int k x) (.int k x) := fun _ _ _ h => by cases h with | int _ _ h => exact .int _ _ h
theorem oneIs {k : IntKind} {x : Int} : OneOf (.int k x) (.sint k x) := fun _ _ _ h => by cases h with | int _ _ h => exact .sint _ _ h
theorem oneS {k : IntKind} {x : Int} : OneOf (.sint k x) (.sint k x) := fun _ _ _ h => by cases h with | sint _ _ h => exact .sint _ _ h

theorem zipI_ok {c : Bool} : ∀ {a b l : List AV}, zipI c a b = some l → (l.length = a.length ∧ l.length = b.length) ∧ ∀ (t : Nat) (v : AV), l[t]? = some v → (c = true → ∃ v0, a[t]? = some v0 ∧ OneOf v0 v) ∧ (c = false → ∃ v0, b[t]? = some v0 ∧ OneOf v0 v)
  | [], [], l, h => by cases h; exact ⟨⟨rfl, rfl⟩, fun t v ht => by simp at ht⟩
  | [], _ :: _, _, h => by cases h
  | _ :: _, [], _, h => by cases h
  | a :: r, b :: r', l, h => by
    unfold zipI at h
    split at h
    · cases h
    rename_i l' hl
    obtain ⟨⟨i1, i2⟩, i3⟩ := zipI_ok hl
    have key : ∀ {u : AV}, (c = true → OneOf a u) → (c = false → OneOf b u) → some (u :: l') = some l → ((l.length = (a :: r).length ∧ l.length = (b :: r').length) ∧ ∀ (t : Nat) (v : AV), l[t]? = some v → (c = true → ∃ v0, (a :: r)[t]? = some v0 ∧ OneOf v0 v) ∧ (c = false → ∃ v0, (b :: r')[t]? = some v0 ∧ OneOf v0 v)) := by
      intro u h1 h2 he
      cases he
      refine ⟨⟨by simp [i1], by simp [i2]⟩, fun t v ht => ?_⟩
      cases t with
      | zero =>
        simp only [List.getElem?_cons_zero, Option.some.injEq] at ht
        subst ht
        exact ⟨fun hc => ⟨a, rfl, h1 hc⟩, fun hc => ⟨b, rfl, h2 hc⟩⟩
      | succ t => simpa using i3 t v (by simpa using ht)
    split at h
    · split at h
      · rename_i e1 e2
        have e1 := of_decide_eq_true e1; have e2 := of_decide_eq_true e2
        subst e1 e2
        exact key (fun _ => oneI) (fun _ => oneI) h
      · rename_i e1 e2
        have e1 := of_decide_eq_true e1
        subst e1
        exact key (fun hc => by subst hc; exact oneIs) (fun hc => by subst hc; exact oneIs) h
      · cases h
    · split at h
      · rename_i e1
        have e1 := of_decide_eq_true e1
        subst e1
        exact key (fun hc => by subst hc; exact oneIs) (fun hc => by subst hc; exact oneS) h
      · cases h
    · split at h
      · rename_i e1
        have e1 := of_decide_eq_true e1
        subst e1
        exact key (fun hc => by subst hc; exact oneS) (fun hc => by subst hc; exact oneIs) h
      · cases h
    · split at h
      · rename_i e1
        have e1 := of_decide_eq_true e1
        subst e1
        exact key (fun hc => by subst hc; exact oneS) (fun hc => by subst hc; exact oneS) h
      · cases h
    · cases h

def joinChk (b l i j i1 j1 m m1 m2 m3 : Nat) (k k2 : FloatKind) : Bool :=
  Nat.beq i1 i && Nat.beq j1 j && Nat.beq m1 m && Nat.beq m2 m && Nat.beq m3 m && decide (k = k2) && !Nat.beq i b && !Nat.beq i l && !Nat.beq j b && !Nat.beq j l && !Nat.beq b l

/-- A closure handed a list, over cells of a function, of the best list so far and of its value: it keeps the new list where a test says so. -/
def joinW (P : Program) (n f : Nat) (G : Summ) : Summ := addG f (fun xs M => match xs with
  | [.slc i 0 m 1, .ptr a 0, .ptr b 0, .ptr l 0] => match M.at b with
    | some (.lit [.slc j 0 m3 1] true) => match bodyD P G n [true] f [.slc i 0 m 1, .ptr a 0, .ptr b 0, .ptr l 0] (roExc [b, l] 0 M), bodyD P G n [false] f [.slc i 0 m 1, .ptr a 0, .ptr b 0, .ptr l 0] (roExc [b, l] 0 M) with
      | some (.tup [], M1, [c]), some (.tup [], M2, [d]) => match M1.at b, M2.at b, M1.at l, M2.at l, M.at l with
        | some (.lit [.slc i1 0 m1 1] true), some (.lit [.slc j1 0 m2 1] true), some (.lit [.flt k x] true), some (.lit [.flt k2 y] true), some (.lit _ true) => match M.at i, M.at j with
          | some (.lit ci true), some (.lit cj true) => match joinChk b l i j i1 j1 m m1 m2 m3 k k2, zipI c ci cj with
            | true, some cm => forceK (joinM M b l i j k (bif c then x else y) m cm) fun M' => some { v := .tup [], m := some M', cs := [c || d] }
            | _, _ => none
          | _, _ => none
        | _, _, _, _, _ => none
      | _, _ => none
    | some (.lit [.snil] true) => match bodyD P G n [] f [.slc i 0 m 1, .ptr a 0, .ptr b 0, .ptr l 0] M with
      | none => none
      | some (v, M', cs) => some { v := v, m := some M', cs := cs }
    | _ => none
  | _ => none) G

theorem SoundG.joinW {P : Program} {G : Summ} (hG : SoundG P G) (hm : P.follows .mixedOrders = true) {n f : Nat} (hc : Entered P f) : SoundG P (joinW P n f G) := by
  refine hG.add fun xs M r hr hcs S w₀ β w cargs hW hfr hv => ?_
  split at hr
  rotate_left
  · cases hr
  rename_i i m a b l
  split at hr
  · rename_i j m3 hMb
    split at hr
    rotate_left
    · cases hr
    rename_i M1 c M2 d hd1 hd2
    split at hr
    rotate_left
    · cases hr
    rename_i i1 m1 j1 m2 k x k2 y cl hb1 hb2 hl1 hl2 hMl
    split at hr
    rotate_left
    · cases hr
    rename_i ci cj hMi hMj
    split at hr
    rotate_left
    · cases hr
    rename_i cm hchk hzip
    rw [forceK_eq] at hr
    cases hr
    have hF := hfr (by simp)
    simp only [joinChk, Bool.and_eq_true, Bool.not_eq_true', decide_eq_true_eq] at hchk
    obtain ⟨⟨⟨⟨⟨⟨⟨⟨⟨⟨q1, q2⟩, q3⟩, q4⟩, q5⟩, q6⟩, q7⟩, q8⟩, q9⟩, q10⟩, q11⟩ := hchk
    have q1 := Nat.eq_of_beq_eq_true q1
    have q2 := Nat.eq_of_beq_eq_true q2
    have q3 := Nat.eq_of_beq_eq_true q3
    have q4 := Nat.eq_of_beq_eq_true q4
    have q5 := Nat.eq_of_beq_eq_true q5
    subst q1 q2 q3 q4 q5 q6
    have ne : ∀ {p q : Nat}, Nat.beq p q = false → p ≠ q := fun {p q} h e => by rw [e, Nat.beq_refl] at h; cases h
    have hcd : (c || d) = true := hcs _ (List.mem_cons_self ..)
    obtain ⟨z1, z2⟩ := zipI_ok hzip
    have hFe : Fresh β (roExc [b, l] 0 M) := fun q hq => hF q (by rw [roExc_len] at hq; exact hq)
    unfold CallOk
    simp only
    refine .inl ⟨f, hc _ _, ?_⟩
    cases c with
    | true =>
      refine (bodyD_ok hG hm hd1 (fun q hq => by rw [List.mem_singleton.1 hq]) hW.exc hFe hv).mono fun e w' he => ?_
      obtain ⟨cv, e1, β', b1, b2, b3, b4⟩ := he
      obtain ⟨β'', g1, g2, g3⟩ := way_ok (i := i1) (j := j1) (e := i1) (cm := cm) (ce := ci) hW hF b1 b3 hb1 hl1 hMb hMl hMi (ne q11) (.inl rfl) (ne q7) (ne q8) ⟨z1.1, fun t v ht => (z2 t v ht).1 rfl⟩
      exact ⟨cv, e1, β'', g1, g2, g3, b4.flat rfl⟩
    | false =>
      refine (bodyD_ok hG hm hd2 (fun q hq => by rw [List.mem_singleton.1 hq]; exact hcd) hW.exc hFe hv).mono fun e w' he => ?_
      obtain ⟨cv, e1, β', b1, b2, b3, b4⟩ := he
      obtain ⟨β'', g1, g2, g3⟩ := way_ok (i := i1) (j := j1) (e := j1) (cm := cm) (ce := cj) hW hF b1 b3 hb2 hl2 hMb hMl hMj (ne q11) (.inr rfl) (ne q9) (ne q10) ⟨z1.2, fun t v ht => (z2 t v ht).2 rfl⟩
      exact ⟨cv, e1, β'', g1, g2, g3, b4.flat rfl⟩
  · split at hr
    · cases hr
    · rename_i v M' cs hb
      cases hr
      unfold CallOk
      simp only
      exact .inl ⟨f, hc _ _, bodyD_ok hG hm hb hcs hW (hfr (by simp)) hv⟩
  · cases hr

end Go.Sim

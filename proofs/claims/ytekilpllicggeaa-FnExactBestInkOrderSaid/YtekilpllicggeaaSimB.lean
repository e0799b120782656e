/-
  The abstract machine's values and memory against the model's worlds.
-/
import Derived.Test.YtekilpllicggeaaSimA
namespace Go.Sim

/-! ### Lists -/

section
variable {α : Type} {R : Type}

theorem forceK_eq (l : List α) (k : List α → Option R) : forceK l k = k l := by
  induction l generalizing k with
  | nil => rfl
  | cons a r ih => simp only [forceK, ih]

theorem setK_eq (l : List α) (n : Nat) (v : α) (k : List α → Option R) : setK l n v k = k (l.set n v) := by
  induction l generalizing n k with
  | nil => rfl
  | cons a r ih => cases n <;> simp [setK, ih]

theorem appendK_eq (l ys : List α) (k : List α → Option R) : appendK l ys k = k (l ++ ys) := by
  induction l generalizing k with
  | nil => rfl
  | cons a r ih => simp only [appendK, ih, List.cons_append]

theorem sliceL_spec (l : List α) (o n : Nat) (x : List α) (h : sliceL l o n = some x) : x.length = n ∧ ∀ j, j < n → x[j]? = l[o + j]? := by
  induction l generalizing o n x with
  | nil =>
    cases o <;> cases n <;> simp [sliceL] at h
    subst h; simp
  | cons a r ih =>
    cases o with
    | zero =>
      cases n with
      | zero => simp [sliceL] at h; subst h; simp
      | succ n =>
        simp only [sliceL] at h
        cases hs : sliceL r 0 n with
        | none => simp [hs] at h
        | some y =>
          simp only [hs, Option.some.injEq] at h
          subst h
          obtain ⟨h1, h2⟩ := ih 0 n y hs
          refine ⟨by simp [h1], fun j hj => ?_⟩
          cases j with
          | zero => simp
          | succ j => simpa using h2 j (by omega)
    | succ o =>
      have h' : sliceL r o n = some x := by cases n <;> simpa [sliceL] using h
      obtain ⟨h1, h2⟩ := ih o n x h'
      refine ⟨h1, fun j hj => ?_⟩
      rw [h2 j hj, show o + 1 + j = (o + j) + 1 by omega]
      simp

/-- What a slice of a list has, the list has. -/
theorem sliceL_get {l : List α} {o n : Nat} {x : List α} (h : sliceL l o n = some x) {j : Nat} {v : α} (hj : x[j]? = some v) : l[o + j]? = some v := by
  obtain ⟨h1, h2⟩ := sliceL_spec l o n x h
  have : j < n := by
    rw [← h1]
    exact (List.getElem?_eq_some_iff.1 hj).1
  rw [← h2 j this, hj]

theorem pasteL_spec (l : List α) (o : Nat) (vs x : List α) (h : pasteL l o vs = some x) : o + vs.length ≤ l.length ∧ x.length = l.length ∧ x = l.take o ++ vs ++ l.drop (o + vs.length) := by
  induction l generalizing o vs x with
  | nil =>
    cases o <;> cases vs <;> simp [pasteL] at h
    subst h; simp
  | cons a r ih =>
    cases o with
    | zero =>
      cases vs with
      | nil => simp [pasteL] at h; subst h; simp
      | cons v vs =>
        simp only [pasteL] at h
        cases hs : pasteL r 0 vs with
        | none => simp [hs] at h
        | some y =>
          simp only [hs, Option.some.injEq] at h
          subst h
          obtain ⟨h1, h2, h3⟩ := ih 0 vs y hs
          refine ⟨by simp at h1 ⊢; omega, by simp [h2], ?_⟩
          simp at h3 ⊢
          rw [h3]
    | succ o =>
      simp only [pasteL] at h
      cases hs : pasteL r o vs with
      | none => simp [hs] at h
      | some y =>
        simp only [hs, Option.some.injEq] at h
        subst h
        obtain ⟨h1, h2, h3⟩ := ih o vs y hs
        refine ⟨by simp at h1 ⊢; omega, by simp [h2], ?_⟩
        rw [h3]
        simp [show o + 1 + vs.length = o + vs.length + 1 by omega]

/-- What stands at a place behind a paste: of what was laid, or of what was there. -/
theorem pasteL_get {l : List α} {o : Nat} {vs x : List α} (h : pasteL l o vs = some x) (j : Nat) : x[j]? = if o ≤ j ∧ j < o + vs.length then vs[j - o]? else l[j]? := by
  obtain ⟨h1, h2, h3⟩ := pasteL_spec l o vs x h
  rw [h3]
  by_cases hj : j < o
  · rw [if_neg (by omega), List.append_assoc, List.getElem?_append_left (by simp; omega)]
    simp [hj]
  · by_cases hk : j < o + vs.length
    · rw [if_pos ⟨by omega, hk⟩, List.append_assoc, List.getElem?_append_right (by simp; omega), List.getElem?_append_left (by simp; omega)]
      simp [Nat.min_eq_left (show o ≤ l.length by omega)]
    · rw [if_neg (by omega), List.getElem?_append_right (by simp; omega)]
      simp only [List.length_append, List.length_take, List.getElem?_drop]
      congr 1
      have : min o l.length = o := by omega
      omega

theorem at_eq (m : Mem) (i : Nat) : m.at i = (m[i]?).join := by
  induction m generalizing i with
  | nil => simp [Mem.at]
  | cons b r ih => cases i <;> simp [Mem.at, ih]

end

/-! ### Values -/

/-- Where an abstract block lies: its block, its first cell; of one of the call's own, how many cells it has from there on. -/
structure BE where
  b : Nat
  base : Nat
  row : Option Nat

abbrev BM := Nat → Option BE

/-- More blocks. -/
def BLe (β β' : BM) : Prop := ∀ i be, β i = some be → β' i = some be

theorem BLe.refl (β : BM) : BLe β β := fun _ _ h => h
theorem BLe.trans {β β' β'' : BM} (h : BLe β β') (h' : BLe β' β'') : BLe β β'' := fun i be hi => h' i be (h i be hi)

/-- One block more. -/
def BM.upd (β : BM) (j : Nat) (b : BE) : BM := fun i => if i = j then some b else β i

theorem BM.upd_self (β : BM) (j : Nat) (b : BE) : (β.upd j b) j = some b := by simp [BM.upd]
theorem BM.upd_le {β : BM} {j : Nat} (h : β j = none) (b : BE) : BLe β (β.upd j b) := by
  intro i be hi
  unfold BM.upd
  split
  · rename_i e; subst e; rw [h] at hi; cases hi
  · exact hi
theorem BM.upd_cases {β : BM} {j i : Nat} {b be : BE} (h : (β.upd j b) i = some be) : (i = j ∧ be = b) ∨ (i ≠ j ∧ β i = some be) := by
  unfold BM.upd at h
  split at h
  · rename_i e; cases h; exact .inl ⟨e, rfl⟩
  · rename_i e; exact .inr ⟨e, h⟩

mutual
inductive SR (β : BM) : AV → Value → Prop
  | bool (b) : SR β (.bool b) (.bool b)
  | sbool (b) : SR β (.sbool b) (.bool b)
  | int (k n) : inI k n = true → SR β (.int k n) (.int k n)
  | sint (k n) : inI k n = true → SR β (.sint k n) (.int k n)
  | flt (k x b) : x = canon k b → fltB k x = true → SR β (.flt k x) (.float k b)
  | str (s) : SR β (.str s) (.string s)
  | pnil : SR β .pnil (.pointer none)
  | ptr (i off be) : β i = some be → SR β (.ptr i off) (.pointer (some ⟨be.b, be.base + off, none⟩))
  | sptr (i off n es : Nat) (z : Int) (be : BE) : β i = some be → 0 ≤ z → z < n → SR β (.sptr i off n es z) (.pointer (some ⟨be.b, be.base + (off + z.toNat * es), none⟩))
  | snil : SR β .snil (.slice none 0 0)
  | slc (i off len es be cap) : β i = some be → len ≤ cap → (∀ n, be.row = some n → off + cap * es ≤ n) → SR β (.slc i off len es) (.slice (some ⟨be.b, be.base + off, none⟩) len cap)
  | sslc (i off len es be cap) : β i = some be → len ≤ cap → (∀ n, be.row = some n → off + cap * es ≤ n) → SR β (.sslc i off len es) (.slice (some ⟨be.b, be.base + off, none⟩) len cap)
  | fn (f caps cs) : SRs β caps cs → SR β (.fn f caps) (.func (.func f) #[] ⟨cs⟩)
  | nilfn : SR β .nilfn .nilFunc
inductive SRs (β : BM) : List AV → List Value → Prop
  | nil : SRs β [] []
  | cons (x y xs ys) : SR β x y → SRs β xs ys → SRs β (x :: xs) (y :: ys)
end

mutual
inductive VR (β : BM) : AV → Value → Prop
  | sc (x y) : SR β x y → VR β x y
  | agg (xs ys) : SRs β xs ys → VR β (.agg xs) (.agg ⟨ys⟩)
  | tup (xs ys) : VRs β xs ys → VR β (.tup xs) (.tuple ⟨ys⟩)
inductive VRs (β : BM) : List AV → List Value → Prop
  | nil : VRs β [] []
  | cons (x y xs ys) : VR β x y → VRs β xs ys → VRs β (x :: xs) (y :: ys)
end

theorem getElem?_app {α : Type} {l : List α} {i : Nat} {x : α} (h : l[i]? = some x) (r : List α) : (l ++ r)[i]? = some x := by
  rw [List.getElem?_append_left (List.getElem?_eq_some_iff.1 h).1, h]

mutual
theorem SR.mono {β β' : BM} (hb : BLe β β') {x : AV} {y : Value} : SR β x y → SR β' x y
  | .bool b => .bool b
  | .sbool b => .sbool b
  | .int k n h => .int k n h
  | .sint k n h => .sint k n h
  | .flt k x b h h' => .flt k x b h h'
  | .str s => .str s
  | .pnil => .pnil
  | .ptr i off be h => .ptr i off be (hb _ _ h)
  | .sptr i off n es z be h h1 h2 => .sptr i off n es z be (hb _ _ h) h1 h2
  | .snil => .snil
  | .slc i off len es be cap h h1 h2 => .slc i off len es be cap (hb _ _ h) h1 h2
  | .sslc i off len es be cap h h1 h2 => .sslc i off len es be cap (hb _ _ h) h1 h2
  | .fn f caps cs h => .fn f caps cs (SRs.mono hb h)
  | .nilfn => .nilfn
theorem SRs.mono {β β' : BM} (hb : BLe β β') {x : List AV} {y : List Value} : SRs β x y → SRs β' x y
  | .nil => .nil
  | .cons x y xs ys h hs => .cons x y xs ys (SR.mono hb h) (SRs.mono hb hs)
end

mutual
theorem VR.mono {β β' : BM} (hb : BLe β β') {x : AV} {y : Value} : VR β x y → VR β' x y
  | .sc x y h => .sc x y (h.mono hb)
  | .agg xs ys h => .agg xs ys (h.mono hb)
  | .tup xs ys h => .tup xs ys (VRs.mono hb h)
theorem VRs.mono {β β' : BM} (hb : BLe β β') {x : List AV} {y : List Value} : VRs β x y → VRs β' x y
  | .nil => .nil
  | .cons x y xs ys h hs => .cons x y xs ys (VR.mono hb h) (VRs.mono hb hs)
end

theorem SRs.length {β : BM} {xs : List AV} {ys : List Value} (h : SRs β xs ys) : xs.length = ys.length := by
  induction xs generalizing ys with
  | nil => cases h; rfl
  | cons x xs ih => cases h with | cons _ _ _ _ h hs => simp [ih hs]

theorem SRs.get {β : BM} {xs : List AV} {ys : List Value} (h : SRs β xs ys) {j : Nat} {v : AV} (hj : xs[j]? = some v) : ∃ c, ys[j]? = some c ∧ SR β v c := by
  induction xs generalizing ys j with
  | nil => simp at hj
  | cons x xs ih =>
    cases h with
    | cons _ y _ ys h hs =>
      cases j with
      | zero => simp at hj; subst hj; exact ⟨y, by simp, h⟩
      | succ j => simpa using ih hs (by simpa using hj)

theorem SRs.of_get {β : BM} {xs : List AV} {ys : List Value} (hl : xs.length = ys.length) (h : ∀ (j : Nat) (v : AV), xs[j]? = some v → ∃ c, ys[j]? = some c ∧ SR β v c) : SRs β xs ys := by
  induction xs generalizing ys with
  | nil => cases ys with | nil => exact .nil | cons y ys => simp at hl
  | cons x xs ih =>
    cases ys with
    | nil => simp at hl
    | cons y ys =>
      obtain ⟨c, hc, hr⟩ := h 0 x (by simp)
      simp at hc; subst hc
      exact .cons _ _ _ _ hr (ih (by simpa using hl) fun j v hj => by simpa using h (j + 1) v (by simpa using hj))

theorem SRs.append {β : BM} {xs xs' : List AV} {ys ys' : List Value} (h : SRs β xs ys) (h' : SRs β xs' ys') : SRs β (xs ++ xs') (ys ++ ys') := by
  induction xs generalizing ys with
  | nil => cases h; exact h'
  | cons x xs ih => cases h with | cons _ _ _ _ h hs => exact .cons _ _ _ _ h (ih hs)

theorem VRs.length {β : BM} {xs : List AV} {ys : List Value} (h : VRs β xs ys) : xs.length = ys.length := by
  induction xs generalizing ys with
  | nil => cases h; rfl
  | cons x xs ih => cases h with | cons _ _ _ _ h hs => simp [ih hs]

theorem VRs.get {β : BM} {xs : List AV} {ys : List Value} (h : VRs β xs ys) {j : Nat} {v : AV} (hj : xs[j]? = some v) : ∃ c, ys[j]? = some c ∧ VR β v c := by
  induction xs generalizing ys j with
  | nil => simp at hj
  | cons x xs ih =>
    cases h with
    | cons _ y _ ys h hs =>
      cases j with
      | zero => simp at hj; subst hj; exact ⟨y, by simp, h⟩
      | succ j => simpa using ih hs (by simpa using hj)

theorem VRs.append {β : BM} {xs xs' : List AV} {ys ys' : List Value} (h : VRs β xs ys) (h' : VRs β xs' ys') : VRs β (xs ++ xs') (ys ++ ys') := by
  induction xs generalizing ys with
  | nil => cases h; exact h'
  | cons x xs ih => cases h with | cons _ _ _ _ h hs => exact .cons _ _ _ _ h (ih hs)

theorem SRs.toVRs {β : BM} {xs : List AV} {ys : List Value} (h : SRs β xs ys) : VRs β xs ys := by
  induction xs generalizing ys with
  | nil => cases h; exact .nil
  | cons x xs ih => cases h with | cons _ _ _ _ h hs => exact .cons _ _ _ _ (.sc _ _ h) (ih hs)

theorem SR.oneCell {β : BM} {x : AV} {y : Value} (h : SR β x y) : y.oneCell' = true := by cases h <;> rfl

theorem SRs.oneCell {β : BM} {xs : List AV} {ys : List Value} (h : SRs β xs ys) : ∀ v ∈ ys, v.oneCell' = true := by
  induction xs generalizing ys with
  | nil => cases h; simp
  | cons x xs ih =>
    cases h with
    | cons _ _ _ _ h hs =>
      intro v hv
      rcases List.mem_cons.1 hv with rfl | hv
      · exact h.oneCell
      · exact ih hs v hv

/-- A value's cells. -/
theorem VR.cells {β : BM} {v : AV} {c : Value} {vs : List AV} (h : VR β v c) (hv : v.cells = some vs) : SRs β vs c.cells.toList := by
  cases h with
  | sc _ _ h => cases h <;> simp [AV.cells] at hv <;> subst hv <;> refine .cons _ _ _ _ ?_ .nil <;> constructor <;> assumption
  | agg xs ys h => simp [AV.cells] at hv; subst hv; exact h
  | tup xs ys h => simp [AV.cells] at hv

/-! ### Memory -/

def BR (β : BM) (bk : Blk) (be : BE) (w : World) : Prop :=
  ∃ c e fr, w.heap[be.b]? = some (.cells c e fr) ∧ (bk.rw = true → fr = (0, 0) ∧ ∃ n, be.row = some n) ∧ (∀ n, be.row = some n → bk.len ≤ n ∧ be.base + n ≤ c.size) ∧ be.base + bk.len ≤ c.size ∧
    match bk with
    | .lit cells _ => ∀ j v, cells[j]? = some v → ∃ cv, c[be.base + j]? = some cv ∧ SR β v cv
    | .sym n k y _ => ∀ j, j < n → ∃ cv, c[be.base + j]? = some cv ∧ SR β (mkK y j k) cv

structure SimM (β : BM) (m : Mem) (w : World) : Prop where
  blk : ∀ i bk, m.at i = some bk → ∃ be, β i = some be ∧ BR β bk be w
  sep : ∀ i j bi bj ei ej, m.at i = some bi → m.at j = some bj → i ≠ j → bi.rw = true → β i = some ei → β j = some ej → ei.b ≠ ej.b

theorem at_lt {m : Mem} {i : Nat} {bk : Blk} (h : m.at i = some bk) : i < m.length := by
  rw [at_eq] at h
  rcases Nat.lt_or_ge i m.length with h' | h'
  · exact h'
  · rw [List.getElem?_eq_none h'] at h; simp at h

theorem SimM.br {β : BM} {m : Mem} {w : World} (h : SimM β m w) {i : Nat} {bk : Blk} {be : BE} (hi : m.at i = some bk) (hb : β i = some be) : BR β bk be w := by
  obtain ⟨be', h1, h2⟩ := h.blk i bk hi
  rw [hb] at h1
  cases h1
  exact h2

/-- Nothing lies behind the memory's end. -/
def Fresh (β : BM) (m : Mem) : Prop := ∀ i, m.length ≤ i → β i = none

/-- Nothing that was there has turned. -/
structure Qt (w w' : World) : Prop where
  os : w'.os = w.os
  tape : w'.tape = w.tape
  output : w'.output = w.output
  size : w.heap.size ≤ w'.heap.size
  block : ∀ k, k < w.heap.size → w'.heap[k]? = w.heap[k]?

theorem Qt.refl (w : World) : Qt w w := ⟨rfl, rfl, rfl, Nat.le_refl _, fun _ _ => rfl⟩
theorem Qt.trans {a b c : World} (h : Qt a b) (k : Qt b c) : Qt a c :=
  ⟨k.os.trans h.os, k.tape.trans h.tape, k.output.trans h.output, Nat.le_trans h.size k.size, fun i hi => (k.block i (Nat.lt_of_lt_of_le hi h.size)).trans (h.block i hi)⟩
theorem Qt.drewN (w : World) (n : Nat) : Qt w (w.drewN n) := ⟨rfl, rfl, rfl, Nat.le_refl _, fun _ _ => rfl⟩

/-- The old world but for the blocks of S. -/
structure Fr (S : Nat → Prop) (w w' : World) : Prop where
  os : w'.os = w.os
  tape : w'.tape = w.tape
  output : w'.output = w.output
  size : w.heap.size ≤ w'.heap.size
  block : ∀ k, k < w.heap.size → ¬ S k → w'.heap[k]? = w.heap[k]?

theorem Fr.refl (S : Nat → Prop) (w : World) : Fr S w w := ⟨rfl, rfl, rfl, Nat.le_refl _, fun _ _ _ => rfl⟩

theorem Fr.trans {S : Nat → Prop} {a b c : World} (h : Fr S a b) (k : Fr S b c) : Fr S a c :=
  ⟨k.os.trans h.os, k.tape.trans h.tape, k.output.trans h.output, Nat.le_trans h.size k.size, fun i hi hs => (k.block i (Nat.lt_of_lt_of_le hi h.size) hs).trans (h.block i hi hs)⟩

/-- What is the call's own: what came to it to be written, and what is new. -/
def Own (S : Nat → Prop) (w₀ : World) (β : BM) (m : Mem) : Prop := ∀ i bk be, m.at i = some bk → bk.rw = true → β i = some be → S be.b ∨ w₀.heap.size ≤ be.b

/-- A world against an abstract memory, since the call's beginning. -/
structure WS (S : Nat → Prop) (w₀ : World) (β : BM) (m : Mem) (w : World) : Prop where
  sim : SimM β m w
  fr : Fr S w₀ w
  own : Own S w₀ β m

end Go.Sim

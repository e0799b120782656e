/-
  The abstract memory against the model's: draws, new blocks, stores, appends.
-/
import Derived.Test.YtekilpllicggeaaSimF
namespace Go.Sim

theorem at_append_old {m : Mem} {x : Mem} {i : Nat} {bk : Blk} (h : m.at i = some bk) : (m ++ x : Mem).at i = some bk := by
  have := at_lt h
  rw [at_eq] at *
  rw [List.getElem?_append_left this]
  exact h

theorem at_append {m : Mem} {x : Option Blk} {i : Nat} {bk : Blk} (h : (m ++ [x] : Mem).at i = some bk) : m.at i = some bk ∨ (i = m.length ∧ x = some bk) := by
  rw [at_eq] at h
  by_cases hi : i < m.length
  · rw [List.getElem?_append_left hi] at h
    left; rw [at_eq]; exact h
  · rw [List.getElem?_append_right (by omega)] at h
    right
    have : i - m.length = 0 := by
      rcases Nat.eq_zero_or_pos (i - m.length) with h0 | h0
      · exact h0
      · rw [List.getElem?_eq_none (by simp; omega)] at h
        simp at h
    rw [this] at h
    simp at h
    exact ⟨by omega, h⟩

theorem at_set {m : Mem} {j : Nat} {x : Option Blk} {i : Nat} {bk : Blk} (h : Mem.at (m.set j x) i = some bk) : (i ≠ j ∧ m.at i = some bk) ∨ (i = j ∧ x = some bk) := by
  rw [at_eq] at h
  by_cases hij : i = j
  · subst hij
    by_cases hi : i < m.length
    · rw [List.getElem?_set_self hi] at h
      simp at h
      exact .inr ⟨rfl, h⟩
    · rw [List.getElem?_eq_none (by simp; omega)] at h
      simp at h
  · rw [List.getElem?_set_ne (Ne.symm hij)] at h
    exact .inl ⟨hij, by rw [at_eq]; exact h⟩

/-- A block of the abstract memory in a world that has its cells, at more blocks. -/
theorem BR.mono {β β' : BM} {bk : Blk} {be : BE} {w w' : World} (hb : BLe β β') (h : BR β bk be w) (hw : w'.heap[be.b]? = w.heap[be.b]?) : BR β' bk be w' := by
  obtain ⟨c, e, fr, h1, h2, h3, h4, h5⟩ := h
  refine ⟨c, e, fr, by rw [hw]; exact h1, h2, h3, h4, ?_⟩
  cases bk with
  | lit cells rw =>
    intro j v hj
    obtain ⟨cv, a, b⟩ := h5 j v hj
    exact ⟨cv, a, b.mono hb⟩
  | sym n k y rw =>
    intro j hj
    obtain ⟨cv, a, b⟩ := h5 j hj
    exact ⟨cv, a, b.mono hb⟩

theorem BR.lt {β : BM} {bk : Blk} {be : BE} {w : World} (h : BR β bk be w) : be.b < w.heap.size := by
  obtain ⟨c, e, fr, h1, _⟩ := h
  exact (Array.getElem?_eq_some_iff.1 h1).1

section
variable {S : Nat → Prop} {w₀ w : World} {β : BM} {m : Mem}

theorem Fr.qt {w' : World} (h : Fr S w₀ w) (q : Qt w w') : Fr S w₀ w' :=
  h.trans ⟨q.os, q.tape, q.output, q.size, fun k hk _ => q.block k hk⟩

/-- In a world in which nothing has turned. -/
theorem WS.qt {w' : World} (h : WS S w₀ β m w) (q : Qt w w') : WS S w₀ β m w' := by
  refine ⟨⟨fun i bk hi => ?_, h.sim.sep⟩, h.fr.qt q, h.own⟩
  obtain ⟨be, h1, h2⟩ := h.sim.blk i bk hi
  exact ⟨be, h1, h2.mono (BLe.refl β) (q.block _ h2.lt)⟩

theorem WS.drewN (h : WS S w₀ β m w) (n : Nat) : WS S w₀ β m (w.drewN n) := h.qt (Qt.drewN w n)
theorem WS.drew (h : WS S w₀ β m w) : WS S w₀ β m w.drew := h.drewN 1

/-- Fewer blocks looked at. -/
theorem WS.less (h : WS S w₀ β m w) {m' : Mem} (hm : ∀ i bk, m'.at i = some bk → m.at i = some bk) : WS S w₀ β m' w :=
  ⟨⟨fun i bk hi => h.sim.blk i bk (hm i bk hi), fun i j bi bj ei ej hi hj => h.sim.sep i j bi bj ei ej (hm i bi hi) (hm j bj hj)⟩, h.fr, fun i bk be hi => h.own i bk be (hm i bk hi)⟩

theorem qt_alloc (w : World) (o : Obj) : Qt w (w.alloc o) := ⟨rfl, rfl, rfl, by simp, fun k hk => RowKit.Below.heap_alloc w o k hk⟩

/-- A new block at a place of its own, of which the abstract one is the beginning. -/
theorem WS.newAt (h : WS S w₀ β m w) {j : Nat} (hj : β j = none) {m' : Mem} (hm : ∀ i bk, m'.at i = some bk → m.at i = some bk ∨ (i = j ∧ ∃ cells, bk = .lit cells true ∧ True)) {cells : List AV} {c : Array Value} (e : TypeId) (hlen : cells.length ≤ c.size) (hc : ∀ (j : Nat) (v : AV), cells[j]? = some v → ∃ cv, c[j]? = some cv ∧ SR β v cv)
    (hm' : ∀ bk, m'.at j = some bk → bk = .lit cells true) :
    WS S w₀ (β.upd j ⟨w.heap.size, 0, some c.size⟩) m' (w.alloc (.cells c e)) := by
  have q := qt_alloc w (.cells c e)
  have hle := BM.upd_le hj ⟨w.heap.size, 0, some c.size⟩
  have hnew : (w.alloc (.cells c e)).heap[w.heap.size]? = some (.cells c e (0, 0)) := by show (w.heap.push _)[w.heap.size]? = _; simp
  have old : ∀ {i : Nat} {bk : Blk}, i ≠ j → m'.at i = some bk → m.at i = some bk := by
    intro i bk hne hi
    rcases hm i bk hi with hi | ⟨he, _⟩
    · exact hi
    · exact absurd he hne
  have live : ∀ {i : Nat} {bk : Blk}, m.at i = some bk → i ≠ j := by
    intro i bk hi he
    subst he
    obtain ⟨be, h1, _⟩ := h.sim.blk i bk hi
    rw [hj] at h1
    cases h1
  refine ⟨⟨?_, ?_⟩, h.fr.qt q, ?_⟩
  · intro i bk hi
    by_cases hij : i = j
    · subst hij
      rw [hm' bk hi]
      refine ⟨_, BM.upd_self .., c, e, (0, 0), hnew, fun _ => ⟨rfl, _, rfl⟩, fun n hn => by cases hn; simp [Blk.len, hlen], by simp [Blk.len, hlen], ?_⟩
      intro q v hq
      obtain ⟨cv, h1, h2⟩ := hc q v hq
      exact ⟨cv, by simpa using h1, h2.mono hle⟩
    · obtain ⟨be, h1, h2⟩ := h.sim.blk i bk (old hij hi)
      exact ⟨be, hle _ _ h1, h2.mono hle (q.block _ h2.lt)⟩
  · intro i k bi bk ei ek hi hk hik hrw hei hek
    rcases BM.upd_cases hei with ⟨h1, h2⟩ | ⟨hij, hei'⟩
    · rcases BM.upd_cases hek with ⟨h3, h4⟩ | ⟨hkj, hek'⟩
      · exact absurd (h1.trans h3.symm) hik
      · have := (h.sim.br (old hkj hk) hek').lt
        subst h2
        simp only
        omega
    · rcases BM.upd_cases hek with ⟨h3, h4⟩ | ⟨hkj, hek'⟩
      · have := (h.sim.br (old hij hi) hei').lt
        subst h4
        simp only
        omega
      · exact h.sim.sep i k bi bk ei ek (old hij hi) (old hkj hk) hik hrw hei' hek'
  · intro i bk be hi hrw hb
    rcases BM.upd_cases hb with ⟨rfl, rfl⟩ | ⟨hij, hb⟩
    · exact .inr h.fr.size
    · exact h.own i bk be (old hij hi) hrw hb

/-- A new block at the memory's end. -/
theorem WS.newP (h : WS S w₀ β m w) (hj : β m.length = none) {cells : List AV} {c : Array Value} (e : TypeId) (hlen : cells.length ≤ c.size) (hc : ∀ (j : Nat) (v : AV), cells[j]? = some v → ∃ cv, c[j]? = some cv ∧ SR β v cv) :
    WS S w₀ (β.upd m.length ⟨w.heap.size, 0, some c.size⟩) (m ++ [some (.lit cells true)]) (w.alloc (.cells c e)) := by
  refine h.newAt hj (fun i bk hi => ?_) e hlen hc fun bk hi => ?_
  · rcases at_append hi with hi | ⟨h1, h2⟩
    · exact .inl hi
    · cases h2; exact .inr ⟨h1, _, rfl, trivial⟩
  · rcases at_append hi with hi | ⟨h1, h2⟩
    · exact absurd (at_lt hi) (by omega)
    · cases h2; rfl

theorem WS.new (h : WS S w₀ β m w) (hj : β m.length = none) {cells : List AV} {c : Array Value} (e : TypeId) (hc : SRs β cells c.toList) :
    WS S w₀ (β.upd m.length ⟨w.heap.size, 0, some c.size⟩) (m ++ [some (.lit cells true)]) (w.alloc (.cells c e)) :=
  h.newP hj e (by rw [hc.length]; simp) fun j v hj => by simpa using hc.get hj

theorem Fresh.upd {b : BE} {x : Option Blk} (h : Fresh β m) : Fresh (β.upd m.length b) (m ++ [x]) := by
  intro i hi
  simp at hi
  unfold BM.upd
  rw [if_neg (by omega)]
  exact h i (by omega)

/-- A store over a block of the call's own. -/
theorem WS.store {P : Program} (h : WS S w₀ β m w) {i off : Nat} {cells cells' vs : List AV} {cvs : List Value} {be : BE} (hi : m.at i = some (.lit cells true)) (hb : β i = some be)
    (hp : pasteL cells off vs = some cells') (hv : SRs β vs cvs) :
    ∃ w', (storeCells ⟨be.b, be.base + off, none⟩ cvs).run P w = .ok () w' ∧ WS S w₀ β (m.set i (some (.lit cells' true))) w' := by
  obtain ⟨c, e, fr, h1, h2, h3, h4, h5⟩ := h.sim.br hi hb
  obtain ⟨rfl, n, hn⟩ := h2 rfl
  obtain ⟨p1, p2, p3⟩ := pasteL_spec _ _ _ _ hp
  simp only [Blk.len] at h4
  have hl : be.base + off + 0 + cvs.length ≤ c.size := by rw [← hv.length]; omega
  have hrun := run_storeCells_at (P := P) be.b (be.base + off) e cvs 0 c w h1 hl hv.oneCell
  refine ⟨_, hrun, ?_⟩
  have hself := setRow_heap w be.b c (c.toList.take (be.base + off + 0) ++ cvs ++ c.toList.drop (be.base + off + 0 + cvs.length)).toArray e (0, 0) h1
  have hother : ∀ k, k ≠ be.b → (w.setRow be.b (c.toList.take (be.base + off + 0) ++ cvs ++ c.toList.drop (be.base + off + 0 + cvs.length)).toArray).heap[k]? = w.heap[k]? := fun k hk => setRow_other w be.b k _ hk
  generalize hw' : w.setRow be.b (c.toList.take (be.base + off + 0) ++ cvs ++ c.toList.drop (be.base + off + 0 + cvs.length)).toArray = w' at *
  have hsz : (c.toList.take (be.base + off + 0) ++ cvs ++ c.toList.drop (be.base + off + 0 + cvs.length)).toArray.size = c.size := by simp; omega
  refine ⟨⟨?_, ?_⟩, ⟨?_, ?_, ?_, ?_, fun k hk hs => ?_⟩, ?_⟩
  · intro j bk hj
    rcases at_set hj with ⟨hne, hj⟩ | ⟨rfl, hx⟩
    · obtain ⟨bj, hbj, hbr⟩ := h.sim.blk j bk hj
      have hd := h.sim.sep i j _ _ _ _ hi hj (Ne.symm hne) rfl hb hbj
      exact ⟨bj, hbj, hbr.mono (BLe.refl β) (hother _ (Ne.symm hd))⟩
    · cases hx
      refine ⟨be, hb, _, e, (0, 0), hself, fun _ => ⟨rfl, n, hn⟩, fun n' hn' => by rw [hsz]; have := h3 n' hn'; simp only [Blk.len] at *; omega, by rw [hsz]; simp only [Blk.len]; omega, ?_⟩
      intro q v hq
      rw [pasteL_get hp] at hq
      simp only [List.getElem?_toArray, Nat.add_zero]
      by_cases hin : off ≤ q ∧ q < off + vs.length
      · rw [if_pos hin] at hq
        obtain ⟨cv, hc1, hc2⟩ := hv.get hq
        refine ⟨cv, ?_, hc2⟩
        have hvl := hv.length
        rw [List.append_assoc, List.getElem?_append_right (by simp; omega), List.getElem?_append_left (by simp; omega)]
        rw [← hc1]
        congr 1
        simp
        omega
      · rw [if_neg hin] at hq
        obtain ⟨cv, hc1, hc2⟩ := h5 q v hq
        refine ⟨cv, ?_, hc2⟩
        have hvl := hv.length
        have hql : be.base + q < c.size := (Array.getElem?_eq_some_iff.1 hc1).1
        by_cases hlt : q < off
        · rw [List.append_assoc, List.getElem?_append_left (by simp; omega), List.getElem?_take_of_lt (by omega)]
          simpa using hc1
        · rw [List.getElem?_append_right (by simp; omega)]
          simp only [List.length_append, List.length_take, List.getElem?_drop, Array.length_toList]
          rw [show be.base + off + cvs.length + (be.base + q - (min (be.base + off) c.size + cvs.length)) = be.base + q by omega]
          simpa using hc1
  · intro j k bj bk ej ek hj hk hjk hrw hej hek
    rcases at_set hj with ⟨_, hj'⟩ | ⟨hj', _⟩
    · rcases at_set hk with ⟨_, hk'⟩ | ⟨hk', _⟩
      · exact h.sim.sep j k _ _ _ _ hj' hk' hjk hrw hej hek
      · subst hk'; exact h.sim.sep j k _ _ _ _ hj' hi hjk hrw hej hek
    · subst hj'
      rcases at_set hk with ⟨_, hk'⟩ | ⟨hk', _⟩
      · exact h.sim.sep j k _ _ _ _ hi hk' hjk rfl hej hek
      · exact absurd hk'.symm hjk
  · subst hw'; exact h.fr.os
  · subst hw'; exact h.fr.tape
  · subst hw'; exact h.fr.output
  · subst hw'; simpa using h.fr.size
  · have hne : k ≠ be.b := by
      intro he
      rcases h.own i _ be hi rfl hb with ho | ho
      · exact hs (he ▸ ho)
      · omega
    rw [hother k hne]
    exact h.fr.block k hk hs
  · intro j bk bj hj hrw hbj
    rcases at_set hj with ⟨_, hj⟩ | ⟨rfl, hx⟩
    · exact h.own j _ _ hj hrw hbj
    · exact h.own j _ _ hi rfl hbj

/-- A block that nobody looks at any more. -/
theorem WS.kill (h : WS S w₀ β m w) (i : Nat) : WS S w₀ β (m.set i none) w :=
  h.less fun j bk hj => by
    rcases at_set hj with ⟨_, hj⟩ | ⟨_, hx⟩
    · exact hj
    · cases hx

theorem Fresh.set {i : Nat} {x : Option Blk} (h : Fresh β m) : Fresh β (m.set i x) := fun j hj => h j (by simpa using hj)

end

/-! ### Cells of one kind -/

theorem isK_mk {k : Kd} {v : AV} (h : isK k v = true) {β : BM} {c : Value} (hc : SR β v c) (x : Vars) (j : Nat) (hu : x.u j = fltOf v) (hi : x.i j = intOf v) (hb : x.b j = boolOf v) (hs : x.s j = strOf v) : SR β (mkK x j k) c := by
  cases k <;> cases v <;> simp only [isK, decide_eq_true_eq] at h <;> (try (exact absurd h Bool.false_ne_true)) <;> (try subst h) <;> simp only [fltOf, intOf, boolOf, strOf] at hu hi hb hs <;> cases hc <;> simp only [mkK, hu, hi, hb, hs] <;> constructor <;> assumption

theorem isKs_get {k : Kd} : ∀ {l : List AV}, isKs k l = true → ∀ {j : Nat} {v : AV}, l[j]? = some v → isK k v = true
  | [], _, j, v, h => by simp at h
  | u :: r, hl, j, v, h => by
    simp only [isKs] at hl
    split at hl
    · rename_i hk
      cases j with
      | zero => simp at h; subst h; exact hk
      | succ j => exact isKs_get hl (by simpa using h)
    · cases hl

theorem isK_self (x : Vars) (j : Nat) (k : Kd) : isK k (mkK x j k) = true := by cases k <;> simp [isK, mkK]

theorem mkK_flds (x : Vars) (j : Nat) (k : Kd) {β : BM} {c : Value} (h : SR β (mkK x j k) c) (y : Vars) (q : Nat) (hu : y.u q = x.u j) (hi : y.i q = x.i j) (hb : y.b q = x.b j) (hs : y.s q = x.s j) : SR β (mkK y q k) c := by
  cases k <;> simp only [mkK, hu, hi, hb, hs] at h ⊢ <;> exact h

theorem symL_length (k : Kd) (y : Vars) (off : Nat) : ∀ (j n : Nat), (symL k y off j n).length = n
  | _, 0 => rfl
  | j, n + 1 => by simp [symL, symL_length k y off (j + 1) n]

theorem symL_get (k : Kd) (y : Vars) (off : Nat) : ∀ (j n q : Nat), (symL k y off j n)[q]? = if q < n then some (mkK y (off + (j + q)) k) else none
  | _, 0, q => by simp [symL]
  | j, n + 1, 0 => by simp [symL, padd]
  | j, n + 1, q + 1 => by
    simp only [symL, List.getElem?_cons_succ, symL_get k y off (j + 1) n q]
    by_cases h : q < n
    · rw [if_pos h, if_pos (by omega), show j + 1 + q = j + (q + 1) by omega]
    · rw [if_neg h, if_neg (by omega)]

theorem symL_ks (k : Kd) (y : Vars) (off : Nat) : ∀ (j n : Nat), isKs k (symL k y off j n) = true
  | _, 0 => rfl
  | j, n + 1 => by simp only [symL, isKs, isK_self, symL_ks k y off (j + 1) n]

theorem inR_iff (off n j : Nat) : inR off n j = true ↔ off ≤ j ∧ j < off + n := by simp [inR, Nat.blt_eq]

theorem leafN_get {l : List AV} {j : Nat} {v : AV} (h : l[j]? = some v) : leafN l j = v := by unfold leafN; rw [List.getD_eq_getElem?_getD, h]; rfl

section
variable {S : Nat → Prop} {w₀ w : World} {β : BM} {m : Mem}

/-- A block told in another way. -/
theorem WS.recell (h : WS S w₀ β m w) {i : Nat} {bk bk' : Blk} (hi : m.at i = some bk) (hrw : bk'.rw = true → bk.rw = true) (hb : ∀ be, β i = some be → BR β bk be w → BR β bk' be w) : WS S w₀ β (m.set i (some bk')) w := by
  refine ⟨⟨fun j b hj => ?_, fun j k bj bk2 ej ek hj hk hjk hr hej hek => ?_⟩, h.fr, fun j b be hj hr hbe => ?_⟩
  · rcases at_set hj with ⟨_, hj⟩ | ⟨rfl, hx⟩
    · exact h.sim.blk j b hj
    · cases hx
      obtain ⟨be, h1, h2⟩ := h.sim.blk _ bk hi
      exact ⟨be, h1, hb be h1 h2⟩
  · have old : ∀ {j : Nat} {b : Blk}, Mem.at (m.set i (some bk')) j = some b → ∃ b', m.at j = some b' ∧ (b.rw = true → b'.rw = true) := by
      intro j b hj
      rcases at_set hj with ⟨_, hj⟩ | ⟨rfl, hx⟩
      · exact ⟨b, hj, id⟩
      · cases hx; exact ⟨bk, hi, hrw⟩
    obtain ⟨b1, e1, r1⟩ := old hj
    obtain ⟨b2, e2, _⟩ := old hk
    exact h.sim.sep j k b1 b2 ej ek e1 e2 hjk (r1 hr) hej hek
  · rcases at_set hj with ⟨_, hj⟩ | ⟨rfl, hx⟩
    · exact h.own j b be hj hr hbe
    · cases hx; exact h.own _ bk be hi (hrw hr) hbe

theorem BR.toLit {n : Nat} {k : Kd} {y : Vars} {rw : Bool} {be : BE} (h : BR β (.sym n k y rw) be w) : BR β (.lit (symL k y 0 0 n) rw) be w := by
  obtain ⟨c, e, fr, h1, h2, h3, h4, h5⟩ := h
  refine ⟨c, e, fr, h1, h2, fun q hq => ?_, ?_, fun j v hj => ?_⟩
  · have := h3 q hq
    simp only [Blk.len, symL_length] at *
    exact this
  · simp only [Blk.len, symL_length] at *
    exact h4
  · rw [symL_get] at hj
    split at hj
    · rename_i hlt
      cases hj
      obtain ⟨cv, a, b⟩ := h5 j hlt
      exact ⟨cv, a, by simpa using b⟩
    · cases hj

theorem BR.toSym {cells : List AV} {rw : Bool} {be : BE} (h : BR β (.lit cells rw) be w) {n : Nat} {k : Kd} {y : Vars} (hn : cells.length = n) (hk : isKs k cells = true)
    (hy : ∀ j v, cells[j]? = some v → y.u j = fltOf v ∧ y.i j = intOf v ∧ y.b j = boolOf v ∧ y.s j = strOf v) : BR β (.sym n k y rw) be w := by
  obtain ⟨c, e, fr, h1, h2, h3, h4, h5⟩ := h
  subst hn
  refine ⟨c, e, fr, h1, h2, h3, h4, fun j hj => ?_⟩
  obtain ⟨v, hv⟩ : ∃ v, cells[j]? = some v := ⟨_, List.getElem?_eq_getElem hj⟩
  obtain ⟨cv, a, b⟩ := h5 j v hv
  obtain ⟨q1, q2, q3, q4⟩ := hy j v hv
  exact ⟨cv, a, isK_mk (isKs_get hk hv) b y j q1 q2 q3 q4⟩

/-- A store over a block of the call's own, of cells of one kind. -/
theorem WS.storeSym {P : Program} (h : WS S w₀ β m w) {i off n : Nat} {k : Kd} {y : Vars} {vs : List AV} {cvs : List Value} {be : BE} (hi : m.at i = some (.sym n k y true)) (hb : β i = some be)
    (hle : off + vs.length ≤ n) (hk : isKs k vs = true) (hv : SRs β vs cvs) :
    ∃ w', (storeCells ⟨be.b, be.base + off, none⟩ cvs).run P w = .ok () w' ∧ WS S w₀ β (m.set i (some (.sym n k (pasteV y off vs) true))) w' := by
  have h1 := h.recell (bk' := .lit (symL k y 0 0 n) true) hi (fun _ => rfl) fun be _ hbr => hbr.toLit
  have hi1 : Mem.at (m.set i (some (.lit (symL k y 0 0 n) true))) i = some (.lit (symL k y 0 0 n) true) := by
    rw [at_eq, List.getElem?_set_self (at_lt hi)]; rfl
  have hp : ∀ (l : List AV) (o : Nat) (vs : List AV), o + vs.length ≤ l.length → ∃ x, pasteL l o vs = some x := by
    intro l
    induction l with
    | nil =>
      intro o vs hl
      cases o <;> cases vs <;> simp at hl
      exact ⟨[], rfl⟩
    | cons a r ih =>
      intro o vs hl
      cases o with
      | zero =>
        cases vs with
        | nil => exact ⟨_, rfl⟩
        | cons v vs =>
          obtain ⟨x, hx⟩ := ih 0 vs (by simp at hl ⊢; omega)
          exact ⟨v :: x, by simp [pasteL, hx]⟩
      | succ o =>
        obtain ⟨x, hx⟩ := ih o vs (by simp at hl ⊢; omega)
        exact ⟨a :: x, by simp [pasteL, hx]⟩
  obtain ⟨cells', hp⟩ := hp (symL k y 0 0 n) off vs (by rw [symL_length]; exact hle)
  obtain ⟨w', g1, g2⟩ := h1.store (P := P) hi1 hb hp hv
  refine ⟨w', g1, ?_⟩
  rw [List.set_set] at g2
  have hi2 : Mem.at (m.set i (some (.lit cells' true))) i = some (.lit cells' true) := by
    rw [at_eq, List.getElem?_set_self (at_lt hi)]; rfl
  have g3 := g2.recell (bk' := .sym n k (pasteV y off vs) true) hi2 (fun _ => rfl) fun be' _ hbr => ?_
  · rwa [List.set_set] at g3
  · obtain ⟨p1, p2, p3⟩ := pasteL_spec _ _ _ _ hp
    rw [symL_length] at p1 p2
    obtain ⟨c, e, fr, b1, b2, b3, b4, b5⟩ := hbr
    simp only [Blk.len, p2] at b3 b4
    refine ⟨c, e, fr, b1, b2, b3, b4, fun j hj => ?_⟩
    obtain ⟨v, hv'⟩ : ∃ v, cells'[j]? = some v := ⟨_, List.getElem?_eq_getElem (by omega)⟩
    obtain ⟨cv, a, b⟩ := b5 j v hv'
    refine ⟨cv, a, ?_⟩
    rw [pasteL_get hp] at hv'
    by_cases hin : off ≤ j ∧ j < off + vs.length
    · rw [if_pos hin] at hv'
      have hr : inR off vs.length j = true := (inR_iff ..).2 hin
      have hl := leafN_get hv'
      exact isK_mk (isKs_get hk hv') b _ _ (by simp [pasteV, hr, hl]) (by simp [pasteV, hr, hl]) (by simp [pasteV, hr, hl]) (by simp [pasteV, hr, hl])
    · rw [if_neg hin, symL_get, if_pos hj] at hv'
      have hr : inR off vs.length j = false := by
        cases hq : inR off vs.length j with
        | false => rfl
        | true => exact absurd ((inR_iff ..).1 hq) hin
      cases hv'
      exact mkK_flds y _ k b _ _ (by simp [pasteV, hr]) (by simp [pasteV, hr]) (by simp [pasteV, hr]) (by simp [pasteV, hr])

end
end Go.Sim

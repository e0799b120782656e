/-
  Summaries of functions with pointers to what they read alone, under conditions, by cases.
-/
import Derived.Test.YtekilpllicggeaaSimU
namespace Go.Sim

/-- A leaf's kind does not turn by its writing out. -/
theorem isK_normK {k : Kd} {v : AV} : isK k (normK v) = isK k v := by
  cases k <;> cases v <;> rfl

theorem isL_normL : ∀ {ks : List Kd} {l : List AV}, isL ks (normL l) = isL ks l
  | [], [] => rfl
  | [], _ :: _ => rfl
  | _ :: _, [] => rfl
  | k :: ks, v :: l => by simp only [normL, isL, isK_normK, isL_normL]

theorem isL_length : ∀ {ks : List Kd} {l : List AV}, isL ks l = true → l.length = ks.length
  | [], [], _ => rfl
  | [], _ :: _, h => by cases h
  | _ :: _, [], h => by cases h
  | k :: ks, v :: l, h => by
    simp only [isL] at h
    split at h
    · simp [isL_length h]
    · cases h

theorem isL_append : ∀ {ks ks' : List Kd} {l l' : List AV}, isL ks l = true → isL ks' l' = true → isL (ks ++ ks') (l ++ l') = true
  | [], _, [], _, _, h => h
  | [], _, _ :: _, _, h, _ => by cases h
  | _ :: _, _, [], _, h, _ => by cases h
  | k :: ks, ks', v :: l, l', h, h' => by
    simp only [isL] at h
    split at h
    · rename_i hk
      simp only [List.cons_append, isL, hk]
      exact isL_append h h'
    · cases h

theorem isL_take : ∀ {ks ks' : List Kd} {l : List AV}, isL (ks ++ ks') l = true → isL ks (l.take ks.length) = true ∧ isL ks' (l.drop ks.length) = true
  | [], _, l, h => by simpa [isL] using h
  | _ :: _, _, [], h => by cases h
  | k :: ks, ks', v :: l, h => by
    simp only [List.cons_append, isL] at h
    split at h
    · rename_i hk
      obtain ⟨a, b⟩ := isL_take h
      simp only [List.length_cons, List.take_succ_cons, List.drop_succ_cons, isL, hk]
      exact ⟨a, b⟩
    · cases h

theorem normL_append : ∀ {l l' : List AV}, normL (l ++ l') = normL l ++ normL l'
  | [], _ => rfl
  | v :: l, l' => by simp only [List.cons_append, normL, normL_append]

theorem normL_length : ∀ {l : List AV}, (normL l).length = l.length
  | [] => rfl
  | v :: l => by simp [normL, normL_length]

theorem normK_twice {v : AV} : normK (normK v) = normK v := by cases v <;> rfl
theorem normL_twice : ∀ {l : List AV}, normL (normL l) = normL l
  | [] => rfl
  | v :: l => by simp only [normL, normK_twice, normL_twice]

theorem isL_flat : ∀ {ks : List Kd} {l : List AV}, isL ks l = true → flatL l = true
  | [], [], _ => rfl
  | [], _ :: _, h => by cases h
  | _ :: _, [], h => by cases h
  | k :: ks, v :: l, h => by
    simp only [isL] at h
    split at h
    · rename_i hk
      have : v.flat = true := by cases k <;> cases v <;> first | rfl | cases hk
      simp only [flatL, this, isL_flat h, Bool.and_self]
    · cases h

/-- The leaves of a list of leaves are what its variables say. -/
theorem isL_mkL {ks : List Kd} {l : List AV} (h : isL ks l = true) : normL l = mkL (varsOf l) 0 ks :=
  (isL_norm h (varsOf l) 0 fun q _ => by rw [Nat.zero_add]; exact ⟨rfl, rfl, rfl, rfl⟩).1

theorem normK_back {β : BM} {v : AV} {c : Value} (hf : v.flat = true) (h : SR β (normK v) c) : SR β v c := by
  cases v with
  | bool b => cases h; exact .bool b
  | int k n => cases h with | sint _ _ hi => exact .int k n hi
  | _ => exact h

theorem normL_back {β : BM} : ∀ {l : List AV} {cs : List Value}, SRs β (normL l) cs → SRs β l cs
  | [], cs, h => h
  | v :: l, cs, h => by
    cases h with | cons _ _ _ _ a b =>
    refine .cons _ _ _ _ ?_ (normL_back b)
    cases v with
    | bool b => cases a; exact .bool b
    | int k n => cases a with | sint _ _ hi => exact .int k n hi
    | _ => exact a

/-- Two lists of leaves that are alike hold the same. -/
theorem alike {β : BM} {l l' : List AV} {cs : List Value} (h : normL l' = normL l) (hs : SRs β l cs) : SRs β l' cs :=
  normL_back (by rw [h]; exact normL_ok hs)

/-! ### Arguments -/

/-- Where the blocks lie. -/
def besP (β : BM) : List PSh → List AV → List (Option BE)
  | .val _ :: r, _ :: xs => besP β r xs
  | .ptr _ :: r, .ptr i off :: xs => ((β i).map fun be => { b := be.b, base := be.base + off, row := none }) :: besP β r xs
  | .ptr _ :: r, _ :: xs => none :: besP β r xs
  | .slc _ _ _ :: r, .slc i off _ _ :: xs => ((β i).map fun be => { b := be.b, base := be.base + off, row := none }) :: besP β r xs
  | .slc _ _ _ :: r, _ :: xs => none :: besP β r xs
  | _, _ => []

theorem memP_length : ∀ {KS : List PSh} {M : Mem} {xs l : List AV} {β : BM} {l' : List AV}, leavesP M KS xs = some l → (memP KS l').length = (besP β KS xs).length
  | [], _, [], _, _, _, _ => rfl
  | [], _, _ :: _, _, _, _, h => by cases h
  | _ :: _, _, [], _, _, _, h => by simp [leavesP] at h
  | p :: KS, M, v :: xs, l, β, l', h => by
    simp only [leavesP] at h
    split at h
    · rename_i l1 l2 h1 h2
      cases p with
      | val s => simp only [memP, besP]; exact memP_length h2
      | ptr ks =>
        cases v <;> simp only [leavesA] at h1 <;> try (cases h1; done)
        simp only [memP, besP, List.length_cons]
        rw [memP_length h2]
      | slc ks n es =>
        cases v <;> simp only [leavesA] at h1 <;> try (cases h1; done)
        simp only [memP, besP, List.length_cons]
        rw [memP_length h2]
    · cases h

section
variable {S : Nat → Prop} {w₀ w : World} {β : BM} {M : Mem}

theorem viewA_kds {ks : List Kd} {i off : Nat} {l : List AV} (h : viewA M ks i off = some l) : isL ks l = true := by
  unfold viewA at h
  split at h
  · split at h
    · split at h
      · rename_i hk; cases h; exact hk
      · cases h
    · cases h
  · cases h

theorem leavesA_kds : ∀ {p : PSh} {v : AV} {l : List AV}, leavesA M p v = some l → isL p.kds l = true
  | .val (.sc k), v, l, h => by
    simp only [leavesA] at h
    split at h
    · rename_i hk; cases h; simp [PSh.kds, isL, hk]
    · cases h
  | .val (.ag ks), v, l, h => by
    cases v <;> simp only [leavesA] at h <;> try (cases h; done)
    split at h
    · rename_i hk; cases h; exact hk
    · cases h
  | .ptr ks, v, l, h => by
    cases v <;> simp only [leavesA] at h <;> try (cases h; done)
    exact viewA_kds h
  | .slc ks n es, v, l, h => by
    cases v <;> simp only [leavesA] at h <;> try (cases h; done)
    split at h
    · exact viewA_kds h
    · cases h

theorem leavesP_kds : ∀ {KS : List PSh} {xs l : List AV}, leavesP M KS xs = some l → isL (kdsP KS) l = true
  | [], [], l, h => by cases h; rfl
  | [], _ :: _, _, h => by cases h
  | _ :: _, [], _, h => by simp [leavesP] at h
  | p :: KS, v :: xs, l, h => by
    simp only [leavesP] at h
    split at h
    · rename_i l1 l2 h1 h2
      cases h
      exact isL_append (leavesA_kds h1) (leavesP_kds h2)
    · cases h

/-- A view of a block, in a memory of its own. -/
theorem view_ok (hW : WS S w₀ β M w) {ks : List Kd} {i off : Nat} {q q' : List AV} (h : viewA M ks i off = some q) (hn : normL q' = normL q) (βg : BM) : ∃ be, β i = some be ∧ BR βg (.lit q' false) { b := be.b, base := be.base + off, row := none } w := by
  unfold viewA at h
  split at h
  · rename_i cells rw hM
    split at h
    · rename_i q0 hq
      split at h
      · rename_i hk
        have hql : q0 = q := Option.some.inj h
        subst hql
        obtain ⟨be, hbe, c', e, fr, g1, g2, g3, g4, g5⟩ := hW.sim.blk i _ hM
        refine ⟨be, hbe, ?_⟩
        have hq' := sliceL_spec _ _ _ _ hq
        have hcells : ∀ j, j < ks.length → ∃ v, cells[off + j]? = some v := by
          intro j hj
          have e1 := hq'.2 j hj
          have : j < q0.length := by omega
          rw [List.getElem?_eq_getElem this] at e1
          exact ⟨_, e1.symm⟩
        have hlenq : q'.length = ks.length := by
          have := congrArg List.length hn
          rw [normL_length, normL_length] at this
          omega
        have hsub : be.base + off + ks.length ≤ c'.size := by
          rcases Nat.eq_zero_or_pos ks.length with h0 | h0
          · have hle : off ≤ cells.length := by
              have aux : ∀ (l : List AV) (o n : Nat) (x : List AV), sliceL l o n = some x → o ≤ l.length := by
                intro l
                induction l with
                | nil => intro o n x h; cases o <;> cases n <;> simp [sliceL] at h <;> simp
                | cons a r ih =>
                  intro o n x h
                  cases o with
                  | zero => simp
                  | succ o => cases n <;> (simp only [sliceL] at h; have := ih _ _ _ h; simp; omega)
              exact aux _ _ _ _ hq
            simp only [Blk.len] at g4
            omega
          · obtain ⟨v, hv⟩ := hcells (ks.length - 1) (by omega)
            have := (List.getElem?_eq_some_iff.1 hv).1
            simp only [Blk.len] at g4
            omega
        refine ⟨c', e, fr, g1, (fun hh => by cases hh), (fun n hn => by cases hn), ?_, ?_⟩
        · show be.base + off + q'.length ≤ c'.size
          rw [hlenq]
          exact hsub
        · have hs : ∃ ys : List Value, SRs βg q0 ys ∧ ∀ j, j < q0.length → c'[be.base + off + j]? = ys[j]? := by
            refine ⟨(List.range q0.length).map fun j => c'.getD (be.base + off + j) undef, ?_, ?_⟩
            · refine SRs.of_get (by simp) fun j v hj => ?_
              have hlt := (List.getElem?_eq_some_iff.1 hj).1
              have e2 := hq'.2 j (by omega)
              rw [hj] at e2
              obtain ⟨cv, k1, k2⟩ := g5 (off + j) v e2.symm
              refine ⟨cv, ?_, k2.flat (flatL_get (isL_flat hk) hj)⟩
              rw [List.getElem?_map, List.getElem?_range hlt]
              simp only [Option.map_some, Array.getD_eq_getD_getElem?]
              rw [Nat.add_assoc, k1]
              rfl
            · intro j hj
              rw [List.getElem?_map, List.getElem?_range hj]
              simp only [Option.map_some, Array.getD_eq_getD_getElem?]
              have : be.base + off + j < c'.size := by omega
              rw [Array.getElem?_eq_getElem this]
              rfl
          obtain ⟨ys, y1, y2⟩ := hs
          have y3 := alike (β := βg) hn y1
          intro j v hj
          obtain ⟨cv, k1, k2⟩ := y3.get hj
          have : j < q0.length := by have h7 := (List.getElem?_eq_some_iff.1 k1).1; rw [y1.length]; exact h7
          exact ⟨cv, by rw [y2 j this]; exact k1, k2⟩
      · cases h
    · cases h
  · cases h

/-- The arguments in a memory of their own. -/
theorem argsP_ok (hW : WS S w₀ β M w) : ∀ {KS : List PSh} {xs l l' : List AV} {cargs : List Value} {βg : BM} {b : Nat}, leavesP M KS xs = some l → normL l' = normL l → VRs β xs cargs →
    (∀ j be, (besP β KS xs)[j]? = some (some be) → βg (b + j) = some be) → VRs βg (argsP KS b l') cargs ∧
    ∀ j bk, (memP KS l').at j = some bk → ∃ be, (besP β KS xs)[j]? = some (some be) ∧ BR βg bk be w
  | [], [], l, l', cargs, βg, b, h, hn, hv, hb => by
    cases hv
    exact ⟨.nil, fun j bk hj => by simp [memP, Mem.at] at hj⟩
  | [], _ :: _, _, _, _, _, _, h, _, _, _ => by cases h
  | _ :: _, [], _, _, _, _, _, h, _, _, _ => by simp [leavesP] at h
  | p :: KS, v :: xs, l, l', cargs, βg, b, h, hn, hv, hb => by
    simp only [leavesP] at h
    split at h
    · rename_i l1 l2 h1 h2
      cases h
      cases hv with | cons _ c _ cs hc hcs =>
      have hk1 := leavesA_kds h1
      have hlen : l1.length = p.kds.length := isL_length hk1
      have hll : l'.length = l1.length + l2.length := by
        have := congrArg List.length hn
        rw [normL_length, normL_length, List.length_append] at this
        exact this
      have hsplit : l' = l'.take p.kds.length ++ l'.drop p.kds.length := (List.take_append_drop _ _).symm
      have hn' : normL (l'.take p.kds.length) = normL l1 ∧ normL (l'.drop p.kds.length) = normL l2 := by
        rw [hsplit, normL_append, normL_append] at hn
        refine List.append_inj hn ?_
        rw [normL_length, normL_length, List.length_take, hll, hlen]
        omega
      cases p with
      | val s =>
        obtain ⟨r1, r2⟩ := argsP_ok hW (βg := βg) (b := b) h2 hn'.2 hcs (fun j be hj => hb j be (by simpa only [besP] using hj))
        cases s with
        | sc k =>
          simp only [leavesA] at h1
          split at h1
          · rename_i hk
            cases h1
            cases l' with
            | nil => exfalso; simp at hll; omega
            | cons u l' =>
              refine ⟨?_, by simpa only [memP, besP, PSh.kds, List.length_singleton, List.drop_succ_cons, List.drop_zero] using r2⟩
              have hu : normK u = normK v := by
                have := hn'.1
                simp only [PSh.kds, List.length_singleton, List.take_succ_cons, List.take_zero, normL] at this
                exact (List.cons.inj this).1
              have hvs : ∀ l, v ≠ .agg l ∧ v ≠ .tup l := by
                intro l; cases k <;> cases v <;> first | (exact absurd hk Bool.false_ne_true) | (exact ⟨(fun h => by cases h), (fun h => by cases h)⟩)
              have hvf : v.flat = true := by cases k <;> cases v <;> first | rfl | (exact absurd hk Bool.false_ne_true)
              simp only [PSh.kds, List.length_singleton, List.drop_succ_cons, List.drop_zero] at r1
              refine .cons _ _ _ _ ?_ r1
              have hsv : SR βg v c := by
                cases hc with
                | sc _ _ hc => exact hc.flat hvf
                | agg l _ _ => exact absurd rfl (hvs l).1
                | tup l _ _ => exact absurd rfl (hvs l).2
              have hone : SRs βg [u] [c] := alike (l := [v]) (by simp [normL, hu]) (.cons _ _ _ _ hsv .nil)
              cases hone with | cons _ _ _ _ a _ => exact .sc _ _ a
          · cases h1
        | ag ks =>
          cases v <;> simp only [leavesA] at h1 <;> try (cases h1; done)
          split at h1
          · rename_i hk
            cases h1
            refine ⟨.cons _ _ _ _ ?_ (by simpa only [PSh.kds] using r1), by simpa only [memP, besP, PSh.kds] using r2⟩
            cases hc with
            | sc _ _ hc => cases hc
            | agg _ ys hc => exact .agg _ _ (alike hn'.1 (hc.flat (isL_flat hk)))
          · cases h1
      | ptr ks =>
        cases v <;> simp only [leavesA] at h1 <;> try (cases h1; done)
        rename_i i off
        obtain ⟨be, hbe, hbr⟩ := view_ok hW h1 hn'.1 βg
        obtain ⟨r1, r2⟩ := argsP_ok hW (βg := βg) (b := b + 1) h2 hn'.2 hcs (fun j be' hj => by
          have := hb (j + 1) be' (by simpa only [besP, List.getElem?_cons_succ] using hj)
          rw [show b + 1 + j = b + (j + 1) by omega]
          exact this)
        have h0 := hb 0 { b := be.b, base := be.base + off, row := none } (by simp [besP, hbe])
        refine ⟨.cons _ _ _ _ ?_ (by simpa only [PSh.kds] using r1), ?_⟩
        · cases hc with
          | sc _ _ hc =>
            cases hc with
            | ptr _ _ be' hb' =>
              rw [hbe] at hb'
              cases hb'
              exact .sc _ _ (SR.ptr (β := βg) b 0 _ h0)
        · intro j bk hj
          cases j with
          | zero =>
            simp only [memP, Mem.at, Option.some.injEq] at hj
            subst hj
            exact ⟨{ b := be.b, base := be.base + off, row := none }, by simp [besP, hbe], hbr⟩
          | succ j =>
            simp only [memP, Mem.at] at hj
            obtain ⟨be', k1, k2⟩ := r2 j bk (by simpa only [PSh.kds] using hj)
            exact ⟨be', by simpa only [besP, List.getElem?_cons_succ] using k1, k2⟩
      | slc ks n es =>
        cases v <;> simp only [leavesA] at h1 <;> try (cases h1; done)
        rename_i i off n' es'
        have hnn : (Nat.beq n n' && Nat.beq es es') = true := by
          cases hq : (Nat.beq n n' && Nat.beq es es') with
          | true => rfl
          | false => rw [hq] at h1; cases h1
        rw [hnn] at h1
        simp only [Bool.and_eq_true] at hnn
        have hn1 := Nat.eq_of_beq_eq_true hnn.1
        have hn2 := Nat.eq_of_beq_eq_true hnn.2
        subst hn1 hn2
        obtain ⟨be, hbe, hbr⟩ := view_ok hW h1 hn'.1 βg
        obtain ⟨r1, r2⟩ := argsP_ok hW (βg := βg) (b := b + 1) h2 hn'.2 hcs (fun j be' hj => by
          have := hb (j + 1) be' (by simpa only [besP, List.getElem?_cons_succ] using hj)
          rw [show b + 1 + j = b + (j + 1) by omega]
          exact this)
        have h0 := hb 0 { b := be.b, base := be.base + off, row := none } (by simp [besP, hbe])
        refine ⟨.cons _ _ _ _ ?_ (by simpa only [PSh.kds] using r1), ?_⟩
        · cases hc with
          | sc _ _ hc =>
            cases hc with
            | slc _ _ _ _ be' cap hb' hle _ =>
              rw [hbe] at hb'
              cases hb'
              exact .sc _ _ (SR.slc (β := βg) b 0 _ _ _ cap h0 hle (fun n hn => by cases hn))
        · intro j bk hj
          cases j with
          | zero =>
            simp only [memP, Mem.at, Option.some.injEq] at hj
            subst hj
            exact ⟨{ b := be.b, base := be.base + off, row := none }, by simp [besP, hbe], hbr⟩
          | succ j =>
            simp only [memP, Mem.at] at hj
            obtain ⟨be', k1, k2⟩ := r2 j bk (by simpa only [PSh.kds] using hj)
            exact ⟨be', by simpa only [besP, List.getElem?_cons_succ] using k1, k2⟩
    · cases h

end

/-! ### Results -/

theorem normAs_ok {β : BM} : ∀ {xs : List AV} {cs : List Value}, VRs β xs cs → (∀ v ∈ xs, ∀ l, v ≠ .tup l) → VRs β (normAs xs) cs
  | [], cs, h, _ => h
  | v :: xs, cs, h, ht => by
    cases h with | cons _ _ _ _ a b =>
    exact .cons _ _ _ _ (normA_ok a (ht v (List.mem_cons_self ..))) (normAs_ok b fun u hu => ht u (List.mem_cons_of_mem _ hu))

theorem untup_ok : ∀ {xs : List AV}, untup xs = true → ∀ v ∈ xs, ∀ l, v ≠ .tup l
  | [], _, v, hv, _ => by simp at hv
  | u :: r, h, v, hv, l => by
    cases u with
    | tup _ => cases h
    | _ =>
      rcases List.mem_cons.1 hv with rfl | hv
      · exact fun h => by cases h
      · exact untup_ok (by simpa only [untup] using h) v hv l

theorem normR_ok {β : BM} {v : AV} {c : Value} (h : VR β v c) (hu : untupR v = true) : VR β (normR v) c := by
  cases v with
  | tup l =>
    cases h with
    | sc _ _ h => cases h
    | tup _ ys h => exact .tup _ _ (normAs_ok h (untup_ok hu))
  | _ => exact normA_ok h (fun l h => by cases h)

/-! ### The summary -/

/-- What its kind says of a leaf. -/
def okK (x : Vars) (j : Nat) : Kd → Prop
  | .flt k => fltB k (x.u j) = true
  | .int k => inI k (x.i j) = true
  | _ => True

def OkV (ks : List Kd) (x : Vars) : Prop := ∀ j k, ks[j]? = some k → okK x j k

theorem isL_get : ∀ {ks : List Kd} {l : List AV}, isL ks l = true → ∀ {j : Nat} {k : Kd}, ks[j]? = some k → ∃ v, l[j]? = some v ∧ isK k v = true
  | [], _, _, j, k, h => by simp at h
  | _ :: _, [], h, _, _, _ => by cases h
  | k :: ks, v :: l, h, j, k', hj => by
    simp only [isL] at h
    split at h
    · rename_i hk
      cases j with
      | zero => simp only [List.getElem?_cons_zero, Option.some.injEq] at hj; subst hj; exact ⟨v, rfl, hk⟩
      | succ j => simpa using isL_get h (by simpa using hj)
    · cases h

theorem okV_of {β : BM} {ks : List Kd} {l : List AV} {cs : List Value} (h : isL ks l = true) (hs : SRs β l cs) : OkV ks (varsOf l) := by
  intro j k hj
  obtain ⟨v, h1, h2⟩ := isL_get h hj
  obtain ⟨c, _, h3⟩ := hs.get h1
  have hn : leafN l j = v := by unfold leafN; rw [List.getD_eq_getElem?_getD, h1]; rfl
  cases k with
  | flt k =>
    show fltB k (fltOf (leafN l j)) = true
    rw [hn]
    cases v <;> simp only [isK, decide_eq_true_eq, Bool.false_eq_true] at h2
    subst h2
    cases h3 with | flt _ _ _ _ hb => exact hb
  | int k =>
    show inI k (intOf (leafN l j)) = true
    rw [hn]
    cases v <;> simp only [isK, decide_eq_true_eq, Bool.false_eq_true] at h2
    · subst h2
      cases h3 with | int _ _ hb => exact hb
    · subst h2
      cases h3 with | sint _ _ hb => exact hb
  | bool => trivial
  | str => trivial

theorem viewA_srs {S : Nat → Prop} {w₀ w : World} {β : BM} {M : Mem} (hW : WS S w₀ β M w) {ks : List Kd} {i off : Nat} {l : List AV} (h : viewA M ks i off = some l) : ∃ cs, SRs β l cs := by
  unfold viewA at h
  split at h
  · rename_i cells rw hM
    split at h
    · rename_i q hq
      split at h
      · cases h
        obtain ⟨be, hbe, c', e, fr, g1, g2, g3, g4, g5⟩ := hW.sim.blk i _ hM
        have hq' := sliceL_spec _ _ _ _ hq
        refine ⟨(List.range l.length).map fun j => c'.getD (be.base + off + j) undef, SRs.of_get (by simp) fun j v hj => ?_⟩
        have hlt := (List.getElem?_eq_some_iff.1 hj).1
        have e2 := hq'.2 j (by omega)
        rw [hj] at e2
        obtain ⟨cv, k1, k2⟩ := g5 (off + j) v e2.symm
        refine ⟨cv, ?_, k2⟩
        rw [List.getElem?_map, List.getElem?_range hlt]
        simp only [Option.map_some, Array.getD_eq_getD_getElem?]
        rw [Nat.add_assoc, k1]
        rfl
      · cases h
    · cases h
  · cases h

/-- The arguments' leaves hold words of their kinds. -/
theorem leavesA_srs {S : Nat → Prop} {w₀ w : World} {β : BM} {M : Mem} (hW : WS S w₀ β M w) : ∀ {p : PSh} {v : AV} {l : List AV} {c : Value}, leavesA M p v = some l → VR β v c → ∃ cs, SRs β l cs
  | .val (.sc k), v, l, c, h, hc => by
    simp only [leavesA] at h
    split at h
    · rename_i hk
      cases h
      cases hc with
      | sc _ _ hc => exact ⟨[c], .cons _ _ _ _ hc .nil⟩
      | agg l _ _ => cases k <;> cases hk
      | tup l _ _ => cases k <;> cases hk
    · cases h
  | .val (.ag ks), v, l, c, h, hc => by
    cases v <;> simp only [leavesA] at h <;> try (cases h; done)
    split at h
    · cases h
      cases hc with
      | sc _ _ hc => cases hc
      | agg _ ys hc => exact ⟨ys, hc⟩
    · cases h
  | .ptr ks, v, l, c, h, hc => by
    cases v <;> simp only [leavesA] at h <;> try (cases h; done)
    exact viewA_srs hW h
  | .slc ks n es, v, l, c, h, hc => by
    cases v <;> simp only [leavesA] at h <;> try (cases h; done)
    split at h
    · exact viewA_srs hW h
    · cases h

theorem leavesP_okV {S : Nat → Prop} {w₀ w : World} {β : BM} {M : Mem} (hW : WS S w₀ β M w) {KS : List PSh} {xs l : List AV} {cargs : List Value} (h : leavesP M KS xs = some l) (hv : VRs β xs cargs) : OkV (kdsP KS) (varsOf l) := by
  have key : ∀ {KS : List PSh} {xs l : List AV} {cargs : List Value}, leavesP M KS xs = some l → VRs β xs cargs → ∃ cs, SRs β l cs := by
    intro KS
    induction KS with
    | nil =>
      intro xs l cargs h _
      cases xs with
      | nil => cases h; exact ⟨[], .nil⟩
      | cons _ _ => cases h
    | cons p KS ih =>
      intro xs l cargs h hv
      cases xs with
      | nil => simp [leavesP] at h
      | cons v xs =>
        simp only [leavesP] at h
        split at h
        · rename_i l1 l2 h1 h2
          cases h
          cases hv with | cons _ _ _ _ a b =>
          obtain ⟨c1, k1⟩ := leavesA_srs hW h1 a
          obtain ⟨c2, k2⟩ := ih h2 b
          exact ⟨c1 ++ c2, k1.append k2⟩
        · cases h
  obtain ⟨cs, hs⟩ := key h hv
  exact okV_of (leavesP_kds h) hs

/-- Function 'f' at leaves 'l'' comes to this. -/
def EvP (P : Program) (G : Summ) (f : Nat) (KS : List PSh) (RS : List Sh) (l : List AV) (y : Vars) : Prop :=
  ∃ n D H J l' v cs, HFun P (memP KS l').length H f ∧ normL l' = l ∧ funH P G H J n f (argsP KS 0 l') (memP KS l') D = some (v, cs) ∧ normR v = mkR y RS ∧ untupR v = true ∧ v.flat = true ∧ ∀ b ∈ cs, b = true

theorem EvP.ofH {P : Program} {G : Summ} {f : Nat} {KS : List PSh} {RS : List Sh} {l l' : List AV} {y : Vars} {D cs : List Bool} {H : LTab} {J : Bool} (hH : HFun P (memP KS l').length H f) (e : normL l' = l)
    (h : (funH P G H J 1000 f (argsP KS 0 l') (memP KS l') D).map (fun r => (normR r.1, untupR r.1 && r.1.flat, r.2)) = some (mkR y RS, true, cs)) (hcs : ∀ b ∈ cs, b = true) : EvP P G f KS RS l y := by
  cases hf : funH P G H J 1000 f (argsP KS 0 l') (memP KS l') D with
  | none => rw [hf] at h; cases h
  | some r =>
    rw [hf] at h
    simp only [Option.map_some, Option.some.injEq, Prod.mk.injEq, Bool.and_eq_true] at h
    obtain ⟨h1, ⟨h2, h3⟩, h4⟩ := h
    exact ⟨1000, D, H, J, l', r.1, r.2, hH, e, hf, h1, h2, h3, by rw [h4]; exact hcs⟩

theorem EvP.of {P : Program} {G : Summ} {f : Nat} {KS : List PSh} {RS : List Sh} {l l' : List AV} {y : Vars} {D cs : List Bool} (e : normL l' = l)
    (h : (funA P G 1000 f (argsP KS 0 l') (memP KS l') D).map (fun r => (normR r.1, untupR r.1 && r.1.flat, r.2)) = some (mkR y RS, true, cs)) (hcs : ∀ b ∈ cs, b = true) : EvP P G f KS RS l y :=
  EvP.ofH (H := noLT) (J := false) (HFun.none P _ f) e h hcs

theorem SoundG.sumP {P : Program} {G G' : Summ} (hG : SoundG P G) (hm : P.follows .mixedOrders = true) {f : Nat} (hc : Entered P f) {KS : List PSh} {RS : List Sh} {pre : List AV → List Bool} {R : List AV → Vars} (hG' : SoundG P G')
    (h : ∀ x, OkV (kdsP KS) x → (∀ b ∈ pre (mkL x 0 (kdsP KS)), b = true) → EvP P G' f KS RS (mkL x 0 (kdsP KS)) (R (mkL x 0 (kdsP KS)))) : SoundG P (addG f (Sim.sumP KS RS pre R) G) := by
  refine hG.add fun ys M r hr hcs S w₀ β w cargs hW _ hv => ?_
  unfold Sim.sumP at hr
  split at hr
  · rename_i l hl
    cases hr
    have hk := leavesP_kds hl
    have hmk := isL_mkL hk
    simp only at hcs
    rw [hmk] at hcs
    obtain ⟨n, D, H, J, l', v, cs, e0, e1, e2, e3, e4, e5, e6⟩ := h (varsOf l) (leavesP_okV hW hl hv) hcs
    rw [← hmk] at e1 e3
    let bs := besP β KS ys
    let βg : BM := fun j => (bs[j]?).join
    have hb : ∀ j be, (besP β KS ys)[j]? = some (some be) → βg (0 + j) = some be := by
      intro j be hj
      rw [Nat.zero_add]
      show ((besP β KS ys)[j]?).join = some be
      rw [hj]; rfl
    obtain ⟨r1, r2⟩ := argsP_ok hW (l' := l') (βg := βg) (b := 0) hl (by rw [e1]) hv hb
    unfold CallOk
    simp only
    have hq := quiet_callH hG' hm hc (mm := memP KS l') ⟨n, D, cs, H, J, e0, e2, e6⟩ e5 (by
      intro i bk hi
      have : ∀ (KS : List PSh) (l : List AV) (i : Nat) (bk : Blk), (memP KS l).at i = some bk → bk.rw = false := by
        intro KS
        induction KS with
        | nil => intro l i bk h; simp [memP, Mem.at] at h
        | cons p KS ih =>
          intro l i bk h
          cases p with
          | val s => simp only [memP] at h; exact ih _ _ _ h
          | ptr ks =>
            cases i with
            | zero => simp only [memP, Mem.at, Option.some.injEq] at h; subst h; rfl
            | succ i => simp only [memP, Mem.at] at h; exact ih _ _ _ h
          | slc ks n es =>
            cases i with
            | zero => simp only [memP, Mem.at, Option.some.injEq] at h; subst h; rfl
            | succ i => simp only [memP, Mem.at] at h; exact ih _ _ _ h
      exact this _ _ _ _ hi) (β := βg) (by
      intro i bk hi
      obtain ⟨be, k1, k2⟩ := r2 i bk hi
      refine ⟨be, ?_, k2⟩
      have := hb i be k1
      rwa [Nat.zero_add] at this) (by
      intro i hi
      show ((besP β KS ys)[i]?).join = none
      rw [memP_length (β := β) hl] at hi
      rw [List.getElem?_eq_none hi]
      rfl) r1 β
    rcases hq with ⟨g, q1, q2⟩ | ⟨u, w', q1, q2, q3⟩
    · refine .inl ⟨g, q1, q2.mono fun e w' ⟨u, he, h1, h2⟩ => ⟨u, he, h1, ?_⟩⟩
      have := normR_ok h2 e4
      rw [e3] at this
      exact this
    · refine .inr ⟨u, w', q1, q2, ?_⟩
      have := normR_ok q3 e4
      rw [e3] at this
      exact this
  · cases hr

/-! ### Leaves written out -/

theorem litL_norm : ∀ {l : List AV} {j : Nat} {n : Int}, (∀ k m, l[j]? = some (.sint k m) → m = n) → normL (litL l j n) = normL l
  | [], _, _, _ => rfl
  | v :: r, 0, n, h => by
    cases v with
    | sint k m =>
      have := h k m rfl
      subst this
      rfl
    | _ => rfl
  | v :: r, j + 1, n, h => by
    have ih := litL_norm (l := r) (j := j) (n := n) fun k m hk => h k m (by simpa using hk)
    cases v <;> simp only [litL, normL, ih]

theorem mkL_norm (x : Vars) : ∀ (j : Nat) (ks : List Kd), normL (mkL x j ks) = mkL x j ks
  | _, [] => rfl
  | j, k :: r => by simp only [mkL, normL, mkL_norm x (j + 1) r]; cases k <;> rfl

theorem mkL_get (x : Vars) : ∀ (j : Nat) (ks : List Kd) (q : Nat), (mkL x j ks)[q]? = (ks[q]?).map fun k => mkK x (j + q) k
  | _, [], q => by simp [mkL]
  | j, k :: r, 0 => by simp [mkL]
  | j, k :: r, q + 1 => by
    simp only [mkL, List.getElem?_cons_succ]
    rw [mkL_get x (j + 1) r q, show j + 1 + q = j + (q + 1) by omega]

theorem litL_mk {x : Vars} {ks : List Kd} {j : Nat} {n : Int} (h : x.i j = n) : normL (litL (mkL x 0 ks) j n) = mkL x 0 ks := by
  rw [litL_norm, mkL_norm]
  intro k m hk
  rw [mkL_get] at hk
  cases hks : ks[j]? with
  | none => rw [hks] at hk; cases hk
  | some kd =>
    rw [hks] at hk
    cases kd <;> simp [mkK] at hk
    omega

/-- .. one literal more. -/
theorem litL_mk2 {x : Vars} {ks : List Kd} {l : List AV} {j : Nat} {n : Int} (hl : normL l = mkL x 0 ks) (h : x.i j = n) : normL (litL l j n) = mkL x 0 ks := by
  rw [litL_norm, hl]
  intro k m hk
  have hg : (normL l)[j]? = some (.sint k m) := by
    have : ∀ {l : List AV} {j : Nat} {v : AV}, l[j]? = some v → (normL l)[j]? = some (normK v) := by
      intro l
      induction l with
      | nil => intro j v h; simp at h
      | cons a r ih =>
        intro j v h
        cases j with
        | zero => simp at h; subst h; simp [normL]
        | succ j => simpa [normL] using ih (by simpa using h)
    exact this hk
  rw [hl, mkL_get] at hg
  cases hks : ks[j]? with
  | none => rw [hks] at hg; cases hg
  | some kd =>
    rw [hks] at hg
    cases kd <;> simp [mkK] at hg
    omega

end Go.Sim

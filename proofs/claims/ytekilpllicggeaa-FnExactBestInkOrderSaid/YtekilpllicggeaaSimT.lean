/-
  Summaries by shapes.
-/
import Derived.Test.YtekilpllicggeaaSimS
namespace Go.Sim

section
variable {β : BM}

theorem normK_ok {v : AV} {c : Value} (h : SR β v c) : SR β (normK v) c := by
  cases h <;> simp only [normK] <;> constructor <;> assumption

theorem normL_ok {xs : List AV} {cs : List Value} (h : SRs β xs cs) : SRs β (normL xs) cs := by
  induction xs generalizing cs with
  | nil => cases h; exact .nil
  | cons x r ih => cases h with | cons _ _ _ _ a b => exact .cons _ _ _ _ (normK_ok a) (ih b)

theorem normA_ok {v : AV} {c : Value} (h : VR β v c) (ht : ∀ l, v ≠ .tup l) : VR β (normA v) c := by
  cases h with
  | sc _ _ h => exact .sc _ _ (by cases h <;> simp only [normA, normK] <;> constructor <;> assumption)
  | agg _ _ h => exact .agg _ _ (normL_ok h)
  | tup l _ _ => exact absurd rfl (ht l)

theorem isK_norm {k : Kd} {v : AV} (h : isK k v = true) (x : Vars) (j : Nat) (hu : x.u j = fltOf v) (hi : x.i j = intOf v) (hb : x.b j = boolOf v) (hs : x.s j = strOf v) : normK v = mkK x j k ∧ v.flat = true ∧ ∀ l, v ≠ .tup l := by
  cases k <;> cases v <;> simp only [isK, decide_eq_true_eq] at h <;> (try (exact absurd h Bool.false_ne_true)) <;> (try subst h) <;> simp_all [normK, mkK, fltOf, intOf, boolOf, strOf, AV.flat]

theorem isL_norm : ∀ {ks : List Kd} {l : List AV}, isL ks l = true → ∀ (x : Vars) (j : Nat), (∀ q, q < l.length → x.u (j + q) = fltOf (leafN l q) ∧ x.i (j + q) = intOf (leafN l q) ∧ x.b (j + q) = boolOf (leafN l q) ∧ x.s (j + q) = strOf (leafN l q)) → normL l = mkL x j ks ∧ flatL l = true ∧ ks.length = l.length
  | [], [], _, _, _, _ => ⟨rfl, rfl, rfl⟩
  | [], _ :: _, h, _, _, _ => by cases h
  | _ :: _, [], h, _, _, _ => by cases h
  | k :: ks, v :: l, h, x, j, hx => by
    simp only [isL] at h
    split at h
    · rename_i hk
      obtain ⟨h1, h2, h3, h4⟩ := hx 0 (by simp)
      obtain ⟨e1, e2, _⟩ := isK_norm hk x j h1 h2 h3 h4
      obtain ⟨r1, r2, r3⟩ := isL_norm h x (j + 1) fun q hq => by
        have := hx (q + 1) (by simp; omega)
        rw [show j + 1 + q = j + (q + 1) by omega]
        exact this
      exact ⟨by simp only [normL, mkL, e1, r1], by simp only [flatL, e2, r2, Bool.and_self], by simp [r3]⟩
    · cases h

theorem leafL_cons_agg (l r : List AV) : leafL (.agg l :: r) = l ++ leafL r := by simp [leafL]

theorem leafN_append_left {l r : List AV} {q : Nat} (h : q < l.length) : leafN (l ++ r) q = leafN l q := by
  unfold leafN
  simp only [List.getD_eq_getElem?_getD]
  rw [List.getElem?_append_left h]

theorem leafN_append_right {l r : List AV} {q : Nat} : leafN (l ++ r) (l.length + q) = leafN r q := by
  unfold leafN
  simp only [List.getD_eq_getElem?_getD]
  rw [List.getElem?_append_right (by omega)]
  simp

theorem isShs_norm : ∀ {KS : List Sh} {xs : List AV}, isShs KS xs = true → ∀ (x : Vars) (j : Nat), (∀ q, x.u (j + q) = fltOf (leafN (leafL xs) q) ∧ x.i (j + q) = intOf (leafN (leafL xs) q) ∧ x.b (j + q) = boolOf (leafN (leafL xs) q) ∧ x.s (j + q) = strOf (leafN (leafL xs) q)) →
    normAs xs = mkAs x j KS ∧ flatL xs = true ∧ ∀ v ∈ xs, ∀ l, v ≠ .tup l
  | [], [], _, _, _, _ => ⟨rfl, rfl, fun v hv => by simp at hv⟩
  | [], _ :: _, h, _, _, _ => by cases h
  | _ :: _, [], h, _, _, _ => by cases h
  | s :: KS, v :: xs, h, x, j, hx => by
    simp only [isShs] at h
    split at h
    · rename_i hs
      cases s with
      | sc k =>
        have hs : isK k v = true := hs
        have hnag : leafL (v :: xs) = v :: leafL xs := by
          cases k <;> cases v <;> first | rfl | (exact absurd hs Bool.false_ne_true)
        rw [hnag] at hx
        obtain ⟨h1, h2, h3, h4⟩ := hx 0
        obtain ⟨e1, e2, e3⟩ := isK_norm hs x j h1 h2 h3 h4
        have enorm : normA v = normK v := by
          cases k <;> cases v <;> first | rfl | (exact absurd hs Bool.false_ne_true)
        obtain ⟨r1, r2, r3⟩ := isShs_norm h x (j + 1) fun q => by
          have := hx (q + 1)
          rw [show j + 1 + q = j + (q + 1) by omega]
          exact this
        refine ⟨?_, by simp only [flatL, e2, r2, Bool.and_self], fun u hu l => ?_⟩
        · simp only [normAs, mkAs, mkA, Sh.size, enorm, e1, r1]
        · rcases List.mem_cons.1 hu with rfl | hu
          · exact e3 l
          · exact r3 u hu l
      | ag ks =>
        cases v <;> try (exact absurd hs Bool.false_ne_true)
        rename_i l
        have hs : isL ks l = true := hs
        rw [leafL_cons_agg] at hx
        obtain ⟨e1, e2, e3⟩ := isL_norm hs x j fun q hq => by
          have := hx q
          rw [leafN_append_left hq] at this
          exact this
        obtain ⟨r1, r2, r3⟩ := isShs_norm h x (j + ks.length) fun q => by
          have := hx (l.length + q)
          rw [leafN_append_right] at this
          rw [show j + ks.length + q = j + (l.length + q) by omega]
          exact this
        refine ⟨?_, by simp only [flatL, AV.flat, e2, r2, Bool.and_self], fun u hu l => ?_⟩
        · simp only [normAs, normA, mkAs, mkA, Sh.size, e1, r1]
        · rcases List.mem_cons.1 hu with rfl | hu
          · exact fun hh => by cases hh
          · exact r3 u hu l
    · cases h

theorem mkL_flat (x : Vars) : ∀ (j : Nat) (ks : List Kd), flatL (mkL x j ks) = true
  | _, [] => rfl
  | j, k :: r => by simp only [mkL, flatL, mkK_flat, mkL_flat x (j + 1) r, Bool.and_self]

theorem mkA_flat (x : Vars) (j : Nat) (s : Sh) : (mkA x j s).flat = true := by
  cases s with
  | sc k => exact mkK_flat x j k
  | ag ks => exact mkL_flat x j ks

theorem mkAs_flat (x : Vars) : ∀ (j : Nat) (l : List Sh), flatL (mkAs x j l) = true
  | _, [] => rfl
  | j, s :: r => by simp only [mkAs, flatL, mkA_flat, mkAs_flat x _ r, Bool.and_self]

theorem mkR_flat (x : Vars) (l : List Sh) : (mkR x l).flat = true := by
  match l with
  | [] => rfl
  | [s] => exact mkA_flat x 0 s
  | s :: s' :: r => exact mkAs_flat x 0 (s :: s' :: r)

end

/-- A summary by shapes. -/
theorem SoundG.sum {P : Program} {G G' : Summ} (hG : SoundG P G) (hm : P.follows .mixedOrders = true) {f n : Nat} (hc : Entered P f) {KS RS : List Sh} {R : List AV → Vars} (hG' : SoundG P G')
    (h : ∀ x, ∃ cs, funA P G' n f (mkAs x 0 KS) [] [] = some (mkR (R (mkAs x 0 KS)) RS, cs) ∧ ∀ b ∈ cs, b = true) : SoundG P (addG f (sumG KS RS R) G) := by
  refine hG.add fun ys M r hr _ S w₀ β w cargs hW _ hv => ?_
  unfold sumG at hr
  split at hr
  · rename_i hs
    cases hr
    obtain ⟨e1, e2, e3⟩ := isShs_norm hs (inV ys) 0 fun q => by rw [Nat.zero_add]; exact ⟨rfl, rfl, rfl, rfl⟩
    obtain ⟨cs, h1, h2⟩ := h (inV ys)
    rw [← e1] at h1
    unfold CallOk
    simp only
    refine quiet_call hG' hm hc ⟨n, [], cs, h1, h2⟩ (mkR_flat _ _) (fun i bk hi => by simp [Mem.at] at hi) (β := fun _ => none) (fun i bk hi => by simp [Mem.at] at hi) (fun _ _ => rfl) ?_ β
    have key : ∀ {l : List AV} {cs : List Value}, flatL l = true → (∀ v ∈ l, ∀ t, v ≠ .tup t) → VRs β l cs → VRs (fun _ => none) (normAs l) cs := by
      intro l
      induction l with
      | nil => intro cs _ _ h; cases h; exact .nil
      | cons x r ih =>
        intro cs hl ht h
        simp only [flatL, Bool.and_eq_true] at hl
        cases h with | cons _ _ _ _ a b => exact .cons _ _ _ _ (normA_ok (a.flat hl.1) (ht x (List.mem_cons_self ..))) (ih hl.2 (fun v hv => ht v (List.mem_cons_of_mem _ hv)) b)
    exact key e2 e3 hv
  · cases hr

end Go.Sim

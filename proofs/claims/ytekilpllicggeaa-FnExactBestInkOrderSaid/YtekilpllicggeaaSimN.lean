/-
  Frames: values and memory of a known form, as whatever slots and memory have them.
-/
import Derived.Test.YtekilpllicggeaaSimX
namespace Go.Sim

/-! ### Leaves -/

def Agr (x : Vars) (j : Nat) (l : List AV) : Prop := ∀ t v, l[t]? = some v → x.u (j + t) = fltOf v ∧ x.i (j + t) = intOf v ∧ x.b (j + t) = boolOf v ∧ x.s (j + t) = strOf v

def Agl (f : Nat → Nat) (q : Nat) (l : List Nat) : Prop := ∀ t n, l[t]? = some n → f (q + t) = n

theorem Agr.left {x : Vars} {j : Nat} {l l' : List AV} (h : Agr x j (l ++ l')) : Agr x j l := fun t v hv => h t v (getElem?_app hv l')

theorem Agr.right {x : Vars} {j : Nat} {l l' : List AV} (h : Agr x j (l ++ l')) : Agr x (j + l.length) l' := fun t v hv => by
  have := h (l.length + t) v (by rw [List.getElem?_append_right (by omega)]; simpa using hv)
  rwa [Nat.add_assoc]

theorem Agl.left {x : Nat → Nat} {j : Nat} {l l' : List Nat} (h : Agl x j (l ++ l')) : Agl x j l := fun t v hv => h t v (getElem?_app hv l')

theorem Agl.right {x : Nat → Nat} {j : Nat} {l l' : List Nat} (h : Agl x j (l ++ l')) : Agl x (j + l.length) l' := fun t v hv => by
  have := h (l.length + t) v (by rw [List.getElem?_append_right (by omega)]; simpa using hv)
  rwa [Nat.add_assoc]

theorem agr_varsOf (l : List AV) : Agr (varsOf l) 0 l := fun t v hv => by
  have := leafN_get hv
  simp [varsOf, this]

theorem mk_of {k : Kd} {v : AV} {β : BM} {c : Value} (h : isK k v = true) (hc : SR β v c) {x : Vars} {j : Nat} (ha : Agr x j [v]) : SR β (mkK x j k) c := by
  obtain ⟨h1, h2, h3, h4⟩ := ha 0 v rfl
  rw [Nat.add_zero] at h1 h2 h3 h4
  exact isK_mk h hc x j h1 h2 h3 h4

theorem mkL_of {β : BM} {x : Vars} : ∀ {ks : List Kd} {l : List AV} {cs : List Value} {j : Nat}, isL ks l = true → SRs β l cs → Agr x j l → SRs β (mkL x j ks) cs
  | [], [], cs, j, _, hc, _ => by cases hc; exact .nil
  | [], _ :: _, _, _, h, _, _ => by cases h
  | _ :: _, [], _, _, h, _, _ => by cases h
  | k :: ks, v :: l, cs, j, h, hc, ha => by
    simp only [isL] at h
    split at h
    · rename_i hk
      cases hc with | cons _ _ _ _ a b =>
      refine .cons _ _ _ _ (mk_of hk a (Agr.left (l := [v]) (l' := l) ha)) (mkL_of h b ?_)
      have := Agr.right (l := [v]) (l' := l) ha
      simpa using this
    · cases h

theorem isL_len : ∀ {ks : List Kd} {l : List AV}, isL ks l = true → l.length = ks.length
  | [], [], _ => rfl
  | [], _ :: _, h => by cases h
  | _ :: _, [], h => by cases h
  | k :: ks, v :: l, h => by
    simp only [isL] at h
    split at h
    · simp [isL_len h]
    · cases h

/-! ### Values -/

theorem okS_get : ∀ {sel : List Nat} {j i : Nat}, okS sel j i = true → sel[j]? = some i
  | [], _, _, h => by cases h
  | a :: r, 0, i, h => by
    simp only [okS] at h
    simp [Nat.eq_of_beq_eq_true h]
  | a :: r, j + 1, i, h => by
    simp only [okS] at h
    simpa using okS_get h

theorem sel_get {β : BM} {sel : List Nat} {j i : Nat} {be : BE} (h : sel[j]? = some i) (hb : β i = some be) : (β.sel sel) j = some be := by
  unfold BM.sel
  rw [h]
  exact hb

theorem sameC_eq {a b : AV} (h : sameC a b = true) : a = b ∧ a.flat = true := by
  unfold sameC at h
  split at h <;> first | exact ⟨rfl, rfl⟩ | skip
  · split at h <;> first | exact ⟨rfl, rfl⟩ | cases h
  · simp only [Bool.and_eq_true, decide_eq_true_eq] at h
    obtain ⟨rfl, rfl⟩ := h
    exact ⟨rfl, rfl⟩
  · simp only [Bool.and_eq_true, decide_eq_true_eq] at h
    obtain ⟨rfl, h⟩ := h
    have h := Nat.eq_of_beq_eq_true h
    subst h
    exact ⟨rfl, rfl⟩
  · cases h

theorem capsOk_ok {β : BM} {sel : List Nat} : ∀ {js : List Nat} {caps : List AV} {cs : List Value}, capsOk sel js caps = true → SRs β caps cs → SRs (β.sel sel) (js.map fun i => .ptr i 0) cs
  | [], [], cs, _, h => by cases h; exact .nil
  | [], _ :: _, _, h, _ => by cases h
  | j :: js, [], _, h, _ => by cases h
  | j :: js, v :: caps, cs, h, hc => by
    unfold capsOk at h
    split at h <;> try (cases h; done)
    · rename_i e1 e2; cases e1
    · rename_i j' js' i r e1 e2
      cases e1; cases e2
      split at h
      · rename_i hk
        cases hc with | cons _ _ _ _ a b =>
        cases a with | ptr _ _ be hb =>
        exact .cons _ _ _ _ (SR.ptr _ _ be (sel_get (okS_get hk) hb)) (capsOk_ok h b)
      · cases h

theorem rdV_len {sel : List Nat} {sh : VSh} {v : AV} {l : List AV} {q : List Nat} (h : rdV sel sh v = some (l, q)) : l.length = sh.nl ∧ q.length = sh.nq := by
  unfold rdV at h
  split at h
  all_goals first
    | (split at h
       · rename_i hk; cases h; first | exact ⟨rfl, rfl⟩ | exact ⟨isL_len hk, rfl⟩
       · cases h)
    | cases h

theorem rdV_vr {β : BM} {sel : List Nat} {sh : VSh} {v : AV} {l : List AV} {q : List Nat} {c : Value} {s : SV} {j p : Nat} (h : rdV sel sh v = some (l, q)) (ha : Agr s.x j l) (hl : Agl s.len p q) (hc : VR β v c) : VR (β.sel sel) (mkV s j p sh) c := by
  unfold rdV at h
  split at h
  · rename_i k
    split at h
    · rename_i hk
      cases h
      have hs : SR β v c := by
        cases hc with
        | sc _ _ hc => exact hc
        | agg l _ _ => exfalso; cases k <;> simp [isK] at hk
        | tup l _ _ => exfalso; cases k <;> simp [isK] at hk
      have hf : (mkK s.x j k).flat = true := mkK_flat ..
      exact .sc _ _ ((mk_of hk hs ha).flat hf)
    · cases h
  · split at h
    · rename_i ks l' hk
      cases h
      cases hc with
      | sc _ _ hc => cases hc
      | agg _ ys hc => exact .agg _ _ (SRs.flat (mkL_of hk hc ha) (mkL_flat ..))
    · cases h
  · split at h
    · rename_i j' o i o' hk
      cases h
      simp only [Bool.and_eq_true] at hk
      obtain ⟨h1, h2⟩ := hk
      have h2 := Nat.eq_of_beq_eq_true h2
      subst h2
      cases hc with | sc _ _ hc => cases hc with | ptr _ _ be hb => exact .sc _ _ (SR.ptr _ _ be (sel_get (okS_get h1) hb))
    · cases h
  · split at h
    · rename_i j' o n e i o' n' e' hk
      cases h
      simp only [Bool.and_eq_true] at hk
      obtain ⟨⟨⟨h1, h2⟩, h3⟩, h4⟩ := hk
      have h2 := Nat.eq_of_beq_eq_true h2
      have h3 := Nat.eq_of_beq_eq_true h3
      have h4 := Nat.eq_of_beq_eq_true h4
      subst h2 h3 h4
      cases hc with | sc _ _ hc => cases hc with | slc _ _ _ _ be cap hb q1 q2 => exact .sc _ _ (SR.slc _ _ _ _ be cap (sel_get (okS_get h1) hb) q1 q2)
    · cases h
  · rename_i j' o e i o' n e'
    split at h
    · rename_i hk
      cases h
      simp only [Bool.and_eq_true] at hk
      obtain ⟨⟨h1, h2⟩, h3⟩ := hk
      have h2 := Nat.eq_of_beq_eq_true h2
      have h3 := Nat.eq_of_beq_eq_true h3
      subst h2 h3
      have hn : s.len p = n := by have := hl 0 n rfl; simpa using this
      simp only [mkV, hn]
      cases hc with | sc _ _ hc => cases hc with | sslc _ _ _ _ be cap hb q1 q2 => exact .sc _ _ (SR.sslc _ _ _ _ be cap (sel_get (okS_get h1) hb) q1 q2)
    · cases h
  · rename_i j' o e i o' n e'
    split at h
    · rename_i hk
      cases h
      simp only [Bool.and_eq_true] at hk
      obtain ⟨⟨h1, h2⟩, h3⟩ := hk
      have h2 := Nat.eq_of_beq_eq_true h2
      have h3 := Nat.eq_of_beq_eq_true h3
      subst h2 h3
      have hn : s.len p = n := by have := hl 0 n rfl; simpa using this
      simp only [mkV, hn]
      cases hc with | sc _ _ hc => cases hc with | slc _ _ _ _ be cap hb q1 q2 => exact .sc _ _ (SR.sslc _ _ _ _ be cap (sel_get (okS_get h1) hb) q1 q2)
    · cases h
  · split at h
    · rename_i c' v' hk
      cases h
      obtain ⟨rfl, hf⟩ := sameC_eq hk
      exact hc.flat hf
    · cases h
  · split at h
    · rename_i f js f' caps hk
      cases h
      simp only [Bool.and_eq_true] at hk
      obtain ⟨h1, h2⟩ := hk
      have h1 := Nat.eq_of_beq_eq_true h1
      subst h1
      cases hc with | sc _ _ hc => cases hc with | fn _ _ cs hcs => exact .sc _ _ (SR.fn _ _ cs (capsOk_ok h2 hcs))
    · cases h
  · cases h

theorem rdVs_len {sel : List Nat} : ∀ {shs : List VSh} {vs : List AV} {l : List AV} {q : List Nat}, rdVs sel shs vs = some (l, q) → l.length = nls shs ∧ q.length = nqs shs
  | [], [], l, q, h => by cases h; exact ⟨rfl, rfl⟩
  | [], _ :: _, _, _, h => by cases h
  | _ :: _, [], _, _, h => by cases h
  | sh :: r, v :: vs, l, q, h => by
    simp only [rdVs] at h
    split at h
    · cases h
    · rename_i l1 q1 h1
      split at h
      · cases h
      · rename_i l2 q2 h2
        cases h
        obtain ⟨e1, e2⟩ := rdV_len h1
        obtain ⟨e3, e4⟩ := rdVs_len h2
        exact ⟨by simp [nls, e1, e3], by simp [nqs, e2, e4]⟩

theorem rdVs_vr {β : BM} {sel : List Nat} {s : SV} : ∀ {shs : List VSh} {vs : List AV} {l : List AV} {q : List Nat} {cs : List Value} {j p : Nat}, rdVs sel shs vs = some (l, q) → Agr s.x j l → Agl s.len p q → VRs β vs cs → VRs (β.sel sel) (mkVs s j p shs) cs
  | [], [], l, q, cs, j, p, h, _, _, hc => by cases hc; exact .nil
  | [], _ :: _, _, _, _, _, _, h, _, _, _ => by cases h
  | _ :: _, [], _, _, _, _, _, h, _, _, _ => by cases h
  | sh :: r, v :: vs, l, q, cs, j, p, h, ha, hl, hc => by
    simp only [rdVs] at h
    split at h
    · cases h
    · rename_i l1 q1 h1
      split at h
      · cases h
      · rename_i l2 q2 h2
        cases h
        obtain ⟨e1, e2⟩ := rdV_len h1
        cases hc with | cons _ _ _ _ a b =>
        refine .cons _ _ _ _ (rdV_vr h1 ha.left hl.left a) (rdVs_vr h2 ?_ ?_ b)
        · rw [← e1]; exact ha.right
        · rw [← e2]; exact hl.right

theorem VR.sr {β : BM} {v : AV} {c : Value} (h : VR β v c) (h1 : ∀ l, v ≠ .agg l) (h2 : ∀ l, v ≠ .tup l) : SR β v c := by
  cases h with
  | sc _ _ h => exact h
  | agg l _ _ => exact absurd rfl (h1 l)
  | tup l _ _ => exact absurd rfl (h2 l)

theorem rdV_sr {β : BM} {sel : List Nat} {sh : VSh} {v : AV} {l : List AV} {q : List Nat} {c : Value} {s : SV} {j p : Nat} (h : rdV sel sh v = some (l, q)) (ha : Agr s.x j l) (hl : Agl s.len p q) (hc : SR β v c) : SR (β.sel sel) (mkV s j p sh) c := by
  have hv := rdV_vr (s := s) (j := j) (p := p) h ha hl (.sc _ _ hc)
  refine hv.sr (fun l' e => ?_) (fun l' e => ?_)
  · cases sh with
    | sc k => cases k <;> cases e
    | ag ks =>
      cases v <;> simp only [rdV] at h <;> try (cases h; done)
      cases hc
    | cst c' =>
      simp only [rdV] at h
      split at h
      · rename_i hk
        obtain ⟨rfl, _⟩ := sameC_eq hk
        simp only [mkV] at e
        subst e
        cases hc
      · cases h
    | _ => cases e
  · cases sh with
    | sc k => cases k <;> cases e
    | cst c' =>
      simp only [rdV] at h
      split at h
      · rename_i hk
        obtain ⟨rfl, _⟩ := sameC_eq hk
        simp only [mkV] at e
        subst e
        cases hc
      · cases h
    | _ => cases e

theorem rdVs_sr {β : BM} {sel : List Nat} {s : SV} : ∀ {shs : List VSh} {vs : List AV} {l : List AV} {q : List Nat} {j p : Nat}, rdVs sel shs vs = some (l, q) → Agr s.x j l → Agl s.len p q → vs.length = (mkVs s j p shs).length ∧ ∀ (f : Nat → Option Value), (∀ t v, vs[t]? = some v → ∃ c, f t = some c ∧ SR β v c) → ∀ t v, (mkVs s j p shs)[t]? = some v → ∃ c, f t = some c ∧ SR (β.sel sel) v c
  | [], [], l, q, j, p, h, _, _ => ⟨rfl, fun f _ t v hv => by simp [mkVs] at hv⟩
  | [], _ :: _, _, _, _, _, h, _, _ => by cases h
  | _ :: _, [], _, _, _, _, h, _, _ => by cases h
  | sh :: r, v :: vs, l, q, j, p, h, ha, hl => by
    simp only [rdVs] at h
    split at h
    · cases h
    · rename_i l1 q1 h1
      split at h
      · cases h
      · rename_i l2 q2 h2
        cases h
        obtain ⟨e1, e2⟩ := rdV_len h1
        obtain ⟨g1, g2⟩ := rdVs_sr (β := β) (s := s) (j := j + sh.nl) (p := p + sh.nq) h2 (by rw [← e1]; exact ha.right) (by rw [← e2]; exact hl.right)
        refine ⟨by simp [mkVs, g1], fun f hf t u hu => ?_⟩
        cases t with
        | zero =>
          simp only [mkVs, List.getElem?_cons_zero, Option.some.injEq] at hu
          subst hu
          obtain ⟨c, c1, c2⟩ := hf 0 v (by simp)
          exact ⟨c, c1, rdV_sr h1 ha.left hl.left c2⟩
        | succ t =>
          simp only [mkVs, List.getElem?_cons_succ] at hu
          exact g2 (fun t => f (t + 1)) (fun t v hv => hf (t + 1) v (by simpa using hv)) t u hu

/-! ### Blocks -/

theorem sameKd_eq {k k' : Kd} (h : sameKd k k' = true) : k = k' := by
  cases k <;> cases k' <;> simp only [sameKd, decide_eq_true_eq] at h <;> first | rfl | (subst h; rfl) | cases h

/-- What a frame says of its blocks. -/
def BlkRel (sel : List Nat) (bk bk' : Blk) : Prop :=
  (bk'.rw = true → bk.rw = true) ∧ bk'.len = bk.len ∧ ∀ (β : BM) (be : BE) (w : World), BR β bk be w → BR (β.sel sel) bk' be w

theorem rdBs_len {sel : List Nat} {M : Mem} : ∀ {is : List Nat} {bs : List BSh} {l : List AV} {q ns : List Nat} {ys : List Vars}, rdBs sel M is bs = some (l, q, ns, ys) → is.length = bs.length ∧ ns.length = bs.length ∧ ys.length = bs.length
  | [], [], _, _, _, _, h => by cases h; exact ⟨rfl, rfl, rfl⟩
  | [], _ :: _, _, _, _, _, h => by cases h
  | _ :: _, [], _, _, _, _, h => by cases h
  | i :: is, b :: r, l, q, ns, ys, h => by
    simp only [rdBs] at h
    split at h
    · cases h
    · split at h
      · cases h
      · rename_i h2
        cases h
        obtain ⟨e1, e2, e3⟩ := rdBs_len h2
        exact ⟨by simp [e1], by simp [e2], by simp [e3]⟩

theorem mkBs_length (s : SV) : ∀ (b j q : Nat) (bs : List BSh), (mkBs s b j q bs).length = bs.length
  | _, _, _, [] => rfl
  | b, j, q, .lit shs rw :: r => by simp [mkBs, mkBs_length s (b + 1) _ _ r]
  | b, j, q, .sym k rw :: r => by simp [mkBs, mkBs_length s (b + 1) _ _ r]

theorem rdBs_ok {sel : List Nat} {M : Mem} {s : SV} : ∀ {is : List Nat} {bs : List BSh} {l : List AV} {q ns : List Nat} {ys : List Vars} {b j p : Nat}, rdBs sel M is bs = some (l, q, ns, ys) → Agr s.x j l → Agl s.len p q → (∀ t n, ns[t]? = some n → s.n (b + t) = n) → (∀ t y, ys[t]? = some y → s.y (b + t) = y) →
    ∀ t bk', Mem.at (mkBs s b j p bs) t = some bk' → ∃ i bk, is[t]? = some i ∧ M.at i = some bk ∧ BlkRel sel bk bk'
  | [], [], _, _, _, _, b, j, p, h, _, _, _, _, t, bk', ht => by simp [mkBs, Mem.at] at ht
  | [], _ :: _, _, _, _, _, _, _, _, h, _, _, _, _, _, _, _ => by cases h
  | _ :: _, [], _, _, _, _, _, _, _, h, _, _, _, _, _, _, _ => by cases h
  | i :: is, bs :: r, l, q, ns, ys, b, j, p, h, ha, hl, hn, hy, t, bk', ht => by
    simp only [rdBs] at h
    split at h
    · cases h
    · rename_i l1 q1 n1 y1 h1
      split at h
      · cases h
      · rename_i l2 q2 n2 y2 h2
        cases h
        have hn0 : s.n b = n1 := by have := hn 0 n1 rfl; simpa using this
        have hy0 : s.y b = y1 := by have := hy 0 y1 rfl; simpa using this
        have hn' : ∀ t n, n2[t]? = some n → s.n (b + 1 + t) = n := fun t n ht => by
          have := hn (t + 1) n (by simpa using ht)
          rwa [show b + 1 + t = b + (t + 1) by omega]
        have hy' : ∀ t y, y2[t]? = some y → s.y (b + 1 + t) = y := fun t y ht => by
          have := hy (t + 1) y (by simpa using ht)
          rwa [show b + 1 + t = b + (t + 1) by omega]
        cases bs with
        | lit shs rw =>
          simp only [rdB] at h1
          split at h1
          · rename_i cells rw' hM
            split at h1
            · rename_i hrw
              split at h1
              · rename_i l0 q0 h0
                cases h1
                obtain ⟨e1, e2⟩ := rdVs_len h0
                cases t with
                | zero =>
                  simp only [mkBs, Mem.at, Option.some.injEq] at ht
                  subst ht
                  refine ⟨i, _, rfl, hM, fun hr => ?_, ?_, fun β be w hbr => ?_⟩
                  · simp only [Blk.rw] at hr ⊢
                    subst hr
                    simpa using hrw
                  · simp only [Blk.len]
                    exact (rdVs_sr (β := fun _ => none) (s := s) h0 ha.left hl.left).1.symm
                  · obtain ⟨c, e, fr, k1, k2, k3, k4, k5⟩ := hbr
                    obtain ⟨g1, g2⟩ := rdVs_sr (β := β) (s := s) h0 ha.left hl.left
                    refine ⟨c, e, fr, k1, fun hr => k2 ?_, ?_, ?_, fun t v hv => g2 (fun t => c[be.base + t]?) (fun t v hv => k5 t v hv) t v hv⟩
                    · simp only [Blk.rw] at hr ⊢
                      subst hr
                      simpa using hrw
                    · simp only [Blk.len, ← g1] at *
                      exact k3
                    · simp only [Blk.len, ← g1] at *
                      exact k4
                | succ t =>
                  simp only [mkBs, Mem.at] at ht
                  obtain ⟨i', bk, g1, g2, g3⟩ := rdBs_ok (s := s) h2 (by rw [← e1]; exact ha.right) (by rw [← e2]; exact hl.right) hn' hy' t bk' ht
                  exact ⟨i', bk, by simpa using g1, g2, g3⟩
              · cases h1
            · cases h1
          · cases h1
        | sym k rw =>
          have rest : l1 = [] → q1 = [] → ∀ t, Mem.at (mkBs s b j p (.sym k rw :: r)) (t + 1) = some bk' → ∃ i' bk, (i :: is)[t + 1]? = some i' ∧ M.at i' = some bk ∧ BlkRel sel bk bk' := by
            intro z1 z2 t ht
            subst z1 z2
            simp only [mkBs, Mem.at] at ht
            obtain ⟨i', bk, g1, g2, g3⟩ := rdBs_ok (s := s) h2 (by simpa using ha) (by simpa using hl) hn' hy' t bk' ht
            exact ⟨i', bk, by simpa using g1, g2, g3⟩
          simp only [rdB] at h1
          split at h1
          · rename_i n k' y rw' hM
            split at h1
            · rename_i hk
              cases h1
              cases t with
              | succ t => exact rest rfl rfl t ht
              | zero =>
                simp only [mkBs, Mem.at, Option.some.injEq] at ht
                subst ht
                simp only [Bool.and_eq_true] at hk
                have hkk := sameKd_eq hk.1
                subst hkk
                subst hn0 hy0
                refine ⟨i, _, rfl, hM, fun hr => ?_, rfl, fun β be w hbr => ?_⟩
                · simp only [Blk.rw] at hr ⊢
                  subst hr
                  simpa using hk.2
                · obtain ⟨c, e, fr, k1, k2, k3, k4, k5⟩ := hbr
                  refine ⟨c, e, fr, k1, fun hr => k2 ?_, k3, k4, fun t htn => ?_⟩
                  · simp only [Blk.rw] at hr ⊢
                    subst hr
                    simpa using hk.2
                  · obtain ⟨cv, c1, c2⟩ := k5 t htn
                    exact ⟨cv, c1, c2.flat (mkK_flat ..)⟩
            · cases h1
          · rename_i cells rw' hM
            split at h1
            · rename_i hk
              cases h1
              cases t with
              | succ t => exact rest rfl rfl t ht
              | zero =>
                simp only [mkBs, Mem.at, Option.some.injEq] at ht
                subst ht
                simp only [Bool.and_eq_true] at hk
                refine ⟨i, _, rfl, hM, fun hr => ?_, by simp only [Blk.len, hn0], fun β be w hbr => ?_⟩
                · simp only [Blk.rw] at hr ⊢
                  subst hr
                  simpa using hk.2
                · rw [hn0, hy0]
                  have hs : BR β (.sym cells.length k (varsOf cells) rw') be w := hbr.toSym rfl hk.1 fun t v hv => by
                    have := leafN_get hv
                    simp [varsOf, this]
                  obtain ⟨c, e, fr, k1, k2, k3, k4, k5⟩ := hs
                  refine ⟨c, e, fr, k1, fun hr => k2 ?_, k3, k4, fun t htn => ?_⟩
                  · simp only [Blk.rw] at hr ⊢
                    subst hr
                    simpa using hk.2
                  · obtain ⟨cv, c1, c2⟩ := k5 t htn
                    exact ⟨cv, c1, c2.flat (mkK_flat ..)⟩
            · cases h1
          · cases h1

theorem nodupN_ne : ∀ {l : List Nat}, nodupN l = true → ∀ {a b i j : Nat}, l[a]? = some i → l[b]? = some j → a ≠ b → i ≠ j
  | [], _, a, b, i, j, h, _, _ => by simp at h
  | x :: r, h, a, b, i, j, ha, hb, hab => by
    have hmem : ∀ {l : List Nat} {x t : Nat}, l[t]? = some x → natMem x l = true := by
      intro l
      induction l with
      | nil => intro x t h; simp at h
      | cons y l ih =>
        intro x t h
        simp only [natMem]
        split
        · rfl
        · rename_i hne
          cases t with
          | zero => simp at h; subst h; rw [Nat.beq_refl] at hne; cases hne
          | succ t => exact ih (by simpa using h)
    simp only [nodupN] at h
    split at h
    · cases h
    · rename_i hx
      cases a with
      | zero =>
        cases b with
        | zero => exact absurd rfl hab
        | succ b =>
          simp only [List.getElem?_cons_zero, Option.some.injEq, List.getElem?_cons_succ] at ha hb
          subst ha
          intro e
          subst e
          rw [hmem hb] at hx
          cases hx
      | succ a =>
        cases b with
        | zero =>
          simp only [List.getElem?_cons_zero, Option.some.injEq, List.getElem?_cons_succ] at ha hb
          subst hb
          intro e
          subst e
          rw [hmem ha] at hx
          cases hx
        | succ b => exact nodupN_ne h (by simpa using ha) (by simpa using hb) (by omega)

theorem idsOk_get {sel : List Nat} : ∀ {A i : Nat}, idsOk sel A = true → i < A → sel[i]? = some i
  | 0, _, _, h => by omega
  | A + 1, i, h, hi => by
    simp only [idsOk] at h
    split at h
    · rename_i hk
      by_cases e : i = A
      · subst e; exact okS_get hk
      · exact idsOk_get h (by omega)
    · cases h

theorem selF_spec {R : Type} {F : Frm} {A : Nat} {xs : List AV} {M : Mem} : ∀ {bs : List BSh} {b : Nat} {acc : List Nat} {k : List Nat → Option R} {r : R}, selF F A xs M bs b acc k = some r → ∃ sel, k sel = some r
  | [], _, acc, k, r, h => ⟨acc, h⟩
  | _ :: bs, b, acc, k, r, h => by
    simp only [selF] at h
    split at h
    · exact selF_spec h
    · split at h
      · exact selF_spec h
      · split at h
        · exact selF_spec h
        · cases h

/-- What a match says. -/
structure Matched (F : Frm) (A : Nat) (xs : List AV) (M : Mem) (s : SV) (sel : List Nat) : Prop where
  len : sel.length = F.blks.length
  ids : ∀ i, i < A → sel[i]? = some i
  nodup : ∀ {a b i j : Nat}, sel[a]? = some i → sel[b]? = some j → a ≠ b → i ≠ j
  vals : ∀ (β : BM) (cs : List Value), VRs β xs cs → VRs (β.sel sel) (mkVs s 0 0 F.vals) cs
  blks : ∀ t bk', Mem.at (mkM F s) t = some bk' → ∃ i bk, sel[t]? = some i ∧ M.at i = some bk ∧ BlkRel sel bk bk'

theorem matchS_ok {R : Type} {F : Frm} {A : Nat} {xs : List AV} {M : Mem} {k : SV → List Nat → Option R} {r : R} (h : matchS F A xs M k = some r) : ∃ s sel, k s sel = some r ∧ Matched F A xs M s sel := by
  unfold matchS at h
  obtain ⟨sel, h⟩ := selF_spec h
  rw [forceK_eq] at h
  split at h
  · cases h
  · rename_i hs
    simp only [Bool.and_eq_true] at hs
    split at h
    · rename_i l1 q1 l2 q2 ns ys h1 h2
      rw [appendK_eq] at h
      have ha : Agr (varsOf (l1 ++ l2)) 0 (l1 ++ l2) := agr_varsOf _
      have hl : Agl (mkSV (l1 ++ l2) (q1 ++ q2) ns ys).len 0 (q1 ++ q2) := fun t n ht => by
        simp only [mkSV, Nat.zero_add]
        rw [List.getD_eq_getElem?_getD, ht]; rfl
      obtain ⟨e1, e2⟩ := rdVs_len h1
      obtain ⟨d1, d2, d3⟩ := rdBs_len h2
      refine ⟨_, sel, h, d1, fun i hi => idsOk_get hs.2 hi, fun ha hb hab => nodupN_ne hs.1 ha hb hab, fun β cs hc => rdVs_vr h1 ha.left hl.left hc, fun t bk' ht => ?_⟩
      refine rdBs_ok (s := mkSV (l1 ++ l2) (q1 ++ q2) ns ys) h2 ?_ ?_ ?_ ?_ t bk' ht
      · rw [← e1]
        have := ha.right
        rw [Nat.zero_add] at this
        exact this
      · rw [← e2]
        have := hl.right
        rw [Nat.zero_add] at this
        exact this
      · intro t n ht
        simp only [mkSV, Nat.zero_add]
        rw [List.getD_eq_getElem?_getD, ht]; rfl
      · intro t n ht
        simp only [mkSV, Nat.zero_add]
        rw [List.getD_eq_getElem?_getD, ht]; rfl
    · cases h

theorem matchF_ok {R : Type} {F : Frm} {A : Nat} {xs : List AV} {M : Mem} {k : SV → Option R} {r : R} (h : matchF F A xs M k = some r) : ∃ s sel, k s = some r ∧ Matched F A xs M s sel := matchS_ok h

section
variable {S : Nat → Prop} {w₀ w : World} {β β₀ : BM} {M : Mem} {nt : Nat} {E : Env} {a : Act} {ds : List Deferred}

theorem Matched.ws {F : Frm} {A : Nat} {xs : List AV} {s : SV} {sel : List Nat} (h : Matched F A xs M s sel) (hW : WS S w₀ β M w) : WS S w₀ (β.sel sel) (mkM F s) w := by
  have look : ∀ {t : Nat} {bk' : Blk} {be : BE}, Mem.at (mkM F s) t = some bk' → (β.sel sel) t = some be → ∃ i bk, sel[t]? = some i ∧ M.at i = some bk ∧ β i = some be ∧ (bk'.rw = true → bk.rw = true) := by
    intro t bk' be ht hb
    obtain ⟨i, bk, h1, h2, h3⟩ := h.blks t bk' ht
    unfold BM.sel at hb
    rw [h1] at hb
    exact ⟨i, bk, h1, h2, hb, h3.1⟩
  refine ⟨⟨fun t bk' ht => ?_, fun t u b1 b2 e1 e2 ht hu htu hr he1 he2 => ?_⟩, hW.fr, fun t bk be ht hr hb => ?_⟩
  · obtain ⟨i, bk, h1, h2, h3⟩ := h.blks t bk' ht
    obtain ⟨be, g1, g2⟩ := hW.sim.blk i bk h2
    exact ⟨be, sel_get h1 g1, h3.2.2 β be w g2⟩
  · obtain ⟨i, bi, i1, i2, i3, i4⟩ := look ht he1
    obtain ⟨j, bj, j1, j2, j3, j4⟩ := look hu he2
    exact hW.sim.sep i j bi bj e1 e2 i2 j2 (h.nodup i1 j1 htu) (i4 hr) i3 j3
  · obtain ⟨i, bi, i1, i2, i3, i4⟩ := look ht hb
    exact hW.own i bi be i2 (i4 hr) i3

theorem Matched.fresh {F : Frm} {A : Nat} {xs : List AV} {s : SV} {sel : List Nat} (h : Matched F A xs M s sel) : Fresh (β.sel sel) (mkM F s) := by
  intro i hi
  unfold mkM at hi
  rw [mkBs_length] at hi
  unfold BM.sel
  rw [List.getElem?_eq_none (by rw [h.len]; exact hi)]
  rfl

theorem Matched.le {F : Frm} {A : Nat} {xs : List AV} {s : SV} {sel : List Nat} (h : Matched F A xs M s sel) (hA : ∀ i, A ≤ i → β₀ i = none) (hb : BLe β₀ β) : BLe β₀ (β.sel sel) := by
  intro i be hi
  have hlt : i < A := by
    rcases Nat.lt_or_ge i A with h | h
    · exact h
    · rw [hA i h] at hi; cases hi
  exact sel_get (h.ids i hlt) (hb i be hi)

theorem getTs_ok {T : Tags} (hE : ER T β nt E a.tmps) : ∀ {ts : List Nat} {xs : List AV}, getTs E ts = some xs → ∃ cs : List Value, VRs β xs cs ∧ ts.length = cs.length ∧ ∀ (j t : Nat) (c : Value), ts[j]? = some t → cs[j]? = some c → a.tmps[t]? = some c
  | [], xs, h => by cases h; exact ⟨[], .nil, rfl, fun j t c h => by simp at h⟩
  | t :: ts, xs, h => by
    simp only [getTs] at h
    split at h
    · rename_i u v hu
      split at h
      · rename_i l hl
        cases h
        obtain ⟨cs, h1, h2, h3⟩ := getTs_ok hE hl
        obtain ⟨c, c1, c2, _⟩ := hE.get t _ hu
        refine ⟨c :: cs, .cons _ _ _ _ (c2 (holds_nil _)) h1, by simp [h2], fun j t' c' ht hc => ?_⟩
        cases j with
        | zero => simp only [List.getElem?_cons_zero, Option.some.injEq] at ht hc; subst ht hc; exact c1
        | succ j => exact h3 j t' c' (by simpa using ht) (by simpa using hc)
      · cases h
    · cases h

theorem mkE_get : ∀ {ts : List Nat} {vs : List AV} {t : Nat} {e : Ent}, (mkE ts vs).get t = some e → ∃ j : Nat, ts[j]? = some t ∧ vs[j]? = some e.v ∧ e.tg = []
  | [], vs, t, e, h => by simp [mkE, Env.get] at h
  | _ :: _, [], t, e, h => by simp [mkE, Env.get] at h
  | t' :: ts, v :: vs, t, e, h => by
    simp only [mkE] at h
    rw [env_get_cons] at h
    split at h
    · rename_i hs
      cases h
      simp only at hs
      exact ⟨0, by simp [hs], rfl, rfl⟩
    · obtain ⟨j, h1, h2, h3⟩ := mkE_get h
      exact ⟨j + 1, by simpa using h1, by simpa using h2, h3⟩

theorem mkE_uniq : ∀ {ts : List Nat} {vs : List AV}, nodupN ts = true → Uniq (mkE ts vs)
  | [], vs, _ => trivial
  | _ :: _, [], _ => trivial
  | t :: ts, v :: vs, h => by
    have hmem : ∀ {ts : List Nat} {vs : List AV} {x : Ent}, x ∈ mkE ts vs → natMem x.s ts = true := by
      intro ts
      induction ts with
      | nil => intro vs x hx; simp [mkE] at hx
      | cons t ts ih =>
        intro vs x hx
        cases vs with
        | nil => simp [mkE] at hx
        | cons v vs =>
          simp only [mkE] at hx
          simp only [natMem]
          rcases List.mem_cons.1 hx with rfl | hx
          · simp [Nat.beq_refl]
          · split
            · rfl
            · exact ih hx
    simp only [nodupN] at h
    split at h
    · cases h
    · rename_i hx
      refine ⟨fun x hx' e => ?_, mkE_uniq h⟩
      have := hmem hx'
      rw [e] at this
      simp only at this
      rw [this] at hx
      cases hx

/-- Slots and memory as a frame has them. -/
theorem Rel.frame {A : Nat} {ts : List Nat} {F : Frm} {R : Type} {k : SV → Option R} {r : R} (h : matchE A ts F E M k = some r) (hts : nodupN ts = true) (hA : ∀ i, A ≤ i → β₀ i = none) :
    ∃ s, k s = some r ∧ ∀ {S : Nat → Prop} {w₀ : World} {ds : List Deferred} {a : Act} {w : World}, Rel S w₀ β₀ nt ds E M a w → Rel S w₀ β₀ nt ds (mkE ts (mkVs s 0 0 F.vals)) (mkM F s) a w := by
  unfold matchE at h
  split at h
  · rename_i xs hxs
    obtain ⟨s, sel, h1, hm⟩ := matchF_ok h
    refine ⟨s, h1, fun {S w₀ ds a w} hrel => ?_⟩
    obtain ⟨⟨β, b1, b2, b3, b4⟩, b5, b6⟩ := hrel
    refine ⟨⟨β.sel sel, hm.le hA b1, ⟨b2.size, fun t e he => ?_⟩, hm.ws b3, hm.fresh⟩, b5, mkE_uniq hts⟩
    obtain ⟨cs, c1, c2, c3⟩ := getTs_ok b2 hxs
    obtain ⟨j, j1, j2, j3⟩ := mkE_get he
    obtain ⟨c, g1, g2⟩ := (hm.vals β cs c1).get j2
    exact ⟨c, c3 j t c j1 g1, fun _ => g2, fun hn => absurd (by rw [j3]; exact holds_nil _) hn⟩
  · cases h

end
end Go.Sim

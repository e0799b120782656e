/-
  Summaries of functions that write what is handed to them, or hand new blocks back.
-/
import Derived.Test.YtekilpllicggeaaSimV
namespace Go.Sim

section
variable {P : Program} {G : Summ}

/-- A body's end: its results, and what they make. -/
theorem end_ok2 {fn : Func} {S : Nat → Prop} {w₀ w' : World} {β : BM} {E' : Env} {m1 : Mem} {a' : Act} {l : List AV} {cs' : List Bool} (hr' : Rel S w₀ β fn.ntmps [] E' m1 a' w') (hl : resA P E' m1 fn.results.toList = some (l, cs')) (hcs : ∀ b ∈ cs', b = true) :
    a'.defers = [] ∧ ∃ β' vs u, (results fn a'.tmps).run P w' = .ok u w' ∧ BLe β β' ∧ WS S w₀ β' m1 w' ∧ Fresh β' m1 ∧ VRs β' l vs ∧ ∀ (β'' : BM) (l' : List AV), VRs β'' l' vs → VR β'' (oneA l') u := by
  obtain ⟨⟨β', b1, b2, b3, b4⟩, hd, _⟩ := hr'
  obtain ⟨vs, r1, r2⟩ := resA_ok (P := P) b2 b3 hl hcs
  have e1 : (results fn a'.tmps).run P w' = .ok (if h : vs.toArray.size = 1 then vs.toArray[0] else .tuple vs.toArray) w' := by
    unfold results
    rw [Sem.run_bind, Array.mapM_eq_mapM_toList, Sem.run_map]
    exact (congrArg (fun r : Result (List Value) => (r.andThen fun a w' => Result.ok a.toArray w').andThen fun a w' => Sem.run P (pure (if h : a.size = 1 then a[0] else Value.tuple a)) w') r1).trans rfl
  refine ⟨hd, β', vs, _, e1, b1, b3, b4, r2, fun β'' l' r2 => ?_⟩
  cases l' with
  | nil => cases r2; exact .tup _ _ .nil
  | cons u l =>
    cases r2 with | cons _ y _ ys hy hys =>
    cases l with
    | nil => cases hys; exact hy
    | cons u' l =>
      cases hys with | cons _ y' _ ys hy' hys =>
      simp only [List.size_toArray, List.length_cons, oneA]
      rw [dif_neg (by omega)]
      exact .tup _ _ (.cons _ _ _ _ hy (.cons _ _ _ _ hy' hys))

theorem outsT_ok {A : Nat} {l : List AV} {M : Mem} {cs : List Bool} : ∀ {k : Nat} {Fs : List Frm} {r : Tr}, outsT A l M cs k Fs = some r → ∃ (j : Nat) (F : Frm), Fs[j]? = some F ∧ matchF F A l M (fun s => some (Tr.out (k + j) s cs)) = some r
  | _, [], _, h => by cases h
  | k, F :: Fs, r, h => by
    simp only [outsT] at h
    split at h
    · rename_i t ht
      cases h
      exact ⟨0, F, rfl, ht⟩
    · obtain ⟨j, F', h1, h2⟩ := outsT_ok h
      exact ⟨j + 1, F', by simpa using h1, by rw [show k + (j + 1) = k + 1 + j by omega]; exact h2⟩

/-- A function's end, in one of some frames. -/
theorem funT_ok (hG : SoundG P G) (hm : P.follows .mixedOrders = true) {H : LTab} {J : Bool} {f A n : Nat} {Fs : List Frm} {xs : List AV} {m : Mem} {D : List Bool} {t : Tr} (hH : HFun P A H f) (h : funT P G H J n f A Fs xs m D = some t) (hok : t.ok)
    {S : Nat → Prop} {w₀ w : World} {β : BM} {cargs : List Value} (hA : ∀ i, A ≤ i → β i = none) (hW : WS S w₀ β m w) (hF : Fresh β m) (hv : VRs β xs cargs) :
    Calls P f ⟨cargs⟩ w fun e w' => ∃ c k s F, e = .returned c ∧ t.pick = .out k s ∧ Fs[k]? = some F ∧ ∃ β', BLe β β' ∧ Fresh β' (mkM F s) ∧ WS S w₀ β' (mkM F s) w' ∧ ∃ vs, VRs β' (mkVs s 0 0 F.vals) vs ∧ ∀ (β'' : BM) (l' : List AV), VRs β'' l' vs → VR β'' (oneA l') c := by
  unfold funT at h
  split at h
  · cases h
  · rename_i fn hf
    split at h
    · cases h
    · cases h
    · rename_i c hb hle
      have hle := Nat.le_of_ble_eq_true hle
      have hk : ∀ {x : EX} {E' : Env} {m1 : Mem} {cs1 : List Bool} {r' : Tr}, (match x with
        | .exit _ => none
        | _ => match resA P E' m1 fn.results.toList with
          | none => none
          | some (l, cs') => appendK cs' cs1 fun cs => outsT A l m1 cs 0 Fs) = some r' → (x = .normal ∨ x = .ret) ∧ ∃ l cs', resA P E' m1 fn.results.toList = some (l, cs') ∧ outsT A l m1 (cs' ++ cs1) 0 Fs = some r' := by
        intro x E' m1 cs1 r' h1
        have h1' : (x = .normal ∨ x = .ret) ∧ (match resA P E' m1 fn.results.toList with
          | none => none
          | some (l, cs') => appendK cs' cs1 fun cs => outsT A l m1 cs 0 Fs) = some r' := by
          cases x with
          | exit id => cases h1
          | normal => exact ⟨.inl rfl, h1⟩
          | ret => exact ⟨.inr rfl, h1⟩
        obtain ⟨hx, h1'⟩ := h1'
        split at h1'
        · cases h1'
        · rename_i l cs' hl
          rw [appendK_eq] at h1'
          exact ⟨hx, l, cs', hl, h1'⟩
      obtain ⟨_, h3⟩ := codeA_ok hG hm n (mgT_ok t.pick) (hH fn c hf hb) h ⟨hok, rfl⟩ (fun x E' m1 cs1 D1 r' h' hr' b hb => by
        obtain ⟨_, l, cs', _, e⟩ := hk h'
        obtain ⟨j, F, _, h2⟩ := outsT_ok e
        obtain ⟨s, sel, h3, _⟩ := matchF_ok h2
        cases h3
        exact hr'.1 b (List.mem_append_right _ hb))
      refine calls_of_wp hf hb (h3 S w₀ β [] _ w _ hA (begin_ok hle hW hF hv) fun x E' m1 cs1 D1 r' a' w' h' hr' hrel => ?_).wp
      obtain ⟨hx, l, cs', hl, e⟩ := hk h'
      obtain ⟨j, F, hj, h2⟩ := outsT_ok e
      obtain ⟨s, sel, h3, hmt⟩ := matchF_ok h2
      cases h3
      rw [Nat.zero_add] at hr'
      obtain ⟨hd, β', vs, u, u1, b1, b2, b3, b4, b5⟩ := end_ok2 hrel hl fun b hb => hr'.1 b (List.mem_append_left _ hb)
      have hpost : a'.defers = [] ∧ ∃ v', (results fn a'.tmps).run P w' = .ok v' w' ∧ ∃ c k s F, Ending.returned v' = .returned c ∧ t.pick = .out k s ∧ Fs[k]? = some F ∧ ∃ β', BLe β β' ∧ Fresh β' (mkM F s) ∧ WS S w₀ β' (mkM F s) w' ∧ ∃ vs, VRs β' (mkVs s 0 0 F.vals) vs ∧ ∀ (β'' : BM) (l' : List AV), VRs β'' l' vs → VR β'' (oneA l') c :=
        ⟨hd, u, u1, u, j, s, F, rfl, hr'.2.symm, hj, β'.sel sel, hmt.le hA b1, hmt.fresh, hmt.ws b2, vs, hmt.vals _ _ b4, b5⟩
      rcases hx with rfl | rfl
      · exact hpost
      · exact hpost

/-! ### What a summary lays over the caller's memory -/

theorem wbK_eq {R : Type} : ∀ {is : List Nat} {bs : List BSh} {m M : Mem} {k : Mem → Option R} {r : R}, wbK M is bs m k = some r → ∃ M', k M' = some r ∧ M'.length = M.length ∧
    ∀ i bk, M'.at i = some bk → (M.at i = some bk ∧ ∀ t b, is[t]? = some i → bs[t]? = some b → t < m.length → b.rw = false) ∨ ∃ (t : Nat) (b : BSh), is[t]? = some i ∧ bs[t]? = some b ∧ b.rw = true ∧ m.at t = some bk
  | i :: is, b :: bs, x :: m, M, k, r, h => by
    simp only [wbK] at h
    split at h
    · rename_i hb
      rw [setK_eq] at h
      obtain ⟨M', h1, h2, h3⟩ := wbK_eq h
      refine ⟨M', h1, by simpa using h2, fun i' bk hi => ?_⟩
      rcases h3 i' bk hi with ⟨g1, g2⟩ | ⟨t, b', g1, g2, g3, g4⟩
      · rcases at_set g1 with ⟨hne, g1⟩ | ⟨rfl, hx⟩
        · refine .inl ⟨g1, fun t b' ht hb' hlt => ?_⟩
          cases t with
          | zero => simp only [List.getElem?_cons_zero, Option.some.injEq] at ht; exact absurd ht.symm hne
          | succ t => exact g2 t b' (by simpa using ht) (by simpa using hb') (by simp at hlt; omega)
        · exact .inr ⟨0, b, rfl, rfl, hb, by simp only [Mem.at]; exact hx⟩
      · exact .inr ⟨t + 1, b', by simpa using g1, by simpa using g2, g3, by simpa only [Mem.at] using g4⟩
    · rename_i hb
      obtain ⟨M', h1, h2, h3⟩ := wbK_eq h
      refine ⟨M', h1, h2, fun i' bk hi => ?_⟩
      rcases h3 i' bk hi with ⟨g1, g2⟩ | ⟨t, b', g1, g2, g3, g4⟩
      · refine .inl ⟨g1, fun t b' ht hb' hlt => ?_⟩
        cases t with
        | zero => simp only [List.getElem?_cons_zero, Option.some.injEq] at hb'; subst hb'; exact hb
        | succ t => exact g2 t b' (by simpa using ht) (by simpa using hb') (by simp at hlt; omega)
      · exact .inr ⟨t + 1, b', by simpa using g1, by simpa using g2, g3, by simpa only [Mem.at] using g4⟩
  | [], bs, m, M, k, r, h => ⟨M, by simpa only [wbK] using h, rfl, fun i bk hi => .inl ⟨hi, fun t b ht => by simp at ht⟩⟩
  | _ :: _, [], m, M, k, r, h => ⟨M, by simpa only [wbK] using h, rfl, fun i bk hi => .inl ⟨hi, fun t b _ hb => by simp at hb⟩⟩
  | _ :: _, _ :: _, [], M, k, r, h => ⟨M, by simpa only [wbK] using h, rfl, fun i bk hi => .inl ⟨hi, fun t b _ _ hlt => by simp at hlt⟩⟩

theorem mkBs_rw (s : SV) : ∀ {bs : List BSh} {b j q t : Nat} {sh : BSh}, bs[t]? = some sh → ∃ bk, Mem.at (mkBs s b j q bs) t = some bk ∧ bk.rw = sh.rw
  | [], _, _, _, t, _, h => by simp at h
  | .lit shs rw :: r, b, j, q, t, sh, h => by
    cases t with
    | zero => simp only [List.getElem?_cons_zero, Option.some.injEq] at h; subst h; exact ⟨_, rfl, rfl⟩
    | succ t => simp only [mkBs, Mem.at]; exact mkBs_rw s (by simpa using h)
  | .sym k rw :: r, b, j, q, t, sh, h => by
    cases t with
    | zero => simp only [List.getElem?_cons_zero, Option.some.injEq] at h; subst h; exact ⟨_, rfl, rfl⟩
    | succ t => simp only [mkBs, Mem.at]; exact mkBs_rw s (by simpa using h)

theorem mkVs_flat (s : SV) : ∀ {shs : List VSh} {j q : Nat}, flatVs shs = true → flatL (mkVs s j q shs) = true
  | [], _, _, _ => rfl
  | v :: r, j, q, h => by
    simp only [flatVs] at h
    split at h
    · rename_i hv
      simp only [mkVs, flatL, mkVs_flat s h, Bool.and_true]
      cases v <;> first | exact mkK_flat .. | exact hv | cases hv
    · cases h

theorem mkBs_flat (s : SV) : ∀ {bs : List BSh} {b j q t : Nat} {sh : BSh} {bk : Blk}, bs[t]? = some sh → sh.flat = true → Mem.at (mkBs s b j q bs) t = some bk → bk.Flat
  | [], _, _, _, t, _, _, h, _, _ => by simp at h
  | .lit shs rw :: r, b, j, q, t, sh, bk, h, hf, ha => by
    cases t with
    | zero =>
      simp only [List.getElem?_cons_zero, Option.some.injEq] at h
      subst h
      simp only [mkBs, Mem.at, Option.some.injEq] at ha
      subst ha
      exact mkVs_flat s hf
    | succ t => simp only [mkBs, Mem.at] at ha; exact mkBs_flat s (by simpa using h) hf ha
  | .sym k rw :: r, b, j, q, t, sh, bk, h, hf, ha => by
    cases t with
    | zero =>
      simp only [mkBs, Mem.at, Option.some.injEq] at ha
      subst ha
      trivial
    | succ t => simp only [mkBs, Mem.at] at ha; exact mkBs_flat s (by simpa using h) hf ha

theorem outOk_ok : ∀ {a b : List BSh}, outOk a b = true → a.length ≤ b.length ∧ (∀ (t : Nat) (x : BSh), a[t]? = some x → x.rw = true → ∃ y : BSh, b[t]? = some y ∧ y.rw = true ∧ y.flat = true) ∧ (∀ (t : Nat) (y : BSh), a.length ≤ t → b[t]? = some y → y.rw = true ∧ y.flat = true)
  | [], [], _ => ⟨Nat.le_refl _, fun t x h => by simp at h, fun t y _ h => by simp at h⟩
  | [], b :: r, h => by
    simp only [outOk] at h
    split at h
    · rename_i hb
      simp only [Bool.and_eq_true] at hb
      obtain ⟨_, _, h3⟩ := outOk_ok h
      refine ⟨by simp, fun t x h => by simp at h, fun t y ht hy => ?_⟩
      cases t with
      | zero => simp at hy; subst hy; exact hb
      | succ t => exact h3 t y (by simp) (by simpa using hy)
    · cases h
  | _ :: _, [], h => by cases h
  | a :: r, b :: r', h => by
    simp only [outOk] at h
    split at h
    · rename_i hb
      obtain ⟨h1, h2, h3⟩ := outOk_ok h
      refine ⟨by simp [h1], fun t x ht hx => ?_, fun t y ht hy => ?_⟩
      · cases t with
        | zero =>
          simp at ht
          subst ht
          simp only [hx, Bool.not_true, Bool.false_or, Bool.and_eq_true] at hb
          exact ⟨b, rfl, hb⟩
        | succ t => simpa using h2 t x (by simpa using ht) hx
      · cases t with
        | zero => simp at ht
        | succ t => exact h3 t y (by simp at ht; omega) (by simpa using hy)
    · cases h

theorem BR.flatTo {β β' : BM} {bk : Blk} {be : BE} {w : World} (h : BR β bk be w) (hf : bk.Flat) : BR β' bk be w := by
  obtain ⟨c, e, fr, h1, h2, h3, h4, h5⟩ := h
  cases bk with
  | lit cells rw =>
    refine ⟨c, e, fr, h1, h2, h3, h4, fun j v hj => ?_⟩
    obtain ⟨cv, c1, c2⟩ := h5 j v hj
    exact ⟨cv, c1, c2.flat (flatL_get hf hj)⟩
  | sym n k y rw =>
    refine ⟨c, e, fr, h1, h2, h3, h4, fun j hj => ?_⟩
    obtain ⟨cv, c1, c2⟩ := h5 j hj
    exact ⟨cv, c1, c2.flat (mkK_flat y j k)⟩

theorem upTo_len : ∀ (b n : Nat), (upTo b n).length = n
  | _, 0 => rfl
  | b, n + 1 => by simp [upTo, upTo_len (b + 1) n]

theorem upTo_get : ∀ {b n j : Nat}, j < n → (upTo b n)[j]? = some (b + j)
  | b, 0, j, h => by omega
  | b, n + 1, 0, _ => by simp [upTo]
  | b, n + 1, j + 1, h => by
    simp only [upTo, List.getElem?_cons_succ]
    rw [upTo_get (by omega), show b + 1 + j = b + (j + 1) by omega]

theorem ren_to {β' β'' : BM} {sel : List Nat} {x : AV} {c : Value} (h : VR β' x c) (hk : renOk sel x = true) (hs : ∀ k be, k < sel.length → β' k = some be → β'' (sel.getD k 0) = some be) : VR β'' (ren sel x) c := by
  have lt : ∀ {k : Nat}, Nat.blt k sel.length = true → k < sel.length := fun h => by simpa [Nat.blt_eq] using h
  cases x with
  | ptr k o => cases h with | sc _ _ h => cases h with | ptr _ _ be hb => exact .sc _ _ (.ptr _ _ be (hs _ _ (lt hk) hb))
  | sptr k o n e z => cases h with | sc _ _ h => cases h with | sptr _ _ _ _ _ be hb h1 h2 => exact .sc _ _ (.sptr _ _ _ _ _ be (hs _ _ (lt hk) hb) h1 h2)
  | slc k o n e => cases h with | sc _ _ h => cases h with | slc _ _ _ _ be cap hb h1 h2 => exact .sc _ _ (.slc _ _ _ _ be cap (hs _ _ (lt hk) hb) h1 h2)
  | sslc k o n e => cases h with | sc _ _ h => cases h with | sslc _ _ _ _ be cap hb h1 h2 => exact .sc _ _ (.sslc _ _ _ _ be cap (hs _ _ (lt hk) hb) h1 h2)
  | _ => exact VR.flat h hk

theorem renL_to {β' β'' : BM} {sel : List Nat} {xs : List AV} {cs : List Value} (h : VRs β' xs cs) (hk : renOkL sel xs = true) (hs : ∀ k be, k < sel.length → β' k = some be → β'' (sel.getD k 0) = some be) : VRs β'' (renL sel xs) cs := by
  induction xs generalizing cs with
  | nil => cases h; exact .nil
  | cons x xs ih =>
    simp only [renOkL, Bool.and_eq_true] at hk
    cases h with | cons _ _ _ _ a b => exact .cons _ _ _ _ (ren_to a hk.1 hs) (ih b hk.2)

/-! ### Memory with literals for leaves -/

def Blk.norm : Blk → Blk
  | .lit c rw => .lit (normL c) rw
  | b => b

def SameN (M' M : Mem) : Prop := M'.map (Option.map Blk.norm) = M.map (Option.map Blk.norm)

theorem SameN.refl (M : Mem) : SameN M M := rfl

theorem SameN.len {M' M : Mem} (h : SameN M' M) : M'.length = M.length := by
  have := congrArg List.length h
  simpa using this

theorem SameN.at {M' M : Mem} (h : SameN M' M) {i : Nat} {bk : Blk} (hi : M'.at i = some bk) : ∃ bk', M.at i = some bk' ∧ bk.norm = bk'.norm := by
  rw [at_eq] at hi
  have h1 := congrArg (fun l : List (Option Blk) => (l[i]?).join) h
  simp only [List.getElem?_map] at h1
  rw [at_eq]
  cases hm : M'[i]? with
  | none => rw [hm] at hi; cases hi
  | some o =>
    rw [hm] at hi h1
    cases o with
    | none => cases hi
    | some b =>
      cases hi
      simp only [Option.map_some, Option.join_some] at h1
      cases hm2 : M[i]? with
      | none => rw [hm2] at h1; cases h1
      | some o2 =>
        rw [hm2] at h1
        cases o2 with
        | none => cases h1
        | some b2 =>
          simp only [Option.map_some, Option.join_some, Option.some.injEq] at h1
          exact ⟨b2, rfl, h1⟩

theorem norm_rw {a b : Blk} (h : a.norm = b.norm) : a.rw = b.rw ∧ a.len = b.len := by
  cases a <;> cases b <;> simp only [Blk.norm, reduceCtorEq, Blk.lit.injEq, Blk.sym.injEq] at h
  · rename_i c1 r1 c2 r2
    refine ⟨h.2, ?_⟩
    have := congrArg List.length h.1
    rw [normL_length, normL_length] at this
    exact this
  · exact ⟨h.2.2.2, h.1⟩

theorem normL_get {l : List AV} {j : Nat} : (normL l)[j]? = (l[j]?).map normK := by
  induction l generalizing j with
  | nil => simp [normL]
  | cons v r ih => cases j <;> simp [normL, ih]

theorem normK_sc {β : BM} {v v' : AV} {c : Value} (e : normK v' = normK v) (h : SR β v c) : SR β v' c := by
  have := normL_back (β := β) (l := [v']) (cs := [c]) (by
    have h2 := normL_ok (β := β) (.cons v c [] [] h .nil)
    simp only [normL, e] at h2 ⊢
    exact h2)
  cases this with | cons _ _ _ _ a _ => exact a

theorem BR.norm {β : BM} {a b : Blk} {be : BE} {w : World} (e : a.norm = b.norm) (h : BR β b be w) : BR β a be w := by
  obtain ⟨c, e1, fr, h1, h2, h3, h4, h5⟩ := h
  obtain ⟨r1, r2⟩ := norm_rw e
  refine ⟨c, e1, fr, h1, fun hr => h2 (by rw [← r1]; exact hr), fun n hn => by rw [r2]; exact h3 n hn, by rw [r2]; exact h4, ?_⟩
  cases a <;> cases b <;> simp only [Blk.norm, reduceCtorEq, Blk.lit.injEq, Blk.sym.injEq] at e
  · rename_i c1 k1 c2 k2
    intro j v hj
    have hg : (normL c1)[j]? = (normL c2)[j]? := by rw [e.1]
    rw [normL_get, normL_get, hj] at hg
    cases h6 : c2[j]? with
    | none => rw [h6] at hg; cases hg
    | some v2 =>
      rw [h6] at hg
      obtain ⟨cv, g1, g2⟩ := h5 j v2 h6
      exact ⟨cv, g1, normK_sc (by simpa using hg) g2⟩
  · obtain ⟨rfl, rfl, rfl, rfl⟩ := e
    exact h5

theorem WS.norm {S : Nat → Prop} {w₀ w : World} {β : BM} {M M' : Mem} (e : SameN M' M) (h : WS S w₀ β M w) : WS S w₀ β M' w := by
  refine ⟨⟨fun i bk hi => ?_, fun i j bi bj ei ej hi hj hij hr hei hej => ?_⟩, h.fr, fun i bk be hi hr hb => ?_⟩
  · obtain ⟨b2, h1, h2⟩ := e.at hi
    obtain ⟨be, h3, h4⟩ := h.sim.blk i b2 h1
    exact ⟨be, h3, h4.norm h2⟩
  · obtain ⟨b1, h1, h2⟩ := e.at hi
    obtain ⟨b2, h3, h4⟩ := e.at hj
    exact h.sim.sep i j b1 b2 ei ej h1 h3 hij (by rw [← (norm_rw h2).1]; exact hr) hei hej
  · obtain ⟨b1, h1, h2⟩ := e.at hi
    exact h.own i b1 be h1 (by rw [← (norm_rw h2).1]; exact hr) hb

/-- A summary of a function that writes what is handed to it, or hands new blocks back. -/
theorem SoundG.sumWX {G' : Summ} (hG : SoundG P G) (hm : P.follows .mixedOrders = true) {f : Nat} (hc : Entered P f) (hG' : SoundG P G') {Fi Fo : Frm} {pre : SV → List Bool} {R : SV → SV} (hout : outOk Fi.blks Fo.blks = true)
    (h : ∀ s, (∀ b ∈ pre s, b = true) → ∃ H J n D t Fs k M' xs', (∀ (β : BM) cargs, VRs β (mkVs s 0 0 Fi.vals) cargs → VRs β xs' cargs) ∧ SameN M' (mkM Fi s) ∧ HFun P Fi.blks.length H f ∧ funT P G' H J n f Fi.blks.length Fs xs' M' D = some t ∧ t.ok ∧ t.pick = .out k (R s) ∧ Fs[k]? = some Fo) :
    SoundG P (addG f (Sim.sumW Fi Fo pre R) G) := by
  refine hG.add fun xs M r hr hcs S w₀ β w cargs hW hfr hv => ?_
  unfold Sim.sumW at hr
  obtain ⟨s, sel, hr, hmt⟩ := matchS_ok hr
  obtain ⟨M1, hr, hlen, hM1⟩ := wbK_eq hr
  rw [appendK_eq, appendK_eq] at hr
  split at hr
  rotate_left
  · cases hr
  rename_i hren
  cases hr
  have hF := hfr (by simp)
  obtain ⟨H, J, n, D, t, Fs, k, M', xs', hX, hN, h1, h2, h3, h4, h5⟩ := h s hcs
  obtain ⟨o1, o2, o3⟩ := outOk_ok hout
  unfold CallOk
  simp only
  -- the callee's blocks that are written
  let S' : Nat → Prop := fun b => ∃ t bk be, Mem.at (mkM Fi s) t = some bk ∧ bk.rw = true ∧ (β.sel sel) t = some be ∧ be.b = b
  have hWi : WS S w₀ (β.sel sel) (mkM Fi s) w := hmt.ws hW
  have hFi : Fresh (β.sel sel) (mkM Fi s) := hmt.fresh
  have hWc : WS S' w (β.sel sel) (mkM Fi s) w := ⟨hWi.sim, Fr.refl _ w, fun i bk be hi hr hb => .inl ⟨i, bk, be, hi, hr, hb, rfl⟩⟩
  have hAl : (mkM Fi s).length = Fi.blks.length := mkBs_length ..
  refine .inl ⟨f, hc _ _, (funT_ok hG' hm h1 h2 h3 (fun i hi => hFi i (by rw [hAl]; exact hi)) (hWc.norm hN) (fun i hi => hFi i (by rw [← hN.len]; exact hi)) (hX _ _ (hmt.vals β cargs hv))).mono fun e w' he => ?_⟩
  obtain ⟨c, k', so, Fo', e1, e2, e3, β', b1, b2, b3, vs, b4, b5⟩ := he
  rw [h4] at e2
  cases e2
  rw [h5] at e3
  cases e3
  refine ⟨c, e1, ?_⟩
  have hAo : (mkM Fo (R s)).length = Fo.blks.length := mkBs_length ..
  have hsl : sel.length = Fi.blks.length := hmt.len
  -- what was there
  have hSlt : ∀ {b : Nat}, S' b → b < w.heap.size := by
    rintro b ⟨t, bk, be, q1, q2, q3, rfl⟩
    exact (hWi.sim.br q1 q3).lt
  have hkeep : ∀ {i : Nat} {bk : Blk}, M.at i = some bk → (∀ (t : Nat) (b : BSh), sel[t]? = some i → Fi.blks[t]? = some b → b.rw = false) → ∀ be, β i = some be → w'.heap[be.b]? = w.heap[be.b]? := by
    intro i bk hi hn be hb
    have hbr := hW.sim.br hi hb
    refine b3.fr.block be.b hbr.lt ?_
    rintro ⟨t, bk2, be2, q1, q2, q3, q4⟩
    obtain ⟨i2, bk3, g1, g2, g3⟩ := hmt.blks t bk2 q1
    have hb2 : β i2 = some be2 := by
      unfold BM.sel at q3
      rw [g1] at q3
      exact q3
    by_cases he : i2 = i
    · subst he
      have hlt : t < Fi.blks.length := by rw [← hsl]; exact (List.getElem?_eq_some_iff.1 g1).1
      obtain ⟨b, hb'⟩ : ∃ b, Fi.blks[t]? = some b := ⟨_, List.getElem?_eq_getElem hlt⟩
      have := hn t b g1 hb'
      obtain ⟨bk4, k1, k2⟩ := mkBs_rw s (b := 0) (j := nls Fi.vals) (q := nqs Fi.vals) hb'
      unfold mkM at q1
      rw [k1] at q1
      cases q1
      rw [k2, this] at q2
      cases q2
    · exact hW.sim.sep i2 i bk3 bk be2 be g2 hi he (g3.1 q2) hb2 hb q4
  let nn := Fo.blks.length - Fi.blks.length
  let β'' : BM := fun i => if i < M.length then β i else if i - M.length < nn then β' (Fi.blks.length + (i - M.length)) else none
  have hlt : ∀ {i : Nat} {be : BE}, β i = some be → i < M.length := fun {i be} hi => by
    rcases Nat.lt_or_ge i M.length with h | h
    · exact h
    · rw [hF i h] at hi; cases hi
  have hle : BLe β β'' := fun i be hi => by
    show (if i < M.length then β i else _) = some be
    rw [if_pos (hlt hi)]
    exact hi
  have hold : ∀ {i : Nat} {be : BE}, i < M.length → β'' i = some be → β i = some be := fun {i be} hl hb => by
    have : (if i < M.length then β i else if i - M.length < nn then β' (Fi.blks.length + (i - M.length)) else none) = some be := hb
    rw [if_pos hl] at this
    exact this
  have hnew : ∀ {i : Nat} {be : BE}, ¬ i < M.length → β'' i = some be → i - M.length < nn ∧ β' (Fi.blks.length + (i - M.length)) = some be := fun {i be} hl hb => by
    have : (if i < M.length then β i else if i - M.length < nn then β' (Fi.blks.length + (i - M.length)) else none) = some be := hb
    rw [if_neg hl] at this
    split at this
    · rename_i h; exact ⟨h, this⟩
    · cases this
  -- a block of the new memory: an old one as it was; one that was written; a new one
  have hcase : ∀ {i : Nat} {bk : Blk}, Mem.at (M1 ++ (mkM Fo (R s)).drop Fi.blks.length) i = some bk →
      (i < M.length ∧ M.at i = some bk ∧ (∀ (t : Nat) (b : BSh), sel[t]? = some i → Fi.blks[t]? = some b → b.rw = false)) ∨
      (i < M.length ∧ ∃ (t : Nat) (b : BSh), sel[t]? = some i ∧ Fi.blks[t]? = some b ∧ b.rw = true ∧ Mem.at (mkM Fo (R s)) t = some bk) ∨
      (¬ i < M.length ∧ Mem.at (mkM Fo (R s)) (Fi.blks.length + (i - M.length)) = some bk) := by
    intro i bk hi
    by_cases hl : i < M.length
    · have hi' : M1.at i = some bk := by
        rw [at_eq] at hi ⊢
        rwa [List.getElem?_append_left (by omega)] at hi
      rcases hM1 i bk hi' with ⟨g1, g2⟩ | ⟨t, b, g1, g2, g3, g4⟩
      · refine .inl ⟨hl, g1, fun t b ht hb => g2 t b ht hb ?_⟩
        have := (List.getElem?_eq_some_iff.1 hb).1
        omega
      · exact .inr (.inl ⟨hl, t, b, g1, g2, g3, g4⟩)
    · refine .inr (.inr ⟨hl, ?_⟩)
      rw [at_eq] at hi ⊢
      rw [List.getElem?_append_right (by omega), List.getElem?_drop, hlen] at hi
      exact hi
  have hsel : ∀ {t i : Nat} {be : BE}, sel[t]? = some i → β i = some be → β' t = some be := fun {t i be} ht hb => b1 t be (sel_get ht hb)
  -- where each block lies, and how
  have hplace : ∀ {i : Nat} {bk : Blk}, Mem.at (M1 ++ (mkM Fo (R s)).drop Fi.blks.length) i = some bk → ∃ be, β'' i = some be ∧ BR β'' bk be w' := by
    intro i bk hi
    rcases hcase hi with ⟨hl, g1, g2⟩ | ⟨hl, t, b, g1, g2, g3, g4⟩ | ⟨hl, g1⟩
    · obtain ⟨be, q1, q2⟩ := hW.sim.blk i bk g1
      exact ⟨be, hle _ _ q1, q2.mono hle (hkeep g1 g2 be q1)⟩
    · obtain ⟨be, q1, q2⟩ := b3.sim.blk t bk g4
      obtain ⟨y, y1, y2, y3⟩ := o2 t b g2 g3
      obtain ⟨bk0, z1, _⟩ := mkBs_rw s (b := 0) (j := nls Fi.vals) (q := nqs Fi.vals) g2
      obtain ⟨i0, bk1, z2, z3, _⟩ := hmt.blks t bk0 z1
      rw [g1] at z2
      cases z2
      obtain ⟨be', z4, _⟩ := hW.sim.blk i bk1 z3
      have := hsel g1 z4
      rw [q1] at this
      cases this
      exact ⟨be, hle _ _ z4, q2.flatTo (mkBs_flat (R s) y1 y3 g4)⟩
    · obtain ⟨be, q1, q2⟩ := b3.sim.blk _ bk g1
      have hlt2 := at_lt g1
      rw [hAo] at hlt2
      obtain ⟨y, hy⟩ : ∃ y, Fo.blks[Fi.blks.length + (i - M.length)]? = some y := ⟨_, List.getElem?_eq_getElem hlt2⟩
      obtain ⟨y1, y2⟩ := o3 _ y (by omega) hy
      refine ⟨be, ?_, q2.flatTo (mkBs_flat (R s) hy y2 g1)⟩
      show (if i < M.length then β i else if i - M.length < nn then β' (Fi.blks.length + (i - M.length)) else none) = some be
      rw [if_neg hl, if_pos (by show i - M.length < Fo.blks.length - Fi.blks.length; omega)]
      exact q1
  have hfresh : ∀ {i : Nat} {bk : Blk} {be : BE}, ¬ i < M.length → Mem.at (mkM Fo (R s)) (Fi.blks.length + (i - M.length)) = some bk → β'' i = some be → w.heap.size ≤ be.b := by
    intro i bk be hl hi hb
    obtain ⟨n1, n2⟩ := hnew hl hb
    have hlt2 := at_lt hi
    rw [hAo] at hlt2
    obtain ⟨y, hy⟩ : ∃ y, Fo.blks[Fi.blks.length + (i - M.length)]? = some y := ⟨_, List.getElem?_eq_getElem hlt2⟩
    obtain ⟨y1, y2⟩ := o3 _ y (by omega) hy
    obtain ⟨bk', k1, k2⟩ := mkBs_rw (R s) (b := 0) (j := nls Fo.vals) (q := nqs Fo.vals) hy
    have k1' := k1
    unfold mkM at hi
    rw [hi] at k1'
    cases k1'
    rcases b3.own _ bk be hi (by rw [k2, y1]) n2 with ho | ho
    · exfalso
      obtain ⟨t, bk0, be0, q1, q2, q3, q4⟩ := ho
      have hltt : t < Fi.blks.length := by have := at_lt q1; rwa [hAl] at this
      obtain ⟨z, hz⟩ : ∃ z, Fo.blks[t]? = some z := ⟨_, List.getElem?_eq_getElem (by omega)⟩
      obtain ⟨bkt, t1, _⟩ := mkBs_rw (R s) (b := 0) (j := nls Fo.vals) (q := nqs Fo.vals) hz
      exact b3.sim.sep _ t bk bkt be be0 hi t1 (by omega) (by rw [k2, y1]) n2 (b1 t be0 q3) q4.symm
    · exact ho
  refine ⟨β'', hle, ?_, ⟨⟨fun i bk hi => hplace hi, ?_⟩, ?_, ?_⟩, ?_⟩
  · intro i hi
    rw [List.length_append, List.length_drop, hlen, hAo] at hi
    show (if i < M.length then β i else if i - M.length < nn then β' (Fi.blks.length + (i - M.length)) else none) = none
    rw [if_neg (by omega), if_neg (by show ¬ i - M.length < Fo.blks.length - Fi.blks.length; omega)]
  · intro i j bi bj ei ej hi hj hij hr hei hej
    -- a block that was: where, and whether it was to be written
    have was : ∀ {i : Nat} {bk : Blk} {be : BE}, i < M.length → Mem.at (M1 ++ (mkM Fo (R s)).drop Fi.blks.length) i = some bk → β'' i = some be → ∃ bk0, M.at i = some bk0 ∧ (bk.rw = true → bk0.rw = true) ∧ β i = some be := by
      intro i bk be hl hi hb
      rcases hcase hi with ⟨_, g1, _⟩ | ⟨_, t, b, g1, g2, g3, g4⟩ | ⟨hn, _⟩
      · exact ⟨bk, g1, id, hold hl hb⟩
      · obtain ⟨bk0, z1, z1'⟩ := mkBs_rw s (b := 0) (j := nls Fi.vals) (q := nqs Fi.vals) g2
        obtain ⟨i0, bk1, z2, z3, z5⟩ := hmt.blks t bk0 z1
        rw [g1] at z2
        cases z2
        exact ⟨bk1, z3, fun _ => z5.1 (by rw [z1']; exact g3), hold hl hb⟩
      · exact absurd hl hn
    by_cases hl : i < M.length
    · obtain ⟨b1', w1, w2, w3⟩ := was hl hi hei
      by_cases hl2 : j < M.length
      · obtain ⟨b2', v1, _, v3⟩ := was hl2 hj hej
        exact hW.sim.sep i j b1' b2' ei ej w1 v1 hij (w2 hr) w3 v3
      · rcases hcase hj with ⟨hh, _⟩ | ⟨hh, _⟩ | ⟨_, g1⟩
        · exact absurd hh hl2
        · exact absurd hh hl2
        · have := hfresh hl2 g1 hej
          have := (hW.sim.br w1 w3).lt
          omega
    · rcases hcase hi with ⟨hh, _⟩ | ⟨hh, _⟩ | ⟨_, g1⟩
      · exact absurd hh hl
      · exact absurd hh hl
      · by_cases hl2 : j < M.length
        · obtain ⟨b2', v1, _, v3⟩ := was hl2 hj hej
          have := hfresh hl g1 hei
          have := (hW.sim.br v1 v3).lt
          omega
        · rcases hcase hj with ⟨hh, _⟩ | ⟨hh, _⟩ | ⟨_, g2⟩
          · exact absurd hh hl2
          · exact absurd hh hl2
          · exact b3.sim.sep _ _ bi bj ei ej g1 g2 (by omega) hr (hnew hl hei).2 (hnew hl2 hej).2
  · refine ⟨b3.fr.os.trans hW.fr.os, b3.fr.tape.trans hW.fr.tape, b3.fr.output.trans hW.fr.output, Nat.le_trans hW.fr.size b3.fr.size, fun q hq hs => ?_⟩
    rw [b3.fr.block q (Nat.lt_of_lt_of_le hq hW.fr.size) ?_]
    · exact hW.fr.block q hq hs
    · rintro ⟨t, bk0, be0, q1, q2, q3, rfl⟩
      rcases hWi.own t bk0 be0 q1 q2 q3 with ho | ho
      · exact hs ho
      · omega
  · intro i bk be hi hr hb
    rcases hcase hi with ⟨hl, g1, _⟩ | ⟨hl, t, b, g1, g2, g3, g4⟩ | ⟨hl, g1⟩
    · exact hW.own i bk be g1 hr (hold hl hb)
    · obtain ⟨bk0, z1, z1'⟩ := mkBs_rw s (b := 0) (j := nls Fi.vals) (q := nqs Fi.vals) g2
      obtain ⟨i0, bk1, z2, z3, z5⟩ := hmt.blks t bk0 z1
      rw [g1] at z2
      cases z2
      exact hW.own i bk1 be z3 (z5.1 (by rw [z1']; exact g3)) (hold hl hb)
    · exact .inr (Nat.le_trans hW.fr.size (hfresh hl g1 hb))
  · refine b5 β'' _ (renL_to b4 hren fun q be hq hb => ?_)
    rw [List.length_append, upTo_len, hsl] at hq
    by_cases hql : q < Fi.blks.length
    · obtain ⟨i, hi⟩ : ∃ i, sel[q]? = some i := ⟨_, List.getElem?_eq_getElem (by omega)⟩
      rw [List.getD_eq_getElem?_getD, List.getElem?_append_left (by omega), hi, Option.getD_some]
      obtain ⟨sh, hsh⟩ : ∃ sh, Fi.blks[q]? = some sh := ⟨_, List.getElem?_eq_getElem hql⟩
      obtain ⟨bk0, z1, _⟩ := mkBs_rw s (b := 0) (j := nls Fi.vals) (q := nqs Fi.vals) hsh
      obtain ⟨i0, bk1, z2, z3, _⟩ := hmt.blks q bk0 z1
      rw [hi] at z2
      cases z2
      obtain ⟨be', z4, _⟩ := hW.sim.blk i bk1 z3
      have := hsel hi z4
      rw [hb] at this
      cases this
      exact hle _ _ z4
    · rw [List.getD_eq_getElem?_getD, List.getElem?_append_right (by omega), hsl, upTo_get (by omega), Option.getD_some]
      show (if M.length + (q - Fi.blks.length) < M.length then _ else if M.length + (q - Fi.blks.length) - M.length < nn then β' (Fi.blks.length + (M.length + (q - Fi.blks.length) - M.length)) else none) = some be
      rw [if_neg (by omega), if_pos (by show M.length + (q - Fi.blks.length) - M.length < Fo.blks.length - Fi.blks.length; omega), show Fi.blks.length + (M.length + (q - Fi.blks.length) - M.length) = q by omega]
      exact hb

theorem SoundG.sumWN {G' : Summ} (hG : SoundG P G) (hm : P.follows .mixedOrders = true) {f : Nat} (hc : Entered P f) (hG' : SoundG P G') {Fi Fo : Frm} {pre : SV → List Bool} {R : SV → SV} (hout : outOk Fi.blks Fo.blks = true)
    (h : ∀ s, (∀ b ∈ pre s, b = true) → ∃ H J n D t Fs k M', SameN M' (mkM Fi s) ∧ HFun P Fi.blks.length H f ∧ funT P G' H J n f Fi.blks.length Fs (mkVs s 0 0 Fi.vals) M' D = some t ∧ t.ok ∧ t.pick = .out k (R s) ∧ Fs[k]? = some Fo) :
    SoundG P (addG f (Sim.sumW Fi Fo pre R) G) :=
  SoundG.sumWX hG hm hc hG' hout fun s hs => by
    obtain ⟨H, J, n, D, t, Fs, k, M', h1, h2⟩ := h s hs
    exact ⟨H, J, n, D, t, Fs, k, M', _, (fun _ _ h => h), h1, h2⟩

theorem SoundG.sumW {G' : Summ} (hG : SoundG P G) (hm : P.follows .mixedOrders = true) {f : Nat} (hc : Entered P f) (hG' : SoundG P G') {Fi Fo : Frm} {pre : SV → List Bool} {R : SV → SV} (hout : outOk Fi.blks Fo.blks = true)
    (h : ∀ s, (∀ b ∈ pre s, b = true) → ∃ H J n D t Fs k, HFun P Fi.blks.length H f ∧ funT P G' H J n f Fi.blks.length Fs (mkVs s 0 0 Fi.vals) (mkM Fi s) D = some t ∧ t.ok ∧ t.pick = .out k (R s) ∧ Fs[k]? = some Fo) :
    SoundG P (addG f (Sim.sumW Fi Fo pre R) G) :=
  SoundG.sumWN hG hm hc hG' hout fun s hs => by
    obtain ⟨H, J, n, D, t, Fs, k, h1⟩ := h s hs
    exact ⟨H, J, n, D, t, Fs, k, _, SameN.refl _, h1⟩

end
end Go.Sim

/-
  Single operations: what the abstract machine says of each, the model does.
-/
import Derived.Test.YtekilpllicggeaaSimC
namespace Go.Sim

theorem addr_add (b o j : Nat) : (⟨b, o, none⟩ : Addr).add j = ⟨b, o + j, none⟩ := by
  unfold Addr.add
  split
  · simp_all
  · rfl

/-! ### Types -/

structure TIOk (P : Program) (t : Nat) (ti : TI) : Prop where
  ex : ∃ info d z, P.info? t = some info ∧ P.underlying t = some d ∧ info.zero = some z ∧ cstL z.cells.toList = some ti.zero ∧ ti.kind = tkOf d ∧ ti.size = info.size ∧ ti.bytes = info.bytes

theorem tiOf_ok {P : Program} {t : Nat} {ti : TI} (h : tiOf P t = some ti) : TIOk P t ti := by
  unfold tiOf at h
  split at h
  · rename_i info d hi hd
    split at h
    · rename_i z hz
      split at h
      · rename_i l hl
        cases h
        exact ⟨info, d, z, hi, hd, hz, hl, rfl, rfl, rfl⟩
      · cases h
    · cases h
  · cases h

section
variable {P : Program} {t : Nat} {ti : TI}

theorem TIOk.sizeOf (h : TIOk P t ti) (w : World) : (sizeOf t).run P w = .ok ti.size w := by
  obtain ⟨info, d, z, h1, h2, h3, h4, h5, h6, h7⟩ := h
  simp [Go.sizeOf, typeInfo, h1, h6]

theorem TIOk.typeInfo (h : TIOk P t ti) (w : World) : ∃ info, (typeInfo t).run P w = .ok info w ∧ info.size = ti.size ∧ info.bytes = ti.bytes := by
  obtain ⟨info, d, z, h1, h2, h3, h4, h5, h6, h7⟩ := h
  exact ⟨info, by simp [Go.typeInfo, h1], h6.symm, h7.symm⟩

theorem tkOf_arr {d : TypeDesc} {n e : Nat} (h : TK.arr n e = tkOf d) : d = .array n e := by
  cases d <;> simp [tkOf] at h
  obtain ⟨rfl, rfl⟩ := h; rfl

theorem tkOf_slice {d : TypeDesc} {e : Nat} (h : TK.slice e = tkOf d) : d = .slice e := by
  cases d <;> simp [tkOf] at h
  subst h; rfl

theorem tkOf_struct {d : TypeDesc} {fs : List (Nat × Nat)} (h : TK.struct fs = tkOf d) : ∃ fields, d = .struct fields ∧ fields.toList.map (fun f => (f.offset, f.type)) = fs := by
  cases d <;> simp [tkOf] at h
  exact ⟨_, rfl, h.symm⟩

theorem TIOk.agg_arr (h : TIOk P t ti) {n e : Nat} (hk : ti.kind = .arr n e) : P.underlying t = some (.array n e) := by
  obtain ⟨info, d, z, h1, h2, h3, h4, h5, h6, h7⟩ := h
  rw [h2, tkOf_arr (hk.symm.trans h5)]

theorem TIOk.agg_struct (h : TIOk P t ti) {fs : List (Nat × Nat)} (hk : ti.kind = .struct fs) : ∃ fields, P.underlying t = some (.struct fields) ∧ fields.toList.map (fun f => (f.offset, f.type)) = fs := by
  obtain ⟨info, d, z, h1, h2, h3, h4, h5, h6, h7⟩ := h
  obtain ⟨fields, hf, hm⟩ := tkOf_struct (hk.symm.trans h5)
  exact ⟨fields, by rw [h2, hf], hm⟩

theorem TIOk.slice (h : TIOk P t ti) {e : Nat} (hk : ti.kind = .slice e) : P.underlying t = some (.slice e) := by
  obtain ⟨info, d, z, h1, h2, h3, h4, h5, h6, h7⟩ := h
  rw [h2, tkOf_slice (hk.symm.trans h5)]

/-- Whether a type is an array or a struct. -/
def TI.isAgg (ti : TI) : Bool :=
  match ti.kind with
  | .arr .. | .struct _ => true
  | _ => false

theorem TIOk.isAgg (h : TIOk P t ti) (w : World) : (isAgg t).run P w = .ok ti.isAgg w := by
  obtain ⟨info, d, z, h1, h2, h3, h4, h5, h6, h7⟩ := h
  unfold Go.isAgg TI.isAgg
  rw [Sem.run_bind, run_underlying h2, h5]
  cases d <;> rfl

end

/-! ### Constants -/

theorem cst1_ok {β : BM} {v : Value} {x : AV} (h : cst1 v = some x) : SR β x v := by
  unfold cst1 at h
  split at h
  · cases h; constructor
  · split at h
    · rename_i hi
      cases h
      exact .int _ _ hi
    · cases h
  · split at h
    · cases h
    · rename_i hn
      cases h
      simp only [Bool.or_eq_false_iff, Bool.not_eq_false'] at hn
      exact .flt _ _ _ (canon_of hn.1).symm hn.2
  all_goals first | (cases h; constructor; done) | (cases h; done)

theorem cstL_ok {β : BM} {l : List Value} {xs : List AV} (h : cstL l = some xs) : SRs β xs l := by
  induction l generalizing xs with
  | nil => simp [cstL] at h; subst h; exact .nil
  | cons v r ih =>
    simp only [cstL] at h
    split at h
    · rename_i a l ha hl
      cases h
      exact .cons _ _ _ _ (cst1_ok ha) (ih hl)
    · cases h

theorem cst_ok {β : BM} {v : Value} {x : AV} (h : cst v = some x) : VR β x v := by
  unfold cst at h
  split at h
  · rename_i cs
    split at h
    · rename_i l hl
      cases h
      exact .agg _ _ (cstL_ok hl)
    · cases h
  · exact .sc _ _ (cst1_ok h)

theorem TIOk.zero {P : Program} {t : Nat} {ti : TI} (h : TIOk P t ti) (β : BM) (w : World) : ∃ z, (zeroValue t).run P w = .ok z w ∧ SRs β ti.zero z.cells.toList := by
  obtain ⟨info, d, z, h1, h2, h3, h4, h5, h6, h7⟩ := h
  exact ⟨z, by simp [zeroValue, Go.typeInfo, h1, h3], cstL_ok h4⟩

/-! ### Slots -/

/-- Which tags hold: 'T' says so of each (a slot, and what it should be). -/
abbrev Tags := Nat × Bool → Prop

def holds (T : Tags) (tg : List (Nat × Bool)) : Prop := ∀ x ∈ tg, T x

/-- .. as the slots themselves say. -/
def tagsOf (E : Env) : Tags := fun x => ∃ e, E.get x.1 = some e ∧ e.v = .sbool x.2

/-- The tags say of a slot what it holds. -/
def Tells (T : Tags) (E : Env) : Prop := ∀ t e s, E.get t = some e → e.v = .sbool s → ∀ pol, T (t, pol) ↔ pol = s

theorem tells_tagsOf (E : Env) : Tells (tagsOf E) E := by
  intro t e s he hv pol
  constructor
  · rintro ⟨e', h1, h2⟩
    simp only at h1 h2
    rw [he] at h1
    cases h1
    rw [hv] at h2
    cases h2
    rfl
  · rintro rfl
    exact ⟨e, he, hv⟩

structure ER (T : Tags) (β : BM) (nt : Nat) (E : Env) (tmps : Array Value) : Prop where
  size : tmps.size = nt
  get : ∀ t e, E.get t = some e → ∃ c, tmps[t]? = some c ∧ (holds T e.tg → VR β e.v c) ∧ (¬ holds T e.tg → c = undef)

theorem ER.mono {T : Tags} {β β' : BM} {nt : Nat} {E : Env} {tmps : Array Value} (h : ER T β nt E tmps) (hb : BLe β β') : ER T β' nt E tmps :=
  ⟨h.size, fun t e he => let ⟨c, h1, h2, h3⟩ := h.get t e he; ⟨c, h1, fun hh => (h2 hh).mono hb, h3⟩⟩

theorem subTag_mem {x y : List (Nat × Bool)} (h : subTag x y = true) : ∀ z ∈ x, z ∈ y := by
  induction y with
  | nil =>
    cases x with
    | nil => simp
    | cons a x => simp [subTag] at h
  | cons b y ih =>
    cases x with
    | nil => simp
    | cons a x =>
      simp only [subTag] at h
      split at h
      · rename_i he
        have : a :: x = b :: y := of_decide_eq_true he
        rw [this]
        exact fun z hz => hz
      · exact fun z hz => List.mem_cons_of_mem _ (ih h z hz)

theorem holds_sub {T : Tags} {x y : List (Nat × Bool)} (h : subTag x y = true) (hy : holds T y) : holds T x :=
  fun z hz => hy z (subTag_mem h z hz)

theorem holds_nil (T : Tags) : holds T [] := fun x hx => by simp at hx

section
variable {T : Tags} {β : BM} {nt : Nat} {E : Env} {a : Act} {tg : List (Nat × Bool)}

theorem rd_ok (hE : ER T β nt E a.tmps) (ht : holds T tg) {x : Operand} {v : AV} (h : rd E tg x = some v) : VR β v (a.eval x) := by
  unfold rd at h
  cases x with
  | tmp t =>
    simp only at h
    split at h
    · rename_i e he
      split at h
      · rename_i hs
        cases h
        obtain ⟨c, h1, h2, _⟩ := hE.get t e he
        simp only [Act.eval, Array.getD_eq_getD_getElem?, h1, Option.getD_some]
        exact h2 (holds_sub hs ht)
      · cases h
    · cases h
  | const v => exact cst_ok h
  | global g => cases h
  | func f => cases h; exact .sc _ _ (.fn f [] [] .nil)

theorem rdL_ok (hE : ER T β nt E a.tmps) (ht : holds T tg) {xs : List Operand} {vs : List AV} (h : rdL E tg xs = some vs) : VRs β vs (xs.map a.eval) := by
  induction xs generalizing vs with
  | nil => simp [rdL] at h; subst h; exact .nil
  | cons x r ih =>
    simp only [rdL] at h
    split at h
    · cases h
    · rename_i v hv
      split at h
      · cases h
      · rename_i l hl
        cases h
        exact .cons _ _ _ _ (rd_ok hE ht hv) (ih hl)

theorem partsL_ok (hE : ER T β nt E a.tmps) (ht : holds T tg) {xs : List (Nat × Operand)} {vs : List (Nat × AV)} (h : partsL E tg xs = some vs) :
    vs.map (·.1) = xs.map (·.1) ∧ VRs β (vs.map (·.2)) (xs.map fun x => a.eval x.2) := by
  induction xs generalizing vs with
  | nil => simp [partsL] at h; subst h; exact ⟨rfl, .nil⟩
  | cons x r ih =>
    obtain ⟨i, x⟩ := x
    simp only [partsL] at h
    split at h
    · cases h
    · rename_i v hv
      split at h
      · cases h
      · rename_i l hl
        cases h
        obtain ⟨h1, h2⟩ := ih hl
        exact ⟨by simp [h1], .cons _ _ _ _ (rd_ok hE ht hv) h2⟩

end

/-! ### Elements at places that are no literals -/

theorem merge1_ok {β : BM} {s : Bool} {x y z : AV} (h : merge1 s x y = some z) : (∀ c, s = true → SR β x c → SR β z c) ∧ (∀ c, s = false → SR β y c → SR β z c) := by
  unfold merge1 at h
  repeat' split at h
  all_goals first
    | (cases h; done)
    | (cases h; refine ⟨fun c hs hc => ?_, fun c hs hc => ?_⟩ <;> cases hc <;> subst hs <;> constructor <;> done)
    | skip
  all_goals cases h
  all_goals refine ⟨fun c hs hc => ?_, fun c hs hc => ?_⟩ <;> subst hs <;> simp only [decide_eq_true_eq, Bool.and_eq_true, Nat.beq_eq] at * <;> first | exact hc | skip
  all_goals first
    | (rename_i e; obtain ⟨rfl, rfl⟩ := e; exact hc)
    | (rename_i e; obtain ⟨⟨⟨rfl, rfl⟩, rfl⟩, rfl⟩ := e; exact hc)
    | (rename_i e; obtain ⟨⟨⟨rfl, rfl⟩, rfl⟩, rfl⟩ := e; cases hc; constructor <;> assumption)
    | (subst_vars; exact hc)
    | (subst_vars; cases hc; constructor; done)
    | (subst_vars; cases hc; constructor; assumption)

theorem pickL_get {cells : List AV} {es : Nat} : ∀ {n off : Nat} {l : List AV}, pickL cells es off n = some l → l.length = n ∧ ∀ j, j < n → l[j]? = cells[off + j * es]?
  | 0, off, l, h => by cases h; exact ⟨rfl, fun j hj => absurd hj (Nat.not_lt_zero _)⟩
  | n + 1, off, l, h => by
    simp only [pickL] at h
    split at h
    · rename_i v hv
      split at h
      · rename_i r hr
        cases h
        obtain ⟨h1, h2⟩ := pickL_get hr
        refine ⟨by simp [h1], fun j hj => ?_⟩
        cases j with
        | zero => simpa using (sliceL_get hv (j := 0) (v := v) rfl).symm
        | succ j =>
          simp only [List.getElem?_cons_succ]
          rw [h2 j (by omega)]
          congr 1
          rw [Nat.succ_mul]
          omega
      · cases h
    · cases h

theorem selA_ok {l : List AV} {z : Int} {v u : AV} (h : selA l z = some v) (hu : l[z.toNat]? = some u) {β : BM} {c : Value} (hc : SR β u c) : SR β v c := by
  unfold selA at h
  split at h
  · cases h
  · split at h
    · cases h
    · split at h
      · rename_i hk
        cases h
        exact isK_mk (isKs_get hk hu) hc _ _ (by simp [colV, varsOf, itn, leafN_get hu]) (by simp [colV, varsOf, itn, leafN_get hu]) (by simp [colV, varsOf, itn, leafN_get hu]) (by simp [colV, varsOf, itn, leafN_get hu])
      · cases h

theorem selAs_ok {cells : List AV} {n es : Nat} {z : Int} (h0 : 0 ≤ z) (hn : z < n) : ∀ {c off : Nat} {l : List AV}, selAs cells n es z off c = some l →
    l.length = c ∧ ∀ (j : Nat) (v : AV), l[j]? = some v → ∃ u, cells[off + z.toNat * es + j]? = some u ∧ ∀ (β : BM) (c : Value), SR β u c → SR β v c
  | 0, off, l, h => by cases h; exact ⟨rfl, fun j v hj => by simp at hj⟩
  | c + 1, off, l, h => by
    simp only [selAs] at h
    split at h
    · cases h
    · rename_i p hp
      split at h
      · cases h
      · rename_i v hv
        split at h
        · rename_i r hr
          cases h
          obtain ⟨h1, h2⟩ := selAs_ok h0 hn hr
          refine ⟨by simp [h1], fun j v' hj => ?_⟩
          cases j with
          | zero =>
            simp at hj
            subst hj
            obtain ⟨q1, q2⟩ := pickL_get hp
            have hz : z.toNat < n := by omega
            have hz' : z.toNat < p.length := by omega
            refine ⟨p[z.toNat], ?_, fun β c hc => selA_ok hv (List.getElem?_eq_getElem hz') hc⟩
            rw [Nat.add_zero, ← q2 _ hz, List.getElem?_eq_getElem hz']
          | succ j =>
            obtain ⟨u, q1, q2⟩ := h2 j v' (by simpa using hj)
            exact ⟨u, by rw [← q1]; congr 1; omega, q2⟩
        · cases h

theorem pasteL_some {α : Type} : ∀ {l : List α} {o : Nat} {vs : List α}, o + vs.length ≤ l.length → ∃ x, pasteL l o vs = some x
  | [], 0, [], _ => ⟨[], rfl⟩
  | [], 0, v :: vs, h => by simp at h
  | [], o + 1, vs, h => by simp at h
  | a :: r, 0, [], _ => ⟨_, rfl⟩
  | a :: r, 0, v :: vs, h => by
    obtain ⟨x, hx⟩ := pasteL_some (l := r) (o := 0) (vs := vs) (by simp at h ⊢; omega)
    exact ⟨_, by simp only [pasteL, hx]; rfl⟩
  | a :: r, o + 1, vs, h => by
    obtain ⟨x, hx⟩ := pasteL_some (l := r) (o := o) (vs := vs) (by simp at h ⊢; omega)
    exact ⟨_, by simp only [pasteL, hx]; rfl⟩

def inZ (off n es len q : Nat) : Prop := off ≤ q ∧ q < off + n * es ∧ (q - off) % es < len

theorem putZ_ok {R : Type} {off n es : Nat} {vs : List AV} {z : Int} : ∀ {l : List AV} {p : Nat} {k : List AV → Option R} {r : R}, putZ off n es vs z p l k = some r →
    ∃ l', k l' = some r ∧ l'.length = l.length ∧ ∀ (j : Nat) (v : AV), l'[j]? = some v → ∃ x, l[j]? = some x ∧
      (inZ off n es vs.length (p + j) → merge1 (natI z (ofN ((p + j - off) / es))) (leafN vs ((p + j - off) % es)) x = some v) ∧ (¬ inZ off n es vs.length (p + j) → v = x)
  | [], p, k, r, h => ⟨[], h, rfl, fun j v hj => by simp at hj⟩
  | x :: l, p, k, r, h => by
    simp only [putZ] at h
    split at h
    · rename_i hb
      obtain ⟨l', h1, h2, h3⟩ := putZ_ok h
      refine ⟨x :: l', h1, by simp [h2], fun j v hj => ?_⟩
      cases j with
      | zero =>
        simp at hj
        subst hj
        refine ⟨x, rfl, fun hz => ?_, fun _ => rfl⟩
        obtain ⟨z1, z2, z3⟩ := hz
        simp only [Nat.add_zero] at z1 z2 z3
        have : (Nat.ble off p && Nat.blt p (off + n * es) && Nat.blt ((p - off) % es) vs.length) = true := by
          simp only [Bool.and_eq_true, Nat.ble_eq, Nat.blt_eq]
          exact ⟨⟨z1, z2⟩, z3⟩
        rw [this] at hb
        cases hb
      | succ j =>
        obtain ⟨u, q1, q2⟩ := h3 j v (by simpa using hj)
        rw [show p + 1 + j = p + (j + 1) by omega] at q2
        exact ⟨u, by simpa using q1, q2⟩
    · rename_i hb
      split at h
      · cases h
      · rename_i v hv
        obtain ⟨l', h1, h2, h3⟩ := putZ_ok h
        refine ⟨v :: l', h1, by simp [h2], fun j v' hj => ?_⟩
        cases j with
        | zero =>
          simp at hj
          subst hj
          refine ⟨x, rfl, fun _ => hv, fun hz => absurd ?_ hz⟩
          simp only [Bool.and_eq_true, Nat.ble_eq, Nat.blt_eq] at hb
          exact ⟨by simpa using hb.1.1, by simpa using hb.1.2, by simpa using hb.2⟩
        | succ j =>
          obtain ⟨u, q1, q2⟩ := h3 j v' (by simpa using hj)
          rw [show p + 1 + j = p + (j + 1) by omega] at q2
          exact ⟨u, by simpa using q1, q2⟩

/-- Cells written at an element's place, and all of them with what decides. -/
theorem BR.putZ {β : BM} {be : BE} {w : World} {cells cells' cells2 vs : List AV} {rw : Bool} {off n es : Nat} {z : Int} (h : BR β (.lit cells2 rw) be w) (h0 : 0 ≤ z) (hn : z < n) (hes : vs.length ≤ es)
    (hp : pasteL cells (off + z.toNat * es) vs = some cells2) (hl : cells'.length = cells.length)
    (hc : ∀ (j : Nat) (v : AV), cells'[j]? = some v → ∃ x, cells[j]? = some x ∧
      (inZ off n es vs.length j → merge1 (natI z (ofN ((j - off) / es))) (leafN vs ((j - off) % es)) x = some v) ∧ (¬ inZ off n es vs.length j → v = x)) :
    BR β (.lit cells' rw) be w := by
  obtain ⟨p1, p2, p3⟩ := pasteL_spec _ _ _ _ hp
  have hin : ∀ j, off + z.toNat * es ≤ j → j < off + z.toNat * es + vs.length → cells2[j]? = vs[j - (off + z.toNat * es)]? := by
    intro j a b
    rw [p3, List.append_assoc, List.getElem?_append_right (by rw [List.length_take]; omega), List.length_take, Nat.min_eq_left (by omega), List.getElem?_append_left (by omega)]
  have hout : ∀ j, ¬ (off + z.toNat * es ≤ j ∧ j < off + z.toNat * es + vs.length) → cells2[j]? = cells[j]? := by
    intro j a
    rcases Nat.lt_or_ge j (off + z.toNat * es) with b | b
    · rw [p3, List.append_assoc, List.getElem?_append_left (by rw [List.length_take]; omega), List.getElem?_take]
      simp [b]
    · have b' : off + z.toNat * es + vs.length ≤ j := by omega
      rw [p3, List.getElem?_append_right (by rw [List.length_append, List.length_take]; omega), List.length_append, List.length_take, Nat.min_eq_left (by omega), List.getElem?_drop]
      congr 1
      omega
  obtain ⟨c, e, fr, h1, h2, h3, h4, h5⟩ := h
  refine ⟨c, e, fr, h1, h2, fun n hn => by have := h3 n hn; simp only [Blk.len] at this ⊢; omega, by simp only [Blk.len] at h4 ⊢; omega, fun j v hj => ?_⟩
  obtain ⟨x, x1, x2, x3⟩ := hc j v hj
  have hzn : z.toNat * es + es ≤ n * es := by
    rw [← Nat.succ_mul]
    exact Nat.mul_le_mul_right _ (by omega)
  rcases Classical.em (off + z.toNat * es ≤ j ∧ j < off + z.toNat * es + vs.length) with hj1 | hj1
  · have hg : (j - off) % es = j - (off + z.toNat * es) := by
      rw [show j - off = (j - (off + z.toNat * es)) + z.toNat * es by omega, Nat.add_mul_mod_self_right]
      exact Nat.mod_eq_of_lt (by omega)
    have hd : (j - off) / es = z.toNat := by
      rw [show j - off = (j - (off + z.toNat * es)) + z.toNat * es by omega, Nat.add_mul_div_right _ _ (by omega), Nat.div_eq_of_lt (by omega), Nat.zero_add]
    have hm := x2 ⟨by omega, by omega, by omega⟩
    have hlt : j - (off + z.toNat * es) < vs.length := by omega
    obtain ⟨cv, q1, q2⟩ := h5 j vs[j - (off + z.toNat * es)] (by rw [hin j hj1.1 hj1.2, List.getElem?_eq_getElem hlt])
    refine ⟨cv, q1, (merge1_ok hm).1 cv ?_ ?_⟩
    · rw [hd]; simp only [natI, ofN]; exact decide_eq_true (by omega)
    · rw [hg, leafN_get (List.getElem?_eq_getElem hlt)]; exact q2
  · obtain ⟨cv, q1, q2⟩ := h5 j x (by rw [hout j hj1]; exact x1)
    refine ⟨cv, q1, ?_⟩
    rcases Classical.em (inZ off n es vs.length j) with hz | hz
    · have hm := x2 hz
      refine (merge1_ok hm).2 cv ?_ q2
      simp only [natI, ofN]
      refine decide_eq_false fun e => hj1 ?_
      obtain ⟨z1, z2, z3⟩ := hz
      have := Nat.div_add_mod (j - off) es
      have e' : (j - off) / es = z.toNat := by omega
      rw [e', Nat.mul_comm] at this
      omega
    · rw [x3 hz]; exact q2

/-! ### Loads -/

theorem cells_of {β : BM} {l : List AV} {f : Nat → Option Value} (h : ∀ (j : Nat) (v : AV), l[j]? = some v → ∃ c, f j = some c ∧ SR β v c) :
    ∃ cs, SRs β l cs ∧ ∀ (j : Nat) (c : Value), cs[j]? = some c → f j = some c := by
  induction l generalizing f with
  | nil => exact ⟨[], .nil, fun j c hj => by simp at hj⟩
  | cons x r ih =>
    obtain ⟨c, h1, h2⟩ := h 0 x (by simp)
    obtain ⟨cs, h3, h4⟩ := ih (f := fun j => f (j + 1)) fun j v hj => h (j + 1) v (by simpa using hj)
    refine ⟨c :: cs, .cons _ _ _ _ h2 h3, fun j c' hj => ?_⟩
    cases j with
    | zero => simp at hj; subst hj; exact h1
    | succ j => exact h4 j c' (by simpa using hj)

theorem cell_of {w : World} {b o : Nat} {c : Array Value} {e : TypeId} {fr : Nat × Nat} (h : w.heap[b]? = some (.cells c e fr)) : w.cell? ⟨b, o, none⟩ = c[o]? := by
  simp [World.cell?, h]

section
variable {P : Program} {S : Nat → Prop} {w₀ w : World} {β : BM} {m : Mem}

theorem loadA0_ok (hW : WS S w₀ β m w) {t : Nat} {x : AV} {r : OR} (h : loadA0 P m t x = some r) (hcs : ∀ b ∈ r.cs, b = true) {c : Value} (hx : VR β x c) :
    r.m = none ∧ r.nw = none ∧ ∃ v, (Instr.loadAt t c).run P w = .ok v w ∧ VR β r.v v := by
  unfold loadA0 at h
  split at h
  · rename_i i off
    split at h
    · cases h
    · rename_i ti hti
      have ht := tiOf_ok hti
      cases hx with | sc _ _ hx => cases hx with | ptr _ _ be hbe =>
      have hrun : ∀ (v : Value), (if ti.isAgg then (do let cs ← loadCells ⟨be.b, be.base + off, none⟩ ti.size; pure (Value.agg cs)) else load ⟨be.b, be.base + off, none⟩ : Sem Value).run P w = .ok v w →
          (Instr.loadAt t (.pointer (some ⟨be.b, be.base + off, none⟩))).run P w = .ok v w := by
        intro v hv
        simp only [Instr.loadAt, Instr.sureAddr, loadVar, Sem.run_bind, Sem.run_pure, Result.andThen_ok, ht.isAgg, Sem.run_ite, ht.sizeOf]
        simp only [Sem.run_ite, Sem.run_bind] at hv
        exact hv
      have hagg : ∀ (l : List AV), ti.isAgg = true → l.length = ti.size → (∀ (j : Nat) (v : AV), l[j]? = some v → ∃ cv, w.cell? ⟨be.b, be.base + off + j, none⟩ = some cv ∧ SR β v cv) →
          ∃ v, (Instr.loadAt t (.pointer (some ⟨be.b, be.base + off, none⟩))).run P w = .ok v w ∧ VR β (.agg l) v := by
        intro l ha hl hj
        obtain ⟨cs, h1, h2⟩ := cells_of hj
        refine ⟨.agg ⟨cs⟩, hrun _ ?_, .agg _ _ h1⟩
        rw [if_pos ha, Sem.run_bind, ← hl, h1.length, run_loadCells_list w ⟨be.b, be.base + off, none⟩ cs fun j v hv => by rw [addr_add]; exact h2 j v hv]
        rfl
      have hsc : ∀ (v : AV), ti.isAgg = false → (∃ cv, w.cell? ⟨be.b, be.base + off, none⟩ = some cv ∧ SR β v cv) →
          ∃ v', (Instr.loadAt t (.pointer (some ⟨be.b, be.base + off, none⟩))).run P w = .ok v' w ∧ VR β v v' := by
        intro v ha ⟨cv, h1, h2⟩
        refine ⟨cv, hrun _ ?_, .sc _ _ h2⟩
        rw [if_neg (by rw [ha]; exact Bool.false_ne_true), run_load, h1]
      split at h
      · cases h
      · rename_i cells rw hm
        obtain ⟨cc, e, fr, b1, b2, b3, b4, b5⟩ := hW.sim.br hm hbe
        have hcell : ∀ (j : Nat) (v : AV), cells[off + j]? = some v → ∃ cv, w.cell? ⟨be.b, be.base + off + j, none⟩ = some cv ∧ SR β v cv := by
          intro j v hj
          obtain ⟨cv, q1, q2⟩ := b5 (off + j) v hj
          exact ⟨cv, by rw [cell_of b1, Nat.add_assoc]; exact q1, q2⟩
        split at h
        · rename_i hk
          split at h
          · rename_i l hl
            cases h
            exact ⟨rfl, rfl, hagg l (by simp [TI.isAgg, hk]) (sliceL_spec _ _ _ _ hl).1 fun j v hj => hcell j v (sliceL_get hl hj)⟩
          · cases h
        · rename_i hk
          split at h
          · rename_i l hl
            cases h
            exact ⟨rfl, rfl, hagg l (by simp [TI.isAgg, hk]) (sliceL_spec _ _ _ _ hl).1 fun j v hj => hcell j v (sliceL_get hl hj)⟩
          · cases h
        · rename_i hk1 hk2
          split at h
          · rename_i v hl
            cases h
            refine ⟨rfl, rfl, hsc v ?_ ?_⟩
            · unfold TI.isAgg
              split
              · rename_i q; exact absurd q (hk1 _ _)
              · rename_i q; exact absurd q (hk2 _)
              · rfl
            · simpa using hcell 0 v (sliceL_get hl (by simp))
          · cases h
      · rename_i n k y rw hm
        obtain ⟨cc, e, fr, b1, b2, b3, b4, b5⟩ := hW.sim.br hm hbe
        have hcell : ∀ (j : Nat), off + j < n → ∃ cv, w.cell? ⟨be.b, be.base + off + j, none⟩ = some cv ∧ SR β (mkK y (off + j) k) cv := by
          intro j hj
          obtain ⟨cv, q1, q2⟩ := b5 (off + j) hj
          exact ⟨cv, by rw [cell_of b1, Nat.add_assoc]; exact q1, q2⟩
        have hA : ti.isAgg = true → off + ti.size ≤ n → ∃ v, (Instr.loadAt t (.pointer (some ⟨be.b, be.base + off, none⟩))).run P w = .ok v w ∧ VR β (.agg (symL k y off 0 ti.size)) v := by
          intro ha hb
          refine hagg _ ha (symL_length ..) fun j v hj => ?_
          rw [symL_get] at hj
          split at hj
          · rename_i hlt
            cases hj
            rw [Nat.zero_add]
            exact hcell j (by omega)
          · cases hj
        split at h
        · rename_i hk
          cases h
          have := hcs _ (List.mem_singleton.2 rfl)
          exact ⟨rfl, rfl, hA (by simp [TI.isAgg, hk]) (of_decide_eq_true this)⟩
        · rename_i hk
          cases h
          have := hcs _ (List.mem_singleton.2 rfl)
          exact ⟨rfl, rfl, hA (by simp [TI.isAgg, hk]) (of_decide_eq_true this)⟩
        · rename_i hk1 hk2
          cases h
          have := hcs _ (List.mem_singleton.2 rfl)
          refine ⟨rfl, rfl, hsc _ ?_ ?_⟩
          · unfold TI.isAgg
            split
            · rename_i q; exact absurd q (hk1 _ _)
            · rename_i q; exact absurd q (hk2 _)
            · rfl
          · simpa using hcell 0 (by simpa using of_decide_eq_true this)
  · cases h

theorem loadA_ok (hW : WS S w₀ β m w) {t : Nat} {x : AV} {r : OR} (h : loadA P m t x = some r) (hcs : ∀ b ∈ r.cs, b = true) {c : Value} (hx : VR β x c) :
    r.m = none ∧ r.nw = none ∧ ∃ v, (Instr.loadAt t c).run P w = .ok v w ∧ VR β r.v v := by
  unfold loadA at h
  split at h
  · rename_i i off n es z
    split at h
    · cases h
    · rename_i ti hti
      have ht := tiOf_ok hti
      cases hx with | sc _ _ hx => cases hx with | sptr _ _ _ _ _ be hbe hz0 hzn =>
      split at h
      · rename_i cells rw hm
        generalize hoff : off + z.toNat * es = off' 
        have hrun : ∀ (v : Value), (if ti.isAgg then (do let cs ← loadCells ⟨be.b, be.base + off', none⟩ ti.size; pure (Value.agg cs)) else load ⟨be.b, be.base + off', none⟩ : Sem Value).run P w = .ok v w →
            (Instr.loadAt t (.pointer (some ⟨be.b, be.base + off', none⟩))).run P w = .ok v w := by
          intro v hv
          simp only [Instr.loadAt, Instr.sureAddr, loadVar, Sem.run_bind, Sem.run_pure, Result.andThen_ok, ht.isAgg, Sem.run_ite, ht.sizeOf]
          simp only [Sem.run_ite, Sem.run_bind] at hv
          exact hv
        have hagg : ∀ (l : List AV), ti.isAgg = true → l.length = ti.size → (∀ (j : Nat) (v : AV), l[j]? = some v → ∃ cv, w.cell? ⟨be.b, be.base + off' + j, none⟩ = some cv ∧ SR β v cv) →
            ∃ v, (Instr.loadAt t (.pointer (some ⟨be.b, be.base + off', none⟩))).run P w = .ok v w ∧ VR β (.agg l) v := by
          intro l ha hl hj
          obtain ⟨cs, h1, h2⟩ := cells_of hj
          refine ⟨.agg ⟨cs⟩, hrun _ ?_, .agg _ _ h1⟩
          rw [if_pos ha, Sem.run_bind, ← hl, h1.length, run_loadCells_list w ⟨be.b, be.base + off', none⟩ cs fun j v hv => by rw [addr_add]; exact h2 j v hv]
          rfl
        have hsc : ∀ (v : AV), ti.isAgg = false → (∃ cv, w.cell? ⟨be.b, be.base + off', none⟩ = some cv ∧ SR β v cv) →
            ∃ v', (Instr.loadAt t (.pointer (some ⟨be.b, be.base + off', none⟩))).run P w = .ok v' w ∧ VR β v v' := by
          intro v ha ⟨cv, h1, h2⟩
          refine ⟨cv, hrun _ ?_, .sc _ _ h2⟩
          rw [if_neg (by rw [ha]; exact Bool.false_ne_true), run_load, h1]
        obtain ⟨cc, e, fr, b1, b2, b3, b4, b5⟩ := hW.sim.br hm hbe
        have hcell : ∀ {c : Nat} {l : List AV}, selAs cells n es z off c = some l → ∀ (j : Nat) (v : AV), l[j]? = some v → ∃ cv, w.cell? ⟨be.b, be.base + off' + j, none⟩ = some cv ∧ SR β v cv := by
          intro c l hl j v hj
          obtain ⟨u, u1, u2⟩ := (selAs_ok hz0 hzn hl).2 j v hj
          rw [hoff] at u1
          obtain ⟨cv, q1, q2⟩ := b5 _ u u1
          exact ⟨cv, by rw [cell_of b1, Nat.add_assoc]; exact q1, u2 _ _ q2⟩
        split at h
        · rename_i hk
          split at h
          · rename_i l hl
            cases h
            exact ⟨rfl, rfl, hagg l (by simp [TI.isAgg, hk]) (selAs_ok hz0 hzn hl).1 (hcell hl)⟩
          · cases h
        · rename_i hk
          split at h
          · rename_i l hl
            cases h
            exact ⟨rfl, rfl, hagg l (by simp [TI.isAgg, hk]) (selAs_ok hz0 hzn hl).1 (hcell hl)⟩
          · cases h
        · rename_i hk1 hk2
          split at h
          · rename_i v hl
            cases h
            refine ⟨rfl, rfl, hsc v ?_ ?_⟩
            · unfold TI.isAgg
              split
              · rename_i q; exact absurd q (hk1 _ _)
              · rename_i q; exact absurd q (hk2 _)
              · rfl
            · simpa using hcell hl 0 v rfl
          · cases h
      · exact loadA0_ok hW h hcs (.sc _ _ (.ptr _ _ _ hbe))
      · cases h
  · exact loadA0_ok hW h hcs hx

theorem loadA_adr {t : Nat} {x : AV} {r : OR} (h : loadA P m t x = some r) {c : Value} (hx : VR β x c) : ∃ q, c = .pointer (some q) := by
  unfold loadA at h
  split at h
  · cases hx with | sc _ _ hx => cases hx; exact ⟨_, rfl⟩
  · unfold loadA0 at h
    split at h
    · cases hx with | sc _ _ hx => cases hx; exact ⟨_, rfl⟩
    · cases h

/-! ### New blocks, stores -/

theorem newA_eq {cells : List AV} {k : Nat → AV} {r : OR} (h : newA m cells k = some r) : r = { v := k m.length, nw := some (.lit cells true) } := by
  simp only [newA, forceK_eq, Option.some.injEq] at h
  exact h.symm

theorem run_newRow (e : TypeId) (c : Array Value) : (newRow e c).run P w = .ok ⟨w.heap.size, 0, none⟩ (w.alloc (.cells c e)) := rfl

theorem storeA0_ok (hW : WS S w₀ β m w) {t : Nat} {x u : AV} {r : OR} (h : storeA0 P m t x u = some r) (hcs : ∀ b ∈ r.cs, b = true) {c v : Value} (hx : VR β x c) (hu : VR β u v) :
    ∃ w' m', r.m = some m' ∧ r.nw = none ∧ m'.length = m.length ∧ r.v = .tup [] ∧ (Instr.storeAt t c v).run P w = .ok () w' ∧ WS S w₀ β m' w' := by
  unfold storeA0 at h
  split at h
  · rename_i i off
    split at h
    · cases h
    · rename_i ti hti
      have ht := tiOf_ok hti
      cases hx with | sc _ _ hx => cases hx with | ptr _ _ be hbe =>
      split at h
      · rename_i cells hm
        split at h
        · cases h
        · rename_i vs hvs
          split at h
          · cases h
          · rename_i hsz
            split at h
            · cases h
            · rename_i cells' hp
              simp only [forceK_eq, setK_eq, Option.some.injEq] at h
              subst h
              have hv := hu.cells hvs
              obtain ⟨w', h1, h2⟩ := hW.store (P := P) hm hbe hp hv
              refine ⟨w', _, rfl, rfl, by simp, rfl, ?_, h2⟩
              have hsz' : v.cells.size = ti.size := by
                have := Nat.eq_of_beq_eq_true hsz
                rw [← this, hv.length]; simp
              simp only [Instr.storeAt, Instr.sureAddr, storeVar, Sem.run_bind, Sem.run_pure, Result.andThen_ok, ht.sizeOf, hsz', ne_eq, not_true, if_false, h1, Sem.run_ite]
      · rename_i n k y hm
        split at h
        · cases h
        · rename_i vs hvs
          split at h
          · cases h
          · rename_i hsz
            simp only [setK_eq, Option.some.injEq] at h
            subst h
            simp only [Bool.and_eq_true] at hsz
            obtain ⟨hsz, hks⟩ := hsz
            have hv := hu.cells hvs
            obtain ⟨w', h1, h2⟩ := hW.storeSym (P := P) hm hbe (of_decide_eq_true (hcs _ (List.mem_singleton.2 rfl))) hks hv
            refine ⟨w', _, rfl, rfl, by simp, rfl, ?_, h2⟩
            have hsz' : v.cells.size = ti.size := by
              have := Nat.eq_of_beq_eq_true hsz
              rw [← this, hv.length]; simp
            simp only [Instr.storeAt, Instr.sureAddr, storeVar, Sem.run_bind, Sem.run_pure, Result.andThen_ok, ht.sizeOf, hsz', ne_eq, not_true, if_false, h1, Sem.run_ite]
      · cases h
  · cases h

theorem storeA_ok (hW : WS S w₀ β m w) {t : Nat} {x u : AV} {r : OR} (h : storeA P m t x u = some r) (hcs : ∀ b ∈ r.cs, b = true) {c v : Value} (hx : VR β x c) (hu : VR β u v) :
    ∃ w' m', r.m = some m' ∧ r.nw = none ∧ m'.length = m.length ∧ r.v = .tup [] ∧ (Instr.storeAt t c v).run P w = .ok () w' ∧ WS S w₀ β m' w' := by
  unfold storeA at h
  split at h
  · rename_i i off n es z
    split at h
    · cases h
    · rename_i ti hti
      have ht := tiOf_ok hti
      cases hx with | sc _ _ hx => cases hx with | sptr _ _ _ _ _ be hbe hz0 hzn =>
      split at h
      · rename_i cells hm
        split at h
        · cases h
        · rename_i vs hvs
          split at h
          · cases h
          · rename_i hsz
            simp only [Bool.and_eq_true, Nat.ble_eq] at hsz
            obtain ⟨⟨hsz, hes⟩, hln⟩ := hsz
            have hvl : vs.length = ti.size := Nat.eq_of_beq_eq_true hsz
            obtain ⟨cells', p1, p2, p3⟩ := putZ_ok h
            simp only [setK_eq, Option.some.injEq] at p1
            subst p1
            have hzz : z.toNat * es + es ≤ n * es := by
              rw [← Nat.succ_mul]
              exact Nat.mul_le_mul_right _ (by omega)
            obtain ⟨cells2, hp⟩ := pasteL_some (l := cells) (o := off + z.toNat * es) (vs := vs) (by omega)
            have hv := hu.cells hvs
            obtain ⟨w', h1, h2⟩ := hW.store (P := P) hm hbe hp hv
            have hat : Mem.at (m.set i (some (Blk.lit cells2 true))) i = some (Blk.lit cells2 true) := by
              rw [at_eq, List.getElem?_set_self (at_lt hm)]
              rfl
            have h3 := h2.recell (bk' := .lit cells' true) hat (fun _ => rfl) fun be' _ hb => hb.putZ hz0 hzn (by omega) hp p2 fun j v hj => by simpa using p3 j v hj
            rw [List.set_set] at h3
            refine ⟨w', _, rfl, rfl, by simp, rfl, ?_, h3⟩
            have hsz' : v.cells.size = ti.size := by
              rw [← hvl, hv.length]; simp
            simp only [Instr.storeAt, Instr.sureAddr, storeVar, Sem.run_bind, Sem.run_pure, Result.andThen_ok, ht.sizeOf, hsz', ne_eq, not_true, if_false, h1, Sem.run_ite]
      · exact storeA0_ok hW h hcs (.sc _ _ (.ptr _ _ _ hbe)) hu
      · cases h
  · exact storeA0_ok hW h hcs hx hu

end
end Go.Sim

/-
  The lifting of an evaluation to the row where one argument is a slice.
-/
import Derived.Test.YtekilpllicggeaaSimZa
namespace Go.Sim
open Go.ChangeShapes Go.WideShapes Go.ChangeAt Go.RowKit

def kdEq : Kd → Kd → Bool
  | .flt .f32, .flt .f32 | .flt .f64, .flt .f64 | .bool, .bool | .str, .str => true
  | .int k, .int k' => decide (k = k')
  | _, _ => false

theorem kdEq_eq {a b : Kd} (h : kdEq a b = true) : a = b := by
  cases a with
  | flt k => cases k <;> cases b with
    | flt k' => cases k' <;> first | rfl | cases h
    | _ => cases h
  | int k => cases b with
    | int k' => rw [of_decide_eq_true h]
    | _ => cases h
  | bool => cases b with
    | bool => rfl
    | flt k => cases k <;> cases h
    | _ => cases h
  | str => cases b with
    | str => rfl
    | flt k => cases k <;> cases h
    | _ => cases h

/-- Whether fields are cells of a kind, one behind the other. -/
def fldsKd (P : Program) (k : Kd) : List Field → Nat → Bool
  | [], _ => true
  | f :: r, j => match kdOf P f.type with
    | some k' => kdEq k' k && Nat.beq f.offset j && Nat.beq (P.cellsOf f.type) 1 && fldsKd P k r (j + 1)
    | none => false

/-- The kind of an element's cells, and how many there are. -/
def elKd (P : Program) (e : Nat) : Option (Kd × Nat) :=
  match P.underlying e with
  | some (.struct fs) => match fs.toList with
    | [] => none
    | f :: _ => match kdOf P f.type with
      | some k => match fldsKd P k fs.toList 0 && Nat.beq (P.cellsOf e) fs.toList.length with
        | true => some (k, fs.toList.length)
        | false => none
      | none => none
  | some (.array n f) => match kdOf P f, Nat.beq (P.cellsOf f) 1, Nat.beq (P.cellsOf e) n with
    | some k, true, true => some (k, n)
    | _, _, _ => none
  | _ => match kdOf P e, Nat.beq (P.cellsOf e) 1 with
    | some k, true => some (k, 1)
    | _, _ => none

theorem elKd_cells {P : Program} {e : Nat} {k : Kd} {es : Nat} (hk : elKd P e = some (k, es)) : P.cellsOf e = es := by
  unfold elKd at hk
  split at hk
  · split at hk
    · cases hk
    · split at hk
      · split at hk
        · rename_i hb
          cases hk
          rw [Bool.and_eq_true] at hb
          exact Nat.eq_of_beq_eq_true hb.2
        · cases hk
      · cases hk
  · split at hk
    · rename_i w1 w2; cases hk; exact Nat.eq_of_beq_eq_true w2
    · cases hk
  · split at hk
    · rename_i w2; cases hk; exact Nat.eq_of_beq_eq_true w2
    · cases hk

theorem fldsKd_get {P : Program} {k : Kd} : ∀ {l : List Field} {j : Nat}, fldsKd P k l j = true → ∀ (i : Nat) f, l[i]? = some f → kdOf P f.type = some k ∧ f.offset = j + i ∧ P.cellsOf f.type = 1
  | [], _, _, i, f, hi => by simp at hi
  | a :: r, j, h, i, f, hi => by
    simp only [fldsKd] at h
    split at h
    · rename_i k' hk
      rw [Bool.and_eq_true, Bool.and_eq_true, Bool.and_eq_true] at h
      obtain ⟨⟨⟨h1, h2⟩, h3⟩, h4⟩ := h
      cases i with
      | zero =>
        simp at hi
        subst hi
        rw [kdEq_eq h1] at hk
        exact ⟨hk, Nat.eq_of_beq_eq_true h2, Nat.eq_of_beq_eq_true h3⟩
      | succ i =>
        obtain ⟨q1, q2, q3⟩ := fldsKd_get h4 i f (by simpa using hi)
        exact ⟨q1, by omega, q3⟩
    · cases h

def slOf (P : Program) (t : Nat) : Option (Kd × Nat) :=
  match P.underlying t with
  | some (.slice e) => elKd P e
  | _ => none

/-- A cell of a kind. -/
def CellK (k : Kd) (c : Value) : Prop := ∀ β : BM, ∃ x, SR β x c ∧ IsKd k x

section
variable {H : Type} {enc : TypeId × Value → H} {P : Program} {W : World} {base : Nat} {sp : Nat → Bool} {hd : Bool}

theorem wf_has {k : FloatKind} {b : Nat} (h : (Lit.float k b).wf = true) : k.has b := by
  cases k with
  | f32 => exact of_decide_eq_true (p := b < 2 ^ 32) h
  | f64 => exact of_decide_eq_true (p := b < 2 ^ 64) h

theorem trod_kd {t : Nat} {k : Kd} {fuel : Nat} {c : Value} {r : DataW H × List MemPlace} (hk : kdOf P t = some k) (h : DataW.trod enc P W base sp hd fuel t [c] = some r) (hs : k ≠ .str) : CellK k c := by
  intro β
  cases fuel with
  | zero => cases h
  | succ fuel =>
    unfold kdOf at hk
    unfold DataW.trod at h
    split at hk
    · rename_i q hu
      cases hk
      rw [hu] at h
      cases c <;> simp only at h <;> try (cases h; done)
      rename_i k' b
      split at h
      · rename_i hw
        obtain ⟨rfl, hw⟩ := hw
        exact ⟨_, .flt _ _ _ rfl (fltB_has (wf_has hw)), _, rfl, wf_has hw⟩
      · cases h
    · rename_i q hu
      cases hk
      rw [hu] at h
      cases c <;> simp only at h <;> try (cases h; done)
      rename_i k' n
      split at h
      · rename_i hw
        obtain ⟨rfl, hw⟩ := hw
        have hi : inI k' n = true := by simpa [inI, Lit.wf] using hw
        exact ⟨_, .sint _ _ hi, _, rfl, hi⟩
      · cases h
    · rename_i hu
      cases hk
      rw [hu] at h
      cases c <;> simp only at h <;> try (cases h; done)
      exact ⟨_, .sbool _, _, rfl⟩
    · cases hk; exact absurd rfl hs
    · cases hk

/-- An element's cells. -/
theorem trod_el {e : Nat} {k : Kd} {es fuel : Nat} {cs : List Value} {r : DataW H × List MemPlace} (hk : elKd P e = some (k, es)) (hl : cs.length = es) (h : DataW.trod enc P W base sp hd fuel e cs = some r) (hs : k ≠ .str) :
    P.cellsOf e = es ∧ ∀ (j : Nat) c, cs[j]? = some c → CellK k c := by
  have hce := elKd_cells hk
  refine ⟨hce, fun j c hj => ?_⟩
  unfold elKd at hk
  split at hk
  · rename_i fs hu
    split at hk
    · cases hk
    · rename_i f0 r0 hl0
      split at hk
      · split at hk
        · rename_i k' hk0 _ hb
          cases hk
          rw [Bool.and_eq_true] at hb
          cases fuel with
          | zero => cases h
          | succ fuel =>
            unfold DataW.trod at h
            rw [hu] at h
            simp only at h
            split at h
            · rw [Option.map_eq_some_iff] at h
              obtain ⟨l, hm, _⟩ := h
              have hjn : j < fs.toList.length := by
                have := (List.getElem?_eq_some_iff.1 hj).1
                omega
              have hf := List.getElem?_eq_getElem hjn
              obtain ⟨g1, g2, g3⟩ := fldsKd_get hb.1 j _ hf
              have e1 := mapM_some_get hm j _ hf
              have e2 := mapM_some_length hm
              rw [g2, g3, Nat.zero_add] at e1
              have e3 : (cs.drop j).take 1 = [c] := by
                rw [List.take_one, List.head?_drop, hj]
                rfl
              rw [e3] at e1
              have : j < l.length := by rw [e2]; exact hjn
              rw [List.getElem?_eq_getElem this] at e1
              exact trod_kd g1 e1 hs
            · cases h
        · cases hk
      · cases hk
  · rename_i n f hu
    split at hk
    · rename_i k' h1 h2 h3
      cases hk
      have h2 := Nat.eq_of_beq_eq_true h2
      have h3 := Nat.eq_of_beq_eq_true h3
      cases fuel with
      | zero => cases h
      | succ fuel =>
        unfold DataW.trod at h
        rw [hu] at h
        simp only at h
        split at h
        · rw [Option.map_eq_some_iff] at h
          obtain ⟨l, hm, _⟩ := h
          have hjn : j < es := by
            have := (List.getElem?_eq_some_iff.1 hj).1
            omega
          have e1 := mapM_some_get hm j j (by simp [hjn])
          have e2 := mapM_some_length hm
          rw [h2, Nat.mul_one] at e1
          have e3 : (cs.drop j).take 1 = [c] := by
            rw [List.take_one, List.head?_drop, hj]
            rfl
          rw [e3] at e1
          have : j < l.length := by rw [e2]; simpa using hjn
          rw [List.getElem?_eq_getElem this] at e1
          exact trod_kd h1 e1 hs
        · cases h
    · cases hk
  · split at hk
    · rename_i k' h1 h2
      cases hk
      match cs, hl with
      | [c'], _ =>
        cases j with
        | zero => simp at hj; subst hj; exact trod_kd h1 h hs
        | succ j => simp at hj
    · cases hk

theorem trodAll_at : ∀ {ts : List TypeId} {vs : List Value} {ds : List (DataW H)} {ps : List MemPlace}, DataW.TrodAll enc P W base sp hd ts vs ds ps → ∀ (j : Nat) t v, ts[j]? = some t → vs[j]? = some v → ∃ d p, DataW.Trod enc P W base sp hd t v d p := by
  intro ts
  induction ts with
  | nil => intro vs ds ps _ j t v hj; simp at hj
  | cons t ts ih =>
    intro vs ds ps h j t' v' hj hv
    obtain ⟨v, vs', d, ds', p, q, rfl, rfl, rfl, h1, h2⟩ := trodAll_cons h
    cases j with
    | zero => simp at hj hv; subst hj hv; exact ⟨d, p, h1⟩
    | succ j => exact ih h2 j t' v' (by simpa using hj) (by simpa using hv)

end

/-! ### A slice's place -/

theorem rowAt_le {p : Program} {fits : TypeId → Bool} {d e count off n : Nat} (h : rowAt p fits d e count off n = true) : off ≤ count * p.cellsOf e := by
  cases d with
  | zero => cases h
  | succ d =>
    unfold rowAt at h
    simp only at h
    split at h
    · cases h
    · rename_i hs
      have hdm := Nat.div_add_mod off (p.cellsOf e)
      have hlt := Nat.mod_lt off (Nat.pos_of_ne_zero hs)
      rw [Bool.or_eq_true] at h
      rcases h with h | h
      · rw [Bool.and_eq_true, Bool.and_eq_true] at h
        have h1 : off % p.cellsOf e = 0 := by simpa using h.1.1
        have h2 : off / p.cellsOf e + n ≤ count := of_decide_eq_true h.1.2
        have h3 : p.cellsOf e * (off / p.cellsOf e) ≤ p.cellsOf e * count := Nat.mul_le_mul_left _ (by omega)
        rw [Nat.mul_comm count]
        omega
      · rw [Bool.and_eq_true] at h
        have h2 : off / p.cellsOf e < count := of_decide_eq_true h.1
        have h3 : p.cellsOf e * (off / p.cellsOf e + 1) ≤ p.cellsOf e * count := Nat.mul_le_mul_left _ (by omega)
        rw [Nat.mul_add, Nat.mul_one] at h3
        rw [Nat.mul_comm count]
        omega

theorem liesAt_le {p : Program} {e count off : Nat} : ∀ {d u n : Nat}, liesAt p d e count off u n = true → off ≤ count * p.cellsOf e
  | 0, _, _, h => by cases h
  | d + 1, u, n, h => by
    unfold liesAt at h
    rw [Bool.or_eq_true] at h
    rcases h with h | h
    · exact rowAt_le h
    · split at h
      · exact liesAt_le h
      · cases h

/-- The cells from a place on. -/
def cellsY (c : Array Value) (off : Nat) : Vars where
  u := fun j => match c[off + j]? with
    | some (.float k b) => canon k b
    | _ => 0
  i := fun j => match c[off + j]? with
    | some (.int _ n) => n
    | _ => 0
  b := fun j => match c[off + j]? with
    | some (.bool b) => b
    | _ => false
  s := fun j => match c[off + j]? with
    | some (.string s) => s
    | _ => ⟨#[]⟩

theorem cellsY_ok {c : Array Value} {off j : Nat} {v : Value} {k : Kd} (hv : c[off + j]? = some v) (hk : CellK k v) (β : BM) : SR β (mkK (cellsY c off) j k) v ∧ IsKd k (mkK (cellsY c off) j k) := by
  obtain ⟨x, h1, h2⟩ := hk β
  cases k with
  | flt k =>
    obtain ⟨b, rfl, hb⟩ := h2
    cases h1 with | flt _ _ b' e1 e2 =>
    have : (cellsY c off).u j = canon k b' := by simp only [cellsY, hv]
    simp only [mkK, this]
    exact ⟨.flt _ _ _ rfl (e1 ▸ e2), b, e1.symm ▸ rfl, hb⟩
  | int k =>
    obtain ⟨n, rfl, hn⟩ := h2
    cases h1 with | sint _ _ e2 =>
    have : (cellsY c off).i j = n := by simp only [cellsY, hv]
    simp only [mkK, this]
    exact ⟨.sint _ _ hn, n, rfl, hn⟩
  | bool =>
    obtain ⟨b, rfl⟩ := h2
    cases h1
    have : (cellsY c off).b j = b := by simp only [cellsY, hv]
    simp only [mkK, this]
    exact ⟨.sbool _, b, rfl⟩
  | str =>
    obtain ⟨s, rfl, hs⟩ := h2
    cases h1
    have : (cellsY c off).s j = s := by simp only [cellsY, hv]
    simp only [mkK, this]
    exact ⟨.str _, s, rfl, hs⟩

theorem open_slice {H : Type} {enc : TypeId × Value → H} {P : Program} {W : World} {r : Reach} {base : Nat} {sp : Nat → Bool} {hd : Bool} {t : Nat} {k : Kd} {es : Nat} (hk : slOf P t = some (k, es)) (hs : k ≠ .str) {v : Value} {d : DataW H} {ps : List MemPlace}
    (hv : Value.okWide P W r base t v) (ht : DataW.Trod enc P W 0 sp hd t v d ps) :
    v = .slice none 0 0 ∨ ∃ (b off len cap : Nat) (c : Array Value) (e : TypeId) (fr : Nat × Nat), v = .slice (some ⟨b, off, none⟩) len cap ∧ len ≤ cap ∧ cap ≤ maxLen ∧ W.heap[b]? = some (.cells c e fr) ∧ off + es * len ≤ c.size ∧
      ∀ j, j < es * len → ∃ cv, c[off + j]? = some cv ∧ CellK k cv := by
  unfold slOf at hk
  split at hk
  · rename_i e hu
    have hc : Cell.ok P W r base t v := by
      unfold Value.okWide at hv
      rw [hu] at hv
      unfold Cell.okWide at hv
      rw [hu] at hv
      exact hv
    unfold Cell.ok at hc
    rw [hu] at hc
    obtain ⟨fuel, ht⟩ := ht
    cases v <;> simp only at hc <;> try (exact hc.elim)
    rename_i ad len cap
    cases ad with
    | none =>
      cases len with
      | zero => cases cap with
        | zero => exact .inl rfl
        | succ n => simp at hc
      | succ n => simp at hc
    | some a =>
      right
      obtain ⟨h1, _, _, hsp, row, cells, hsh, hli⟩ := hc
      obtain ⟨b, off, spot⟩ := a
      simp only at hsp
      subst hsp
      cases fuel with
      | zero => cases ht
      | succ fuel =>
        unfold World.shape? at hsh
        simp only at hsh
        split at hsh
        · rename_i c el fr hh
          simp only [Option.some.injEq, Prod.mk.injEq] at hsh
          obtain ⟨rfl, rfl⟩ := hsh
          have hoff : off ≤ c.size := Nat.le_trans (liesAt_le hli) (Nat.div_mul_le_self ..)
          simp only [Value.cells] at ht
          unfold DataW.trod at ht
          rw [hu] at ht
          simp only at ht
          split at ht
          · rename_i hcap
            rw [Option.bind_eq_some_iff] at ht
            obtain ⟨els, hm, _⟩ := ht
            have hel : ∀ i, i < len → P.cellsOf e = es ∧ ∀ q, q < es → ∃ cv, c[off + (i * es + q)]? = some cv ∧ CellK k cv := by
              intro i hi
              have e1 := mapM_some_get hm i i (by simp [hi])
              have e2 := mapM_some_length hm
              have : i < els.length := by rw [e2]; simpa using hi
              rw [List.getElem?_eq_getElem this, Option.bind_eq_some_iff] at e1
              obtain ⟨cs, g1, g2⟩ := e1
              unfold World.cells? at g1
              split at g1
              · have g3 := mapM_some_length g1
                simp only [List.length_range] at g3
                have hce : P.cellsOf e = es := elKd_cells hk
                refine ⟨hce, fun q hq => ?_⟩
                have g4 := mapM_some_get g1 q q (by simp [hce, hq])
                have hqc : q < cs.length := by omega
                rw [List.getElem?_eq_getElem hqc] at g4
                have ha : (Addr.add (Addr.add ⟨b, off, none⟩ (i * P.cellsOf e)) q) = ⟨b, off + (i * es + q), none⟩ := by
                  unfold Addr.add
                  rw [hce]
                  split <;> split <;> simp <;> omega
                rw [ha] at g4
                unfold World.cell? at g4
                simp only [hh] at g4
                exact ⟨_, by simpa using g4, (trod_el hk (by omega) g2 hs).2 q _ (List.getElem?_eq_getElem hqc)⟩
              · cases g1
            refine ⟨b, off, len, cap, c, _, fr, rfl, h1, hcap.2.2, hh, ?_, fun j hj => ?_⟩
            · rcases Nat.eq_zero_or_pos (es * len) with h0 | h0
              · omega
              · have hes : 0 < es := Nat.pos_of_mul_pos_right h0
                have hlen : 0 < len := Nat.pos_of_mul_pos_left h0
                obtain ⟨cv, q1, _⟩ := (hel (len - 1) (by omega)).2 (es - 1) (by omega)
                have := (Array.getElem?_eq_some_iff.1 q1).1
                have e3 : (len - 1) * es + es = es * len := by
                  rw [Nat.mul_comm es len, ← Nat.succ_mul, Nat.succ_eq_add_one, Nat.sub_add_cancel hlen]
                omega
            · have hes : 0 < es := by
                rcases Nat.eq_zero_or_pos es with h0 | h0
                · rw [h0, Nat.zero_mul] at hj; omega
                · exact h0
              have hi : j / es < len := Nat.div_lt_of_lt_mul hj
              obtain ⟨cv, q1, q2⟩ := (hel (j / es) hi).2 (j % es) (Nat.mod_lt _ hes)
              have : j / es * es + j % es = j := by rw [Nat.mul_comm]; exact Nat.div_add_mod j es
              rw [this] at q1
              exact ⟨cv, q1, q2⟩
          · cases ht
        · cases hsh
  · cases hk

theorem law_callM {P : Program} {G : Summ} (hG : SoundG P G) (hm : P.follows .mixedOrders = true) {f n : Nat} {H : LTab} {J : Bool} {M : Mem} (hH : HFun P M.length H f) {xs : List AV} {D cs : List Bool} {v : AV} (h : funH P G H J n f xs M D = some (v, cs)) (hb : v = .sbool true ∨ v = .bool true) (hcs : ∀ b ∈ cs, b = true)
    {W : World} {β : BM} {cargs : List Value} (hS : SimM β M W) (hro : ∀ i bk, M.at i = some bk → bk.rw = false) (hf : Fresh β M) (hx : VRs β xs cargs) : Calls P f ⟨cargs⟩ W fun e W' => e = .returned (.bool true) ∧ Qt W W' := by
  have hW : WS (fun _ => False) W β M W := ⟨hS, Fr.refl _ W, fun i bk be hi hrw => by rw [hro i bk hi] at hrw; cases hrw⟩
  refine (funH_ok (m := M) hG hm hH h hcs hW hf hx).mono fun e W' he => ?_
  obtain ⟨c, e1, b3, β', b1, b4⟩ := he
  refine ⟨?_, ⟨b3.os, b3.tape, b3.output, b3.size, fun k hk => b3.block k hk (fun hn => hn)⟩⟩
  rcases hb with rfl | rfl
  · cases b4 with | sc _ _ b4 =>
    cases b4
    exact e1
  · cases b4 with | sc _ _ b4 =>
    cases b4
    exact e1

def shSizes : List Sh → Nat
  | [] => 0
  | s :: r => s.size + shSizes r

theorem mkAs_append (x : Vars) : ∀ (A B : List Sh) (j : Nat), mkAs x j (A ++ B) = mkAs x j A ++ mkAs x (j + shSizes A) B
  | [], B, j => by simp [mkAs, shSizes]
  | a :: A, B, j => by simp only [List.cons_append, mkAs, shSizes, mkAs_append x A B, Nat.add_assoc]

theorem mkAs_length (x : Vars) : ∀ (A : List Sh) (j : Nat), (mkAs x j A).length = A.length
  | [], _ => rfl
  | _ :: A, j => by simp only [mkAs, List.length_cons, mkAs_length x A]

theorem AllSh.app : ∀ {A B : List Sh} {xs ys : List AV}, AllSh A xs → AllSh B ys → AllSh (A ++ B) (xs ++ ys)
  | [], _, [], _, _, h => h
  | [], _, _ :: _, _, h, _ => h.elim
  | .sc _ :: _, _, [], _, h, _ => h.elim
  | .ag _ :: _, _, [], _, h, _ => h.elim
  | .sc _ :: _, _, _ :: _, _, h, h' => ⟨h.1, AllSh.app h.2 h'⟩
  | .ag _ :: _, _, _ :: _, _, h, h' => ⟨h.1, AllSh.app h.2 h'⟩

theorem AllSh.len : ∀ {A : List Sh} {xs : List AV}, AllSh A xs → xs.length = A.length
  | [], [], _ => rfl
  | [], _ :: _, h => h.elim
  | .sc _ :: _, [], h => h.elim
  | .ag _ :: _, [], h => h.elim
  | .sc _ :: _, _ :: _, h => congrArg (· + 1) (AllSh.len h.2)
  | .ag _ :: _, _ :: _, h => congrArg (· + 1) (AllSh.len h.2)

theorem VRs.split {β : BM} : ∀ {xs ys : List AV} {cs : List Value}, VRs β (xs ++ ys) cs → ∃ c1 c2, cs = c1 ++ c2 ∧ VRs β xs c1 ∧ VRs β ys c2
  | [], ys, cs, h => ⟨[], cs, rfl, .nil, h⟩
  | x :: xs, ys, cs, h => by
    cases h with | cons _ c _ cs h hs =>
    obtain ⟨c1, c2, rfl, h1, h2⟩ := VRs.split hs
    exact ⟨c :: c1, c2, rfl, .cons _ _ _ _ h h1, h2⟩

/-- A row of which one argument is a slice: of each input its own table of summaries; the slice nil, or with a block of its own. -/
theorem law_row3 {C : Checked} {os : Os} {H : Type} {enc : TypeId × Value → H} {f : FuncId} {fn : Func} {s : ChangeSpec} {conds : List PathCond} {apart fresh handsOn again : Bool} {tb : TypeId} {KS1 KS2 : List Sh} {k : Kd} {es : Nat} {ts1 ts2 : List Nat} {t : Nat}
    (own : ownKnob C.prog.godebug = none) (started : os.Started) (noInit : C.prog.inits.idxOf? f = none) (hfn : C.prog.funcs[f]? = some fn)
    (hl : laidOutB C.prog = true) (hp : (fn.params.toList.all fun t => C.prog.readableRec t && decide (t < C.prog.types.size)) = true) (hv : s.vars = []) (hr : fn.resultTypes = #[tb]) (hb : C.prog.underlying tb = some .bool)
    (hs : ∀ ds : List (DataW H), ds.length = fn.params.toList.length → s.fn H ds = { results := [.lit (.bool true)], args := ds })
    (witness : ∃ (w : World) (tape : Tape) (i : Input), w.os = os ∧ (w.forCall tape i).Shaped C.prog ∧ i.vars = [] ∧ Input.okWide C.prog (w.forCall tape i) .any w.heap.size f i ∧
      s.pre6 enc C.prog fn conds apart (w.forCall tape i).memory i.args ∧ ({} : Assume).holds C.prog (lone (Frame.enter C.prog f i.args .normal) [] (w.forCall tape i)))
    (hm : C.prog.follows .mixedOrders = true) (hpar : fn.params.toList = ts1 ++ t :: ts2) (hsh1 : shsOf C.prog ts1 = some KS1) (hsl : slOf C.prog t = some (k, es)) (hstr : k ≠ .str) (hsh2 : shsOf C.prog ts2 = some KS2)
    (hev0 : ∀ x, AllSh (KS1 ++ KS2) (mkAs x 0 (KS1 ++ KS2)) → ∃ G n H J D cs v, SoundG C.prog G ∧ HFun C.prog 0 H f ∧ funH C.prog G H J n f (mkAs x 0 KS1 ++ .snil :: mkAs x (shSizes KS1) KS2) [] D = some (v, cs) ∧ (v = .sbool true ∨ v = .bool true) ∧ ∀ b ∈ cs, b = true)
    (hev1 : ∀ x len y, AllSh (KS1 ++ KS2) (mkAs x 0 (KS1 ++ KS2)) → len ≤ maxLen → (∀ j, j < es * len → IsKd k (mkK y j k)) → ∃ G n H J D cs v, SoundG C.prog G ∧ HFun C.prog 1 H f ∧ funH C.prog G H J n f (mkAs x 0 KS1 ++ .sslc 0 0 len es :: mkAs x (shSizes KS1) KS2) [some (.sym (es * len) k y false)] D = some (v, cs) ∧ (v = .sbool true ∨ v = .bool true) ∧ ∀ b ∈ cs, b = true) :
    ReturnsInHanded {} C os f .any (s.pre6 enc C.prog fn conds apart) (s.post enc C.prog fn apart fresh handsOn again) := by
  refine law_lift own started noInit hfn hl hp hv hr hb hs witness fun W base args ds before hval hA => ?_
  have hlen := trodAll_length hA
  have hval' : ∀ (j : Nat) t' v', (ts1 ++ t :: ts2)[j]? = some t' → args.toList[j]? = some v' → Value.okWide C.prog W .any base t' v' := fun j t' v' hj hv => hval j t' v' (by rw [← hpar] at hj; simpa using hj) (by simpa using hv)
  rw [hpar] at hA hlen
  have hsp : args.toList = args.toList.take ts1.length ++ args.toList.drop ts1.length := (List.take_append_drop ..).symm
  have hl1 : (args.toList.take ts1.length).length = ts1.length := by
    rw [List.length_take, hlen, List.length_append]
    omega
  cases hd : args.toList.drop ts1.length with
  | nil =>
    exfalso
    have : (args.toList.drop ts1.length).length = ts2.length + 1 := by
      rw [List.length_drop, hlen, List.length_append, List.length_cons]
      omega
    rw [hd] at this
    simp at this
  | cons v vs2 =>
    rw [hd] at hsp
    have hl2 : vs2.length = ts2.length := by
      have := congrArg List.length hsp
      rw [hlen, List.length_append, List.length_append, hl1, List.length_cons, List.length_cons] at this
      omega
    generalize args.toList.take ts1.length = vs1 at hsp hl1
    have at2 : ∀ j, args.toList[ts1.length + 1 + j]? = vs2[j]? := fun j => by
      rw [hsp, List.getElem?_append_right (by omega), hl1]
      rw [show ts1.length + 1 + j - ts1.length = j + 1 by omega, List.getElem?_cons_succ]
    have at1 : ∀ j, j < ts1.length → args.toList[j]? = vs1[j]? := fun j hj => by rw [hsp, List.getElem?_append_left (by omega)]
    have at0 : args.toList[ts1.length]? = some v := by
      rw [hsp, List.getElem?_append_right (by omega), hl1, Nat.sub_self]
      rfl
    have tt0 : (ts1 ++ t :: ts2)[ts1.length]? = some t := by
      rw [List.getElem?_append_right (by omega), Nat.sub_self]
      rfl
    obtain ⟨xs1, a1, a2⟩ := open_shs (P := C.prog) (w := W) (r := .any) (base := base) (vs := vs1) hsh1 hl1 fun j t' v' hj hv' => by
      have hjl := (List.getElem?_eq_some_iff.1 hj).1
      exact hval' j t' v' (by rw [List.getElem?_append_left hjl]; exact hj) (by rw [at1 j hjl]; exact hv')
    obtain ⟨xs2, c1, c2⟩ := open_shs (P := C.prog) (w := W) (r := .any) (base := base) (vs := vs2) hsh2 hl2 fun j t' v' hj hv' => by
      refine hval' (ts1.length + 1 + j) t' v' ?_ (by rw [at2]; exact hv')
      rw [List.getElem?_append_right (by omega), show ts1.length + 1 + j - ts1.length = j + 1 by omega, List.getElem?_cons_succ]
      exact hj
    have hall := AllSh.app a2 c2
    obtain ⟨e1, e2⟩ := isShs_of hall
    obtain ⟨e3, e4, _⟩ := isShs_norm e1 (inV (xs1 ++ xs2)) 0 fun q => by rw [Nat.zero_add]; exact ⟨rfl, rfl, rfl, rfl⟩
    rw [e2] at e3
    rw [e3] at hall
    have e5 := e3
    rw [mkAs_append, Nat.zero_add] at e5
    obtain ⟨f1, f2⟩ := List.append_inj e5 (by rw [AllSh.len a2, mkAs_length])
    rw [f1] at a1
    rw [f2] at c1
    have fl1 : flatL (mkAs (inV (xs1 ++ xs2)) 0 KS1) = true := mkAs_flat ..
    have fl2 : flatL (mkAs (inV (xs1 ++ xs2)) (shSizes KS1) KS2) = true := mkAs_flat ..
    obtain ⟨dd, pp, hT⟩ := trodAll_at hA ts1.length t v tt0 at0
    have hargs : args = ⟨args.toList⟩ := rfl
    rcases open_slice hsl hstr (hval' ts1.length t v tt0 at0) hT with rfl | ⟨b, off, len, cap, c, el, fr, rfl, h1, h2, h3, h4, h5⟩
    · obtain ⟨G, n, HH, J, D, cs, w, hG, hH, g1, g2, g3⟩ := hev0 _ hall
      rw [hargs, hsp]
      exact law_callM (M := []) (β := fun _ => none) hG hm hH g1 g2 g3 ⟨fun i bk hi => by simp [Mem.at] at hi, fun i j bi bj ei ej hi => by simp [Mem.at] at hi⟩ (fun i bk hi => by simp [Mem.at] at hi) (fun _ _ => rfl) (a1.append (.cons _ _ _ _ (.sc _ _ .snil) c1))
    · obtain ⟨G, n, HH, J, D, cs, w, hG, hH, g1, g2, g3⟩ := hev1 _ len (cellsY c off) hall (by omega) fun j hj => by
        obtain ⟨cv, q1, q2⟩ := h5 j hj
        exact (cellsY_ok q1 q2 (fun _ => none)).2
      rw [hargs, hsp]
      refine law_callM (M := [some (.sym (es * len) k (cellsY c off) false)]) (β := fun i => if i = 0 then some ⟨b, off, none⟩ else none) hG hm hH g1 g2 g3 ⟨fun i bk hi => ?_, fun i j bi bj ei ej hi hj hne => ?_⟩ (fun i bk hi => ?_) (fun i hi => ?_) ?_
      · cases i with
        | zero =>
          simp only [Mem.at, Option.some.injEq] at hi
          subst hi
          refine ⟨_, rfl, c, el, fr, h3, (fun h => by cases h), (fun n hn => by cases hn), h4, fun j hj => ?_⟩
          obtain ⟨cv, q1, q2⟩ := h5 j hj
          exact ⟨cv, q1, (cellsY_ok q1 q2 _).1⟩
        | succ i => simp [Mem.at] at hi
      · cases i with
        | zero =>
          cases j with
          | zero => exact absurd rfl hne
          | succ j => simp [Mem.at] at hj
        | succ i => simp [Mem.at] at hi
      · cases i with
        | zero => simp only [Mem.at, Option.some.injEq] at hi; subst hi; rfl
        | succ i => simp [Mem.at] at hi
      · simp only [List.length_singleton] at hi
        show (if i = 0 then _ else _) = _
        rw [if_neg (by omega)]
      · exact (a1.flat fl1).append (.cons _ _ _ _ (.sc _ _ (.sslc 0 0 len es ⟨b, off, none⟩ cap rfl h1 fun n hn => by cases hn)) (c1.flat fl2))

theorem VRs_lit {β : BM} {k : IntKind} {m z : Int} {l r : List AV} {cargs : List Value} (hz : m = z) (h : VRs β (.agg (.sint k m :: l) :: r) cargs) : VRs β (.agg (.int k z :: l) :: r) cargs := by
  subst hz
  cases h with | cons _ c _ cs h hs =>
  refine .cons _ _ _ _ ?_ hs
  cases h with
  | sc _ _ h => cases h
  | agg _ ys h =>
    cases h with | cons _ y _ ys h hr =>
    cases h with | sint _ _ h =>
    exact .agg _ _ (.cons _ _ _ _ (.int _ _ h) hr)

/-- A summary of a function that looks at frames alone, its arguments with literals for leaves. -/
theorem SoundG.sumQN {P : Program} {G G' : Summ} (hG : SoundG P G) (hm : P.follows .mixedOrders = true) {f : Nat} (hc : Entered P f) (hG' : SoundG P G') {Fi : Frm} {RS : List Sh} {pre : SV → List Bool} {R : SV → Vars} (hro : (Fi.blks.all fun b => !b.rw) = true)
    (h : ∀ s, (∀ b ∈ pre s, b = true) → ∃ H J n D v cs xs' M', (∀ (β : BM) cargs, VRs β (mkVs s 0 0 Fi.vals) cargs → VRs β xs' cargs) ∧ SameN M' (mkM Fi s) ∧ HFun P Fi.blks.length H f ∧ funH P G' H J n f xs' M' D = some (v, cs) ∧ normR v = mkR (R s) RS ∧ untupR v = true ∧ v.flat = true ∧ ∀ b ∈ cs, b = true) :
    SoundG P (addG f (Sim.sumQ Fi RS pre R) G) := by
  refine hG.add fun xs M r hr hcs S w₀ β w cargs hW _ hv => ?_
  unfold Sim.sumQ at hr
  obtain ⟨s, sel, hr, hmt⟩ := matchS_ok hr
  cases hr
  obtain ⟨H, J, n, D, v, cs, xs', M', hx, hN, h0, h1, h2, h3, h4, h5⟩ := h s hcs
  have hAl : M'.length = Fi.blks.length := hN.len.trans (mkBs_length ..)
  have hro' : ∀ i bk, M'.at i = some bk → bk.rw = false := fun i bk hi => by
    obtain ⟨b2, q1, q2⟩ := hN.at hi
    rw [(norm_rw q2).1]
    exact mkBs_ro s hro q1
  have hq := quiet_callH hG' hm hc (mm := M') ⟨n, D, cs, H, J, by rw [hAl]; exact h0, h1, h5⟩ h4 hro' (β := β.sel sel) (fun i bk hi => ((hmt.ws hW).norm hN).sim.blk i bk hi) (fun i hi => hmt.fresh i (by rw [← hN.len]; exact hi)) (hx _ _ (hmt.vals β cargs hv)) β
  unfold CallOk
  simp only
  rcases hq with ⟨g, q1, q2⟩ | ⟨u, w', q1, q2, q3⟩
  · refine .inl ⟨g, q1, q2.mono fun e w' ⟨u, he, k1, k2⟩ => ⟨u, he, k1, ?_⟩⟩
    have := normR_ok k2 h3
    rw [h2] at this
    exact this
  · refine .inr ⟨u, w', q1, q2, ?_⟩
    have := normR_ok q3 h3
    rw [h2] at this
    exact this

/-- A function looked into where it is called, its tests joined behind where neither way writes. -/
def inlJ (P : Program) (n f : Nat) (G : Summ) : Summ := addG f (fun xs M => match inAL M.length xs with
  | false => none
  | true => match funH P G noLT true n f xs (roM M) [] with
    | none => none
    | some (v, cs) => match v.flat with
      | true => some { v := v, cs := cs }
      | false => none) G

/-- Its tests joined behind. -/
theorem SoundG.inlJ {P : Program} {G : Summ} (hG : SoundG P G) (hm : P.follows .mixedOrders = true) {n f : Nat} (hc : Entered P f) : SoundG P (inlJ P n f G) := by
  unfold Sim.inlJ
  refine hG.add fun xs M r hr hcs S w₀ β w cargs hW _ hv => ?_
  split at hr
  · cases hr
  · rename_i hin
    split at hr
    · cases hr
    · rename_i v cs hfun
      split at hr
      · rename_i hfl
        cases hr
        unfold CallOk
        simp only
        refine quiet_callH hG hm hc (mm := roM M) ⟨n, [], cs, noLT, true, HFun.none P _ f, hfun, hcs⟩ hfl ?_ (β := β.cut M.length) ?_ ?_ (inAL_ok hv hin) β
        · intro i bk hi
          obtain ⟨bk', _, e, _⟩ := roM_at hi
          rw [e]
          cases bk' <;> rfl
        · intro i bk hi
          obtain ⟨bk', e1, e2, e3⟩ := roM_at hi
          obtain ⟨be, b1, b2⟩ := hW.sim.blk i _ e1
          refine ⟨be, ?_, ?_⟩
          · unfold BM.cut
            rw [if_pos (at_lt e1)]
            exact b1
          · rw [e2]
            exact b2.ro e3
        · intro i hi
          unfold BM.cut
          rw [if_neg (by rw [roM_length] at hi; omega)]
      · cases hr

/-- A summary of a function that looks at frames alone; of each input its own table of summaries. -/
theorem SoundG.sumQM {P : Program} {G : Summ} (hG : SoundG P G) (hm : P.follows .mixedOrders = true) {f : Nat} (hc : Entered P f) {Fi : Frm} {RS : List Sh} {pre : SV → List Bool} {R : SV → Vars} (hro : (Fi.blks.all fun b => !b.rw) = true)
    (h : ∀ s, (∀ b ∈ pre s, b = true) → ∃ G' H J n D v cs, SoundG P G' ∧ HFun P Fi.blks.length H f ∧ funH P G' H J n f (mkVs s 0 0 Fi.vals) (mkM Fi s) D = some (v, cs) ∧ normR v = mkR (R s) RS ∧ untupR v = true ∧ v.flat = true ∧ ∀ b ∈ cs, b = true) :
    SoundG P (addG f (Sim.sumQ Fi RS pre R) G) := by
  refine hG.add fun xs M r hr hcs S w₀ β w cargs hW _ hv => ?_
  unfold Sim.sumQ at hr
  obtain ⟨s, sel, hr, hmt⟩ := matchS_ok hr
  cases hr
  obtain ⟨G', H, J, n, D, v, cs, hG', h0, h1, h2, h3, h4, h5⟩ := h s hcs
  have hAl : (mkM Fi s).length = Fi.blks.length := mkBs_length ..
  have hq := quiet_callH hG' hm hc (mm := mkM Fi s) ⟨n, D, cs, H, J, by rw [hAl]; exact h0, h1, h5⟩ h4 (fun i bk hi => mkBs_ro s hro hi) (β := β.sel sel) (fun i bk hi => (hmt.ws hW).sim.blk i bk hi) hmt.fresh (hmt.vals β cargs hv) β
  unfold CallOk
  simp only
  rcases hq with ⟨g, q1, q2⟩ | ⟨u, w', q1, q2, q3⟩
  · refine .inl ⟨g, q1, q2.mono fun e w' ⟨u, he, k1, k2⟩ => ⟨u, he, k1, ?_⟩⟩
    have := normR_ok k2 h3
    rw [h2] at this
    exact this
  · refine .inr ⟨u, w', q1, q2, ?_⟩
    have := normR_ok q3 h3
    rw [h2] at this
    exact this

end Go.Sim

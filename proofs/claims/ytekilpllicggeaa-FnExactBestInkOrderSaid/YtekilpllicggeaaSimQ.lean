/-
  From a call's contract to the row: a law that is true whatever the input, and turns nothing.
-/
import Derived.Test.YtekilpllicggeaaSimMb
import Derived.ProofKit
namespace Go.Sim
open Go.ChangeShapes Go.WideShapes Go.ChangeAt Go.RowKit

/-! ### What comes in -/

def kdOf (P : Program) (t : Nat) : Option Kd :=
  match P.underlying t with
  | some (.float k) => some (.flt k)
  | some (.int k) => some (.int k)
  | some .bool => some .bool
  | some .string => some .str
  | _ => none

def kdsOf (P : Program) : List Nat → Option (List Kd)
  | [] => some []
  | t :: r => match kdOf P t, kdsOf P r with
    | some k, some l => some (k :: l)
    | _, _ => none

def IsKd : Kd → AV → Prop
  | .flt k, v => ∃ b, v = .flt k (canon k b) ∧ k.has b
  | .int k, v => ∃ n, v = .sint k n ∧ inI k n = true
  | .bool, v => ∃ b, v = .sbool b
  | .str, v => ∃ s, v = .str s ∧ (s.size : Int) ≤ IntKind.i64.max

def AllKd : List Kd → List AV → Prop
  | [], [] => True
  | k :: r, v :: s => IsKd k v ∧ AllKd r s
  | _, _ => False

section
variable {P : Program} {w : World} {r : Reach} {base : Nat}

theorem open_cell {β : BM} {t : Nat} {k : Kd} {v : Value} (hk : kdOf P t = some k) (h : Cell.okWide P w r base t v) : ∃ x, SR β x v ∧ IsKd k x := by
  unfold kdOf at hk
  unfold Cell.okWide Cell.ok at h
  split at hk
  · rename_i q hu
    cases hk
    rw [hu] at h
    cases v <;> simp only at h <;> try (exact h.elim)
    obtain ⟨rfl, h⟩ := h
    exact ⟨_, .flt _ _ _ rfl (fltB_has h), _, rfl, h⟩
  · rename_i q hu
    cases hk
    rw [hu] at h
    cases v <;> simp only at h <;> try (exact h.elim)
    obtain ⟨rfl, h⟩ := h
    refine ⟨_, .sint _ _ ?_, _, rfl, ?_⟩ <;> simpa [inI, IntKind.has] using h
  · rename_i hu
    cases hk
    rw [hu] at h
    cases v <;> simp only at h <;> try (exact h.elim)
    exact ⟨_, .sbool _, _, rfl⟩
  · rename_i hu
    cases hk
    rw [hu] at h
    cases v <;> simp only at h <;> try (exact h.elim)
    exact ⟨_, .str _, _, rfl, h⟩
  · cases hk

theorem open_cells {β : BM} {ts : List Nat} : ∀ {ks : List Kd} {cs : List Value}, kdsOf P ts = some ks → cs.length = ts.length → (∀ (i : Nat) v, cs[i]? = some v → ∃ u, ts[i]? = some u ∧ Cell.okWide P w r base u v) →
    ∃ xs, SRs β xs cs ∧ AllKd ks xs := by
  induction ts with
  | nil =>
    intro ks cs hk hl _
    cases hk
    have : cs = [] := List.length_eq_zero_iff.1 hl
    subst this
    exact ⟨[], .nil, trivial⟩
  | cons t ts ih =>
    intro ks cs hk hl h
    cases cs with
    | nil => simp at hl
    | cons c cs =>
      simp only [kdsOf] at hk
      split at hk
      · rename_i k l h1 h2
        cases hk
        obtain ⟨u, e1, e2⟩ := h 0 c (by simp)
        simp at e1
        subst e1
        obtain ⟨x, x1, x2⟩ := open_cell (β := β) h1 e2
        obtain ⟨xs, y1, y2⟩ := ih h2 (by simpa using hl) fun i v hi => by simpa using h (i + 1) v (by simpa using hi)
        exact ⟨x :: xs, .cons _ _ _ _ x1 y1, x2, y2⟩
      · cases hk

/-- The cells of an argument that is an array or a struct. -/
def aggKds (P : Program) (t : Nat) : Option (List Kd) :=
  match P.underlying t with
  | some (.struct _) | some (.array _ _) => match P.cellTypes P.depth t with
    | some ts => match Nat.beq (P.cellsOf t) ts.length with
      | true => kdsOf P ts
      | false => none
    | none => none
  | _ => none

theorem open_aggr {β : BM} {t : Nat} {ks : List Kd} {v : Value} (hk : aggKds P t = some ks) (h : Value.okWide P w r base t v) : ∃ xs, VR β (.agg xs) v ∧ AllKd ks xs := by
  have key : ∀ cs : Array Value, v = .agg cs → cs.size = P.cellsOf t → Row.okWide P w r base t cs → (match P.cellTypes P.depth t with
      | some ts => match Nat.beq (P.cellsOf t) ts.length with
        | true => kdsOf P ts
        | false => none
      | none => none) = some ks → ∃ xs, VR β (.agg xs) v ∧ AllKd ks xs := by
    intro cs hv hsz hr hk
    obtain ⟨ts, ht, _, hc⟩ := hr
    rw [ht] at hk
    simp only at hk
    split at hk
    · rename_i hb
      have hb := Nat.eq_of_beq_eq_true hb
      obtain ⟨xs, h1, h2⟩ := open_cells (β := β) (w := w) (r := r) (base := base) (cs := cs.toList) hk (by simp [hsz, hb]) fun i v hi => by
        have hi : cs[i]? = some v := by simpa using hi
        obtain ⟨u, e1, e2⟩ := hc i v hi
        have hlt : i < ts.length := by
          have := (Array.getElem?_eq_some_iff.1 hi).1
          omega
        rw [Nat.mod_eq_of_lt hlt] at e1
        exact ⟨u, e1, e2⟩
      refine ⟨xs, ?_, h2⟩
      rw [hv]
      exact .agg xs cs.toList h1
    · cases hk
  unfold aggKds at hk
  unfold Value.okWide at h
  split at hk
  · rename_i fs hu
    rw [hu] at h
    obtain ⟨cs, h1, h2, h3⟩ := h
    exact key cs h1 h2 h3 hk
  · rename_i n e hu
    rw [hu] at h
    obtain ⟨cs, h1, h2, h3⟩ := h
    exact key cs h1 h2 h3 hk
  · cases hk

theorem open_scal {β : BM} {t : Nat} {k : Kd} {v : Value} (hk : kdOf P t = some k) (h : Value.okWide P w r base t v) : ∃ x, VR β x v ∧ IsKd k x := by
  have h' : Cell.okWide P w r base t v := by
    unfold Value.okWide at h
    unfold kdOf at hk
    split at hk <;> (first | (rename_i hu; rw [hu] at h; exact h) | cases hk)
  obtain ⟨x, h1, h2⟩ := open_cell (β := β) hk h'
  exact ⟨x, .sc _ _ h1, h2⟩

end

/-! ### The row -/

theorem Qt.below {w w' : World} (h : Qt w w') : Below w.heap.size w w' := ⟨h.os, h.tape, h.output, h.size, h.block⟩

section
variable {H : Type} {enc : TypeId × Value → H} {P : Program}

/-- Arguments, behind a call that turned nothing. -/
theorem trodAll_below (hl : laidOutB P = true) {W W' : World} (hb : Below W.heap.size W W') : ∀ {ts : List TypeId} {vs : List Value} {ds : List (DataW H)} {ps : List MemPlace}, (ts.all fun t => P.readableRec t && decide (t < P.types.size)) = true →
    DataW.TrodAll enc P W 0 (fun _ => true) true ts vs ds ps → (∀ x ∈ ps, x.block < W.heap.size) → ∀ sp : Nat → Bool, (∀ x ∈ ps, sp x.block = true) → DataW.TrodAll enc P W' 0 sp true ts vs ds ps := by
  intro ts
  induction ts with
  | nil =>
    intro vs ds ps _ h _ sp _
    obtain ⟨rfl, rfl, rfl⟩ := trodAll_nil h
    rfl
  | cons t ts ih =>
    intro vs ds ps hr h hlt sp hsp
    rw [List.all_cons, Bool.and_eq_true, Bool.and_eq_true, decide_eq_true_eq] at hr
    obtain ⟨v, vs', d, ds', p, q, rfl, rfl, rfl, h1, h2⟩ := trodAll_cons h
    refine ⟨p, q, ?_, ih hr.2 h2 (fun x hx => hlt x (List.mem_append_right _ hx)) sp fun x hx => hsp x (List.mem_append_right _ hx), rfl⟩
    exact WideElems.Trod_stays hl hr.1.1 hr.1.2 h1 (fun x hx => hb.same (hlt x (List.mem_append_left _ hx))) fun x hx => hsp x (List.mem_append_left _ hx)

/-- A law's row: true, whatever the input; every argument reads as it did. -/
theorem post_true {f : Func} {s : ChangeSpec} {apart fresh handsOn again : Bool} {W W' : World} {args : Array Value} {ds gs : List (DataW H)} {before : List MemPlace} {tb : TypeId}
    (hl : laidOutB P = true) (hp : (f.params.toList.all fun t => P.readableRec t && decide (t < P.types.size)) = true) (hv : s.vars = []) (hr : f.resultTypes = #[tb]) (hb : P.underlying tb = some .bool)
    (hs : ∀ ds : List (DataW H), ds.length = f.params.toList.length → s.fn H ds = { results := [.lit (.bool true)], args := ds })
    (hW : DataW.Whole enc P f.params.toList s.vars apart W args.toList ds gs before) (hq : Below W.heap.size W W') :
    s.post enc P f apart fresh handsOn again W args (.bool true) W' := by
  have hlt := hW.lt
  obtain ⟨p, q, hA, hV, rfl, hz, hn⟩ := hW
  rw [hv] at hV
  obtain ⟨rfl, rfl⟩ := trodVars_none hV
  rw [List.append_nil] at *
  have hlen : ∀ {ts : List TypeId} {vs : List Value} {ds : List (DataW H)} {ps : List MemPlace}, DataW.TrodAll enc P W 0 (fun _ => true) true ts vs ds ps → ds.length = ts.length := by
    intro ts
    induction ts with
    | nil => intro vs ds ps h; obtain ⟨rfl, rfl, rfl⟩ := trodAll_nil h; rfl
    | cons t ts ih => intro vs ds ps h; obtain ⟨v, vs', d, ds', p, q, rfl, rfl, rfl, h1, h2⟩ := trodAll_cons h; simp [ih h2]
  have hfn := hs ds (hlen hA)
  have hres : ∀ (b : Nat) (sp : Nat → Bool) (hd : Bool), DataW.TrodAll enc P W' b sp hd f.resultTypes.toList ((Value.bool true).resultList f.resultTypes.size) [.lit (.bool true)] [] := by
    intro b sp hd
    rw [hr]
    exact ⟨[], [], shut_bool hb true, rfl, rfl⟩
  refine ⟨ds, [], p, [], p, [], ⟨p, [], hA, (by rw [hv]; exact hV), by simp, (by simpa using hz), by simpa using hn⟩, ?_, ?_, ?_, ?_, ?_⟩
  · rw [List.append_nil, hfn]; exact hres _ _ _
  · rw [List.append_nil, hfn]; exact trodAll_below hl hq hp hA hlt _ fun x hx => by simpa using hlt x hx
  · rw [List.append_nil, hfn, hv]; rfl
  · exact hq.frame _
  · intro _
    refine ⟨ok_one hr rfl (okWide_bool_mk hb true), _, ([] : List (DataW H)), [] ++ p, ⟨[] ++ p, [], trodAll_append (trodAll_below hl hq hp hA hlt _ fun _ _ => rfl) (hres 0 _ _), (by rw [hv]; rfl), by simp, ?_, ?_⟩, ?_⟩
    · intro b off hx
      have hx : MemPlace.cell b off ∈ p := by simpa using hx
      rw [hq.frozen (p := ⟨b, off, none⟩) (hlt _ hx)]
      exact hz b off hx
    · intro ha
      have := hn ha
      simpa using this
    · intro x hx _
      simpa using hx

end

/-- The lifting of a contract to the row. -/
theorem law_lift {C : Checked} {os : Os} {H : Type} {enc : TypeId × Value → H} {f : FuncId} {fn : Func} {s : ChangeSpec} {conds : List PathCond} {apart fresh handsOn again : Bool} {tb : TypeId}
    (own : ownKnob C.prog.godebug = none) (started : os.Started) (noInit : C.prog.inits.idxOf? f = none) (hfn : C.prog.funcs[f]? = some fn)
    (hl : laidOutB C.prog = true) (hp : (fn.params.toList.all fun t => C.prog.readableRec t && decide (t < C.prog.types.size)) = true) (hv : s.vars = []) (hr : fn.resultTypes = #[tb]) (hb : C.prog.underlying tb = some .bool)
    (hs : ∀ ds : List (DataW H), ds.length = fn.params.toList.length → s.fn H ds = { results := [.lit (.bool true)], args := ds })
    (witness : ∃ (w : World) (tape : Tape) (i : Input), w.os = os ∧ (w.forCall tape i).Shaped C.prog ∧ i.vars = [] ∧ Input.okWide C.prog (w.forCall tape i) .any w.heap.size f i ∧
      s.pre6 enc C.prog fn conds apart (w.forCall tape i).memory i.args ∧ ({} : Assume).holds C.prog (lone (Frame.enter C.prog f i.args .normal) [] (w.forCall tape i)))
    (walk : ∀ (W : World) (base : Nat) (args : Array Value) (ds : List (DataW H)) (before : List MemPlace),
      (∀ (j : Nat) t v, fn.params[j]? = some t → args[j]? = some v → Value.okWide C.prog W .any base t v) →
      DataW.TrodAll enc C.prog W 0 (fun _ => true) true fn.params.toList args.toList ds before →
      Calls C.prog f args W fun e W' => e = .returned (.bool true) ∧ Qt W W') :
    ReturnsInHanded {} C os f .any (s.pre6 enc C.prog fn conds apart) (s.post enc C.prog fn apart fresh handsOn again) := by
  refine returnsInHanded_of_change own started noInit hfn witness ?_
  intro W base args ds gs before hval hW _ _
  obtain ⟨p, q, hA, hV, rfl, hz, hn⟩ := hW
  refine (walk W base args ds p hval hA).mono fun e W' ⟨he, hq⟩ => ?_
  subst he
  exact ⟨_, rfl, post_true hl hp hv hr hb hs ⟨p, q, hA, hV, rfl, hz, hn⟩ hq.below⟩

/-- A law whose evaluation says 'true': its call returns true, and nothing that was there has turned. -/
theorem law_call {P : Program} {G : Summ} (hG : SoundG P G) (hm : P.follows .mixedOrders = true) {f n : Nat} {xs : List AV} {D cs : List Bool} {b : Bool} (h : funA P G n f xs [] D = some (.sbool b, cs)) (hb : b = true) (hcs : ∀ b ∈ cs, b = true)
    {W : World} {cargs : List Value} (hx : VRs (fun _ => none) xs cargs) : Calls P f ⟨cargs⟩ W fun e W' => e = .returned (.bool true) ∧ Qt W W' := by
  have hW : WS (fun _ => False) W (fun _ => none) [] W :=
    ⟨⟨fun i bk hi => by simp [Mem.at] at hi, fun i j bi bj ei ej hi => by simp [Mem.at] at hi⟩, Fr.refl _ W, fun i bk be hi => by simp [Mem.at] at hi⟩
  refine (fun_ok hG hm h hcs hW (fun _ _ => rfl) hx).mono fun e W' he => ?_
  obtain ⟨c, e1, b3, β', b1, b4⟩ := he
  subst hb
  refine ⟨?_, ⟨b3.os, b3.tape, b3.output, b3.size, fun k hk => b3.block k hk (fun hn => hn)⟩⟩
  cases b4 with | sc _ _ b4 =>
  cases b4
  exact e1

end Go.Sim

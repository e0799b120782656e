/-
  A law's row, by its arguments' shapes.
-/
import Derived.Test.YtekilpllicggeaaSimT
namespace Go.Sim
open Go.ChangeShapes Go.WideShapes Go.ChangeAt Go.RowKit

def AllSh : List Sh → List AV → Prop
  | [], [] => True
  | .sc k :: r, v :: s => IsKd k v ∧ AllSh r s
  | .ag ks :: r, v :: s => (∃ l, v = .agg l ∧ AllKd ks l) ∧ AllSh r s
  | _, _ => False

def shOf (P : Program) (t : Nat) : Option Sh :=
  match aggKds P t with
  | some ks => some (.ag ks)
  | none => match kdOf P t with
    | some k => some (.sc k)
    | none => none

def shsOf (P : Program) : List Nat → Option (List Sh)
  | [] => some []
  | t :: r => match shOf P t, shsOf P r with
    | some s, some l => some (s :: l)
    | _, _ => none

theorem isK_of {k : Kd} {v : AV} (h : IsKd k v) : isK k v = true ∧ normK v = v := by
  cases k with
  | flt k => obtain ⟨b, rfl, _⟩ := h; exact ⟨by simp [isK], rfl⟩
  | int k => obtain ⟨b, rfl, _⟩ := h; exact ⟨by simp [isK], rfl⟩
  | bool => obtain ⟨b, rfl⟩ := h; exact ⟨rfl, rfl⟩
  | str => obtain ⟨b, rfl, _⟩ := h; exact ⟨rfl, rfl⟩

theorem isL_of : ∀ {ks : List Kd} {l : List AV}, AllKd ks l → isL ks l = true ∧ normL l = l
  | [], [], _ => ⟨rfl, rfl⟩
  | [], _ :: _, h => h.elim
  | _ :: _, [], h => h.elim
  | k :: ks, v :: l, h => by
    obtain ⟨e1, e2⟩ := isK_of h.1
    obtain ⟨r1, r2⟩ := isL_of h.2
    exact ⟨by simp only [isL, e1, r1], by simp only [normL, e2, r2]⟩

theorem isShs_of : ∀ {KS : List Sh} {xs : List AV}, AllSh KS xs → isShs KS xs = true ∧ normAs xs = xs
  | [], [], _ => ⟨rfl, rfl⟩
  | [], _ :: _, h => h.elim
  | .sc _ :: _, [], h => h.elim
  | .ag _ :: _, [], h => h.elim
  | .sc k :: KS, v :: xs, h => by
    obtain ⟨e1, e2⟩ := isK_of h.1
    obtain ⟨r1, r2⟩ := isShs_of h.2
    have e3 : normA v = v := by
      cases v <;> first | exact e2 | (exfalso; cases k <;> obtain ⟨_, h, _⟩ := h.1 <;> cases h) | (exfalso; cases k <;> obtain ⟨_, h⟩ := h.1 <;> first | cases h | (cases h.1))
    exact ⟨by simp only [isShs, isSh, e1, r1], by simp only [normAs, e3, r2]⟩
  | .ag ks :: KS, v :: xs, h => by
    obtain ⟨⟨l, rfl, hl⟩, hr⟩ := h
    obtain ⟨e1, e2⟩ := isL_of hl
    obtain ⟨r1, r2⟩ := isShs_of hr
    exact ⟨by simp only [isShs, isSh, e1, r1], by simp only [normAs, normA, e2, r2]⟩

theorem open_shs {P : Program} {w : World} {r : Reach} {base : Nat} : ∀ {ts : List Nat} {KS : List Sh} {vs : List Value}, shsOf P ts = some KS → vs.length = ts.length → (∀ (j : Nat) t v, ts[j]? = some t → vs[j]? = some v → Value.okWide P w r base t v) →
    ∃ xs, VRs (fun _ => none) xs vs ∧ AllSh KS xs
  | [], KS, vs, hk, hl, _ => by
    cases hk
    have : vs = [] := List.length_eq_zero_iff.1 hl
    subst this
    exact ⟨[], .nil, trivial⟩
  | t :: ts, KS, [], _, hl, _ => by simp at hl
  | t :: ts, KS, v :: vs, hk, hl, h => by
    simp only [shsOf] at hk
    split at hk
    · rename_i s l h1 h2
      cases hk
      obtain ⟨xs, y1, y2⟩ := open_shs h2 (by simpa using hl) fun j t v hj hv => h (j + 1) t v (by simpa using hj) (by simpa using hv)
      have h0 := h 0 t v (by simp) (by simp)
      unfold shOf at h1
      split at h1
      · rename_i ks hks
        cases h1
        obtain ⟨l, z1, z2⟩ := open_aggr (β := fun _ => none) hks h0
        exact ⟨.agg l :: xs, .cons _ _ _ _ z1 y1, ⟨l, rfl, z2⟩, y2⟩
      · split at h1
        · rename_i k hk
          cases h1
          obtain ⟨x, z1, z2⟩ := open_scal (β := fun _ => none) hk h0
          exact ⟨x :: xs, .cons _ _ _ _ z1 y1, z2, y2⟩
        · cases h1
    · cases hk

theorem trodAll_length {H : Type} {enc : TypeId × Value → H} {P : Program} {W : World} {base : Nat} {sp : Nat → Bool} {hd : Bool} : ∀ {ts : List TypeId} {vs : List Value} {ds : List (DataW H)} {ps : List MemPlace}, DataW.TrodAll enc P W base sp hd ts vs ds ps → vs.length = ts.length := by
  intro ts
  induction ts with
  | nil => intro vs ds ps h; obtain ⟨rfl, rfl, rfl⟩ := trodAll_nil h; rfl
  | cons t ts ih => intro vs ds ps h; obtain ⟨v, vs', d, ds', p, q, rfl, rfl, rfl, h1, h2⟩ := trodAll_cons h; simp [ih h2]

/-- The lifting of an evaluation to the row. -/
theorem law_row {C : Checked} {os : Os} {H : Type} {enc : TypeId × Value → H} {f : FuncId} {fn : Func} {s : ChangeSpec} {conds : List PathCond} {apart fresh handsOn again : Bool} {tb : TypeId} {KS : List Sh}
    (own : ownKnob C.prog.godebug = none) (started : os.Started) (noInit : C.prog.inits.idxOf? f = none) (hfn : C.prog.funcs[f]? = some fn)
    (hl : laidOutB C.prog = true) (hp : (fn.params.toList.all fun t => C.prog.readableRec t && decide (t < C.prog.types.size)) = true) (hv : s.vars = []) (hr : fn.resultTypes = #[tb]) (hb : C.prog.underlying tb = some .bool)
    (hs : ∀ ds : List (DataW H), ds.length = fn.params.toList.length → s.fn H ds = { results := [.lit (.bool true)], args := ds })
    (witness : ∃ (w : World) (tape : Tape) (i : Input), w.os = os ∧ (w.forCall tape i).Shaped C.prog ∧ i.vars = [] ∧ Input.okWide C.prog (w.forCall tape i) .any w.heap.size f i ∧
      s.pre6 enc C.prog fn conds apart (w.forCall tape i).memory i.args ∧ ({} : Assume).holds C.prog (lone (Frame.enter C.prog f i.args .normal) [] (w.forCall tape i)))
    (hm : C.prog.follows .mixedOrders = true) (hsh : shsOf C.prog fn.params.toList = some KS) {G : Summ} (hG : SoundG C.prog G) {n : Nat}
    (hev : ∀ x, AllSh KS (mkAs x 0 KS) → ∃ cs b, funA C.prog G n f (mkAs x 0 KS) [] [] = some (.sbool b, cs) ∧ b = true ∧ ∀ b ∈ cs, b = true) :
    ReturnsInHanded {} C os f .any (s.pre6 enc C.prog fn conds apart) (s.post enc C.prog fn apart fresh handsOn again) := by
  refine law_lift own started noInit hfn hl hp hv hr hb hs witness fun W base args ds before hval hA => ?_
  obtain ⟨xs, h1, h2⟩ := open_shs (P := C.prog) (w := W) (r := .any) (base := base) (vs := args.toList) hsh (trodAll_length hA) fun j t v hj hv => hval j t v (by simpa using hj) (by simpa using hv)
  obtain ⟨e1, e2⟩ := isShs_of h2
  obtain ⟨e3, _, _⟩ := isShs_norm e1 (inV xs) 0 fun q => by rw [Nat.zero_add]; exact ⟨rfl, rfl, rfl, rfl⟩
  rw [e2] at e3
  rw [e3] at h1 h2
  obtain ⟨cs, b, h3, h4, h5⟩ := hev _ h2
  exact law_call hG hm h3 h4 h5 h1

end Go.Sim

/-
  The lifting of an evaluation to the row where one argument is a slice, of each length its own evaluation.
-/
import Derived.Test.YtekilpllicggeaaSimZb
namespace Go.Sim
open Go.ChangeShapes Go.WideShapes Go.ChangeAt Go.RowKit

/-- A row of which one argument is a slice: of each input its own table of summaries; the slice nil, or with a block of its own, its length a literal or not. -/
theorem law_row4 {C : Checked} {os : Os} {H : Type} {enc : TypeId × Value → H} {f : FuncId} {fn : Func} {s : ChangeSpec} {conds : List PathCond} {apart fresh handsOn again : Bool} {tb : TypeId} {KS1 KS2 : List Sh} {k : Kd} {es : Nat} {ts1 ts2 : List Nat} {t : Nat}
    (own : ownKnob C.prog.godebug = none) (started : os.Started) (noInit : C.prog.inits.idxOf? f = none) (hfn : C.prog.funcs[f]? = some fn)
    (hl : laidOutB C.prog = true) (hp : (fn.params.toList.all fun t => C.prog.readableRec t && decide (t < C.prog.types.size)) = true) (hv : s.vars = []) (hr : fn.resultTypes = #[tb]) (hb : C.prog.underlying tb = some .bool)
    (hs : ∀ ds : List (DataW H), ds.length = fn.params.toList.length → s.fn H ds = { results := [.lit (.bool true)], args := ds })
    (witness : ∃ (w : World) (tape : Tape) (i : Input), w.os = os ∧ (w.forCall tape i).Shaped C.prog ∧ i.vars = [] ∧ Input.okWide C.prog (w.forCall tape i) .any w.heap.size f i ∧
      s.pre6 enc C.prog fn conds apart (w.forCall tape i).memory i.args ∧ ({} : Assume).holds C.prog (lone (Frame.enter C.prog f i.args .normal) [] (w.forCall tape i)))
    (hm : C.prog.follows .mixedOrders = true) (hpar : fn.params.toList = ts1 ++ t :: ts2) (hsh1 : shsOf C.prog ts1 = some KS1) (hsl : slOf C.prog t = some (k, es)) (hstr : k ≠ .str) (hsh2 : shsOf C.prog ts2 = some KS2)
    (hev0 : ∀ x, AllSh (KS1 ++ KS2) (mkAs x 0 (KS1 ++ KS2)) → ∃ G n H J D cs v, SoundG C.prog G ∧ HFun C.prog 0 H f ∧ funH C.prog G H J n f (mkAs x 0 KS1 ++ .snil :: mkAs x (shSizes KS1) KS2) [] D = some (v, cs) ∧ (v = .sbool true ∨ v = .bool true) ∧ ∀ b ∈ cs, b = true)
    (hev1 : ∀ x len y, AllSh (KS1 ++ KS2) (mkAs x 0 (KS1 ++ KS2)) → len ≤ maxLen → (∀ j, j < es * len → IsKd k (mkK y j k)) → ∃ G n H J D cs v sv, (sv = .sslc 0 0 len es ∨ sv = .slc 0 0 len es) ∧ SoundG C.prog G ∧ HFun C.prog 1 H f ∧ funH C.prog G H J n f (mkAs x 0 KS1 ++ sv :: mkAs x (shSizes KS1) KS2) [some (.sym (es * len) k y false)] D = some (v, cs) ∧ (v = .sbool true ∨ v = .bool true) ∧ ∀ b ∈ cs, b = true) :
    ReturnsInHanded {} C os f .any (s.pre6 enc C.prog fn conds apart) (s.post enc C.prog fn apart fresh handsOn again) := by
  refine law_lift own started noInit hfn hl hp hv hr hb hs witness fun W base args ds before hval hA => ?_
  have hlen := trodAll_length hA
  have hval' : ∀ (j : Nat) t' v', (ts1 ++ t :: ts2)[j]? = some t' → args.toList[j]? = some v' → Value.okWide C.prog W .any base t' v' := fun j t' v' hj hv => hval j t' v' (by rw [← hpar] at hj; simpa using hj) (by simpa using hv)
  rw [hpar] at hA hlen
  have hsp : args.toList = args.toList.take ts1.length ++ args.toList.drop ts1.length := (List.take_append_drop ..).symm
  have hl1 : (args.toList.take ts1.length).length = ts1.length := by
    rw [List.length_take, hlen, List.length_append]
    omega
  cases hd : args.toList.drop ts1.length with
  | nil =>
    exfalso
    have : (args.toList.drop ts1.length).length = ts2.length + 1 := by
      rw [List.length_drop, hlen, List.length_append, List.length_cons]
      omega
    rw [hd] at this
    simp at this
  | cons v vs2 =>
    rw [hd] at hsp
    have hl2 : vs2.length = ts2.length := by
      have := congrArg List.length hsp
      rw [hlen, List.length_append, List.length_append, hl1, List.length_cons, List.length_cons] at this
      omega
    generalize args.toList.take ts1.length = vs1 at hsp hl1
    have at2 : ∀ j, args.toList[ts1.length + 1 + j]? = vs2[j]? := fun j => by
      rw [hsp, List.getElem?_append_right (by omega), hl1]
      rw [show ts1.length + 1 + j - ts1.length = j + 1 by omega, List.getElem?_cons_succ]
    have at1 : ∀ j, j < ts1.length → args.toList[j]? = vs1[j]? := fun j hj => by rw [hsp, List.getElem?_append_left (by omega)]
    have at0 : args.toList[ts1.length]? = some v := by
      rw [hsp, List.getElem?_append_right (by omega), hl1, Nat.sub_self]
      rfl
    have tt0 : (ts1 ++ t :: ts2)[ts1.length]? = some t := by
      rw [List.getElem?_append_right (by omega), Nat.sub_self]
      rfl
    obtain ⟨xs1, a1, a2⟩ := open_shs (P := C.prog) (w := W) (r := .any) (base := base) (vs := vs1) hsh1 hl1 fun j t' v' hj hv' => by
      have hjl := (List.getElem?_eq_some_iff.1 hj).1
      exact hval' j t' v' (by rw [List.getElem?_append_left hjl]; exact hj) (by rw [at1 j hjl]; exact hv')
    obtain ⟨xs2, c1, c2⟩ := open_shs (P := C.prog) (w := W) (r := .any) (base := base) (vs := vs2) hsh2 hl2 fun j t' v' hj hv' => by
      refine hval' (ts1.length + 1 + j) t' v' ?_ (by rw [at2]; exact hv')
      rw [List.getElem?_append_right (by omega), show ts1.length + 1 + j - ts1.length = j + 1 by omega, List.getElem?_cons_succ]
      exact hj
    have hall := AllSh.app a2 c2
    obtain ⟨e1, e2⟩ := isShs_of hall
    obtain ⟨e3, e4, _⟩ := isShs_norm e1 (inV (xs1 ++ xs2)) 0 fun q => by rw [Nat.zero_add]; exact ⟨rfl, rfl, rfl, rfl⟩
    rw [e2] at e3
    rw [e3] at hall
    have e5 := e3
    rw [mkAs_append, Nat.zero_add] at e5
    obtain ⟨f1, f2⟩ := List.append_inj e5 (by rw [AllSh.len a2, mkAs_length])
    rw [f1] at a1
    rw [f2] at c1
    have fl1 : flatL (mkAs (inV (xs1 ++ xs2)) 0 KS1) = true := mkAs_flat ..
    have fl2 : flatL (mkAs (inV (xs1 ++ xs2)) (shSizes KS1) KS2) = true := mkAs_flat ..
    obtain ⟨dd, pp, hT⟩ := trodAll_at hA ts1.length t v tt0 at0
    have hargs : args = ⟨args.toList⟩ := rfl
    rcases open_slice hsl hstr (hval' ts1.length t v tt0 at0) hT with rfl | ⟨b, off, len, cap, c, el, fr, rfl, h1, h2, h3, h4, h5⟩
    · obtain ⟨G, n, HH, J, D, cs, w, hG, hH, g1, g2, g3⟩ := hev0 _ hall
      rw [hargs, hsp]
      exact law_callM (M := []) (β := fun _ => none) hG hm hH g1 g2 g3 ⟨fun i bk hi => by simp [Mem.at] at hi, fun i j bi bj ei ej hi => by simp [Mem.at] at hi⟩ (fun i bk hi => by simp [Mem.at] at hi) (fun _ _ => rfl) (a1.append (.cons _ _ _ _ (.sc _ _ .snil) c1))
    · obtain ⟨G, n, HH, J, D, cs, w, sv, hsv, hG, hH, g1, g2, g3⟩ := hev1 _ len (cellsY c off) hall (by omega) fun j hj => by
        obtain ⟨cv, q1, q2⟩ := h5 j hj
        exact (cellsY_ok q1 q2 (fun _ => none)).2
      rw [hargs, hsp]
      refine law_callM (M := [some (.sym (es * len) k (cellsY c off) false)]) (β := fun i => if i = 0 then some ⟨b, off, none⟩ else none) hG hm hH g1 g2 g3 ⟨fun i bk hi => ?_, fun i j bi bj ei ej hi hj hne => ?_⟩ (fun i bk hi => ?_) (fun i hi => ?_) ?_
      · cases i with
        | zero =>
          simp only [Mem.at, Option.some.injEq] at hi
          subst hi
          refine ⟨_, rfl, c, el, fr, h3, (fun h => by cases h), (fun n hn => by cases hn), h4, fun j hj => ?_⟩
          obtain ⟨cv, q1, q2⟩ := h5 j hj
          exact ⟨cv, q1, (cellsY_ok q1 q2 _).1⟩
        | succ i => simp [Mem.at] at hi
      · cases i with
        | zero =>
          cases j with
          | zero => exact absurd rfl hne
          | succ j => simp [Mem.at] at hj
        | succ i => simp [Mem.at] at hi
      · cases i with
        | zero => simp only [Mem.at, Option.some.injEq] at hi; subst hi; rfl
        | succ i => simp [Mem.at] at hi
      · simp only [List.length_singleton] at hi
        show (if i = 0 then _ else _) = _
        rw [if_neg (by omega)]
      · rcases hsv with rfl | rfl
        · exact (a1.flat fl1).append (.cons _ _ _ _ (.sc _ _ (.sslc 0 0 len es ⟨b, off, none⟩ cap rfl h1 fun n hn => by cases hn)) (c1.flat fl2))
        · exact (a1.flat fl1).append (.cons _ _ _ _ (.sc _ _ (.slc 0 0 len es ⟨b, off, none⟩ cap rfl h1 fun n hn => by cases hn)) (c1.flat fl2))


/-- A function's body, its decisions told: what it hands back, and what it leaves of the memory. -/
def bodyD (P : Program) (G : Summ) (n : Nat) (D : List Bool) (f : Nat) (as : List AV) (m : Mem) : Option (AV × Mem × List Bool) :=
  match P.funcs[f]? with
  | none => none
  | some fn => match fn.body, Nat.ble as.length fn.ntmps with
    | none, _ => none
    | some _, false => none
    | some c, true => codeA P G fn.ntmps n noLT true noMerge c (entsA 0 as) m [] D fun x E' m cs _ => match x with
      | .exit _ => none
      | _ => match resA P E' m fn.results.toList with
        | none => none
        | some (l, cs') => forceK m fun m' => appendK cs' cs fun cs => some (oneA l, m', cs)

def inlWD (P : Program) (n : Nat) (D : List Bool) (f : Nat) (G : Summ) : Summ := addG f (fun xs M => match bodyD P G n D f xs M with
  | none => none
  | some (v, M', cs) => some { v := v, m := some M', cs := cs }) G

section
variable {P : Program} {G : Summ}

theorem bodyD_ok (hG : SoundG P G) (hm : P.follows .mixedOrders = true) {f : Nat} {n : Nat} {xs : List AV} {m m' : Mem} {cs : List Bool} {v : AV} {D0 : List Bool} (h : bodyD P G n D0 f xs m = some (v, m', cs)) (hcs : ∀ b ∈ cs, b = true)
    {S : Nat → Prop} {w₀ w : World} {β : BM} {cargs : List Value} (hW : WS S w₀ β m w) (hF : Fresh β m) (hv : VRs β xs cargs) :
    Calls P f ⟨cargs⟩ w fun e w' => ∃ c, e = .returned c ∧ AfterW S w₀ β m' v c w' := by
  unfold bodyD at h
  split at h
  · cases h
  rename_i fn hf
  split at h
  · cases h
  · cases h
  · rename_i c hb hle
    have hle := Nat.le_of_ble_eq_true hle
    have hk : ∀ {x : EX} {E' : Env} {m1 : Mem} {cs1 : List Bool} {r' : AV × Mem × List Bool}, (match x with
      | .exit _ => none
      | _ => match resA P E' m1 fn.results.toList with
        | none => none
        | some (l, cs') => forceK m1 fun m' => appendK cs' cs1 fun cs => some (oneA l, m', cs)) = some r' → (x = .normal ∨ x = .ret) ∧ ∃ l cs', resA P E' m1 fn.results.toList = some (l, cs') ∧ r' = (oneA l, m1, cs' ++ cs1) := by
      intro x E' m1 cs1 r' h1
      have h1' : (x = .normal ∨ x = .ret) ∧ (match resA P E' m1 fn.results.toList with
        | none => none
        | some (l, cs') => forceK m1 fun m' => appendK cs' cs1 fun cs => some (oneA l, m', cs)) = some r' := by
        cases x with
        | exit id => cases h1
        | normal => exact ⟨.inl rfl, h1⟩
        | ret => exact ⟨.inr rfl, h1⟩
      obtain ⟨hx, h1'⟩ := h1'
      split at h1'
      · cases h1'
      · rename_i l cs' hl
        simp only [forceK_eq, appendK_eq, Option.some.injEq] at h1'
        exact ⟨hx, l, cs', hl, h1'.symm⟩
    obtain ⟨_, h3⟩ := codeA_ok hG hm n (noMerge_ok fun r' => r' = (v, m', cs)) (HOk.none c m.length) h rfl (fun x E' m1 cs1 D1 r' h' hr' b hb => by
      obtain ⟨_, l, cs', _, e⟩ := hk h'
      rw [e] at hr'
      simp only [Prod.mk.injEq] at hr'
      exact hcs b (by rw [← hr'.2.2]; exact List.mem_append_right _ hb))
    refine calls_of_wp hf hb (h3 S w₀ β [] _ w _ (fun i hi => hF i hi) (begin_ok hle hW hF hv) fun x E' m1 cs1 D1 r' a' w' h' hr' hrel => ?_).wp
    obtain ⟨hx, l, cs', hl, e⟩ := hk h'
    rw [e] at hr'
    simp only [Prod.mk.injEq] at hr'
    obtain ⟨e1, e2, e3⟩ := hr'
    obtain ⟨hd, u, u1, u2⟩ := end_ok hrel hl fun b hb => hcs b (by rw [← e3]; exact List.mem_append_left _ hb)
    rw [e1, e2] at u2
    have hpost : a'.defers = [] ∧ ∃ v', (results fn a'.tmps).run P w' = .ok v' w' ∧ ∃ c, Ending.returned v' = .returned c ∧ AfterW S w₀ β m' v c w' := ⟨hd, u, u1, u, rfl, u2⟩
    rcases hx with rfl | rfl
    · exact hpost
    · exact hpost


theorem SoundG.inlWD (hG : SoundG P G) (hm : P.follows .mixedOrders = true) {n f : Nat} {D : List Bool} (hc : Entered P f) : SoundG P (inlWD P n D f G) := by
  refine hG.add fun xs M r hr hcs S w₀ β w cargs hW hfr hv => ?_
  split at hr
  · cases hr
  · rename_i v M' cs hb
    cases hr
    unfold CallOk
    simp only
    exact .inl ⟨f, hc _ _, bodyD_ok hG hm hb hcs hW (hfr (by simp)) hv⟩

end
end Go.Sim

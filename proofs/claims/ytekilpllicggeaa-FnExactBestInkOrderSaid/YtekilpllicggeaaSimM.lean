/-
  Summaries of functions that write nothing, each proved by its body's evaluation.
-/
import Derived.Test.YtekilpllicggeaaSimL
namespace Go.Sim

/-! ### Values without addresses -/

mutual
theorem SR.flat {β β' : BM} {x : AV} {y : Value} : SR β x y → x.flat = true → SR β' x y
  | .bool b, _ => .bool b
  | .sbool b, _ => .sbool b
  | .int k n h, _ => .int k n h
  | .sint k n h, _ => .sint k n h
  | .flt k x b h h', _ => .flt k x b h h'
  | .str s, _ => .str s
  | .pnil, _ => .pnil
  | .ptr _ _ _ _, h => by simp [AV.flat] at h
  | .snil, _ => .snil
  | .slc _ _ _ _ _ _ _ _ _, h => by simp [AV.flat] at h
  | .sslc _ _ _ _ _ _ _ _ _, h => by simp [AV.flat] at h
  | .fn f caps cs h, hf => .fn f caps cs (SRs.flat h (by simpa [AV.flat] using hf))
  | .nilfn, _ => .nilfn
theorem SRs.flat {β β' : BM} {x : List AV} {y : List Value} : SRs β x y → flatL x = true → SRs β' x y
  | .nil, _ => .nil
  | .cons x y xs ys h hs, hf => by
    simp only [flatL, Bool.and_eq_true] at hf
    exact .cons x y xs ys (SR.flat h hf.1) (SRs.flat hs hf.2)
end

mutual
theorem VR.flat {β β' : BM} {x : AV} {y : Value} : VR β x y → x.flat = true → VR β' x y
  | .sc x y h, hf => .sc x y (h.flat hf)
  | .agg xs ys h, hf => .agg xs ys (h.flat (by simpa [AV.flat] using hf))
  | .tup xs ys h, hf => .tup xs ys (VRs.flat h (by simpa [AV.flat] using hf))
theorem VRs.flat {β β' : BM} {x : List AV} {y : List Value} : VRs β x y → flatL x = true → VRs β' x y
  | .nil, _ => .nil
  | .cons x y xs ys h hs, hf => by
    simp only [flatL, Bool.and_eq_true] at hf
    exact .cons x y xs ys (VR.flat h hf.1) (VRs.flat hs hf.2)
end

theorem flatL_get {l : List AV} (h : flatL l = true) {j : Nat} {v : AV} (hj : l[j]? = some v) : v.flat = true := by
  induction l generalizing j with
  | nil => simp at hj
  | cons x r ih =>
    simp only [flatL, Bool.and_eq_true] at h
    cases j with
    | zero => simp at hj; subst hj; exact h.1
    | succ j => exact ih h.2 (by simpa using hj)

/-! ### Blocks that are only read -/

def Blk.ro : Blk → Blk
  | .lit c _ => .lit c false
  | .sym n k y _ => .sym n k y false

def Blk.Flat : Blk → Prop
  | .lit c _ => flatL c = true
  | .sym _ _ _ _ => True

theorem mkK_flat (x : Vars) (j : Nat) (k : Kd) : (mkK x j k).flat = true := by cases k <;> rfl

theorem BR.ro {β β' : BM} {bk : Blk} {be : BE} {w : World} (h : BR β bk be w) (hf : bk.Flat) : BR β' bk.ro be w := by
  obtain ⟨c, e, fr, h1, h2, h3, h4, h5⟩ := h
  cases bk with
  | lit cells rw =>
    refine ⟨c, e, fr, h1, (fun hh => by cases hh), h3, h4, fun j v hj => ?_⟩
    obtain ⟨cv, c1, c2⟩ := h5 j v hj
    exact ⟨cv, c1, c2.flat (flatL_get hf hj)⟩
  | sym n k y rw =>
    refine ⟨c, e, fr, h1, (fun hh => by cases hh), h3, h4, fun j hj => ?_⟩
    obtain ⟨cv, c1, c2⟩ := h5 j hj
    exact ⟨cv, c1, c2.flat (mkK_flat y j k)⟩

/-! ### Renaming of blocks: number k of the callee is the caller's number sel[k] -/

def BM.sel (β : BM) (sel : List Nat) : BM := fun k => (sel[k]?).bind β

theorem ren_ok {β : BM} {sel : List Nat} {x : AV} {c : Value} (h : VR β (ren sel x) c) (hk : renOk sel x = true) : VR (β.sel sel) x c := by
  have key : ∀ {k : Nat} {be : BE}, Nat.blt k sel.length = true → β (sel.getD k 0) = some be → (β.sel sel) k = some be := by
    intro k be hk hb
    have hk : k < sel.length := by simpa [Nat.blt_eq] using hk
    unfold BM.sel
    rw [List.getElem?_eq_getElem hk]
    simp only [List.getD_eq_getElem?_getD, List.getElem?_eq_getElem hk, Option.getD_some] at hb
    exact hb
  cases x with
  | ptr k o => cases h with | sc _ _ h => cases h with | ptr _ _ be hb => exact .sc _ _ (.ptr _ _ be (key hk hb))
  | sptr k o n e z => cases h with | sc _ _ h => cases h with | sptr _ _ _ _ _ be hb h1 h2 => exact .sc _ _ (.sptr _ _ _ _ _ be (key hk hb) h1 h2)
  | slc k o n e => cases h with | sc _ _ h => cases h with | slc _ _ _ _ be cap hb h1 h2 => exact .sc _ _ (.slc _ _ _ _ be cap (key hk hb) h1 h2)
  | sslc k o n e => cases h with | sc _ _ h => cases h with | sslc _ _ _ _ be cap hb h1 h2 => exact .sc _ _ (.sslc _ _ _ _ be cap (key hk hb) h1 h2)
  | _ => exact VR.flat h hk

theorem renL_ok {β : BM} {sel : List Nat} {xs : List AV} {cs : List Value} (h : VRs β (xs.map (ren sel)) cs) (hk : renOkL sel xs = true) : VRs (β.sel sel) xs cs := by
  induction xs generalizing cs with
  | nil => cases h; exact .nil
  | cons x xs ih =>
    simp only [renOkL, Bool.and_eq_true] at hk
    cases h with | cons _ _ _ _ h hs => exact .cons _ _ _ _ (ren_ok h hk.1) (ih hs hk.2)

/-! ### The table of summaries -/

/-- Function 'f' gives 'v' at these arguments, in this memory: its body's evaluation says so, under conditions that hold. -/
def Ev (P : Program) (G : Summ) (f : Nat) (xs : List AV) (m : Mem) (v : AV) : Prop :=
  ∃ n D cs, funA P G n f xs m D = some (v, cs) ∧ ∀ b ∈ cs, b = true

/-- .. with summaries of its loops. -/
def EvH (P : Program) (G : Summ) (f : Nat) (xs : List AV) (m : Mem) (v : AV) : Prop :=
  ∃ n D cs H J, HFun P m.length H f ∧ funH P G H J n f xs m D = some (v, cs) ∧ ∀ b ∈ cs, b = true

theorem Ev.toH {P : Program} {G : Summ} {f : Nat} {xs : List AV} {m : Mem} {v : AV} (h : Ev P G f xs m v) : EvH P G f xs m v := by
  obtain ⟨n, D, cs, h1, h2⟩ := h
  exact ⟨n, D, cs, noLT, false, HFun.none P _ f, h1, h2⟩

section
variable {P : Program} {G : Summ}

theorem SoundG.nil : SoundG P (fun _ _ _ => none) := fun _ _ _ _ h => by cases h

theorem SoundG.add (hG : SoundG P G) {f : Nat} {g : List AV → Mem → Option CR}
    (h : ∀ xs m r, g xs m = some r → (∀ b ∈ r.cs, b = true) → ∀ S w₀ β w (cargs : List Value), WS S w₀ β m w → (r.m ≠ none → Fresh β m) → VRs β xs cargs → CallOk P S w₀ β f cargs w r) : SoundG P (addG f g G) := by
  intro f' xs m r hr
  unfold addG at hr
  split at hr
  · rename_i hb
    have hb := Nat.eq_of_beq_eq_true hb
    subst hb
    exact h xs m r hr
  · exact hG f' xs m r hr

/-- That 'f' is entered where it is called. -/
def Entered (P : Program) (f : Nat) : Prop := ∀ (cargs : Array Value) (w : World), (callFunc f cargs).run P w = .ok (.enter f cargs) w

theorem quiet_callH (hG : SoundG P G) (hm : P.follows .mixedOrders = true) {f : Nat} (hc : Entered P f) {xs : List AV} {mm : Mem} {v : AV} (h : EvH P G f xs mm v) (hv : v.flat = true) (hro : ∀ i bk, mm.at i = some bk → bk.rw = false)
    {β : BM} {w : World} {cargs : List Value} (hb : ∀ i bk, mm.at i = some bk → ∃ be, β i = some be ∧ BR β bk be w) (hF : Fresh β mm) (hx : VRs β xs cargs) (β₀ : BM) :
    CallTo P f ⟨cargs⟩ w (AfterQ β₀ w v) := by
  obtain ⟨n, D, cs, H, J, h0, h1, h2⟩ := h
  have hW : WS (fun _ => False) w β mm w :=
    ⟨⟨hb, fun i j bi bj ei ej hi hj hij hrw => by rw [hro i bi hi] at hrw; cases hrw⟩, Fr.refl _ w, fun i bk be hi hrw => by rw [hro i bk hi] at hrw; cases hrw⟩
  left
  refine ⟨f, hc _ _, (funH_ok hG hm h0 h1 h2 hW hF hx).mono fun e w' he => ?_⟩
  obtain ⟨c, e1, b3, β', b1, b4⟩ := he
  exact ⟨c, e1, ⟨b3.os, b3.tape, b3.output, b3.size, fun k hk => b3.block k hk (fun hn => hn)⟩, b4.flat hv⟩

theorem quiet_call (hG : SoundG P G) (hm : P.follows .mixedOrders = true) {f : Nat} (hc : Entered P f) {xs : List AV} {mm : Mem} {v : AV} (h : Ev P G f xs mm v) (hv : v.flat = true) (hro : ∀ i bk, mm.at i = some bk → bk.rw = false)
    {β : BM} {w : World} {cargs : List Value} (hb : ∀ i bk, mm.at i = some bk → ∃ be, β i = some be ∧ BR β bk be w) (hF : Fresh β mm) (hx : VRs β xs cargs) (β₀ : BM) :
    CallTo P f ⟨cargs⟩ w (AfterQ β₀ w v) := quiet_callH hG hm hc h.toH hv hro hb hF hx β₀

/-- A summary of a function that writes nothing and hands no address back. -/
theorem SoundG.addQ (hG : SoundG P G) (hm : P.follows .mixedOrders = true) {f : Nat} (hc : Entered P f) {g : List AV → Mem → Option CR}
    (h : ∀ ys M r, g ys M = some r → r.m = none ∧ ((∀ b ∈ r.cs, b = true) → ∃ xs mm sel, ys = xs.map (ren sel) ∧ renOkL sel xs = true ∧ mm.length = sel.length ∧ (∀ k bk, mm.at k = some bk → ∃ i bk', sel[k]? = some i ∧ M.at i = some bk' ∧ bk = bk'.ro ∧ bk'.Flat) ∧ r.v.flat = true ∧ Ev P G f xs mm r.v)) :
    SoundG P (addG f g G) := by
  refine hG.add fun ys M r hr hcs S w₀ β w cargs hW _ hv => ?_
  obtain ⟨hrm, hh⟩ := h ys M r hr
  obtain ⟨xs, mm, sel, h1, h2, h3, h4, h5, h6⟩ := hh hcs
  unfold CallOk
  rw [hrm]
  subst h1
  refine quiet_call hG hm hc h6 h5 ?_ (β := β.sel sel) ?_ ?_ (renL_ok hv h2) β
  · intro i bk hi
    obtain ⟨_, bk', _, _, e, _⟩ := h4 i bk hi
    rw [e]
    cases bk' <;> rfl
  · intro k bk hk
    obtain ⟨i, bk', e1, e2, e3, e4⟩ := h4 k bk hk
    obtain ⟨be, b1, b2⟩ := hW.sim.blk i bk' e2
    refine ⟨be, ?_, ?_⟩
    · unfold BM.sel
      rw [e1]
      exact b1
    · rw [e3]
      exact b2.ro e4
  · intro k hk
    unfold BM.sel
    rw [List.getElem?_eq_none (by omega)]
    rfl

/-- .. of one whose arguments bear no address. -/
theorem SoundG.add0 (hG : SoundG P G) (hm : P.follows .mixedOrders = true) {f : Nat} (hc : Entered P f) {g : List AV → Option AV} (h : ∀ xs v, g xs = some v → flatL xs = true ∧ v.flat = true ∧ Ev P G f xs [] v) :
    SoundG P (addG f (fun xs _ => (g xs).map fun v => { v := v }) G) := by
  refine hG.addQ hm hc fun ys M r hr => ?_
  cases hg : g ys with
  | none => rw [hg] at hr; cases hr
  | some v =>
    rw [hg] at hr
    cases hr
    obtain ⟨h1, h2, h3⟩ := h ys v hg
    refine ⟨rfl, fun _ => ⟨ys, [], [], ?_, ?_, rfl, ?_, h2, h3⟩⟩
    · have : ∀ (l : List AV), flatL l = true → l.map (ren []) = l := by
        intro l
        induction l with
        | nil => intro _; rfl
        | cons x r ih =>
          intro hl
          simp only [flatL, Bool.and_eq_true] at hl
          rw [List.map_cons, ih hl.2]
          congr 1
          cases x <;> first | rfl | (simp [AV.flat] at hl)
      exact (this ys h1).symm
    · have : ∀ (l : List AV), flatL l = true → renOkL [] l = true := by
        intro l
        induction l with
        | nil => intro _; rfl
        | cons x r ih =>
          intro hl
          simp only [flatL, Bool.and_eq_true] at hl
          simp only [renOkL, Bool.and_eq_true]
          refine ⟨?_, ih hl.2⟩
          cases x <;> first | exact hl.1 | (simp [AV.flat] at hl)
      exact this ys h1
    · intro k bk hk
      simp [Mem.at] at hk


/-- .. whose evaluation leans on another table. -/
theorem SoundG.add0' (hG : SoundG P G) (hm : P.follows .mixedOrders = true) {f : Nat} (hc : Entered P f) {g : List AV → Option AV} (h : ∀ xs v, g xs = some v → flatL xs = true ∧ v.flat = true ∧ ∃ G', SoundG P G' ∧ Ev P G' f xs [] v) :
    SoundG P (addG f (fun xs _ => (g xs).map fun v => { v := v }) G) := by
  refine hG.add fun ys M r hr _ S w₀ β w cargs hW _ hv => ?_
  cases hg : g ys with
  | none => rw [hg] at hr; cases hr
  | some v =>
    rw [hg] at hr
    cases hr
    obtain ⟨h1, h2, G', hG', h3⟩ := h ys v hg
    unfold CallOk
    simp only
    refine quiet_call hG' hm hc h3 h2 (fun i bk hi => by simp [Mem.at] at hi) (β := fun _ => none) (fun i bk hi => by simp [Mem.at] at hi) (fun _ _ => rfl) ?_ β
    have : ∀ {l : List AV} {cs : List Value}, flatL l = true → VRs β l cs → VRs (fun _ => none) l cs := by
      intro l
      induction l with
      | nil => intro cs _ h; cases h; exact .nil
      | cons x r ih =>
        intro cs hl h
        simp only [flatL, Bool.and_eq_true] at hl
        cases h with | cons _ _ _ _ a b => exact .cons _ _ _ _ (a.flat hl.1) (ih hl.2 b)
    exact this h1 hv

/-! ### Looked into where they are called -/

theorem roM_length (m : Mem) : (roM m).length = m.length := by
  induction m with
  | nil => rfl
  | cons b r ih =>
    cases b with
    | none => simp [roM, ih]
    | some b => cases b <;> simp [roM, ih]

theorem roM_at {m : Mem} {i : Nat} {bk : Blk} (h : (roM m).at i = some bk) : ∃ bk', m.at i = some bk' ∧ bk = bk'.ro ∧ bk'.Flat := by
  induction m generalizing i with
  | nil => simp [roM, Mem.at] at h
  | cons b r ih =>
    have hn : ∀ x : Option Blk, roM (b :: r) = x :: roM r → (x = some bk → ∃ bk', b = some bk' ∧ bk = bk'.ro ∧ bk'.Flat) → ∃ bk', Mem.at (b :: r) i = some bk' ∧ bk = bk'.ro ∧ bk'.Flat := by
      intro x hx h0
      rw [hx] at h
      cases i with
      | zero => simp only [Mem.at] at h ⊢; exact h0 h
      | succ i => simp only [Mem.at] at h ⊢; exact ih h
    cases b with
    | none => exact hn none rfl (fun hx => by cases hx)
    | some b =>
      cases b with
      | sym n k y rw => exact hn (some (.sym n k y false)) rfl (fun hx => by cases hx; exact ⟨_, rfl, rfl, trivial⟩)
      | lit c rw =>
        refine hn (match flatL c with | true => some (.lit c false) | false => none) rfl fun hx => ?_
        split at hx
        · rename_i hf
          cases hx
          exact ⟨_, rfl, rfl, hf⟩
        · cases hx

def BM.cut (β : BM) (n : Nat) : BM := fun i => if i < n then β i else none

theorem inA_ok {β : BM} {n : Nat} {x : AV} {c : Value} (h : VR β x c) (hk : inA n x = true) : VR (β.cut n) x c := by
  have key : ∀ {k : Nat} {be : BE}, Nat.blt k n = true → β k = some be → (β.cut n) k = some be := by
    intro k be hk hb
    have hk : k < n := by simpa [Nat.blt_eq] using hk
    unfold BM.cut
    rw [if_pos hk]
    exact hb
  cases x with
  | ptr k o => cases h with | sc _ _ h => cases h with | ptr _ _ be hb => exact .sc _ _ (.ptr _ _ be (key hk hb))
  | sptr k o n e z => cases h with | sc _ _ h => cases h with | sptr _ _ _ _ _ be hb h1 h2 => exact .sc _ _ (.sptr _ _ _ _ _ be (key hk hb) h1 h2)
  | slc k o n e => cases h with | sc _ _ h => cases h with | slc _ _ _ _ be cap hb h1 h2 => exact .sc _ _ (.slc _ _ _ _ be cap (key hk hb) h1 h2)
  | sslc k o n e => cases h with | sc _ _ h => cases h with | sslc _ _ _ _ be cap hb h1 h2 => exact .sc _ _ (.sslc _ _ _ _ be cap (key hk hb) h1 h2)
  | _ => exact VR.flat h hk

theorem inAL_ok {β : BM} {n : Nat} {xs : List AV} {cs : List Value} (h : VRs β xs cs) (hk : inAL n xs = true) : VRs (β.cut n) xs cs := by
  induction xs generalizing cs with
  | nil => cases h; exact .nil
  | cons x xs ih =>
    simp only [inAL, Bool.and_eq_true] at hk
    cases h with | cons _ _ _ _ h hs => exact .cons _ _ _ _ (inA_ok h hk.1) (ih hs hk.2)

theorem SoundG.inl (hG : SoundG P G) (hm : P.follows .mixedOrders = true) {n f : Nat} (hc : Entered P f) : SoundG P (inlG P n f G) := by
  refine hG.add fun xs M r hr hcs S w₀ β w cargs hW _ hv => ?_
  split at hr
  · cases hr
  · rename_i hin
    split at hr
    · cases hr
    · rename_i v cs hfun
      split at hr
      · rename_i hfl
        cases hr
        unfold CallOk
        simp only
        refine quiet_call hG hm hc (mm := roM M) ⟨n, [], cs, hfun, hcs⟩ hfl ?_ (β := β.cut M.length) ?_ ?_ (inAL_ok hv hin) β
        · intro i bk hi
          obtain ⟨bk', _, e, _⟩ := roM_at hi
          rw [e]
          cases bk' <;> rfl
        · intro i bk hi
          obtain ⟨bk', e1, e2, e3⟩ := roM_at hi
          obtain ⟨be, b1, b2⟩ := hW.sim.blk i _ e1
          refine ⟨be, ?_, ?_⟩
          · unfold BM.cut
            rw [if_pos (at_lt e1)]
            exact b1
          · rw [e2]
            exact b2.ro e3
        · intro i hi
          unfold BM.cut
          rw [if_neg (by rw [roM_length] at hi; omega)]
      · cases hr

theorem SoundG.inls (hm : P.follows .mixedOrders = true) {n : Nat} : ∀ {l : List Nat} {G : Summ}, SoundG P G → (∀ f ∈ l, Entered P f) → SoundG P (inlGs P n l G)
  | [], _, hG, _ => hG
  | f :: r, G, hG, hl => SoundG.inls (l := r) (G := inlG P n f G) hm (SoundG.inl hG hm (hl f (List.mem_cons_self ..))) fun g hg => hl g (List.mem_cons_of_mem _ hg)

end
end Go.Sim

/-
  Every operation, regions in whatever order, code, functions.
-/
import Derived.Test.YtekilpllicggeaaSimH
namespace Go.Sim

/-! ### What an operation comes to -/

/-- Operation 'o' of which the model has made 'res' yields some value, in some world, of which R holds. -/
def Outc (P : Program) (o : Oper) (res : Result Next) (R : Value → World → Prop) : Prop :=
  ∀ (a : Act) (next : Act → World → Prop) (Q : Exit → Act → World → Prop), (∀ v w', R v w' → next (a.put o.dst v) w') → o.upon P a next Q res

theorem Outc.value {P : Program} {o : Oper} {res : Result Next} {w' : World} {v : Value} {R : Value → World → Prop} (h : res = .ok (.value v) w') (hR : R v w') : Outc P o res R := by
  intro a next Q hn
  rw [h]
  exact hn v w' hR

theorem Outc.skip {P : Program} {o : Oper} {res : Result Next} {w' : World} {R : Value → World → Prop} (h : res = .ok .skip w') (hR : R undef w') : Outc P o res R := by
  intro a next Q hn
  rw [h]
  exact hn undef w' hR

theorem Outc.mono {P : Program} {o : Oper} {res : Result Next} {R R' : Value → World → Prop} (h : Outc P o res R) (hr : ∀ v w', R v w' → R' v w') : Outc P o res R' :=
  fun a next Q hn => h a next Q fun v w' hv => hn v w' (hr v w' hv)

/-- A call: of a function with a body, by its contract; of one that the model answers itself. -/
def CallTo (P : Program) (f : FuncId) (cargs : Array Value) (w : World) (R : Value → World → Prop) : Prop :=
  (∃ g, (callFunc f cargs).run P w = .ok (.enter g cargs) w ∧ Calls P g cargs w fun e w' => ∃ v, e = .returned v ∧ R v w') ∨
  (∃ v w', (callFunc f cargs).run P w = .ok (.value v) w' ∧ R v w')

/-- A quiet operation's outcome. -/
def AfterQ (β : BM) (w : World) (x : AV) (v : Value) (w' : World) : Prop := Qt w w' ∧ VR β x v

/-- What a call's summary says, in one memory. -/
def CallOk (P : Program) (S : Nat → Prop) (w₀ : World) (β : BM) (f : Nat) (cargs : List Value) (w : World) (r : CR) : Prop :=
  match r.m with
  | none => CallTo P f ⟨cargs⟩ w (AfterQ β w r.v)
  | some m' => CallTo P f ⟨cargs⟩ w (AfterW S w₀ β m' r.v)

/-- What the summaries say, holds. -/
def SoundG (P : Program) (G : Summ) : Prop :=
  ∀ f xs m r, G f xs m = some r → (∀ b ∈ r.cs, b = true) → ∀ S w₀ β w (cargs : List Value), WS S w₀ β m w → (r.m ≠ none → Fresh β m) → VRs β xs cargs → CallOk P S w₀ β f cargs w r

section
variable {P : Program} {G : Summ} {S : Nat → Prop} {w₀ w : World} {β : BM} {m : Mem} {T : Tags} {nt : Nat} {E : Env} {a : Act} {tg : List (Nat × Bool)}

theorem optA_ok (hE : ER T β nt E a.tmps) (ht : holds T tg) {x : Option Operand} {v : Option AV} (h : optA E tg x = some v) : OR2 β v (x.map a.eval) := by
  cases x with
  | none => simp [optA] at h; subst h; trivial
  | some x =>
    simp only [optA] at h
    split at h
    · rename_i u hu; cases h; exact rd_ok hE ht hu
    · cases h

/-- The relation that every operation's outcome has. -/
def After (S : Nat → Prop) (w₀ : World) (β : BM) (m : Mem) (w : World) (r : OR) (v : Value) (w' : World) : Prop :=
  match r.m with
  | some m' => r.nw = none ∧ AfterW S w₀ β m' r.v v w'
  | none => match r.nw with
    | some _ => AfterL β m w r v w'
    | none => AfterQ β w r.v v w'

theorem After.same {r : OR} {w' : World} (q : Qt w w') (hm : r.m = none ∧ r.nw = none) {v : Value} (hv : VR β r.v v) : After S w₀ β m w r v w' := by
  unfold After
  rw [hm.1, hm.2]
  exact ⟨q, hv⟩

theorem After.lays {r : OR} {w' : World} {v : Value} (h : AfterL β m w r v w') : After S w₀ β m w r v w' := by
  obtain ⟨cells, c, e, h1, h2, h3⟩ := h
  unfold After
  rw [h2, h1]
  exact ⟨cells, c, e, h1, h2, h3⟩

theorem After.writes {r : OR} {w' : World} {v : Value} {m' : Mem} (hm : r.m = some m') (hn : r.nw = none) (h : AfterW S w₀ β m' r.v v w') : After S w₀ β m w r v w' := by
  unfold After
  rw [hm]
  exact ⟨hn, h⟩

theorem holds_cons {t : Nat} {s : Bool} (he : T (t, s)) (ht : holds T tg) : holds T ((t, s) :: tg) := by
  intro x hx
  rcases List.mem_cons.1 hx with rfl | hx
  · exact he
  · exact ht x hx

theorem rd_tmp {t : Nat} {v : AV} (h : rd E tg (.tmp t) = some v) : ∃ e, E.get t = some e ∧ e.v = v := by
  unfold rd at h
  simp only at h
  split at h
  · rename_i e he
    split at h
    · cases h; exact ⟨e, he, rfl⟩
    · cases h
  · cases h

theorem pickA_ok (hE : ER T β nt E a.tmps) (hT : Tells T E) (ht : holds T tg) {c x y : Operand} {r : OR} (h : pickA E tg c x y = some r) :
    (r.m = none ∧ r.nw = none) ∧ ∃ b, a.eval c = .bool b ∧ VR β r.v (if b then a.eval x else a.eval y) := by
  unfold pickA at h
  split at h
  · rename_i hc
    have hc' := rd_ok hE ht hc
    split at h
    · rename_i v hv
      cases h
      refine ⟨⟨rfl, rfl⟩, true, ?_, rd_ok hE ht hv⟩
      generalize a.eval c = cv at hc'
      cases hc' with | sc _ _ hc' => cases hc'; rfl
    · cases h
  · rename_i hc
    have hc' := rd_ok hE ht hc
    split at h
    · rename_i v hv
      cases h
      refine ⟨⟨rfl, rfl⟩, false, ?_, rd_ok hE ht hv⟩
      generalize a.eval c = cv at hc'
      cases hc' with | sc _ _ hc' => cases hc'; rfl
    · cases h
  · rename_i s hc
    have hc' := rd_ok hE ht hc
    have hcv : a.eval c = .bool s := by
      generalize a.eval c = cv at hc'
      cases hc' with | sc _ _ hc' => cases hc'; rfl
    split at h
    · rename_i t
      obtain ⟨e, he, hev⟩ := rd_tmp hc
      have key : ∀ (u v : AV) (p q : Bool), rd E ((t, true) :: tg) x = some u → rd E ((t, false) :: tg) y = some v → (∀ c, VR β u c → c = .bool p) → (∀ c, VR β v c → c = .bool q) →
          VR β (.sbool (bif s then p else q)) (if s then a.eval x else a.eval y) := by
        intro u v p q hx hy hu hv
        have hTs := (hT t e s he hev s).2 rfl
        cases s
        · rw [if_neg (by decide), hv _ (rd_ok hE (holds_cons hTs ht) hy)]
          exact .sc _ _ (.sbool _)
        · rw [if_pos rfl, hu _ (rd_ok hE (holds_cons hTs ht) hx)]
          exact .sc _ _ (.sbool _)
      have b1 : ∀ (p : Bool) (c : Value), VR β (.bool p) c → c = .bool p := by
        intro p c hc; cases hc with | sc _ _ hc => cases hc; rfl
      have b2 : ∀ (p : Bool) (c : Value), VR β (.sbool p) c → c = .bool p := by
        intro p c hc; cases hc with | sc _ _ hc => cases hc; rfl
      split at h
      · rename_i p q hx hy; cases h; exact ⟨⟨rfl, rfl⟩, s, hcv, key _ _ _ _ hx hy (b1 p) (b1 q)⟩
      · rename_i p q hx hy; cases h; exact ⟨⟨rfl, rfl⟩, s, hcv, key _ _ _ _ hx hy (b1 p) (b2 q)⟩
      · rename_i p q hx hy; cases h; exact ⟨⟨rfl, rfl⟩, s, hcv, key _ _ _ _ hx hy (b2 p) (b1 q)⟩
      · rename_i p q hx hy; cases h; exact ⟨⟨rfl, rfl⟩, s, hcv, key _ _ _ _ hx hy (b2 p) (b2 q)⟩
      · cases h
    · cases h
  · cases h

theorem callA_ok (hG : SoundG P G) (hE : ER T β nt E a.tmps) (ht : holds T tg) (hW : WS S w₀ β m w) {c : Call} (hfr : ∀ r, callA P G E tg m c = some r → r.m ≠ none → Fresh β m) {r : OR} (h : callA P G E tg m c = some r) (hcs : ∀ b ∈ r.cs, b = true) (o : Oper) (ho : o.op = .call c) :
    Outc P o ((execOp a.eval o).run P w) (After S w₀ β m w r) := by
  have hop : ∀ d, (resolve a.eval c o.type).run P w = .ok d w → (execOp a.eval o).run P w = (invoke d.target d.args).run P w := by
    intro d hd
    simp only [execOp, ho, Sem.run_bind, hd, Result.andThen_ok]
  have hfr' := hfr r h
  clear hfr
  unfold callA at h
  split at h
  · rename_i f hc
    split at h
    · rename_i g caps args hf ha
      have hf' := rd_ok hE ht hf
      have ha' := rdL_ok hE ht ha
      simp only [appendK_eq] at h
      split at h
      · rename_i q hq
        cases h
        generalize hfv : a.eval f = fv at hf'
        cases hf' with | sc _ _ hf' => cases hf' with | fn _ _ cs hcaps =>
        have hres : (resolve a.eval c o.type).run P w = .ok { target := .fn (.func g) ⟨cs⟩, args := #[] ++ c.args.map a.eval } w := by
          simp only [resolve, hc, hfv, Deferred.ofValue]
          rfl
        have hcall := hG g _ m q hq hcs S w₀ β w _ hW hfr' (ha'.append hcaps.toVRs)
        have hinv : (invoke (.fn (.func g) ⟨cs⟩) (#[] ++ c.args.map a.eval)).run P w = (callFunc g ⟨List.map a.eval c.args.toList ++ cs⟩).run P w := by
          simp only [invoke]
          congr 2
          apply Array.ext'
          simp
        have hrun := hop _ hres
        rw [hinv] at hrun
        have fin : ∀ R, CallTo P g ⟨List.map a.eval c.args.toList ++ cs⟩ w R → Outc P o ((execOp a.eval o).run P w) R := by
          intro R hcall a' next Q hn
          rcases hcall with ⟨g', h1, h2⟩ | ⟨v, w', h1, h2⟩
          · rw [hrun, h1, Oper.upon_enter]
            refine h2.mono fun e w' he => ?_
            obtain ⟨v, rfl, hv⟩ := he
            exact hn v w' hv
          · rw [hrun, h1, Oper.upon_value]
            exact hn v w' h2
        unfold CallOk at hcall
        unfold After
        cases hqm : q.m with
        | none => rw [hqm] at hcall; exact fin _ hcall
        | some m' => rw [hqm] at hcall; exact (fin _ hcall).mono fun v w' hv => ⟨rfl, hv⟩
      · cases h
    · cases h
  · rename_i hc
    split at h
    · rename_i t x hty hx
      have hx' := rdL_ok hE ht hx
      have hargs : c.args.map a.eval = #[a.eval c.args.toList[0]!] ∧ VR β x (a.eval c.args.toList[0]!) := by
        generalize hl : c.args.toList = l at *
        have : c.args = ⟨l⟩ := by rw [← hl]
        rw [this]
        cases l with
        | nil => cases hx'
        | cons y l => cases l with
          | nil => cases hx' with | cons _ _ _ _ h1 h2 => exact ⟨by simp, by simpa using h1⟩
          | cons z l => cases hx' with | cons _ _ _ _ h1 h2 => cases h2
      have hty' : c.argTypes = #[t] := by
        have : c.argTypes = ⟨c.argTypes.toList⟩ := rfl
        rw [this, hty]
      obtain ⟨h1, v, h3, h4⟩ := lenA_ok (P := P) (w := w) h hcs hargs.2 o.type
      refine Outc.value (v := v) (w' := w) ?_ (After.same (Qt.refl w) h1 h4)
      rw [hop { target := .builtin .len c.argTypes o.type (c.args.map fun | .const _ => true | _ => false), args := c.args.map a.eval } (by simp only [resolve, hc]; rfl)]
      simp only [invoke, builtin, hty', hargs.1, Sem.run_bind, h3, Result.andThen_ok, Sem.run_pure]
    · cases h
  · rename_i hc
    split at h
    · rename_i ts tx s x hty hx
      have hx' := rdL_ok hE ht hx
      have hargs : c.args.map a.eval = #[a.eval c.args.toList[0]!, a.eval c.args.toList[1]!] ∧ VR β s (a.eval c.args.toList[0]!) ∧ VR β x (a.eval c.args.toList[1]!) := by
        generalize hl : c.args.toList = l at *
        have : c.args = ⟨l⟩ := by rw [← hl]
        rw [this]
        cases l with
        | nil => cases hx'
        | cons y l => cases l with
          | nil => cases hx' with | cons _ _ _ _ h1 h2 => cases h2
          | cons z l => cases l with
            | nil => cases hx' with | cons _ _ _ _ h1 h2 => cases h2 with | cons _ _ _ _ h2 h3 => exact ⟨by simp, by simpa using h1, by simpa using h2⟩
            | cons _ _ => cases hx' with | cons _ _ _ _ h1 h2 => cases h2 with | cons _ _ _ _ h2 h3 => cases h3
      have hty' : c.argTypes = #[ts, tx] := by
        have : c.argTypes = ⟨c.argTypes.toList⟩ := rfl
        rw [this, hty]
      have hrun : ∀ v w', (Builtin.append_ #[ts, tx] o.type #[a.eval c.args.toList[0]!, a.eval c.args.toList[1]!]).run P w = .ok v w' → (execOp a.eval o).run P w = .ok (.value v) w' := by
        intro v w' h3
        rw [hop { target := .builtin .append c.argTypes o.type (c.args.map fun | .const _ => true | _ => false), args := c.args.map a.eval } (by simp only [resolve, hc]; rfl)]
        simp only [invoke, builtin, hty', hargs.1, Sem.run_bind, h3, Result.andThen_ok, Sem.run_pure]
      unfold appendX at h
      split at h
      · obtain ⟨hn, v, w', m', h2, h3, h4⟩ := appendS_ok (P := P) hW hfr' h hcs hargs.2.1 hargs.2.2 o.type
        exact Outc.value (hrun _ _ h3) (After.writes h2 hn h4)
      · obtain ⟨h1, hn, h2⟩ := appendA_ok (P := P) hW hfr' h hargs.2.1 hargs.2.2 o.type
        rcases h2 with ⟨h2, h3, h4⟩ | ⟨v, w', m', h2, h3, h4⟩
        · exact Outc.value (hrun _ _ h3) (After.same (Qt.refl w) ⟨h2, hn⟩ (by rw [h4]; exact hargs.2.1))
        · exact Outc.value (hrun _ _ h3) (After.writes h2 hn h4)
    · cases h
  · rename_i hc
    split at h
    · rename_i x xs hx
      have hx' := rdL_ok hE ht hx
      split at h
      · rename_i v hv
        cases h
        generalize hl : c.args.toList.map a.eval = l at *
        cases hx' with | cons _ y _ ys hy hys =>
        obtain ⟨u, n, h1, h2⟩ := minmax_ok (P := P) (w := w) hv hy hys
        have hargs : (c.args.map a.eval).toList = y :: ys := by rw [Array.toList_map, hl]
        refine Outc.value (v := u) (w' := w.drewN n) ?_ (After.same (Qt.drewN w n) ⟨rfl, rfl⟩ h2)
        rw [hop { target := .builtin .max c.argTypes o.type (c.args.map fun | .const _ => true | _ => false), args := c.args.map a.eval } (by simp only [resolve, hc]; rfl)]
        simp only [if_true] at h1
        simp only [invoke, builtin, Builtin.max_, hargs, Sem.run_bind, h1, Result.andThen_ok, Sem.run_pure]
      · cases h
    · cases h
  · rename_i hc
    split at h
    · rename_i x xs hx
      have hx' := rdL_ok hE ht hx
      split at h
      · rename_i v hv
        cases h
        generalize hl : c.args.toList.map a.eval = l at *
        cases hx' with | cons _ y _ ys hy hys =>
        obtain ⟨u, n, h1, h2⟩ := minmax_ok (P := P) (w := w) hv hy hys
        have hargs : (c.args.map a.eval).toList = y :: ys := by rw [Array.toList_map, hl]
        refine Outc.value (v := u) (w' := w.drewN n) ?_ (After.same (Qt.drewN w n) ⟨rfl, rfl⟩ h2)
        rw [hop { target := .builtin .min c.argTypes o.type (c.args.map fun | .const _ => true | _ => false), args := c.args.map a.eval } (by simp only [resolve, hc]; rfl)]
        simp only [Bool.false_eq_true, if_false] at h1
        simp only [invoke, builtin, Builtin.min_, hargs, Sem.run_bind, h1, Result.andThen_ok, Sem.run_pure]
      · cases h
    · cases h
  · cases h

end
end Go.Sim

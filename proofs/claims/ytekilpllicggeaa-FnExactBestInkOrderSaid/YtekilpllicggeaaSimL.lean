/-
  Functions: what the abstract machine says of a body, the model's call does.
-/
import Derived.Test.YtekilpllicggeaaSimP
namespace Go.Sim

section
variable {P : Program} {G : Summ}

theorem entsA_get : ∀ (i : Nat) (xs : List AV) (t : Nat), Env.get (entsA i xs) t = if i ≤ t then (xs[t - i]?).map fun v => ⟨t, v, []⟩ else none
  | i, [], t => by simp [entsA, Env.get]
  | i, v :: r, t => by
    simp only [entsA, Env.get]
    split
    · rename_i h
      have h := Nat.eq_of_beq_eq_true h
      subst h
      simp
    · rename_i h
      have hne : i ≠ t := fun e => by rw [e, Nat.beq_refl] at h; cases h
      rw [entsA_get (i + 1) r t]
      by_cases hle : i ≤ t
      · rw [if_pos (by omega), if_pos hle, show t - i = (t - (i + 1)) + 1 by omega]
        simp
      · rw [if_neg (by omega), if_neg hle]

theorem entsA_uniq : ∀ (i : Nat) (xs : List AV), Uniq (entsA i xs) ∧ ∀ e ∈ entsA i xs, i ≤ e.s
  | i, [] => ⟨trivial, fun e he => by simp [entsA] at he⟩
  | i, v :: r => by
    obtain ⟨h1, h2⟩ := entsA_uniq (i + 1) r
    refine ⟨⟨fun x hx => ?_, h1⟩, fun e he => ?_⟩
    · have := h2 x hx
      simp only
      omega
    · rcases List.mem_cons.1 he with rfl | he
      · exact Nat.le_refl _
      · have := h2 e he
        omega

theorem resA_ok {S : Nat → Prop} {w₀ w : World} {T : Tags} {β : BM} {nt : Nat} {E : Env} {m : Mem} {tmps : Array Value} (hE : ER T β nt E tmps) (hW : WS S w₀ β m w) : ∀ {rs : List ResultVar} {l : List AV} {cs : List Bool}, resA P E m rs = some (l, cs) → (∀ b ∈ cs, b = true) →
    ∃ vs, (rs.mapM fun
      | .tmp t => pure (tmps.getD t undef)
      | .cell a t => do loadVar t (← asAddr (tmps.getD a undef)) : Sem (List Value)).run P w = .ok vs w ∧ VRs β l vs := by
  intro rs
  induction rs with
  | nil => intro l cs h _; simp [resA] at h; obtain ⟨rfl, rfl⟩ := h; exact ⟨[], rfl, .nil⟩
  | cons x rs ih =>
    intro l cs h hcs
    have slot : ∀ {t : Nat} {v : AV}, rd E [] (.tmp t) = some v → VR β v (tmps.getD t undef) := fun {t v} hv =>
      rd_ok (a := { tmps := tmps, defers := [] }) hE (holds_nil T) hv
    cases x with
    | tmp t =>
      simp only [resA] at h
      split at h
      · cases h
      · rename_i v hv
        split at h
        · cases h
        · rename_i l' cs' hl
          simp only [Option.some.injEq, Prod.mk.injEq] at h
          obtain ⟨rfl, rfl⟩ := h
          obtain ⟨vs, h1, h2⟩ := ih hl hcs
          refine ⟨tmps.getD t undef :: vs, ?_, .cons _ _ _ _ (slot hv) h2⟩
          rw [List.mapM_cons]
          simp only [Sem.run_bind, Sem.run_pure, Result.andThen_ok, h1]
    | cell a t =>
      simp only [resA] at h
      split at h
      · cases h
      · rename_i p hp
        split at h
        · cases h
        · rename_i o ho
          split at h
          · cases h
          · rename_i l' cs' hl
            simp only [Option.some.injEq, Prod.mk.injEq] at h
            obtain ⟨rfl, rfl⟩ := h
            obtain ⟨vs, h1, h2⟩ := ih hl fun b hb => hcs b (List.mem_append_right _ hb)
            have hpv := slot hp
            obtain ⟨_, _, v, h3, h4⟩ := loadA_ok (P := P) hW ho (fun b hb => hcs b (List.mem_append_left _ hb)) hpv
            refine ⟨v :: vs, ?_, .cons _ _ _ _ h4 h2⟩
            rw [List.mapM_cons]
            have h3' : (do loadVar t (← asAddr (tmps.getD a undef)) : Sem Value).run P w = .ok v w := by
              generalize tmps.getD a undef = c at h3 hpv
              obtain ⟨q, rfl⟩ := loadA_adr ho hpv
              exact h3
            rw [Sem.run_bind]
            show Result.andThen ((do loadVar t (← asAddr (tmps.getD a undef)) : Sem Value).run P w) _ = _
            rw [h3', Result.andThen_ok, Sem.run_bind, h1]
            rfl

/-- A body's end. -/
theorem end_ok {fn : Func} {S : Nat → Prop} {w₀ w' : World} {β : BM} {E' : Env} {m1 : Mem} {a' : Act} {l : List AV} {cs' : List Bool} (hr' : Rel S w₀ β fn.ntmps [] E' m1 a' w') (hl : resA P E' m1 fn.results.toList = some (l, cs')) (hcs : ∀ b ∈ cs', b = true) :
    a'.defers = [] ∧ ∃ u, (results fn a'.tmps).run P w' = .ok u w' ∧ AfterW S w₀ β m1 (oneA l) u w' := by
  obtain ⟨⟨β', b1, b2, b3, b4⟩, hd, _⟩ := hr'
  obtain ⟨vs, r1, r2⟩ := resA_ok (P := P) b2 b3 hl hcs
  have hrun : ∃ u, (results fn a'.tmps).run P w' = .ok u w' ∧ VR β' (oneA l) u := by
    have e1 : (results fn a'.tmps).run P w' = .ok (if h : vs.toArray.size = 1 then vs.toArray[0] else .tuple vs.toArray) w' := by
      unfold results
      rw [Sem.run_bind, Array.mapM_eq_mapM_toList, Sem.run_map]
      exact (congrArg (fun r : Result (List Value) => (r.andThen fun a w' => Result.ok a.toArray w').andThen fun a w' => Sem.run P (pure (if h : a.size = 1 then a[0] else Value.tuple a)) w') r1).trans rfl
    refine ⟨_, e1, ?_⟩
    cases l with
    | nil => cases r2; exact .tup _ _ .nil
    | cons u l =>
      cases r2 with | cons _ y _ ys hy hys =>
      cases l with
      | nil => cases hys; exact hy
      | cons u' l =>
        cases hys with | cons _ y' _ ys hy' hys =>
        simp only [List.size_toArray, List.length_cons, oneA]
        rw [dif_neg (by omega)]
        exact .tup _ _ (.cons _ _ _ _ hy (.cons _ _ _ _ hy' hys))
  obtain ⟨u, u1, u2⟩ := hrun
  exact ⟨hd, u, u1, β', b1, b4, b3, u2⟩

/-- A body's beginning. -/
theorem begin_ok {fn : Func} {S : Nat → Prop} {w₀ w : World} {β : BM} {m : Mem} {xs : List AV} {cargs : List Value} (hle : xs.length ≤ fn.ntmps) (hW : WS S w₀ β m w) (hF : Fresh β m) (hv : VRs β xs cargs) :
    Rel S w₀ β fn.ntmps [] (entsA 0 xs) m { tmps := (⟨cargs⟩ : Array Value) ++ Array.replicate (fn.ntmps - (⟨cargs⟩ : Array Value).size) undef, defers := [] } w := by
  have hlen := hv.length
  refine ⟨⟨β, BLe.refl β, ⟨?_, fun t e he => ?_⟩, hW, hF⟩, rfl, (entsA_uniq 0 xs).1⟩
  · simp; omega
  · rw [entsA_get] at he
    simp only [Nat.zero_le, if_true, Nat.sub_zero] at he
    cases hx : xs[t]? with
    | none => rw [hx] at he; cases he
    | some u =>
      rw [hx] at he
      cases he
      obtain ⟨c, c1, c2⟩ := hv.get hx
      refine ⟨c, ?_, fun _ => c2, fun hn => absurd (holds_nil _) hn⟩
      have : t < cargs.length := (List.getElem?_eq_some_iff.1 c1).1
      rw [Array.getElem?_append_left (by simpa using this)]
      simpa using c1

/-- WHAT THE ABSTRACT MACHINE SAYS OF A BODY, THE CALL DOES. -/
theorem body_ok (hG : SoundG P G) (hm : P.follows .mixedOrders = true) {f : Nat} {fn : Func} (hf : P.funcs[f]? = some fn) {n : Nat} {xs : List AV} {m m' : Mem} {D cs : List Bool} {v : AV} (h : bodyA P G n fn xs m D = some (v, m', cs)) (hcs : ∀ b ∈ cs, b = true)
    {S : Nat → Prop} {w₀ w : World} {β : BM} {cargs : List Value} (hW : WS S w₀ β m w) (hF : Fresh β m) (hv : VRs β xs cargs) :
    Calls P f ⟨cargs⟩ w fun e w' => ∃ c, e = .returned c ∧ AfterW S w₀ β m' v c w' := by
  unfold bodyA at h
  split at h
  · cases h
  · cases h
  · rename_i c hb hle
    have hle := Nat.le_of_ble_eq_true hle
    have hk : ∀ {x : EX} {E' : Env} {m1 : Mem} {cs1 : List Bool} {r' : AV × Mem × List Bool}, (match x with
      | .exit _ => none
      | _ => match resA P E' m1 fn.results.toList with
        | none => none
        | some (l, cs') => forceK m1 fun m' => appendK cs' cs1 fun cs => some (oneA l, m', cs)) = some r' → (x = .normal ∨ x = .ret) ∧ ∃ l cs', resA P E' m1 fn.results.toList = some (l, cs') ∧ r' = (oneA l, m1, cs' ++ cs1) := by
      intro x E' m1 cs1 r' h1
      have h1' : (x = .normal ∨ x = .ret) ∧ (match resA P E' m1 fn.results.toList with
        | none => none
        | some (l, cs') => forceK m1 fun m' => appendK cs' cs1 fun cs => some (oneA l, m', cs)) = some r' := by
        cases x with
        | exit id => cases h1
        | normal => exact ⟨.inl rfl, h1⟩
        | ret => exact ⟨.inr rfl, h1⟩
      obtain ⟨hx, h1'⟩ := h1'
      split at h1'
      · cases h1'
      · rename_i l cs' hl
        simp only [forceK_eq, appendK_eq, Option.some.injEq] at h1'
        exact ⟨hx, l, cs', hl, h1'.symm⟩
    obtain ⟨_, h3⟩ := codeA_ok hG hm n (noMerge_ok fun r' => r' = (v, m', cs)) (HOk.none c m.length) h rfl (fun x E' m1 cs1 D1 r' h' hr' b hb => by
      obtain ⟨_, l, cs', _, e⟩ := hk h'
      rw [e] at hr'
      simp only [Prod.mk.injEq] at hr'
      exact hcs b (by rw [← hr'.2.2]; exact List.mem_append_right _ hb))
    refine calls_of_wp hf hb (h3 S w₀ β [] _ w _ (fun i hi => hF i hi) (begin_ok hle hW hF hv) fun x E' m1 cs1 D1 r' a' w' h' hr' hrel => ?_).wp
    obtain ⟨hx, l, cs', hl, e⟩ := hk h'
    rw [e] at hr'
    simp only [Prod.mk.injEq] at hr'
    obtain ⟨e1, e2, e3⟩ := hr'
    obtain ⟨hd, u, u1, u2⟩ := end_ok hrel hl fun b hb => hcs b (by rw [← e3]; exact List.mem_append_left _ hb)
    rw [e1, e2] at u2
    have hpost : a'.defers = [] ∧ ∃ v', (results fn a'.tmps).run P w' = .ok v' w' ∧ ∃ c, Ending.returned v' = .returned c ∧ AfterW S w₀ β m' v c w' := ⟨hd, u, u1, u, rfl, u2⟩
    rcases hx with rfl | rfl
    · exact hpost
    · exact hpost

/-- Summaries of a function's blocks hold. -/
def HFun (P : Program) (A : Nat) (H : LTab) (f : Nat) : Prop := ∀ fn c, P.funcs[f]? = some fn → fn.body = some c → HOk P fn.ntmps A H c

theorem HFun.none (P : Program) (A f : Nat) : HFun P A noLT f := fun _ c _ _ => HOk.none c A

/-- A function's value, whichever way its tests go. -/
theorem funH_ok (hG : SoundG P G) (hm : P.follows .mixedOrders = true) {H : LTab} {J : Bool} {f : Nat} {n : Nat} {xs : List AV} {m : Mem} {D cs : List Bool} {v : AV} (hH : HFun P m.length H f) (h : funH P G H J n f xs m D = some (v, cs)) (hcs : ∀ b ∈ cs, b = true)
    {S : Nat → Prop} {w₀ w : World} {β : BM} {cargs : List Value} (hW : WS S w₀ β m w) (hF : Fresh β m) (hv : VRs β xs cargs) :
    Calls P f ⟨cargs⟩ w fun e w' => ∃ c, e = .returned c ∧ Fr S w₀ w' ∧ ∃ β', BLe β β' ∧ VR β' v c := by
  unfold funH at h
  split at h
  · cases h
  · rename_i fn hf
    split at h
    · cases h
    · cases h
    · rename_i c hb hle
      have hle := Nat.le_of_ble_eq_true hle
      have hk : ∀ {x : EX} {E' : Env} {m1 : Mem} {cs1 : List Bool} {r' : AV × List Bool}, (match x with
        | .exit _ => none
        | _ => match resA P E' m1 fn.results.toList with
          | none => none
          | some (l, cs') => appendK cs' cs1 fun cs => some (oneA l, cs)) = some r' → (x = .normal ∨ x = .ret) ∧ ∃ l cs', resA P E' m1 fn.results.toList = some (l, cs') ∧ r' = (oneA l, cs' ++ cs1) := by
        intro x E' m1 cs1 r' h1
        have h1' : (x = .normal ∨ x = .ret) ∧ (match resA P E' m1 fn.results.toList with
          | none => none
          | some (l, cs') => appendK cs' cs1 fun cs => some (oneA l, cs)) = some r' := by
          cases x with
          | exit id => cases h1
          | normal => exact ⟨.inl rfl, h1⟩
          | ret => exact ⟨.inr rfl, h1⟩
        obtain ⟨hx, h1'⟩ := h1'
        split at h1'
        · cases h1'
        · rename_i l cs' hl
          simp only [appendK_eq, Option.some.injEq] at h1'
          exact ⟨hx, l, cs', hl, h1'.symm⟩
      obtain ⟨_, h3⟩ := codeA_ok hG hm n (mergeV_ok v) (hH fn c hf hb) h ⟨hcs, fun _ _ hh => hh⟩ (fun x E' m1 cs1 D1 r' h' hr' b hb => by
        obtain ⟨_, l, cs', _, e⟩ := hk h'
        exact hr'.1 b (by rw [e]; exact List.mem_append_right _ hb))
      refine calls_of_wp hf hb (h3 S w₀ β [] _ w _ (fun i hi => hF i hi) (begin_ok hle hW hF hv) fun x E' m1 cs1 D1 r' a' w' h' hr' hrel => ?_).wp
      obtain ⟨hx, l, cs', hl, e⟩ := hk h'
      subst e
      obtain ⟨hd, u, u1, β', b1, b2, b3, b4⟩ := end_ok hrel hl fun b hb => hr'.1 b (List.mem_append_left _ hb)
      have hpost : a'.defers = [] ∧ ∃ v', (results fn a'.tmps).run P w' = .ok v' w' ∧ ∃ c, Ending.returned v' = .returned c ∧ Fr S w₀ w' ∧ ∃ β', BLe β β' ∧ VR β' v c :=
        ⟨hd, u, u1, u, rfl, b3.fr, β', b1, hr'.2 _ _ b4⟩
      rcases hx with rfl | rfl
      · exact hpost
      · exact hpost

theorem fun_ok (hG : SoundG P G) (hm : P.follows .mixedOrders = true) {f : Nat} {n : Nat} {xs : List AV} {m : Mem} {D cs : List Bool} {v : AV} (h : funA P G n f xs m D = some (v, cs)) (hcs : ∀ b ∈ cs, b = true)
    {S : Nat → Prop} {w₀ w : World} {β : BM} {cargs : List Value} (hW : WS S w₀ β m w) (hF : Fresh β m) (hv : VRs β xs cargs) :
    Calls P f ⟨cargs⟩ w fun e w' => ∃ c, e = .returned c ∧ Fr S w₀ w' ∧ ∃ β', BLe β β' ∧ VR β' v c :=
  funH_ok (H := noLT) (J := false) hG hm (HFun.none P _ f) h hcs hW hF hv

end
end Go.Sim

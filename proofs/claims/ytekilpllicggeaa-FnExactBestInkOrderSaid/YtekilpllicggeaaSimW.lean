/-
  Arrays and structs compared.
-/
import Derived.Test.YtekilpllicggeaaSimG
namespace Go.Sim

section
variable {P : Program} {β : BM} {w : World}

theorem eqS_ok {t : Nat} {x y : AV} {r : Bool} (h : eqS P t x y = some r) {c c' : Value} (hx : VR β x c) (hy : VR β y c') (k : Nat) : (Op.equalIn (k + 1) t c c').run P w = .ok r w := by
  have hfl : ∀ (q : FloatKind) (p p' : Nat), (∃ u, P.underlying t = some (.float u)) → (Op.equalIn (k + 1) t (.float q p) (.float q p')).run P w = .ok (fcmp .eql q (canon q p) (canon q p')) w := by
    intro q p p' ⟨u, hu⟩
    have e1 := floatCmp_sound (P := P) w .eql q p p' rfl
    unfold Op.floatCmp at e1
    simp only [Op.equalIn, Sem.run_bind, run_underlying hu, Result.andThen_ok, if_true, Sem.run_pure] at e1 ⊢
    have e2 : Op.floatEq q p p' = fcmp .eql q (canon q p) (canon q p') := by
      have e3 := Value.bool.inj (Result.ok.inj e1).1
      rw [← e3]
      rfl
    rw [e2]
  have hin : ∀ (q : IntKind) (p p' : Int), (∃ u, P.underlying t = some (.int u)) → (Op.equalIn (k + 1) t (.int q p) (.int q p')).run P w = .ok (p == p') w := by
    intro q p p' ⟨u, hu⟩
    exact run_equalIn_int w k t q u p p' hu
  have hbo : ∀ (p p' : Bool), P.underlying t = some .bool → (Op.equalIn (k + 1) t (.bool p) (.bool p')).run P w = .ok (p == p') w := fun p p' hu => run_equalIn_bool w k t p p' hu
  unfold eqS at h
  split at h
  · split at h
    · rename_i hu
      split at h
      · rename_i hd
        have hd := of_decide_eq_true hd
        cases h
        subst hd
        cases hx with | sc _ _ hx => cases hx with | flt _ _ p hp => cases hy with | sc _ _ hy => cases hy with | flt _ _ q hq =>
        subst hp hq
        exact hfl _ p q ⟨_, hu⟩
      · cases h
    · cases h
  all_goals first
    | (split at h
       · rename_i hu
         split at h
         · rename_i hd
           have hd := of_decide_eq_true hd
           cases h
           subst hd
           cases hx with | sc _ _ hx => cases hx; cases hy with | sc _ _ hy => cases hy; exact hin _ _ _ ⟨_, hu⟩
         · cases h
       · cases h
       done)
    | (split at h
       · rename_i hu
         cases h
         cases hx with | sc _ _ hx => cases hx; cases hy with | sc _ _ hy => cases hy; exact hbo _ _ hu
       · cases h
       done)
    | (cases h; done)

/-- What the abstract equality says, the model's does. -/
def EqOk (P : Program) (β : BM) (d : Nat) : Prop :=
  ∀ (t : Nat) (x y : AV) (r : Bool), eqV P d t x y = some r → ∀ (c c' : Value), VR β x c → VR β y c' → ∀ (k : Nat) (w : World), (Op.equalIn (d + k) t c c').run P w = .ok r w

theorem eqFl_ok {d k : Nat} (ih : EqOk P β d) {l l' : List AV} {cs cs' : Array Value} (hl : SRs β l cs.toList) (hl' : SRs β l' cs'.toList) : ∀ {fs : List Field} {r : Bool}, eqFl P (eqV P d) l l' fs = some r → ∀ w, (Op.eqFields (d + k) cs cs' fs).run P w = .ok r w := by
  intro fs
  induction fs with
  | nil => intro r h w; cases h; rfl
  | cons f fs ihf =>
    intro r h w
    simp only [eqFl] at h
    split at h
    · rename_i hn hti
      have hn := of_decide_eq_false hn
      split at h
      · rename_i a b ha hb
        split at h
        · rename_i x y hx hy
          cases h
          obtain ⟨_, _, v, p1, p2⟩ := partA_ok (w := w) (tiOf_ok hti) hl ha
          obtain ⟨_, _, v', q1, q2⟩ := partA_ok (w := w) (tiOf_ok hti) hl' hb
          have e := ih _ _ _ _ hx v v' p2 q2 k w
          simp only [Op.eqFields, hn, ne_eq, not_false_eq_true, if_true, Sem.run_bind, p1, q1, e, Result.andThen_ok]
          cases x
          · simp
          · simpa using ihf hy w
        · cases h
      · cases h
    · cases h

theorem eqIt_ok {d k : Nat} (ih : EqOk P β d) {e : Nat} {ei : TI} (hei : TIOk P e ei) (hc : P.cellsOf e = ei.size) {l l' : List AV} {cs cs' : Array Value} (hl : SRs β l cs.toList) (hl' : SRs β l' cs'.toList) : ∀ {is : List Nat} {r : Bool}, eqIt ei (eqV P d e) l l' is = some r → ∀ w, (Op.eqItems (d + k) e (P.cellsOf e) cs cs' is).run P w = .ok r w := by
  intro is
  induction is with
  | nil => intro r h w; cases h; rfl
  | cons i is ihf =>
    intro r h w
    simp only [eqIt] at h
    split at h
    · rename_i a b ha hb
      split at h
      · rename_i x y hx hy
        cases h
        obtain ⟨_, _, v, p1, p2⟩ := partA_ok (w := w) hei hl ha
        obtain ⟨_, _, v', q1, q2⟩ := partA_ok (w := w) hei hl' hb
        have e := ih _ _ _ _ hx v v' p2 q2 k w
        rw [← hc] at p1 q1
        simp only [Op.eqItems, Sem.run_bind, p1, q1, e, Result.andThen_ok]
        cases x
        · simp
        · simpa using ihf hy w
      · cases h
    · cases h

theorem eqV_ok (d : Nat) : EqOk P β d := by
  induction d with
  | zero => intro t x y r h; cases h
  | succ d ih =>
    intro t x y r h c c' hx hy k w
    simp only [eqV] at h
    split at h
    · rename_i l l'
      cases hx with
      | sc _ _ hx => cases hx
      | agg _ cs hl =>
      cases hy with
      | sc _ _ hy => cases hy
      | agg _ cs' hl' =>
      split at h
      · rename_i fs hu
        split at h
        · cases h
        · rename_i hst
          have hfs : P.fieldsOf t = fs := by simp [Program.fieldsOf, hu]
          rw [show d + 1 + k = (d + k) + 1 by omega, run_equalIn_struct w (d + k) t ⟨cs⟩ ⟨cs'⟩ (by rw [hfs]; exact hu) hst, hfs]
          exact eqFl_ok ih (cs := ⟨cs⟩) (cs' := ⟨cs'⟩) hl hl' h w
      · rename_i n e hu
        split at h
        · rename_i ei hei
          have hti := tiOf_ok hei
          obtain ⟨info, _, _, hi, _, _, _, _, hsz, _⟩ := hti
          have hc : P.cellsOf e = ei.size := by unfold Program.cellsOf; rw [hi]; exact hsz.symm
          rw [show d + 1 + k = (d + k) + 1 by omega, run_equalIn_array w (d + k) ⟨cs⟩ ⟨cs'⟩ hu hi]
          exact eqIt_ok ih (tiOf_ok hei) hc (cs := ⟨cs⟩) (cs' := ⟨cs'⟩) hl hl' h w
        · cases h
      · cases h
    · rw [show d + 1 + k = (d + k) + 1 by omega]
      exact eqS_ok h hx hy (d + k)

theorem binV_ok {t : TypeId} {op : BinOp} {x y : AV} {r : OR} (h : binV P t op x y = some r) (hcs : ∀ b ∈ r.cs, b = true) (ox oy : Operand) {a b : Value} (hx : VR β x a) (hy : VR β y b) :
    (r.m = none ∧ r.nw = none) ∧ ∃ v n, (do eqGuard op t ox oy a b; binOp op t a b : Sem Value).run P w = .ok v (w.drewN n) ∧ VR β r.v v := by
  unfold binV at h
  split at h
  · rename_i l l'
    unfold eqAggA at h
    split at h
    · cases h
    · rename_i hg
      split at h
      · cases h
      · rename_i e he
        have hk := eqV_ok (P := P) (β := β) 6 t _ _ e he a b hx hy 9994 w
        cases hx with
        | sc _ _ hx => cases hx
        | agg _ cs hl =>
        cases hy with
        | sc _ _ hy => cases hy
        | agg _ cs' hl' =>
        have h1 := run_eqGuard_agg w op t ox oy ⟨cs⟩ ⟨cs'⟩ hg
        split at h
        · cases h
          refine ⟨⟨rfl, rfl⟩, .bool e, 0, ?_, .sc _ _ (.sbool _)⟩
          rw [Sem.run_bind, h1, Result.andThen_ok, run_eql_struct, hk, Result.andThen_ok, drewN_zero]
        · cases h
          refine ⟨⟨rfl, rfl⟩, .bool (!e), 0, ?_, .sc _ _ (.sbool _)⟩
          rw [Sem.run_bind, h1, Result.andThen_ok, run_neq_struct, hk, Result.andThen_ok, drewN_zero]
        · cases h
  · exact binA_ok h hcs ox oy hx hy

end
end Go.Sim

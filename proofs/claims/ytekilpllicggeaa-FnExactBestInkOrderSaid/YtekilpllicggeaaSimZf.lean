/-
  Loops whose first round begins in another frame.
-/
import Derived.Test.YtekilpllicggeaaSimZe
namespace Go.Sim

/-- A loop's body from one frame into another one. -/
def stepT2 (P : Program) (G : Summ) (nt : Nat) (H : LTab) (J : Bool) (n : Nat) (L L' : LP) (bd : Code) (s : SV) : Option Tr :=
  codeA P G nt n H J mgT bd (L.E s) (L.M s) [] [] fun x E m cs _ => match x with
    | .normal => matchE L.A L'.ts L'.F E m fun s' => some (Tr.next s' cs)
    | x => exitT L.A E m cs x 0 L'.xs

/-- The first round, then the others. -/
def fin2 (T T' : SV → Tr) (μ : SV → Nat) (s : SV) : Nat × SV :=
  match (T s).pick with
  | .next s' => runT T' (μ s' + 1) s'
  | .out k s' => (k, s')

def hookL2 (id : Nat) (L L' : LP) (pre : SV → List Bool) (fin : SV → Nat × SV) (H : LTab) : LTab := fun id' E m => match Nat.beq id' id with
  | true => match matchE L.A L.ts L.F E m fun s => some (pre s, exitLR id (fin s).1 (fin s).2 0 L'.xs) with
    | some r => some r
    | none => H id' E m
  | false => H id' E m

section
variable {P : Program} {G : Summ} {nt : Nat}

theorem rounds2_ok (hG : SoundG P G) (hm : P.follows .mixedOrders = true) {H : LTab} {J : Bool} {n : Nat} {L L' : LP} {bd : Code} {T T' : SV → Tr} {pre' : SV → List Bool} {μ : SV → Nat} (hAA : L'.A = L.A)
    (hH : HOk P nt L.A H bd) (hts : nodupN L'.ts = true) (hxs : ∀ x ∈ L'.xs, nodupN x.2.1 = true) (hT' : ∀ s, stepT P G nt H J n L' bd s = some (T' s))
    (hgo' : ∀ s, (∀ b ∈ pre' s, b = true) → (T' s).ok ∧ ∀ s', (T' s).pick = .next s' → (∀ b ∈ pre' s', b = true) ∧ μ s' < μ s) {s : SV} (hs : stepT2 P G nt H J n L L' bd s = some (T s))
    (g1 : (T s).ok) (g2 : ∀ s', (T s).pick = .next s' → ∀ b ∈ pre' s', b = true)
    {S : Nat → Prop} {w₀ : World} {β₀ : BM} {ds : List Deferred} (hA : ∀ i, L.A ≤ i → β₀ i = none) {Q : Exit → Act → World → Prop} {N : Nat} (hN : ∀ s', (T s).pick = .next s' → N = μ s' + 1) (a : Act) (w : World) (hrel : Rel S w₀ β₀ nt ds (L.E s) (L.M s) a w)
    (hq : ∀ k s' x ts F, fin2 T T' μ s = (k, s') → L'.xs[k]? = some (x, ts, F) → ∀ a' w', Rel S w₀ β₀ nt ds (mkE ts (mkVs s' 0 0 F.vals)) (mkM F s') a' w' → Q x.out a' w') : Code.rounds P bd Q (N + 1) a w := by
  unfold stepT2 at hs
  refine ((codeA_ok hG hm n (mgT_ok (T s).pick) hH hs ⟨g1, rfl⟩ ?_).2 S w₀ β₀ ds a w (Exit.then (Code.rounds P bd Q N) Q) hA hrel ?_).wp
  · intro x E m cs D r h hr
    have out : ∀ {r : Tr}, exitT L.A E m cs x 0 L'.xs = some r → r.ok → ∀ b ∈ cs, b = true := by
      intro r h hr
      obtain ⟨j, ts, F, _, h2⟩ := exitT_ok h
      obtain ⟨s', h3, _⟩ := Rel.frame (nt := nt) (β₀ := fun _ => none) h2 (hxs _ (List.mem_of_getElem? (by assumption))) (fun _ _ => rfl)
      cases h3
      exact hr
    cases x with
    | normal =>
      obtain ⟨s', h3, _⟩ := Rel.frame (nt := nt) (β₀ := fun _ => none) h hts (fun _ _ => rfl)
      cases h3
      exact hr.1
    | exit i => exact out h hr.1
    | ret => exact out h hr.1
  · intro x E m cs D r a' w' h hr hrel'
    have out : ∀ {r : Tr}, exitT L.A E m cs x 0 L'.xs = some r → r.ok ∧ r.pick = (T s).pick → Q x.out a' w' := by
      intro r h hr
      obtain ⟨j, ts, F, h1, h2⟩ := exitT_ok h
      obtain ⟨s', h3, h4⟩ := Rel.frame (nt := nt) (β₀ := β₀) h2 (hxs _ (List.mem_of_getElem? h1)) hA
      cases h3
      rw [Nat.zero_add] at hr
      refine hq j s' x ts F ?_ h1 a' w' (h4 hrel')
      simp only [fin2, ← hr.2, Tr.pick]
    cases x with
    | normal =>
      obtain ⟨s', h3, h4⟩ := Rel.frame (nt := nt) (β₀ := β₀) h hts hA
      cases h3
      have hp : (T s).pick = .next s' := by rw [← hr.2]; rfl
      show Code.rounds P bd Q N a' w'
      refine rounds_ok hG hm (L := L') (by rw [hAA]; exact hH) hts hxs hT' hgo' (by rw [hAA]; exact hA) N s' (by rw [hN s' hp]; omega) (g2 s' hp) a' w' (h4 hrel') fun k s'' x ts F hrun hx a'' w'' hrel'' => hq k s'' x ts F ?_ hx a'' w'' hrel''
      rw [hN s' hp] at hrun
      simp only [fin2, hp]
      exact hrun
    | exit i => exact out h hr
    | ret => exact out h hr

theorem HFun.loop2 (hG : SoundG P G) (hm : P.follows .mixedOrders = true) {H : LTab} {J : Bool} {n f id : Nat} {L L' : LP} {T T' : SV → Tr} {pre pre' : SV → List Bool} {μ : SV → Nat} (hAA : L'.A = L.A) (hH : HFun P L.A H f)
    (hb : oneBlk P f id = some [(id, .loop (loopOf P f id))]) (hts : nodupN L.ts = true) (hts' : nodupN L'.ts = true) (hxs : (L'.xs.all fun x => nodupN x.2.1) = true)
    (hT' : ∀ s, stepT P G (ntOf P f) H J n L' (loopOf P f id) s = some (T' s)) (hgo' : ∀ s, (∀ b ∈ pre' s, b = true) → (T' s).ok ∧ ∀ s', (T' s).pick = .next s' → (∀ b ∈ pre' s', b = true) ∧ μ s' < μ s)
    (hT : ∀ s, stepT2 P G (ntOf P f) H J n L L' (loopOf P f id) s = some (T s)) (hgo : ∀ s, (∀ b ∈ pre s, b = true) → (T s).ok ∧ ∀ s', (T s).pick = .next s' → ∀ b ∈ pre' s', b = true) :
    HFun P L.A (hookL2 id L L' pre (fin2 T T' μ) H) f := by
  intro fn c hf hc id' b hmem
  have hnt : ntOf P f = fn.ntmps := by unfold ntOf; rw [hf]
  have hone : (blks c).filter (fun p => Nat.beq p.1 id) = [(id, .loop (loopOf P f id))] := by
    unfold oneBlk at hb
    rw [hf] at hb
    simp only [hc, Option.some.injEq] at hb
    exact hb
  have hold := hH fn c hf hc id' b hmem
  intro E m cs t ht hcs S w₀ β₀ ds a w Q hA hrel hq
  by_cases he : id' = id
  · subst he
    have : (id', b) ∈ (blks c).filter (fun p => Nat.beq p.1 id') := List.mem_filter.2 ⟨hmem, Nat.beq_refl _⟩
    rw [hone] at this
    simp only [List.mem_singleton, Prod.mk.injEq, true_and] at this
    subst this
    unfold hookL2 at ht
    rw [Nat.beq_refl] at ht
    simp only at ht
    split at ht
    rotate_left
    · exact hold E m cs t ht hcs S w₀ β₀ ds a w Q hA hrel hq
    rename_i r hr
    cases ht
    obtain ⟨s, h1, h2⟩ := Rel.frame (nt := fn.ntmps) (β₀ := β₀) hr hts hA
    cases h1
    rw [hnt] at hT hT'
    obtain ⟨k1, k2⟩ := hgo s hcs
    let N : Nat := match (T s).pick with
      | .next s' => μ s' + 1
      | .out _ _ => 0
    refine wp_block (wp_loop_rounds (N + 1) (rounds2_ok hG hm hAA (fun i b' hb' => hH fn c hf hc i b' (blks_sub hmem (i, b') (by simpa only [blks] using hb'))) hts' (fun x hx => List.all_eq_true.1 hxs x hx) hT' hgo' (hT s) k1 k2 hA (fun s' hs' => ?_) a w (h2 hrel) ?_))
    · show (match (T s).pick with | .next s' => μ s' + 1 | .out _ _ => 0) = _
      rw [hs']
    · intro k s' x ts F hrun hx a' w' hrel'
      refine blkX_out id' x Q a' w' ?_
      have hp := exitLR_pick (id := id') (kk := k) (s := s') (k := 0) hx (by omega)
      rw [hrun, hp] at hq
      exact hq a' w' hrel'
  · have hne : Nat.beq id' id = false := by
      cases hq : Nat.beq id' id with
      | false => rfl
      | true => exact absurd (Nat.eq_of_beq_eq_true hq) he
    unfold hookL2 at ht
    rw [hne] at ht
    exact hold E m cs t ht hcs S w₀ β₀ ds a w Q hA hrel hq


/-- A summary, and where it does not fit, what the table said before. -/
def addO (f : Nat) (g : List AV → Mem → Option CR) (G : Summ) : Summ := fun f' xs m =>
  match Nat.beq f' f with
  | true => match g xs m with
    | some r => some r
    | none => G f' xs m
  | false => G f' xs m

theorem SoundG.orO {f : Nat} {g : List AV → Mem → Option CR} (h1 : SoundG P (addG f g G)) (h2 : SoundG P G) : SoundG P (addO f g G) := by
  intro f' xs m r hr
  unfold addO at hr
  cases hb : Nat.beq f' f with
  | true =>
    rw [hb] at hr
    simp only at hr
    cases hg : g xs m with
    | some r' =>
      rw [hg] at hr
      cases hr
      exact h1 f' xs m r (by unfold addG; rw [hb]; exact hg)
    | none => rw [hg] at hr; exact h2 f' xs m r hr
  | false => rw [hb] at hr; exact h2 f' xs m r hr

end
end Go.Sim

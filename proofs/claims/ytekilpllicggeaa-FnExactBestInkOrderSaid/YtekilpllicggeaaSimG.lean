/-
  Single operations, the third part: addresses, parts, literals, builtins.
-/
import Derived.Test.YtekilpllicggeaaSimE
namespace Go.Sim

section
variable {P : Program} {S : Nat → Prop} {w₀ w : World} {β : BM} {m : Mem}

/-! ### Slice expressions -/

def OR2 (β : BM) : Option AV → Option Value → Prop
  | none, none => True
  | some x, some c => VR β x c
  | _, _ => False

theorem bound_ok {x : Option AV} {c : Option Value} (hx : OR2 β x c) {d y i : Nat} (h : boundA x d y = some i) (code : BoundsCode) (y' : Nat) (hy : y ≤ y') :
    (c = none ∧ i = d) ∨ ∃ v, c = some v ∧ i ≤ y ∧ (Instr.sliceBound v y' code).run P w = .ok i w := by
  cases x with
  | none =>
    cases h
    cases c with
    | none => exact .inl ⟨rfl, rfl⟩
    | some v => exact hx.elim
  | some a =>
    cases c with
    | none => exact hx.elim
    | some v =>
      cases a <;> simp only [boundA] at h <;> try (cases h; done)
      rename_i k n
      cases n with
      | negSucc q => cases h
      | ofNat i' =>
        simp only at h
        split at h
        · rename_i hb
          cases h
          have hle := Nat.le_of_ble_eq_true hb
          have hx' : VR β (.int k (Int.ofNat i)) v := hx
          cases hx' with | sc _ _ hx =>
          cases hx
          refine .inr ⟨_, rfl, hle, ?_⟩
          have : (0 : Int) ≤ Int.ofNat i ∧ Int.ofNat i ≤ (y' : Int) := ⟨Int.natCast_nonneg i, by simp only [Int.ofNat_eq_natCast]; omega⟩
          simp only [Instr.sliceBound, asIntOf, Sem.run_bind, Sem.run_pure, Result.andThen_ok, Sem.run_ite]
          rw [if_pos this]
          rfl
        · cases h

theorem bounds_ok {lo hi : Option AV} {cl ch : Option Value} (hlo : OR2 β lo cl) (hhi : OR2 β hi ch) (isS : Bool) {len cap l h : Nat} (hc : len ≤ cap) (h1 : boundA hi len len = some h) (h2 : boundA lo 0 h = some l) :
    (Instr.sliceBounds isS len cap cl ch none).run P w = .ok (l, h, cap) w ∧ h ≤ len ∧ l ≤ h := by
  have hh : h ≤ len := by
    rcases bound_ok (P := P) (w := w) hhi h1 .index len (Nat.le_refl _) with ⟨_, e⟩ | ⟨_, _, e, _⟩ <;> omega
  have hl : l ≤ h := by
    rcases bound_ok (P := P) (w := w) hlo h2 .index h (Nat.le_refl _) with ⟨_, e⟩ | ⟨_, _, e, _⟩ <;> omega
  refine ⟨?_, hh, hl⟩
  unfold Instr.sliceBounds
  cases isS
  · simp only [Sem.run_bind, Sem.run_pure, Result.andThen_ok, Option.isSome_none, Bool.false_eq_true, if_false]
    rcases bound_ok (P := P) (w := w) hhi h1 .sliceAlen cap hc with ⟨e1, e2⟩ | ⟨v, e1, e2, e3⟩
    · subst e1
      rcases bound_ok (P := P) (w := w) hlo h2 .sliceB h (Nat.le_refl _) with ⟨f1, f2⟩ | ⟨u, f1, f2, f3⟩
      · subst f1; simp [e2, f2]
      · subst f1; subst e2; simp [f3]
    · subst e1
      rcases bound_ok (P := P) (w := w) hlo h2 .sliceB h (Nat.le_refl _) with ⟨f1, f2⟩ | ⟨u, f1, f2, f3⟩
      · subst f1; simp [f2, e3]
      · subst f1; simp [f3, e3]
  · simp only [Sem.run_bind, Sem.run_pure, Result.andThen_ok, Option.isSome_none, Bool.false_eq_true, if_false, if_true]
    rcases bound_ok (P := P) (w := w) hhi h1 .sliceAcap cap hc with ⟨e1, e2⟩ | ⟨v, e1, e2, e3⟩
    · subst e1
      rcases bound_ok (P := P) (w := w) hlo h2 .sliceB h (Nat.le_refl _) with ⟨f1, f2⟩ | ⟨u, f1, f2, f3⟩
      · subst f1; simp [e2, f2]
      · subst f1; subst e2; simp [f3]
    · subst e1
      rcases bound_ok (P := P) (w := w) hlo h2 .sliceB h (Nat.le_refl _) with ⟨f1, f2⟩ | ⟨u, f1, f2, f3⟩
      · subst f1; simp [f2, e3]
      · subst f1; simp [f3, e3]

theorem bounds_sym {k : IntKind} {z : Int} {len cap : Nat} (h0 : 0 ≤ z) (h1 : z ≤ (len : Int)) (hc : len ≤ cap) :
    (Instr.sliceBounds true len cap none (some (.int k z)) none).run P w = .ok (0, z.toNat, cap) w := by
  have this : (0 : Int) ≤ z ∧ z ≤ (cap : Int) := ⟨h0, by omega⟩
  unfold Instr.sliceBounds
  simp only [Instr.sliceBound, asIntOf, Sem.run_bind, Sem.run_pure, Result.andThen_ok, Sem.run_ite, Option.isSome_none, Bool.false_eq_true, if_false, if_true]
  rw [if_pos this]
  simp

theorem mul_sub_le {l cap es n off : Nat} (hl : l ≤ cap) (h : off + cap * es ≤ n) : off + l * es + (cap - l) * es ≤ n := by
  have : l * es + (cap - l) * es = cap * es := by rw [← Nat.add_mul]; congr 1; omega
  omega

theorem add_at {be : BE} {off k : Nat} : (⟨be.b, be.base + off, none⟩ : Addr).add k = ⟨be.b, be.base + (off + k), none⟩ := by rw [addr_add, Nat.add_assoc]

theorem sliceAV_ok (hW : WS S w₀ β m w) {t : Nat} {x : AV} {lo hi : Option AV} {r : OR} (h : sliceAV P m t x lo hi = some r) (hcs : ∀ b ∈ r.cs, b = true) {c : Value} {cl ch : Option Value} (hx : VR β x c) (hlo : OR2 β lo cl) (hhi : OR2 β hi ch) :
    (r.m = none ∧ r.nw = none) ∧ ∃ v, (Instr.sliceAt t c cl ch none).run P w = .ok v w ∧ VR β r.v v := by
  unfold sliceAV at h
  split at h
  · cases h
  · rename_i ti hti
    have ht := tiOf_ok hti
    split at h
    · rename_i n e i off hk
      have hu := ht.agg_arr hk
      cases hx with | sc _ _ hx => cases hx with | ptr _ _ be hbe =>
      split at h
      · rename_i ei bk hei hbk
        have he := tiOf_ok hei
        split at h
        · cases h
        · rename_i hh h1
          split at h
          · cases h
          · rename_i l h2
            obtain ⟨hb, hb1, hb2⟩ := bounds_ok (P := P) (w := w) hlo hhi false (Nat.le_refl n) h1 h2
            have fin : off + n * ei.size ≤ bk.len → r.v = .slc i (off + slOff l n * ei.size) (hh - l) ei.size → ∃ v, (Instr.sliceAt t (.pointer (some ⟨be.b, be.base + off, none⟩)) cl ch none).run P w = .ok v w ∧ VR β r.v v := by
              intro hle hv
              obtain ⟨cc, ee, fr, b1, b2, b3, b4, b5⟩ := hW.sim.br hbk hbe
              unfold slOff at hv
              by_cases hln : l < n
              · rw [decide_eq_true hln] at hv
                have hv : r.v = .slc i (off + l * ei.size) (hh - l) ei.size := hv
                refine ⟨.slice (some ⟨be.b, be.base + (off + l * ei.size), none⟩) (hh - l) (n - l), ?_, ?_⟩
                · simp only [Instr.sliceAt, Sem.run_bind, run_underlying hu, Result.andThen_ok, Instr.sureAddr, Sem.run_pure, hb, he.sizeOf]
                  rw [if_neg (by omega), add_at]
                · rw [hv]
                  refine .sc _ _ (.slc i _ _ _ be _ hbe (by omega) fun q hq => ?_)
                  have := (b3 q hq).1
                  exact mul_sub_le (by omega) (by omega)
              · rw [decide_eq_false hln] at hv
                have hv : r.v = .slc i (off + 0 * ei.size) (hh - l) ei.size := hv
                rw [Nat.zero_mul] at hv
                have hl : l = n := by omega
                refine ⟨.slice (some ⟨be.b, be.base + off, none⟩) (hh - l) (n - l), ?_, ?_⟩
                · simp only [Instr.sliceAt, Sem.run_bind, run_underlying hu, Result.andThen_ok, Instr.sureAddr, Sem.run_pure, hb, he.sizeOf]
                  rw [if_pos (by omega)]
                · rw [hv]
                  refine .sc _ _ (.slc i _ _ _ be _ hbe (by omega) fun q hq => ?_)
                  have := (b3 q hq).1
                  have h0 : n - l = 0 := by omega
                  rw [h0, Nat.zero_mul]
                  omega
            split at h
            · split at h
              · rename_i hle
                cases h
                exact ⟨⟨rfl, rfl⟩, fin (of_decide_eq_true hle) rfl⟩
              · cases h
            · cases h
              exact ⟨⟨rfl, rfl⟩, fin (of_decide_eq_true (hcs _ (List.mem_singleton.2 rfl))) rfl⟩
      · cases h
    · rename_i e i off len es hk
      have hu := ht.slice hk
      cases hx with | sc _ _ hx => cases hx with | slc _ _ _ _ be cap hbe hlc hrow =>
      split at h
      · cases h
      · rename_i ei hei
        have he := tiOf_ok hei
        split at h
        · cases h
        · rename_i hes
          have hes := Nat.eq_of_beq_eq_true hes
          split at h
          · cases h
          · rename_i hh h1
            split at h
            · cases h
            · rename_i l h2
              split at h
              · rename_i hd
                cases h
                obtain ⟨hb, hb1, hb2⟩ := bounds_ok (P := P) (w := w) hlo hhi true hlc h1 h2
                refine ⟨⟨rfl, rfl⟩, .slice (some ⟨be.b, be.base + (off + l * es), none⟩) (hh - l) (cap - l), ?_, .sc _ _ (.slc i _ _ _ be _ hbe (by omega) fun q hq => mul_sub_le (by omega) (hrow q hq))⟩
                simp only [Instr.sliceAt, Instr.slice, Sem.run_bind, run_underlying hu, Result.andThen_ok, hb, he.sizeOf, Sem.run_pure]
                simp only [Bool.or_eq_true, decide_eq_true_eq] at hd
                by_cases hl0 : l = 0
                · subst hl0
                  simp [Addr.add]
                · rw [if_neg (by omega), Option.map_some, add_at, hes]
              · cases h
    · rename_i e i off len es hk
      have hu := ht.slice hk
      cases hx with | sc _ _ hx => cases hx with | sslc _ _ _ _ be cap hbe hlc hrow =>
      split at h
      · cases h
      · rename_i ei hei
        split at h
        · rename_i k z hes
          cases h
          have h0 : 0 ≤ z := of_decide_eq_true (hcs _ (List.mem_cons_self ..))
          have h1 : z ≤ ofN len := of_decide_eq_true (hcs _ (List.mem_cons_of_mem _ (List.mem_cons_self ..)))
          cases cl with
          | some _ => exact hlo.elim
          | none =>
          cases ch with
          | none => exact hhi.elim
          | some v =>
          have hv : VR β (.sint k z) v := hhi
          cases hv with | sc _ _ hv =>
          cases hv
          have hb := bounds_sym (P := P) (w := w) (k := k) h0 h1 hlc
          have hzl : z.toNat ≤ len := by unfold ofN at h1; omega
          refine ⟨⟨rfl, rfl⟩, .slice (some ⟨be.b, be.base + off, none⟩) z.toNat cap, ?_, .sc _ _ (.sslc i _ _ _ be _ hbe (Nat.le_trans hzl hlc) hrow)⟩
          have he := tiOf_ok hei
          simp only [Instr.sliceAt, Instr.slice, Sem.run_bind, run_underlying hu, Result.andThen_ok, hb, he.sizeOf, Sem.run_pure]
          simp [Addr.add]
        · cases h
    · cases h

/-! ### Fields, elements -/

theorem field_at {fields : Array Field} {fs : List (Nat × Nat)} (hm : fields.toList.map (fun f => (f.offset, f.type)) = fs) {f o u : Nat} (h : fs[f]? = some (o, u)) : ∃ fd, fields[f]? = some fd ∧ fd.offset = o ∧ fd.type = u := by
  subst hm
  rw [List.getElem?_map] at h
  cases hf : fields.toList[f]? with
  | none => rw [hf] at h; cases h
  | some fd =>
    rw [hf] at h
    simp at h
    exact ⟨fd, by simpa using hf, h.1, h.2⟩

theorem fieldAddrA_ok {t f : Nat} {x : AV} {r : OR} (h : fieldAddrA P t x f = some r) {c : Value} (hx : VR β x c) :
    (r.m = none ∧ r.nw = none) ∧ r.cs = [] ∧ ∃ v, (Instr.fieldAt t c f).run P w = .ok v w ∧ VR β r.v v := by
  unfold fieldAddrA at h
  split at h
  · rename_i i off
    cases hx with | sc _ _ hx => cases hx with | ptr _ _ be hbe =>
    split at h
    · cases h
    · rename_i ti hti
      have ht := tiOf_ok hti
      split at h
      · rename_i fs hk
        obtain ⟨fields, hu, hm⟩ := ht.agg_struct hk
        split at h
        · cases h
        · rename_i o u hf
          obtain ⟨fd, h1, h2, h3⟩ := field_at hm hf
          split at h
          · cases h
          · rename_i ui hui
            have huo := tiOf_ok hui
            split at h
            · cases h
            · rename_i hz
              have hz : ui.size ≠ 0 := fun e => by rw [e] at hz; cases hz
              cases h
              refine ⟨⟨rfl, rfl⟩, rfl, .pointer (some ⟨be.b, be.base + (off + o), none⟩), ?_, .sc _ _ (.ptr _ _ _ hbe)⟩
              subst h2 h3
              simp only [Instr.fieldAt, Sem.run_bind, run_underlying hu, Result.andThen_ok, h1, Instr.sureAddr, Sem.run_pure, fieldPlace, huo.sizeOf, Sem.run_ite]
              rw [if_neg hz, Result.andThen_ok, add_at]
      · cases h
  · rename_i i off n es z
    cases hx with | sc _ _ hx => cases hx with | sptr _ _ _ _ _ be hbe hz0 hzn =>
    split at h
    · cases h
    · rename_i ti hti
      have ht := tiOf_ok hti
      split at h
      · rename_i fs hk
        obtain ⟨fields, hu, hm⟩ := ht.agg_struct hk
        split at h
        · cases h
        · rename_i o u hf
          obtain ⟨fd, h1, h2, h3⟩ := field_at hm hf
          split at h
          · cases h
          · rename_i ui hui
            have huo := tiOf_ok hui
            split at h
            · cases h
            · rename_i hz
              have hz : ui.size ≠ 0 := fun e => by rw [e] at hz; cases hz
              cases h
              refine ⟨⟨rfl, rfl⟩, rfl, .pointer (some ⟨be.b, be.base + ((off + o) + z.toNat * es), none⟩), ?_, .sc _ _ (.sptr _ _ _ _ _ _ hbe hz0 hzn)⟩
              subst h2 h3
              simp only [Instr.fieldAt, Sem.run_bind, run_underlying hu, Result.andThen_ok, h1, Instr.sureAddr, Sem.run_pure, fieldPlace, huo.sizeOf, Sem.run_ite]
              rw [if_neg hz, Result.andThen_ok, add_at, Nat.add_right_comm]
      · cases h
  · cases h

theorem sliceL_le {α : Type} (l : List α) (o n : Nat) (x : List α) (h : sliceL l o n = some x) : o + n ≤ l.length := by
  induction l generalizing o n x with
  | nil => cases o <;> cases n <;> simp [sliceL] at h; simp
  | cons a r ih =>
    cases o with
    | zero =>
      cases n with
      | zero => simp
      | succ n =>
        simp only [sliceL] at h
        cases hs : sliceL r 0 n with
        | none => simp [hs] at h
        | some y => have := ih 0 n y hs; simp; omega
    | succ o =>
      have h' : sliceL r o n = some x := by cases n <;> simpa [sliceL] using h
      have := ih o n x h'
      simp; omega

theorem partA_ok {u : Nat} {ui : TI} (hu : TIOk P u ui) {l : List AV} {cs : Array Value} (hl : SRs β l cs.toList) {off : Nat} {r : OR} (h : partA ui l off = some r) :
    (r.m = none ∧ r.nw = none) ∧ r.cs = [] ∧ ∃ v, (part u cs off).run P w = .ok v w ∧ VR β r.v v := by
  have hlen : l.length = cs.size := by rw [hl.length]; simp
  have hA : ui.isAgg = true → ∀ c, sliceL l off ui.size = some c → r = { v := .agg c } → (r.m = none ∧ r.nw = none) ∧ r.cs = [] ∧ ∃ v, (part u cs off).run P w = .ok v w ∧ VR β r.v v := by
    intro ha c hc hr
    subst hr
    refine ⟨⟨rfl, rfl⟩, rfl, .agg (cs.extract off (off + ui.size)), ?_, ?_⟩
    · simp only [part, Sem.run_bind, hu.isAgg, Result.andThen_ok, Sem.run_ite]
      rw [if_pos ha, hu.sizeOf]
      rfl
    · have h1 := sliceL_le _ _ _ _ hc
      have h2 := (sliceL_spec _ _ _ _ hc).1
      have : VR β (.agg c) (.agg ⟨(cs.extract off (off + ui.size)).toList⟩) := by
        refine .agg _ _ (SRs.of_get (by simp; omega) fun j v hj => ?_)
        obtain ⟨cv, e1, e2⟩ := hl.get (sliceL_get hc hj)
        refine ⟨cv, ?_, e2⟩
        have hjl : j < ui.size := by rw [← h2]; exact (List.getElem?_eq_some_iff.1 hj).1
        simp only [Array.toList_extract, List.extract_eq_take_drop, List.getElem?_take, List.getElem?_drop]
        rw [if_pos (by omega)]
        exact e1
      exact this
  unfold partA at h
  split at h
  · rename_i hk
    split at h
    · rename_i c hc
      cases h
      exact hA (by simp [TI.isAgg, hk]) c hc rfl
    · cases h
  · rename_i hk
    split at h
    · rename_i c hc
      cases h
      exact hA (by simp [TI.isAgg, hk]) c hc rfl
    · cases h
  · rename_i hk1 hk2
    split at h
    · rename_i v hv
      cases h
      obtain ⟨cv, e1, e2⟩ := hl.get (sliceL_get hv (j := 0) (v := v) (by simp))
      refine ⟨⟨rfl, rfl⟩, rfl, cv, ?_, .sc _ _ e2⟩
      have hf : ui.isAgg = false := by
        unfold TI.isAgg
        split
        · rename_i q; exact absurd q (hk1 _ _)
        · rename_i q; exact absurd q (hk2 _)
        · rfl
      have e1' : cs[off]? = some cv := by simpa using e1
      simp only [part, Sem.run_bind, hu.isAgg, Result.andThen_ok, hf, Bool.false_eq_true, if_false, e1', Sem.run_pure]
    · cases h

theorem fieldA_ok {t f : Nat} {x : AV} {r : OR} (h : fieldA P t x f = some r) {c : Value} (hx : VR β x c) :
    (r.m = none ∧ r.nw = none) ∧ r.cs = [] ∧ ∃ v, (Instr.field t c f).run P w = .ok v w ∧ VR β r.v v := by
  unfold fieldA at h
  split at h
  · rename_i l
    cases hx with
    | sc _ _ hx => cases hx
    | agg _ cs hl =>
    split at h
    · cases h
    · rename_i ti hti
      have ht := tiOf_ok hti
      split at h
      · rename_i fs hk
        obtain ⟨fields, hu, hm⟩ := ht.agg_struct hk
        split at h
        · cases h
        · rename_i o u hf
          obtain ⟨fd, h1, h2, h3⟩ := field_at hm hf
          split at h
          · cases h
          · rename_i ui hui
            obtain ⟨a, b, v, e1, e2⟩ := partA_ok (w := w) (tiOf_ok hui) (cs := ⟨cs⟩) hl h
            refine ⟨a, b, v, ?_, e2⟩
            subst h2 h3
            simp only [Instr.field, Sem.run_bind, run_underlying hu, Result.andThen_ok, h1, asAgg, Sem.run_pure, e1]
      · cases h
  · cases h

theorem partZ_ok {u : Nat} {ui : TI} (hu : TIOk P u ui) {l : List AV} {cs : Array Value} (hl : SRs β l cs.toList) {n : Nat} {z : Int} (h0 : 0 ≤ z) (h1 : z < n) :
    (∀ c, ui.isAgg = true → selAs l n ui.size z 0 ui.size = some c → l.length = n * ui.size → ∃ v, (part u cs (z.toNat * ui.size)).run P w = .ok v w ∧ VR β (.agg c) v) ∧
    (∀ c, ui.isAgg = false → selAs l n ui.size z 0 1 = some [c] → ∃ v, (part u cs (z.toNat * ui.size)).run P w = .ok v w ∧ VR β c v) := by
  have hlen : l.length = cs.size := by rw [hl.length]; simp
  refine ⟨fun c ha hc hn => ?_, fun c ha hc => ?_⟩
  · obtain ⟨q1, q2⟩ := selAs_ok h0 h1 hc
    have hzz : z.toNat * ui.size + ui.size ≤ n * ui.size := by
      rw [← Nat.succ_mul]
      exact Nat.mul_le_mul_right _ (by omega)
    refine ⟨.agg (cs.extract (z.toNat * ui.size) (z.toNat * ui.size + ui.size)), ?_, ?_⟩
    · simp only [part, Sem.run_bind, hu.isAgg, Result.andThen_ok, Sem.run_ite]
      rw [if_pos ha, hu.sizeOf]
      rfl
    · have : VR β (.agg c) (.agg ⟨(cs.extract (z.toNat * ui.size) (z.toNat * ui.size + ui.size)).toList⟩) := by
        refine .agg _ _ (SRs.of_get (by simp; omega) fun j v hj => ?_)
        obtain ⟨x, x1, x2⟩ := q2 j v hj
        rw [Nat.zero_add] at x1
        obtain ⟨cv, e1, e2⟩ := hl.get x1
        refine ⟨cv, ?_, x2 _ _ e2⟩
        have hjl : j < ui.size := by rw [← q1]; exact (List.getElem?_eq_some_iff.1 hj).1
        simp only [Array.toList_extract, List.extract_eq_take_drop, List.getElem?_take, List.getElem?_drop]
        rw [if_pos (by omega)]
        exact e1
      exact this
  · obtain ⟨q1, q2⟩ := selAs_ok h0 h1 hc
    obtain ⟨x, x1, x2⟩ := q2 0 c rfl
    rw [Nat.zero_add, Nat.add_zero] at x1
    obtain ⟨cv, e1, e2⟩ := hl.get x1
    refine ⟨cv, ?_, .sc _ _ (x2 _ _ e2)⟩
    have e1' : cs[z.toNat * ui.size]? = some cv := by simpa using e1
    simp only [part, Sem.run_bind, hu.isAgg, Result.andThen_ok, ha, Bool.false_eq_true, if_false, e1', Sem.run_pure]

theorem indexAZ_ok {u : Nat} {ei : TI} (hu : TIOk P u ei) {l : List AV} {cs : Array Value} (hl : SRs β l cs.toList) {n : Nat} {z : Int} {r : OR} (h : indexAZ l n ei z = some r) (hcs : ∀ b ∈ r.cs, b = true) :
    (r.m = none ∧ r.nw = none) ∧ 0 ≤ z ∧ z < n ∧ ∃ v, (part u cs (z.toNat * ei.size)).run P w = .ok v w ∧ VR β r.v v := by
  have two : ∀ {p q : Prop} [Decidable p] [Decidable q], (∀ b ∈ [decide p, decide q], b = true) → p ∧ q := by
    intro p q _ _ hh
    exact ⟨of_decide_eq_true (hh _ (by simp)), of_decide_eq_true (hh _ (by simp))⟩
  unfold indexAZ at h
  split at h
  · cases h
  · rename_i hln
    have hln := Nat.eq_of_beq_eq_true hln
    split at h
    · rename_i hk
      split at h
      · rename_i c hc
        cases h
        obtain ⟨a, b⟩ := two hcs
        exact ⟨⟨rfl, rfl⟩, a, b, (partZ_ok hu hl a b).1 c (by simp [TI.isAgg, hk]) hc hln⟩
      · cases h
    · rename_i hk
      split at h
      · rename_i c hc
        cases h
        obtain ⟨a, b⟩ := two hcs
        exact ⟨⟨rfl, rfl⟩, a, b, (partZ_ok hu hl a b).1 c (by simp [TI.isAgg, hk]) hc hln⟩
      · cases h
    · rename_i hk1 hk2
      split at h
      · rename_i c hc
        cases h
        obtain ⟨a, b⟩ := two hcs
        refine ⟨⟨rfl, rfl⟩, a, b, (partZ_ok hu hl a b).2 c ?_ hc⟩
        unfold TI.isAgg
        split
        · rename_i q; exact absurd q (hk1 _ _)
        · rename_i q; exact absurd q (hk2 _)
        · rfl
      · cases h

theorem indexA_ok {t : Nat} {x ix : AV} {r : OR} (h : indexA P t x ix = some r) (hcs : ∀ b ∈ r.cs, b = true) {c ci : Value} (hx : VR β x c) (hi : VR β ix ci) :
    (r.m = none ∧ r.nw = none) ∧ ∃ v, (Instr.index t c ci).run P w = .ok v w ∧ VR β r.v v := by
  unfold indexA at h
  split at h
  · rename_i l k j
    cases hx with
    | sc _ _ hx => cases hx
    | agg _ cs hl =>
    cases hi with | sc _ _ hi =>
    cases hi
    split at h
    · cases h
    · rename_i ti hti
      have ht := tiOf_ok hti
      split at h
      · rename_i n e hk
        have hu := ht.agg_arr hk
        split at h
        · cases h
        · rename_i ei hei
          have he := tiOf_ok hei
          split at h
          · rename_i hlt
            have hlt : j < n := by simpa [Nat.blt_eq] using hlt
            obtain ⟨a, _, v, e1, e2⟩ := partA_ok (w := w) he (cs := ⟨cs⟩) hl h
            refine ⟨a, v, ?_, e2⟩
            have hr : (0 : Int) ≤ Int.ofNat j ∧ Int.ofNat j < (n : Int) := ⟨Int.natCast_nonneg j, by simp only [Int.ofNat_eq_natCast]; omega⟩
            simp only [Instr.index, asIntOf, Sem.run_bind, Sem.run_pure, Result.andThen_ok, run_underlying hu, Sem.run_ite]
            rw [if_pos hr, he.sizeOf, Result.andThen_ok]
            exact e1
          · cases h
      · cases h
  · rename_i l k z
    cases hx with
    | sc _ _ hx => cases hx
    | agg _ cs hl =>
    cases hi with | sc _ _ hi =>
    cases hi
    split at h
    · cases h
    · rename_i ti hti
      have ht := tiOf_ok hti
      split at h
      · rename_i n e hk
        have hu := ht.agg_arr hk
        split at h
        · cases h
        · rename_i ei hei
          have he := tiOf_ok hei
          obtain ⟨a, h0, h1, v, e1, e2⟩ := indexAZ_ok (w := w) he (cs := ⟨cs⟩) hl h hcs
          refine ⟨a, v, ?_, e2⟩
          simp only [Instr.index, asIntOf, Sem.run_bind, Sem.run_pure, Result.andThen_ok, run_underlying hu, Sem.run_ite]
          rw [if_pos ⟨h0, h1⟩, he.sizeOf, Result.andThen_ok]
          exact e1
      · cases h
  · cases h

end
end Go.Sim

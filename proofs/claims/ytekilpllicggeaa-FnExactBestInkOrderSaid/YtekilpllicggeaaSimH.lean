/-
  Single operations, the fourth part: indexed addresses, literals, append, make, min and max.
-/
import Derived.Test.YtekilpllicggeaaSimW
namespace Go.Sim

section
variable {P : Program} {S : Nat → Prop} {w₀ w : World} {β : BM} {m : Mem}

theorem idx_slice {t e : Nat} {ei : TI} (hu : P.underlying t = some (.slice e)) (he : TIOk P e ei) {be : BE} {off len cap : Nat} {k : IntKind} {z : Int} (h0 : 0 ≤ z) (h1 : z < len) :
    (Instr.indexAt t (.slice (some ⟨be.b, be.base + off, none⟩) len cap) (.int k z)).run P w = .ok (.pointer (some ⟨be.b, be.base + (off + z.toNat * ei.size), none⟩)) w := by
  simp only [Instr.indexAt, asIntOf, Sem.run_bind, Sem.run_pure, Result.andThen_ok, run_underlying hu, Sem.run_ite]
  rw [if_pos ⟨h0, h1⟩, he.sizeOf, Result.andThen_ok, add_at]

theorem idx_arr {t n e : Nat} {ei : TI} (hu : P.underlying t = some (.array n e)) (he : TIOk P e ei) {be : BE} {off : Nat} {k : IntKind} {z : Int} (h0 : 0 ≤ z) (h1 : z < n) :
    (Instr.indexAt t (.pointer (some ⟨be.b, be.base + off, none⟩)) (.int k z)).run P w = .ok (.pointer (some ⟨be.b, be.base + (off + z.toNat * ei.size), none⟩)) w := by
  simp only [Instr.indexAt, asIntOf, Sem.run_bind, Sem.run_pure, Result.andThen_ok, run_underlying hu, Sem.run_ite, Instr.sureAddr]
  rw [if_pos ⟨h0, h1⟩, he.sizeOf, Result.andThen_ok, add_at]

theorem indexAddrA_ok {t : Nat} {x ix : AV} {r : OR} (h : indexAddrA P t x ix = some r) (hcs : ∀ b ∈ r.cs, b = true) {c ci : Value} (hx : VR β x c) (hi : VR β ix ci) :
    (r.m = none ∧ r.nw = none) ∧ ∃ v, (Instr.indexAt t c ci).run P w = .ok v w ∧ VR β r.v v := by
  have two : ∀ {p q : Prop} [Decidable p] [Decidable q], (∀ b ∈ [decide p, decide q], b = true) → p ∧ q := by
    intro p q _ _ hh
    exact ⟨of_decide_eq_true (hh _ (by simp)), of_decide_eq_true (hh _ (by simp))⟩
  unfold indexAddrA at h
  split at h
  · cases h
  · rename_i ti hti
    have ht := tiOf_ok hti
    split at h
    · rename_i n e i off k j hk
      have hu := ht.agg_arr hk
      cases hx with | sc _ _ hx => cases hx with | ptr _ _ be hbe =>
      cases hi with | sc _ _ hi =>
      cases hi
      split at h
      · cases h
      · rename_i ei hei
        split at h
        · rename_i hlt
          have hlt : j < n := by simpa [Nat.blt_eq] using hlt
          cases h
          exact ⟨⟨rfl, rfl⟩, _, idx_arr hu (tiOf_ok hei) (Int.natCast_nonneg j) (by simp only [Int.ofNat_eq_natCast]; omega), .sc _ _ (.ptr _ _ _ hbe)⟩
        · cases h
    · rename_i n e i off k z hk
      have hu := ht.agg_arr hk
      cases hx with | sc _ _ hx => cases hx with | ptr _ _ be hbe =>
      cases hi with | sc _ _ hi =>
      cases hi
      split at h
      · cases h
      · rename_i ei hei
        cases h
        obtain ⟨h0, h1⟩ := two hcs
        exact ⟨⟨rfl, rfl⟩, _, idx_arr hu (tiOf_ok hei) h0 h1, .sc _ _ (.sptr _ _ _ _ _ _ hbe h0 h1)⟩
    · rename_i e i off len es k j hk
      have hu := ht.slice hk
      cases hx with | sc _ _ hx => cases hx with | slc _ _ _ _ be cap hbe hlc hrow =>
      cases hi with | sc _ _ hi =>
      cases hi
      split at h
      · cases h
      · rename_i ei hei
        split at h
        · rename_i hlt
          have hlt : j < len := by simpa [Nat.blt_eq] using hlt
          cases h
          exact ⟨⟨rfl, rfl⟩, _, idx_slice hu (tiOf_ok hei) (Int.natCast_nonneg j) (by simp only [Int.ofNat_eq_natCast]; omega), .sc _ _ (.ptr _ _ _ hbe)⟩
        · cases h
    · rename_i e i off len es k z hk
      have hu := ht.slice hk
      cases hx with | sc _ _ hx => cases hx with | slc _ _ _ _ be cap hbe hlc hrow =>
      cases hi with | sc _ _ hi =>
      cases hi
      split at h
      · cases h
      · rename_i ei hei
        cases h
        obtain ⟨h0, h1⟩ := two hcs
        exact ⟨⟨rfl, rfl⟩, _, idx_slice hu (tiOf_ok hei) h0 h1, .sc _ _ (.sptr _ _ _ _ _ _ hbe h0 h1)⟩
    · rename_i e i off len es k z hk
      have hu := ht.slice hk
      cases hx with | sc _ _ hx => cases hx with | sslc _ _ _ _ be cap hbe hlc hrow =>
      cases hi with | sc _ _ hi =>
      cases hi
      split at h
      · cases h
      · rename_i ei hei
        cases h
        obtain ⟨h0, h1⟩ := two hcs
        exact ⟨⟨rfl, rfl⟩, _, idx_slice hu (tiOf_ok hei) h0 h1, .sc _ _ (.ptr _ _ _ hbe)⟩
    · rename_i e i off len es k z hk
      have hu := ht.slice hk
      cases hx with | sc _ _ hx => cases hx with | sslc _ _ _ _ be cap hbe hlc hrow =>
      cases hi with | sc _ _ hi =>
      cases hi
      split at h
      · cases h
      · rename_i ei hei
        cases h
        obtain ⟨h0, h1⟩ := two hcs
        exact ⟨⟨rfl, rfl⟩, _, idx_slice hu (tiOf_ok hei) h0 h1, .sc _ _ (.sptr _ _ _ _ _ _ hbe h0 h1)⟩
    · rename_i n' e i off n es z k j hk
      have hu := ht.agg_arr hk
      cases hx with | sc _ _ hx => cases hx with | sptr _ _ _ _ _ be hbe hz0 hzn =>
      cases hi with | sc _ _ hi =>
      cases hi
      split at h
      · cases h
      · rename_i ei hei
        split at h
        · rename_i hlt
          have hlt : j < n' := by simpa [Nat.blt_eq] using hlt
          cases h
          have e := idx_arr (P := P) (w := w) hu (tiOf_ok hei) (be := be) (off := off + z.toNat * es) (k := k) (Int.natCast_nonneg j) (by exact Int.ofNat_lt.2 hlt)
          refine ⟨⟨rfl, rfl⟩, _, e, ?_⟩
          simp only [Int.toNat_natCast]
          rw [Nat.add_right_comm]
          exact .sc _ _ (.sptr _ _ _ _ _ _ hbe hz0 hzn)
        · cases h
    · cases h

theorem lenA_ok {t : Nat} {x : AV} {r : OR} (h : lenA P t x = some r) (hcs : ∀ b ∈ r.cs, b = true) {c : Value} (hx : VR β x c) (ty : TypeId) :
    (r.m = none ∧ r.nw = none) ∧ ∃ v, (Builtin.len_ #[t] ty #[c]).run P w = .ok v w ∧ VR β r.v v := by
  unfold lenA at h
  split at h
  · rename_i u i off n es hu
    split at h
    · rename_i hi
      cases h
      cases hx with | sc _ _ hx => cases hx with | slc _ _ _ _ be cap hbe hlc hrow =>
      exact ⟨⟨rfl, rfl⟩, .int .i64 n, by simp [Builtin.len_, run_underlying hu, goInt], .sc _ _ (.int _ _ hi)⟩
    · cases h
  · rename_i u i off n es hu
    cases h
    cases hx with | sc _ _ hx => cases hx with | sslc _ _ _ _ be cap hbe hlc hrow =>
    exact ⟨⟨rfl, rfl⟩, .int .i64 n, by simp [Builtin.len_, run_underlying hu, goInt], .sc _ _ (.sint _ _ (hcs _ (List.mem_singleton.2 rfl)))⟩
  · rename_i u hu
    cases h
    cases hx with | sc _ _ hx =>
    cases hx
    exact ⟨⟨rfl, rfl⟩, .int .i64 0, by simp [Builtin.len_, run_underlying hu, goInt], .sc _ _ (.int _ _ rfl)⟩
  · rename_i s hu
    cases h
    cases hx with | sc _ _ hx =>
    cases hx
    exact ⟨⟨rfl, rfl⟩, .int .i64 s.size, by simp [Builtin.len_, run_underlying hu, goInt], .sc _ _ (.sint _ _ (hcs _ (List.mem_singleton.2 rfl)))⟩
  · rename_i _ n e hu
    split at h
    · rename_i hi
      cases h
      exact ⟨⟨rfl, rfl⟩, .int .i64 n, by simp [Builtin.len_, run_underlying hu, goInt], .sc _ _ (.int _ _ hi)⟩
    · cases h
  · cases h

/-! ### Literals -/

theorem foldl_set (l : List (Value × Nat)) (off : Nat) (cs : Array Value) : ∀ (b : Nat) (vs : List Value), l = vs.zipIdx b → off + b + vs.length ≤ cs.size →
    ∃ cs', l.foldl (fun cs x => cs.setIfInBounds (off + x.2) x.1) cs = cs' ∧ cs'.size = cs.size ∧ ∀ j, cs'[j]? = if off + b ≤ j ∧ j < off + b + vs.length then vs[j - (off + b)]? else cs[j]? := by
  intro b vs h
  induction vs generalizing l cs b with
  | nil => subst h; intro _; exact ⟨cs, rfl, rfl, fun j => by rw [if_neg (by simp only [List.length_nil]; omega)]⟩
  | cons v vs ih =>
    subst h
    intro hs
    simp only [List.length_cons] at hs
    obtain ⟨cs', e1, e2, e3⟩ := ih (vs.zipIdx (b + 1)) (cs.setIfInBounds (off + b) v) (b + 1) rfl (by simp; omega)
    refine ⟨cs', ?_, by simpa using e2, fun j => ?_⟩
    · rw [← e1]; rfl
    · rw [e3]
      simp only [List.length_cons]
      by_cases h1 : j = off + b
      · subst h1
        rw [if_neg (by omega), if_pos (by omega)]
        simp [show off + b < cs.size by omega]
      · by_cases h2 : off + b + 1 ≤ j ∧ j < off + b + 1 + vs.length
        · rw [if_pos (by omega), if_pos (by omega)]
          rw [show j - (off + b) = (j - (off + (b + 1))) + 1 by omega]
          simp
        · rw [if_neg (by omega), if_neg (by omega)]
          rw [Array.getElem?_setIfInBounds_ne (by omega)]

theorem fillA_ok {place : Nat → Option (Nat × Nat)} {parts : List (Nat × AV)} {cparts : List (Nat × Value)} (hp : parts.map (·.1) = cparts.map (·.1)) (hv : VRs β (parts.map (·.2)) (cparts.map (·.2))) :
    ∀ {cells r : List AV} {cs : Array Value}, SRs β cells cs.toList → fillA place cells parts = some r → ∃ cs', Instr.fill place cs cparts = some cs' ∧ SRs β r cs'.toList := by
  induction parts generalizing cparts with
  | nil =>
    intro cells r cs hc h
    cases cparts with
    | nil => simp [fillA] at h; subst h; exact ⟨cs, rfl, hc⟩
    | cons x r => simp at hp
  | cons p parts ih =>
    intro cells r cs hc h
    cases cparts with
    | nil => simp at hp
    | cons q cparts =>
      obtain ⟨i, v⟩ := p
      obtain ⟨i', c⟩ := q
      simp only [List.map_cons, List.cons.injEq] at hp
      obtain ⟨hi, hp⟩ := hp
      subst hi
      simp only [List.map_cons] at hv
      cases hv with | cons _ _ _ _ hv hvs =>
      simp only [fillA] at h
      split at h
      · cases h
      · rename_i off size hpl
        split at h
        · cases h
        · rename_i vs hvs'
          split at h
          · cases h
          · rename_i hsz
            have hsz := Nat.eq_of_beq_eq_true hsz
            split at h
            · cases h
            · rename_i cells' hpaste
              have hcv := hv.cells hvs'
              have hclen : c.cells.size = size := by rw [← hsz, hcv.length]; simp
              obtain ⟨p1, p2, p3⟩ := pasteL_spec _ _ _ _ hpaste
              have hcl : cells.length = cs.size := by rw [hc.length]; simp
              obtain ⟨cs', e1, e2, e3⟩ := foldl_set (c.cells.toList.zipIdx 0) off cs 0 c.cells.toList rfl (by simp; omega)
              have hc' : SRs β cells' cs'.toList := by
                refine SRs.of_get (by simp; omega) fun j x hj => ?_
                rw [pasteL_get hpaste] at hj
                have e3j := e3 j
                simp only [Nat.add_zero, Array.length_toList] at e3j
                by_cases hin : off ≤ j ∧ j < off + vs.length
                · rw [if_pos hin] at hj
                  obtain ⟨cv, f1, f2⟩ := hcv.get hj
                  refine ⟨cv, ?_, f2⟩
                  rw [if_pos (by omega)] at e3j
                  simp only [Array.getElem?_toList, e3j]
                  simpa using f1
                · rw [if_neg hin] at hj
                  obtain ⟨cv, f1, f2⟩ := hc.get hj
                  refine ⟨cv, ?_, f2⟩
                  rw [if_neg (by omega)] at e3j
                  simp only [Array.getElem?_toList, e3j]
                  simpa using f1
              obtain ⟨cs'', g1, g2⟩ := ih hp hvs hc' h
              refine ⟨cs'', ?_, g2⟩
              simp only [Instr.fill, hpl]
              rw [if_neg]
              · rw [← g1, ← e1]
                congr 1
                rw [← Array.foldl_toList]
                congr 1
                simp
              · simp only [hclen, ne_eq, not_true, decide_false, Bool.false_or, decide_eq_true_eq]
                simp
                omega

theorem placesA_ok {fs : List Field} {pl : List (Nat × Nat)} (h : placesA P (fs.map fun f => (f.offset, f.type)) = some pl) : fs.mapM (fun f => (P.info? f.type).map fun i => (f.offset, i.size)) = some pl := by
  induction fs generalizing pl with
  | nil => simp [placesA] at h; subst h; rfl
  | cons f fs ih =>
    simp only [List.map_cons, placesA] at h
    split at h
    · cases h
    · rename_i ui hui
      obtain ⟨info, d, z, h1, h2, h3, h4, h5, h6, h7⟩ := tiOf_ok hui
      split at h
      · cases h
      · rename_i l hl
        cases h
        simp [h1, ih hl, h6]

theorem buildA_ok {t : Nat} {ps : List (Nat × AV)} {cps : Array (Nat × Value)} {r : OR} (h : buildA P t ps = some r) (hp : ps.map (·.1) = cps.toList.map (·.1)) (hv : VRs β (ps.map (·.2)) (cps.toList.map (·.2))) :
    (r.m = none ∧ r.nw = none) ∧ r.cs = [] ∧ ∃ v, (Instr.build t cps).run P w = .ok v w ∧ VR β r.v v := by
  unfold buildA at h
  split at h
  · cases h
  · rename_i ti hti
    have ht := tiOf_ok hti
    obtain ⟨z, hz1, hz2⟩ := ht.zero β w
    split at h
    · rename_i fs hk
      obtain ⟨fields, hu, hm⟩ := ht.agg_struct hk
      split at h
      · cases h
      · rename_i pl hpl
        split at h
        · rename_i l hl
          simp only [forceK_eq, Option.some.injEq] at h
          subst h
          obtain ⟨cs', e1, e2⟩ := fillA_ok hp hv hz2 hl
          subst hm
          have hpl' := placesA_ok hpl
          refine ⟨⟨rfl, rfl⟩, rfl, .agg cs', ?_, ?_⟩
          · have e1' : Instr.fill (fun x => pl[x]?) z.cells cps.toList = some cs' := e1
            simp [Instr.build, run_underlying hu, hz1, Array.mapM_eq_mapM_toList, run_places w _ _ hpl', e1']
          · have : VR β (.agg l) (.agg ⟨cs'.toList⟩) := .agg _ _ e2
            exact this
        · cases h
    · rename_i n e hk
      have hu := ht.agg_arr hk
      split at h
      · rename_i ei hei
        split at h
        · rename_i l hl
          simp only [forceK_eq, Option.some.injEq] at h
          subst h
          obtain ⟨cs', e1, e2⟩ := fillA_ok hp hv hz2 hl
          refine ⟨⟨rfl, rfl⟩, rfl, .agg cs', ?_, ?_⟩
          · simp [Instr.build, run_underlying hu, hz1, (tiOf_ok hei).sizeOf, e1]
          · have : VR β (.agg l) (.agg ⟨cs'.toList⟩) := .agg _ _ e2
            exact this
        · cases h
      · cases h
    · cases h

theorem repL_len (l : List AV) (n : Nat) : (repL n l).length = n * l.length := by
  induction n with
  | zero => simp [repL]
  | succ n ih => simp [repL, ih, Nat.succ_mul]; omega

theorem repL_at (l : List AV) (n j : Nat) (h : j < n * l.length) : (repL n l)[j]? = l[j % l.length]? := by
  induction n generalizing j with
  | zero => simp at h
  | succ n ih =>
    simp only [repL]
    by_cases hj : j < l.length
    · rw [List.getElem?_append_left hj, Nat.mod_eq_of_lt hj]
    · rw [List.getElem?_append_right (by omega), ih _ (by rw [Nat.succ_mul] at h; omega)]
      rw [← Nat.mod_eq_sub_mod (by omega)]

/-- A row of zeroes, as the model lays it. -/
theorem zeros_ok {z : Value} {zero : List AV} (hz : SRs β zero z.cells.toList) (n size : Nat) (hs : zero.length = size) (zs : Array Value) (hzs : (n * size = 0 ∧ zs = #[]) ∨ zs = z.cells) :
    SRs β (repL n zero) ((Array.range (n * size)).map (zs[· % zs.size]!)).toList := by
  refine SRs.of_get (by simp [repL_len, hs]) fun j v hj => ?_
  have hjl : j < n * size := by
    have := (List.getElem?_eq_some_iff.1 hj).1
    rw [repL_len, hs] at this
    exact this
  rcases hzs with ⟨h0, _⟩ | rfl
  · omega
  · subst hs
    rw [repL_at _ _ _ hjl] at hj
    obtain ⟨c, e1, e2⟩ := hz.get hj
    refine ⟨c, ?_, e2⟩
    have hl : z.cells.size = zero.length := by rw [hz.length]; simp
    simp only [Array.toList_map, List.getElem?_map, Array.toList_range, List.getElem?_range hjl, Option.map_some]
    rw [hl]
    congr 1
    have e1' : z.cells[j % zero.length]? = some c := by simpa using e1
    simp [getElem!_def, e1']

/-- A new block, and an address of it. -/
def AfterL (β : BM) (m : Mem) (w : World) (r : OR) (v : Value) (w' : World) : Prop :=
  ∃ cells c e, r.nw = some (.lit cells true) ∧ r.m = none ∧ w' = w.alloc (.cells c e) ∧ SRs β cells c.toList ∧ VR (β.upd m.length ⟨w.heap.size, 0, some c.size⟩) r.v v

theorem buildSliceA_ok {t n : Nat} {ps : List (Nat × AV)} {cps : Array (Nat × Value)} {r : OR} (h : buildSliceA P m t n ps = some r) (hp : ps.map (·.1) = cps.toList.map (·.1)) (hv : VRs β (ps.map (·.2)) (cps.toList.map (·.2))) :
    r.cs = [] ∧ ∃ v w', (Instr.buildSlice t n cps).run P w = .ok v w' ∧ AfterL β m w r v w' := by
  unfold buildSliceA at h
  split at h
  · cases h
  · rename_i ti hti
    have ht := tiOf_ok hti
    split at h
    · rename_i e hk
      have hu := ht.slice hk
      split at h
      · rename_i ei hei
        have he := tiOf_ok hei
        obtain ⟨z, hz1, hz2⟩ := he.zero β w
        split at h
        · rename_i hc
          simp only [Bool.and_eq_true, decide_eq_true_eq] at hc
          obtain ⟨hc1, hc2⟩ := hc
          have hc2 := Nat.eq_of_beq_eq_true hc2
          split at h
          · rename_i l hl
            have hzs := zeros_ok hz2 n ei.size hc2 (if n * ei.size = 0 then #[] else z.cells) (by split <;> simp_all)
            obtain ⟨cs', e1, e2⟩ := fillA_ok hp hv hzs hl
            have hr := newA_eq h
            subst hr
            refine ⟨rfl, .slice (some ⟨w.heap.size, 0, none⟩) n n, w.alloc (.cells cs' e), ?_, _, _, _, rfl, rfl, rfl, e2, ?_⟩
            · simp only [Instr.buildSlice, Sem.run_bind, run_underlying hu, Result.andThen_ok, he.sizeOf, Sem.run_ite]
              rw [if_neg (by omega)]
              by_cases h0 : n * ei.size = 0
              · rw [if_pos h0] at e1 ⊢
                simp only [Sem.run_pure, Result.andThen_ok, e1, Sem.run_bind, run_newRow]
              · rw [if_neg h0] at e1 ⊢
                simp only [hz1, Sem.run_pure, Result.andThen_ok, e1, Sem.run_bind, run_newRow]
            · have hlen : n * ei.size ≤ cs'.size := by
                have hcl := (SRs.length e2)
                simp only [Array.length_toList] at hcl
                rw [← hcl]
                have : ∀ (pl : Nat → Option (Nat × Nat)) (ps : List (Nat × AV)) (c r : List AV), fillA pl c ps = some r → r.length = c.length := by
                  intro pl ps
                  induction ps with
                  | nil => intro c r h; simp [fillA] at h; rw [h]
                  | cons p ps ih =>
                    intro c r h
                    obtain ⟨i, v⟩ := p
                    simp only [fillA] at h
                    split at h
                    · cases h
                    · split at h
                      · cases h
                      · split at h
                        · cases h
                        · split at h
                          · cases h
                          · rename_i hpp
                            rw [ih _ _ h, (pasteL_spec _ _ _ _ hpp).2.1]
                rw [this _ _ _ _ hl, repL_len, hc2]
                exact Nat.le_refl _
              have := SR.slc (β := β.upd m.length ⟨w.heap.size, 0, some cs'.size⟩) m.length 0 n ei.size _ n (BM.upd_self ..) (Nat.le_refl _) (fun q hq => by cases hq; omega)
              exact .sc _ _ this
          · cases h
        · cases h
      · cases h
    · cases h

/-! ### append, make, min, max -/

theorem nextcap_le (need cap bytes : Nat) (h : cap < need) (hn : need ≤ 16777216) (hb : bytes ≤ 1048576) : ¬ Builtin.nextslicecap need cap * bytes > 2 ^ 48 := by
  have key : Builtin.nextslicecap need cap ≤ 67108864 := by
    unfold Builtin.nextslicecap
    split
    · omega
    · split
      · omega
      · have : ∀ r c, c ≤ 33554432 → Builtin.growBy need r c ≤ 67108864 := by
          intro r
          induction r with
          | zero => intro c hc; simp [Builtin.growBy]; omega
          | succ r ih =>
            intro c hc
            simp only [Builtin.growBy]
            split
            · omega
            · exact ih _ (by omega)
        exact this 4 cap (by omega)
  have : Builtin.nextslicecap need cap * bytes ≤ 67108864 * 1048576 := Nat.mul_le_mul key hb
  omega

theorem zeroCells_eq (z : Array Value) (n : Nat) : (Builtin.zeroCells z n).size = n * z.size := by simp [Builtin.zeroCells]

theorem src_ok (hW : WS S w₀ β m w) {x : AV} {es n : Nat} {new : List AV} {c : Value} (hx : VR β x c) (h : srcA m es x = some (new, n)) :
    ∃ cs : List Value, SRs β new cs ∧ new.length = n * es ∧ (Builtin.lenOf c).run P w = .ok n w ∧ (∀ w' : World, (∀ b, b < w.heap.size → w'.heap[b]? = w.heap[b]?) → (Builtin.firstCells es n c).run P w' = .ok cs.toArray w') := by
  unfold srcA at h
  split at h
  · cases h
    cases hx with | sc _ _ hx =>
    cases hx
    exact ⟨[], .nil, by simp, rfl, fun _ _ => rfl⟩
  · rename_i j off k _
    cases hx with | sc _ _ hx => cases hx with | slc _ _ _ _ be cap hbe hlc hrow =>
    split at h
    · rename_i cells rw hm
      split at h
      · rename_i l hl
        cases h
        obtain ⟨cc, e, fr, b1, b2, b3, b4, b5⟩ := hW.sim.br hm hbe
        have hlt : be.b < w.heap.size := (Array.getElem?_eq_some_iff.1 b1).1
        obtain ⟨cs, h1, h2⟩ := cells_of (f := fun q => cc[be.base + (off + q)]?) (l := new) (β := β) fun q v hq => b5 (off + q) v (sliceL_get hl hq)
        have hll := (sliceL_spec _ _ _ _ hl).1
        refine ⟨cs, h1, hll, rfl, fun w' hw' => ?_⟩
        simp only [Builtin.firstCells]
        rw [← hll, h1.length]
        refine run_loadCells_list w' _ cs fun q v hq => ?_
        rw [addr_add, Nat.add_assoc, cell_of (by rw [hw' _ hlt]; exact b1)]
        exact h2 q v hq
      · cases h
    · cases h
  · cases h

theorem append_grows {ts tx e u : Nat} {ei : TI} (hu : P.underlying ts = some (.slice e)) (hux : P.underlying tx = some (.slice u)) (he : TIOk P e ei) (hb : ei.bytes ≤ 1048576) (hz : ei.zero.length = ei.size)
    {base : Option Addr} {sLen sCap n : Nat} {cx : Value} {cold cs : List Value} (hlt : sCap < sLen + n) (hle : sLen + n ≤ 16777216) (h1 : (Builtin.lenOf cx).run P w = .ok n w)
    (h2 : (Builtin.firstCells ei.size sLen (.slice base sLen sCap)).run P w.drew = .ok cold.toArray w.drew) (h3 : (Builtin.firstCells ei.size n cx).run P w.drew = .ok cs.toArray w.drew)
    (hl1 : cold.length = sLen * ei.size) (hl2 : cs.length = n * ei.size) (ty : TypeId) :
    ∃ rest cap, (Builtin.append_ #[ts, tx] ty #[.slice base sLen sCap, cx]).run P w = .ok (.slice (some ⟨w.heap.size, 0, none⟩) (sLen + n) cap) (w.drew.alloc (.cells ⟨cold ++ cs ++ rest⟩ e)) ∧
      sLen + n ≤ cap ∧ cap * ei.size ≤ (cold ++ cs ++ rest).length := by
  obtain ⟨info, d, z, i1, i2, i3, i4, i5, i6, i7⟩ := he
  have hnext := nextcap_le (sLen + n) sCap ei.bytes hlt hle hb
  have hcap : sLen + n ≤ (Question.appendCap (sLen + n) sCap e).cut (w.tape w.drawn (.appendCap (sLen + n) sCap e)) := by
    simp only [Question.cut]; omega
  generalize hq : (Question.appendCap (sLen + n) sCap e).cut (w.tape w.drawn (.appendCap (sLen + n) sCap e)) = cap at hcap
  have hzr : (zeroValue e).run P w.drew = .ok z w.drew := by simp [zeroValue, typeInfo, i1, i3]
  have hnext' : ¬ 281474976710656 < Builtin.nextslicecap (sLen + n) sCap * ei.bytes := by simpa using hnext
  have hzs : z.cells.size = ei.size := by rw [← hz, (cstL_ok (β := fun _ => none) i4).length]; simp
  refine ⟨(Builtin.zeroCells z.cells (cap - (sLen + n))).toList, cap, ?_, hcap, ?_⟩
  · simp [Builtin.append_, run_underlying hu, run_underlying hux, sizeOf, typeInfo, i1, h1, ← i6, ← i7]
    rw [if_neg (by omega), if_neg (by omega), if_neg hnext', if_neg (by simp [Question.forced]), h2, Result.andThen_ok, h3, Result.andThen_ok, hzr, Result.andThen_ok, run_newRow, Result.andThen_ok, hq]
    congr 2
    simp
  · simp only [List.length_append, hl1, hl2, Array.length_toList, zeroCells_eq, hzs]
    rw [← Nat.add_mul, ← Nat.add_mul]
    exact Nat.mul_le_mul_right _ (by omega)


/-- An append in place: the old block is not looked at any more, the new one is its beginning and what is behind it. -/
theorem WS.extend (h : WS S w₀ β m w) (hf : Fresh β m) {j off es len : Nat} {cells old new : List AV} {be : BE} {cs : List Value} {cap n : Nat} (hj : m.at j = some (.lit cells true)) (hb : β j = some be)
    (hold : sliceL cells off (len * es) = some old) (hnew : SRs β new cs) (hnl : new.length = n * es) (hrow : ∀ q, be.row = some q → off + cap * es ≤ q) (hcap : len + n ≤ cap) :
    ∃ w' row, (storeCells ⟨be.b, be.base + (off + len * es), none⟩ cs).run P w = .ok () w' ∧ row - off + off = row ∧ be.row = some row ∧
      WS S w₀ (β.upd m.length ⟨be.b, be.base + off, some (row - off)⟩) (m.set j none ++ [some (.lit (old ++ new) true)]) w' := by
  obtain ⟨c, e, fr, h1, h2, h3, h4, h5⟩ := h.sim.br hj hb
  obtain ⟨rfl, row, hr⟩ := h2 rfl
  have hrow' := hrow row hr
  have h3' := (h3 row hr).2
  have hle : (len + n) * es ≤ cap * es := Nat.mul_le_mul_right _ hcap
  rw [Nat.add_mul] at hle
  have hcl : cs.length = n * es := by rw [← hnew.length, hnl]
  have hl : be.base + (off + len * es) + 0 + cs.length ≤ c.size := by omega
  have hrun := run_storeCells_at (P := P) be.b (be.base + (off + len * es)) e cs 0 c w h1 hl hnew.oneCell
  have holdl := (sliceL_spec _ _ _ _ hold).1
  refine ⟨_, row, hrun, by omega, hr, ?_⟩
  have hself := setRow_heap w be.b c (c.toList.take (be.base + (off + len * es) + 0) ++ cs ++ c.toList.drop (be.base + (off + len * es) + 0 + cs.length)).toArray e (0, 0) h1
  have hother : ∀ k, k ≠ be.b → (w.setRow be.b (c.toList.take (be.base + (off + len * es) + 0) ++ cs ++ c.toList.drop (be.base + (off + len * es) + 0 + cs.length)).toArray).heap[k]? = w.heap[k]? := fun k hk => setRow_other w be.b k _ hk
  have hsz : (c.toList.take (be.base + (off + len * es) + 0) ++ cs ++ c.toList.drop (be.base + (off + len * es) + 0 + cs.length)).toArray.size = c.size := by simp; omega
  generalize hw' : w.setRow be.b (c.toList.take (be.base + (off + len * es) + 0) ++ cs ++ c.toList.drop (be.base + (off + len * es) + 0 + cs.length)).toArray = w' at *
  have hjl := at_lt hj
  have hle2 := BM.upd_le (hf m.length (Nat.le_refl _)) ⟨be.b, be.base + off, some (row - off)⟩
  have hat : ∀ {i : Nat} {bk : Blk}, (m.set j none ++ [some (.lit (old ++ new) true)] : Mem).at i = some bk → (i ≠ j ∧ i ≠ m.length ∧ m.at i = some bk) ∨ (i = m.length ∧ bk = .lit (old ++ new) true) := by
    intro i bk hi
    rcases at_append hi with hi | ⟨h1, h2⟩
    · rcases at_set hi with ⟨h1, hi⟩ | ⟨_, hx⟩
      · exact .inl ⟨h1, by have := at_lt hi; omega, hi⟩
      · cases hx
    · right
      refine ⟨by simpa using h1, by cases h2; rfl⟩
  refine ⟨⟨?_, ?_⟩, ⟨?_, ?_, ?_, ?_, fun k hk hs => ?_⟩, ?_⟩
  · intro i bk hi
    rcases hat hi with ⟨hne, _, hi'⟩ | ⟨rfl, rfl⟩
    · obtain ⟨b, hb', hbr⟩ := h.sim.blk i bk hi'
      have hd := h.sim.sep j i _ _ _ _ hj hi' (Ne.symm hne) rfl hb hb'
      exact ⟨b, hle2 _ _ hb', hbr.mono hle2 (hother _ (Ne.symm hd))⟩
    · refine ⟨_, BM.upd_self .., _, e, (0, 0), hself, fun _ => ⟨rfl, _, rfl⟩, fun q hq => ?_, by rw [hsz]; simp only [Blk.len, List.length_append]; omega, ?_⟩
      · cases hq
        rw [hsz]
        simp only [Blk.len, List.length_append]
        omega
      · intro q v hq
        simp only [List.getElem?_toArray, Nat.add_zero]
        by_cases hq1 : q < old.length
        · rw [List.getElem?_append_left hq1] at hq
          obtain ⟨cv, e1, e2⟩ := h5 (off + q) v (sliceL_get hold hq)
          refine ⟨cv, ?_, e2.mono hle2⟩
          have hql : be.base + (off + q) < c.size := (Array.getElem?_eq_some_iff.1 e1).1
          rw [List.append_assoc, List.getElem?_append_left (by simp; omega), List.getElem?_take_of_lt (by omega), Nat.add_assoc]
          simpa using e1
        · rw [List.getElem?_append_right (by omega)] at hq
          obtain ⟨cv, e1, e2⟩ := hnew.get hq
          have hql : q - old.length < cs.length := (List.getElem?_eq_some_iff.1 e1).1
          refine ⟨cv, ?_, e2.mono hle2⟩
          rw [List.append_assoc, List.getElem?_append_right (by simp; omega), List.getElem?_append_left (by simp; omega)]
          rw [← e1]
          congr 1
          simp
          omega
  · intro i k bi bk ei ek hi hk hik hrw hei hek
    rcases hat hi with ⟨hne, hni, hi'⟩ | ⟨rfl, rfl⟩
    · rcases BM.upd_cases hei with ⟨h1, _⟩ | ⟨_, hei'⟩
      · exact absurd h1 hni
      · rcases hat hk with ⟨hnk, hnk', hk'⟩ | ⟨rfl, rfl⟩
        · rcases BM.upd_cases hek with ⟨h1, _⟩ | ⟨_, hek'⟩
          · exact absurd h1 hnk'
          · exact h.sim.sep i k _ _ _ _ hi' hk' hik hrw hei' hek'
        · rcases BM.upd_cases hek with ⟨_, h2⟩ | ⟨h1, _⟩
          · subst h2
            have := h.sim.sep i j _ _ _ _ hi' hj hne hrw hei' hb
            exact this
          · exact absurd rfl h1
    · rcases BM.upd_cases hei with ⟨_, h2⟩ | ⟨h1, _⟩
      · subst h2
        rcases hat hk with ⟨hnk, hnk', hk'⟩ | ⟨rfl, rfl⟩
        · rcases BM.upd_cases hek with ⟨h1, _⟩ | ⟨_, hek'⟩
          · exact absurd h1 hnk'
          · have := h.sim.sep j k _ _ _ _ hj hk' (Ne.symm hnk) rfl hb hek'
            exact this
        · exact absurd rfl hik
      · exact absurd rfl h1
  · subst hw'; exact h.fr.os
  · subst hw'; exact h.fr.tape
  · subst hw'; exact h.fr.output
  · subst hw'; simpa using h.fr.size
  · have hne : k ≠ be.b := by
      intro he
      rcases h.own j _ be hj rfl hb with ho | ho
      · exact hs (he ▸ ho)
      · omega
    rw [hother k hne]
    exact h.fr.block k hk hs
  · intro i bk b hi hrw hbi
    rcases hat hi with ⟨hne, hni, hi'⟩ | ⟨rfl, rfl⟩
    · rcases BM.upd_cases hbi with ⟨h1, _⟩ | ⟨_, hbi'⟩
      · exact absurd h1 hni
      · exact h.own i bk b hi' hrw hbi'
    · rcases BM.upd_cases hbi with ⟨_, h2⟩ | ⟨h1, _⟩
      · subst h2
        exact h.own j _ be hj rfl hb
      · exact absurd rfl h1

/-- A new memory. -/
def AfterW (S : Nat → Prop) (w₀ : World) (β : BM) (m' : Mem) (x : AV) (v : Value) (w' : World) : Prop :=
  ∃ β', BLe β β' ∧ Fresh β' m' ∧ WS S w₀ β' m' w' ∧ VR β' x v

theorem appendA_ok (hW : WS S w₀ β m w) {ts tx : Nat} {s x : AV} {r : OR} (hf0 : r.m ≠ none → Fresh β m) (h : appendA P m ts tx s x = some r) {c cx : Value} (hs : VR β s c) (hx : VR β x cx) (ty : TypeId) :
    r.cs = [] ∧ r.nw = none ∧ ((r.m = none ∧ (Builtin.append_ #[ts, tx] ty #[c, cx]).run P w = .ok c w ∧ r.v = s) ∨ ∃ v w' m', r.m = some m' ∧ (Builtin.append_ #[ts, tx] ty #[c, cx]).run P w = .ok v w' ∧ AfterW S w₀ β m' r.v v w') := by
  unfold appendA at h
  split at h
  · rename_i e u hu hux
    split at h
    · cases h
    · rename_i ei hei
      have he := tiOf_ok hei
      split at h
      · cases h
      · rename_i hb
        simp only [Bool.and_eq_true, decide_eq_true_eq] at hb
        obtain ⟨hb, hz⟩ := hb
        have hz := Nat.eq_of_beq_eq_true hz
        split at h
        · cases h
        · rename_i new n hsrc
          obtain ⟨cs, s1, s2, s3, s4⟩ := src_ok (P := P) hW hx hsrc
          have s2' : cs.length = n * ei.size := by rw [← s1.length, s2]
          split at h
          · cases hs with | sc _ _ hs =>
            cases hs
            split at h
            · cases h
              refine ⟨rfl, rfl, .inl ⟨rfl, ?_, rfl⟩⟩
              obtain ⟨info, d, z, i1, i2, i3, i4, i5, i6, i7⟩ := he
              have s4' := s4 w (fun _ _ => rfl)
              simp [Builtin.append_, run_underlying hu, run_underlying hux, sizeOf, typeInfo, i1, s3, ← i6, s4']
            · rename_i n
              split at h
              · rename_i hle
                have hle := of_decide_eq_true hle
                obtain ⟨rest, cap, r1, r2, r3⟩ := append_grows (P := P) (w := w) hu hux he hb hz (base := none) (sLen := 0) (sCap := 0) (cold := []) (by omega) (by omega) s3 rfl (s4 w.drew (fun _ _ => rfl)) (by simp) s2' ty
                simp only [newM, forceK_eq, appendK_eq, Option.some.injEq] at h
                subst h
                have hf := hf0 (by simp)
                have hfl := hf m.length (Nat.le_refl _)
                have hall : ∀ (j : Nat) (v : AV), new[j]? = some v → ∃ cv, (⟨[] ++ cs ++ rest⟩ : Array Value)[j]? = some cv ∧ SR β v cv := by
                  intro j v hj
                  obtain ⟨cv, e1, e2⟩ := s1.get hj
                  exact ⟨cv, by simp only [List.nil_append, List.getElem?_toArray]; exact getElem?_app e1 rest, e2⟩
                have hn := hW.drew.newP hfl (c := ⟨[] ++ cs ++ rest⟩) (cells := new) e (by simp [s1.length]) hall
                rw [Nat.zero_add] at r1 r2
                refine ⟨rfl, rfl, .inr ⟨_, _, _, rfl, r1, _, BM.upd_le hfl _, hf.upd, hn, ?_⟩⟩
                have := SR.slc (β := β.upd m.length ⟨w.drew.heap.size, 0, some (⟨[] ++ cs ++ rest⟩ : Array Value).size⟩) m.length 0 (n + 1) ei.size _ cap (BM.upd_self ..) r2 (fun q hq => by cases hq; simpa using r3)
                exact .sc _ _ this
              · cases h
          · rename_i j off len es
            cases hs with | sc _ _ hs => cases hs with | slc _ _ _ _ be scap hbe hlc hrow =>
            split at h
            · rename_i cells hm
              split at h
              · rename_i old hold hc
                simp only [Bool.and_eq_true, decide_eq_true_eq] at hc
                obtain ⟨hle, hes⟩ := hc
                have hes := Nat.eq_of_beq_eq_true hes
                subst hes
                simp only [appendK_eq, setK_eq, Option.some.injEq] at h
                subst h
                have hf := hf0 (by simp)
                have hfl := hf m.length (Nat.le_refl _)
                refine ⟨rfl, rfl, .inr ?_⟩
                by_cases hfit : len + n ≤ scap
                · obtain ⟨w', row, e1, e2, e3, e4⟩ := hW.extend (P := P) hf hm hbe hold s1 s2 hrow hfit
                  refine ⟨.slice (some ⟨be.b, be.base + off, none⟩) (len + n) scap, w', _, rfl, ?_, _, BM.upd_le hfl _, ?_, e4, ?_⟩
                  · obtain ⟨info, d, z, i1, i2, i3, i4, i5, i6, i7⟩ := he
                    have s4' := s4 w (fun _ _ => rfl)
                    simp [Builtin.append_, run_underlying hu, run_underlying hux, sizeOf, typeInfo, i1, s3, ← i6, s4', hfit, addr_add, Nat.add_assoc, e1]
                  · have := (hf.set (i := j) (x := none)).upd (b := ⟨be.b, be.base + off, some (row - off)⟩) (x := some (.lit (old ++ new) true))
                    simpa using this
                  · have hr := hrow row e3
                    have := SR.slc (β := β.upd m.length ⟨be.b, be.base + off, some (row - off)⟩) m.length 0 (len + n) ei.size _ scap (BM.upd_self ..) hfit (fun q hq => by cases hq; omega)
                    exact .sc _ _ this
                · obtain ⟨cc, e', fr, b1, b2, b3, b4, b5⟩ := hW.sim.br hm hbe
                  obtain ⟨cold, o1, o2⟩ := cells_of (f := fun q => cc[be.base + (off + q)]?) (l := old) (β := β) fun q v hq => b5 (off + q) v (sliceL_get hold hq)
                  have holdl := (sliceL_spec _ _ _ _ hold).1
                  have hcl : cold.length = len * ei.size := by rw [← o1.length, holdl]
                  have h2 : (Builtin.firstCells ei.size len (.slice (some ⟨be.b, be.base + off, none⟩) len scap)).run P w.drew = .ok cold.toArray w.drew := by
                    simp only [Builtin.firstCells]
                    rw [← hcl]
                    refine run_loadCells_list w.drew _ cold fun q v hq => ?_
                    rw [addr_add, Nat.add_assoc, cell_of (w := w.drew) b1]
                    exact o2 q v hq
                  obtain ⟨rest, cap, r1, r2, r3⟩ := append_grows (P := P) (w := w) hu hux he hb hz (base := some ⟨be.b, be.base + off, none⟩) (sLen := len) (sCap := scap) (cold := cold) (by omega) hle s3 h2 (s4 w.drew (fun _ _ => rfl)) hcl s2' ty
                  have hall : ∀ (j : Nat) (v : AV), (old ++ new)[j]? = some v → ∃ cv, (⟨cold ++ cs ++ rest⟩ : Array Value)[j]? = some cv ∧ SR β v cv := by
                    intro j v hj
                    obtain ⟨cv, e1, e2⟩ := (o1.append s1).get hj
                    exact ⟨cv, by simp only [List.getElem?_toArray]; exact getElem?_app e1 rest, e2⟩
                  have hk := hW.drew.kill j
                  have hfl' : β (List.set m j none).length = none := by simpa using hfl
                  have hn := hk.newP hfl' (c := ⟨cold ++ cs ++ rest⟩) (cells := old ++ new) e (by simp [s1.length, o1.length]) hall
                  have hfr := (hf.set (i := j) (x := none)).upd (b := ⟨w.drew.heap.size, 0, some (⟨cold ++ cs ++ rest⟩ : Array Value).size⟩) (x := some (.lit (old ++ new) true))
                  rw [List.length_set] at hn hfr
                  refine ⟨_, _, _, rfl, r1, _, BM.upd_le hfl _, hfr, hn, ?_⟩
                  have := SR.slc (β := β.upd m.length ⟨w.drew.heap.size, 0, some (⟨cold ++ cs ++ rest⟩ : Array Value).size⟩) m.length 0 (len + n) ei.size _ cap (BM.upd_self ..) r2 (fun q hq => by cases hq; simpa using r3)
                  exact .sc _ _ this
              · cases h
            · cases h
          · cases h
  · cases h

theorem minmax_ok {mx : Bool} {x : AV} {xs : List AV} {r : AV} (h : minmaxA mx x xs = some r) {c : Value} {cs : List Value} (hx : VR β x c) (hxs : VRs β xs cs) :
    ∃ v n, (cs.foldlM (if mx then Builtin.max2 else Builtin.min2) c).run P w = .ok v (w.drewN n) ∧ VR β r v := by
  induction xs generalizing x c cs w with
  | nil =>
    simp [minmaxA] at h
    subst h
    cases hxs
    exact ⟨c, 0, rfl, hx⟩
  | cons y ys ih =>
    cases hxs with | cons _ d _ ds hy hys =>
    cases x <;> cases y <;> simp only [minmaxA] at h <;> try (cases h; done)
    rename_i k p k' q
    split at h
    · rename_i hk
      have hk := of_decide_eq_true hk
      subst hk
      cases hx with | sc _ _ hx => cases hx with | flt _ _ a ha ha' =>
      cases hy with | sc _ _ hy => cases hy with | flt _ _ b hb hb' =>
      subst ha hb
      cases mx
      · obtain ⟨r', n, e1, e2⟩ := min2_sound (P := P) w k a b
        obtain ⟨v, n', f1, f2⟩ := ih (w := w.drewN n) h (.sc _ _ (.flt k _ r' (by rw [e2]; rfl) (fltB_fmin ha' hb'))) hys
        refine ⟨v, n + n', ?_, f2⟩
        simp only [List.foldlM_cons, Sem.run_bind, Bool.false_eq_true, if_false, e1, Result.andThen_ok]
        simp only [Bool.false_eq_true, if_false] at f1
        rw [f1, World.drewN_drewN]
      · obtain ⟨r', n, e1, e2⟩ := max2_sound (P := P) w k a b
        obtain ⟨v, n', f1, f2⟩ := ih (w := w.drewN n) h (.sc _ _ (.flt k _ r' (by rw [e2]; rfl) (fltB_fmax ha' hb'))) hys
        refine ⟨v, n + n', ?_, f2⟩
        simp only [List.foldlM_cons, Sem.run_bind, if_true, e1, Result.andThen_ok]
        simp only [if_true] at f1
        rw [f1, World.drewN_drewN]
    · cases h

theorem makeSliceA_ok {t : Nat} {l c : AV} {r : OR} (h : makeSliceA P m t l c = some r) {vl vc : Value} (hl : VR β l vl) (hc : VR β c vc) :
    r.cs = [] ∧ ∃ v w', (Instr.makeSlice t vl vc).run P w = .ok v w' ∧ AfterL β m w r v w' := by
  unfold makeSliceA at h
  split at h
  · rename_i k n k' n'
    cases hl with | sc _ _ hl =>
    cases hl
    cases hc with | sc _ _ hc =>
    cases hc
    split at h
    · rename_i h1 h2
      have h1 := of_decide_eq_true h1
      have h2 := of_decide_eq_true h2
      subst h1
      split at h
      · cases h
      · rename_i ti hti
        have ht := tiOf_ok hti
        split at h
        · rename_i e hk
          have hu := ht.slice hk
          split at h
          · cases h
          · rename_i ei hei
            have he := tiOf_ok hei
            obtain ⟨info, hinfo, hsz, hby⟩ := he.typeInfo w
            obtain ⟨z, hz1, hz2⟩ := he.zero β w
            split at h
            · rename_i hb
              simp only [Bool.and_eq_true, decide_eq_true_eq] at hb
              obtain ⟨hb, hz⟩ := hb
              have hz := Nat.eq_of_beq_eq_true hz
              have hzs := zeros_ok hz2 n ei.size hz (if n * ei.size = 0 then #[] else z.cells) (by split <;> simp_all)
              have hr := newA_eq h
              subst hr
              have hwr : IntKind.i64.wrap (n : Int) = (n : Int) := by
                refine wrap_in .i64 rfl (n : Int) ?_
                simp only [inI, Bool.and_eq_true, decide_eq_true_eq, IntKind.min, IntKind.max, IntKind.signed, IntKind.bits, if_true]
                omega
              have hbn : (n : Int) * ei.bytes ≤ 2 ^ 48 := by
                have : n * ei.bytes ≤ 1048576 * 1048576 := Nat.mul_le_mul h2 hb
                have := Int.ofNat_le.2 this
                rw [Int.natCast_mul] at this
                omega
              have hbn' : ¬ ((ei.bytes : Int) * n > 2 ^ 48) := by rw [Int.mul_comm]; omega
              have hbn'' : ¬ (281474976710656 < (ei.bytes : Int) * n) := by omega
              refine ⟨rfl, .slice (some ⟨w.heap.size, 0, none⟩) n n, w.alloc (.cells ((Array.range (n * ei.size)).map ((if n * ei.size = 0 then #[] else z.cells)[· % (if n * ei.size = 0 then #[] else z.cells).size]!)) e), ?_, _, _, _, rfl, rfl, rfl, hzs, ?_⟩
              · by_cases h0 : n * ei.size = 0
                · simp [Instr.makeSlice, run_underlying hu, asInt, asIntOf, hinfo, hby, hwr, hbn'', he.sizeOf, h0, run_newRow]
                  exact fun hneg => absurd hneg (by omega)
                · simp [Instr.makeSlice, run_underlying hu, asInt, asIntOf, hinfo, hby, hwr, hbn'', he.sizeOf, h0, run_newRow, hz1]
                  exact fun hneg => absurd hneg (by omega)
              · rw [Array.size_map, Array.size_range]
                have := SR.slc (β := β.upd m.length ⟨w.heap.size, 0, some (n * ei.size)⟩) m.length 0 n ei.size _ n (BM.upd_self ..) (Nat.le_refl _) (fun q hq => by cases hq; omega)
                exact .sc _ _ this
            · cases h
        · cases h
    · cases h
  · cases h

theorem at_set_ne {m : Mem} {i j : Nat} {x : Option Blk} (h : i ≠ j) : Mem.at (m.set j x) i = m.at i := by
  rw [at_eq, at_eq, List.getElem?_set_ne (Ne.symm h)]

theorem at_set_self {m : Mem} {i : Nat} {x : Option Blk} (h : i < m.length) : Mem.at (m.set i x) i = x := by
  rw [at_eq, List.getElem?_set_self h]; rfl

theorem sliceL_some {α : Type} : ∀ (l : List α) (o n : Nat), o + n ≤ l.length → ∃ x, sliceL l o n = some x
  | [], o, n, h => by
    simp at h
    obtain ⟨rfl, rfl⟩ := h
    exact ⟨[], rfl⟩
  | a :: r, 0, 0, _ => ⟨[], rfl⟩
  | a :: r, 0, n + 1, h => by
    obtain ⟨x, hx⟩ := sliceL_some r 0 n (by simp at h ⊢; omega)
    exact ⟨a :: x, by simp [sliceL, hx]⟩
  | a :: r, o + 1, n, h => by
    obtain ⟨x, hx⟩ := sliceL_some r o n (by simp at h ⊢; omega)
    exact ⟨x, by cases n <;> simpa [sliceL] using hx⟩

theorem appendS_ok (hW : WS S w₀ β m w) {ts tx j off len es : Nat} {x : AV} {r : OR} (hf0 : r.m ≠ none → Fresh β m) (h : appendS P m ts tx j off len es x = some r) (hcs : ∀ b ∈ r.cs, b = true) {c cx : Value} (hs : VR β (.sslc j off len es) c) (hx : VR β x cx) (ty : TypeId) :
    r.nw = none ∧ ∃ v w' m', r.m = some m' ∧ (Builtin.append_ #[ts, tx] ty #[c, cx]).run P w = .ok v w' ∧ AfterW S w₀ β m' r.v v w' := by
  unfold appendS at h
  split at h
  · rename_i e u hu hux
    split at h
    · cases h
    · rename_i ei hei
      split at h
      · cases h
      · rename_i hb
        simp only [Bool.and_eq_true] at hb
        obtain ⟨⟨hb, hz⟩, hes⟩ := hb
        have hes' := Nat.eq_of_beq_eq_true hes
        subst hes'
        split at h
        · cases h
        · rename_i new n hsrc
          split at h
          · rename_i n' k y hm
            split at h
            · rename_i hks
              simp only [setK_eq, appendK_eq, Option.some.injEq] at h
              subst h
              have hc1 : off + len * ei.size ≤ n' := of_decide_eq_true (hcs _ (List.mem_cons_self ..))
              have hc2 : len + n ≤ 16777216 := of_decide_eq_true (hcs _ (List.mem_cons_of_mem _ (List.mem_cons_self ..)))
              have hf := hf0 (by simp)
              have hlt := at_lt hm
              have h1 := hW.recell (bk' := .lit (symL k y 0 0 n') true) hm (fun _ => rfl) fun be _ hbr => hbr.toLit
              obtain ⟨old, hold⟩ := sliceL_some (symL k y 0 0 n') off (len * ei.size) (by rw [symL_length]; exact hc1)
              have hsrc1 : srcA (m.set j (some (.lit (symL k y 0 0 n') true))) ei.size x = some (new, n) := by
                unfold srcA at hsrc ⊢
                split at hsrc
                · exact hsrc
                · rename_i j' off' n'' es'
                  by_cases hj : j' = j
                  · subst hj
                    rw [hm] at hsrc
                    cases hsrc
                  · rw [at_set_ne hj]
                    exact hsrc
                · cases hsrc
              obtain ⟨cs, s1, s2, _, _⟩ := src_ok (P := P) hW hx hsrc
              have hA : appendA P (m.set j (some (.lit (symL k y 0 0 n') true))) ts tx (.slc j off len ei.size) x = some { v := .slc m.length 0 (len + n) ei.size, m := some (m.set j none ++ [some (.lit (old ++ new) true)]) } := by
                unfold appendA
                simp only [hu, hux, hei, hb, hz, Bool.and_self, hsrc1, at_set_self hlt, hold, hc2, decide_true, hes, appendK_eq, setK_eq, List.set_set, List.length_set]
              have hs1 : VR β (.slc j off len ei.size) c := by
                cases hs with | sc _ _ hs => cases hs with | sslc _ _ _ _ be cap q1 q2 q3 => exact .sc _ _ (.slc _ _ _ _ be cap q1 q2 q3)
              obtain ⟨_, _, g⟩ := appendA_ok (P := P) h1 (fun _ => hf.set) hA hs1 hx ty
              rcases g with ⟨g, _, _⟩ | ⟨v, w', m', g1, g2, β', b1, b2, b3, b4⟩
              · cases g
              · cases g1
                refine ⟨rfl, v, w', _, rfl, g2, β', b1, fun i hi => b2 i (by simp at hi ⊢; omega), ?_, ?_⟩
                · have hat : Mem.at (m.set j none ++ [some (.lit (old ++ new) true)]) m.length = some (.lit (old ++ new) true) := by
                    rw [at_eq, List.getElem?_append_right (by simp)]
                    simp
                  have hol := sliceL_spec _ _ _ _ hold
                  have g3 := b3.recell (bk' := .sym ((len + n) * ei.size) k (pushV y off (len * ei.size) new) true) hat (fun _ => rfl) fun be' _ hbr => ?_
                  · have e : (m.set j none ++ [some (Blk.lit (old ++ new) true)]).set m.length (some (Blk.sym ((len + n) * ei.size) k (pushV y off (len * ei.size) new) true)) = m.set j none ++ [some (Blk.sym ((len + n) * ei.size) k (pushV y off (len * ei.size) new) true)] := by
                      rw [List.set_append_right _ _ (by simp)]
                      simp
                    rwa [e] at g3
                  · obtain ⟨cc, e', fr, k1, k2, k3, k4, k5⟩ := hbr
                    have hlen : (old ++ new).length = (len + n) * ei.size := by rw [List.length_append, hol.1, s2, Nat.add_mul]
                    simp only [Blk.len, hlen] at k3 k4
                    refine ⟨cc, e', fr, k1, k2, k3, k4, fun q hq => ?_⟩
                    obtain ⟨u', hu'⟩ : ∃ u', (old ++ new)[q]? = some u' := ⟨_, List.getElem?_eq_getElem (by rw [hlen]; exact hq)⟩
                    obtain ⟨cv, a, b⟩ := k5 q u' hu'
                    refine ⟨cv, a, ?_⟩
                    by_cases hlt' : q < len * ei.size
                    · rw [List.getElem?_append_left (by rw [hol.1]; exact hlt'), hol.2 q hlt', symL_get, if_pos (by omega)] at hu'
                      cases hu'
                      have hr : Nat.blt q (len * ei.size) = true := by simpa [Nat.blt_eq] using hlt'
                      exact mkK_flds y _ k b _ _ (by simp [pushV, hr]) (by simp [pushV, hr]) (by simp [pushV, hr]) (by simp [pushV, hr])
                    · rw [List.getElem?_append_right (by rw [hol.1]; omega), hol.1] at hu'
                      have hr : Nat.blt q (len * ei.size) = false := by
                        cases hq' : Nat.blt q (len * ei.size) with
                        | false => rfl
                        | true => exact absurd (by simpa [Nat.blt_eq] using hq') hlt'
                      have hl := leafN_get hu'
                      exact isK_mk (isKs_get hks hu') b _ _ (by simp [pushV, hr, hl]) (by simp [pushV, hr, hl]) (by simp [pushV, hr, hl]) (by simp [pushV, hr, hl])
                · cases b4 with | sc _ _ b4 => cases b4 with | slc _ _ _ _ be cap q1 q2 q3 => exact .sc _ _ (.sslc _ _ _ _ be cap q1 q2 q3)
            · cases h
          · cases h
  · cases h

theorem isZs_get : ∀ {l : List AV}, isZs l = true → ∀ {j : Nat} {v : AV}, l[j]? = some v → isZ v = true
  | [], _, j, v, h => by simp at h
  | u :: r, hl, j, v, h => by
    simp only [isZs] at hl
    split at hl
    · rename_i hk
      cases j with
      | zero => simp at h; subst h; exact hk
      | succ j => exact isZs_get hl (by simpa using h)
    · cases hl

theorem isZ_flds {v : AV} (h : isZ v = true) : fltOf v = 0 ∧ intOf v = 0 ∧ boolOf v = false ∧ strOf v = .empty := by
  unfold isZ at h
  split at h <;> first | exact ⟨rfl, rfl, rfl, rfl⟩ | cases h

theorem isKs_of_get {k : Kd} : ∀ {l : List AV}, (∀ (j : Nat) (v : AV), l[j]? = some v → isK k v = true) → isKs k l = true
  | [], _ => rfl
  | u :: r, h => by simp only [isKs, h 0 u (by simp), isKs_of_get (l := r) fun j v hj => h (j + 1) v (by simpa using hj)]

theorem makeS_ok (hW : WS S w₀ β m w) {t : Nat} {z z' : Int} {k k' : IntKind} {r : OR} (hf0 : r.m ≠ none → Fresh β m) (h : makeS P m t z z' = some r) (hcs : ∀ b ∈ r.cs, b = true) {vl vc : Value} (hl : VR β (.sint k z) vl) (hc : VR β (.sint k' z') vc) :
    r.nw = none ∧ ∃ v w' m', r.m = some m' ∧ (Instr.makeSlice t vl vc).run P w = .ok v w' ∧ AfterW S w₀ β m' r.v v w' := by
  unfold makeS at h
  split at h
  · cases h
  · rename_i ti hti
    split at h
    · rename_i e hk
      split at h
      · cases h
      · rename_i ei hei
        split at h
        · rename_i kd hb hzk
          simp only [appendK_eq, Option.some.injEq] at h
          subst h
          have c1 : z = z' := of_decide_eq_true (hcs _ (List.mem_cons_self ..))
          have c2 : 0 ≤ z := of_decide_eq_true (hcs _ (List.mem_cons_of_mem _ (List.mem_cons_self ..)))
          have c3 : z ≤ 1048576 := of_decide_eq_true (hcs _ (List.mem_cons_of_mem _ (List.mem_cons_of_mem _ (List.mem_cons_self ..))))
          subst c1
          have hf := hf0 (by simp)
          obtain ⟨n, rfl⟩ : ∃ n : Nat, z = Int.ofNat n := ⟨z.toNat, by simp only [Int.ofNat_eq_natCast]; omega⟩
          have c3' : n ≤ 1048576 := by simp only [Int.ofNat_eq_natCast] at c3; omega
          have hl1 : VR β (.int k (.ofNat n)) vl := by
            cases hl with | sc _ _ hl => cases hl with | sint _ _ q => exact .sc _ _ (.int _ _ q)
          have hc1 : VR β (.int k' (.ofNat n)) vc := by
            cases hc with | sc _ _ hc => cases hc with | sint _ _ q => exact .sc _ _ (.int _ _ q)
          have hM : makeSliceA P m t (.int k (.ofNat n)) (.int k' (.ofNat n)) = some { v := .slc m.length 0 n ei.size, nw := some (.lit (repL n ei.zero) true) } := by
            unfold makeSliceA
            simp only [decide_true, c3', hti, hk, hei, hb, newA, forceK_eq]
          obtain ⟨_, v, w', g1, cells, cc, e', g2, _, g3, g4, g5⟩ := makeSliceA_ok (P := P) (w := w) (m := m) hM hl1 hc1
          cases g2
          have hfl := hf m.length (Nat.le_refl _)
          have hn := hW.new hfl e' g4
          subst g3
          refine ⟨rfl, v, _, _, rfl, g1, _, BM.upd_le hfl ⟨w.heap.size, 0, some cc.size⟩, hf.upd, ?_, ?_⟩
          · have hat : Mem.at (m ++ [some (.lit (repL n ei.zero) true)]) m.length = some (.lit (repL n ei.zero) true) := by
              rw [at_eq, List.getElem?_append_right (Nat.le_refl _)]
              simp
            have hzz : ∀ {l : List AV}, zeroK l = some kd → isKs kd l = true ∧ isZs l = true := by
              intro l hzk
              cases l with
              | nil => cases hzk
              | cons v0 r0 =>
                simp only [zeroK] at hzk
                split at hzk
                · split at hzk
                  · rename_i hq
                    cases hzk
                    simpa only [Bool.and_eq_true] using hq
                  · cases hzk
                · cases hzk
            have hzz := hzz hzk
            simp only [Bool.and_eq_true] at hb
            have hzl := Nat.eq_of_beq_eq_true hb.2
            have hall : ∀ (j : Nat) (v : AV), (repL n ei.zero)[j]? = some v → isK kd v = true ∧ isZ v = true := by
              intro j v hj
              have hjl : j < n * ei.zero.length := by
                have := (List.getElem?_eq_some_iff.1 hj).1
                rwa [repL_len] at this
              rw [repL_at _ _ _ hjl] at hj
              exact ⟨isKs_get hzz.1 hj, isZs_get hzz.2 hj⟩
            have g3 := hn.recell (bk' := .sym (n * ei.size) kd zeroV true) hat (fun _ => rfl) fun be' _ hbr => hbr.toSym (by rw [repL_len, hzl]) (isKs_of_get fun j v hj => (hall j v hj).1) fun j v hj => by
              obtain ⟨q1, q2, q3, q4⟩ := isZ_flds (hall j v hj).2
              exact ⟨q1.symm, q2.symm, q3.symm, q4.symm⟩
            have e2 : (m ++ [some (Blk.lit (repL n ei.zero) true)]).set m.length (some (Blk.sym (n * ei.size) kd zeroV true)) = m ++ [some (Blk.sym (n * ei.size) kd zeroV true)] := by
              rw [List.set_append_right _ _ (Nat.le_refl _)]
              simp
            rwa [e2] at g3
          · cases g5 with | sc _ _ g5 => cases g5 with | slc _ _ _ _ be cap q1 q2 q3 => exact .sc _ _ (.sslc _ _ _ _ be cap q1 q2 q3)
        · cases h
    · cases h

end
end Go.Sim

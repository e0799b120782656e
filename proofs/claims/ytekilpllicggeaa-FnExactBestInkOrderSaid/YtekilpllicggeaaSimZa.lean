/-
  The lifting of an evaluation to the row: of each input its own table of summaries, with summaries of the law's loops.
-/
import Derived.Test.YtekilpllicggeaaSimZ

namespace Go.Sim

section
variable {P : Program} {G : Summ}

/-- A summary of a function that looks at frames alone, and hands no address back. -/
def sumQ (Fi : Frm) (RS : List Sh) (pre : SV → List Bool) (R : SV → Vars) (xs : List AV) (M : Mem) : Option CR :=
  matchS Fi 0 xs M fun s _ => some { v := mkR (R s) RS, cs := pre s }

theorem mkBs_ro (s : SV) : ∀ {bs : List BSh} {b j q i : Nat} {bk : Blk}, (bs.all fun b => !b.rw) = true → Mem.at (mkBs s b j q bs) i = some bk → bk.rw = false
  | [], _, _, _, _, _, _, h => by simp [mkBs, Mem.at] at h
  | .lit shs rw :: r, b, j, q, i, bk, ha, h => by
    simp only [List.all_cons, Bool.and_eq_true] at ha
    cases i with
    | zero => simp only [mkBs, Mem.at, Option.some.injEq] at h; subst h; simpa [BSh.rw, Blk.rw] using ha.1
    | succ i => simp only [mkBs, Mem.at] at h; exact mkBs_ro s ha.2 h
  | .sym k rw :: r, b, j, q, i, bk, ha, h => by
    simp only [List.all_cons, Bool.and_eq_true] at ha
    cases i with
    | zero => simp only [mkBs, Mem.at, Option.some.injEq] at h; subst h; simpa [BSh.rw, Blk.rw] using ha.1
    | succ i => simp only [mkBs, Mem.at] at h; exact mkBs_ro s ha.2 h

theorem SoundG.sumQ {G' : Summ} (hG : SoundG P G) (hm : P.follows .mixedOrders = true) {f : Nat} (hc : Entered P f) (hG' : SoundG P G') {Fi : Frm} {RS : List Sh} {pre : SV → List Bool} {R : SV → Vars} (hro : (Fi.blks.all fun b => !b.rw) = true)
    (h : ∀ s, (∀ b ∈ pre s, b = true) → ∃ H J n D v cs, HFun P Fi.blks.length H f ∧ funH P G' H J n f (mkVs s 0 0 Fi.vals) (mkM Fi s) D = some (v, cs) ∧ normR v = mkR (R s) RS ∧ untupR v = true ∧ v.flat = true ∧ ∀ b ∈ cs, b = true) :
    SoundG P (addG f (Sim.sumQ Fi RS pre R) G) := by
  refine hG.add fun xs M r hr hcs S w₀ β w cargs hW _ hv => ?_
  unfold Sim.sumQ at hr
  obtain ⟨s, sel, hr, hmt⟩ := matchS_ok hr
  cases hr
  obtain ⟨H, J, n, D, v, cs, h0, h1, h2, h3, h4, h5⟩ := h s hcs
  have hAl : (mkM Fi s).length = Fi.blks.length := mkBs_length ..
  have hq := quiet_callH hG' hm hc (mm := mkM Fi s) ⟨n, D, cs, H, J, by rw [hAl]; exact h0, h1, h5⟩ h4 (fun i bk hi => mkBs_ro s hro hi) (β := β.sel sel) (fun i bk hi => (hmt.ws hW).sim.blk i bk hi) hmt.fresh (hmt.vals β cargs hv) β
  unfold CallOk
  simp only
  rcases hq with ⟨g, q1, q2⟩ | ⟨u, w', q1, q2, q3⟩
  · refine .inl ⟨g, q1, q2.mono fun e w' ⟨u, he, k1, k2⟩ => ⟨u, he, k1, ?_⟩⟩
    have := normR_ok k2 h3
    rw [h2] at this
    exact this
  · refine .inr ⟨u, w', q1, q2, ?_⟩
    have := normR_ok q3 h3
    rw [h2] at this
    exact this

end

theorem law_callH {P : Program} {G : Summ} (hG : SoundG P G) (hm : P.follows .mixedOrders = true) {f n : Nat} {H : LTab} {J : Bool} (hH : HFun P 0 H f) {xs : List AV} {D cs : List Bool} {v : AV} (h : funH P G H J n f xs [] D = some (v, cs)) (hb : v = .sbool true ∨ v = .bool true) (hcs : ∀ b ∈ cs, b = true)
    {W : World} {cargs : List Value} (hx : VRs (fun _ => none) xs cargs) : Calls P f ⟨cargs⟩ W fun e W' => e = .returned (.bool true) ∧ Qt W W' := by
  have hW : WS (fun _ => False) W (fun _ => none) [] W :=
    ⟨⟨fun i bk hi => by simp [Mem.at] at hi, fun i j bi bj ei ej hi => by simp [Mem.at] at hi⟩, Fr.refl _ W, fun i bk be hi => by simp [Mem.at] at hi⟩
  refine (funH_ok (m := []) hG hm hH h hcs hW (fun _ _ => rfl) hx).mono fun e W' he => ?_
  obtain ⟨c, e1, b3, β', b1, b4⟩ := he
  refine ⟨?_, ⟨b3.os, b3.tape, b3.output, b3.size, fun k hk => b3.block k hk (fun hn => hn)⟩⟩
  rcases hb with rfl | rfl
  · cases b4 with | sc _ _ b4 =>
    cases b4
    exact e1
  · cases b4 with | sc _ _ b4 =>
    cases b4
    exact e1

theorem law_row2 {C : Checked} {os : Os} {H : Type} {enc : TypeId × Value → H} {f : FuncId} {fn : Func} {s : ChangeSpec} {conds : List PathCond} {apart fresh handsOn again : Bool} {tb : TypeId} {KS : List Sh}
    (own : ownKnob C.prog.godebug = none) (started : os.Started) (noInit : C.prog.inits.idxOf? f = none) (hfn : C.prog.funcs[f]? = some fn)
    (hl : laidOutB C.prog = true) (hp : (fn.params.toList.all fun t => C.prog.readableRec t && decide (t < C.prog.types.size)) = true) (hv : s.vars = []) (hr : fn.resultTypes = #[tb]) (hb : C.prog.underlying tb = some .bool)
    (hs : ∀ ds : List (DataW H), ds.length = fn.params.toList.length → s.fn H ds = { results := [.lit (.bool true)], args := ds })
    (witness : ∃ (w : World) (tape : Tape) (i : Input), w.os = os ∧ (w.forCall tape i).Shaped C.prog ∧ i.vars = [] ∧ Input.okWide C.prog (w.forCall tape i) .any w.heap.size f i ∧
      s.pre6 enc C.prog fn conds apart (w.forCall tape i).memory i.args ∧ ({} : Assume).holds C.prog (lone (Frame.enter C.prog f i.args .normal) [] (w.forCall tape i)))
    (hm : C.prog.follows .mixedOrders = true) (hsh : shsOf C.prog fn.params.toList = some KS)
    (hev : ∀ x, AllSh KS (mkAs x 0 KS) → ∃ G n H J D cs v, SoundG C.prog G ∧ HFun C.prog 0 H f ∧ funH C.prog G H J n f (mkAs x 0 KS) [] D = some (v, cs) ∧ (v = .sbool true ∨ v = .bool true) ∧ ∀ b ∈ cs, b = true) :
    ReturnsInHanded {} C os f .any (s.pre6 enc C.prog fn conds apart) (s.post enc C.prog fn apart fresh handsOn again) := by
  refine law_lift own started noInit hfn hl hp hv hr hb hs witness fun W base args ds before hval hA => ?_
  obtain ⟨xs, h1, h2⟩ := open_shs (P := C.prog) (w := W) (r := .any) (base := base) (vs := args.toList) hsh (trodAll_length hA) fun j t v hj hv => hval j t v (by simpa using hj) (by simpa using hv)
  obtain ⟨e1, e2⟩ := isShs_of h2
  obtain ⟨e3, _, _⟩ := isShs_norm e1 (inV xs) 0 fun q => by rw [Nat.zero_add]; exact ⟨rfl, rfl, rfl, rfl⟩
  rw [e2] at e3
  rw [e3] at h1 h2
  obtain ⟨G, n, H, J, D, cs, v, hG, hH, h3, h4, h5⟩ := hev _ h2
  exact law_callH hG hm hH h3 h4 h5 h1

end Go.Sim

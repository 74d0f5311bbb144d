/- What a Go function does, reckoned in plain data, and that it does so: part 7. -/
import Derived.ProofKit
import Derived.Deep.Slices
import Derived.SizedLaws
import Derived.Test.YtojciiiilfmjgaaDoorEv6
set_option linter.all false
/- What such a function does. -/
namespace Go.Ev

theorem list_value2 {P : Program} {ops : Array Oper} {Q : Exit → Act → World → Prop} {o : Oper} {rest : List Oper} {a : Act} {w w' : World} {v : Value} (hr : (execOp a.eval o).run P w = .ok (.value v) w') (hg : o.guard = none) (hK : wpList P ops Q rest (a.put o.dst v) w') : wpList P ops Q (o :: rest) a w := by
  unfold wpList
  rw [if_pos (by simp [Region.wanted, hg])]
  left
  unfold Oper.wp
  rw [hr, Oper.upon_value]
  exact hK

/-- A function that hands on what a struct owns. -/
structure AggFn (τ : List TE) (Sg : Nat → Option Sig) (fn : Func) (c : Code) (sg : Sig) where
  {i : Nat}
  {o0 o1 : Oper}
  {rest : Code}
  {ty tk b k : Nat}
  {ms : List M}
  {cv : Value}
  {ek : TE}
  hc : c = .seq (.region i #[o0, o1] false) rest
  p0 : o0.op = .box ty (.tmp 0) ∧ o0.dst = some b ∧ o0.guard = none
  p1 : o1.op = .assign (.const cv) ∧ o1.dst = some k ∧ o1.guard = none
  cvs : ∃ kk n, cv = .int kk n
  ma : MA τ Sg fn.ntmps b ms k rest
  hres : fn.results = #[.tmp k]
  hsg : sg = { pms := [.magg b ms, .rd], tys := [ty, tk], res := [.c (.view []) .no] }
  hek : TE.find τ tk = some ek ∧ ek.agg = false ∧ ek.zero.all ZC.flat = true
  hp : (provL ms).any List.isEmpty = true
  ne : (decide (1 < fn.ntmps) && decide (b < fn.ntmps) && decide (k < fn.ntmps) && decide (b ≠ 0) && decide (b ≠ 1) && decide (k ≠ 1) && decide (k ≠ b)) = true

theorem does_agg {V : Env} {E : Prog} {Sg : Nat → Option Sig} (hτ : E.τ = V.τ) {kf f : Nat} {sg : Sig} {fn : Func} {c : Code} (hpk : E.pks f = some (sg.pms.map PM.pk)) (h1 : V.P.funcs[f]? = some fn) (h2 : fn.body = some c)
    (hp : E.prims f = none) (hfn : E.funcs f = some fn) (s : AggFn V.τ Sg fn c sg) (ih : ∀ f sg, Sg f = some sg → E.pks f = some (sg.pms.map PM.pk) ∧ Does V f sg (evF E kf f)) {smi smo : SM} {n : Nat} (hm : ioOk sg = some (smi, smo, n)) :
    DoesP V f sg smi smo n (evF E (kf + 1) f) := by
  obtain ⟨hc, p0, p1, cvs, ma, hres, hsg, hek, hpe, ne⟩ := s
  rename_i i o0 o1 rest ty tk b k ms cv ek
  subst hsg
  subst hc
  obtain ⟨hq, _, _, _, hprov, hn0⟩ := ioOk_agg rfl hm
  simp only [Prod.mk.injEq] at hq
  obtain ⟨rfl, rfl, rfl⟩ := hq
  simp only [Bool.and_eq_true, decide_eq_true_eq] at ne
  intro w N0 G PA vals xs hT hvl hxl hG hPA hN hNi hNk hargs x0 v0 hx0 hv0 hcl0 rs outs hF
  simp only [evF, hp, hfn, hpk, h2] at hF
  rw [if_pos (by rw [List.length_map]; exact hxl)] at hF
  rw [hτ] at hF
  obtain ⟨ds, o9, vs, rfl, rfl, hvs, hml, hkids, hog⟩ := hcl0
  simp only [AOgOk] at hog
  subst hog
  -- the arguments
  obtain ⟨x1, rfl⟩ : ∃ x1, xs = [.agg ds none, x1] := by
    match xs, hxl with
    | [y0, y1], _ => simp only [List.getElem?_cons_zero, Option.some.injEq] at hx0; subst hx0; exact ⟨y1, rfl⟩
  obtain ⟨kv, rfl⟩ : ∃ kv, vals = [.agg vs, kv] := by
    match vals, hvl with
    | [y0, y1], _ => simp only [List.getElem?_cons_zero, Option.some.injEq] at hv0; subst hv0; exact ⟨y1, rfl⟩
  have harg := hargs 0 x1 kv .rd tk rfl rfl rfl rfl
  obtain ⟨ek', hek', hcase⟩ := harg
  have heq : ek' = ek := by
    have := hek.1
    unfold Env.get at hek'
    rw [hek'] at this
    exact Option.some.inj this
  subst heq
  obtain ⟨d1, rfl, hfit1, hrd1⟩ : ∃ d1, x1 = .d d1 none ∧ fits ek'.zero [d1] = true ∧ Rd w (PM.okOf .rd G (PA (0 + 1))) d1 kv := by
    rcases hcase with ⟨_, d, hx, hf, hr⟩ | ⟨hag, _⟩
    · exact ⟨d, hx, hf, hr⟩
    · rw [hek.2.1] at hag; cases hag
  obtain ⟨xv, rfl, hxs⟩ : ∃ x, d1 = .v x ∧ x.scalar = true := by
    have hl := fits_len hfit1
    match hz : ek'.zero, hl with
    | [z], _ =>
      have h9 := hek.2.2
      rw [hz] at h9 hfit1
      simp only [List.all_cons, List.all_nil, Bool.and_true] at h9
      exact fit_flat (fits_at hfit1 (j := 0) rfl rfl) h9
  have hkv : kv = xv := by cases hrd1; rfl
  subst hkv
  -- how it is reckoned
  have hends : ∃ e φ', evC V.τ E.pks (evF E kf) kf (.seq (.region i #[o0, o1] false) rest) (args0 [.agg ds none, .d (.v kv) none]) = some (e, φ') ∧ (e = .normal ∨ e = .ret) ∧ resesX V.τ φ' fn.results.toList = some rs ∧ outsX φ' 0 [.magg b, .val] = some outs := by
    split at hF
    · cases hF
    · rename_i e φ' hne heq
      split at hF
      · rename_i rs' os' q1 q2
        cases hF
        refine ⟨e, φ', heq, ?_, q1, q2⟩
        cases e with
        | normal => exact .inl rfl
        | ret => exact .inr rfl
        | exit id => exact (hne id rfl).elim
      · cases hF
    · cases hF
  obtain ⟨e, φ', hev, hee, hrs, houts⟩ := hends
  let φ0 : Fr := args0 [.agg ds none, .d (.v kv) none]
  let φ2 : Fr := upd (upd φ0 b (.box ds)) k (.d (.v cv) none)
  have hev2 : evC V.τ E.pks (evF E kf) kf rest φ2 = some (e, φ') := by
    simp only [evC, Bool.false_eq_true, if_false, evOps, p0.2.2, p1.2.2] at hev
    have e1 : ∀ φ9, evOp V.τ E.pks (evF E kf) o0 φ0 = some φ9 → φ9 = upd φ0 b (.box ds) := by
      intro φ9 h9
      unfold evOp at h9
      rw [p0.1] at h9
      have h00 : φ0 0 = .agg ds none := rfl
      simp only [pureX, opX, h00, cpX, X.cells, p0.2.1, putRes] at h9
      split at h9
      · rename_i x hx
        split at hx
        · rename_i cs he hcs
          split at hx
          · rename_i hf
            cases hx
            cases hcs
            exact (Option.some.inj h9).symm
          · cases hx
        · cases hx
      · cases h9
    have e2 : evOp V.τ E.pks (evF E kf) o1 (upd φ0 b (.box ds)) = some φ2 := by
      unfold evOp
      rw [p1.1]
      obtain ⟨kk, nn, rfl⟩ := cvs
      simp only [pureX, opX, Value.scalar, if_true, ownX, p1.2.1, putRes]
      rfl
    cases h9 : evOp V.τ E.pks (evF E kf) o0 φ0 with
    | none => rw [show evOp V.τ E.pks (evF E kf) o0 (args0 [.agg ds none, .d (.v kv) none]) = evOp V.τ E.pks (evF E kf) o0 φ0 from rfl, h9] at hev; cases hev
    | some φ9 =>
      rw [show evOp V.τ E.pks (evF E kf) o0 (args0 [.agg ds none, .d (.v kv) none]) = evOp V.τ E.pks (evF E kf) o0 φ0 from rfl, h9] at hev
      have := e1 φ9 h9
      subst this
      simp only [e2, Option.map_some] at hev
      exact hev
  -- the walk
  refine calls_of_wp h1 h2 ?_
  let A : Start := ⟨w, fun b => N0 b ≠ none, G, PA, [], none, []⟩
  let C0 : Cx := ⟨N0, G, PA⟩
  let w1 : World := w.alloc (.cells vs ty)
  have hheap : w1.heap = w.heap.push (.cells vs ty) := rfl
  have hext : Ext w w1 := alloc_ext
  have hsz : ((([Value.agg vs, kv].toArray) ++ Array.replicate (fn.ntmps - ([Value.agg vs, kv].toArray).size) undef)).size = fn.ntmps := by
    simp
    omega
  generalize ha : (([Value.agg vs, kv].toArray) ++ Array.replicate (fn.ntmps - ([Value.agg vs, kv].toArray).size) undef) = tmps at hsz
  have ht0 : tmps.getD 0 undef = .agg vs := by rw [← ha]; simp [Array.getD]
  have ht1 : tmps.getD 1 undef = kv := by
    rw [← ha]
    simp [Array.getD]
    intro h9
    omega
  have hNlt : ∀ bb o, N0 bb = some o → bb < w.heap.size := fun bb o h => (hN bb o h).1
  have hat : AggAt A PA ms vs w.heap.size w1 C0 ds := by
    refine ⟨?_, ?_, hml, fun bb o h => (hN bb o h).2.2.2, rfl, ?_, ⟨ty, (0, 0), by rw [hheap]; simp⟩, by rw [hheap]; simp, by omega⟩
    · refine ⟨fun s => .inl rfl, hNi, ?_, ?_, ?_, ?_, fun bb hb _ => hext.same bb hb, hext.size, hext.calm, by simp [A], ?_⟩
      · intro bb o hb
        obtain ⟨g1, g2, g3, _⟩ := hN bb o hb
        exact ⟨Nat.lt_of_lt_of_le g1 hext.size, g2, g3, .inl (by show N0 bb ≠ none; rw [show N0 bb = some o from hb]; simp)⟩
      · intro bb hb
        exact ⟨Nat.lt_of_lt_of_le (hG bb hb) hext.size, .inl hb⟩
      · intro bb hb
        refine ⟨hb, hG bb hb, ?_⟩
        intro hn
        cases hq : N0 bb with
        | none => exact hn hq
        | some o => exact (hN bb o hq).2.1 hb
      · intro i bb hb
        refine ⟨hPA i bb hb, ?_, hb⟩
        intro hn
        cases hq : N0 bb with
        | none => exact hn hq
        | some o => exact (hN bb o hq).2.2.1 i hb
      · intro bb o hb
        obtain ⟨arr, ty1, q1, q2⟩ := hNk bb o hb
        exact ⟨arr, ty1, by rw [hext.same bb (hNlt bb o hb)]; exact q1, q2⟩
    · intro i j row d m q1 q2 q3
      have hr := hkids i j row d m q1 q2 q3
      have hm1 : m.prov = some [] := by
        obtain ⟨rs1, g1, g2⟩ := provL_mem hprov q3
        cases rs1 with
        | nil => exact g1
        | cons x xs => exact absurd (g2 x (by simp)) (by simp)
      have := hr.move (w' := w1) (C' := C0) ((⟨0, []⟩ : Pl).cell i j) nilF (fun bb q off' c z9 hb => ⟨hb, hext.same bb (hNlt bb _ hb)⟩) ?_
      · rwa [map_prov nilF rfl _ hm1] at this
      · intro ps ps' hf bb hb
        obtain ⟨rfl, rfl⟩ := nilF_some hf
        have hg : G bb := by
          rcases hb with hb | ⟨_, hp, _⟩
          · exact hb
          · simp at hp
        exact ⟨.inl hg, hext.same bb (hG bb hg)⟩
    · show N0 w.heap.size = none
      cases hq : N0 w.heap.size with
      | none => rfl
      | some o => have := hNlt _ o hq; omega
  have hb2 : φ2 b = .box ds := by
    simp only [φ2, upd]
    rw [if_neg (by omega)]
    simp
  have h12 : φ2 1 = .d (.v kv) none := by
    simp only [φ2, upd]
    rw [if_neg (by omega), if_neg (by omega)]
    rfl
  refine wp_seq (wp_region_list (list_value2 (v := .pointer (some ⟨w.heap.size, 0, none⟩)) (w' := w1) ?_ p0.2.2 (list_value (v := cv) ?_ p1.2.2 ?_)))
  · simp only [execOp, p0.1, Act.eval, ht0]
    refine exec_value ?_
    simp [Instr.box, newVar_run, w1, Value.cells]
  · simp only [execOp, p1.1, Act.eval]
    rfl
  show Exit.then _ _ .normal _ _
  refine agg_body (A := A) rfl hprov (fun f' sg' hf' => ⟨(ih f' sg' hf').1, (ih f' sg' hf').2.mono fun _ _ => tab_abv hT⟩) (Q := bodyPost V.P fn _) (e := e) (φ' := φ') ?_ ma _ w1 C0 ds (.v kv) kv φ2 hat ?_ ?_ ?_ ?_ hb2 h12 (.v hxs) hev2
  · intro a' w' C' ds' d' v' hat' hdf' hb' hk' hv' hrd' he
    rw [hres] at hrs
    have hrs' : rs = [.d d' none] := by
      simp only [resesX, resX, hk'] at hrs
      exact (Option.some.inj hrs).symm
    have houts' : outs = [.agg ds' none, .u] := by
      simp only [outsX, outX, hb'] at houts
      exact (Option.some.inj houts).symm
    subst hrs'
    subst houts'
    have hst := hat'.st
    refine ⟨hdf', v', ?_, [v'], .agg ds' none, C', rfl, rfl, ?_⟩
    · refine results_run (vs := [v']) ?_
      rw [hres]
      show (List.mapM (resRun a'.tmps) [ResultVar.tmp k]).run V.P w' = _
      simp [resRun, hv']
    · refine ⟨hst.size, fun bb hb hn => hst.old bb hb (fun h => h hn), hst.calm, (fun bb off e => by cases e), ?_, hst.inj, ?_, fun bb hb => (hst.ag bb hb).1, hat'.pa, hst.oko, rfl, rfl, ?_, ?_⟩
      · intro bb o ho
        obtain ⟨g1, g2, _, g4⟩ := hst.own bb o ho
        exact ⟨g4, g1, g2, by rw [hat'.zero bb o ho]; simp⟩
      · intro bb hb
        obtain ⟨g1, g2⟩ := hst.frz bb hb
        rcases g2 with g2 | g2 | g2
        · exact .inl g2
        · exact .inr ⟨.inl g2, g1⟩
        · exact .inr ⟨.inr g2, g1⟩
      · intro j r v sm q1 q2 q3
        cases j with
        | succ j => simp at q1
        | zero =>
          simp only [List.getElem?_cons_zero, Option.some.injEq] at q1 q2 q3
          subst q1; subst q2; subst q3
          exact ⟨d', none, rfl, .view (hrd'.mono fun bb hb => ⟨.inl hb, rfl⟩), fun _ => rfl⟩
      · exact ⟨ds', none, vs, rfl, rfl, by rw [hat'.vsz, hat'.len], hat'.len, hat'.kids, rfl⟩
  · simp only [put_size]; exact hsz
  · simp only [put_defers]
  · rw [p1.2.1, put_getD _ _ _ (by rw [put_size]; show k < tmps.size; omega), if_neg (by omega), p0.2.1, put_getD _ _ _ (by show b < tmps.size; omega), if_pos rfl]
  · rw [p1.2.1, put_getD _ _ _ (by rw [put_size]; show k < tmps.size; omega), if_neg (by omega), p0.2.1, put_getD _ _ _ (by show b < tmps.size; omega), if_neg (by omega)]
    exact ht1
end Go.Ev

/- All functions that are known. -/
namespace Go.Ev

/-- How a function is known: gone through, or by what it answers. -/
structure Known (V : Env) (E : Prog) (Sg : Nat → Option Sig) (f : Nat) (sg : Sig) : Prop where
  pk : E.pks f = some (sg.pms.map PM.pk)
  body : ∃ fn c, V.P.funcs[f]? = some fn ∧ fn.body = some c ∧ fn.name ≠ "runtime.NumGoroutine" ∧
    ((∃ p, E.prims f = some p ∧ Does V f sg p) ∨ (E.prims f = none ∧ E.funcs f = some fn ∧ ((∃ cols, chkF ⟨V.τ, Sg, fn.ntmps, cols⟩ fn c sg = true ∨ chkFM ⟨V.τ, Sg, fn.ntmps, cols⟩ fn c sg = true ∨ chkFP ⟨V.τ, Sg, fn.ntmps, cols⟩ fn c sg = true) ∨ Nonempty (AggFn V.τ Sg fn c sg))))

theorem does_all {V : Env} {E : Prog} {Sg : Nat → Option Sig} (hτ : E.τ = V.τ) (hK : ∀ f sg, Sg f = some sg → Known V E Sg f sg) : ∀ (k f : Nat) (sg : Sig), Sg f = some sg → Does V f sg (evF E k f) := by
  intro k
  induction k with
  | zero =>
    intro f sg hf
    obtain ⟨_, fn, c, h1, h2, h3, _⟩ := hK f sg hf
    exact ⟨⟨fn, c, h1, h2, h3⟩, fun _ w G PA vals xs _ _ _ _ _ _ rs outs h => by (cases h), fun m _ w N0 G PA vals xs _ _ _ _ _ _ _ _ _ d v _ _ _ rs outs h => by (cases h), fun smi smo n _ w N0 G PA vals xs _ _ _ _ _ _ _ _ _ x v _ _ _ rs outs h => by (cases h)⟩
  | succ k ih =>
    intro f sg hf
    obtain ⟨hpk, fn, c, h1, h2, h3, h4⟩ := hK f sg hf
    rcases h4 with ⟨p, hp, hd⟩ | ⟨hp, hfn, ⟨cols, hchk⟩ | ⟨hag⟩⟩
    · have : evF E (k + 1) f = p := by funext as; simp [evF, hp]
      rw [this]; exact hd
    · rcases hchk with hchk | hchk | hchk
      rotate_left
      rotate_left
      · refine ⟨⟨fn, c, h1, h2, h3⟩, fun hall => ?_, fun m hm => ?_, fun smi smo n hm => does_ptr hτ hpk h1 h2 hp hfn hchk (fun f' sg' hf' => ⟨(hK f' sg' hf').pk, ih f' sg' hf'⟩) hm⟩
        · exfalso
          unfold chkFP at hchk
          split at hchk
          · rename_i q1 ms' q2 hq
            rcases ioOk_pms hq with ⟨ms, ms9, ps, hpms⟩ | ⟨b, ms, ps, hpms⟩ <;> (rw [hpms] at hall; simp [quietB] at hall)
          · cases hchk
        · exfalso
          obtain ⟨ps, _, hpms, _⟩ := mutOk_spec hm
          unfold chkFP at hchk
          split at hchk
          · rename_i q1 ms' q2 hq
            rcases ioOk_pms hq with ⟨ms, ms9, ps, hpms2⟩ | ⟨b, ms, ps, hpms2⟩ <;> (rw [hpms] at hpms2; cases hpms2)
          · cases hchk
      rotate_left
      · refine ⟨⟨fn, c, h1, h2, h3⟩, fun hall => ?_, fun m hm => does_mut hτ hpk h1 h2 hp hfn hchk (fun f' sg' hf' => ⟨(hK f' sg' hf').pk, ih f' sg' hf'⟩) hm, fun smi smo n hm => ?_⟩
        rotate_left
        · exfalso
          unfold chkFM at hchk
          split at hchk
          · rename_i m hq
            obtain ⟨ps, _, hpms2, _⟩ := mutOk_spec hq
            rcases ioOk_pms hm with ⟨ms, ms9, ps, hpms⟩ | ⟨b, ms, ps, hpms⟩ <;> (rw [hpms] at hpms2; cases hpms2)
          · cases hchk
        exfalso
        unfold chkFM at hchk
        split at hchk
        · rename_i m hm
          obtain ⟨ps, _, hpms, _⟩ := mutOk_spec hm
          rw [hpms] at hall
          simp [quietB] at hall
        · cases hchk
      refine ⟨⟨fn, c, h1, h2, h3⟩, fun _ => ?_, fun m hm => ?_, fun smi smo n hm => ?_⟩
      rotate_left
      · exfalso
        obtain ⟨ps, _, hpms, _⟩ := mutOk_spec hm
        unfold chkF at hchk
        rw [hpms] at hchk
        simp [quietB] at hchk
      · exfalso
        unfold chkF at hchk
        rcases ioOk_pms hm with ⟨ms, ms9, ps, hpms⟩ | ⟨b, ms, ps, hpms⟩ <;> (rw [hpms] at hchk; simp [quietB] at hchk)
      intro w G PA vals xs hT hvl hxl hG hPA hargs rs outs hF
      simp only [evF, hp, hfn, hpk, h2] at hF
      rw [if_pos (by rw [List.length_map]; exact hxl)] at hF
      unfold chkF at hchk
      simp only [Bool.and_eq_true, beq_iff_eq, Nat.ble_eq, List.all_eq_true] at hchk
      obtain ⟨⟨⟨⟨⟨c1, c2⟩, c3⟩, _⟩, c5⟩, c6⟩ := hchk
      split at c6
      · rename_i o ho
        simp only [Bool.and_eq_true] at c6
        obtain ⟨hon, hor⟩ := c6
        rw [hτ] at hF
        -- how it ends
        have hends : ∃ e φ', evC V.τ E.pks (evF E k) k c (args0 xs) = some (e, φ') ∧ (e = .normal ∨ e = .ret) ∧ resesX V.τ φ' fn.results.toList = some rs := by
          split at hF
          · cases hF
          · rename_i e φ' hne heq
            split at hF
            · rename_i rs' os' q1 q2
              cases hF
              refine ⟨e, φ', heq, ?_, q1⟩
              cases e with
              | normal => exact .inl rfl
              | ret => exact .inr rfl
              | exit id => exact (hne id rfl).elim
            · cases hF
          · cases hF
        obtain ⟨e, φ', hev, hee, hres⟩ := hends
        refine calls_of_wp h1 h2 ?_
        let A : Start := ⟨w, fun _ => False, G, PA, [], none, []⟩
        let C0 : Cx := ⟨fun _ => none, G, PA⟩
        have hsz : (vals.toArray ++ Array.replicate (fn.ntmps - vals.toArray.size) undef).size = fn.ntmps := by
          simp
          have := c3
          omega
        have hval : ∀ i u, vals[i]? = some u → (vals.toArray ++ Array.replicate (fn.ntmps - vals.toArray.size) undef).getD i undef = u := by
          intro i u hu
          obtain ⟨hlt, e⟩ := List.getElem?_eq_some_iff.1 hu
          simp only [Array.getD]
          rw [dif_pos (by simp; omega)]
          show (vals.toArray ++ Array.replicate (fn.ntmps - vals.toArray.size) undef)[i]'(by simp; omega) = u
          rw [Array.getElem_append_left (by simpa using hlt)]
          simpa using e
        have hst : St A w (entry V.τ sg.pms sg.tys) (args0 xs) (tmO (vals.toArray ++ Array.replicate (fn.ntmps - vals.toArray.size) undef) fun _ => undef) C0 := by
          refine ⟨?_, (by intro b b' o o' h; cases h), (by intro b o h; cases h), fun b hb => ⟨hG b hb, .inl hb⟩, fun b hb => ⟨hb, hG b hb, fun h => h⟩, fun i b hb => ⟨hPA i b hb, fun h => h, hb⟩, fun _ _ _ => rfl, Nat.le_refl _, .refl _, by simp [A], .none⟩
          intro s
          cases hx : xs[s]? with
          | none => left; simp [args0, List.getD_eq_getElem?_getD, hx]
          | some x =>
            right
            have hs : s < xs.length := (List.getElem?_eq_some_iff.1 hx).1
            have hv : vals[s]? = some vals[s] := List.getElem?_eq_getElem (by omega)
            have hpm : sg.pms[s]? = some sg.pms[s] := List.getElem?_eq_getElem (by omega)
            have hty : sg.tys[s]? = some sg.tys[s] := List.getElem?_eq_getElem (by omega)
            have harg := hargs s x _ _ _ hx hv hpm hty
            unfold Claim
            have e1 : args0 xs s = x := by simp [args0, List.getD_eq_getElem?_getD, hx]
            have e2 : tmO (vals.toArray ++ Array.replicate (fn.ntmps - vals.toArray.size) undef) (fun _ => undef) s = vals[s] := by
              have hn : fn.ntmps ≤ 1000 := c5
              have hc3 : sg.pms.length ≤ fn.ntmps := c3
              unfold tmO
              rw [if_pos (by omega)]
              exact hval s _ hv
            have e3 : (entry V.τ sg.pms sg.tys).get s = entryM V.τ s sg.pms[s] sg.tys[s] := by
              unfold entry
              rw [entry_get V.τ sg.pms sg.tys 0 s]
              simp [hpm, hty]
            rw [e1, e2, e3]
            exact entry_claim (c1 _ (List.mem_of_getElem? hpm)) harg
        have hfinal : ∀ a w', o.Holds e (fun μ' => Stands A fn.ntmps φ' μ' a w') → bodyPost V.P fn (fun e w' => ∃ vs C', e = .returned (packV vs) ∧ Done w w' G PA sg rs vs C') e.ex a w' := by
          intro a w' hh
          have hout : ∃ μ', outB V.τ fn.results.toList sg.res μ' = true ∧ Stands A fn.ntmps φ' μ' a w' := by
            rcases hee with rfl | rfl
            · obtain ⟨μ', q1, q2⟩ := hh
              rw [q1] at hon
              exact ⟨μ', hon, q2⟩
            · obtain ⟨μ', q1, q2⟩ := hh
              rw [q1] at hor
              exact ⟨μ', hor, q2⟩
          obtain ⟨μ', hout, C, g, h, hsz', hdf, _⟩ := hout
          unfold outB at hout
          simp only [Bool.and_eq_true] at hout
          have hnd := nodupB_spec hout.1
          have hCPA : ∀ i b, C.PA i b → PA i b := fun i b hb => (h.pa i b hb).2.2
          obtain ⟨vs, r1, r2, r3, r4⟩ := results_all (PA := PA) hCPA hnd h fn.results.toList sg.res rs 0 hres hout.2 (by
            intro j r hr
            rw [Nat.zero_add, List.getElem?_map, hr]; rfl)
          have hlen : rs.length = fn.results.toList.length := by
            have key : ∀ (l : List ResultVar) (xs : List X), resesX V.τ φ' l = some xs → xs.length = l.length := by
              intro l
              induction l with
              | nil => intro xs h; simp only [resesX, Option.some.injEq] at h; subst h; rfl
              | cons r l ih =>
                intro xs h
                simp only [resesX] at h
                split at h
                · rename_i q1 q2; cases h; simp [ih _ q2]
                · cases h
            exact key _ _ hres
          have hrun := results_run r1
          have hdone : Done w w' G PA sg rs vs (exitC C (fn.results.toList.map (srcS μ')) PA) := by
            refine ⟨⟨h.size, fun b hb => h.old b hb (fun h => h), h.calm⟩, ?_, ?_, ?_, ?_, rfl, exit_own h.oko, r2, r3, ?_⟩
            · intro b o' ho'
              simp only [exitC] at ho'
              split at ho'
              · rename_i o1 ho1
                split at ho'
                · rename_i kk hkk
                  cases ho'
                  obtain ⟨p1, p2, p3, p4⟩ := h.own b o1 ho1
                  obtain ⟨_, hat⟩ := idxS_ge _ _ _ _ hkk
                  refine ⟨p4.resolve_left (fun h => h), p1, ?_, ?_⟩
                  · rintro (hg | ⟨o2, ho2, hi2⟩)
                    · exact p2 hg
                    · rw [ho1] at ho2; cases ho2; rw [hkk] at hi2; cases hi2
                  · have := (List.getElem?_eq_some_iff.1 hat).1
                    simp only [List.length_map, Nat.sub_zero] at this
                    simp only
                    omega
                · cases ho'
              · cases ho'
            · intro b b' o1 o2 q1 q2 e
              simp only [exitC] at q1 q2
              split at q1
              · rename_i p1 hp1
                split at q1
                · rename_i k1 hk1
                  cases q1
                  split at q2
                  · rename_i p2 hp2
                    split at q2
                    · rename_i k2 hk2
                      cases q2
                      simp only [Pl.mk.injEq] at e
                      obtain ⟨rfl, est⟩ := e
                      obtain ⟨_, a1⟩ := idxS_ge _ _ _ _ hk1
                      obtain ⟨_, a2⟩ := idxS_ge _ _ _ _ hk2
                      rw [a1] at a2
                      simp only [Option.some.injEq] at a2
                      refine h.inj b b' p1 p2 hp1 hp2 ?_
                      cases hq1 : p1.p; cases hq2 : p2.p
                      rw [hq1] at est a2; rw [hq2] at est a2
                      simp only at est a2
                      rw [est, a2]
                    · cases q2
                  · cases q2
                · cases q1
              · cases q1
            · rintro b (hg | ⟨o1, ho1, _⟩)
              · obtain ⟨p1, p2⟩ := h.frz b hg
                rcases p2 with p2 | p2 | p2
                · exact .inl p2
                · exact p2.elim
                · exact .inr ⟨p2, p1⟩
              · obtain ⟨p1, p2, p3, p4⟩ := h.own b o1 ho1
                exact .inr ⟨p4.resolve_left (fun h => h), p1⟩
            · intro b hb
              exact .inl (h.ag b hb).1
            · intro j x v sm q1 q2 q3
              have := r4 j x v sm q1 q2 q3
              rwa [Nat.zero_add] at this
          have hp : ∃ v, (results fn a.tmps).run V.P w' = .ok v w' ∧ ∃ vs C', (Ending.returned v) = .returned (packV vs) ∧ Done w w' G PA sg rs vs C' := ⟨_, hrun, vs, _, rfl, hdone⟩
          rcases hee with rfl | rfl
          · exact ⟨hdf, hp⟩
          · exact ⟨hdf, hp⟩
        exact code_wp (X := ⟨V.τ, Sg, fn.ntmps, cols⟩) (A := A) (S := E.pks) (F := evF E k) rfl (RgOk.nil rfl) rfl (fun hq => by cases hq) c5 (fun f' sg' hf' => ⟨(hK f' sg' hf').pk, (ih f' sg' hf').mono fun _ _ => tab_abv hT⟩) k c (entry V.τ sg.pms sg.tys) o (args0 xs) φ' e _ w _ ho hev ⟨C0, _, hst, hsz, rfl, ⟨fun u hu => by (simp [A] at hu), by simp [A]⟩⟩ hfinal
      · cases c6
    · obtain ⟨hag⟩ := hag
      refine ⟨⟨fn, c, h1, h2, h3⟩, fun hall => ?_, fun m hm => ?_, fun smi smo n hm => does_agg hτ hpk h1 h2 hp hfn hag (fun f' sg' hf' => ⟨(hK f' sg' hf').pk, ih f' sg' hf'⟩) hm⟩
      · exfalso
        rw [hag.hsg] at hall
        simp [quietB] at hall
      · exfalso
        obtain ⟨ps, _, hpms, _⟩ := mutOk_spec hm
        rw [hag.hsg] at hpms
        simp at hpms
end Go.Ev

/- A policy for the check: nothing hangs on it. -/
namespace Go.Ev

def updM : List Nat → (List M → List M) → M → M
  | [], f, .own cols => .own (f cols)
  | k :: r, f, .own cols => .own (cols.set k (updM r f ((cols[k]?).getD .u)))
  | _, _, m => m

def updSM (cs : List Nat) (f : List M → List M) : SM → SM
  | .box ms => match cs with
    | k :: r => .box (ms.set k (updM r f ((ms[k]?).getD .u)))
    | [] => .box ms
  | .c m og => .c (updM cs f m) og
  | x => x

/-- Columns that a store asks for. -/
def preG (τ : List TE) (o : Oper) (μ : Mu) : Option Mu := match o.op with
  | .store t x y => match TE.find τ t, give μ y (fun k => [gam, k]) with
    | some e, some (ms, μ1) => match opM μ1 x with
      | .pt s cs =>
        let row := cs.dropLast
        let c := cs.getLastD 0
        if row.isEmpty && (match μ.get s with | .box _ => true | _ => false) then none else
        let new := mapL (landF (s :: row) c) (flatL e.zero ms)
        some (μ.set s (updSM row (fun cols => cols.take c ++ joinL ((cols.drop c).take new.length) new ++ cols.drop (c + new.length)) (μ.get s)))
      | _ => none
    | _, _ => none
  | _ => none

def firstApp (o : Oper) : List Nat := match o.op with
  | .call c => match c.callee, c.args.toList with
    | .builtin .append, .tmp t :: _ => [t]
    | _, _ => []
  | _ => []

def firstAsg (o : Oper) : List Nat := match o.op with
  | .assign (.tmp t) => [t]
  | .store _ _ (.tmp t) => [t]
  | .box _ (.tmp t) => [t]
  | _ => []

def slotsC (f : Oper → List Nat) : Code → List Nat
  | .seq a b => slotsC f a ++ slotsC f b
  | .cond _ a b => slotsC f a ++ slotsC f b
  | .block _ c => slotsC f c
  | .loop c => slotsC f c
  | .region _ ops _ => ops.toList.flatMap f
  | _ => []

def resSlots (rs : List ResultVar) : List Nat := rs.filterMap fun r => match r with
  | .tmp t => some t
  | .cell _ _ => none

def polG (τ : List TE) (tk : List Nat) (lo : Bool := false) : Pol where
  lo := lo
  pre := preG τ
  cols o μ := match o.op with
    | .move _ => match o.dst with
      | some d => if tk.contains d then [.u] else []
      | none => []
    | .extract x i => match o.dst with
      | some d => if tk.contains d && (extractT μ x i d).isSome then [.u] else []
      | none => []
    | .load t x => match o.dst with
      | some d => if tk.contains d && (loadT τ μ t x d).isSome then [.u] else []
      | none => []
    | _ => colsG τ o μ

/-- Slots that take along. -/
def tkF (mode : Nat) (fn : Func) : List Nat := match fn.body with
  | some c => match mode with
    | 0 => slotsC firstApp c ++ resSlots fn.results.toList
    | 1 => slotsC firstApp c ++ slotsC firstAsg c ++ resSlots fn.results.toList
    | _ => []
  | none => []

/-- The check of a function as it is loaded. -/
def chkB (X : Chk) (fn : Func) (sg : Sig) : Bool := match fn.body with
  | some c => !(fn.name == "runtime.NumGoroutine") && (match mutOk sg with
    | some _ => chkFM X fn c sg
    | none => match ioOk sg with
      | some _ => chkFP X fn c sg
      | none => chkF X fn c sg)
  | none => false

theorem known_of {V : Env} {E : Prog} {Sg : Nat → Option Sig} {f : Nat} {sg : Sig} {fn : Func} (mode : Nat) (h1 : V.P.funcs[f]? = some fn) (h2 : E.pks f = some (sg.pms.map PM.pk)) (h3 : E.prims f = none) (h4 : E.funcs f = some fn)
    (hc : chkB ⟨V.τ, Sg, fn.ntmps, polG V.τ (tkF mode fn) ((mutOk sg).isSome || (ioOk sg).isSome)⟩ fn sg = true) : Known V E Sg f sg := by
  unfold chkB at hc
  split at hc
  · rename_i c hb
    simp only [Bool.and_eq_true, Bool.not_eq_true', beq_eq_false_iff_ne] at hc
    obtain ⟨hc1, hc2⟩ := hc
    split at hc2
    · exact ⟨h2, fn, c, h1, hb, hc1, .inr ⟨h3, h4, .inl ⟨_, .inr (.inl hc2)⟩⟩⟩
    · split at hc2
      · exact ⟨h2, fn, c, h1, hb, hc1, .inr ⟨h3, h4, .inl ⟨_, .inr (.inr hc2)⟩⟩⟩
      · exact ⟨h2, fn, c, h1, hb, hc1, .inr ⟨h3, h4, .inl ⟨_, .inl hc2⟩⟩⟩
  · cases hc

/-- All functions that were checked. -/
def sgOf (l : List (Nat × Sig)) (f : Nat) : Option Sig := List.lookup f l

theorem known_all {V : Env} {E : Prog} {Sg : Nat → Option Sig} : ∀ (l : List (Nat × Sig)), (∀ p ∈ l, Known V E Sg p.1 p.2) → ∀ f sg, sgOf l f = some sg → Known V E Sg f sg := by
  intro l h f sg hf
  exact h (f, sg) (lookup_mem hf)
end Go.Ev

/- A walk in plain data: what is asked of code, as a proposition over frames that tell a part. -/
namespace Go.Ev

/-- A function comes to this, whatever the fuel from some point on. -/
def Runs (E : Prog) (f : Nat) (xs rs outs : List X) : Prop := ∃ k0, ∀ k, k0 ≤ k → evF E k f xs = some (rs, outs)

theorem Runs.det {E : Prog} {f : Nat} {xs rs outs rs' outs' : List X} (h : Runs E f xs rs outs) (h' : Runs E f xs rs' outs') : rs = rs' ∧ outs = outs' := by
  obtain ⟨k, h⟩ := h
  obtain ⟨k', h'⟩ := h'
  have h1 := h (max k k') (Nat.le_max_left _ _)
  have h2 := h' (max k k') (Nat.le_max_right _ _)
  rw [h1] at h2
  simpa using h2

/-- A call of a function. -/
def callK (E : Prog) (f : Nat) (as : List X) (K : List X → List X → Prop) : Prop := ∃ rs outs, Runs E f as rs outs ∧ K rs outs

theorem callK_of {E : Prog} {f : Nat} {as rs outs : List X} {K : List X → List X → Prop} (h : Runs E f as rs outs) : callK E f as K = K rs outs := by
  apply propext
  constructor
  · rintro ⟨rs', outs', h1, h2⟩
    obtain ⟨rfl, rfl⟩ := h.det h1
    exact h2
  · intro h2; exact ⟨rs, outs, h, h2⟩

def someK {α : Type} (r : Option α) (K : α → Prop) : Prop := ∃ x, r = some x ∧ K x

def callP (E : Prog) (f : Nat) (c : Call) (dst : Option Tmp) (φ : Fr) (K : Fr → Prop) : Prop := someK (E.pks f) fun ks => someK (argsX E.τ φ (ks.take c.args.size) c.args.toList c.argTypes.toList) fun as =>
  callK E f as fun rs outs => rs.length ≤ 8 ∧ someK (backsX E.τ φ (ks.take c.args.size) c.args.toList outs φ) fun φ' => K (putRes dst rs φ')

/-- A call of a function's value. -/
def callEP (E : Prog) (f : Nat) (c : Call) (dst : Option Tmp) (cs : List (List D)) (φ : Fr) (K : Fr → Prop) : Prop := someK (E.pks f) fun ks => extraOk (some ks) c.args.size cs = true ∧
  someK (argsX E.τ φ (ks.take c.args.size) c.args.toList c.argTypes.toList) fun as => callK E f (as ++ cs.map .box) fun rs outs => rs.length ≤ 8 ∧ someK (backsX E.τ φ (ks.take c.args.size) c.args.toList outs φ) fun φ' => K (putRes dst rs φ')

def callVP (E : Prog) (x : X) (c : Call) (dst : Option Tmp) (φ : Fr) (K : Fr → Prop) : Prop := match x with
  | .clo f caps => someK (capsX φ caps) fun cs => callEP E f c dst cs φ K
  | .fv f cs => callEP E f c dst cs φ K
  | _ => False

def opP (E : Prog) (o : Oper) (φ : Fr) (K : Fr → Prop) : Prop := match o.op with
  | .store t x y => someK (ptX φ x) fun p => someK (storeX E.τ φ t p (opX E.τ φ t y)) K
  | .call c => match c.callee with
    | .value (.func f) => callP E f c o.dst φ K
    | .value (.tmp t) => callVP E (φ t) c o.dst φ K
    | .value _ => False
    | _ => someK (pureX E.τ φ o.op o.type) fun x => K (putRes o.dst [x] φ)
  | _ => someK (pureX E.τ φ o.op o.type) fun x => K (putRes o.dst [x] φ)

def opsP (E : Prog) (ops : Array Oper) : List Oper → Option (List Nat) → Fr → (Fr → Prop) → Prop
  | [], sk, φ, K => K φ
  | o :: rest, sk, φ, K => match o.guard with
    | none => opP E o φ fun φ' => opsP E ops rest (rmS o.dst sk) φ' K
    | some (j, want) => someK ((ops[j]?).bind (·.dst)) fun d => (inS d sk = true → opsP E ops rest (addS o.dst sk) (putRes o.dst [] φ) K) ∧ (inS d sk = false → someK (φ d).val fun v => ∃ b, v = .bool b ∧ (b = want → opP E o φ fun φ' => opsP E ops rest (rmS o.dst sk) φ' K) ∧ (b ≠ want → opsP E ops rest (addS o.dst sk) (putRes o.dst [] φ) K))

def clrDs (ops : Array Oper) : List Nat := dstsOf (ops.toList.take (cutOf ops.toList))

/-- A loop: what its head holds, with a number that falls. -/
def LoopP (body : Fr → (EE → Fr → Prop) → Prop) (φ : Fr) (Q : EE → Fr → Prop) : Prop :=
  ∃ (I : Nat → Fr → Prop) (n : Nat) (φ0 : Fr), Le φ0 φ ∧ I n φ0 ∧ ∀ n ψ, I n ψ → body ψ fun e ψ' => match e with
    | .normal => ∃ m ψ0, m < n ∧ Le ψ0 ψ' ∧ I m ψ0
    | e => Q e ψ'

/-- Operations of a kind, by a list that tells their kinds. -/
def selM (k : Nat) : List Nat → List Oper → List Oper
  | c :: cs, o :: os => if c = k then o :: selM k cs os else selM k cs os
  | _, _ => []

/-- A region whose order is drawn; where boxes are written in its settled part, the operations' kinds are told. -/
def drawnP (E : Prog) (ops : Array Oper) (mask W ds : List Nat) (φ : Fr) (K : Fr → Prop) : Prop := match mask with
  | [] => opsP E ops ops.toList (some []) (clrX ds φ) K
  | c :: cs => opsP E ops (selM 0 (c :: cs) ops.toList) none (clrX ds (hideX W φ)) fun φ1 => opsP E ops (selM 1 (c :: cs) ops.toList) none (rstX (W.filter fun s => !ds.contains s) φ φ1) fun φ2 => opsP E ops (selM 2 (c :: cs) ops.toList) none φ2 K

def wrs (ops : Array Oper) : List Nat := (ops.toList.take (cutOf ops.toList)).filterMap stT
def maskOf (ops : Array Oper) : List Nat := (ops.toList.take (cutOf ops.toList)).map (fun o => if isEf (wrs ops) o then 1 else 0) ++ (ops.toList.drop (cutOf ops.toList)).map fun _ => 2

theorem selM_split (k : Nat) (f g : Oper → Nat) : ∀ (l l' : List Oper), selM k (l.map f ++ l'.map g) (l ++ l') = l.filter (fun o => f o == k) ++ l'.filter (fun o => g o == k)
  | [], l' => by
    simp only [List.map_nil, List.nil_append, List.filter_nil]
    induction l' with
    | nil => rfl
    | cons o l' ih =>
      simp only [List.map_cons, selM]
      by_cases e : g o = k
      · rw [if_pos e, ih, List.filter_cons_of_pos (by simpa using e)]
      · rw [if_neg e, ih, List.filter_cons_of_neg (by simpa using e)]
  | o :: l, l' => by
    simp only [List.map_cons, List.cons_append, selM]
    by_cases e : f o = k
    · rw [if_pos e, selM_split k f g l l', List.filter_cons_of_pos (by simpa using e)]; rfl
    · rw [if_neg e, selM_split k f g l l', List.filter_cons_of_neg (by simpa using e)]

theorem selM_maskOf (ops : Array Oper) : selM 0 (maskOf ops) ops.toList = (ops.toList.take (cutOf ops.toList)).filter (fun o => !isEf (wrs ops) o) ∧ selM 1 (maskOf ops) ops.toList = (ops.toList.take (cutOf ops.toList)).filter (isEf (wrs ops)) ∧ selM 2 (maskOf ops) ops.toList = ops.toList.drop (cutOf ops.toList) := by
  have h := fun k => selM_split k (fun o => if isEf (wrs ops) o then 1 else 0) (fun _ => 2) (ops.toList.take (cutOf ops.toList)) (ops.toList.drop (cutOf ops.toList))
  simp only [List.take_append_drop] at h
  have h' := fun k => h k
  refine ⟨?_, ?_, ?_⟩
  · refine (h 0).trans ?_
    have : (ops.toList.drop (cutOf ops.toList)).filter (fun _ => (2 : Nat) == 0) = [] := by simp
    rw [this, List.append_nil]
    congr 1
    funext o
    cases isEf (wrs ops) o <;> rfl
  · refine (h 1).trans ?_
    have : (ops.toList.drop (cutOf ops.toList)).filter (fun _ => (2 : Nat) == 1) = [] := by simp
    rw [this, List.append_nil]
    congr 1
    funext o
    cases isEf (wrs ops) o <;> rfl
  · refine (h 2).trans ?_
    have : (ops.toList.take (cutOf ops.toList)).filter (fun o => (if isEf (wrs ops) o then 1 else 0 : Nat) == 2) = [] := by
      rw [List.filter_eq_nil_iff]
      intro o _
      cases isEf (wrs ops) o <;> simp
    rw [this, List.nil_append]
    simp

def codeP (E : Prog) (Dr : Nat → List Nat) : Code → Fr → (EE → Fr → Prop) → Prop
  | .skip, φ, Q => Q .normal φ
  | .region _ ops false, φ, Q => opsP E ops ops.toList (some []) φ (Q .normal)
  | .region id ops true, φ, Q => drawnP E ops (Dr (id + 20000)) (Dr (id + 10000)) (Dr id) φ (Q .normal)
  | .seq a b, φ, Q => codeP E Dr a φ fun e ψ => match e with
    | .normal => codeP E Dr b ψ Q
    | e => Q e ψ
  | .cond c a b, φ, Q => someK (opX E.τ φ 0 c).val fun v => ∃ t, v = .bool t ∧ (t = true → codeP E Dr a φ Q) ∧ (t = false → codeP E Dr b φ Q)
  | .block id c, φ, Q => codeP E Dr c φ fun e ψ => if e = .exit id then Q .normal ψ else Q e ψ
  | .loop c, φ, Q => LoopP (codeP E Dr c) φ Q
  | .exit id, φ, Q => Q (.exit id) φ
  | .ret, φ, Q => Q .ret φ
  | _, _, _ => False

/-- The slots that are told to be emptied, at the least. -/
def drOk (Dr : Nat → List Nat) : Code → Bool
  | .region id ops true => (clrDs ops).all (Dr id).contains && (match Dr (id + 20000) with
    | [] => (wrs ops).isEmpty
    | m => !(wrs ops).isEmpty && m == maskOf ops && Dr (id + 10000) == wrs ops && Dr id == clrDs ops)
  | .seq a b => drOk Dr a && drOk Dr b
  | .cond _ a b => drOk Dr a && drOk Dr b
  | .block _ c => drOk Dr c
  | .loop c => drOk Dr c
  | _ => true

theorem clr_more {ds ds' : List Nat} (h : ds.all ds'.contains = true) (φ : Fr) : Le (clrX ds' φ) (clrX ds φ) := by
  intro s
  unfold clrX
  by_cases e : isHit ds' s = true
  · rw [if_pos e]; exact .inl rfl
  · rw [if_neg e, if_neg]
    · exact .inr rfl
    · intro h1
      apply e
      unfold isHit at h1 ⊢
      rw [List.any_eq_true] at h1 ⊢
      obtain ⟨d, hd, hs⟩ := h1
      rw [List.all_eq_true] at h
      exact ⟨d, by simpa using h d hd, hs⟩

/-! ## More told, no less done -/

section
variable {τ : List TE} {φ φ1 ψ : Fr}

theorem Le.upd (h : Le φ φ1) (t : Nat) (x : X) : Le (upd φ t x) (upd φ1 t x) := by
  intro s
  unfold Go.Ev.upd
  split
  · exact .inr rfl
  · exact h s

theorem Le.patch (h : Le φ φ1) (f : Nat → Option X) : Le (patch f φ) (patch f φ1) := by
  intro s
  unfold Go.Ev.patch
  split
  · exact .inr rfl
  · exact h s

theorem Le.putRes (h : Le φ φ1) (dst : Option Tmp) {rs : List X} (h8 : rs.length ≤ 8) : Le (putRes dst rs φ) (putRes dst rs φ1) := by
  obtain ⟨f, hf, _⟩ := putRes_patch dst rs h8
  rw [hf, hf]; exact h.patch f

theorem Le.clrX (h : Le φ φ1) (ds : List Nat) : Le (clrX ds φ) (clrX ds φ1) := by
  intro s
  unfold Go.Ev.clrX
  split
  · exact .inl rfl
  · exact h s

theorem putAt_le (h : Le φ φ1) {p : Pl} {new : List D} (hp : putAt φ p new = some ψ) : ∃ ψ1, putAt φ1 p new = some ψ1 ∧ Le ψ ψ1 := by
  unfold putAt at hp ⊢
  split at hp
  · rename_i x hx
    rw [h.at (by intro e; rw [e] at hx; cases hx), hx]
    cases hp
    exact ⟨_, rfl, h.upd _ _⟩
  · cases hp

theorem setAt_le (h : Le φ φ1) {p : Pl} {d : D} (hp : setAt φ p d = some ψ) : ∃ ψ1, setAt φ1 p d = some ψ1 ∧ Le ψ ψ1 := by
  unfold setAt at hp ⊢
  split at hp
  · split at hp
    · rename_i q
      rw [h.at (by rw [q]; simp), q]
      cases hp
      exact ⟨_, rfl, h.upd _ _⟩
    · cases hp
  · exact putAt_le h hp

theorem storeX_le (h : Le φ φ1) {t : Nat} {p : Pl} {x : X} (hp : storeX τ φ t p x = some ψ) : ∃ ψ1, storeX τ φ1 t p x = some ψ1 ∧ Le ψ ψ1 := by
  unfold storeX at hp ⊢
  split at hp
  · split at hp
    · rename_i hf
      rw [if_pos hf]; exact putAt_le h hp
    · cases hp
  · cases hp

theorem argX_leA (h : Le φ φ1) {k : PK} {y : Operand} {ty : Nat} {x : X} (hy : argX τ φ k y ty = some x) : argX τ φ1 k y ty = some x := by
  cases k with
  | val => exact argX_le0 h hy
  | ptr n =>
    simp only [argX] at hy ⊢
    split at hy
    · rename_i p q
      rw [ptX_le h q]
      rw [Option.map_eq_some_iff] at hy
      obtain ⟨cs, q2, rfl⟩ := hy
      simp only [cellsAt_le h q2, Option.map_some]
    · cases hy
  | rptr n =>
    simp only [argX] at hy ⊢
    split at hy
    · rename_i p q
      rw [ptX_le h q]
      rw [Option.map_eq_some_iff] at hy
      obtain ⟨cs, q2, rfl⟩ := hy
      simp only [cellsAt_le h q2, Option.map_some]
    · cases hy
  | «mut» =>
    simp only [argX] at hy ⊢
    rw [opX_le h ty y (by intro e; rw [e] at hy; cases hy)]; exact hy
  | magg b =>
    simp only [argX] at hy ⊢
    split at hy
    · rename_i q
      rw [opX_le' h q (by simp)]
      simp only
      split at hy
      · rename_i q1 q2
        rw [cellsAt_le h q1, q2]
        exact hy
      · cases hy
    · cases hy

theorem argsX_leA (h : Le φ φ1) : ∀ {ks : List PK} {ys : List Operand} {tys : List Nat} {xs : List X}, argsX τ φ ks ys tys = some xs → argsX τ φ1 ks ys tys = some xs
  | [], [], [], xs, hy => hy
  | k :: ks, y :: ys, t :: ts, xs, hy => by
    simp only [argsX] at hy ⊢
    split at hy
    · rename_i q1 q2
      rw [argX_leA h q1, argsX_leA h q2]
      exact hy
    · cases hy
  | [], _ :: _, _, _, hy => by simp [argsX] at hy
  | [], [], _ :: _, _, hy => by simp [argsX] at hy
  | _ :: _, [], _, _, hy => by simp [argsX] at hy
  | _ :: _, _ :: _, [], _, hy => by simp [argsX] at hy

theorem backX_le (h : Le φ φ1) {ψ0 ψ1 : Fr} (h0 : Le ψ0 ψ1) {k : PK} {y : Operand} {out : X} (hb : backX τ φ k y out ψ0 = some ψ) : ∃ ψ', backX τ φ1 k y out ψ1 = some ψ' ∧ Le ψ ψ' := by
  cases k with
  | ptr n =>
    simp only [backX] at hb ⊢
    split at hb
    · rename_i q
      rw [ptX_le h q]
      exact putAt_le h0 hb
    · cases hb
  | «mut» =>
    simp only [backX] at hb ⊢
    split at hb
    · rename_i q
      rw [opX_le' h q (by simp)]
      split at hb
      · rename_i hz
        simp only
        rw [if_pos hz]
        exact setAt_le h0 hb
      · cases hb
    · cases hb
  | magg b =>
    simp only [backX] at hb ⊢
    split at hb
    · rename_i q
      rw [opX_le' h q (by simp)]
      split at hb
      · rename_i hz
        simp only
        rw [if_pos hz]
        exact putAt_le h0 hb
      · cases hb
    · cases hb
  | val => simp only [backX, Option.some.injEq] at hb ⊢; subst hb; exact ⟨_, rfl, h0⟩
  | rptr n => simp only [backX, Option.some.injEq] at hb ⊢; subst hb; exact ⟨_, rfl, h0⟩

theorem backsX_le (h : Le φ φ1) : ∀ {ks : List PK} {ys : List Operand} {os : List X} {ψ0 ψ1 : Fr}, Le ψ0 ψ1 → backsX τ φ ks ys os ψ0 = some ψ → ∃ ψ', backsX τ φ1 ks ys os ψ1 = some ψ' ∧ Le ψ ψ'
  | [], _, _, ψ0, ψ1, h0, hb => by
    simp only [backsX, Option.some.injEq] at hb ⊢
    subst hb; exact ⟨_, rfl, h0⟩
  | k :: ks, [], _, _, _, _, hb => by simp [backsX] at hb
  | k :: ks, _ :: _, [], _, _, _, hb => by simp [backsX] at hb
  | k :: ks, y :: ys, o :: os, ψ0, ψ1, h0, hb => by
    simp only [backsX] at hb ⊢
    split at hb
    · rename_i φ' q
      obtain ⟨φ'', q1, q2⟩ := backX_le h h0 q
      rw [q1]
      exact backsX_le h q2 hb
    · cases hb

theorem resX_le (h : Le φ φ1) {r : ResultVar} {x : X} (hy : resX τ φ r = some x) : resX τ φ1 r = some x := by
  cases r with
  | tmp t =>
    simp only [resX] at hy ⊢
    rw [h.at (by intro e; rw [e] at hy; cases hy)]
    split at hy
    · exact hy
    · exact hy
    · split at hy
      · rename_i q
        rw [h.at (by rw [q]; simp), q]; exact hy
      · cases hy
    · exact hy
    · cases hy
  | cell t ty =>
    simp only [resX] at hy ⊢
    rw [h.at (by intro e; rw [e] at hy; cases hy)]; exact hy

theorem resesX_le (h : Le φ φ1) : ∀ {l : List ResultVar} {xs : List X}, resesX τ φ l = some xs → resesX τ φ1 l = some xs
  | [], _, hy => hy
  | r :: l, xs, hy => by
    simp only [resesX] at hy ⊢
    split at hy
    · rename_i q1 q2
      rw [resX_le h q1, resesX_le h q2]; exact hy
    · cases hy

theorem outX_le (h : Le φ φ1) {i : Nat} {k : PK} {x : X} (hy : outX φ i k = some x) : outX φ1 i k = some x := by
  cases k with
  | ptr n => simp only [outX] at hy ⊢; rw [h.at (by intro e; rw [e] at hy; cases hy)]; exact hy
  | «mut» => simp only [outX] at hy ⊢; rw [h.at (by intro e; rw [e] at hy; cases hy)]; exact hy
  | magg b => simp only [outX] at hy ⊢; rw [h.at (by intro e; rw [e] at hy; cases hy)]; exact hy
  | _ => exact hy

theorem outsX_le (h : Le φ φ1) : ∀ {ks : List PK} {i : Nat} {xs : List X}, outsX φ i ks = some xs → outsX φ1 i ks = some xs
  | [], _, _, hy => hy
  | k :: ks, i, xs, hy => by
    simp only [outsX] at hy ⊢
    split at hy
    · rename_i q1 q2
      rw [outX_le h q1, outsX_le h q2]; exact hy
    · cases hy
end

/-! ## What the walk says, is so -/

section
variable {E : Prog}

/-- From some fuel on, and wherever more is told. -/
def OpsOk (E : Prog) (ops : Array Oper) (l : List Oper) (sk : Option (List Nat)) (φ ψ : Fr) : Prop := ∃ k0, ∀ k, k0 ≤ k → ∀ φ1, Le φ φ1 → ∃ ψ1, Le ψ ψ1 ∧ evOps E.τ E.pks (evF E k) ops l φ1 sk = some ψ1
def OpOk1 (E : Prog) (o : Oper) (φ ψ : Fr) : Prop := ∃ k0, ∀ k, k0 ≤ k → ∀ φ1, Le φ φ1 → ∃ ψ1, Le ψ ψ1 ∧ evOp E.τ E.pks (evF E k) o φ1 = some ψ1
def CodeOk (E : Prog) (c : Code) (φ : Fr) (e : EE) (ψ : Fr) : Prop := ∃ k0, ∀ k, k0 ≤ k → ∀ φ1, Le φ φ1 → ∃ ψ1, Le ψ ψ1 ∧ ∀ kk, k0 ≤ kk → evC E.τ E.pks (evF E k) kk c φ1 = some (e, ψ1)

theorem opP_ok {o : Oper} {φ : Fr} {K : Fr → Prop} (h : opP E o φ K) : ∃ ψ, K ψ ∧ OpOk1 E o φ ψ := by
  have pure : (∀ F φ1, evOp E.τ E.pks F o φ1 = match pureX E.τ φ1 o.op o.type with | some x => some (putRes o.dst [x] φ1) | none => none) → someK (pureX E.τ φ o.op o.type) (fun x => K (putRes o.dst [x] φ)) → ∃ ψ, K ψ ∧ OpOk1 E o φ ψ := by
    rintro he ⟨x, hx, hK⟩
    refine ⟨_, hK, 0, fun k _ φ1 hle => ⟨_, hle.putRes o.dst (by simp), ?_⟩⟩
    rw [he, pureX_le hle hx]
  unfold opP at h
  cases ho : o.op with
  | store t x y =>
    rw [ho] at h
    obtain ⟨p, hp, ψ, hs, hK⟩ := h
    refine ⟨ψ, hK, 0, fun k _ φ1 hle => ?_⟩
    have hy : opX E.τ φ t y ≠ .u := by
      intro e; rw [e] at hs; unfold storeX at hs; split at hs <;> simp_all [X.cells]
    obtain ⟨ψ1, q1, q2⟩ := storeX_le hle hs
    refine ⟨ψ1, q2, ?_⟩
    unfold evOp
    rw [ho]
    simp only
    rw [ptX_le hle hp, opX_le hle t y hy]
    exact q1
  | call c =>
    rw [ho] at h
    simp only at h
    cases hc : c.callee with
    | value v =>
      rw [hc] at h
      cases v with
      | func f =>
        obtain ⟨ks, hks, as, has, rs, outs, ⟨k0, hr⟩, h8, φ', hb, hK⟩ := h
        refine ⟨_, hK, k0, fun k hk φ1 hle => ?_⟩
        obtain ⟨ψ', q1, q2⟩ := backsX_le hle hle hb
        refine ⟨_, q2.putRes o.dst h8, ?_⟩
        unfold evOp
        rw [ho]
        simp only [hc]
        unfold callX
        rw [hks]
        simp only
        rw [argsX_leA hle has]
        simp only [List.append_nil]
        rw [hr k hk]
        simp only
        rw [if_pos h8, q1]
      | tmp t =>
        have key : ∀ f cs, callEP E f c o.dst cs φ K → ∃ ψ, K ψ ∧ ∃ k0, ∀ k, k0 ≤ k → ∀ φ1, Le φ φ1 → ∃ ψ1, Le ψ ψ1 ∧ (if extraOk (E.pks f) c.args.size cs = true then callX E.τ E.pks (evF E k) f c o.dst (cs.map .box) φ1 else none) = some ψ1 := by
          rintro f cs ⟨ks, hks, hex, as, has, rs, outs, ⟨k0, hr⟩, h8, φ', hb, hK⟩
          refine ⟨_, hK, k0, fun k hk φ1 hle => ?_⟩
          obtain ⟨ψ', q1, q2⟩ := backsX_le hle hle hb
          refine ⟨_, q2.putRes o.dst h8, ?_⟩
          rw [hks, if_pos hex]
          unfold callX
          rw [hks]
          simp only
          rw [argsX_leA hle has]
          simp only
          rw [hr k hk]
          simp only
          rw [if_pos h8, q1]
        have h : callVP E (φ t) c o.dst φ K := h
        unfold callVP at h
        split at h
        · rename_i f caps hφ
          obtain ⟨cs, hcs, h⟩ := h
          obtain ⟨ψ, hK, k0, h0⟩ := key f cs h
          refine ⟨ψ, hK, k0, fun k hk φ1 hle => ?_⟩
          obtain ⟨ψ1, q1, q2⟩ := h0 k hk φ1 hle
          refine ⟨ψ1, q1, ?_⟩
          unfold evOp; rw [ho]; simp only [hc]
          rw [hle.at (by rw [hφ]; simp), hφ]
          simp only [capsX_le hle hcs]
          exact q2
        · rename_i f cs hφ
          obtain ⟨ψ, hK, k0, h0⟩ := key f cs h
          refine ⟨ψ, hK, k0, fun k hk φ1 hle => ?_⟩
          obtain ⟨ψ1, q1, q2⟩ := h0 k hk φ1 hle
          refine ⟨ψ1, q1, ?_⟩
          unfold evOp; rw [ho]; simp only [hc]
          rw [hle.at (by rw [hφ]; simp), hφ]
          exact q2
        · exact h.elim
      | _ => exact h.elim
    | builtin b =>
      rw [hc] at h
      refine pure (fun F φ1 => ?_) (by rw [ho]; exact h)
      unfold evOp; rw [ho]; simp only [hc]; rfl
    | invoke r m =>
      rw [hc] at h
      refine pure (fun F φ1 => ?_) (by rw [ho]; exact h)
      unfold evOp; rw [ho]; simp only [hc]; rfl
  | _ =>
    rw [ho] at h
    refine pure (fun F φ1 => ?_) (by rw [ho]; exact h)
    unfold evOp; rw [ho]; rfl

theorem opsP_ok {ops : Array Oper} : ∀ {l : List Oper} {sk : Option (List Nat)} {φ : Fr} {K : Fr → Prop}, opsP E ops l sk φ K → ∃ ψ, K ψ ∧ OpsOk E ops l sk φ ψ
  | [], sk, φ, K, h => ⟨φ, h, 0, fun k _ φ1 hle => ⟨φ1, hle, rfl⟩⟩
  | o :: l, sk, φ, K, h => by
    have go : opP E o φ (fun φ' => opsP E ops l (rmS o.dst sk) φ' K) → ∃ ψ, K ψ ∧ ∃ k0, ∀ k, k0 ≤ k → ∀ φ1, Le φ φ1 → ∃ φ' ψ1, Le ψ ψ1 ∧ evOp E.τ E.pks (evF E k) o φ1 = some φ' ∧ evOps E.τ E.pks (evF E k) ops l φ' (rmS o.dst sk) = some ψ1 := by
      intro h
      obtain ⟨ψ0, hK0, k0, h0⟩ := opP_ok h
      obtain ⟨ψ, hK, k1, h1⟩ := opsP_ok hK0
      refine ⟨ψ, hK, max k0 k1, fun k hk φ1 hle => ?_⟩
      obtain ⟨φ', q1, q2⟩ := h0 k (by omega) φ1 hle
      obtain ⟨ψ1, q3, q4⟩ := h1 k (by omega) φ' q1
      exact ⟨φ', ψ1, q3, q2, q4⟩
    unfold opsP at h
    split at h
    · rename_i hg
      obtain ⟨ψ, hK, k0, h0⟩ := go h
      refine ⟨ψ, hK, k0, fun k hk φ1 hle => ?_⟩
      obtain ⟨φ', ψ1, q1, q2, q3⟩ := h0 k hk φ1 hle
      refine ⟨ψ1, q1, ?_⟩
      simp only [evOps, hg, q2]
      exact q3
    · rename_i j want hg
      obtain ⟨d, hd, hin, hout⟩ := h
      cases hs : inS d sk with
      | true =>
        obtain ⟨ψ, hK, k0, h0⟩ := opsP_ok (hin hs)
        refine ⟨ψ, hK, k0, fun k hk φ1 hle => ?_⟩
        obtain ⟨ψ1, q1, q2⟩ := h0 k hk _ (hle.putRes o.dst (rs := []) (by simp))
        refine ⟨ψ1, q1, ?_⟩
        simp only [evOps, hg, hd, hs, if_true]
        exact q2
      | false =>
        obtain ⟨v, hv, b, rfl, hb1, hb2⟩ := hout hs
        have hval : ∀ φ1, Le φ φ1 → (φ1 d).val = some (.bool b) := by
          intro φ1 hle
          rw [hle.at (by intro e; rw [e] at hv; cases hv)]; exact hv
        by_cases hbw : b = want
        · obtain ⟨ψ, hK, k0, h0⟩ := go (hb1 hbw)
          refine ⟨ψ, hK, k0, fun k hk φ1 hle => ?_⟩
          obtain ⟨φ', ψ1, q1, q2, q3⟩ := h0 k hk φ1 hle
          refine ⟨ψ1, q1, ?_⟩
          simp only [evOps, hg, hd, hs, hval φ1 hle, Bool.false_eq_true, if_false]
          rw [if_pos hbw, q2]
          exact q3
        · obtain ⟨ψ, hK, k0, h0⟩ := opsP_ok (hb2 hbw)
          refine ⟨ψ, hK, k0, fun k hk φ1 hle => ?_⟩
          obtain ⟨ψ1, q1, q2⟩ := h0 k hk _ (hle.putRes o.dst (rs := []) (by simp))
          refine ⟨ψ1, q1, ?_⟩
          simp only [evOps, hg, hd, hs, hval φ1 hle, Bool.false_eq_true, if_false]
          rw [if_neg hbw]
          exact q2

theorem codeP_ok {Dr : Nat → List Nat} : ∀ {c : Code} {φ : Fr} {Q : EE → Fr → Prop}, drOk Dr c = true → codeP E Dr c φ Q → ∃ e ψ, Q e ψ ∧ CodeOk E c φ e ψ := by
  intro c
  induction c with
  | skip => intro φ Q hd h; exact ⟨_, _, h, 0, fun k _ φ1 hle => ⟨φ1, hle, fun kk _ => rfl⟩⟩
  | region id ops dr =>
    intro φ Q hd h
    cases dr with
    | false =>
      simp only [codeP] at h
      obtain ⟨ψ, hK, k0, h0⟩ := opsP_ok h
      refine ⟨_, _, hK, k0, fun k hk φ1 hle => ?_⟩
      obtain ⟨ψ1, q1, q2⟩ := h0 k hk φ1 hle
      exact ⟨ψ1, q1, fun kk _ => by simp [evC, q2]⟩
    | true =>
      simp only [codeP, drawnP] at h
      simp only [drOk, Bool.and_eq_true] at hd
      obtain ⟨hd, hd2⟩ := hd
      split at h
      · rename_i hmk
        rw [hmk] at hd2
        simp only at hd2
        obtain ⟨ψ, hK, k0, h0⟩ := opsP_ok h
        refine ⟨_, _, hK, k0, fun k hk φ1 hle => ?_⟩
        obtain ⟨ψ1, q1, q2⟩ := h0 k hk _ ((hle.clrX _).trans (clr_more hd φ1))
        refine ⟨ψ1, q1, fun kk _ => ?_⟩
        simp only [evC, if_true, evD]
        rw [show ((ops.toList.take (cutOf ops.toList)).filterMap stT).isEmpty = true from hd2, if_pos rfl]
        rw [show clrX (dstsOf (ops.toList.take (cutOf ops.toList))) φ1 = clrX (clrDs ops) φ1 from rfl, q2]
        rfl
      · rename_i c cs hmk
        rw [hmk] at hd2
        simp only [Bool.and_eq_true, Bool.not_eq_true', beq_iff_eq] at hd2
        obtain ⟨⟨⟨hd3, hd4⟩, hd5⟩, hd6⟩ := hd2
        obtain ⟨s0, s1, s2⟩ := selM_maskOf ops
        rw [hd4, s0, s1, s2, hd5, hd6] at h
        obtain ⟨ψ1, hK1, k0, h0⟩ := opsP_ok h
        obtain ⟨ψ2, hK2, k1, h1⟩ := opsP_ok hK1
        obtain ⟨ψ3, hK3, k2, h2⟩ := opsP_ok hK2
        refine ⟨_, _, hK3, max k0 (max k1 k2), fun k hk φ1 hle => ?_⟩
        have hhide : Le (hideX (wrs ops) φ) (hideX (wrs ops) φ1) := by
          intro s
          unfold hideX
          split
          · exact .inl rfl
          · exact hle s
        obtain ⟨χ1, q1, q2⟩ := h0 k (by omega) _ (hhide.clrX _)
        have hrst : Le (rstX ((wrs ops).filter fun s => !(clrDs ops).contains s) φ ψ1) (rstX ((wrs ops).filter fun s => !(clrDs ops).contains s) φ1 χ1) := by
          intro s
          unfold rstX
          split
          · exact hle s
          · exact q1 s
        obtain ⟨χ2, q3, q4⟩ := h1 k (by omega) _ hrst
        obtain ⟨χ3, q5, q6⟩ := h2 k (by omega) _ q3
        refine ⟨χ3, q5, fun kk _ => ?_⟩
        simp only [evC, if_true, evD]
        rw [show ((ops.toList.take (cutOf ops.toList)).filterMap stT).isEmpty = false from hd3, if_neg (by simp)]
        rw [show clrX (dstsOf (ops.toList.take (cutOf ops.toList))) (hideX ((ops.toList.take (cutOf ops.toList)).filterMap stT) φ1) = clrX (clrDs ops) (hideX (wrs ops) φ1) from rfl, show (ops.toList.take (cutOf ops.toList)).filter (fun o => !isEf ((ops.toList.take (cutOf ops.toList)).filterMap stT) o) = (ops.toList.take (cutOf ops.toList)).filter (fun o => !isEf (wrs ops) o) from rfl, q2]
        simp only
        rw [show rstX (((ops.toList.take (cutOf ops.toList)).filterMap stT).filter fun s => !(dstsOf (ops.toList.take (cutOf ops.toList))).contains s) φ1 χ1 = rstX ((wrs ops).filter fun s => !(clrDs ops).contains s) φ1 χ1 from rfl, show (ops.toList.take (cutOf ops.toList)).filter (isEf ((ops.toList.take (cutOf ops.toList)).filterMap stT)) = (ops.toList.take (cutOf ops.toList)).filter (isEf (wrs ops)) from rfl, q4]
        simp only
        rw [q6]
        rfl
  | seq a b iha ihb =>
    intro φ Q hd h
    simp only [codeP] at h
    simp only [drOk, Bool.and_eq_true] at hd
    obtain ⟨e, ψ, hQ, k0, h0⟩ := iha hd.1 h
    cases e with
    | normal =>
      obtain ⟨e2, ψ2, hQ2, k1, h1⟩ := ihb hd.2 hQ
      refine ⟨e2, ψ2, hQ2, max k0 k1, fun k hk φ1 hle => ?_⟩
      obtain ⟨ψ1, q1, q2⟩ := h0 k (by omega) φ1 hle
      obtain ⟨ψ3, q3, q4⟩ := h1 k (by omega) ψ1 q1
      exact ⟨ψ3, q3, fun kk hkk => by simp only [evC, q2 kk (by omega), q4 kk (by omega)]⟩
    | exit id =>
      refine ⟨_, _, hQ, k0, fun k hk φ1 hle => ?_⟩
      obtain ⟨ψ1, q1, q2⟩ := h0 k hk φ1 hle
      exact ⟨ψ1, q1, fun kk hkk => by simp only [evC, q2 kk hkk]⟩
    | ret =>
      refine ⟨_, _, hQ, k0, fun k hk φ1 hle => ?_⟩
      obtain ⟨ψ1, q1, q2⟩ := h0 k hk φ1 hle
      exact ⟨ψ1, q1, fun kk hkk => by simp only [evC, q2 kk hkk]⟩
  | cond x a b iha ihb =>
    intro φ Q hd h
    simp only [codeP] at h
    obtain ⟨v, hv, t, rfl, h1, h2⟩ := h
    cases t with
    | true =>
      obtain ⟨e, ψ, hQ, k0, h0⟩ := iha (by simp only [drOk, Bool.and_eq_true] at hd; exact hd.1) (h1 rfl)
      refine ⟨e, ψ, hQ, k0, fun k hk φ1 hle => ?_⟩
      obtain ⟨ψ1, q1, q2⟩ := h0 k hk φ1 hle
      exact ⟨ψ1, q1, fun kk hkk => by simp only [evC, val_le hle hv, if_true, q2 kk hkk]⟩
    | false =>
      obtain ⟨e, ψ, hQ, k0, h0⟩ := ihb (by simp only [drOk, Bool.and_eq_true] at hd; exact hd.2) (h2 rfl)
      refine ⟨e, ψ, hQ, k0, fun k hk φ1 hle => ?_⟩
      obtain ⟨ψ1, q1, q2⟩ := h0 k hk φ1 hle
      exact ⟨ψ1, q1, fun kk hkk => by simp only [evC, val_le hle hv, Bool.false_eq_true, if_false, q2 kk hkk]⟩
  | block id c ih =>
    intro φ Q hd h
    simp only [codeP] at h
    obtain ⟨e, ψ, hQ, k0, h0⟩ := ih (by simpa only [drOk] using hd) h
    by_cases he : e = .exit id
    · rw [if_pos he] at hQ
      refine ⟨_, _, hQ, k0, fun k hk φ1 hle => ?_⟩
      obtain ⟨ψ1, q1, q2⟩ := h0 k hk φ1 hle
      exact ⟨ψ1, q1, fun kk hkk => by simp [evC, q2 kk hkk, he]⟩
    · rw [if_neg he] at hQ
      refine ⟨_, _, hQ, k0, fun k hk φ1 hle => ?_⟩
      obtain ⟨ψ1, q1, q2⟩ := h0 k hk φ1 hle
      refine ⟨ψ1, q1, fun kk hkk => ?_⟩
      simp only [evC, q2 kk hkk]
      cases e with
      | normal => rfl
      | ret => rfl
      | exit id' => simp only; rw [if_neg (by rintro rfl; exact he rfl)]
  | loop c ih =>
    intro φ Q hd h
    simp only [codeP] at h
    obtain ⟨I, n, φ0, hle0, hI, hround⟩ := h
    -- by the number that falls
    have key : ∀ n ψ, I n ψ → ∃ e ψ', Q e ψ' ∧ ∃ k0, ∀ k, k0 ≤ k → ∀ ψ1, Le ψ ψ1 → ∃ ψ2, Le ψ' ψ2 ∧ ∀ kk, k0 ≤ kk → ∀ j, k0 ≤ j → iter (evC E.τ E.pks (evF E k) kk c) j ψ1 = some (e, ψ2) := by
      intro n
      induction n using Nat.strongRecOn with
      | _ n ihn =>
        intro ψ hI
        obtain ⟨e, ψ', hQ, k0, h0⟩ := ih (by simpa only [drOk] using hd) (hround n ψ hI)
        cases e with
        | normal =>
          obtain ⟨m, ψ0, hm, hle, hI'⟩ := hQ
          obtain ⟨e2, ψ2, hQ2, k1, h1⟩ := ihn m hm ψ0 hI'
          refine ⟨e2, ψ2, hQ2, max k0 k1 + 1, fun k hk ψ1 hl1 => ?_⟩
          obtain ⟨ψ3, q1, q2⟩ := h0 k (by omega) ψ1 hl1
          obtain ⟨ψ4, q3, q4⟩ := h1 k (by omega) ψ3 (hle.trans q1)
          refine ⟨ψ4, q3, fun kk hkk j hj => ?_⟩
          cases j with
          | zero => omega
          | succ j => simp only [iter, q2 kk (by omega)]; exact q4 kk (by omega) j (by omega)
        | exit id =>
          refine ⟨_, _, hQ, k0 + 1, fun k hk ψ1 hl1 => ?_⟩
          obtain ⟨ψ3, q1, q2⟩ := h0 k (by omega) ψ1 hl1
          refine ⟨ψ3, q1, fun kk hkk j hj => ?_⟩
          cases j with
          | zero => omega
          | succ j => simp only [iter, q2 kk (by omega)]
        | ret =>
          refine ⟨_, _, hQ, k0 + 1, fun k hk ψ1 hl1 => ?_⟩
          obtain ⟨ψ3, q1, q2⟩ := h0 k (by omega) ψ1 hl1
          refine ⟨ψ3, q1, fun kk hkk j hj => ?_⟩
          cases j with
          | zero => omega
          | succ j => simp only [iter, q2 kk (by omega)]
    obtain ⟨e, ψ', hQ, k0, h0⟩ := key n φ0 hI
    refine ⟨e, ψ', hQ, k0, fun k hk φ1 hle => ?_⟩
    obtain ⟨ψ2, q1, q2⟩ := h0 k hk φ1 (hle0.trans hle)
    exact ⟨ψ2, q1, fun kk hkk => by simp only [evC]; exact q2 kk hkk kk hkk⟩
  | exit id => intro φ Q hd h; exact ⟨_, _, h, 0, fun k _ φ1 hle => ⟨φ1, hle, fun kk _ => rfl⟩⟩
  | ret => intro φ Q hd h; exact ⟨_, _, h, 0, fun k _ φ1 hle => ⟨φ1, hle, fun kk _ => rfl⟩⟩
  | _ => intro φ Q hd h; exact h.elim

/-- A function, by a walk of its body. -/
theorem runs_by {Dr : Nat → List Nat} {f : Nat} {fn : Func} {c : Code} {ks : List PK} {xs rs outs : List X} (hp : E.prims f = none) (hf : E.funcs f = some fn) (hb : fn.body = some c) (hk : E.pks f = some ks) (hl : xs.length = ks.length) (hd : drOk Dr c = true)
    (h : codeP E Dr c (args0 xs) fun e φ => (e = .normal ∨ e = .ret) ∧ resesX E.τ φ fn.results.toList = some rs ∧ outsX φ 0 ks = some outs) : Runs E f xs rs outs := by
  obtain ⟨e, ψ, ⟨he, hr, ho⟩, k0, h0⟩ := codeP_ok hd h
  refine ⟨k0 + 1, fun k hk' => ?_⟩
  cases k with
  | zero => omega
  | succ k =>
    obtain ⟨ψ1, q1, q2⟩ := h0 k (by omega) _ (.refl _)
    simp only [evF, hp, hf, hk, hb]
    rw [if_pos hl, q2 k (by omega)]
    rcases he with rfl | rfl <;> simp only [resesX_le q1 hr, outsX_le q1 ho]
end
end Go.Ev

/- A walk in plain data, by rules that reckon. -/
namespace Go.Ev

/-- A frame as a list of slots. -/
def lk : List (Nat × X) → Nat → X
  | [], _ => .u
  | (y, a) :: l, x => if x = y then a else lk l x
def mk (l : List (Nat × X)) : Fr := fun s => lk l s
def ins (t : Nat) (x : X) : List (Nat × X) → List (Nat × X)
  | [] => [(t, x)]
  | (y, a) :: l => if t = y then (t, x) :: l else (y, a) :: ins t x l
def clrL (ds : List Nat) : List (Nat × X) → List (Nat × X)
  | [] => []
  | (y, a) :: l => if isHit ds y then clrL ds l else (y, a) :: clrL ds l

attribute [simp] lk ins clrL

@[simp] theorem mk_at (l : List (Nat × X)) (s : Nat) : mk l s = lk l s := rfl

theorem lk_ins (t : Nat) (x : X) : ∀ (l : List (Nat × X)) (s : Nat), lk (ins t x l) s = if s = t then x else lk l s
  | [], s => by simp
  | (y, a) :: l, s => by
    have ih := lk_ins t x l s
    simp only [ins]
    by_cases e : t = y
    · subst e
      rw [if_pos rfl]
      simp only [lk]
      by_cases e : s = t <;> simp [e]
    · rw [if_neg e]
      simp only [lk]
      by_cases e1 : s = y
      · subst e1
        rw [if_pos rfl, if_pos rfl, if_neg (fun h => e h.symm)]
      · rw [if_neg e1, if_neg e1]; exact ih

@[simp] theorem upd_mk (l : List (Nat × X)) (t : Nat) (x : X) : upd (mk l) t x = mk (ins t x l) := by
  funext s
  simp only [mk, lk_ins, upd]

theorem lk_clrL (ds : List Nat) : ∀ (l : List (Nat × X)) (s : Nat), lk (clrL ds l) s = if isHit ds s then .u else lk l s
  | [], s => by simp
  | (y, a) :: l, s => by
    have ih := lk_clrL ds l s
    simp only [clrL]
    by_cases e : isHit ds y = true
    · rw [if_pos e, ih]
      simp only [lk]
      by_cases e1 : s = y
      · subst e1; simp [e]
      · simp [e1]
    · rw [if_neg e]
      simp only [lk]
      by_cases e1 : s = y
      · subst e1; simp [e]
      · rw [if_neg e1, if_neg e1]; exact ih

@[simp] theorem clr_mk (ds : List Nat) (l : List (Nat × X)) : clrX ds (mk l) = mk (clrL ds l) := by
  funext s
  simp only [mk, lk_clrL, clrX]

@[simp] theorem args0_0 : args0 [] = mk [] := by funext s; rfl
@[simp] theorem args0_1 (a : X) : args0 [a] = mk [(0, a)] := by
  funext s; rcases s with _ | s <;> simp [args0, mk]
@[simp] theorem args0_2 (a b : X) : args0 [a, b] = mk [(0, a), (1, b)] := by
  funext s; rcases s with _ | _ | s <;> simp [args0, mk]
@[simp] theorem args0_3 (a b c : X) : args0 [a, b, c] = mk [(0, a), (1, b), (2, c)] := by
  funext s; rcases s with _ | _ | _ | s <;> simp [args0, mk]
@[simp] theorem args0_4 (a b c d : X) : args0 [a, b, c, d] = mk [(0, a), (1, b), (2, c), (3, d)] := by
  funext s; rcases s with _ | _ | _ | _ | s <;> simp [args0, mk]

/-- What a frame holds at its head. -/
def headL : List (Nat × X) → Fr → Prop
  | [], _ => True
  | (y, a) :: T, ψ => ψ y = a ∧ headL T ψ
attribute [simp] headL

theorem headL_le : ∀ {T : List (Nat × X)} {ψ : Fr}, headL T ψ → Le (mk T) ψ
  | [], ψ, _ => fun s => .inl rfl
  | (y, a) :: T, ψ, h => fun s => by
    have ih := headL_le h.2 s
    simp only [mk_at, lk]
    by_cases e : s = y
    · subst e; rw [if_pos rfl]; exact .inr h.1
    · rw [if_neg e]; exact ih

inductive Job where
  | code (c : Code)
  | ops (ops : Array Oper) (rest : List Oper) (sk : Option (List Nat))
  | blk (id : Nat)
  | rst (W : List Nat) (φ : Fr)

/-- What is left to be done, behind an end. -/
def runW (E : Prog) (Dr : Nat → List Nat) (R : EE → Fr → Prop) : List Job → EE → Fr → Prop
  | [], e, φ => R e φ
  | .code c :: js, .normal, φ => codeP E Dr c φ (runW E Dr R js)
  | .code _ :: js, e, φ => runW E Dr R js e φ
  | .ops ops rest sk :: js, .normal, φ => opsP E ops rest sk φ (runW E Dr R js .normal)
  | .ops _ _ _ :: js, e, φ => runW E Dr R js e φ
  | .blk id :: js, .exit id', φ => if id' = id then runW E Dr R js .normal φ else runW E Dr R js (.exit id') φ
  | .blk _ :: js, e, φ => runW E Dr R js e φ
  | .rst W φ0 :: js, .normal, φ => runW E Dr R js .normal (rstX W φ0 φ)
  | .rst _ _ :: js, e, φ => runW E Dr R js e φ

/-- A region whose order is drawn. -/
def drawnD (E : Prog) (Dr : Nat → List Nat) (R : EE → Fr → Prop) (mask W ds : List Nat) (ops : Array Oper) (js : List Job) (φ : Fr) : Prop := match mask with
  | [] => runW E Dr R (.ops ops ops.toList (some []) :: js) .normal (clrX ds φ)
  | c :: cs => runW E Dr R (.ops ops (selM 0 (c :: cs) ops.toList) none :: .rst (W.filter fun s => !ds.contains s) φ :: .ops ops (selM 1 (c :: cs) ops.toList) none :: .ops ops (selM 2 (c :: cs) ops.toList) none :: js) .normal (clrX ds (hideX W φ))

def hideL (W : List Nat) : List (Nat × X) → List (Nat × X)
  | [] => []
  | (y, a) :: l => if W.contains y then hideL W l else (y, a) :: hideL W l
def rstL : List Nat → List (Nat × X) → List (Nat × X) → List (Nat × X)
  | [], _, l' => l'
  | s :: W, l, l' => ins s (lk l s) (rstL W l l')
attribute [simp] hideL rstL selM

theorem lk_hideL (W : List Nat) : ∀ (l : List (Nat × X)) (s : Nat), lk (hideL W l) s = if W.contains s then .u else lk l s
  | [], s => by simp
  | (y, a) :: l, s => by
    have ih := lk_hideL W l s
    simp only [hideL]
    by_cases e : W.contains y = true
    · rw [if_pos e, ih]
      simp only [lk]
      by_cases e1 : s = y
      · subst e1; rw [if_pos e, if_pos e]
      · rw [if_neg e1]
    · rw [if_neg e]
      simp only [lk]
      by_cases e1 : s = y
      · subst e1; rw [if_pos rfl, if_pos rfl, if_neg e]
      · rw [if_neg e1, if_neg e1]; exact ih

@[simp] theorem hide_mk (W : List Nat) (l : List (Nat × X)) : hideX W (mk l) = mk (hideL W l) := by
  funext s
  simp only [mk, lk_hideL, hideX]

theorem lk_rstL (l l' : List (Nat × X)) (s : Nat) : ∀ (W : List Nat), lk (rstL W l l') s = if W.contains s then lk l s else lk l' s
  | [] => by simp
  | k :: W => by
    have ih := lk_rstL l l' s W
    simp only [rstL, lk_ins]
    by_cases e : s = k
    · subst e; simp
    · rw [if_neg e, ih]
      have : (k :: W).contains s = W.contains s := by
        rw [List.contains_cons]
        have : (s == k) = false := by simpa using e
        rw [this, Bool.false_or]
      rw [this]

@[simp] theorem rst_mk (W : List Nat) (l l' : List (Nat × X)) : rstX W (mk l) (mk l') = mk (rstL W l l') := by
  funext s
  simp only [mk, lk_rstL, rstX]

def condD (E : Prog) (Dr : Nat → List Nat) (R : EE → Fr → Prop) (x : X) (a b : Code) (js : List Job) (φ : Fr) : Prop :=
  someK x.val fun v => ∃ t, v = .bool t ∧ (t = true → runW E Dr R (.code a :: js) .normal φ) ∧ (t = false → runW E Dr R (.code b :: js) .normal φ)

def guardD (E : Prog) (Dr : Nat → List Nat) (R : EE → Fr → Prop) (x : X) (want : Bool) (o : Oper) (ops : Array Oper) (rest : List Oper) (sk : Option (List Nat)) (js : List Job) (φ : Fr) : Prop :=
  someK x.val fun v => ∃ b, v = .bool b ∧ (b = want → runW E Dr R (.ops ops ({ o with guard := none } :: rest) sk :: js) .normal φ) ∧ (b ≠ want → runW E Dr R (.ops ops rest (addS o.dst sk) :: js) .normal (putRes o.dst [] φ))

/-- A guard: passed over if what it asks was. -/
def skipD (E : Prog) (Dr : Nat → List Nat) (R : EE → Fr → Prop) (s : Bool) (x : X) (want : Bool) (o : Oper) (ops : Array Oper) (rest : List Oper) (sk : Option (List Nat)) (js : List Job) (φ : Fr) : Prop :=
  (s = true → runW E Dr R (.ops ops rest (addS o.dst sk) :: js) .normal (putRes o.dst [] φ)) ∧ (s = false → guardD E Dr R x want o ops rest sk js φ)

def afterP (E : Prog) (Dr : Nat → List Nat) (R : EE → Fr → Prop) (r : Option X) (dst : Option Tmp) (js : List Job) (φ : Fr) : Prop := someK r fun x => runW E Dr R js .normal (putRes dst [x] φ)

def storeD (E : Prog) (Dr : Nat → List Nat) (R : EE → Fr → Prop) (r : Option Fr) (js : List Job) : Prop := someK r (runW E Dr R js .normal)

/-- Behind a call: what it gave is put down. -/
def backD (E : Prog) (Dr : Nat → List Nat) (R : EE → Fr → Prop) (ks : List PK) (args : List Operand) (dst : Option Tmp) (js : List Job) (φ : Fr) (rs outs : List X) : Prop :=
  rs.length ≤ 8 ∧ storeD E Dr R ((backsX E.τ φ ks args outs φ).map (putRes dst rs)) js

def callD (E : Prog) (Dr : Nat → List Nat) (R : EE → Fr → Prop) (f : Nat) (as : Option (List X)) (ks : List PK) (args : List Operand) (dst : Option Tmp) (js : List Job) (φ : Fr) : Prop :=
  someK as fun as => callK E f as (backD E Dr R ks args dst js φ)

/-- A call of a function's value. -/
def callED (E : Prog) (Dr : Nat → List Nat) (R : EE → Fr → Prop) (f : Nat) (cs : List (List D)) (args : Array Operand) (ts : Array TypeId) (dst : Option Tmp) (js : List Job) (φ : Fr) : Prop :=
  someK (E.pks f) fun ks => extraOk (some ks) args.size cs = true ∧ callD E Dr R f ((argsX E.τ φ (ks.take args.size) args.toList ts.toList).map (· ++ cs.map .box)) (ks.take args.size) args.toList dst js φ

def callVD (E : Prog) (Dr : Nat → List Nat) (R : EE → Fr → Prop) (x : X) (args : Array Operand) (ts : Array TypeId) (dst : Option Tmp) (js : List Job) (φ : Fr) : Prop := match x with
  | .clo f caps => someK (capsX φ caps) fun cs => callED E Dr R f cs args ts dst js φ
  | .fv f cs => callED E Dr R f cs args ts dst js φ
  | _ => False

def loopD (E : Prog) (Dr : Nat → List Nat) (R : EE → Fr → Prop) (c : Code) (js : List Job) (φ : Fr) : Prop := LoopP (codeP E Dr c) φ (runW E Dr R js)

section
variable {E : Prog} {Dr : Nat → List Nat} {R : EE → Fr → Prop} {js : List Job} {φ : Fr}

@[simp] theorem run_nil (e : EE) : runW E Dr R [] e φ = R e φ := propext ⟨fun h => h, fun h => h⟩
@[simp] theorem run_skip : runW E Dr R (.code .skip :: js) .normal φ = runW E Dr R js .normal φ := propext ⟨fun h => h, fun h => h⟩
@[simp] theorem run_ret : runW E Dr R (.code .ret :: js) .normal φ = runW E Dr R js .ret φ := propext ⟨fun h => h, fun h => h⟩
@[simp] theorem run_exit (id : Nat) : runW E Dr R (.code (.exit id) :: js) .normal φ = runW E Dr R js (.exit id) φ := propext ⟨fun h => h, fun h => h⟩
theorem runW_code (c : Code) : runW E Dr R (.code c :: js) = fun e φ => match e with
    | .normal => codeP E Dr c φ (runW E Dr R js)
    | e => runW E Dr R js e φ := by
  funext e φ; cases e <;> rfl
@[simp] theorem run_seq (a b : Code) : runW E Dr R (.code (.seq a b) :: js) .normal φ = runW E Dr R (.code a :: .code b :: js) .normal φ := by
  show codeP E Dr a φ _ = codeP E Dr a φ _
  rw [runW_code] <;> congr 1
@[simp] theorem run_block (id : Nat) (c : Code) : runW E Dr R (.code (.block id c) :: js) .normal φ = runW E Dr R (.code c :: .blk id :: js) .normal φ := by
  show codeP E Dr c φ _ = codeP E Dr c φ _
  congr 1
  funext e φ
  cases e with
  | normal => simp [runW]
  | exit id' => simp [runW]
  | ret => simp [runW]
@[simp] theorem run_region (id : Nat) (ops : Array Oper) : runW E Dr R (.code (.region id ops false) :: js) .normal φ = runW E Dr R (.ops ops ops.toList (some []) :: js) .normal φ := propext ⟨fun h => h, fun h => h⟩
@[simp] theorem run_drawn (id : Nat) (ops : Array Oper) : runW E Dr R (.code (.region id ops true) :: js) .normal φ = drawnD E Dr R (Dr (id + 20000)) (Dr (id + 10000)) (Dr id) ops js φ := by
  show drawnP E ops (Dr (id + 20000)) (Dr (id + 10000)) (Dr id) φ _ = _
  generalize Dr (id + 20000) = mask
  cases mask <;> exact propext ⟨fun h => h, fun h => h⟩
@[simp] theorem drawn_nil (W ds : List Nat) (ops : Array Oper) : drawnD E Dr R [] W ds ops js φ = runW E Dr R (.ops ops ops.toList (some []) :: js) .normal (clrX ds φ) := propext ⟨fun h => h, fun h => h⟩
@[simp] theorem drawn_cons (c : Nat) (cs W ds : List Nat) (ops : Array Oper) : drawnD E Dr R (c :: cs) W ds ops js φ = runW E Dr R (.ops ops (selM 0 (c :: cs) ops.toList) none :: .rst (W.filter fun s => !ds.contains s) φ :: .ops ops (selM 1 (c :: cs) ops.toList) none :: .ops ops (selM 2 (c :: cs) ops.toList) none :: js) .normal (clrX ds (hideX W φ)) := propext ⟨fun h => h, fun h => h⟩
@[simp] theorem run_rst (W : List Nat) (φ0 : Fr) : runW E Dr R (.rst W φ0 :: js) .normal φ = runW E Dr R js .normal (rstX W φ0 φ) := propext ⟨fun h => h, fun h => h⟩
@[simp] theorem run_cond (c : Operand) (a b : Code) : runW E Dr R (.code (.cond c a b) :: js) .normal φ = condD E Dr R (opX E.τ φ 0 c) a b js φ := propext ⟨fun h => h, fun h => h⟩
@[simp] theorem run_loop (c : Code) : runW E Dr R (.code (.loop c) :: js) .normal φ = loopD E Dr R c js φ := propext ⟨fun h => h, fun h => h⟩
@[simp] theorem run_code_exit (c : Code) (id : Nat) : runW E Dr R (.code c :: js) (.exit id) φ = runW E Dr R js (.exit id) φ := propext ⟨fun h => h, fun h => h⟩
@[simp] theorem run_code_ret (c : Code) : runW E Dr R (.code c :: js) .ret φ = runW E Dr R js .ret φ := propext ⟨fun h => h, fun h => h⟩
@[simp] theorem run_ops_exit (ops : Array Oper) (rest : List Oper) (sk : Option (List Nat)) (id' : Nat) : runW E Dr R (.ops ops rest sk :: js) (.exit id') φ = runW E Dr R js (.exit id') φ := propext ⟨fun h => h, fun h => h⟩
@[simp] theorem run_ops_ret (ops : Array Oper) (rest : List Oper) (sk : Option (List Nat)) : runW E Dr R (.ops ops rest sk :: js) .ret φ = runW E Dr R js .ret φ := propext ⟨fun h => h, fun h => h⟩
@[simp] theorem run_blk (id : Nat) : runW E Dr R (.blk id :: js) .normal φ = runW E Dr R js .normal φ := propext ⟨fun h => h, fun h => h⟩
@[simp] theorem run_blk_ret (id : Nat) : runW E Dr R (.blk id :: js) .ret φ = runW E Dr R js .ret φ := propext ⟨fun h => h, fun h => h⟩
@[simp] theorem run_blk_exit (id id' : Nat) : runW E Dr R (.blk id :: js) (.exit id') φ = if id' = id then runW E Dr R js .normal φ else runW E Dr R js (.exit id') φ := propext ⟨fun h => h, fun h => h⟩
@[simp] theorem run_ops_nil (ops : Array Oper) (sk : Option (List Nat)) : runW E Dr R (.ops ops [] sk :: js) .normal φ = runW E Dr R js .normal φ := propext ⟨fun h => h, fun h => h⟩

/-- The operations that leave nothing but a result. -/
def isP (o : Op) : Bool := match o with
  | .store _ _ _ => false
  | .call c => match c.callee with
    | .value _ => false
    | _ => true
  | _ => true

theorem run_op {ops : Array Oper} {dst : Option Tmp} {op : Op} {ty : TypeId} {pos : String} {after : Array Edge} {rest : List Oper} {sk : Option (List Nat)} (hc : isP op = true) :
    runW E Dr R (.ops ops ({ dst := dst, op := op, type := ty, pos := pos, after := after, guard := none } :: rest) sk :: js) .normal φ = afterP E Dr R (pureX E.τ φ op ty) dst (.ops ops rest (rmS dst sk) :: js) φ := by
  show opP E _ φ _ = _
  unfold opP afterP
  cases op with
  | store x y z => cases hc
  | call c =>
    simp only [isP] at hc
    simp only
    split
    · rename_i e; rw [e] at hc; cases hc
    · rename_i e; rw [e] at hc; cases hc
    · rename_i e; rw [e] at hc; cases hc
    · rfl
  | _ => rfl
end
end Go.Ev

/- The rules of a walk, one by one. -/
namespace Go.Ev
section
variable {E : Prog} {Dr : Nat → List Nat} {R : EE → Fr → Prop} {js : List Job} {φ : Fr} {ops : Array Oper} {dst : Option Tmp} {ty : TypeId} {pos : String} {after : Array Edge} {rest : List Oper} {sk : Option (List Nat)}

@[simp] theorem run_move (x : Operand) : runW E Dr R (.ops ops ({ dst := dst, op := .move x, type := ty, pos := pos, after := after, guard := none } :: rest) sk :: js) .normal φ = afterP E Dr R (pureX E.τ φ (.move x) ty) dst (.ops ops rest (rmS dst sk) :: js) φ := run_op rfl
@[simp] theorem run_assign (x : Operand) : runW E Dr R (.ops ops ({ dst := dst, op := .assign x, type := ty, pos := pos, after := after, guard := none } :: rest) sk :: js) .normal φ = afterP E Dr R (pureX E.τ φ (.assign x) ty) dst (.ops ops rest (rmS dst sk) :: js) φ := run_op rfl
@[simp] theorem run_pick (x y z : Operand) : runW E Dr R (.ops ops ({ dst := dst, op := .pick x y z, type := ty, pos := pos, after := after, guard := none } :: rest) sk :: js) .normal φ = afterP E Dr R (pureX E.τ φ (.pick x y z) ty) dst (.ops ops rest (rmS dst sk) :: js) φ := run_op rfl
@[simp] theorem run_alloc (t : TypeId) : runW E Dr R (.ops ops ({ dst := dst, op := .alloc t, type := ty, pos := pos, after := after, guard := none } :: rest) sk :: js) .normal φ = afterP E Dr R (pureX E.τ φ (.alloc t) ty) dst (.ops ops rest (rmS dst sk) :: js) φ := run_op rfl
@[simp] theorem run_box (t : TypeId) (x : Operand) : runW E Dr R (.ops ops ({ dst := dst, op := .box t x, type := ty, pos := pos, after := after, guard := none } :: rest) sk :: js) .normal φ = afterP E Dr R (pureX E.τ φ (.box t x) ty) dst (.ops ops rest (rmS dst sk) :: js) φ := run_op rfl
@[simp] theorem run_load (t : TypeId) (x : Operand) : runW E Dr R (.ops ops ({ dst := dst, op := .load t x, type := ty, pos := pos, after := after, guard := none } :: rest) sk :: js) .normal φ = afterP E Dr R (pureX E.τ φ (.load t x) ty) dst (.ops ops rest (rmS dst sk) :: js) φ := run_op rfl
@[simp] theorem run_nilCheck (x : Operand) : runW E Dr R (.ops ops ({ dst := dst, op := .nilCheck x, type := ty, pos := pos, after := after, guard := none } :: rest) sk :: js) .normal φ = afterP E Dr R (pureX E.τ φ (.nilCheck x) ty) dst (.ops ops rest (rmS dst sk) :: js) φ := run_op rfl
@[simp] theorem run_binOp (b : BinOp) (t t' : TypeId) (x y : Operand) : runW E Dr R (.ops ops ({ dst := dst, op := .binOp b t x y t', type := ty, pos := pos, after := after, guard := none } :: rest) sk :: js) .normal φ = afterP E Dr R (pureX E.τ φ (.binOp b t x y t') ty) dst (.ops ops rest (rmS dst sk) :: js) φ := run_op rfl
@[simp] theorem run_unOp (u : UnOp) (t : TypeId) (x : Operand) : runW E Dr R (.ops ops ({ dst := dst, op := .unOp u t x, type := ty, pos := pos, after := after, guard := none } :: rest) sk :: js) .normal φ = afterP E Dr R (pureX E.τ φ (.unOp u t x) ty) dst (.ops ops rest (rmS dst sk) :: js) φ := run_op rfl
@[simp] theorem run_fieldAddr (t : TypeId) (x : Operand) (f : Nat) : runW E Dr R (.ops ops ({ dst := dst, op := .fieldAddr t x f, type := ty, pos := pos, after := after, guard := none } :: rest) sk :: js) .normal φ = afterP E Dr R (pureX E.τ φ (.fieldAddr t x f) ty) dst (.ops ops rest (rmS dst sk) :: js) φ := run_op rfl
@[simp] theorem run_indexAddr (t : TypeId) (x y : Operand) : runW E Dr R (.ops ops ({ dst := dst, op := .indexAddr t x y, type := ty, pos := pos, after := after, guard := none } :: rest) sk :: js) .normal φ = afterP E Dr R (pureX E.τ φ (.indexAddr t x y) ty) dst (.ops ops rest (rmS dst sk) :: js) φ := run_op rfl
@[simp] theorem run_index (t : TypeId) (x y : Operand) : runW E Dr R (.ops ops ({ dst := dst, op := .index t x y, type := ty, pos := pos, after := after, guard := none } :: rest) sk :: js) .normal φ = afterP E Dr R (pureX E.τ φ (.index t x y) ty) dst (.ops ops rest (rmS dst sk) :: js) φ := run_op rfl
@[simp] theorem run_extract (x : Operand) (j : Nat) : runW E Dr R (.ops ops ({ dst := dst, op := .extract x j, type := ty, pos := pos, after := after, guard := none } :: rest) sk :: js) .normal φ = afterP E Dr R (pureX E.τ φ (.extract x j) ty) dst (.ops ops rest (rmS dst sk) :: js) φ := run_op rfl
@[simp] theorem run_slice (t : TypeId) (x : Operand) (lo hi mx : Option Operand) : runW E Dr R (.ops ops ({ dst := dst, op := .slice t x lo hi mx, type := ty, pos := pos, after := after, guard := none } :: rest) sk :: js) .normal φ = afterP E Dr R (pureX E.τ φ (.slice t x lo hi mx) ty) dst (.ops ops rest (rmS dst sk) :: js) φ := run_op rfl
@[simp] theorem run_convert (s d : TypeId) (x : Operand) : runW E Dr R (.ops ops ({ dst := dst, op := .convert s d x, type := ty, pos := pos, after := after, guard := none } :: rest) sk :: js) .normal φ = afterP E Dr R (pureX E.τ φ (.convert s d x) ty) dst (.ops ops rest (rmS dst sk) :: js) φ := run_op rfl
@[simp] theorem run_makeSlice (t : TypeId) (x y : Operand) : runW E Dr R (.ops ops ({ dst := dst, op := .makeSlice t x y, type := ty, pos := pos, after := after, guard := none } :: rest) sk :: js) .normal φ = afterP E Dr R (pureX E.τ φ (.makeSlice t x y) ty) dst (.ops ops rest (rmS dst sk) :: js) φ := run_op rfl
@[simp] theorem run_build (t : TypeId) (ps : Array (Nat × Operand)) : runW E Dr R (.ops ops ({ dst := dst, op := .build t ps, type := ty, pos := pos, after := after, guard := none } :: rest) sk :: js) .normal φ = afterP E Dr R (pureX E.τ φ (.build t ps) ty) dst (.ops ops rest (rmS dst sk) :: js) φ := run_op rfl
@[simp] theorem run_buildSlice (t n : Nat) (ps : Array (Nat × Operand)) : runW E Dr R (.ops ops ({ dst := dst, op := .buildSlice t n ps, type := ty, pos := pos, after := after, guard := none } :: rest) sk :: js) .normal φ = afterP E Dr R (pureX E.τ φ (.buildSlice t n ps) ty) dst (.ops ops rest (rmS dst sk) :: js) φ := run_op rfl
@[simp] theorem run_makeFunc (f : Fn) (fs cs : Array Operand) : runW E Dr R (.ops ops ({ dst := dst, op := .makeFunc f fs cs, type := ty, pos := pos, after := after, guard := none } :: rest) sk :: js) .normal φ = afterP E Dr R (pureX E.τ φ (.makeFunc f fs cs) ty) dst (.ops ops rest (rmS dst sk) :: js) φ := run_op rfl
@[simp] theorem run_builtin (b : Builtin) (args : Array Operand) (ts : Array TypeId) : runW E Dr R (.ops ops ({ dst := dst, op := .call { callee := .builtin b, args := args, argTypes := ts }, type := ty, pos := pos, after := after, guard := none } :: rest) sk :: js) .normal φ = afterP E Dr R (pureX E.τ φ (.call { callee := .builtin b, args := args, argTypes := ts }) ty) dst (.ops ops rest (rmS dst sk) :: js) φ := run_op rfl

@[simp] theorem run_store {t : TypeId} {p x : Operand} :
    runW E Dr R (.ops ops ({ dst := none, op := .store t p x, type := ty, pos := pos, after := after, guard := none } :: rest) sk :: js) .normal φ = storeD E Dr R ((ptX φ p).bind fun q => storeX E.τ φ t q (opX E.τ φ t x)) (.ops ops rest sk :: js) := by
  show someK _ _ = someK _ _
  unfold someK
  apply propext
  constructor
  · rintro ⟨q, h1, ψ, h2, h3⟩; exact ⟨ψ, by simp [h1, h2], h3⟩
  · rintro ⟨ψ, h1, h2⟩
    cases hq : ptX φ p with
    | none => rw [hq] at h1; cases h1
    | some q => rw [hq] at h1; exact ⟨q, rfl, ψ, h1, h2⟩

@[simp] theorem run_call {f : Nat} {args : Array Operand} {ts : Array TypeId} :
    runW E Dr R (.ops ops ({ dst := dst, op := .call { callee := .value (.func f), args := args, argTypes := ts }, type := ty, pos := pos, after := after, guard := none } :: rest) sk :: js) .normal φ =
      someK (E.pks f) fun ks => callD E Dr R f (argsX E.τ φ (ks.take args.size) args.toList ts.toList) (ks.take args.size) args.toList dst (.ops ops rest (rmS dst sk) :: js) φ := by
  show someK _ _ = _
  congr 1
  funext ks
  show someK _ _ = someK _ _
  congr 1
  funext as
  unfold callK
  apply propext
  constructor
  · rintro ⟨rs, outs, h1, h2, ψ, h3, h4⟩
    refine ⟨rs, outs, h1, h2, putRes dst rs ψ, ?_, h4⟩
    simp only at h3
    rw [h3]; rfl
  · rintro ⟨rs, outs, h1, h2, ψ, h3, h4⟩
    rw [Option.map_eq_some_iff] at h3
    obtain ⟨ψ0, h5, rfl⟩ := h3
    exact ⟨rs, outs, h1, h2, ψ0, h5, h4⟩

theorem callE_eq {t f : Nat} {cs : List (List D)} {args : Array Operand} {ts : Array TypeId} :
    callEP E f { callee := .value (.tmp t), args := args, argTypes := ts } dst cs φ (runW E Dr R js .normal) = callED E Dr R f cs args ts dst js φ := by
  show someK _ _ = someK _ _
  congr 1
  funext ks
  show (_ ∧ _) = (_ ∧ _)
  congr 1
  apply propext
  constructor
  · rintro ⟨as, h1, rs, outs, h2, h3, ψ, h4, h5⟩
    refine ⟨as ++ cs.map .box, by rw [show argsX E.τ φ (ks.take args.size) args.toList ts.toList = some as from h1]; rfl, rs, outs, h2, h3, putRes dst rs ψ, ?_, h5⟩
    rw [show backsX E.τ φ (ks.take args.size) args.toList outs φ = some ψ from h4]; rfl
  · rintro ⟨as', h1, rs, outs, h2, h3, ψ, h4, h5⟩
    rw [Option.map_eq_some_iff] at h1 h4
    obtain ⟨as, h6, rfl⟩ := h1
    obtain ⟨ψ0, h7, rfl⟩ := h4
    exact ⟨as, h6, rs, outs, h2, h3, ψ0, h7, h5⟩

@[simp] theorem run_callV {t : Nat} {args : Array Operand} {ts : Array TypeId} :
    runW E Dr R (.ops ops ({ dst := dst, op := .call { callee := .value (.tmp t), args := args, argTypes := ts }, type := ty, pos := pos, after := after, guard := none } :: rest) sk :: js) .normal φ = callVD E Dr R (φ t) args ts dst (.ops ops rest (rmS dst sk) :: js) φ := by
  show callVP E (φ t) _ _ _ _ = _
  generalize φ t = q
  cases q with
  | clo f caps =>
    show (someK (capsX φ caps) fun cs => callEP E f _ _ cs φ _) = someK (capsX φ caps) fun cs => callED E Dr R f cs args ts dst _ φ
    congr 1
    funext cs
    exact callE_eq (E := E) (Dr := Dr) (R := R) (js := .ops ops rest (rmS dst sk) :: js) (dst := dst) (φ := φ) (t := t)
  | fv f cs => exact callE_eq (E := E) (Dr := Dr) (R := R) (js := .ops ops rest (rmS dst sk) :: js) (dst := dst) (φ := φ) (t := t)
  | _ => exact propext ⟨fun h => h, fun h => h⟩
@[simp] theorem callV_clo {f : Nat} {caps : List Nat} {args : Array Operand} {ts : Array TypeId} : callVD E Dr R (.clo f caps) args ts dst js φ = someK (capsX φ caps) fun cs => callED E Dr R f cs args ts dst js φ := propext ⟨fun h => h, fun h => h⟩
@[simp] theorem callV_fv {f : Nat} {cs : List (List D)} {args : Array Operand} {ts : Array TypeId} : callVD E Dr R (.fv f cs) args ts dst js φ = (someK (E.pks f) fun ks => extraOk (some ks) args.size cs = true ∧ callD E Dr R f ((argsX E.τ φ (ks.take args.size) args.toList ts.toList).map (· ++ cs.map .box)) (ks.take args.size) args.toList dst js φ) := propext ⟨fun h => h, fun h => h⟩
@[simp] theorem callE_def {f : Nat} {cs : List (List D)} {args : Array Operand} {ts : Array TypeId} : callED E Dr R f cs args ts dst js φ = (someK (E.pks f) fun ks => extraOk (some ks) args.size cs = true ∧ callD E Dr R f ((argsX E.τ φ (ks.take args.size) args.toList ts.toList).map (· ++ cs.map .box)) (ks.take args.size) args.toList dst js φ) := propext ⟨fun h => h, fun h => h⟩

@[simp] theorem run_guard {op : Op} {j : Nat} {want : Bool} :
    runW E Dr R (.ops ops ({ dst := dst, op := op, type := ty, pos := pos, after := after, guard := some (j, want) } :: rest) sk :: js) .normal φ =
      someK ((ops[j]?).bind (·.dst)) fun d => skipD E Dr R (inS d sk) (φ d) want { dst := dst, op := op, type := ty, pos := pos, after := after, guard := some (j, want) } ops rest sk js φ := propext ⟨fun h => h, fun h => h⟩

@[simp] theorem skip_t {x : X} {want : Bool} {o : Oper} : skipD E Dr R true x want o ops rest sk js φ = runW E Dr R (.ops ops rest (addS o.dst sk) :: js) .normal (putRes o.dst [] φ) := by simp [skipD]
@[simp] theorem skip_f {x : X} {want : Bool} {o : Oper} : skipD E Dr R false x want o ops rest sk js φ = guardD E Dr R x want o ops rest sk js φ := by simp [skipD]
@[simp] theorem rmS_nil (dst : Option Tmp) : rmS dst (some []) = some [] := by cases dst <;> rfl
@[simp] theorem rmS_some (d : Nat) (l : List Nat) : rmS (some d) (some l) = some (l.filter (· != d)) := by unfold rmS; rfl
@[simp] theorem rmS_no (sk : Option (List Nat)) : rmS none sk = sk := by unfold rmS; rfl
@[simp] theorem addS_some (d : Nat) (l : List Nat) : addS (some d) (some l) = some (d :: l) := by unfold addS; rfl
@[simp] theorem addS_no (sk : Option (List Nat)) : addS none sk = sk := by unfold addS; rfl
@[simp] theorem inS_some (d : Nat) (l : List Nat) : inS d (some l) = l.contains d := by unfold inS; rfl
@[simp] theorem inS_no (d : Nat) : inS d none = false := by unfold inS; rfl

@[simp] theorem someK_some {α : Type} (x : α) (K : α → Prop) : someK (some x) K = K x := by
  apply propext
  constructor
  · rintro ⟨y, e, h⟩; cases e; exact h
  · intro h; exact ⟨x, rfl, h⟩

@[simp] theorem someK_if {α : Type} {c : Prop} [Decidable c] (x : α) (K : α → Prop) : someK (if c then some x else none) K = (c ∧ K x) := by
  apply propext
  by_cases h : c <;> simp [h, someK]

@[simp] theorem someK_if' {α : Type} {c : Prop} [Decidable c] (x : α) (K : α → Prop) : someK (if c then none else some x) K = (¬ c ∧ K x) := by
  apply propext
  by_cases h : c <;> simp [h, someK]

@[simp] theorem after_some (x : X) : afterP E Dr R (some x) dst js φ = runW E Dr R js .normal (putRes dst [x] φ) := someK_some _ _
@[simp] theorem after_if {c : Prop} [Decidable c] (x : X) : afterP E Dr R (if c then some x else none) dst js φ = (c ∧ runW E Dr R js .normal (putRes dst [x] φ)) := someK_if _ _
@[simp] theorem store_some (ψ : Fr) : storeD E Dr R (some ψ) js = runW E Dr R js .normal ψ := someK_some _ _
@[simp] theorem store_if {c : Prop} [Decidable c] (ψ : Fr) : storeD E Dr R (if c then some ψ else none) js = (c ∧ runW E Dr R js .normal ψ) := someK_if _ _

@[simp] theorem cond_tt (a b : Code) (o : Option Pl) : condD E Dr R (.d (.v (.bool true)) o) a b js φ = runW E Dr R (.code a :: js) .normal φ := by simp [condD, X.val]
@[simp] theorem cond_ff (a b : Code) (o : Option Pl) : condD E Dr R (.d (.v (.bool false)) o) a b js φ = runW E Dr R (.code b :: js) .normal φ := by simp [condD, X.val]
theorem cond_by {t : Bool} {a b : Code} {o : Option Pl} (h1 : t = true → runW E Dr R (.code a :: js) .normal φ) (h2 : t = false → runW E Dr R (.code b :: js) .normal φ) : condD E Dr R (.d (.v (.bool t)) o) a b js φ := ⟨_, rfl, t, rfl, h1, h2⟩

@[simp] theorem guard_tt {o : Oper} {g : Option Pl} : guardD E Dr R (.d (.v (.bool true)) g) true o ops rest sk js φ = runW E Dr R (.ops ops ({ o with guard := none } :: rest) sk :: js) .normal φ := by simp [guardD, X.val]
@[simp] theorem guard_ff {o : Oper} {g : Option Pl} : guardD E Dr R (.d (.v (.bool false)) g) false o ops rest sk js φ = runW E Dr R (.ops ops ({ o with guard := none } :: rest) sk :: js) .normal φ := by simp [guardD, X.val]
@[simp] theorem guard_tf {o : Oper} {g : Option Pl} : guardD E Dr R (.d (.v (.bool true)) g) false o ops rest sk js φ = runW E Dr R (.ops ops rest (addS o.dst sk) :: js) .normal (putRes o.dst [] φ) := by simp [guardD, X.val]
@[simp] theorem guard_ft {o : Oper} {g : Option Pl} : guardD E Dr R (.d (.v (.bool false)) g) true o ops rest sk js φ = runW E Dr R (.ops ops rest (addS o.dst sk) :: js) .normal (putRes o.dst [] φ) := by simp [guardD, X.val]
theorem guard_by {t : Bool} {want : Bool} {o : Oper} {g : Option Pl} (h1 : t = want → runW E Dr R (.ops ops ({ o with guard := none } :: rest) sk :: js) .normal φ) (h2 : t ≠ want → runW E Dr R (.ops ops rest (addS o.dst sk) :: js) .normal (putRes o.dst [] φ)) : guardD E Dr R (.d (.v (.bool t)) g) want o ops rest sk js φ := ⟨_, rfl, t, rfl, h1, h2⟩

@[simp] theorem call_some {f : Nat} {as : List X} {ks : List PK} {args : List Operand} : callD E Dr R f (some as) ks args dst js φ = callK E f as (backD E Dr R ks args dst js φ) := someK_some _ _

theorem back_vals {ks : List PK} {args : List Operand} {ψ : Fr} {rs outs : List X} : backD E Dr R [] args dst js ψ rs outs = (rs.length ≤ 8 ∧ runW E Dr R js .normal (putRes dst rs ψ)) := by
  simp [backD, backsX, storeD]

/-- A loop, by what its slots hold. -/
theorem loop_by {α : Type} {c : Code} (T : α → List (Nat × X)) (J : α → Prop) (m : α → Nat) (p0 : α) (h0 : J p0) (e0 : headL (T p0) φ)
    (round : ∀ p, J p → runW E Dr (fun e ψ => match e with
      | .normal => ∃ p', J p' ∧ m p' < m p ∧ headL (T p') ψ
      | e => runW E Dr R js e ψ) [.code c] .normal (mk (T p))) : loopD E Dr R c js φ := by
  refine ⟨fun n ψ => ∃ p, J p ∧ m p = n ∧ ψ = mk (T p), m p0, mk (T p0), headL_le e0, ⟨p0, h0, rfl, rfl⟩, ?_⟩
  rintro n ψ ⟨p, hp, rfl, rfl⟩
  have := round p hp
  simp only [runW_code] at this
  have key : ∀ (c : Code) (φ : Fr) (Q Q' : EE → Fr → Prop), (∀ e ψ, Q e ψ → Q' e ψ) → codeP E Dr c φ Q → codeP E Dr c φ Q' := by
    have opm : ∀ (o : Oper) (φ : Fr) (K K' : Fr → Prop), (∀ ψ, K ψ → K' ψ) → opP E o φ K → opP E o φ K' := by
      intro o φ K K' hK h
      have pm : someK (pureX E.τ φ o.op o.type) (fun x => K (putRes o.dst [x] φ)) → someK (pureX E.τ φ o.op o.type) (fun x => K' (putRes o.dst [x] φ)) := fun ⟨x, h1, h2⟩ => ⟨x, h1, hK _ h2⟩
      unfold opP at h ⊢
      cases ho : o.op with
      | store x y z =>
        rw [ho] at h
        obtain ⟨q, h1, ψ, h2, h3⟩ := h
        exact ⟨q, h1, ψ, h2, hK _ h3⟩
      | call c =>
        rw [ho] at h pm
        simp only at h ⊢
        split at h
        · obtain ⟨ks, h1, as, h2, rs, outs, h3, h4, ψ, h5, h6⟩ := h
          exact ⟨ks, h1, as, h2, rs, outs, h3, h4, ψ, h5, hK _ h6⟩
        · have key : ∀ f cs, callEP E f c o.dst cs φ K → callEP E f c o.dst cs φ K' := by
            rintro f cs ⟨ks, h1, hex, as, h2, rs, outs, h3, h4, ψ, h5, h6⟩
            exact ⟨ks, h1, hex, as, h2, rs, outs, h3, h4, ψ, h5, hK _ h6⟩
          unfold callVP at h ⊢
          split at h
          · obtain ⟨cs, h1, h2⟩ := h
            exact ⟨cs, h1, key _ _ h2⟩
          · exact key _ _ h
          · exact h
        · exact h
        · exact pm h
      | _ => rw [ho] at h pm; exact pm h
    have opsm : ∀ (ops : Array Oper) (l : List Oper) (sk : Option (List Nat)) (φ : Fr) (K K' : Fr → Prop), (∀ ψ, K ψ → K' ψ) → opsP E ops l sk φ K → opsP E ops l sk φ K' := by
      intro ops l
      induction l with
      | nil => intro sk φ K K' hK h; exact hK _ h
      | cons o l ih =>
        intro sk φ K K' hK h
        unfold opsP at h ⊢
        split at h
        · exact opm _ _ _ _ (fun ψ h => ih _ ψ K K' hK h) h
        · obtain ⟨d, h1, hin, hout⟩ := h
          refine ⟨d, h1, fun e => ih _ _ K K' hK (hin e), fun e => ?_⟩
          obtain ⟨v, h2, b, h3, h4, h5⟩ := hout e
          exact ⟨v, h2, b, h3, fun e => opm _ _ _ _ (fun ψ h => ih _ ψ K K' hK h) (h4 e), fun e => ih _ _ K K' hK (h5 e)⟩
    intro c
    induction c with
    | skip => intro φ Q Q' hQ h; exact hQ _ _ h
    | region id ops dr =>
      intro φ Q Q' hQ h
      cases dr with
      | false => exact opsm _ _ _ _ _ _ (hQ .normal) h
      | true =>
        have h1 : drawnP E ops (Dr (id + 20000)) (Dr (id + 10000)) (Dr id) φ (Q .normal) := h
        show drawnP E ops (Dr (id + 20000)) (Dr (id + 10000)) (Dr id) φ (Q' .normal)
        unfold drawnP at h1 ⊢
        split at h1
        · exact opsm _ _ _ _ _ _ (hQ .normal) h1
        · exact opsm _ _ _ _ _ _ (fun ψ h => opsm _ _ _ _ _ _ (fun ψ h => opsm _ _ _ _ _ _ (hQ .normal) h) h) h1
    | seq a b iha ihb =>
      intro φ Q Q' hQ h
      refine iha φ _ _ ?_ h
      intro e ψ h
      cases e with
      | normal => exact ihb ψ _ _ hQ h
      | exit id => exact hQ _ _ h
      | ret => exact hQ _ _ h
    | cond x a b iha ihb =>
      intro φ Q Q' hQ h
      obtain ⟨v, h1, t, h2, h3, h4⟩ := h
      exact ⟨v, h1, t, h2, fun e => iha φ _ _ hQ (h3 e), fun e => ihb φ _ _ hQ (h4 e)⟩
    | block id c ih =>
      intro φ Q Q' hQ h
      refine ih φ _ _ ?_ h
      intro e ψ h
      split
      · rename_i e1; rw [if_pos e1] at h; exact hQ _ _ h
      · rename_i e1; rw [if_neg e1] at h; exact hQ _ _ h
    | loop c ih =>
      intro φ Q Q' hQ h
      obtain ⟨I, n, φ0, h1, h2, h3⟩ := h
      refine ⟨I, n, φ0, h1, h2, fun n ψ hI => ih ψ _ _ ?_ (h3 n ψ hI)⟩
      intro e ψ' h
      cases e with
      | normal => exact h
      | exit id => exact hQ _ _ h
      | ret => exact hQ _ _ h
    | exit id => intro φ Q Q' hQ h; exact hQ _ _ h
    | ret => intro φ Q Q' hQ h; exact hQ _ _ h
    | _ => intro φ Q Q' hQ h; exact h.elim
  refine key _ _ _ _ ?_ this
  intro e ψ h
  cases e with
  | normal =>
    obtain ⟨p', h1, h2, h3⟩ := h
    exact ⟨m p', mk (T p'), h2, headL_le h3, p', h1, rfl, rfl⟩
  | exit id => exact h
  | ret => exact h
end
end Go.Ev


/- Small facts for walks: equality of plain cells, strings, whole numbers. -/
namespace Go.Ev

theorem leaf_nil {xs ys : List Value} {b : Bool} (h : leafV [] xs ys = some b) : xs = [] ∧ ys = [] ∧ b = true := by
  cases xs <;> cases ys <;> simp_all [leafV]

theorem leaf_int {k : IntKind} {zs : List ZC} {xs ys : List Value} {b : Bool} (h : leafV (.zi k :: zs) xs ys = some b) :
    ∃ p q xs' ys' r, xs = .int k p :: xs' ∧ ys = .int k q :: ys' ∧ leafV zs xs' ys' = some r ∧ b = ((p == q) && r) := by
  unfold leafV at h
  split at h
  · cases ‹_ = []›
  · rename_i k' zs' k1 p xs' k2 q ys' e
    cases e
    split at h
    · rename_i hk
      obtain ⟨rfl, rfl⟩ := hk
      rw [Option.map_eq_some_iff] at h
      obtain ⟨r, hr, rfl⟩ := h
      exact ⟨p, q, xs', ys', r, rfl, rfl, hr, rfl⟩
    · cases h
  · rename_i e; cases e
  · rename_i e; cases e
  · cases h

theorem leaf_str {zs : List ZC} {xs ys : List Value} {b : Bool} (h : leafV (.zs :: zs) xs ys = some b) :
    ∃ p q xs' ys' r, xs = .string p :: xs' ∧ ys = .string q :: ys' ∧ leafV zs xs' ys' = some r ∧ b = ((p.toList == q.toList) && r) := by
  unfold leafV at h
  split at h
  · cases ‹_ = []›
  · rename_i e; cases e
  · rename_i zs' p xs' q ys' e
    cases e
    rw [Option.map_eq_some_iff] at h
    obtain ⟨r, hr, rfl⟩ := h
    exact ⟨p, q, xs', ys', r, rfl, rfl, hr, rfl⟩
  · rename_i e; cases e
  · cases h
theorem leaf_bool {zs : List ZC} {xs ys : List Value} {b : Bool} (h : leafV (.zb :: zs) xs ys = some b) :
    ∃ p q xs' ys' r, xs = .bool p :: xs' ∧ ys = .bool q :: ys' ∧ leafV zs xs' ys' = some r ∧ b = ((p == q) && r) := by
  unfold leafV at h
  split at h
  · cases ‹_ = []›
  · rename_i e; cases e
  · rename_i e; cases e
  · rename_i zs' p xs' q ys' e
    cases e
    rw [Option.map_eq_some_iff] at h
    obtain ⟨r, hr, rfl⟩ := h
    exact ⟨p, q, xs', ys', r, rfl, rfl, hr, rfl⟩
  · cases h

theorem toList_loop (x : ByteArray) : ∀ (n i : Nat) (r : List UInt8), n = x.size - i → ByteArray.toList.loop x i r = r.reverse ++ x.data.toList.drop i := by
  intro n
  induction n with
  | zero =>
    intro i r h
    unfold ByteArray.toList.loop
    rw [if_neg (by omega)]
    have : x.data.toList.length ≤ i := by simp; show x.size ≤ i; omega
    simp [List.drop_eq_nil_of_le this]
  | succ n ih =>
    intro i r h
    unfold ByteArray.toList.loop
    have hi : i < x.size := by omega
    rw [if_pos hi, ih (i + 1) _ (by omega)]
    have hi' : i < x.data.toList.length := by simpa using hi
    rw [List.drop_eq_getElem_cons hi']
    have : x.get! i = x.data.toList[i] := by
      simp only [ByteArray.get!, Array.getElem_toList]
      exact getElem!_pos x.data i hi
    simp [this]

theorem toList_data (x : ByteArray) : x.toList = x.data.toList := by
  unfold ByteArray.toList
  rw [toList_loop x _ 0 [] rfl]; rfl

@[simp] theorem str_beq (x y : ByteArray) : (x.toList == y.toList) = decide (x = y) := by
  rw [toList_data, toList_data]
  by_cases e : x = y
  · subst e; simp
  · have : ¬ x.data = y.data := fun h => e (by cases x; cases y; simp_all)
    simp [e, this]

theorem wrap_id {n : Int} (h1 : -9223372036854775808 ≤ n) (h2 : n < 9223372036854775808) : IntKind.wrap .i64 n = n := by
  have e : IntKind.bits .i64 = 64 := rfl
  have e' : IntKind.signed .i64 = true := rfl
  unfold IntKind.wrap
  simp only [e, e', Bool.true_and, decide_eq_true_eq]
  rcases Int.lt_or_le n 0 with h | h
  · have : n % 2 ^ 64 = n + 2 ^ 64 := by omega
    rw [this, if_pos (by omega)]; omega
  · have : n % 2 ^ 64 = n := by omega
    rw [this, if_neg (by omega)]

theorem wrap_nat {k : Nat} (h : k < 4611686018427387904) : IntKind.wrap .i64 ((k : Int) + 1) = ((k + 1 : Nat) : Int) := by
  rw [wrap_id (by omega) (by omega)]; omega

/-- The first place. -/
def at? {α : Type} (q : α → Bool) (l : List α) : Int := match l.findIdx? q with
  | some i => i
  | none => -1

theorem at_of {α : Type} {q : α → Bool} {l : List α} {k : Nat} (hk : k < l.length) (h : ∀ j (hj : j < l.length), j < k → q l[j] = false) (h1 : q l[k] = true) : at? q l = k := by
  unfold at?
  have : l.findIdx? q = some k := by
    rw [List.findIdx?_eq_some_iff_getElem]
    exact ⟨hk, h1, fun j hj => by simp [h j (by omega) hj]⟩
  rw [this]

theorem at_none {α : Type} {q : α → Bool} {l : List α} (h : ∀ j (hj : j < l.length), q l[j] = false) : at? q l = -1 := by
  unfold at?
  have : l.findIdx? q = none := by
    rw [List.findIdx?_eq_none_iff]
    intro x hx
    obtain ⟨j, hj, rfl⟩ := List.mem_iff_getElem.1 hx
    exact h j hj
  rw [this]

/-- Rows that are filled from the front. -/
def fill {α : Type} (f : α → List D) (z : List D) (l : List α) (k : Nat) : List (List D) := (l.take k).map f ++ List.replicate (l.length - k) z

theorem fill_zero {α : Type} (f : α → List D) (z : List D) (l : List α) : List.replicate l.length z = fill f z l 0 := by simp [fill]
theorem fill_len {α : Type} (f : α → List D) (z : List D) (l : List α) {k : Nat} (hk : k ≤ l.length) : (fill f z l k).length = l.length := by simp [fill]; omega
theorem fill_all {α : Type} (f : α → List D) (z : List D) (l : List α) {k : Nat} (hk : ¬ k < l.length) : fill f z l k = l.map f := by
  unfold fill
  rw [List.take_of_length_le (by omega), show l.length - k = 0 by omega]; simp
theorem fill_get {α : Type} (f : α → List D) (z : List D) (l : List α) {k : Nat} (hk : k < l.length) : (fill f z l k)[k]? = some z := by
  unfold fill
  rw [List.getElem?_append_right (by simp; omega), List.getElem?_replicate, if_pos (by simp; omega)]
theorem fill_at {α : Type} (f : α → List D) (z : List D) (l : List α) {k : Nat} (hk : k < l.length) (h : k < (fill f z l k).length) : (fill f z l k)[k] = z := by
  have := fill_get f z l hk
  rw [List.getElem?_eq_getElem h] at this
  exact Option.some.inj this
theorem fill_set {α : Type} (f : α → List D) (z : List D) (l : List α) {k : Nat} (hk : k < l.length) : (fill f z l k).set k (f l[k]) = fill f z l (k + 1) := by
  apply List.ext_getElem?
  intro i
  unfold fill
  rw [List.getElem?_set]
  by_cases e : k = i
  · subst e
    rw [if_pos rfl, if_pos (by simp; omega), List.getElem?_append_left (by simp; omega)]
    simp [hk]
  · rw [if_neg e]
    by_cases h : i < k
    · rw [List.getElem?_append_left (by simp; omega), List.getElem?_append_left (by simp; omega)]
      simp [h, show i < k + 1 by omega]
    · rw [List.getElem?_append_right (by simp; omega), List.getElem?_append_right (by simp; omega)]
      simp only [List.getElem?_replicate, List.length_map, List.length_take]
      rw [Nat.min_eq_left (by omega), Nat.min_eq_left (by omega)]
      have : i - k < l.length - k ↔ i - (k + 1) < l.length - (k + 1) := by omega
      simp only [this]


@[simp] theorem int_beq (x y : Int) : (x == y) = decide (x = y) := by by_cases e : x = y <;> simp [e]
@[simp] theorem int_bne (x y : Int) : (x != y) = !decide (x = y) := by by_cases e : x = y <;> simp [e]
attribute [simp] sameL sameD sameZ capSlots unF pureX isNil nilX opX cpX ownX ptX X.cells X.val X.int binX bin leafEq unF loadX storeX fieldX indexX appX makeX cellsAt rowsX cellsIn putIn putAt putX mkX fits ZC.fit addLast lenX strIndexX mmX partsX fillX fldSize buildX sliceX bound argX argsX backX backsX back_vals putRes putComps resX resesX outX outsX splice elz ZC.d Value.scalar cix backD setAt buildSliceX fillRows convX bytesOf capsX extraOk capSlots

@[simp] theorem nat_neg (k : Nat) : (((k : Int) < 0)) = False := by simp
@[simp] theorem nat_nonneg (k : Nat) : ((0 ≤ (k : Int))) = True := by simp

/-- Slots to be emptied, by the regions' numbers. -/
def drL : List (Nat × List Nat) → Nat → List Nat
  | [], _ => []
  | (k, ds) :: l, i => if i = k then ds else drL l i
attribute [simp] drL

/-- How a walk of a function's body ends. -/
def endP (E : Prog) (rv : List ResultVar) (ks : List PK) (rs outs : List X) (e : EE) (φ : Fr) : Prop := (e = .normal ∨ e = .ret) ∧ resesX E.τ φ rv = some rs ∧ outsX φ 0 ks = some outs

@[simp] theorem endP_normal {E : Prog} {rv : List ResultVar} {ks : List PK} {rs outs : List X} {l : List (Nat × X)} : endP E rv ks rs outs .normal (mk l) = (resesX E.τ (mk l) rv = some rs ∧ outsX (mk l) 0 ks = some outs) := by simp [endP]
@[simp] theorem endP_ret {E : Prog} {rv : List ResultVar} {ks : List PK} {rs outs : List X} {l : List (Nat × X)} : endP E rv ks rs outs .ret (mk l) = (resesX E.τ (mk l) rv = some rs ∧ outsX (mk l) 0 ks = some outs) := by simp [endP]

theorem runs_of {E : Prog} (dr : List (Nat × List Nat)) {f : Nat} {fn : Func} {c : Code} {ks : List PK} {xs rs outs : List X} (hp : E.prims f = none) (hf : E.funcs f = some fn) (hb : fn.body = some c) (hk : E.pks f = some ks) (hl : xs.length = ks.length) (hd : drOk (drL dr) c = true)
    (h : runW E (drL dr) (endP E fn.results.toList ks rs outs) [.code c] .normal (args0 xs)) : Runs E f xs rs outs := by
  rw [runW_code] at h
  exact runs_by hp hf hb hk hl hd h

attribute [simp] isHit


/-- A walk whose end tells of some result. -/
def endX {α : Type} (E : Prog) (rv : List ResultVar) (ks : List PK) (rs : α → List X) (outs : List X) (e : EE) (φ : Fr) : Prop := (e = .normal ∨ e = .ret) ∧ ∃ r, resesX E.τ φ rv = some (rs r) ∧ outsX φ 0 ks = some outs

@[simp] theorem endX_normal {α : Type} {E : Prog} {rv : List ResultVar} {ks : List PK} {rs : α → List X} {outs : List X} {l : List (Nat × X)} : endX E rv ks rs outs .normal (mk l) = (∃ r, resesX E.τ (mk l) rv = some (rs r) ∧ outsX (mk l) 0 ks = some outs) := by simp [endX]
@[simp] theorem endX_ret {α : Type} {E : Prog} {rv : List ResultVar} {ks : List PK} {rs : α → List X} {outs : List X} {l : List (Nat × X)} : endX E rv ks rs outs .ret (mk l) = (∃ r, resesX E.τ (mk l) rv = some (rs r) ∧ outsX (mk l) 0 ks = some outs) := by simp [endX]

theorem runs_ex {α : Type} {E : Prog} (dr : List (Nat × List Nat)) (rs : α → List X) {f : Nat} {fn : Func} {c : Code} {ks : List PK} {xs outs : List X} (hp : E.prims f = none) (hf : E.funcs f = some fn) (hb : fn.body = some c) (hk : E.pks f = some ks) (hl : xs.length = ks.length) (hd : drOk (drL dr) c = true)
    (h : runW E (drL dr) (endX E fn.results.toList ks rs outs) [.code c] .normal (args0 xs)) : ∃ r, Runs E f xs (rs r) outs := by
  rw [runW_code] at h
  have h' : codeP E (drL dr) c (args0 xs) (fun e φ => endX E fn.results.toList ks rs outs e φ) := h
  obtain ⟨e, ψ, ⟨he, r, hr, ho⟩, k0, h0⟩ := codeP_ok hd h'
  refine ⟨r, k0 + 1, fun k hk' => ?_⟩
  cases k with
  | zero => omega
  | succ k =>
    obtain ⟨ψ1, q1, q2⟩ := h0 k (by omega) _ (.refl _)
    simp only [evF, hp, hf, hk, hb]
    rw [if_pos hl, q2 k (by omega)]
    rcases he with rfl | rfl <;> simp only [resesX_le q1 hr, outsX_le q1 ho]

/-- Some whole number that a function answers. -/
noncomputable def szv (E : Prog) (f : Nat) (as : List X) : Int := open Classical in if h : ∃ r : Int, Runs E f as [.d (.v (.int .i64 r)) none] [.u, .u] then h.choose else 0

theorem szv_of {E : Prog} {f : Nat} {as : List X} (h : ∃ r : Int, Runs E f as [.d (.v (.int .i64 r)) none] [.u, .u]) : Runs E f as [.d (.v (.int .i64 (szv E f as))) none] [.u, .u] := by
  unfold szv
  rw [dif_pos h]
  exact h.choose_spec

theorem runs_det {E : Prog} {f : Nat} {as rs rs' outs outs' : List X} (h : Runs E f as rs outs) (h' : Runs E f as rs' outs') : rs = rs' ∧ outs = outs' := by
  obtain ⟨k, h⟩ := h
  obtain ⟨k', h'⟩ := h'
  have h1 := h (max k k') (Nat.le_max_left _ _)
  rw [h' (max k k') (Nat.le_max_right _ _)] at h1
  cases h1
  exact ⟨rfl, rfl⟩

/-- What is shown of some whole number that is answered is shown of it. -/
theorem szv_spec {E : Prog} {f : Nat} {as : List X} {P : Int → Prop} (h : ∃ r : Int, Runs E f as [.d (.v (.int .i64 r)) none] [.u, .u] ∧ P r) : Runs E f as [.d (.v (.int .i64 (szv E f as))) none] [.u, .u] ∧ P (szv E f as) := by
  obtain ⟨r, h1, h2⟩ := h
  have h3 := szv_of ⟨r, h1⟩
  obtain ⟨h4, _⟩ := runs_det h1 h3
  simp only [List.cons.injEq, X.d.injEq, D.v.injEq, Value.int.injEq, and_true, true_and] at h4
  exact ⟨h3, h4 ▸ h2⟩

/-- Some string that a function of a whole number answers. -/
noncomputable def strv (E : Prog) (f : Nat) (as : List X) : ByteArray := open Classical in if h : ∃ r : ByteArray, Runs E f as [.d (.v (.string r)) none] [.u] then h.choose else .empty

theorem strv_of {E : Prog} {f : Nat} {as : List X} (h : ∃ r : ByteArray, Runs E f as [.d (.v (.string r)) none] [.u]) : Runs E f as [.d (.v (.string (strv E f as))) none] [.u] := by
  unfold strv
  rw [dif_pos h]
  exact h.choose_spec

@[simp] theorem encS_def (s : ByteArray) : (fun s => [D.v (.string s)]) s = [D.v (.string s)] := rfl
def encS (s : ByteArray) : List D := [.v (.string s)]
def encI (n : Int) : List D := [.v (.int .i64 n)]
def encB (n : Int) : List D := [.v (.int .u8 n)]
@[simp] theorem encS_at (s : ByteArray) : encS s = [.v (.string s)] := rfl
@[simp] theorem encI_at (n : Int) : encI n = [.v (.int .i64 n)] := rfl
@[simp] theorem encB_at (n : Int) : encB n = [.v (.int .u8 n)] := rfl
end Go.Ev

/- Walks whose results, and what they leave behind, are only known to be there. -/
namespace Go.Ev

def endY {α : Type} (E : Prog) (rv : List ResultVar) (ks : List PK) (rs outs : α → List X) (e : EE) (φ : Fr) : Prop := (e = .normal ∨ e = .ret) ∧ ∃ r, resesX E.τ φ rv = some (rs r) ∧ outsX φ 0 ks = some (outs r)

@[simp] theorem endY_normal {α : Type} {E : Prog} {rv : List ResultVar} {ks : List PK} {rs outs : α → List X} {l : List (Nat × X)} : endY E rv ks rs outs .normal (mk l) = (∃ r, resesX E.τ (mk l) rv = some (rs r) ∧ outsX (mk l) 0 ks = some (outs r)) := by simp [endY]
@[simp] theorem endY_ret {α : Type} {E : Prog} {rv : List ResultVar} {ks : List PK} {rs outs : α → List X} {l : List (Nat × X)} : endY E rv ks rs outs .ret (mk l) = (∃ r, resesX E.τ (mk l) rv = some (rs r) ∧ outsX (mk l) 0 ks = some (outs r)) := by simp [endY]

theorem runs_ey {α : Type} {E : Prog} (dr : List (Nat × List Nat)) (rs outs : α → List X) {f : Nat} {fn : Func} {c : Code} {ks : List PK} {xs : List X} (hp : E.prims f = none) (hf : E.funcs f = some fn) (hb : fn.body = some c) (hk : E.pks f = some ks) (hl : xs.length = ks.length) (hd : drOk (drL dr) c = true)
    (h : runW E (drL dr) (endY E fn.results.toList ks rs outs) [.code c] .normal (args0 xs)) : ∃ r, Runs E f xs (rs r) (outs r) := by
  rw [runW_code] at h
  have h' : codeP E (drL dr) c (args0 xs) (fun e φ => endY E fn.results.toList ks rs outs e φ) := h
  obtain ⟨e, ψ, ⟨he, r, hr, ho⟩, k0, h0⟩ := codeP_ok hd h'
  refine ⟨r, k0 + 1, fun k hk' => ?_⟩
  cases k with
  | zero => omega
  | succ k =>
    obtain ⟨ψ1, q1, q2⟩ := h0 k (by omega) _ (.refl _)
    simp only [evF, hp, hf, hk, hb]
    rw [if_pos hl, q2 k (by omega)]
    rcases he with rfl | rfl <;> simp only [resesX_le q1 hr, outsX_le q1 ho]

/-- Something of a kind, if there is any. -/
noncomputable def chq {β : Type} [Inhabited β] (P : β → Prop) : β := open Classical in if h : ∃ r, P r then h.choose else default
theorem chq_spec {β : Type} [Inhabited β] {P : β → Prop} (h : ∃ r, P r) : P (chq P) := by
  unfold chq
  rw [dif_pos h]
  exact h.choose_spec

theorem and255 (n : Nat) : ∃ m : Nat, m ≤ 255 ∧ IntKind.i64.wrap ((n &&& 255 % 2 ^ IntKind.i64.bits : Nat) : Int) = m := by
  refine ⟨n &&& 255 % 2 ^ IntKind.i64.bits, ?_, ?_⟩
  · exact Nat.le_trans Nat.and_le_right (by decide)
  · have : n &&& 255 % 2 ^ IntKind.i64.bits ≤ 255 := Nat.le_trans Nat.and_le_right (by decide)
    exact wrap_id (by omega) (by omega)
theorem ne_empty {x : ByteArray} (h : ¬ x = ByteArray.empty) : x.toList.isEmpty = false ∧ 0 < x.size := by
  have h0 : 0 < x.size := by
    apply Classical.byContradiction
    intro hn
    apply h
    have : x.data = #[] := Array.eq_empty_of_size_eq_zero (by show x.size = 0; omega)
    cases x
    simp only at this
    subst this
    rfl
  refine ⟨?_, h0⟩
  rw [toList_data]
  cases hd : x.data.toList with
  | nil =>
    have : x.data.toList.length = 0 := by rw [hd]; rfl
    have : x.size = 0 := by simpa using this
    omega
  | cons a l => rfl
end Go.Ev

/- What is left of a copy of a slice, in plain data. -/
namespace Go.Ev

def E0 (τ : List TE) : Prog := ⟨τ, fun _ => none, fun _ => none, fun _ => none⟩
@[simp] theorem E0_τ (τ : List TE) : (E0 τ).τ = τ := rfl

def retR (τ : List TE) (z : Nat) (rows : List (List D)) (e : EE) (ψ : Fr) : Prop := e = .ret ∧ resesX τ ψ [.tmp 2] = some [.d (.sl z rows) none]
@[simp] theorem retR_ret {τ : List TE} {z : Nat} {rows : List (List D)} {l : List (Nat × X)} : retR τ z rows .ret (mk l) = (resesX τ (mk l) [.tmp 2] = some [.d (.sl z rows) none]) := by simp [retR]

theorem clone_ev {τ : List TE} {REST : Code} {z : Nat} {rows : List (List D)} (hd : drOk (fun _ => []) REST = true) (h : runW (E0 τ) (fun _ => []) (retR τ z rows) [.code REST] .normal (mk [(0, .d (.sl z rows) none)])) :
    ∃ S F k φ', evC τ S F k REST (cloneX z rows) = some (.ret, φ') ∧ resesX τ φ' [.tmp 2] = some [.d (.sl z rows) none] := by
  rw [runW_code] at h
  have h' : codeP (E0 τ) (fun _ => []) REST (mk [(0, .d (.sl z rows) none)]) (fun e φ => retR τ z rows e φ) := h
  obtain ⟨e, ψ, ⟨rfl, hr⟩, k0, h0⟩ := codeP_ok hd h'
  obtain ⟨ψ1, q1, q2⟩ := h0 k0 (Nat.le_refl _) (cloneX z rows) (by
    intro s
    by_cases e : s = 0
    · subst e; right; rfl
    · left; simp [lk, e])
  exact ⟨_, _, k0, ψ1, q2 k0 (Nat.le_refl _), resesX_le q1 hr⟩

theorem prim_runs {E : Prog} {f : Nat} {p : List X → Option (List X × List X)} {as rs outs : List X} (h : E.prims f = some p) (hp : p as = some (rs, outs)) : Runs E f as rs outs :=
  ⟨1, fun k hk => by obtain ⟨k, rfl⟩ : ∃ j, k = j + 1 := ⟨k - 1, by omega⟩; simp only [evF, h]; exact hp⟩

theorem cloneF_eq {z yb : Nat} {zc : List ZC} {rows : List (List D)} (h1 : rows.length * yb ≤ memRoom) (h2 : rows.length ≤ strRoom) (h3 : rows.all (fits zc) = true) : cloneF z yb zc [.d (.sl z rows) none] = some ([.d (.sl z rows) none], [.u]) := by
  simp only [cloneF]
  rw [if_pos ⟨trivial, h1, h2, h3⟩]
end Go.Ev

/- Arguments are opened: what a reading of memory says, as data. -/
namespace Go.Ev
open Go.ChangeShapes Go.WideShapes Go.ChangeAt Go.RowKit Go.Deep

/-- What a cell of a type is. -/
inductive Sc where
  | i (k : IntKind)
  | b
  | s
  | sl (by_ : Nat) (els : List Sc)

mutual
def Sc.ok : Sc → D → Prop
  | .i k, d => ∃ n, d = .v (.int k n)
  | .b, d => ∃ x, d = .v (.bool x)
  | .s, d => ∃ x : ByteArray, d = .v (.string x) ∧ x.size ≤ reachBytes
  | .sl by_ els, d => ∃ rows, d = .sl els.length rows ∧ rows.length * by_ ≤ reachBytes ∧ ∀ row ∈ rows, okL els row
def okL : List Sc → List D → Prop
  | [], ds => ds = []
  | c :: cs, ds => ∃ d r, ds = d :: r ∧ c.ok d ∧ okL cs r
end

theorem okL_len : ∀ {l : List Sc} {ds : List D}, okL l ds → ds.length = l.length
  | [], ds, h => by unfold okL at h; subst h; rfl
  | c :: cs, ds, h => by
    unfold okL at h
    obtain ⟨d, r, rfl, _, h2⟩ := h
    simp [okL_len h2]

theorem okL_append : ∀ {l l' : List Sc} {ds ds' : List D}, okL l ds → okL l' ds' → okL (l ++ l') (ds ++ ds')
  | [], l', ds, ds', h, h' => by unfold okL at h; subst h; exact h'
  | c :: cs, l', ds, ds', h, h' => by
    unfold okL at h
    obtain ⟨d, r, rfl, h1, h2⟩ := h
    show okL (c :: (cs ++ l')) _
    unfold okL
    exact ⟨d, r ++ ds', rfl, h1, okL_append h2 h'⟩

def shpF (P : Program) (g : TypeId → Option (List Sc)) : List Field → Nat → Option (List Sc)
  | [], _ => some []
  | f :: fs, off => if f.offset = off then (match g f.type with
    | some l => if l.length = P.cellsOf f.type then (match shpF P g fs (off + l.length) with
      | some r => some (l ++ r)
      | none => none) else none
    | none => none) else none

/-- The cells of a type. -/
def shp (P : Program) : Nat → TypeId → Option (List Sc)
  | 0, _ => none
  | n + 1, t => match P.underlying t with
    | some .bool => some [.b]
    | some (.int k) => some [.i k]
    | some .string => some [.s]
    | some (.slice e) => match shp P n e with
      | some els => if els.length = P.cellsOf e ∧ 0 < els.length then some [.sl (P.bytesOf e) els] else none
      | none => none
    | some (.struct fs) => match shpF P (shp P n) fs.toList 0 with
      | some l => if l.length = P.cellsOf t then some l else none
      | none => none
    | _ => none

section
variable {H : Type} {enc : TypeId × Value → H} {P : Program} {w : World} {base : Nat} {spare : Nat → Bool} {held : Bool}

/-- Blocks that are there. -/
def There (w : World) (b : Nat) : Prop := b < w.heap.size

theorem weightsAll_mem {e : TypeId} : ∀ {l : List (DataW H)} {i : Nat} {d : DataW H}, l[i]? = some d → ∀ m ∈ d.weights P e, m ∈ DataW.weightsAll P e l
  | [], i, d, h, _, _ => by simp at h
  | x :: l, 0, d, h, m, hm => by
    simp only [List.getElem?_cons_zero, Option.some.injEq] at h
    subst h
    simp [DataW.weightsAll, hm]
  | x :: l, i + 1, d, h, m, hm => by
    simp only [List.getElem?_cons_succ] at h
    simp [DataW.weightsAll, weightsAll_mem h m hm]

theorem cell_some {a : Addr} {v : Value} (h : w.cell? a = some v) : ∃ c ty fz, w.heap[a.block]? = some (.cells c ty fz) ∧ a.spot = none ∧ c[a.off]? = some v := by
  unfold World.cell? at h
  split at h
  · rename_i c ty fz hc
    split at h
    · cases h
    · rename_i hs
      refine ⟨c, ty, fz, hc, ?_, h⟩
      cases hq : a.spot with
      | none => rfl
      | some x => rw [hq] at hs; simp at hs
  · cases h

/-- What an opened value is. -/
def Opened (w : World) (scs : List Sc) (cs : List Value) (ds : List D) : Prop := okL scs ds ∧ cs.length = ds.length ∧ ∀ j d, ds[j]? = some d → Rd w (There w) d (cs.getD j undef)

theorem open_fields {g : TypeId → Option (List Sc)} {cs : List Value} {n : Nat} (hg : ∀ t scs, g t = some scs → ∀ cs x, DataW.trod enc P w base spare held n t cs = some x → (∀ m ∈ x.1.weights P t, m ≤ reachBytes) → ∃ ds, Opened w scs cs ds) :
    ∀ (fs : List Field) (off : Nat) (l : List Sc), shpF P g fs off = some l → (∀ f ∈ fs, ∃ x, DataW.trod enc P w base spare held n f.type ((cs.drop f.offset).take (P.cellsOf f.type)) = some x ∧ ∀ m ∈ x.1.weights P f.type, m ≤ reachBytes) →
      ∃ ds, okL l ds ∧ ∀ j d, ds[j]? = some d → Rd w (There w) d (cs.getD (off + j) undef)
  | [], off, l, h, _ => by
    simp only [shpF, Option.some.injEq] at h
    subst h
    exact ⟨[], by unfold okL; rfl, by simp⟩
  | f :: fs, off, l, h, hx => by
    simp only [shpF] at h
    split at h
    · rename_i hoff
      split at h
      · rename_i l1 hl1
        split at h
        · rename_i hlen
          split at h
          · rename_i r hr
            cases h
            obtain ⟨x, hx1, hx2⟩ := hx f (by simp)
            obtain ⟨ds1, h1, h2, h3⟩ := hg _ _ hl1 _ x hx1 hx2
            obtain ⟨ds2, h4, h5⟩ := open_fields hg fs _ r hr fun f' hf' => hx f' (List.mem_cons_of_mem _ hf')
            refine ⟨ds1 ++ ds2, okL_append h1 h4, ?_⟩
            have hl := okL_len h1
            intro j d hj
            by_cases hlt : j < ds1.length
            · rw [List.getElem?_append_left hlt] at hj
              have := h3 j d hj
              have hlc : j < ((cs.drop f.offset).take (P.cellsOf f.type)).length := by rw [h2]; exact hlt
              have e : ((cs.drop f.offset).take (P.cellsOf f.type)).getD j undef = cs.getD (off + j) undef := by
                rw [List.getD_eq_getElem?_getD, List.getD_eq_getElem?_getD, List.getElem?_take, List.getElem?_drop, hoff]
                rw [if_pos (by rw [List.length_take] at hlc; omega)]
              rwa [e] at this
            · rw [List.getElem?_append_right (by omega)] at hj
              have := h5 _ d hj
              rw [show off + j = off + l1.length + (j - ds1.length) by omega]
              exact this
          · cases h
        · cases h
      · cases h
    · cases h

theorem open_any : ∀ (n : Nat) (t : TypeId) (scs : List Sc), shp P n t = some scs → ∀ (fuel : Nat) (cs : List Value) (x : DataW H × List MemPlace), DataW.trod enc P w base spare held fuel t cs = some x →
    (∀ m ∈ x.1.weights P t, m ≤ reachBytes) → ∃ ds, Opened w scs cs ds
  | 0, _, _, h, _, _, _, _, _ => by cases h
  | n + 1, t, scs, h, fuel, cs, x, hx, hw => by
    have one : ∀ (c : Sc) (v : Value), scs = [c] → cs = [v] → v.scalar = true → c.ok (.v v) → ∃ ds, Opened w scs cs ds := by
      rintro c v rfl rfl hv hc
      refine ⟨[.v v], ?_, rfl, ?_⟩
      · unfold okL; exact ⟨_, [], rfl, hc, by unfold okL; rfl⟩
      · intro j d hj
        cases j with
        | zero => simp at hj; subst hj; exact .v hv
        | succ j => simp at hj
    simp only [shp] at h
    split at h
    · rename_i hu
      cases h
      obtain ⟨b, rfl, rfl⟩ := DataW.trod_bool hu hx
      exact one _ _ rfl rfl rfl ⟨b, rfl⟩
    · rename_i k hu
      cases h
      obtain ⟨m, rfl, rfl, _⟩ := DataW.trod_int hu hx
      exact one _ _ rfl rfl rfl ⟨m, rfl⟩
    · rename_i hu
      cases h
      obtain ⟨s, rfl, rfl, _⟩ := DataW.trod_string hu hx
      refine one _ _ rfl rfl rfl ⟨s, rfl, ?_⟩
      have := hw s.data.toList.length (by simp [DataW.weights])
      simpa using this
    · rename_i e hu
      split at h
      · rename_i els hels
        split at h
        · rename_i hz
          cases h
          rcases open_slice hu hx with ⟨rfl, rfl⟩ | ⟨a, len, cap, m, n', Dd, Pl, rfl, hb, hlc, hcm, hm, rfl, hel⟩
          · refine ⟨[.sl els.length []], ?_, rfl, ?_⟩
            · unfold okL
              refine ⟨_, [], rfl, ?_, by unfold okL; rfl⟩
              unfold Sc.ok
              exact ⟨[], rfl, by simp, by simp⟩
            · intro j d hj
              cases j with
              | zero => simp at hj; subst hj; exact .nil
              | succ j => simp at hj
          · have hlm : len ≤ m := by rw [hm]; split <;> omega
            have hwt : ∀ i, i < len → ∀ q ∈ (Dd i).weights P e, q ≤ reachBytes := by
              intro i hi q hq
              apply hw
              have : ((List.range len).map Dd)[i]? = some (Dd i) := by simp [hi]
              have := weightsAll_mem (P := P) (e := e) this q hq
              simp only [DataW.weights, hu]
              simp [this]
            have hbytes : len * P.bytesOf e ≤ reachBytes := by
              have := hw ((((List.range len).map Dd).length + ((List.range (m - len)).map fun j => Dd (len + j)).length) * P.bytesOf e) (by simp [DataW.weights, hu])
              simp only [List.length_map, List.length_range] at this
              exact Nat.le_trans (Nat.mul_le_mul_right _ (by omega)) this
            obtain ⟨R, hR⟩ := Deep.choose_lt (n := len) (α := List Value × List D) (p := fun i r => w.cells? base (a.add (i * P.cellsOf e)) (P.cellsOf e) = some r.1 ∧ Opened w els r.1 r.2) (fun i hi => by
              obtain ⟨cs', h1, h2⟩ := hel i (by omega)
              obtain ⟨ds, h3⟩ := open_any n e els hels n' cs' _ h2 (hwt i hi)
              exact ⟨(cs', ds), h1, h3⟩)
            have hrow : ∀ row ∈ (List.range len).map fun i => (R i).2, okL els row := by
              intro row hr
              obtain ⟨i, hi, rfl⟩ := List.mem_map.1 hr
              exact (hR i (by simpa using hi)).2.1
            refine ⟨[.sl els.length ((List.range len).map fun i => (R i).2)], ?_, rfl, ?_⟩
            · unfold okL
              refine ⟨_, [], rfl, ?_, by unfold okL; rfl⟩
              unfold Sc.ok
              exact ⟨_, rfl, by simpa using hbytes, hrow⟩
            · intro j d hj
              cases j with
              | succ j => simp at hj
              | zero =>
                simp at hj
                subst hj
                show Rd w (There w) _ (.slice (some a) len cap)
                cases len with
                | zero => exact .nil
                | succ len =>
                  -- every cell
                  have hcell : ∀ i j, i < len + 1 → j < els.length → w.cell? (a.add (i * P.cellsOf e + j)) = ((R i).1)[j]? := by
                    intro i j hi hj
                    obtain ⟨_, h2, h3⟩ := World.cells?_some (hR i hi).1
                    have := h3 j (by omega)
                    rwa [Deep.add_add] at this
                  have hlen : ∀ i, i < len + 1 → ((R i).1).length = els.length := by
                    intro i hi
                    have := (World.cells?_some (hR i hi).1).2.1
                    omega
                  have h0 := hcell 0 0 (by omega) hz.2
                  have h0' : ((R 0).1)[0]? = some (((R 0).1).getD 0 undef) := by
                    have : 0 < ((R 0).1).length := by rw [hlen 0 (by omega)]; exact hz.2
                    simp [List.getD_eq_getElem?_getD, this]
                  rw [h0'] at h0
                  have ha0 : a.add (0 * P.cellsOf e + 0) = a := by simp [Addr.add]
                  rw [ha0] at h0
                  obtain ⟨arr, ty, fz, hheap, hspot, _⟩ := cell_some h0
                  have haddr : ∀ k, (a.add k).block = a.block ∧ (a.add k).off = a.off + k ∧ (a.add k).spot = none := by
                    intro k
                    unfold Addr.add
                    split
                    · rename_i hk; subst hk; exact ⟨rfl, rfl, hspot⟩
                    · exact ⟨rfl, rfl, rfl⟩
                  have hval : ∀ i j, i < len + 1 → j < els.length → arr[a.off + i * els.length + j]? = some (((R i).1).getD j undef) := by
                    intro i j hi hj
                    have h1 := hcell i j hi hj
                    have h2 : ((R i).1)[j]? = some (((R i).1).getD j undef) := by
                      have : j < ((R i).1).length := by rw [hlen i hi]; exact hj
                      simp [List.getD_eq_getElem?_getD, this]
                    rw [h2] at h1
                    obtain ⟨c2, ty2, fz2, q1, _, q2⟩ := cell_some h1
                    obtain ⟨k1, k2, _⟩ := haddr (i * P.cellsOf e + j)
                    rw [k1, hheap] at q1
                    cases q1
                    rw [k2] at q2
                    rw [← hz.1] at q2
                    rw [← q2]
                    congr 1
                    omega
                  obtain ⟨ab, ao, asp⟩ := a
                  simp only at hspot hheap hval
                  subst hspot
                  have hlast := hval len (els.length - 1) (by omega) (by omega)
                  have hlt := (Array.getElem?_eq_some_iff.1 hlast).1
                  have hmul : (len + 1) * els.length = len * els.length + els.length := by rw [Nat.add_mul, Nat.one_mul]
                  have hlr : (List.map (fun i => (R i).2) (List.range (len + 1))).length = len + 1 := by simp
                  rw [show (Value.slice (some (⟨ab, ao, none⟩ : Addr)) (len + 1) cap) = Value.slice (some ⟨ab, ao, none⟩) (List.map (fun i => (R i).2) (List.range (len + 1))).length cap by rw [hlr]]
                  refine .sl (Array.getElem?_eq_some_iff.1 hheap).1 hheap (by rw [hlr]; exact hlc) (by rw [hlr]; omega) (fun row hr => okL_len (hrow row hr)) ?_
                  intro i j row d hi hj
                  rw [List.getElem?_map, Option.map_eq_some_iff] at hi
                  obtain ⟨i', hi', rfl⟩ := hi
                  have hil : i < len + 1 := by
                    have := (List.getElem?_eq_some_iff.1 hi').1
                    simpa using this
                  have hii : i' = i := by
                    rw [List.getElem?_range hil] at hi'
                    simpa using hi'.symm
                  subst hii
                  have hopen := (hR i' hil).2
                  have hjl : j < els.length := by
                    have := (List.getElem?_eq_some_iff.1 hj).1
                    rw [okL_len hopen.1] at this
                    exact this
                  have hv := hval i' j hil hjl
                  have hrd := hopen.2.2 j d hj
                  have e : arr.getD (ao + i' * els.length + j) undef = ((R i').1).getD j undef := by
                    rw [Array.getD_eq_getD_getElem?, hv]; rfl
                  rw [e]
                  exact hrd
        · cases h
      · cases h
    · rename_i fs hu
      split at h
      · rename_i l hl
        split at h
        · rename_i hlen
          cases h
          obtain ⟨xs, n', rfl, rfl, h2, h3, h4⟩ := DataW.trod_struct hu hx
          obtain ⟨ds, q1, q2⟩ := open_fields (n := n') (cs := cs) (fun t scs ht cs x hx hw => open_any n t scs ht n' cs x hx hw) fs.toList 0 _ hl (by
            intro f hf
            obtain ⟨i, hi⟩ := List.mem_iff_getElem?.1 hf
            have hi' : fs[i]? = some f := by simpa using hi
            have hlt := (Array.getElem?_eq_some_iff.1 hi').1
            have := h4 i f hi'
            have hxi : xs[i]? = some xs[i] := List.getElem?_eq_getElem (by omega)
            refine ⟨xs[i], by rw [this, hxi], ?_⟩
            intro m hm
            apply hw
            simp only [DataW.weights, hu]
            refine DataW.weights_mem_each (j := i) (t := f.type) (d := (xs[i]).1) ?_ ?_ m hm
            · rw [List.getElem?_map, hi]; rfl
            · rw [List.getElem?_map, hxi]; rfl)
          refine ⟨ds, q1, by rw [okL_len q1, h2, hlen], ?_⟩
          intro j d hj
          have := q2 j d hj
          rwa [Nat.zero_add] at this
        · cases h
      · cases h
    · cases h
end
end Go.Ev

/- A law: its call, out of what was reckoned. -/
namespace Go.Ev
open Go.ChangeShapes Go.WideShapes Go.ChangeAt Go.RowKit

theorem rows_map {α : Type} (f : α → List D) (P : α → Prop) : ∀ {rows : List (List D)}, (∀ row ∈ rows, ∃ x, row = f x ∧ P x) → ∃ l : List α, rows = l.map f ∧ ∀ x ∈ l, P x
  | [], _ => ⟨[], rfl, by simp⟩
  | row :: rows, h => by
    obtain ⟨x, rfl, hx⟩ := h row (by simp)
    obtain ⟨l, rfl, hl⟩ := rows_map f P (fun r hr => h r (List.mem_cons_of_mem _ hr))
    refine ⟨x :: l, rfl, ?_⟩
    intro y hy
    rcases List.mem_cons.1 hy with rfl | hy
    · exact hx
    · exact hl y hy

theorem len_bound {by_ : Nat} {α : Type} {f : α → List D} {l : List α} (h : (l.map f).length * by_ ≤ reachBytes) : by_ * l.length ≤ 140737488355328 := by
  have := reachBytes_lt
  rw [List.length_map, Nat.mul_comm] at h
  omega

theorem op_S {row : List D} (h : okL [.s] row) : ∃ x : ByteArray, row = encS x ∧ True := by
  unfold okL at h
  obtain ⟨d, r, rfl, h1, h2⟩ := h
  unfold okL at h2
  unfold Sc.ok at h1
  obtain ⟨x, rfl, _⟩ := h1
  subst h2
  exact ⟨x, rfl, trivial⟩
theorem op_I {row : List D} (h : okL [.i .i64] row) : ∃ x : Int, row = encI x ∧ True := by
  unfold okL at h
  obtain ⟨d, r, rfl, h1, h2⟩ := h
  unfold okL at h2
  unfold Sc.ok at h1
  obtain ⟨x, rfl⟩ := h1
  subst h2
  exact ⟨x, rfl, trivial⟩
theorem op_B {row : List D} (h : okL [.i .u8] row) : ∃ x : Int, row = encB x ∧ True := by
  unfold okL at h
  obtain ⟨d, r, rfl, h1, h2⟩ := h
  unfold okL at h2
  unfold Sc.ok at h1
  obtain ⟨x, rfl⟩ := h1
  subst h2
  exact ⟨x, rfl, trivial⟩

theorem okL_cons {c : Sc} {cs : List Sc} {ds : List D} (h : okL (c :: cs) ds) : ∃ d r, ds = d :: r ∧ c.ok d ∧ okL cs r := by unfold okL at h; exact h
theorem okL_nil {ds : List D} (h : okL [] ds) : ds = [] := by unfold okL at h; exact h
theorem ok_i {k : IntKind} {d : D} (h : Sc.ok (.i k) d) : ∃ n, d = .v (.int k n) := by unfold Sc.ok at h; exact h
theorem ok_b {d : D} (h : Sc.ok .b d) : ∃ n, d = .v (.bool n) := by unfold Sc.ok at h; exact h
theorem ok_s {d : D} (h : Sc.ok .s d) : ∃ n : ByteArray, d = .v (.string n) := by unfold Sc.ok at h; obtain ⟨x, h, _⟩ := h; exact ⟨x, h⟩
theorem ok_s2 {d : D} (h : Sc.ok .s d) : ∃ n : ByteArray, d = .v (.string n) ∧ n.size ≤ 140737488355328 := by
  unfold Sc.ok at h
  obtain ⟨x, h, h1⟩ := h
  have := reachBytes_lt
  exact ⟨x, h, by omega⟩
theorem op_S2 {row : List D} (h : okL [.s] row) : ∃ x : ByteArray, row = encS x ∧ x.size ≤ 140737488355328 := by
  obtain ⟨d0, r0, rfl, k0, h0⟩ := okL_cons h
  obtain ⟨a0, rfl, s0⟩ := ok_s2 k0
  obtain rfl := okL_nil h0
  exact ⟨a0, rfl, s0⟩
theorem ok_sl {α : Type} {by_ : Nat} {els : List Sc} {d : D} (f : α → List D) (P : α → Prop) (hf : ∀ row, okL els row → ∃ x, row = f x ∧ P x) (h : Sc.ok (.sl by_ els) d) : ∃ l : List α, d = .sl els.length (l.map f) ∧ by_ * l.length ≤ 140737488355328 ∧ ∀ x ∈ l, P x := by
  unfold Sc.ok at h
  obtain ⟨rows, rfl, h1, h2⟩ := h
  obtain ⟨l, rfl, hl⟩ := rows_map f P (fun row hr => hf row (h2 row hr))
  exact ⟨l, rfl, len_bound h1, hl⟩

/-- An opened argument is one that may be read. -/
theorem argOk_agg {V : Env} {W : World} {ty : Nat} {e : TE} {scs : List Sc} {cs : Array Value} {ds : List D} (he : V.get ty = some e) (ha : e.agg = true) (hf : fits e.zero ds = true) (h : Opened W scs cs.toList ds) :
    ArgOk V W (PM.rd.okOf (fun _ => False) (There W)) ty (.agg ds none) (.agg cs) := by
  refine ⟨e, he, .inr ⟨ha, ds, cs, rfl, rfl, by simpa using h.2.1, hf, ?_⟩⟩
  intro j d hj
  have := h.2.2 j d hj
  rw [show cs.getD j undef = cs.toList.getD j undef by simp [Array.getD_eq_getD_getElem?, List.getD_eq_getElem?_getD]]
  exact this.mono fun b hb => ⟨.inr hb, rfl⟩

theorem argOk_one {V : Env} {W : World} {ty : Nat} {e : TE} {scs : List Sc} {v : Value} {d : D} (he : V.get ty = some e) (ha : e.agg = false) (hf : fits e.zero [d] = true) (h : Opened W scs [v] [d]) :
    ArgOk V W (PM.rd.okOf (fun _ => False) (There W)) ty (.d d none) v := by
  refine ⟨e, he, .inl ⟨ha, d, rfl, hf, ?_⟩⟩
  have := h.2.2 0 d rfl
  exact this.mono fun b hb => ⟨.inr hb, rfl⟩

/-- A law's call. -/
theorem law_calls {V : Env} {E : Prog} {f : Nat} {sg : Sig} {W : World} {vals : List Value} {xs outs : List X} (hD : ∀ k, Does V f sg (evF E k f)) (hr : Runs E f xs [.d (.v (.bool true)) none] outs) (hres : sg.res = [.c (.view []) .no])
    (hT : ∀ q ∈ V.tabs, ∃ t fz, W.heap[q.1]? = some (.cells q.2 t fz)) (hpm : ∀ pm ∈ sg.pms, pm = .rd) (hl : vals.length = sg.pms.length) (hx : xs.length = sg.pms.length)
    (hargs : ∀ (i : Nat) (x : X) (v : Value) (ty : Nat), xs[i]? = some x → vals[i]? = some v → sg.tys[i]? = some ty → ArgOk V W (PM.rd.okOf (fun _ => False) (There W)) ty x v) :
    Calls V.P f vals.toArray W fun e W' => e = .returned (.bool true) ∧ Below W.heap.size W W' := by
  obtain ⟨k, hk⟩ := hr
  refine ((hD k).2.1 (by rw [List.all_eq_true]; intro pm hp; rw [hpm pm hp]; rfl) W (fun b => ∃ q ∈ V.tabs, q.1 = b) (fun _ => There W) vals xs (fun q hq => ⟨⟨q, hq, rfl⟩, hT q hq⟩) hl hx (by rintro b ⟨q, hq, rfl⟩; obtain ⟨t, fz, e⟩ := hT q hq; exact (Array.getElem?_eq_some_iff.1 e).1) (fun i b h => h) ?_ _ _ (hk k (Nat.le_refl _))).mono ?_
  · intro i x v pm ty h1 h2 h3 h4
    have := hargs i x v ty h1 h2 h4
    rw [hpm pm (List.mem_of_getElem? h3)]
    obtain ⟨e, he, hc⟩ := this
    have hmono : ∀ b, PM.rd.okOf (fun _ => False) (There W) b → PM.rd.okOf (fun b => ∃ q ∈ V.tabs, q.1 = b) (There W) b ∧ W.heap[b]? = W.heap[b]? := by
      intro b hb
      rcases hb with hb | hb
      · exact hb.elim
      · exact ⟨.inr hb, rfl⟩
    refine ⟨e, he, ?_⟩
    rcases hc with ⟨h1, d, h2, h3, h4⟩ | ⟨h1, ds, vs, h2, h3, h4, h5, h6⟩
    · exact .inl ⟨h1, d, h2, h3, h4.mono hmono⟩
    · exact .inr ⟨h1, ds, vs, h2, h3, h4, h5, fun j d hj => (h6 j d hj).mono hmono⟩
  · rintro e W' ⟨vs, C', rfl, hd⟩
    refine ⟨?_, ⟨hd.ext.calm.os, hd.ext.calm.tape, hd.ext.calm.output, hd.ext.size, hd.ext.same⟩⟩
    match vs, hd.len with
    | [v], _ =>
      have := hd.res 0 _ v _ rfl rfl (by rw [hres]; rfl)
      obtain ⟨d, o, e1, e2, _⟩ := this
      cases e1
      cases e2 with
      | view h => cases h with
        | v h => rfl
end Go.Ev


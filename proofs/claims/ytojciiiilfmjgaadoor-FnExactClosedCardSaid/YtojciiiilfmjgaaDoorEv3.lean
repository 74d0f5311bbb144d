/- What a Go function does, reckoned in plain data, and that it does so: part 3. -/
import Derived.Great.BuildSlice
import Derived.Deep.AppendSrc
import Derived.Deep.Upon
import Derived.Test.YtojciiiilfmjgaaDoorEv2
set_option linter.all false
/- What stands when cells are written. -/
namespace Go.Ev
section
variable {A : Start} {w : World} {μ μ' : Mu} {φ φ' : Fr} {tm : Nat → Value} {C : Cx} {S : Spot}

theorem Spot.T_lab (S : Spot) (k : Nat) : (S.T k).lab = S.row ++ [S.c + k] := by simp [Spot.T, Pl.lab, Spot.row]

theorem land_keep {b : Nat} {o : Ow} (ho : C.own b = some o) (hu : under S.row S.c S.n o.p.lab = false) : (C.land S).own b = some o ∨ o.p.s = gam := by
  by_cases e : o.p.s = gam
  · exact .inr e
  · left
    have := land_of (S := S) ho (pl_same e fun k hk => by rw [S.T_lab]; exact under_false hu hk)
    exact this

theorem noG_spec {sm : SM} (h : sm.noG = true) : ∀ q, q = gam → ∀ cs, sm ≠ .pt q cs ∧ (∀ k, sm ≠ .pa q cs k) ∧ (∀ m, sm ≠ .c m (.at q cs)) ∧ ∀ ms js, sm ≠ .agg ms (.ats q cs js) := by
  rintro q rfl cs
  refine ⟨?_, ?_, ?_, ?_⟩
  · rintro rfl; simp [SM.noG] at h
  · rintro k rfl; simp [SM.noG] at h
  · rintro m rfl; simp [SM.noG] at h
  · rintro ms js rfl; simp [SM.noG] at h

/-- A box stays one, with as many cells. -/
theorem putAt_len {p : Pl} {st : List (Nat × Nat)} {i c : Nat} {new : List D} (hp : p.st = st ++ [(i, c)]) (h : putAt φ p new = some φ') {s : Nat} {ds : List D} (hs : φ s = .box ds) : ∃ ds', φ' s = .box ds' ∧ ds'.length = ds.length := by
  obtain ⟨rows, rs, row, x', h1, h2, h3, h4, rfl, h6, h7⟩ := put_snoc hp h
  by_cases e : s = p.s
  · subst e
    rw [hs] at h1 h7
    simp only [rowsX, Option.some.injEq] at h1
    subst h1
    have hb : ∃ cs', x' = .box cs' := by
      rcases h7 with ⟨cs, cs', _, q⟩ | ⟨z0, r0, o0, r1, q, _⟩ | ⟨cs, o0, q⟩
      · exact ⟨cs', q⟩
      · cases q
      · cases q
    obtain ⟨cs', rfl⟩ := hb
    refine ⟨cs', by simp [upd], ?_⟩
    simp only [rowsX, Option.some.injEq] at h6
    cases st with
    | nil =>
      simp only [rowsD, Option.some.injEq] at h2
      subst h2
      cases i with
      | zero =>
        simp only [List.getElem?_cons_zero, Option.some.injEq] at h3
        subst h3
        simp only [setD, List.set_cons_zero, List.cons.injEq, and_true] at h6
        rw [h6]
        exact splice_length h4
      | succ i => simp at h3
    | cons q r =>
      exact setD_rows _ ds.length (q :: r) [ds] (by simp) (by simp) cs' (by rw [← h6]; simp)
  · exact ⟨ds, by simp [upd, e, hs], rfl⟩

theorem pl_root {S : Spot} {q p : Pl} (hq : q.st = []) (h : S.pl q = some p) : p = q := by
  unfold Spot.pl at h
  rw [hq] at h
  split at h
  · cases h
  · split at h
    · split at h
      · rename_i i' c' l e
        exfalso
        cases hS : S.st with
        | nil => rw [hS] at e; simp [strip] at e
        | cons a b => rw [hS] at e; simp [strip] at e
      · simpa using h.symm
    · simpa using h.symm

theorem St.land (hrg : RgOk A) (h : St A w μ φ tm C) (hs1 : S.s ≠ gam) {v : Value} (hv : PtOk C ⟨S.s, S.st ++ [(S.i, S.c)]⟩ v) {cols : List M} (hn : nodeC (μ.get S.s) (S.st.map (·.2)) = some cols)
    {new : List D} {vs : List Value} {ms : List M} (hnl : new.length = S.n) (hvl : vs.length = S.n) (hml : ms.length = S.n)
    (hrep : ∀ (k : Nat) (m : M) (d : D) (u : Value), ms[k]? = some m → new[k]? = some d → vs[k]? = some u → Rep w C (src k) m d u)
    (hput : putAt φ ⟨S.s, S.st ++ [(S.i, S.c)]⟩ new = some φ') (hgam : μ.get gam = .u) (hnog : ∀ s, (μ.get s).noG = true)
    (hμ : ∀ s, s ≠ S.s → μ'.get s = finSM S.row S.c S.n ((μ.get s).map S.f))
    (hself : (S.st = [] ∧ ∃ old, μ.get S.s = .box old ∧ S.c + S.n ≤ old.length ∧ μ'.get S.s = .box (spliceM (mapL S.f old) S.c (mapL S.f ms))) ∨
      (μ'.get S.s = ((μ.get S.s).map S.f).wrote ∧ ∀ k m m0, ms[k]? = some m → cols[S.c + k]? = some m0 → leS (m.map S.f) (m0.map S.f) = true)) :
    ∃ b off arr ty, v = .pointer (some ⟨b, off, none⟩) ∧ w.heap[b]? = some (.cells arr ty (0, 0)) ∧ off + S.n ≤ arr.size ∧
      St A (w.setRow b (arr.toList.take off ++ vs ++ arr.toList.drop (off + vs.length)).toArray) μ' φ' tm (C.land S) := by
  obtain ⟨rows, rs, row, x', h1, h2, h3, h4, rfl, h6, h7⟩ := put_snoc (p := ⟨S.s, S.st ++ [(S.i, S.c)]⟩) rfl hput
  simp only at h1 h7
  have hne : rs ≠ [] := by intro e; rw [e] at h3; simp at h3
  obtain ⟨b, off, cap, z, arr, hnode⟩ := h.node_at hn h1 h2 hne
  obtain ⟨ty, hty⟩ := hnode.heap
  obtain ⟨hbl, hnG, hnP, hb0⟩ := h.own b _ hnode.own
  have hve : v = .pointer (some ⟨b, off + S.i * z + S.c, none⟩) := by
    obtain ⟨st', i', c', b', off', cap', z', q1, q2, q3⟩ := hv
    simp only at q1
    obtain ⟨q4, q5⟩ := List.append_inj' q1 rfl
    cases q5
    subst q4
    have hb := h.inj _ _ _ _ hnode.own q2 rfl
    subst hb
    have ho := hnode.own.symm.trans q2
    cases ho
    exact q3
  have hroom := hnode.size S.i row h3
  refine ⟨b, off + S.i * z + S.c, arr, ty, hve, hty, by omega, ?_⟩
  have hvok : ∀ ps ps', S.f ps = some ps' → ∀ b', okB C ps b' → okB (C.land S) ps' b' ∧ (w.setRow b (arr.toList.take (off + S.i * z + S.c) ++ vs ++ arr.toList.drop (off + S.i * z + S.c + vs.length)).toArray).heap[b']? = w.heap[b']? := by
    intro ps ps' hf b' hb'
    obtain ⟨g1, g2⟩ := land_ok (S := S) ⟨off, cap, z, hnode.own⟩ hnG hnP hs1 hf hb'
    exact ⟨g1, setRow_ne g2⟩
  have hdata : ∀ p : Pl, isPre p.lab S.row = false → under S.row S.c S.n p.lab = false → dataAt (upd φ S.s x') p = dataAt φ p := by
    intro p g1 g2
    by_cases e : p.s = S.s
    · have hp1 : ¬ p.st.map (·.2) <+: S.st.map (·.2) := by
        intro hp
        have : isPre p.lab S.row = true := by
          rw [isPre_iff, Pl.lab, Spot.row, e]
          exact (List.prefix_cons_inj _).2 hp
        rw [this] at g1; cases g1
      have hp2 : ∀ k, k < new.length → ¬ (S.st.map (·.2) ++ [S.c + k]) <+: p.st.map (·.2) := by
        intro k hk hp
        refine under_false g2 (k := k) (by omega) ?_
        rw [Spot.row, Pl.lab, e, List.cons_append]
        exact (List.prefix_cons_inj _).2 hp
      have hpne : p.st ≠ [] := by intro e'; rw [e'] at hp1; exact hp1 (by simp)
      have hcs : cellsAt (upd φ S.s x') p 1 = cellsAt φ p 1 := by
        unfold cellsAt
        rw [e, h1, show upd φ S.s x' S.s = x' by simp [upd], h6]
        exact cells_same h3 h4 S.st p.st rows h2 hp1 hp2
      unfold dataAt
      split
      · rename_i e'; exact (hpne e').elim
      · rw [hcs]
    · exact dataAt_same (by simp [upd, e])
  refine ⟨?_, ?_, ?_, ?_, ?_, h.pa, ?_, ?_, ?_, ?_, ?_⟩
  rotate_right
  · intro b1 o1 g1
    obtain ⟨o1', k1, _, k3, k4, k5⟩ := land_inv g1
    obtain ⟨arr1, ty1, k6, k7⟩ := h.oko b1 o1' k1
    rw [k3, k4, k5]
    by_cases e : b1 = b
    · subst e
      rw [hty] at k6
      cases k6
      refine ⟨_, _, setRow_get hty, ?_⟩
      simp only [List.size_toArray, List.length_append, List.length_take, List.length_drop, Array.length_toList]
      omega
    · rw [setRow_ne e]; exact ⟨arr1, ty1, k6, k7⟩
  · intro s
    by_cases hs : s = S.s
    · subst hs
      right
      have hu : φ S.s ≠ .u := by intro e; rw [e] at h1; cases h1
      have hc := (h.slot S.s).resolve_left hu
      unfold Claim at hc ⊢
      rw [show upd φ S.s x' S.s = x' by simp [upd]]
      have hnode2 : ∀ b' off' cap' z' arr', Node w C ⟨S.s, S.st⟩ cols rs b' off' cap' z' arr' → b' = b ∧ off' = off ∧ cap' = cap ∧ z' = z ∧ arr' = arr := by
        intro b' off' cap' z' arr' hn'
        have hb := h.inj _ _ _ _ hnode.own hn'.own rfl
        subst hb
        have ho := hnode.own.symm.trans hn'.own
        cases ho
        obtain ⟨ty', hty'⟩ := hn'.heap
        rw [hty] at hty'
        cases hty'
        exact ⟨rfl, rfl, rfl, rfl, rfl⟩
      have hset : S.st ≠ [] → (∀ k m m0, ms[k]? = some m → cols[S.c + k]? = some m0 → leS (m.map S.f) (m0.map S.f) = true) → ∀ (cols0 : List M) (val : Nat → Nat → Value), Kids w C ⟨S.s, []⟩ cols0 rows val → colsD cols0 (S.st.map (·.2)) = some cols →
          Kids (w.setRow b (arr.toList.take (off + S.i * z + S.c) ++ vs ++ arr.toList.drop (off + S.i * z + S.c + vs.length)).toArray) (C.land S) ⟨S.s, []⟩ (mapL S.f cols0) (setD rows S.st (rs.set S.i (row.take S.c ++ new ++ row.drop (S.c + new.length)))) val := by
        intro hst hweak cols0 val hk hcol
        have hx : (⟨S.s, []⟩ : Pl).ext S.st = ⟨S.s, S.st⟩ := by simp [Pl.ext]
        refine Kids.set S.f _ hvok S.st ⟨S.s, []⟩ cols0 rows val rs cols hk hst h2 hcol hne ?_ ?_
        · intro b' off' cap' z' arr' hn'
          rw [hx] at hn' ⊢
          obtain ⟨rfl, rfl, rfl, rfl, rfl⟩ := hnode2 _ _ _ _ _ hn'
          exact h.turned hs1 hnode h3 h4 hnl hvl hrep (colsTo_weak hml hweak)
        · intro b' q off' cap' z' hb' hq
          have hq' : (⟨S.s, []⟩ : Pl).ext q = ⟨S.s, q⟩ := by simp [Pl.ext]
          rw [hq'] at hb' ⊢
          refine ⟨land_of hb' ?_, setRow_ne ?_⟩
          · show S.pl ⟨S.s, q⟩ = some _
            unfold Spot.pl
            rw [if_neg hs1, if_pos rfl]
            have : strip S.st q = none := by
              cases e : strip S.st q with
              | none => rfl
              | some r => rw [strip_some] at e; exact (hq ⟨r, e.symm⟩).elim
            simp only [this]
          · rintro rfl
            have := hnode.own.symm.trans hb'
            simp only [Option.some.injEq, Ow.mk.injEq, Pl.mk.injEq, true_and] at this
            exact hq ⟨[], by rw [List.append_nil]; exact this.1⟩
      have hroot : ∀ b' off' cap' z', S.st ≠ [] → C.own b' = some ⟨⟨S.s, []⟩, off', cap', z'⟩ → (C.land S).own b' = some ⟨⟨S.s, []⟩, off', cap', z'⟩ ∧
          (w.setRow b (arr.toList.take (off + S.i * z + S.c) ++ vs ++ arr.toList.drop (off + S.i * z + S.c + vs.length)).toArray).heap[b']? = w.heap[b']? := by
        intro b' off' cap' z' hst hb'
        refine ⟨land_of hb' ?_, setRow_ne ?_⟩
        · show S.pl ⟨S.s, []⟩ = some _
          unfold Spot.pl
          rw [if_neg hs1, if_pos rfl]
          have : strip S.st [] = none := by
            cases e : strip S.st [] with
            | none => rfl
            | some r =>
              rw [strip_some] at e
              exact (hst (List.append_eq_nil_iff.1 e.symm).1).elim
          simp only [this]
        · rintro rfl
          have := hnode.own.symm.trans hb'
          simp only [Option.some.injEq, Ow.mk.injEq, Pl.mk.injEq, true_and] at this
          exact hst this.1
      generalize hsm : μ.get S.s = sm at *
      cases sm with
      | box ms0 =>
        obtain ⟨ds, b0, off0, arr0, e1, e2, e3⟩ := hc
        have hrows : rows = [ds] := by rw [e1] at h1; simp only [rowsX, Option.some.injEq] at h1; exact h1.symm
        have hbx : ∃ cs', x' = .box cs' := by
          rcases h7 with ⟨cs, cs', _, q⟩ | ⟨z0, r0, o0, r1, q, _⟩ | ⟨cs, o0, q⟩
          · exact ⟨cs', q⟩
          · rw [e1] at q; cases q
          · rw [e1] at q; cases q
        obtain ⟨cs', rfl⟩ := hbx
        simp only [rowsX, Option.some.injEq] at h6
        by_cases hst : S.st = []
        · have hcols : cols = ms0 := by rw [hst] at hn; simp only [List.map_nil, nodeC, Option.some.injEq] at hn; exact hn.symm
          have hrs : rs = [ds] := by rw [hst, hrows] at h2; simp only [rowsD, Option.some.injEq] at h2; exact h2.symm
          have hsame : b0 = b ∧ off0 = off ∧ z = 0 := by
            have ho := e3.own
            have hb := h.inj _ _ _ _ hnode.own ho (by simp [hst])
            subst hb
            have ho2 := hnode.own.symm.trans ho
            simp only [Option.some.injEq, Ow.mk.injEq] at ho2
            exact ⟨rfl, ho2.2.1.symm, ho2.2.2.2⟩
          obtain ⟨rfl, rfl, hz0⟩ := hsame
          subst hz0
          have hto : ∃ cols', μ'.get S.s = .box cols' ∧ ColsTo S cols ms cols' rs.length := by
            rcases hself with ⟨_, old, q1, q2, q3⟩ | ⟨q1, q2⟩
            · cases q1
              refine ⟨_, q3, ?_⟩
              rw [hcols]
              exact colsTo_strong q2 hml (by rw [hrs]; simp)
            · refine ⟨mapL S.f ms0, by rw [q1]; rfl, ?_⟩
              rw [← hcols]
              exact colsTo_weak hml q2
          obtain ⟨cols', hμs, hto⟩ := hto
          have ht := h.turned hs1 hnode h3 h4 hnl hvl hrep hto
          obtain ⟨arr', ty', k1, k2, k3⟩ := ht.ex
          rw [hμs]
          have hrs' : rs.set S.i (row.take S.c ++ new ++ row.drop (S.c + new.length)) = [cs'] := by rw [h6, hst]; rfl
          rw [hrs'] at k3
          have hrow' := ht.rows
          rw [hrs'] at hrow'
          have hcl : cs'.length = cols'.length := hrow' cs' (by simp)
          have hdl : ds.length = cols.length := hnode.len 0 ds (by rw [hrs]; rfl)
          have hds := hnode.size 0 ds (by rw [hrs]; rfl)
          have hl' := hto.len
          have hown' := ht.own
          rw [hst] at k3 hown'
          have hcap0 : cap = 0 := by
            have ho2 := hnode.own.symm.trans e3.own
            simp only [Option.some.injEq, Ow.mk.injEq] at ho2
            exact ho2.2.2.1
          rw [hcap0] at hown'
          refine ⟨cs', b0, off0, arr', rfl, e2, ⟨hown', ⟨ty', k1⟩, ?_, ?_, .inl (by simp), k3⟩⟩
          · intro i' row' hr'
            cases i' with
            | succ i' => simp at hr'
            | zero =>
              simp only [List.getElem?_cons_zero, Option.some.injEq] at hr'
              subst hr'
              omega
          · intro i' row' hr'
            cases i' with
            | succ i' => simp at hr'
            | zero =>
              simp only [List.getElem?_cons_zero, Option.some.injEq] at hr'
              subst hr'
              exact hcl
        · rcases hself with ⟨q0, _⟩ | ⟨q1, q2⟩
          · exact (hst q0).elim
          · rw [q1]
            show ClaimX _ _ _ _ _ _ _ (.box (mapL S.f ms0))
            have hcol : colsD ms0 (S.st.map (·.2)) = some cols := by
              cases hS : S.st with
              | nil => exact (hst hS).elim
              | cons q r =>
                rw [hS] at hn
                simp only [List.map_cons, nodeC] at hn ⊢
                simp only [colsD]
                exact hn
            have hk := hset hst q2 ms0 _ (by rw [hrows]; exact e3.kids) hcol
            obtain ⟨g1, g2⟩ := hroot b0 off0 0 0 hst e3.own
            obtain ⟨ty0, hty0⟩ := e3.heap
            rw [← h6] at hk
            have hcl : cs'.length = ds.length :=
              setD_rows (rs.set S.i (row.take S.c ++ new ++ row.drop (S.c + new.length))) ds.length S.st rows hst (by rw [hrows]; simp) cs' (by rw [← h6]; simp)
            refine ⟨cs', b0, off0, arr0, rfl, e2, ⟨g1, ⟨ty0, by rw [g2]; exact hty0⟩, ?_, ?_, .inl (by simp), hk⟩⟩
            · intro i' row' hr'
              have := e3.size 0 ds rfl
              cases i' with
              | succ i' => simp at hr'
              | zero =>
                simp only [List.getElem?_cons_zero, Option.some.injEq] at hr'
                subst hr'
                omega
            · intro i' row' hr'
              have := e3.len 0 ds rfl
              rw [mapL_len]
              cases i' with
              | succ i' => simp at hr'
              | zero =>
                simp only [List.getElem?_cons_zero, Option.some.injEq] at hr'
                subst hr'
                omega
      | c m og =>
        obtain ⟨d, o, e1, e2, e3⟩ := hc
        have hweak : μ'.get S.s = ((SM.c m og).map S.f).wrote ∧ ∀ k m m0, ms[k]? = some m → cols[S.c + k]? = some m0 → leS (m.map S.f) (m0.map S.f) = true := by
          rcases hself with ⟨_, old, q1, _⟩ | q
          · cases q1
          · exact q
        obtain ⟨hμs, hweak⟩ := hweak
        cases m with
        | own cols0 =>
          cases d with
          | v u => rw [e1] at h1; simp [rowsX] at h1
          | sl z0 rows0 =>
            have hrows : rows = rows0 := by rw [e1] at h1; simp only [rowsX, Option.some.injEq] at h1; exact h1.symm
            subst hrows
            have hbx : ∃ rows', x' = .d (.sl z0 rows') o := by
              rcases h7 with ⟨cs, cs', q, _⟩ | ⟨z1, r0, o0, r1, q, q2⟩ | ⟨cs, o0, q⟩
              · rw [e1] at q; cases q
              · rw [e1] at q; cases q; exact ⟨r1, q2⟩
              · rw [e1] at q; cases q
            obtain ⟨rows', rfl⟩ := hbx
            simp only [rowsX, Option.some.injEq] at h6
            have hrne : rows ≠ [] := by
              intro e
              subst e
              cases hS : S.st with
              | nil => rw [hS] at h2; simp only [rowsD, Option.some.injEq] at h2; exact hne h2.symm
              | cons q r => obtain ⟨i1, c1⟩ := q; rw [hS] at h2; simp [rowsD] at h2
            have hog : ∀ d', (rows.length = rows'.length) → d' = D.sl z0 rows' → ∃ og', ((SM.c (.own cols0) og).map S.f).wrote = .c (.own (mapL S.f cols0)) og' ∧ ∀ C' φ' tm' v', OgOk C' φ' tm' (.own (mapL S.f cols0)) o d' v' og' := by
              intro d' _ _
              cases og with
              | no => exact ⟨.no, rfl, fun _ _ _ _ _ => e3 rfl⟩
              | _ => exact ⟨.dead, rfl, fun _ _ _ _ _ => trivial⟩
            obtain ⟨b0, off0, cap0, arr0, hval, hnode0, hcap, hsz, hz, hz0⟩ := e2.node hrne
            simp only [nodeC] at hn
            by_cases hst : S.st = []
            · have hcols : cols = cols0 := by rw [hst] at hn; simp only [List.map_nil, colsD, Option.some.injEq] at hn; exact hn.symm
              have hrs : rs = rows := by rw [hst] at h2; simp only [rowsD, Option.some.injEq] at h2; exact h2.symm
              subst hcols
              subst hrs
              have hsame : b0 = b ∧ off0 = off ∧ cap0 = cap ∧ z0 = z := by
                have ho := hnode0.own
                have hb := h.inj _ _ _ _ hnode.own ho (by simp [hst])
                subst hb
                have ho2 := hnode.own.symm.trans ho
                simp only [Option.some.injEq, Ow.mk.injEq] at ho2
                exact ⟨rfl, ho2.2.1.symm, ho2.2.2.1.symm, ho2.2.2.2.symm⟩
              obtain ⟨rfl, rfl, rfl, rfl⟩ := hsame
              have ht := h.turned hs1 hnode h3 h4 hnl hvl hrep (colsTo_weak hml hweak)
              obtain ⟨arr', ty', k1, k2, k3⟩ := ht.ex
              have hrs' : rs.set S.i (row.take S.c ++ new ++ row.drop (S.c + new.length)) = rows' := by rw [h6, hst]; rfl
              rw [hrs'] at k3
              have hrow' := ht.rows
              rw [hrs'] at hrow'
              have hlr := ht.len
              rw [hrs'] at hlr
              have hown' := ht.own
              rw [hst] at k3 hown'
              obtain ⟨og', g1, g2⟩ := hog _ hlr.symm rfl
              rw [hμs, g1]
              refine ⟨_, o, rfl, ?_, g2 _ _ _ _⟩
              rw [hval, ← hlr]
              have harr : arr0.size = arr.size := by
                obtain ⟨ty0, hty0⟩ := hnode0.heap
                rw [hty] at hty0; cases hty0; rfl
              refine .own hown' k1 (by omega) (by omega) (by rw [mapL_len]; exact hz) hz0 ?_ k3
              intro row1 hr1
              rw [hrow' row1 hr1, mapL_len]; exact hz
            · have hk := hset hst hweak cols0 _ hnode0.kids hn
              obtain ⟨g1, g2⟩ := hroot b0 off0 cap0 z0 hst hnode0.own
              obtain ⟨ty0, hty0⟩ := hnode0.heap
              rw [← h6] at hk
              have hlr : rows'.length = rows.length := by rw [h6]; exact setD_length _ _ _ hst
              obtain ⟨og', k1, k2⟩ := hog _ hlr.symm rfl
              rw [hμs, k1]
              refine ⟨_, o, rfl, ?_, k2 _ _ _ _⟩
              rw [hval, ← hlr]
              refine .own g1 (by rw [g2]; exact hty0) (by omega) hsz (by rw [mapL_len]; exact hz) hz0 ?_ hk
              intro row1 hr1
              rw [h6] at hr1
              refine setD_rows _ z0 S.st rows hst ?_ row1 hr1
              intro row2 hr2
              obtain ⟨i2, hi2⟩ := List.getElem?_of_mem hr2
              rw [hnode0.len i2 row2 hi2, hz]
        | _ => simp [nodeC] at hn
      | _ => simp [nodeC] at hn
    · rw [hμ s hs, fin_map]
      by_cases hg : s = gam
      · subst hg
        right
        rw [hgam]
        trivial
      · rcases h.slot s with hu | hc
        · left; simp [upd, hs, hu]
        · right
          have hc2 : Claim w C φ tm s (finSM S.row S.c S.n (μ.get s)) := ClaimX.fin hc
          refine hc2.keep S.f (by simp [upd, hs]) rfl ?_ hvok ?_ ?_ ?_
          · intro b' q off' c' z' hb'
            refine ⟨land_of hb' (pl_other hg hs), setRow_ne ?_⟩
            rintro rfl
            have := hnode.own.symm.trans hb'
            simp only [Option.some.injEq, Ow.mk.injEq, Pl.mk.injEq] at this
            exact hs this.1.1.symm
          · intro i' b' hb'
            exact ⟨hb', setRow_ne (by rintro rfl; exact hnP i' hb')⟩
          · intro b' hb'
            exact ⟨.inl hb', setRow_ne (by rintro rfl; exact hnG hb')⟩
          · exact refKeep_fin S.f (μ.get s) S.s rfl (fun s' hs' => by simp [upd, hs']) (fun b' o ho hu => land_keep ho hu) (noG_spec (hnog s)) hdata
  · intro b1 b2 o1 o2 g1 g2 e
    obtain ⟨o1', k1, k2, _⟩ := land_inv g1
    obtain ⟨o2', l1, l2, _⟩ := land_inv g2
    rw [e] at k2
    exact h.inj b1 b2 _ _ k1 l1 (pl_inj k2 l2)
  · intro b1 o1 g1
    obtain ⟨o1', k1, k2, _⟩ := land_inv g1
    obtain ⟨q1, q2, q3, q4⟩ := h.own b1 o1' k1
    refine ⟨by rw [setRow_size]; exact q1, ?_, q3, q4⟩
    rintro (hg | ⟨o3, g3, g4⟩)
    · exact q2 hg
    · rw [k1] at g3; cases g3; rw [k2] at g4; cases g4
  · rintro b1 (hg | ⟨o3, g3, g4⟩)
    · rw [setRow_size]; exact h.frz b1 hg
    · obtain ⟨q1, q2, q3, q4⟩ := h.own b1 o3 g3
      rw [setRow_size]
      exact ⟨q1, .inr q4⟩
  · intro b1 hb1
    exact ⟨.inl (h.ag b1 hb1).1, (h.ag b1 hb1).2⟩
  · intro b1 hb1 hn1
    rw [setRow_ne]
    · exact h.old b1 hb1 hn1
    · rintro rfl
      rcases hb0 with e | e
      · exact hn1 e
      · omega
  · rw [setRow_size]; exact h.size
  · exact h.calm.trans ⟨rfl, rfl, rfl⟩
  · intro r hr
    obtain ⟨g1, g2⟩ := h.rng r hr
    refine ⟨?_, ?_⟩
    · by_cases e : r.b = b
      · obtain ⟨e1, ds, e2, e3⟩ := g2 _ (by rw [e]; exact hnode.own)
        simp only [Ow.mk.injEq, Pl.mk.injEq] at e1
        obtain ⟨⟨es, est⟩, eoff, ecap, ez⟩ := e1
        rw [es, e2] at h1
        simp only [rowsX, Option.some.injEq] at h1
        subst h1
        rw [est] at h2
        simp only [rowsD, Option.some.injEq] at h2
        subst h2
        have hi0 : S.i = 0 ∧ row = ds := by
          cases hSi : S.i with
          | zero => rw [hSi] at h3; simp only [List.getElem?_cons_zero, Option.some.injEq] at h3; exact ⟨rfl, h3.symm⟩
          | succ k => rw [hSi] at h3; simp at h3
        obtain ⟨hi0, hrow⟩ := hi0
        obtain ⟨arr0, ty0, arr1, k1, k2, k3, k4⟩ := g1
        rw [e, hty] at k2
        cases k2
        have hlv : off + S.i * z + S.c + vs.length ≤ arr.toList.length := by
          simp only [Array.length_toList]
          omega
        refine ⟨arr0, ty, _, k1, by rw [e]; exact setRow_get hty, ?_, ?_⟩
        · have := splice_length hlv
          simp only [List.size_toArray]
          rw [this]
          simpa using k3
        · intro i hi
          rw [List.getElem?_toArray, splice_get hlv]
          have hz : S.i * z = 0 := by rw [hi0]; simp
          rw [hrow, e3] at h4
          rw [← k4 i hi]
          split
          · simp
          · rw [if_neg (by omega)]
            simp
      · exact g1.ext (setRow_ne e)
    · intro o1 q1
      obtain ⟨o1', p1, p2, p3, p4, p5⟩ := land_inv q1
      obtain ⟨e1, ds, e2, e3⟩ := g2 o1' p1
      have hp := pl_root (by rw [e1]) p2
      obtain ⟨ds', f1, f2⟩ := putAt_len rfl hput e2
      refine ⟨?_, ds', f1, by rw [f2]; exact e3⟩
      obtain ⟨a1, a2, a3, a4⟩ := o1
      simp only at hp p3 p4 p5
      rw [hp, p3, p4, p5, e1]
end
end Go.Ev

/- The store as an operation. -/
namespace Go.Ev

def Cx.relG (C : Cx) : Cx where
  own b := match C.own b with
    | some o => if o.p.s = gam then none else some o
    | none => none
  G b := C.G b ∨ ∃ o, C.own b = some o ∧ o.p.s = gam
  PA := C.PA

theorem get_all {P : SM → Bool} (hu : P .u = true) {μ : Mu} (h : List.all μ (fun p => P p.2) = true) (s : Nat) : P (μ.get s) = true := by
  unfold Mu.get
  split
  · rename_i m hm
    rw [List.all_eq_true] at h
    have : (s, m) ∈ μ := by
      clear h
      induction μ with
      | nil => cases hm
      | cons a l ih =>
        obtain ⟨k, x⟩ := a
        rw [List.lookup_cons] at hm
        by_cases e : s = k
        · subst e
          simp only [beq_self_eq_true, Option.some.injEq] at hm
          subst hm
          simp
        · have e' : (s == k) = false := by simpa using e
          rw [e'] at hm
          exact List.mem_cons_of_mem _ (ih hm)
    exact h _ this
  · exact hu

theorem okG_spec {μ : Mu} (h : μ.okG = true) : μ.get gam = .u ∧ ∀ s, (μ.get s).noG = true := by
  unfold Mu.okG at h
  rw [Bool.and_eq_true] at h
  refine ⟨?_, get_all rfl h.1⟩
  have h2 := h.2
  split at h2
  · assumption
  · cases h2

theorem fin_get (μ : Mu) (row : List Nat) (c n s : Nat) : (μ.fin row c n).get s = finSM row c n ((μ.get s).map (landF row c)) := by
  unfold Mu.fin
  exact get_mapG (fun x => finSM row c n (x.map (landF row c))) rfl μ s

section
variable {A : Start} {w : World} {μ : Mu} {φ : Fr} {tm : Nat → Value} {C : Cx}

theorem relG_own {b : Nat} {o : Ow} (h : C.own b = some o) (hg : o.p.s ≠ gam) : C.relG.own b = some o := by simp [Cx.relG, h, hg]

theorem relG_inv {b : Nat} {o : Ow} (h : C.relG.own b = some o) : C.own b = some o ∧ o.p.s ≠ gam := by
  simp only [Cx.relG] at h
  cases ho : C.own b with
  | none => rw [ho] at h; cases h
  | some o' =>
    rw [ho] at h
    simp only at h
    split at h
    · cases h
    · rename_i hg; cases h; exact ⟨rfl, hg⟩

theorem relG_ok {ps : List Pv} {b : Nat} (h : okB C ps b) : okB C.relG ps b := by
  rcases h with h | ⟨p, hp, h⟩
  · exact .inl (.inl h)
  · cases p with
    | arg i => exact .inr ⟨_, hp, h⟩
    | lab l =>
      obtain ⟨o, ho, hl⟩ := h
      by_cases e : o.p.s = gam
      · exact .inl (.inr ⟨o, ho, e⟩)
      · exact .inr ⟨_, hp, o, relG_own ho e, hl⟩

theorem St.relG (h : St A w μ φ tm C) (hg : μ.get gam = .u) (hn : ∀ s, (μ.get s).noG = true) : St A w μ φ tm C.relG := by
  refine ⟨?_, ?_, ?_, ?_, ?_, h.pa, h.old, h.size, h.calm, ?_, fun b o hb => h.oko b o (relG_inv hb).1⟩
  · intro s
    rcases h.slot s with h1 | h1
    · exact .inl h1
    · right
      by_cases e : s = gam
      · subst e; rw [hg]; trivial
      · have := h1.keep (w' := w) (C' := C.relG) (φ' := φ) (tm' := tm) idF rfl rfl (fun b q off c z hb => ⟨relG_own hb e, rfl⟩)
          (by intro ps ps' hf b hb; cases hf; exact ⟨relG_ok hb, rfl⟩) (fun i b hb => ⟨hb, rfl⟩) (fun b hb => ⟨.inl hb, rfl⟩) ?_
        · rwa [smap_id] at this
        · have hh : ∀ (p : Pl) d v, p.s ≠ gam → HdOk C φ p d v → HdOk C.relG φ p d v := by
            intro p d v hp h
            rcases h with h | ⟨b, off, c, z, rows0, rows, h0, h01, h1, h2, h3⟩
            · exact .inl h
            · exact .inr ⟨b, off, c, z, rows0, rows, h0, h01, h1, relG_own h2 hp, h3⟩
          have hns := hn s
          generalize μ.get s = sm at hns
          cases sm with
          | c m og =>
            cases og with
            | «at» q cs =>
              refine ⟨?_, fun _ => rfl⟩
              intro p hp _
              have hq : q ≠ gam := by simpa [SM.noG] using hns
              exact ⟨fun d v => hh p d v (by rw [hp]; exact hq), fun _ => rfl⟩
            | vw q => exact fun p _ _ => rfl
            | _ => trivial
          | agg ms og =>
            cases og with
            | ats q cs js =>
              intro p hp _ j _
              have hq : q ≠ gam := by simpa [SM.noG] using hns
              exact ⟨fun d v => hh (p.addc j) d v (by show p.s ≠ gam; rw [hp]; exact hq), fun _ => rfl⟩
            | _ => trivial
          | pt q cs =>
            intro b st off cap z hb _
            have hq : q ≠ gam := by simpa [SM.noG] using hns
            exact relG_own hb hq
          | pa q cs n =>
            intro b st off cap z hb _
            have hq : q ≠ gam := by simpa [SM.noG] using hns
            exact relG_own hb hq
          | pv ps q => exact ⟨fun h => h, fun _ _ _ => rfl⟩
          | tup b n => exact fun _ _ => rfl
          | clo f cs => exact fun _ _ => rfl
          | _ => trivial
  · intro b b' o o' h1 h2 e
    exact h.inj b b' o o' (relG_inv h1).1 (relG_inv h2).1 e
  · intro b o h1
    obtain ⟨k1, k2⟩ := relG_inv h1
    obtain ⟨q1, q2, q3, q4⟩ := h.own b o k1
    refine ⟨q1, ?_, q3, q4⟩
    rintro (hg | ⟨o', g1, g2⟩)
    · exact q2 hg
    · rw [k1] at g1; cases g1; exact k2 g2
  · rintro b (hg | ⟨o', g1, g2⟩)
    · exact h.frz b hg
    · obtain ⟨q1, q2, q3, q4⟩ := h.own b o' g1
      exact ⟨q1, .inr q4⟩
  · intro b hb
    exact ⟨.inl (h.ag b hb).1, (h.ag b hb).2⟩
  · intro r hr
    obtain ⟨h1, h2⟩ := h.rng r hr
    exact ⟨h1, fun o ho => h2 o (relG_inv ho).1⟩
end

section
variable {V : Env} {A : Start} {w : World} {μ μ' : Mu} {φ φ' : Fr} {C : Cx} {a : Act} {g : Nat → Value} {o : Oper}

theorem put_cells {p : Pl} {new : List D} (hp : p.st ≠ []) (h : putAt φ p new = some φ') : ∃ st i c, p.st = st ++ [(i, c)] := by
  rcases List.eq_nil_or_concat p.st with e | ⟨st, ⟨i, c⟩, e⟩
  · exact (hp e).elim
  · exact ⟨st, i, c, by rw [e, List.concat_eq_append]⟩

theorem s_store {t : Nat} {y z : Operand} {cols : List M} (Sg : Nat → Option Sig) (hrg : RgOk A) (ho : o.op = .store t y z) (hd : o.dst = none) (h : St A w μ φ (tmO a.tmps g) C) (hy : sm1 y = true) (hz : sm1 z = true)
    {p : Pl} (hp : ptX φ y = some p) (hx : storeX V.τ φ t p (opX V.τ φ t z) = some φ') (hm : chkOp V.τ Sg cols o μ = some μ') : OpOk V A w a g o φ' μ' := by
  unfold chkOp at hm
  rw [ho] at hm
  simp only at hm
  unfold storeX at hx
  split at hx
  · rename_i e new he hnew
    split at hx
    · rename_i hfit
      rw [he] at hm
      split at hm
      · rename_i e' ms μ1 he' hgv
        cases he'
        split at hm
        · rename_i s cs hop
          split at hm
          · cases hm
          · rename_i hok
            simp only [Bool.not_eq_true', Bool.not_eq_false, Bool.and_eq_true, bne_iff_ne, ne_eq] at hok
            obtain ⟨⟨hok0, hok1⟩, hsg⟩ := hok
            obtain ⟨hg0, hn0⟩ := okG_spec hok0
            obtain ⟨hg1, hn1⟩ := okG_spec hok1
            have h0 := h.relG hg0 hn0
            obtain ⟨vs, C1, hv1, _, hG⟩ := give_sound (T := src) (τ := V.τ) (ty := t) (ds := new) h0 hz ⟨fun b o' hb k q _ e => (relG_inv hb).2 (by rw [e]; rfl), by
              intro j k q q' _ _ hne e
              simp only [src, Pl.ext, List.cons_append, List.nil_append, Pl.mk.injEq, List.cons.injEq, Prod.mk.injEq, true_and] at e
              exact hne e.1⟩ (by
                rintro k t' rfl e
                have e' : gam = t' := e
                subst e'
                have : gam < 1000 := by simpa [sm1] using hz
                exact absurd this (by decide)) hgv hnew
            have hpt := pt_sound hG.st hy hp
            rw [hop] at hpt
            obtain ⟨p', q1, q2, q3, q4⟩ := hpt 0
            cases q1
            obtain ⟨st, i, c, b0, off0, cap0, z0, hst, _, _⟩ := q4
            have hcs : cs = st.map (·.2) ++ [c] := by rw [← q3, hst]; simp
            have hdl : cs.dropLast = st.map (·.2) := by rw [hcs, List.dropLast_concat]
            have hgl : cs.getLastD 0 = c := by rw [hcs]; simp
            have hpe : p = ⟨s, st ++ [(i, c)]⟩ := by rw [← q2, ← hst]
            have hlen := fits_len hfit
            split at hm
            · rename_i hvoid
              exfalso
              have hput := hx
              obtain ⟨rows, rs, row, x', h1, h2, h3, h4, _⟩ := put_snoc hst hput
              have hca := cellsAt_of (n := new.length) hst h1 h2 h3 h4
              rw [hdl, ← q2] at hvoid
              exact void_none hG.st hst hvoid hca
            · rw [hdl, hgl] at hm
              let S : Spot := ⟨s, st, i, c, ms.length⟩
              have hml : ms.length = new.length := hG.len
              have hvl : vs.length = new.length := hG.lenv
              have hfl : (flatL e.zero ms).length = ms.length := flatL_len (by omega)
              have hrep : ∀ (k : Nat) (m : M) (d : D) (u : Value), (flatL e.zero ms)[k]? = some m → new[k]? = some d → vs[k]? = some u → Rep w C1 (src k) m d u := by
                intro k m d u k1 k2 k3
                obtain ⟨zc, m0, l1, l2, rfl⟩ := flatL_get k1
                have := hG.rep k m0 d u l2 k2 k3
                exact flat_rep (fits_at hfit l1 k2) this (fun h => h) this
              have hq4 : PtOk C1 ⟨S.s, S.st ++ [(S.i, S.c)]⟩ (a.eval y) := by
                obtain ⟨p'', r1, _, _, r4⟩ := hpt 0
                cases r1
                rw [hpe] at r4
                exact r4
              have fin : ∀ cols0, nodeC (μ1.get s) (st.map (·.2)) = some cols0 → (∀ s', s' ≠ s → μ'.get s' = finSM S.row S.c S.n ((μ1.get s').map S.f)) →
                  ((S.st = [] ∧ ∃ old, μ1.get S.s = .box old ∧ S.c + S.n ≤ old.length ∧ μ'.get S.s = .box (spliceM (mapL S.f old) S.c (mapL S.f (flatL e.zero ms)))) ∨
                    (μ'.get S.s = ((μ1.get S.s).map S.f).wrote ∧ ∀ k m m0, (flatL e.zero ms)[k]? = some m → cols0[S.c + k]? = some m0 → leS (m.map S.f) (m0.map S.f) = true)) → OpOk V A w a g o φ' μ' := by
                intro cols0 hn hμ hself
                obtain ⟨b, off, arr, ty, hv, hb, hsz, hst'⟩ := hG.st.land (S := S) (ms := flatL e.zero ms) hrg hsg hq4 hn (by show new.length = ms.length; omega) (by show vs.length = ms.length; omega) hfl hrep (by rw [← hpe]; exact hx) hg1 hn1 hμ hself
                have hrun := store_run (V := V) (w := w) (off := off) he hv1 (by have := Env.zero_size (V := V) he; omega) hb (by have : S.n = ms.length := rfl; omega) hG.cell
                refine ⟨.skip, undef, w.setRow b (arr.toList.take off ++ vs ++ arr.toList.drop (off + vs.length)).toArray, C1.land S, g, ?_, .inr ⟨rfl, rfl⟩, ?_⟩
                rotate_left
                · rw [hd]; exact hst'
                · simp only [execOp, ho, hv]
                  simp only [Instr.storeAt, Instr.sureAddr, Sem.run_bind, Sem.run_pure, Result.andThen_ok, hrun]
              unfold storeM at hm
              simp only at hm
              split at hm
              · rename_i old hcs0 hbx
                have hst0 : st = [] := by simpa using hcs0
                split at hm
                · rename_i hle
                  cases hm
                  refine fin old (by rw [hbx, hst0]; rfl) ?_ (.inl ⟨hst0, old, hbx, hle, ?_⟩)
                  · intro s' hs'
                    rw [get_set, if_neg hs', fin_get]; rfl
                  · rw [get_set, if_pos rfl]; rfl
                · cases hm
              · split at hm
                · rename_i cols0 hn
                  split at hm
                  · rename_i hle
                    cases hm
                    refine fin cols0 hn ?_ (.inr ⟨?_, ?_⟩)
                    · intro s' hs'
                      rw [get_set, if_neg hs', fin_get]; rfl
                    · rw [get_set, if_pos rfl]; rfl
                    · intro k m m0 k1 k2
                      have hkm := (List.getElem?_eq_some_iff.1 k1).1
                      have hb : ((List.drop c (mapL (landF (s :: st.map (·.2)) c) cols0)).take ms.length)[k]? = some (m0.map S.f) := by
                        rw [List.getElem?_take, if_pos (by omega), List.getElem?_drop]
                        exact mapL_at k2
                      obtain ⟨a', ha', hle'⟩ := leSL_at hle hb
                      rw [mapL_at k1] at ha'
                      cases ha'
                      exact hle'
                  · cases hm
                · cases hm
        · cases hm
      · cases hm
    · cases hx
  · cases hx
end
end Go.Ev

/- Structs and slices that are built of parts: the parts are copied. -/
namespace Go.Ev

theorem setAll : ∀ (l : List Value) (k off : Nat) (cs : Array Value), ((l.zipIdx k).foldl (fun cs (c, j) => cs.setIfInBounds (off + j) c) cs).size = cs.size ∧
    ∀ i, ((l.zipIdx k).foldl (fun cs (c, j) => cs.setIfInBounds (off + j) c) cs)[i]? = if off + k ≤ i ∧ i < off + k + l.length ∧ i < cs.size then l[i - off - k]? else cs[i]?
  | [], k, off, cs => by
    refine ⟨rfl, fun i => ?_⟩
    rw [if_neg (by simp; omega)]
    rfl
  | x :: l, k, off, cs => by
    simp only [List.zipIdx_cons, List.foldl_cons]
    obtain ⟨h1, h2⟩ := setAll l (k + 1) off (cs.setIfInBounds (off + k) x)
    refine ⟨by rw [h1]; simp, fun i => ?_⟩
    rw [h2 i]
    simp only [Array.size_setIfInBounds, List.length_cons]
    by_cases e : off + (k + 1) ≤ i ∧ i < off + (k + 1) + l.length ∧ i < cs.size
    · rw [if_pos e, if_pos (by omega)]
      have : i - off - k = (i - off - (k + 1)) + 1 := by omega
      rw [this, List.getElem?_cons_succ]
    · rw [if_neg e, Array.getElem?_setIfInBounds]
      by_cases e2 : off + k = i
      · subst e2
        rw [if_pos rfl]
        by_cases e3 : off + k < cs.size
        · rw [if_pos e3, if_pos (by omega)]
          have : off + k - off - k = 0 := by omega
          rw [this]; rfl
        · rw [if_neg e3, if_neg (by omega)]
          symm
          rw [Array.getElem?_eq_none_iff]
          omega
      · rw [if_neg e2, if_neg (by omega)]

section
variable {V : Env} {A : Start} {w : World} {μ : Mu} {φ : Fr} {C : Cx} {a : Act} {g : Nat → Value} {o : Oper} {x : X} {sm : SM}

/-- Cells that stand for data, and own nothing. -/
structure FR (w : World) (C : Cx) (cells : Array Value) (cs : List D) (ms : List M) : Prop where
  size : cells.size = cs.length
  len : ms.length = cs.length
  rep : ∀ (j : Nat) (d : D) (m : M), cs[j]? = some d → ms[j]? = some m → ∀ p, Rep w C p m d (cells.getD j undef)

/-- A part. -/
theorem part_sound {τ : List TE} {y : Operand} {ty : Nat} {new : List D} (h : St A w μ φ (tmO a.tmps g) C) (hs : sm1 y = true) (hr : rdO μ y = true) (hc : (opX τ φ ty y).cells = some new) :
    FR w C (a.eval y).cells new (cellsOfM (opM μ y)) := by
  have hu : opX τ φ ty y ≠ .u := by intro e; rw [e] at hc; cases hc
  have hcl := op_sound (s := 0) h hs hu
  have hno := opM_noOwn μ y
  unfold rdO at hr
  generalize opM μ y = sm at *
  generalize opX τ φ ty y = X0 at *
  cases sm with
  | c m og =>
    obtain ⟨d, o', e1, e2, _⟩ := hcl
    subst e1
    simp only [X.cells, Option.some.injEq] at hc
    subst hc
    rw [cell_cells (e2.cell hr)]
    refine ⟨rfl, rfl, ?_⟩
    intro j d' m' h1 h2 p
    cases j with
    | zero => simp [cellsOfM] at h1 h2; subst h1; subst h2; exact e2.at _ _ hno
    | succ j => simp at h1
  | agg ms og =>
    obtain ⟨ds, o', vs, e1, e2, e3, e4, e5, _⟩ := hcl
    subst e1
    simp only [X.cells, Option.some.injEq] at hc
    subst hc
    rw [e2]
    refine ⟨e3, e4, ?_⟩
    intro j d' m' h1 h2 p
    exact (e5 0 j ds d' m' rfl h1 h2).at _ _ (by simp only [SM.noOwn, List.all_eq_true] at hno; exact hno m' (List.mem_of_getElem? h2))
  | _ => cases hr

theorem FR.splice {cells cv : Array Value} {cs new : List D} {ms mn : List M} {off : Nat} (h : FR w C cells cs ms) (hn : FR w C cv new mn) (hl : off + new.length ≤ cs.length) :
    FR w C (cv.zipIdx.foldl (fun cs (c, j) => cs.setIfInBounds (off + j) c) cells) (splice cs off new) (spliceM ms off mn) := by
  have hlist : cv.zipIdx.foldl (fun cs (c, j) => cs.setIfInBounds (off + j) c) cells = (cv.toList.zipIdx 0).foldl (fun cs (c, j) => cs.setIfInBounds (off + j) c) cells := by
    rw [← Array.foldl_toList, Array.toList_zipIdx]
  rw [hlist]
  obtain ⟨h1, h2⟩ := setAll cv.toList 0 off cells
  have hs := h.size
  have hns := hn.size
  have hnl := hn.len
  have hml := h.len
  have hle2 : off + mn.length ≤ ms.length := by omega
  refine ⟨?_, ?_, ?_⟩
  · rw [h1]; unfold Ev.splice; rw [splice_length hl]; exact hs
  · unfold Ev.splice spliceM; rw [splice_length hl, splice_length hle2]; exact hml
  · intro j d m q1 q2 p
    unfold Ev.splice at q1
    unfold spliceM at q2
    rw [splice_get hl] at q1
    rw [splice_get hle2] at q2
    rw [Array.getD_eq_getD_getElem?, h2 j]
    have hcl : cv.toList.length = new.length := by simpa using hns
    by_cases e1 : j < off
    · rw [if_pos e1] at q1 q2
      rw [if_neg (by omega), ← Array.getD_eq_getD_getElem?]
      exact h.rep j d m q1 q2 p
    · rw [if_neg e1] at q1 q2
      by_cases e2 : j < off + new.length
      · rw [if_pos e2] at q1
        rw [if_pos (by omega)] at q2
        rw [if_pos (by omega)]
        have := hn.rep (j - off) d m q1 q2 p
        rw [Array.getD_eq_getD_getElem?] at this
        have e3 : j - off - 0 = j - off := by omega
        rw [e3, Array.getElem?_toList]
        exact this
      · rw [if_neg e2] at q1
        rw [if_neg (by omega)] at q2
        rw [if_neg (by omega), ← Array.getD_eq_getD_getElem?]
        exact h.rep j d m q1 q2 p

theorem fill_sound (h : St A w μ φ (tmO a.tmps g) C) {place place' : Nat → Option (Nat × Nat)} {offM : Nat → Nat} (hpl : ∀ i off size, place i = some (off, size) → place' i = some (off, size) ∧ offM i = off) :
    ∀ (parts : List (Nat × Operand)) (cells : Array Value) (cs cs' : List D) (ms : List M), (∀ p ∈ parts, sm1 p.2 = true ∧ rdO μ p.2 = true) → FR w C cells cs ms → fillX place cs (partsX V.τ φ parts fun _ => 0) = some cs' →
      ∃ cells', Instr.fill place' cells (parts.map fun p => (p.1, a.eval p.2)) = some cells' ∧ FR w C cells' cs' (parts.foldl (fun ms p => spliceM ms (offM p.1) (cellsOfM (opM μ p.2))) ms)
  | [], cells, cs, cs', ms, _, hf, hx => by
    simp only [partsX, List.map_nil, fillX, Option.some.injEq] at hx
    subst hx
    exact ⟨cells, rfl, hf⟩
  | (i, y) :: rest, cells, cs, cs', ms, hp, hf, hx => by
    simp only [partsX, List.map_cons, fillX] at hx
    split at hx
    · rename_i off size new hpi hnew
      split at hx
      · rename_i hc
        obtain ⟨hc1, hc2⟩ := hc
        obtain ⟨k1, k2⟩ := hpl i off size hpi
        obtain ⟨s1, s2⟩ := hp (i, y) (by simp)
        have hpart := part_sound h s1 s2 hnew
        have hsp := hf.splice hpart (off := off) (by omega)
        obtain ⟨cells', g1, g2⟩ := fill_sound h hpl rest _ _ cs' _ (fun p hp' => hp p (by simp [hp'])) hsp hx
        refine ⟨cells', ?_, ?_⟩
        · simp only [List.map_cons, Instr.fill, k1]
          have e1 : (a.eval y).cells.size = size := by rw [hpart.size, hc1]
          have e2 := hf.size
          rw [if_neg (by simp; omega)]
          exact g1
        · simp only [List.foldl_cons]
          rw [k2]
          exact g2
      · cases hx
    · cases hx

theorem zero_FR {zs : List ZC} {v : Value} (hz : zeros zs v.cells.toList = true) (hf : ∀ z ∈ zs, z.fit z.d = true) : FR w C v.cells (zs.map ZC.d) (zs.map zeroM) := by
  refine ⟨by have := zero_len hz; simp at this ⊢; omega, by simp, ?_⟩
  intro j d m h1 h2 p
  rw [List.getElem?_map, Option.map_eq_some_iff] at h1 h2
  obtain ⟨z, q1, rfl⟩ := h1
  obtain ⟨z', q2, rfl⟩ := h2
  rw [q1] at q2; cases q2
  obtain ⟨u, hu, his⟩ := zeros_at hz q1
  rw [Array.getElem?_toList] at hu
  rw [Array.getD_eq_getD_getElem?, hu]
  exact zero_rep his (hf z (List.mem_of_getElem? q1))
end
end Go.Ev

/- Structs built of parts. -/
namespace Go.Ev

theorem mapM_get {α β : Type} {f : α → Option β} : ∀ {l : List α} {l' : List β}, l.mapM f = some l' → ∀ (i : Nat) (a : α), l[i]? = some a → l'[i]? = f a
  | [], l', _, i, a, h => by simp at h
  | x :: l, l', h, i, a, ha => by
    simp only [List.mapM_cons, Option.bind_eq_bind, Option.pure_def] at h
    cases hx : f x with
    | none => rw [hx] at h; cases h
    | some y =>
      rw [hx] at h
      simp only [Option.bind_some] at h
      cases hl : l.mapM f with
      | none => rw [hl] at h; cases h
      | some ys =>
        rw [hl] at h
        simp only [Option.bind_some, Option.some.injEq] at h
        subst h
        cases i with
        | zero => simp only [List.getElem?_cons_zero, Option.some.injEq] at ha ⊢; subst ha; exact hx.symm
        | succ i => simp only [List.getElem?_cons_succ] at ha ⊢; exact mapM_get hl i a ha

theorem fit_all {zs : List ZC} (h : fits zs (zs.map ZC.d) = true) : ∀ z ∈ zs, z.fit z.d = true := by
  intro z hz
  obtain ⟨i, hi⟩ := List.getElem?_of_mem hz
  exact fits_at h hi (by rw [List.getElem?_map, hi]; rfl)

theorem splice_noOwn {ms mn : List M} {off : Nat} (h : ms.all M.noOwn = true) (hn : mn.all M.noOwn = true) : (spliceM ms off mn).all M.noOwn = true := by
  rw [List.all_eq_true] at h hn ⊢
  intro m hm
  simp only [spliceM, List.mem_append] at hm
  rcases hm with (hm | hm) | hm
  · exact h m (List.mem_of_mem_take hm)
  · exact hn m hm
  · exact h m (List.mem_of_mem_drop hm)

theorem cellsOfM_noOwn {x : SM} (h : x.noOwn = true) : (cellsOfM x).all M.noOwn = true := by
  cases x <;> simp_all [cellsOfM, SM.noOwn]

theorem fold_noOwn {μ : Mu} {off : Nat → Nat} : ∀ (ps : List (Nat × Operand)) (ms : List M), ms.all M.noOwn = true → (ps.foldl (fun ms p => spliceM ms (off p.1) (cellsOfM (opM μ p.2))) ms).all M.noOwn = true
  | [], ms, h => h
  | p :: ps, ms, h => by
    simp only [List.foldl_cons]
    exact fold_noOwn ps _ (splice_noOwn h (cellsOfM_noOwn (opM_noOwn μ p.2)))

theorem zeroM_noOwn (z : ZC) : (zeroM z).noOwn = true := by unfold zeroM; split <;> rfl

theorem flatM_noOwn {z : ZC} {m : M} (h : m.noOwn = true) : (flatM z m).noOwn = true := by
  cases m <;> simp only [flatM] <;> first | rfl | (split <;> first | rfl | exact h)

section
variable {V : Env} {A : Start} {w : World} {μ : Mu} {φ : Fr} {C : Cx} {a : Act} {g : Nat → Value} {o : Oper} {x : X} {sm : SM}

theorem built_of {t : Nat} {e : TE} (h : V.get t = some e) (ha : e.agg = true) : ∃ (v : Value) (place' : Nat → Option (Nat × Nat)), zeros e.zero v.cells.toList = true ∧
    (∀ parts cells, Instr.fill place' v.cells parts = some cells → V.P.built t parts = some cells) ∧
    (e.ar = none → ∀ f off size, fldSize e f = some (off, size) → place' f = some (off, size)) ∧
    (∀ n x z, e.ar = some (n, x, z) → ∀ i, place' i = some (i * z, z)) := by
  obtain ⟨i, v, hi, _, hz, hzs⟩ := Env.info h
  have hokF := Env.get_okF h
  obtain ⟨rfl, hok⟩ := V.get_ok h
  unfold TE.ok at hok
  rw [Bool.and_eq_true] at hok
  have h1 := hok.2
  unfold TE.okF at hokF
  simp only [Bool.and_eq_true] at hokF
  have hF := hokF.2
  split at h1
  · rename_i fs hu
    simp only [Bool.and_eq_true, beq_iff_eq, Option.isNone_iff_eq_none] at h1
    obtain ⟨⟨⟨⟨⟨_, a2⟩, a3⟩, _⟩, a5⟩, _⟩ := h1
    obtain ⟨places, hp⟩ := places_some fs.toList a3
    refine ⟨v, (places.toArray[·]?), hzs, ?_, ?_, ?_⟩
    · intro parts cells hf
      unfold Program.built
      simp only [hi, hu, hz, hp]
      exact hf
    · intro _ f off size hfs
      rw [hu] at hF
      simp only [List.all_eq_true, List.mem_range] at hF
      have hflt : f < fs.size := by
        unfold fldSize at hfs
        rw [a2] at hfs
        split at hfs
        · rename_i off' hoff
          rw [List.getElem?_map, Option.map_eq_some_iff] at hoff
          obtain ⟨fl, hfl, _⟩ := hoff
          have := (List.getElem?_eq_some_iff.1 hfl).1
          simpa using this
        · cases hfs
      have hq := hF f hflt
      split at hq
      · rename_i fl o2 n hfl hfs2
        rw [hfs] at hfs2
        cases hfs2
        simp only [Bool.and_eq_true, beq_iff_eq, Option.isSome_iff_exists] at hq
        obtain ⟨q1, inf, q2⟩ := hq
        have hfl' : fs.toList[f]? = some fl := by rw [Array.getElem?_toList]; exact hfl
        have := mapM_get hp f fl hfl'
        rw [q2] at this
        simp only [Option.map_some] at this
        have hsz : inf.size = size := by rw [← q1]; simp [Program.cellsOf, q2]
        have hoff : fl.offset = off := by
          unfold fldSize at hfs
          rw [a2, List.getElem?_map, hfl'] at hfs
          simp only [Option.map_some, Option.some.injEq, Prod.mk.injEq] at hfs
          exact hfs.1
        show places.toArray[f]? = _
        rw [List.getElem?_toArray, this, hsz, hoff]
      · cases hq
    · intro n x z har
      rw [a5] at har; cases har
  · rename_i n x hu
    simp only [Bool.and_eq_true, beq_iff_eq, Option.isNone_iff_eq_none, Option.isSome_iff_exists] at h1
    obtain ⟨⟨⟨⟨⟨_, a2⟩, ix, a3⟩, _⟩, _⟩, _⟩ := h1
    refine ⟨v, fun i => some (i * ix.size, ix.size), hzs, ?_, ?_, ?_⟩
    · intro parts cells hf
      unfold Program.built
      simp only [hi, hu, hz, a3]
      exact hf
    · intro har; rw [a2] at har; cases har
    · intro n' x' z har i'
      rw [a2] at har
      simp only [Option.some.injEq, Prod.mk.injEq] at har
      have : ix.size = z := by rw [← har.2.2]; simp [Program.cellsOf, a3]
      rw [this]
  · simp [ha] at h1
  · simp [ha] at h1
  · cases h1

theorem s_build {t : Nat} {ps : Array (Nat × Operand)} (ho : o.op = .build t ps) (h : St A w μ φ (tmO a.tmps g) C) (hs : ∀ p ∈ ps.toList, sm1 p.2 = true) (hx : pureX V.τ φ o.op o.type = some x) (hm : pureM V.τ [] μ o.op = some sm) :
    PureOk V w C φ (tmO a.tmps g) a o x sm := by
  rw [ho] at hx hm
  simp only [pureX] at hx
  simp only [pureM] at hm
  unfold buildX at hx
  split at hx
  · rename_i e he
    rw [he] at hm
    simp only at hm
    split at hm
    · rename_i hr
      cases hm
      split at hx
      · rename_i hcond
        obtain ⟨hag, hfit0⟩ := hcond
        obtain ⟨v, place', hzs, hbuilt, hst, har⟩ := built_of (V := V) he hag
        have hparts : ∀ p ∈ ps.toList, sm1 p.2 = true ∧ rdO μ p.2 = true := fun p hp => ⟨hs p hp, by rw [List.all_eq_true] at hr; exact hr p hp⟩
        have key : ∀ (place : Nat → Option (Nat × Nat)) cs, fillX place (e.zero.map ZC.d) (partsX V.τ φ ps.toList fun _ => 0) = some cs → fits e.zero cs = true → x = .agg cs none →
            (∀ i off size, place i = some (off, size) → place' i = some (off, size) ∧ offB e i = off) →
            PureOk V w C φ (tmO a.tmps g) a o x (.agg (flatL e.zero (ps.toList.foldl (fun ms p => spliceM ms (offB e p.1) (cellsOfM (opM μ p.2))) (e.zero.map zeroM))) .no) := by
          rintro place cs hfill hfit rfl hpl
          obtain ⟨cells', g1, g2⟩ := fill_sound (V := V) h hpl ps.toList v.cells _ cs _ hparts (zero_FR hzs (fit_all hfit0)) hfill
          have hrun := run_build (P := V.P) w t (ps.map fun (i, x) => (i, a.eval x)) cells' (hbuilt _ _ (by simpa using g1))
          have hlen := fits_len hfit
          have hgl := g2.len
          refine .inl ⟨.agg cells', ?_, ?_, fun s => ⟨cs, none, cells', rfl, rfl, g2.size, ?_, ?_, rfl⟩⟩
          · simp only [execOp, ho]
            exact exec_value hrun
          · simp only [SM.noOwn, List.all_eq_true]
            intro m hm
            obtain ⟨k, hk⟩ := List.getElem?_of_mem hm
            obtain ⟨z, m0, _, l2, rfl⟩ := flatL_get hk
            have hall := fold_noOwn (μ := μ) (off := offB e) ps.toList (e.zero.map zeroM) (by
              rw [List.all_map, List.all_eq_true]; intro z _; exact zeroM_noOwn z)
            exact flatM_noOwn (List.all_eq_true.1 hall m0 (List.mem_of_getElem? l2))
          · rw [flatL_len (by omega)]; exact hgl
          · intro i' j row' d m q1 q2 q3
            cases i' with
            | succ i' => simp at q1
            | zero =>
              simp only [List.getElem?_cons_zero, Option.some.injEq] at q1
              subst q1
              obtain ⟨z, m0, l1, l2, rfl⟩ := flatL_get q3
              have := g2.rep j d m0 q2 l2
              exact flat_rep (p := ⟨0, []⟩) (fits_at hfit l1 q2) (this _) (fun h => h) (this _)
        split at hx
        · rename_i n x0 z hare
          split at hx
          · rename_i cs hfill
            split at hx
            · rename_i hfit
              refine key _ cs hfill hfit (Option.some.inj hx).symm ?_
              intro i off size hp
              split at hp
              · cases hp
                exact ⟨har n x0 z hare i, by simp [offB, hare]⟩
              · cases hp
            · cases hx
          · cases hx
        · rename_i hare
          split at hx
          · rename_i cs hfill
            split at hx
            · rename_i hfit
              refine key _ cs hfill hfit (Option.some.inj hx).symm ?_
              intro i off size hp
              refine ⟨hst hare i off size hp, ?_⟩
              unfold fldSize at hp
              split at hp
              · rename_i off' hoff
                simp only [Option.some.injEq, Prod.mk.injEq] at hp
                simp [offB, hare, hoff, hp.1]
              · cases hp
            · cases hx
          · cases hx
      · cases hx
    · cases hm
  · cases hx
end
end Go.Ev

/- All operations that leave nothing but their result. -/
namespace Go.Ev
section
variable {V : Env} {A : Start} {w : World} {μ : Mu} {φ : Fr} {C : Cx} {a : Act} {g : Nat → Value} {o : Oper} {x : X} {sm : SM}

structure FRows (w : World) (C : Cx) (cells : Array Value) (rows : List (List D)) (cols : List M) (z : Nat) : Prop where
  size : cells.size = rows.length * z
  row : ∀ r ∈ rows, r.length = z
  rep : ∀ (i j : Nat) (r : List D) (d : D) (m : M), rows[i]? = some r → r[j]? = some d → cols[j]? = some m → ∀ p, Rep w C p m d (cells.getD (i * z + j) undef)

theorem idx_ne {i i' j k z : Nat} (hj : j < z) (hk : k < z) (h : i ≠ i') : ¬ (i * z ≤ i' * z + j ∧ i' * z + j < i * z + z) := by
  rintro ⟨h1, h2⟩
  rcases Nat.lt_or_gt_of_ne h with h3 | h3
  · have := Nat.mul_le_mul_right z (Nat.succ_le_of_lt h3)
    rw [Nat.succ_mul] at this
    omega
  · have := Nat.mul_le_mul_right z (Nat.succ_le_of_lt h3)
    rw [Nat.succ_mul] at this
    omega

theorem FRows.set {cells cv : Array Value} {rows : List (List D)} {new : List D} {mn cols : List M} {z i : Nat} (h : FRows w C cells rows cols z) (hn : FR w C cv new mn) (hl : new.length = z) (hi : i < rows.length) (hle : leSL mn cols = true) :
    FRows w C (cv.zipIdx.foldl (fun cs (c, j) => cs.setIfInBounds (i * z + j) c) cells) (rows.set i new) cols z := by
  have hlist : cv.zipIdx.foldl (fun cs (c, j) => cs.setIfInBounds (i * z + j) c) cells = (cv.toList.zipIdx 0).foldl (fun cs (c, j) => cs.setIfInBounds (i * z + j) c) cells := by
    rw [← Array.foldl_toList, Array.toList_zipIdx]
  rw [hlist]
  obtain ⟨h1, h2⟩ := setAll cv.toList 0 (i * z) cells
  have hns := hn.size
  have hcl : cv.toList.length = z := by simp; omega
  have hroom : i * z + z ≤ cells.size := by
    rw [h.size]
    have := Nat.mul_le_mul_right z (Nat.succ_le_of_lt hi)
    rw [Nat.succ_mul] at this
    exact this
  refine ⟨?_, ?_, ?_⟩
  · rw [h1, h.size]; simp
  · intro r hr
    rcases List.mem_or_eq_of_mem_set hr with hr | hr
    · exact h.row r hr
    · rw [hr]; exact hl
  · intro i' j r d m q1 q2 q3 p
    rw [Array.getD_eq_getD_getElem?, h2]
    by_cases e : i' = i
    · subst e
      rw [List.getElem?_set_self hi] at q1
      cases q1
      have hj := (List.getElem?_eq_some_iff.1 q2).1
      rw [if_pos (by omega)]
      have e3 : i' * z + j - i' * z - 0 = j := by omega
      rw [e3]
      obtain ⟨m0, hm0, hle0⟩ := leSL_at hle q3
      have := hn.rep j d m0 q2 hm0 p
      rw [Array.getD_eq_getD_getElem?] at this
      rw [Array.getElem?_toList]
      exact this.leS hle0
    · rw [List.getElem?_set_ne (fun e' => e e'.symm)] at q1
      have hj : j < z := by
        have := h.row r (List.mem_of_getElem? q1)
        have := (List.getElem?_eq_some_iff.1 q2).1
        omega
      rw [if_neg]
      · rw [← Array.getD_eq_getD_getElem?]
        exact h.rep i' j r d m q1 q2 q3 p
      · rintro ⟨g1, g2, _⟩
        exact idx_ne (i := i) (i' := i') hj hj (fun e' => e e'.symm) ⟨by omega, by omega⟩

theorem rep_own_inv {p : Pl} {cols : List M} {d : D} {v : Value} (h : Rep w C p (.own cols) d v) : (∃ z, d = .sl z [] ∧ v = .slice none 0 0) ∨ ∃ b off c n z, v = .slice (some ⟨b, off, none⟩) n c ∧ C.own b = some ⟨p, off, c, z⟩ := by
  cases h with
  | nil => exact .inl ⟨_, rfl, rfl⟩
  | own h1 h2 h3 h4 h5 h6 h7 h8 => exact .inr ⟨_, _, _, _, _, rfl, h1⟩

theorem rep_free {w' : World} {C' : Cx} {m : M} {d : D} {v : Value} (h : ∀ p, Rep w C p m d v) (hk : ∀ ps b, okB C ps b → okB C' ps b ∧ w'.heap[b]? = w.heap[b]?) (p : Pl) : Rep w' C' p m d v := by
  cases hn : m.noOwn with
  | true =>
    have := (h p).moveV (w' := w') (C' := C') (p' := p) hn idF (by intro ps ps' hf b hb; cases hf; exact hk ps b hb)
    rwa [map_id] at this
  | false =>
    cases m with
    | own cols =>
      rcases rep_own_inv (h ⟨0, []⟩) with ⟨z, rfl, rfl⟩ | ⟨b, off, c, n, z, e1, e2⟩
      · exact .nil
      · rcases rep_own_inv (h ⟨1, []⟩) with ⟨z', _, e3⟩ | ⟨b', off', c', n', z', e3, e4⟩
        · rw [e1] at e3; cases e3
        · rw [e1] at e3; cases e3
          rw [e2] at e4; cases e4
    | _ => cases hn

theorem fillRows_sound (h : St A w μ φ (tmO a.tmps g) C) {zs : List ZC} {z : Nat} {cols : List M} : ∀ (parts : List (Nat × Operand)) (cells : Array Value) (rows rows' : List (List D)), (∀ p ∈ parts, sm1 p.2 = true ∧ rdO μ p.2 = true ∧ leSL (cellsOfM (opM μ p.2)) cols = true) →
    FRows w C cells rows cols z → fillRows z rows (partsX V.τ φ parts fun _ => 0) = some rows' →
      ∃ cells', Instr.fill (fun i => some (i * z, z)) cells (parts.map fun p => (p.1, a.eval p.2)) = some cells' ∧ FRows w C cells' rows' cols z ∧ rows'.length = rows.length
  | [], cells, rows, rows', _, hf, hx => by
    simp only [partsX, List.map_nil, fillRows, Option.some.injEq] at hx
    subst hx
    exact ⟨cells, rfl, hf, rfl⟩
  | (i, y) :: rest, cells, rows, rows', hp, hf, hx => by
    simp only [partsX, List.map_cons, fillRows] at hx
    split at hx
    · rename_i new hnew
      split at hx
      · rename_i hc
        obtain ⟨hc1, hc2⟩ := hc
        obtain ⟨s1, s2, s3⟩ := hp (i, y) (by simp)
        have hpart := part_sound h s1 s2 hnew
        have hsp := hf.set hpart hc1 hc2 s3
        obtain ⟨cells', g1, g2, g3⟩ := fillRows_sound (zs := zs) h rest _ _ rows' (fun p hp' => hp p (by simp [hp'])) hsp hx
        refine ⟨cells', ?_, g2, by rw [g3]; simp⟩
        simp only [List.map_cons, Instr.fill]
        have e1 : (a.eval y).cells.size = z := by rw [hpart.size, hc1]
        have hroom : i * z + z ≤ cells.size := by
          rw [hf.size]
          have := Nat.mul_le_mul_right z (Nat.succ_le_of_lt hc2)
          rw [Nat.succ_mul] at this
          exact this
        rw [if_neg (by simp; omega)]
        exact g1
      · cases hx
    · cases hx

theorem s_buildS {t n : Nat} {ps : Array (Nat × Operand)} {cols : List M} (ho : o.op = .buildSlice t n ps) (h : St A w μ φ (tmO a.tmps g) C) (hs : ∀ p ∈ ps.toList, sm1 p.2 = true) (hx : pureX V.τ φ o.op o.type = some x) (hm : pureM V.τ cols μ o.op = some sm) :
    PureOk V w C φ (tmO a.tmps g) a o x sm := by
  rw [ho] at hx hm
  simp only [pureX] at hx
  simp only [pureM] at hm
  unfold buildSliceX at hx
  split at hx
  · rename_i e he
    rw [he] at hm
    simp only at hm
    split at hx
    · rename_i et z yb hel
      rw [hel] at hm
      simp only at hm
      split at hx
      · rename_i ee hee
        rw [hee] at hm
        simp only at hm
        split at hx
        · rename_i hcond
          obtain ⟨hfit0, hzl, hz0, hnz⟩ := hcond
          split at hx
          · rename_i rows hfill
            split at hx
            · rename_i hfits
              cases hx
              split at hm
              · rename_i hmc
                cases hm
                simp only [Bool.and_eq_true] at hmc
                obtain ⟨⟨hr, hle⟩, _⟩ := hmc
                obtain ⟨d, hu, _, _, _, hsl, _⟩ := Env.desc (V := V) he
                obtain ⟨rfl, i, hi, hz, hb⟩ := hsl _ _ _ hel
                obtain ⟨i', v, hi', hs', hzv, hzs⟩ := Env.info (V := V) hee
                rw [hi] at hi'; cases hi'
                have hvl : v.cells.size = z := by have := zero_len hzs; simp at this; omega
                have hcl : cols.length = z := by have := leSL_len hle; simp at this; omega
                have hinit : FRows w C (madeCells v.cells (n * z)) (List.replicate n (ee.zero.map ZC.d)) cols z := by
                  refine ⟨by rw [size_madeCells]; simp, ?_, ?_⟩
                  · intro r hr
                    rw [List.mem_replicate] at hr
                    rw [hr.2]; simp [hzl]
                  · intro i' j row d' m q1 q2 q3 p
                    rw [List.getElem?_replicate] at q1
                    split at q1
                    · rename_i hin
                      cases q1
                      rw [List.getElem?_map, Option.map_eq_some_iff] at q2
                      obtain ⟨zc, hz1, rfl⟩ := q2
                      obtain ⟨m0, hm0, hlem⟩ := leSL_at hle q3
                      rw [List.getElem?_map, hz1] at hm0
                      cases hm0
                      obtain ⟨u, hu', his⟩ := zeros_at hzs hz1
                      have hf := fits_at hfit0 hz1 (by rw [List.getElem?_map, hz1]; rfl)
                      have hjz : j < z := by have := (List.getElem?_eq_some_iff.1 hz1).1; omega
                      have hlt : i' * z + j < n * z := by
                        have := Nat.mul_le_mul_right z (Nat.succ_le_of_lt hin)
                        rw [Nat.succ_mul] at this
                        omega
                      have hval : (madeCells v.cells (n * z)).getD (i' * z + j) undef = u := by
                        rw [Array.getElem?_toList] at hu'
                        have hj2 : (i' * z + j) % z = j := by rw [Nat.mul_comm, Nat.mul_add_mod, Nat.mod_eq_of_lt hjz]
                        have : (madeCells v.cells (n * z))[i' * z + j]? = some v.cells[j]! := by
                          simp [madeCells, hlt, hvl, hj2]
                        rw [Array.getD_eq_getD_getElem?, this]
                        have hj3 : j < v.cells.size := by omega
                        rw [Array.getElem?_eq_getElem hj3] at hu'
                        cases hu'
                        simp [hj3]
                      rw [hval]
                      exact (zero_rep his hf).leS hlem
                    · cases q1
                have hparts : ∀ p ∈ ps.toList, sm1 p.2 = true ∧ rdO μ p.2 = true ∧ leSL (cellsOfM (opM μ p.2)) cols = true := by
                  intro p hp
                  rw [List.all_eq_true] at hr
                  have := hr p hp
                  simp only [Bool.and_eq_true] at this
                  exact ⟨hs p hp, this.1, this.2⟩
                obtain ⟨cells', g1, g2, g3⟩ := fillRows_sound (V := V) (zs := ee.zero) h ps.toList _ _ rows hparts hinit hfill
                rw [List.length_replicate] at g3
                have hrun : (Instr.buildSlice t n (ps.map fun (i, x) => (i, a.eval x))).run V.P w = .ok (.slice (some ⟨w.heap.size, 0, none⟩) n n) (w.alloc (.cells cells' et)) := by
                  have g1' : Instr.fill (fun i => some (i * z, z)) (madeCells v.cells (n * z)) (ps.map fun (i, x) => (i, a.eval x)).toList = some cells' := by simpa using g1
                  by_cases hn0 : n * z = 0
                  · have hm0 : madeCells v.cells (n * z) = #[] := by rw [hn0]; simp [madeCells]
                    rw [hm0] at g1'
                    simp [Instr.buildSlice, run_underlying hu, sizeOf, typeInfo, hi, hz, hn0, newRow] at g1' ⊢
                    have hnil : ∀ f : Nat → Value, Array.map f (Array.range 0) = #[] := fun f => by simp
                    rw [hnil, g1']
                    rfl
                  · exact run_buildSlice w t et n _ cells' i v hu hi hzv (by rw [hz]; omega) (by rw [hz]; exact hn0) (by rw [hz]; exact g1')
                have hsz : (w.alloc (.cells cells' et)).heap = w.heap.push (.cells cells' et) := rfl
                right
                refine ⟨.slice (some ⟨w.heap.size, 0, none⟩) n n, w.alloc (.cells cells' et), ?_, alloc_ext, ?_⟩
                · simp only [execOp, ho]
                  exact exec_value hrun
                · intro d
                  refine ⟨newOne w.heap.size d ⟨⟨d, []⟩, 0, n, z⟩, newOne_ok (by rw [hsz]; simp), newOne_own (arr := cells') (ty := et) (by rw [hsz]; simp) (by have hs1 := g2.size; rw [g3] at hs1; simp only; omega), ?_⟩
                  intro C' φ' tm' hN hok
                  refine ⟨_, none, rfl, ?_, fun _ => rfl⟩
                  have hs1 := g2.size
                  rw [g3] at hs1
                  rw [← g3]
                  refine .own (arr := cells') (ty := et) (by rw [g3]; exact hN _ _ (Nat.le_refl _) (by simp [newOne])) (by rw [hsz]; simp) (Nat.le_refl _) (by rw [g3]; omega) hcl hz0 g2.row ?_
                  intro i' j row d' m q1 q2 q3
                  rw [Nat.zero_add]
                  exact rep_free (fun p => g2.rep i' j row d' m q1 q2 q3 p) (fun ps b hb => ⟨hok ps b hb, alloc_ext.same b (h.ok_lt hb)⟩) _
              · cases hm
            · cases hx
          · cases hx
        · cases hx
      · cases hx
    · cases hx
  · cases hx

/-- What leaves nothing but its result. -/
theorem pure_sound {cols : List M} (h : St A w μ φ (tmO a.tmps g) C) (hs : o.op.operands.all sm1 = true) (hx : pureX V.τ φ o.op o.type = some x) (hm : pureM V.τ cols μ o.op = some sm) :
    PureOk V w C φ (tmO a.tmps g) a o x sm := by
  have hx' := hx
  have hm' := hm
  cases ho : o.op with
  | move y =>
    rw [ho] at hx hm hs
    simp only [pureX] at hx
    simp only [pureM, Option.some.injEq] at hm
    subst hm
    have hsy : sm1 y = true := by simpa [Op.operands] using hs
    have key := s_move (V := V) (.inl ho) h hsy
    generalize opX V.τ φ o.type y = q at hx key
    cases q <;> first | (cases hx; done) | (cases hx; exact key (by simp))
  | pick c y z =>
    rw [ho] at hm hs
    simp [Op.operands] at hs
    simp only [pureM] at hm
    split at hm
    · rename_i hr; cases hm; exact s_pick ho h hs.1 hs.2.1 hs.2.2 hx' hr
    · cases hm
  | alloc t => exact s_alloc (μ := μ) ho hx' (by rw [ho] at hm' ⊢; exact hm')
  | load t y =>
    rw [ho] at hm hs
    exact s_load ho h (by simpa [Op.operands] using hs) hx' hm
  | nilCheck y => exact s_nil ho h (by rw [ho] at hs; simpa [Op.operands] using hs) hx' (by rw [ho] at hm' ⊢; exact hm')
  | binOp op t y z t' =>
    rw [ho] at hm hs
    simp [Op.operands] at hs
    simp only [pureM] at hm
    split at hm
    · rename_i hr; cases hm; exact s_bin ho h hs.1 hs.2 hx' hr
    · cases hm
  | makeInterface t y => rw [ho] at hx; simp [pureX] at hx
  | unOp op t y =>
    rw [ho] at hm hs
    simp only [pureM] at hm
    split at hm
    · rename_i hr; cases hm; exact s_un ho h (by simpa [Op.operands] using hs) hx' hr
    · cases hm
  | fieldAddr s y f => exact s_field ho h (by rw [ho] at hs; simpa [Op.operands] using hs) hx' (by rw [ho] at hm' ⊢; exact hm')
  | indexAddr t y i =>
    have : sm1 y = true ∧ sm1 i = true := by rw [ho] at hs; simpa [Op.operands] using hs
    exact s_index ho h this.1 this.2 hx' (by rw [ho] at hm' ⊢; exact hm')
  | index t y i =>
    rw [ho] at hm hs
    simp [Op.operands] at hs
    simp only [pureM] at hm
    split at hm
    · rename_i hr; cases hm; exact s_stridx ho h hs.1 hs.2 hx' hr
    · cases hm
  | extract t i =>
    cases t with
    | tmp t => exact s_extract ho h (by rw [ho] at hs; simpa [Op.operands, sm1] using hs) hx' (by rw [ho] at hm' ⊢; exact hm')
    | _ => rw [ho] at hm; cases hm
  | slice t y lo hi mx =>
    have hq : sm1 y = true ∧ lo.all sm1 = true ∧ hi.all sm1 = true ∧ mx.all sm1 = true := by
      rw [ho] at hs
      cases lo <;> cases hi <;> cases mx <;> simp_all [Op.operands]
    exact s_slice ho h hq.1 hq.2.1 hq.2.2.1 hq.2.2.2 hx' (by rw [ho] at hm' ⊢; exact hm')
  | convert src dst y => exact s_conv ho h (by rw [ho] at hs; simpa [Op.operands] using hs) hx' (by rw [ho] at hm' ⊢; exact hm')
  | makeSlice t y z =>
    have : sm1 y = true ∧ sm1 z = true := by rw [ho] at hs; simpa [Op.operands] using hs
    exact s_make (cols := cols) ho h this.1 this.2 hx' hm'
  | makeFunc fn fs cs =>
    cases fn with
    | func f => exact s_func ho h (by rw [ho] at hs; simp [Op.operands] at hs; simpa using hs.2) hx' (by rw [ho] at hm' ⊢; exact hm')
    | _ => rw [ho] at hm; cases hm
  | call c =>
    rw [ho] at hx hm hs
    simp only [pureX] at hx
    simp only [pureM] at hm
    have hargs : c.args.toList.all sm1 = true := by
      simp only [Op.operands, Call.operands, Array.all_append, Bool.and_eq_true] at hs
      simpa using hs.2
    split at hm
    · rename_i y hb hl
      rw [hb, hl] at hx
      rw [hl] at hargs
      split at hm
      · rename_i hr; cases hm
        split at hx
        · rename_i q1 q2 q3; cases q2; exact s_len ho hb hl q3 h (by simpa using hargs) hx hr
        · rename_i q1 q2; cases q1
        · rename_i q1 q2; cases q1
        · rename_i q1 q2; cases q1
        · cases hx
      · cases hm
    · rename_i y z hb hl
      rw [hb, hl] at hx
      rw [hl] at hargs
      simp at hargs
      split at hm
      · rename_i hr; cases hm
        exact s_mm (mx := true) ho hb hl h hargs.1 hargs.2 hx hr
      · cases hm
    · rename_i y z hb hl
      rw [hb, hl] at hx
      rw [hl] at hargs
      simp at hargs
      split at hm
      · rename_i hr; cases hm
        exact s_mm (mx := false) ho hb hl h hargs.1 hargs.2 hx hr
      · cases hm
    · cases hm
  | build t ps =>
    refine s_build ho h ?_ hx' (by rw [ho] at hm' ⊢; exact hm')
    intro p hp
    rw [ho] at hs
    simp only [Op.operands] at hs
    rw [List.all_toArray, List.all_eq_true] at hs
    exact hs _ (List.mem_map_of_mem hp)
  | buildSlice t n ps =>
    refine s_buildS (cols := cols) ho h ?_ hx' hm'
    intro p hp
    rw [ho] at hs
    simp only [Op.operands] at hs
    rw [List.all_toArray, List.all_eq_true] at hs
    exact hs _ (List.mem_map_of_mem hp)
  | _ => rw [ho] at hm; cases hm
end
end Go.Ev

/- A slice that a slot owns grows. -/
namespace Go.Ev

theorem killF_spec {q : List Nat} {ps ps' : List Pv} (h : killF q ps = some ps') : ps' = ps ∧ ∀ l, Pv.lab l ∈ ps → ¬ l <+: q := by
  unfold killF at h
  split at h
  · cases h
  · rename_i hk
    cases h
    refine ⟨rfl, fun l hl hp => hk ?_⟩
    rw [List.any_eq_true]
    exact ⟨_, hl, isPre_iff.2 hp⟩

theorem map_dropS (f : PF) (t : Nat) (sm : SM) : (sm.map f).dropS t = (sm.dropS t).map f := by
  cases sm with
  | vbox ps n =>
    simp only [SM.dropS, SM.map]
    cases f ps <;> rfl
  | pv ps s => by_cases e2 : hit t s = true <;> cases e : f ps <;> simp [SM.map, SM.dropS, e, e2]
  | pt s cs => simp only [SM.map, SM.dropS]; split <;> rfl
  | pa s cs n => simp only [SM.map, SM.dropS]; split <;> rfl
  | tup b n => simp only [SM.map, SM.dropS]; split <;> rfl
  | clo g cs => simp only [SM.map, SM.dropS]; split <;> rfl
  | _ => rfl

section
variable {A : Start} {w w' : World} {μ : Mu} {φ : Fr} {tm : Nat → Value} {C C' : Cx}

/-- A slot is written; what it owned at its root may be owned anew, written, or given up; who reads it is told so. -/
structure Regrow (w w' : World) (C C' : Cx) (d : Nat) : Prop where
  same : ∀ b, b < w.heap.size → (∀ off c z, C.own b ≠ some ⟨⟨d, []⟩, off, c, z⟩) → w'.heap[b]? = w.heap[b]? ∧ C'.own b = C.own b
  root : ∀ b off c z, C.own b = some ⟨⟨d, []⟩, off, c, z⟩ → C'.own b = none ∨ ∃ off' c' z', C'.own b = some ⟨⟨d, []⟩, off', c', z'⟩
  new : ∀ b o, w.heap.size ≤ b → C'.own b = some o → o.p = ⟨d, []⟩ ∧ b < w'.heap.size
  uniq : ∀ b1 b2 o1 o2, C'.own b1 = some o1 → C'.own b2 = some o2 → o1.p = ⟨d, []⟩ → o2.p = ⟨d, []⟩ → b1 = b2
  G : ∀ b, C'.G b ↔ C.G b ∨ (C'.own b = none ∧ ∃ off c z, C.own b = some ⟨⟨d, []⟩, off, c, z⟩)
  PA : C'.PA = C.PA
  size : w.heap.size ≤ w'.heap.size
  calm : Calm w w'

theorem Regrow.ok {d : Nat} (hr : Regrow w w' C C' d) (h : St A w μ φ tm C) {ps ps' : List Pv} (hf : killF [d] ps = some ps') {b : Nat} (hb : okB C ps b) : okB C' ps' b ∧ w'.heap[b]? = w.heap[b]? := by
  obtain ⟨rfl, hk⟩ := killF_spec hf
  have hlt := h.ok_lt hb
  have hnr : ∀ off c z, C.own b ≠ some ⟨⟨d, []⟩, off, c, z⟩ := by
    intro off c z ho
    obtain ⟨_, hnG, hnP, _⟩ := h.own b _ ho
    rcases hb with hb | ⟨p, hp, hb⟩
    · exact hnG hb
    · cases p with
      | arg i => exact hnP i hb
      | lab l =>
        obtain ⟨o, ho', hl⟩ := hb
        rw [ho] at ho'; cases ho'
        exact hk l hp hl
  obtain ⟨h1, h2⟩ := hr.same b hlt hnr
  refine ⟨?_, h1⟩
  rcases hb with hb | ⟨p, hp, hb⟩
  · exact .inl ((hr.G b).2 (.inl hb))
  · cases p with
    | arg i => exact .inr ⟨_, hp, by show C'.PA i b; rw [hr.PA]; exact hb⟩
    | lab l =>
      obtain ⟨o, ho, hl⟩ := hb
      exact .inr ⟨_, hp, o, by rw [h2]; exact ho, hl⟩

theorem St.regrow (h : St A w μ φ tm C) {d : Nat} (hrg : ∀ r ∈ A.rg, r.i ≠ d) (hd : d < 1000) (hr : Regrow w w' C C' d) (hk : ∀ b o, C'.own b = some o → o.p = ⟨d, []⟩ → ∃ arr ty, w'.heap[b]? = some (.cells arr ty (0, 0)) ∧ o.off + o.cap * o.z ≤ arr.size) {x : X} {v : Value} {sm : SM}
    (hc : ClaimX w' C' (upd φ d x) (fun s => if s = d then v else tm s) d x v (sm.dropS d)) :
    St A w' ((μ.map (killF [d])).put d sm) (upd φ d x) (fun s => if s = d then v else tm s) C' := by
  have hφ : ∀ s, hit d s = false → upd φ d x s = φ s := by
    intro s hs
    have : s ≠ d := by rintro rfl; rw [hit_self] at hs; cases hs
    simp [upd, this]
  have htm : ∀ s, hit d s = false → (fun s => if s = d then v else tm s) s = tm s := by
    intro s hs
    have : s ≠ d := by rintro rfl; rw [hit_self] at hs; cases hs
    simp [this]
  have hnrs : ∀ {b o}, C.own b = some o → o.p ≠ ⟨d, []⟩ → ∀ off c z, C.own b ≠ some ⟨⟨d, []⟩, off, c, z⟩ := by
    intro b o ho hne off c z e
    rw [ho] at e; cases e; exact hne rfl
  have hinv : ∀ b o, C'.own b = some o → (∃ o0, C.own b = some o0 ∧ (o = o0 ∨ (o0.p = ⟨d, []⟩ ∧ o.p = ⟨d, []⟩))) ∨ (w.heap.size ≤ b ∧ o.p = ⟨d, []⟩ ∧ b < w'.heap.size) := by
    intro b o ho
    by_cases hb : b < w.heap.size
    · left
      by_cases hroot : ∃ off c z, C.own b = some ⟨⟨d, []⟩, off, c, z⟩
      · obtain ⟨off, c, z, h0⟩ := hroot
        refine ⟨_, h0, .inr ⟨rfl, ?_⟩⟩
        rcases hr.root b off c z h0 with e | ⟨off', c', z', e⟩
        · rw [e] at ho; cases ho
        · rw [e] at ho; cases ho; rfl
      · obtain ⟨_, e⟩ := hr.same b hb (fun off c z e => hroot ⟨off, c, z, e⟩)
        rw [e] at ho
        exact ⟨o, ho, .inl rfl⟩
    · obtain ⟨h1, h2⟩ := hr.new b o (by omega) ho
      exact .inr ⟨by omega, h1, h2⟩
  refine ⟨?_, ?_, ?_, ?_, ?_, ?_, ?_, Nat.le_trans h.size hr.size, h.calm.trans hr.calm, ?_, ?_⟩
  rotate_right
  · intro b o ho
    by_cases hp : o.p = ⟨d, []⟩
    · exact hk b o ho hp
    · rcases hinv b o ho with ⟨o0, h0, h1 | ⟨_, h1⟩⟩ | ⟨_, h1, _⟩
      · subst h1
        have hlt := (h.own b _ h0).1
        rw [(hr.same b hlt (hnrs h0 hp)).1]
        exact h.oko b _ h0
      · exact (hp h1).elim
      · exact (hp h1).elim
  · intro s
    rw [get_put, get_map]
    by_cases e : s = d
    · subst e
      rw [if_pos rfl]
      right
      unfold Claim
      rw [show upd φ s x s = x by simp [upd]]
      simpa using hc
    · rw [if_neg e]
      cases hs : hit d s with
      | true => exact .inr trivial
      | false =>
        simp only [Bool.false_eq_true, if_false]
        rw [hφ s hs]
        rcases h.slot s with h1 | h1
        · exact .inl h1
        · right
          rw [map_dropS]
          have h2 := h1.dropS (t := d)
          refine h2.keep (killF [d]) (hφ s hs) (htm s hs) ?_ ?_ ?_ ?_ ?_
          · intro b q off c z hb
            have hlt := (h.own b _ hb).1
            obtain ⟨g1, g2⟩ := hr.same b hlt (hnrs hb (by intro e'; exact e (by simpa using congrArg Pl.s e')))
            exact ⟨by rw [g2]; exact hb, g1⟩
          · intro ps ps' hf b hb; exact hr.ok h hf hb
          · intro i b hb
            have hlt := Nat.lt_of_lt_of_le (h.pa i b hb).1 h.size
            refine ⟨by rw [hr.PA]; exact hb, (hr.same b hlt ?_).1⟩
            intro off c z ho
            exact (h.own b _ ho).2.2.1 i hb
          · intro b hb
            refine ⟨(hr.G b).2 (.inl hb), (hr.same b (h.frz b hb).1 ?_).1⟩
            intro off c z ho
            exact (h.own b _ ho).2.1 hb
          · refine refKeep_dropS (killF [d]) _ hφ htm ?_ ?_
            · intro b o ho hh
              have hlt := (h.own b _ ho).1
              obtain ⟨_, g2⟩ := hr.same b hlt (hnrs ho (by intro e'; rw [e'] at hh; simp [hit_self] at hh))
              rw [g2]; exact ho
            · intro b n e' i hi hb
              rw [e'] at h1
              exact cix_hit h1.2.1 hi hd hb
  · intro b b' o o' h1 h2 e
    by_cases hp : o.p = ⟨d, []⟩
    · exact hr.uniq b b' o o' h1 h2 hp (by rw [← e]; exact hp)
    · have hp' : o'.p ≠ ⟨d, []⟩ := by rw [← e]; exact hp
      rcases hinv b o h1 with ⟨o0, k1, k2⟩ | ⟨_, k2, _⟩
      · rcases hinv b' o' h2 with ⟨o0', l1, l2⟩ | ⟨_, l2, _⟩
        · rcases k2 with rfl | ⟨_, k2⟩
          · rcases l2 with rfl | ⟨_, l2⟩
            · exact h.inj b b' _ _ k1 l1 e
            · exact (hp' l2).elim
          · exact (hp k2).elim
        · exact (hp' l2).elim
      · exact (hp k2).elim
  · intro b o h1
    rcases hinv b o h1 with ⟨o0, k1, k2⟩ | ⟨k1, k2, k3⟩
    · obtain ⟨q1, q2, q3, q4⟩ := h.own b o0 k1
      refine ⟨Nat.lt_of_lt_of_le q1 hr.size, ?_, by rw [hr.PA]; exact q3, q4⟩
      intro hg
      rcases (hr.G b).1 hg with hg | ⟨hg, _⟩
      · exact q2 hg
      · rw [h1] at hg; cases hg
    · refine ⟨k3, ?_, ?_, .inr (Nat.le_trans h.size k1)⟩
      · intro hg
        rcases (hr.G b).1 hg with hg | ⟨hg, _⟩
        · have := (h.frz b hg).1; omega
        · rw [h1] at hg; cases hg
      · intro i hp
        rw [hr.PA] at hp
        have := (h.pa i b hp).1
        have := h.size
        omega
  · intro b hg
    rcases (hr.G b).1 hg with hg | ⟨_, off, c, z, ho⟩
    · exact ⟨Nat.lt_of_lt_of_le (h.frz b hg).1 hr.size, (h.frz b hg).2⟩
    · obtain ⟨q1, q2, q3, q4⟩ := h.own b _ ho
      exact ⟨Nat.lt_of_lt_of_le q1 hr.size, .inr q4⟩
  · intro b hb
    exact ⟨(hr.G b).2 (.inl (h.ag b hb).1), (h.ag b hb).2⟩
  · intro i b hb
    rw [hr.PA] at hb
    exact h.pa i b hb
  · intro b hb hn
    have hlt := Nat.lt_of_lt_of_le hb h.size
    rw [(hr.same b hlt ?_).1]
    · exact h.old b hb hn
    · intro off c z ho
      rcases (h.own b _ ho).2.2.2 with e | e
      · exact hn e
      · omega
  · intro r hr1
    obtain ⟨g1, g2⟩ := h.rng r hr1
    have hlt := g1.lt
    have hnr : ∀ off c z, C.own r.b ≠ some ⟨⟨d, []⟩, off, c, z⟩ := by
      intro off c z ho
      have := (g2 _ ho).1
      simp only [Ow.mk.injEq, Pl.mk.injEq] at this
      exact hrg r hr1 this.1.1.symm
    obtain ⟨k1, k2⟩ := hr.same r.b hlt hnr
    refine ⟨g1.ext k1, fun o ho => ?_⟩
    rw [k2] at ho
    obtain ⟨e, ds, q1, q2⟩ := g2 o ho
    refine ⟨e, ds, ?_, q2⟩
    have : r.i ≠ d := hrg r hr1
    simp [upd, this, q1]
end
end Go.Ev

/- append. -/
namespace Go.Ev

/-- The root of a slot is owned anew. -/
def Cx.rg (C : Cx) (d : Nat) (N : Option (Nat × Ow)) : Cx where
  own b := match N with
    | some (b0, o0) => if b = b0 then some o0 else (match C.own b with
      | some o => if o.p = ⟨d, []⟩ then none else some o
      | none => none)
    | none => match C.own b with
      | some o => if o.p = ⟨d, []⟩ then none else some o
      | none => none
  G b := C.G b ∨ ((match N with
    | some (b0, _) => b ≠ b0
    | none => True) ∧ ∃ off c z, C.own b = some ⟨⟨d, []⟩, off, c, z⟩)
  PA := C.PA

section
variable {A : Start} {w w' : World} {μ : Mu} {φ : Fr} {tm : Nat → Value} {C : Cx}

theorem rg_none {d b : Nat} {o : Ow} (h : C.own b = some o) (hne : o.p ≠ ⟨d, []⟩) : (C.rg d none).own b = some o := by simp [Cx.rg, h, hne]

theorem rg_regrow_none (h : St A w μ φ tm C) {d : Nat} (he : Ext w w') : Regrow w w' C (C.rg d none) d := by
  refine ⟨?_, ?_, ?_, ?_, ?_, rfl, he.size, he.calm⟩
  · intro b hb hn
    refine ⟨he.same b hb, ?_⟩
    simp only [Cx.rg]
    cases ho : C.own b with
    | none => rfl
    | some o =>
      have : o.p ≠ ⟨d, []⟩ := by intro e; exact hn o.off o.cap o.z (by rw [ho, ← e])
      simp [this]
  · intro b off c z ho
    left
    simp [Cx.rg, ho]
  · intro b o hb ho
    simp only [Cx.rg] at ho
    cases h0 : C.own b with
    | none => rw [h0] at ho; cases ho
    | some o0 => have := (h.own b o0 h0).1; omega
  · intro b1 b2 o1 o2 h1 _ e1 _
    simp only [Cx.rg] at h1
    cases h0 : C.own b1 with
    | none => rw [h0] at h1; cases h1
    | some o0 =>
      rw [h0] at h1
      simp only at h1
      split at h1
      · cases h1
      · rename_i hne; cases h1; exact (hne e1).elim
  · intro b
    simp only [Cx.rg]
    constructor
    · rintro (hg | ⟨_, off, c, z, ho⟩)
      · exact .inl hg
      · exact .inr ⟨by simp [ho], off, c, z, ho⟩
    · rintro (hg | ⟨_, off, c, z, ho⟩)
      · exact .inl hg
      · exact .inr ⟨trivial, off, c, z, ho⟩

theorem rg_some {d b b0 : Nat} {o0 o : Ow} (hb : b ≠ b0) (h : C.own b = some o) (hne : o.p ≠ ⟨d, []⟩) : (C.rg d (some (b0, o0))).own b = some o := by simp [Cx.rg, hb, h, hne]

theorem rg_new {d b0 : Nat} {o0 : Ow} : (C.rg d (some (b0, o0))).own b0 = some o0 := by simp [Cx.rg]

/-- A new block is owned, or the old one. -/
theorem rg_regrow_some (h : St A w μ φ tm C) {d b0 : Nat} {o0 : Ow} (ho0 : o0.p = ⟨d, []⟩) (hb0 : (w.heap.size ≤ b0 ∧ b0 < w'.heap.size) ∨ ∃ off c z, C.own b0 = some ⟨⟨d, []⟩, off, c, z⟩)
    (hs : ∀ b, b < w.heap.size → b ≠ b0 → w'.heap[b]? = w.heap[b]?) (hsz : w.heap.size ≤ w'.heap.size) (hc : Calm w w') : Regrow w w' C (C.rg d (some (b0, o0))) d := by
  refine ⟨?_, ?_, ?_, ?_, ?_, rfl, hsz, hc⟩
  · intro b hb hn
    have hne : b ≠ b0 := by
      rintro rfl
      rcases hb0 with ⟨h1, _⟩ | ⟨off, c, z, h1⟩
      · omega
      · exact hn _ _ _ h1
    refine ⟨hs b hb hne, ?_⟩
    simp only [Cx.rg]
    rw [if_neg hne]
    cases ho : C.own b with
    | none => rfl
    | some o =>
      have : o.p ≠ ⟨d, []⟩ := by intro e; exact hn o.off o.cap o.z (by rw [ho, ← e])
      simp [this]
  · intro b off c z ho
    by_cases e : b = b0
    · subst e
      right
      refine ⟨o0.off, o0.cap, o0.z, ?_⟩
      rw [rg_new, ← ho0]
    · left
      simp [Cx.rg, ho, e]
  · intro b o hb ho
    simp only [Cx.rg] at ho
    split at ho
    · rename_i e
      cases ho
      refine ⟨ho0, ?_⟩
      subst e
      rcases hb0 with ⟨_, h1⟩ | ⟨off, c, z, h1⟩
      · exact h1
      · have := (h.own b _ h1).1; omega
    · cases h0 : C.own b with
      | none => rw [h0] at ho; cases ho
      | some o1 => have := (h.own b o1 h0).1; omega
  · have key : ∀ b1 o1, (C.rg d (some (b0, o0))).own b1 = some o1 → o1.p = ⟨d, []⟩ → b1 = b0 := by
      intro b1 o1 h1 e1
      simp only [Cx.rg] at h1
      split at h1
      · assumption
      · cases h0 : C.own b1 with
        | none => rw [h0] at h1; cases h1
        | some o2 =>
          rw [h0] at h1
          simp only at h1
          split at h1
          · cases h1
          · rename_i hne; cases h1; exact (hne e1).elim
    intro b1 b2 o1 o2 h1 h2 e1 e2
    rw [key b1 o1 h1 e1, key b2 o2 h2 e2]
  · intro b
    simp only [Cx.rg]
    constructor
    · rintro (hg | ⟨hne, off, c, z, ho⟩)
      · exact .inl hg
      · exact .inr ⟨by rw [if_neg hne]; simp [ho], off, c, z, ho⟩
    · rintro (hg | ⟨hnone, off, c, z, ho⟩)
      · exact .inl hg
      · refine .inr ⟨?_, off, c, z, ho⟩
        rintro rfl
        simp at hnone

/-- What lies beside the root stays. -/
theorem rep_rg {d : Nat} {N : Option (Nat × Ow)} (h : St A w μ φ tm C) (hr : Regrow w w' C (C.rg d N) d) {i j : Nat} {m : M} {x : D} {v : Value} (hrep : Rep w C ((⟨d, []⟩ : Pl).cell i j) m x v) : Rep w' (C.rg d N) ((⟨d, []⟩ : Pl).cell i j) (m.map (killF [d])) x v := by
  refine hrep.move _ (killF [d]) ?_ (fun ps ps' hf b hb => hr.ok h hf hb)
  intro b q off c z hb
  have hlt := (h.own b _ hb).1
  obtain ⟨h1, h2⟩ := hr.same b hlt (by
    intro off' c' z' e
    rw [hb] at e
    simp [Pl.cell, Pl.ext] at e)
  exact ⟨by rw [h2]; exact hb, h1⟩

/-- A copy stays, wherever it is put. -/
theorem rd_rg {d : Nat} {N : Option (Nat × Ow)} (h : St A w μ φ tm C) (hr : Regrow w w' C (C.rg d N) d) {p : Pl} {m : M} {x : D} {v : Value} (hn : m.noOwn = true) (hrep : Rep w C p m x v) (p' : Pl) : Rep w' (C.rg d N) p' (m.map (killF [d])) x v :=
  hrep.moveV hn (killF [d]) (fun ps ps' hf b hb => hr.ok h hf hb)
end

/-- A row of cells out of rows of data: cell by cell. -/
def Cells (w : World) (C : Cx) (m : M) (rows : List (List D)) (z : Nat) (news : List Value) : Prop :=
  news.length = rows.length * z ∧ (∀ row ∈ rows, row.length = z) ∧ ∀ (i j : Nat) (row : List D) (d : D), rows[i]? = some row → row[j]? = some d → ∃ v, news[i * z + j]? = some v ∧ ∀ p, Rep w C p m d v

section
variable {V : Env} {A : Start} {w w' : World} {μ μ' : Mu} {φ : Fr} {C : Cx} {a : Act} {g : Nat → Value} {o : Oper} {x : X}

theorem mul_at {i j z n : Nat} (hi : i < n) (hj : j < z) : i * z + j < n * z := by
  have := Nat.mul_le_mul_right z (Nat.succ_le_of_lt hi)
  rw [Nat.succ_mul] at this
  omega

/-- What is appended, as a source: a slice. -/
theorem src_rows {t' et' : Nat} {m : M} {z : Nat} {rows : List (List D)} {v : Value} (hk : V.P.underlying t' = some (.slice et')) (hno : m.noOwn = true) (hr : m.readable = true) (hrow : ∀ row ∈ rows, row.length = z) (hz : 0 < z) (hrep : Rep w C ⟨0, []⟩ m (.sl z rows) v) :
    ∃ news, Src V.P z t' v rows.length news w ∧ Cells w C m rows z news := by
  have hrd : ∀ ps, m = .view ps → Rd w (okB C ps) (.sl z rows) v → ∃ news, Src V.P z t' v rows.length news w ∧ Cells w C m rows z news := by
    rintro ps rfl hrd
    generalize hn0 : rows = r0 at hrd
    cases hrd with
    | nil =>
      subst hn0
      rename_i ad c
      refine ⟨[], ?_, by simp, by simp, by simp⟩
      cases ad with
      | none => exact Src.ofNil w hk c
      | some ad => exact Src.ofSlice w hk ad 0 c [] (by simp) (by simp) (by simp)
    | @sl _ _ b off c arr ty fz k1 k2 k3 k4 k5 k6 =>
      subst hn0
      have hl : ((arr.toList.drop off).take (rows.length * z)).length = rows.length * z := by simp; omega
      have hat : ∀ i j row d, rows[i]? = some row → row[j]? = some d → ((arr.toList.drop off).take (rows.length * z))[i * z + j]? = some (arr.getD (off + i * z + j) undef) := by
        intro i j row d q1 q2
        have hi := (List.getElem?_eq_some_iff.1 q1).1
        have hj : j < z := by have := k5 row (List.mem_of_getElem? q1); have := (List.getElem?_eq_some_iff.1 q2).1; omega
        have := mul_at (z := z) hi hj
        rw [List.getElem?_take, if_pos this, List.getElem?_drop, Array.getElem?_toList, ← Nat.add_assoc, Array.getD_eq_getD_getElem?, Array.getElem?_eq_getElem (by omega)]
        rfl
      refine ⟨(arr.toList.drop off).take (rows.length * z), Src.ofSlice w hk ⟨b, off, none⟩ rows.length c _ hl ?_ ?_, hl, k5, ?_⟩
      · intro j u hj
        rw [List.getElem?_take] at hj
        split at hj
        · rw [List.getElem?_drop, Array.getElem?_toList] at hj
          rw [addr_add, cell_of k2]
          exact hj
        · cases hj
      · intro u hu
        obtain ⟨k, hk'⟩ := List.getElem?_of_mem hu
        have hkl := (List.getElem?_eq_some_iff.1 hk').1
        rw [hl] at hkl
        have hi : k / z < rows.length := by
          rw [Nat.div_lt_iff_lt_mul hz]; exact hkl
        have hj : k % z < z := Nat.mod_lt _ hz
        have hrl := k5 rows[k / z] (List.getElem_mem hi)
        have hjl : k % z < (rows[k / z]).length := by omega
        have h1 := hat (k / z) (k % z) _ _ (List.getElem?_eq_getElem hi) (List.getElem?_eq_getElem hjl)
        have e : k / z * z + k % z = k := by rw [Nat.mul_comm]; exact Nat.div_add_mod k z
        rw [e, hk'] at h1
        cases h1
        have := (k6 (k / z) (k % z) _ _ (List.getElem?_eq_getElem hi) (List.getElem?_eq_getElem hjl)).cell
        rw [← isCell_one]; exact this
      · intro i j row d q1 q2
        exact ⟨_, hat i j row d q1 q2, fun p => .view (k6 i j row d q1 q2)⟩
  cases m with
  | u => cases hr
  | own cs => cases hno
  | emp =>
    obtain ⟨z', e1, rfl⟩ := rep_emp hrep
    cases e1
    exact ⟨[], Src.ofNil w hk 0, by simp, by simp, by simp⟩
  | view ps => cases hrep with
    | view h => exact hrd ps rfl h

/-- A string. -/
theorem src_str {t' : Nat} {s : ByteArray} {m : M} (hk : V.P.underlying t' = some .string) (hm : m.readable = true) (hn : m = .view [] ∨ ∃ ps, m = .view ps) :
    Src V.P 1 t' (.string s) s.size (byteCells s) w ∧ Cells w C m (strRows s) 1 (byteCells s) := by
  refine ⟨Src.ofString w hk s, ?_, ?_, ?_⟩
  · rw [byteCells_length]; simp [strRows]
  · intro row hrow
    simp only [strRows, List.mem_map] at hrow
    obtain ⟨b, _, rfl⟩ := hrow
    rfl
  · intro i j row d q1 q2
    unfold strRows at q1
    rw [List.getElem?_map, Option.map_eq_some_iff] at q1
    obtain ⟨b, hb, rfl⟩ := q1
    cases j with
    | succ j => simp at q2
    | zero =>
      simp only [List.getElem?_cons_zero, Option.some.injEq] at q2
      subst q2
      refine ⟨.int .u8 b.toNat, ?_, ?_⟩
      · rw [Nat.mul_one, Nat.add_zero]
        unfold byteCells
        rw [List.getElem?_map, hb]; rfl
      · intro p
        rcases hn with rfl | ⟨ps, rfl⟩ <;> exact .view (.v rfl)

theorem rg_root {w' : World} {d : Nat} {N : Option (Nat × Ow)} (hk0 : ∀ b0 o0, N = some (b0, o0) → ∃ arr ty, w'.heap[b0]? = some (.cells arr ty (0, 0)) ∧ o0.off + o0.cap * o0.z ≤ arr.size) :
    ∀ b o, (C.rg d N).own b = some o → o.p = ⟨d, []⟩ → ∃ arr ty, w'.heap[b]? = some (.cells arr ty (0, 0)) ∧ o.off + o.cap * o.z ≤ arr.size := by
  intro b o h e
  cases N with
  | none =>
    simp only [Cx.rg] at h
    cases h0 : C.own b with
    | none => rw [h0] at h; cases h
    | some o0 =>
      rw [h0] at h
      simp only at h
      split at h
      · cases h
      · rename_i hne; cases h; exact (hne e).elim
  | some q =>
    obtain ⟨b0, o0⟩ := q
    simp only [Cx.rg] at h
    split at h
    · rename_i hb
      cases h
      subst hb
      exact hk0 _ _ rfl
    · cases h0 : C.own b with
      | none => rw [h0] at h; cases h
      | some o1 =>
        rw [h0] at h
        simp only at h
        split at h
        · cases h
        · rename_i hne; cases h; exact (hne e).elim
end
end Go.Ev

/- append as an operation. -/
namespace Go.Ev

theorem append_room {P : Program} {w : World} (t tx ty e : TypeId) (i : TypeInfo) (ht : P.underlying t = some (.slice e)) (hi : P.info? e = some i) (b off sLen sCap : Nat) (x : Value) (n : Nat) (news : List Value) (hs : Src P i.size tx x n news w)
    (hroom : sLen + n ≤ sCap) {arr : Array Value} {ty0 : TypeId} (hb : w.heap[b]? = some (.cells arr ty0 (0, 0))) (hsz : off + sLen * i.size + news.length ≤ arr.size) :
    (Builtin.append_ #[t, tx] ty #[.slice (some ⟨b, off, none⟩) sLen sCap, x]).run P w =
      .ok (.slice (some ⟨b, off, none⟩) (sLen + n) sCap) (w.setRow b (arr.toList.take (off + sLen * i.size) ++ news ++ arr.toList.drop (off + sLen * i.size + news.length)).toArray) := by
  have hst := run_storeCells_at (P := P) b (off + sLen * i.size) ty0 news 0 arr w hb (by simpa using hsz) hs.one
  simp only [Nat.add_zero] at hst
  rcases hs.kind with ⟨e', hk⟩ | hk <;> simp [Builtin.append_, run_underlying ht, run_underlying hk, sizeOf, typeInfo, hi, hs.len, hroom, hs.cells, Addr.add_lit, hst]

section
variable {V : Env} {A : Start} {w w' : World} {μ μ' : Mu} {φ : Fr} {C : Cx} {a : Act} {g : Nat → Value} {o : Oper} {x : X}

theorem grow_ext {e : TypeId} {arr : Array Value} : Ext w (w.drew.alloc (.cells arr e)) ∧ (w.drew.alloc (.cells arr e)).heap[w.heap.size]? = some (.cells arr e (0, 0)) ∧ w.heap.size < (w.drew.alloc (.cells arr e)).heap.size := by
  have hh : (w.drew.alloc (.cells arr e)).heap = w.heap.push (.cells arr e) := rfl
  refine ⟨⟨by rw [hh]; simp, ?_, ⟨rfl, rfl, rfl⟩⟩, by rw [hh]; simp, by rw [hh]; simp⟩
  intro b hb
  rw [hh, Array.getElem?_push, if_neg (by omega)]

/-- The state behind: what stands is the slot's own slice, old rows and new ones. -/
theorem append_st {d : Nat} {C1 : Cx} {μ1 : Mu} {t t' et yb z : Nat} {e ee : TE} {cols : List M} {my : M} {rows rows' : List (List D)} {news : List Value} {vx vy : Value} {m1 : M} {c : Call}
    (hrg : ∀ r ∈ A.rg, r.i ≠ d) (ho : o.op = .call c) (hbi : c.callee = .builtin .append) (hta : c.argTypes.toList = [t, t']) (hva : c.args.toList.map a.eval = [vx, vy]) (hd : o.dst = some d) (hd1 : d < 1000) (hsz : d < a.tmps.size)
    (h : St A w μ1 φ (tmO a.tmps g) C1) (he : V.get t = some e) (hel : e.el = some (et, z, yb)) (hee : V.get et = some ee) (hz0 : 0 < z) (hzl : ee.zero.length = z) (hcl : ee.zero.length = cols.length)
    (hx : Rep w C1 ⟨d, []⟩ m1 (.sl z rows) vx) (hm1 : (∃ c1, m1 = .own c1 ∧ leSL (mapL (killF [d]) c1) cols = true) ∨ m1 = .emp)
    (hno : my.noOwn = true) (hle : leSL (ee.zero.map fun z => flatM z (my.map (killF [d]))) cols = true) (hsrc : Src V.P z t' vy rows'.length news w) (hcells : Cells w C1 my rows' z news) (hfit : ∀ row ∈ rows', fits ee.zero row = true)
    (hroom : (rows.length + rows'.length) * yb ≤ memRoom) (hroom2 : rows.length + rows'.length ≤ strRoom) :
    OpOk V A w a g o (upd φ d (.d (.sl z (rows ++ rows')) none)) ((μ1.map (killF [d])).put d (.c (.own cols) .no)) := by
  obtain ⟨dd, hu, _, _, _, hsl, _⟩ := Env.desc he
  obtain ⟨rfl, i, hi, hiz, hib⟩ := hsl _ _ _ hel
  obtain ⟨i', v, hi', hs', hzv, hzs⟩ := Env.info hee
  rw [hi] at hi'; cases hi'
  have hvl : v.cells.size = z := by have := zero_len hzs; simp at this; omega
  obtain ⟨hnl, hrow', hnew⟩ := hcells
  have hex : ∀ r w', (Builtin.append_ #[t, t'] o.type #[vx, vy]).run V.P w = .ok r w' → (execOp a.eval o).run V.P w = .ok (.value r) w' := by
    intro r w' hr
    have e1 : c.args.map a.eval = #[vx, vy] := by
      apply Array.ext'
      rw [Array.toList_map, hva]
    have e2 : c.argTypes = #[t, t'] := by rw [← Array.toArray_toList (xs := c.argTypes), hta]
    simp only [execOp, ho, resolve, hbi]
    simp [invoke, builtin, e1, e2, hr]
  have fin : ∀ (r : Value) (w' : World) (N : Option (Nat × Ow)), (Builtin.append_ #[t, t'] o.type #[vx, vy]).run V.P w = .ok r w' → Regrow w w' C1 (C1.rg d N) d → Rep w' (C1.rg d N) ⟨d, []⟩ (.own cols) (.sl z (rows ++ rows')) r → (∀ b0 o0, N = some (b0, o0) → ∃ arr ty, w'.heap[b0]? = some (.cells arr ty (0, 0)) ∧ o0.off + o0.cap * o0.z ≤ arr.size) →
      OpOk V A w a g o (upd φ d (.d (.sl z (rows ++ rows')) none)) ((μ1.map (killF [d])).put d (.c (.own cols) .no)) := by
    intro r w' N hr hrr hrep hk0
    refine ⟨.value r, r, w', C1.rg d N, g, hex r w' hr, .inl rfl, ?_⟩
    rw [hd, tm_put hd1 hsz]
    exact h.regrow hrg hd1 hrr (rg_root hk0) (ClaimX.dropS ⟨_, none, rfl, hrep, fun _ => rfl⟩)
  -- the new rows, wherever they come to lie
  have hnews : ∀ {w' N} (hrr : Regrow w w' C1 (C1.rg d N) d) (i j : Nat) (row : List D) (x : D) (mc : M), rows'[i]? = some row → row[j]? = some x → cols[j]? = some mc → ∃ u, news[i * z + j]? = some u ∧ ∀ p, Rep w' (C1.rg d N) p mc x u := by
    intro w' N hrr i j row x mc q1 q2 q3
    obtain ⟨u, hu1, hu2⟩ := hnew i j row x q1 q2
    refine ⟨u, hu1, fun p => ?_⟩
    obtain ⟨m0, hm0, hle0⟩ := leSL_at hle q3
    rw [List.getElem?_map, Option.map_eq_some_iff] at hm0
    obtain ⟨zc, hz1, rfl⟩ := hm0
    have hf := fits_at (hfit row (List.mem_of_getElem? q1)) hz1 q2
    have h1 := rd_rg h hrr hno (hu2 ⟨0, []⟩) p
    exact (flat_rep hf h1 (fun h => h) h1).leS hle0
  have hlen : (rows ++ rows').length = rows.length + rows'.length := by simp
  -- a new row of cells
  have grow : ∀ (base : Option Addr) (cap : Nat) (olds : List Value), vx = .slice base rows.length cap → (Builtin.firstCells i.size rows.length (.slice base rows.length cap)).run V.P w.drew = .ok olds.toArray w.drew → cap < rows.length + rows'.length → olds.length = rows.length * z → (∀ row ∈ rows, row.length = z) →
      (∀ {w' N} (hrr : Regrow w w' C1 (C1.rg d N) d) (i j : Nat) (row : List D) (x : D) (mc : M), rows[i]? = some row → row[j]? = some x → cols[j]? = some mc → ∃ u, olds[i * z + j]? = some u ∧ Rep w' (C1.rg d N) ((⟨d, []⟩ : Pl).cell i j) mc x u) →
      OpOk V A w a g o (upd φ d (.d (.sl z (rows ++ rows')) none)) ((μ1.map (killF [d])).put d (.c (.own cols) .no)) := by
    intro base cap olds hv hold hg hol hrow hkid
    have hn2 := nextslicecap_le hg
    have hfit2 : Builtin.nextslicecap (rows.length + rows'.length) cap * i.bytes ≤ 281474976710656 := by
      rw [hib]
      have h1 := Nat.mul_le_mul_right yb hn2
      have h2 : 2 * (rows.length + rows'.length) * yb = 2 * ((rows.length + rows'.length) * yb) := by rw [Nat.mul_assoc]
      unfold memRoom at hroom
      omega
    have hrun := run_append_grow_src (P := V.P) w t t' o.type et i v hu hi hzv base rows.length cap olds hold vy rows'.length news (by rw [hiz]; exact hsrc) hg (by unfold strRoom at hroom2; omega) hfit2
    rw [← hv] at hrun
    generalize hcap : grownCap w (rows.length + rows'.length) cap et = cap' at hrun
    have hge : rows.length + rows'.length ≤ cap' := by rw [← hcap]; exact grownCap_ge w _ _ _
    generalize harr : (olds ++ news).toArray ++ Builtin.zeroCells v.cells (cap' - (rows.length + rows'.length)) = arr' at hrun
    obtain ⟨hext, hheap, hlt⟩ := grow_ext (w := w) (e := et) (arr := arr')
    have hsize : arr'.size = cap' * z := by
      rw [← harr]
      simp only [Array.size_append, List.size_toArray, List.length_append, Builtin.zeroCells, Array.size_map, Array.size_range, hvl]
      rw [hol, hnl, ← Nat.add_mul, ← Nat.add_mul]
      congr 1
      omega
    have hrr : Regrow w (w.drew.alloc (.cells arr' et)) C1 (C1.rg d (some (w.heap.size, ⟨⟨d, []⟩, 0, cap', z⟩))) d := rg_regrow_some h rfl (.inl ⟨Nat.le_refl _, hlt⟩) (fun b hb _ => hext.same b hb) hext.size hext.calm
    refine fin _ _ _ hrun hrr ?_ (by intro b0 o0 e; cases e; exact ⟨arr', et, hheap, by simp only; omega⟩)
    rw [← hlen]
    refine .own (arr := arr') (ty := et) rg_new hheap (by rw [hlen]; exact hge) (by omega) (by omega) hz0 ?_ ?_
    · intro row hr
      rcases List.mem_append.1 hr with hr | hr
      · exact hrow row hr
      · exact hrow' row hr
    · intro i' j row x mc q1 q2 q3
      rw [Nat.zero_add]
      have hjz : j < z := by have := (List.getElem?_eq_some_iff.1 q3).1; omega
      have hget : ∀ k, k < (rows.length + rows'.length) * z → arr'.getD k undef = ((olds ++ news)[k]?).getD undef := by
        intro k hk
        rw [← harr, Array.getD_eq_getD_getElem?, Array.getElem?_append_left (by simp [hol, hnl]; rw [← Nat.add_mul]; exact hk), List.getElem?_toArray]
      rw [List.getElem?_append] at q1
      split at q1
      · rename_i hlt'
        obtain ⟨u, hu1, hu2⟩ := hkid hrr i' j row x mc q1 q2 q3
        have hk := mul_at (z := z) hlt' hjz
        have hk2 : i' * z + j < (rows.length + rows'.length) * z := by rw [Nat.add_mul]; omega
        rw [hget _ hk2, List.getElem?_append_left (by omega), hu1]
        exact hu2
      · rename_i hge'
        obtain ⟨u, hu1, hu2⟩ := hnews hrr (i' - rows.length) j row x mc q1 q2 q3
        have hi2 := (List.getElem?_eq_some_iff.1 q1).1
        have hk := mul_at (z := z) hi2 hjz
        have e1 : i' * z + j = rows.length * z + ((i' - rows.length) * z + j) := by
          have : i' = rows.length + (i' - rows.length) := by omega
          conv => lhs; rw [this, Nat.add_mul]
          omega
        have hk2 : i' * z + j < (rows.length + rows'.length) * z := by rw [e1, Nat.add_mul]; omega
        rw [hget _ hk2, e1, List.getElem?_append_right (by omega), hol]
        have e2 : rows.length * z + ((i' - rows.length) * z + j) - rows.length * z = (i' - rows.length) * z + j := by omega
        rw [e2, hu1]
        exact hu2 _
  have nilcase : rows = [] → vx = .slice none 0 0 → OpOk V A w a g o (upd φ d (.d (.sl z (rows ++ rows')) none)) ((μ1.map (killF [d])).put d (.c (.own cols) .no)) := by
    rintro rfl rfl
    by_cases hn : rows'.length = 0
    · have hr0 : rows' = [] := List.length_eq_zero_iff.1 hn
      subst hr0
      have hn0 : news = [] := List.length_eq_zero_iff.1 (by simpa using hnl)
      subst hn0
      refine fin _ w none (run_append_nothing w t t' o.type et i hu hi none 0 0 (Nat.le_refl _) vy (by rw [hiz]; exact hsrc)) (rg_regrow_none h (Ext.refl w)) .nil (by simp)
    · refine grow none 0 [] rfl (by rw [hiz]; exact run_firstCells_none w.drew z 0 0 0) (by simp; omega) (by simp) (by simp) ?_
      intro w' N _ i j row x mc q1
      simp at q1
  rcases hm1 with ⟨c1, rfl, hlec⟩ | rfl
  · cases hx with
    | nil => exact nilcase rfl rfl
    | @own _ _ _ _ b off cap arr ty k1 k2 k3 k4 k5 k6 k7 k8 =>
      have hkid : ∀ {w' N} (hrr : Regrow w w' C1 (C1.rg d N) d) (i j : Nat) (row : List D) (x : D) (mc : M), rows[i]? = some row → row[j]? = some x → cols[j]? = some mc → Rep w' (C1.rg d N) ((⟨d, []⟩ : Pl).cell i j) mc x (arr.getD (off + i * z + j) undef) := by
        intro w' N hrr i j row x mc q1 q2 q3
        obtain ⟨m0, hm0, hle0⟩ := leSL_at hlec q3
        obtain ⟨m, hm, rfl⟩ := mapL_get hm0
        exact (rep_rg h hrr (k8 i j row x m q1 q2 hm)).leS hle0
      by_cases hcap : rows.length + rows'.length ≤ cap
      · have hmul := Nat.mul_le_mul_right z hcap
        rw [Nat.add_mul] at hmul
        have hrun := append_room (P := V.P) (w := w) t t' o.type et i hu hi b off rows.length cap vy rows'.length news (by rw [hiz]; exact hsrc) hcap k2 (by rw [hiz]; omega)
        rw [hiz] at hrun
        have hal : off + rows.length * z + news.length ≤ arr.toList.length := by simp; omega
        have hrr : Regrow w (w.setRow b (arr.toList.take (off + rows.length * z) ++ news ++ arr.toList.drop (off + rows.length * z + news.length)).toArray) C1 (C1.rg d (some (b, ⟨⟨d, []⟩, off, cap, z⟩))) d :=
          rg_regrow_some h rfl (.inr ⟨_, _, _, k1⟩) (fun b' _ hne => setRow_ne hne) (by rw [setRow_size]; exact Nat.le_refl _) ⟨rfl, rfl, rfl⟩
        refine fin _ _ _ hrun hrr ?_ (by
          intro b0 o0 e; cases e
          refine ⟨_, _, setRow_get k2, ?_⟩
          rw [List.size_toArray, splice_length hal]; simpa using k4)
        rw [← hlen]
        have hsize : (arr.toList.take (off + rows.length * z) ++ news ++ arr.toList.drop (off + rows.length * z + news.length)).toArray.size = arr.size := by
          rw [List.size_toArray, splice_length hal]; simp
        refine .own rg_new (setRow_get k2) (by rw [hlen]; exact hcap) (by rw [hsize]; exact k4) (by omega) hz0 ?_ ?_
        · intro row hr
          rcases List.mem_append.1 hr with hr | hr
          · exact k7 row hr
          · exact hrow' row hr
        · intro i' j row x mc q1 q2 q3
          have hjz : j < z := by have := (List.getElem?_eq_some_iff.1 q3).1; omega
          rw [Array.getD_eq_getD_getElem?, List.getElem?_toArray, splice_get hal]
          rw [List.getElem?_append] at q1
          split at q1
          · rename_i hlt'
            have hk := mul_at (z := z) hlt' hjz
            rw [if_pos (by omega), Array.getElem?_toList, ← Array.getD_eq_getD_getElem?]
            exact hkid hrr i' j row x mc q1 q2 q3
          · rename_i hge'
            obtain ⟨u, hu1, hu2⟩ := hnews hrr (i' - rows.length) j row x mc q1 q2 q3
            have hi2 := (List.getElem?_eq_some_iff.1 q1).1
            have hk := mul_at (z := z) hi2 hjz
            have e1 : i' * z + j = rows.length * z + ((i' - rows.length) * z + j) := by
              have : i' = rows.length + (i' - rows.length) := by omega
              conv => lhs; rw [this, Nat.add_mul]
              omega
            rw [if_neg (by omega), if_pos (by omega)]
            have e2 : off + i' * z + j - (off + rows.length * z) = (i' - rows.length) * z + j := by omega
            rw [e2, hu1]
            exact hu2 _
      · have hl : ((arr.toList.drop off).take (rows.length * z)).length = rows.length * z := by
          have := Nat.mul_le_mul_right z k3
          simp; omega
        have hat : ∀ i j row x, rows[i]? = some row → row[j]? = some x → ((arr.toList.drop off).take (rows.length * z))[i * z + j]? = some (arr.getD (off + i * z + j) undef) := by
          intro i j row x q1 q2
          have hi' := (List.getElem?_eq_some_iff.1 q1).1
          have hj : j < z := by have := k7 row (List.mem_of_getElem? q1); have := (List.getElem?_eq_some_iff.1 q2).1; omega
          have := mul_at (z := z) hi' hj
          have h3 := Nat.mul_le_mul_right z k3
          rw [List.getElem?_take, if_pos this, List.getElem?_drop, Array.getElem?_toList, ← Nat.add_assoc, Array.getD_eq_getD_getElem?, Array.getElem?_eq_getElem (by omega)]
          rfl
        refine grow (some ⟨b, off, none⟩) cap ((arr.toList.drop off).take (rows.length * z)) rfl ?_ (by omega) hl k7 ?_
        · rw [hiz]
          refine run_firstCells_some w.drew z rows.length ⟨b, off, none⟩ rows.length cap _ hl ?_
          intro j u hj
          rw [List.getElem?_take] at hj
          split at hj
          · rw [List.getElem?_drop, Array.getElem?_toList] at hj
            rw [addr_add]
            have : w.drew.heap[b]? = some (.cells arr ty (0, 0)) := k2
            rw [cell_of this]
            exact hj
          · cases hj
        · intro w' N hrr i j row x mc q1 q2 q3
          exact ⟨_, hat i j row x q1 q2, hkid hrr i j row x mc q1 q2 q3⟩
  · obtain ⟨z', e1, e2⟩ := rep_emp hx
    cases e1
    exact nilcase rfl e2
end
end Go.Ev

/- append, out of its rule. -/
namespace Go.Ev
section
variable {V : Env} {A : Start} {w w' : World} {μ μ' : Mu} {φ : Fr} {C : Cx} {a : Act} {g : Nat → Value} {o : Oper} {x : X}

theorem slice_ty {t : Nat} {e : TE} (h : V.get t = some e) (hs : e.el.isSome = true) : ∃ et, V.P.underlying t = some (.slice et) := by
  obtain ⟨⟨et, z, y⟩, hel⟩ := Option.isSome_iff_exists.1 hs
  obtain ⟨d, hu, _, _, _, hsl, _⟩ := Env.desc h
  obtain ⟨rfl, _⟩ := hsl _ _ _ hel
  exact ⟨et, hu⟩

theorem string_ty {t : Nat} {e : TE} (h : V.get t = some e) (hk : e.kd = 2) : V.P.underlying t = some .string := by
  obtain ⟨d, hu, _, _, _, _, _, hd, _⟩ := Env.desc h
  rw [hd hk] at hu; exact hu

theorem s_append {c : Call} {y z : Operand} {t t' d : Nat} {cols : List M} (hrg : ∀ r ∈ A.rg, r.i ≠ d) (ho : o.op = .call c) (hb : c.callee = .builtin .append) (hargs : c.args.toList = [y, z]) (hta : c.argTypes.toList = [t, t']) (hd : o.dst = some d)
    (hd1 : d < 1000) (hsz : d < a.tmps.size) (h : St A w μ φ (tmO a.tmps g) C) (hy : sm1 y = true) (hz : sm1 z = true) (hx : appX V.τ t t' (opX V.τ φ t y) (opX V.τ φ t' z) = some x) (hm : appM V.τ μ t y z d cols = some μ') :
    OpOk V A w a g o (upd φ d x) μ' := by
  unfold appX at hx
  unfold appM at hm
  split at hx
  · rename_i e he
    split at hx
    · rename_i et zz by_ z1 rows o1 hel hopy
      split at hx
      · rename_i ee hee
        split at hx
        · rename_i hcond
          obtain ⟨rfl, hz0, hzl⟩ := hcond
          rw [he] at hm
          simp only at hm
          rw [hel] at hm
          simp only at hm
          rw [hee] at hm
          simp only at hm
          split at hm
          · rename_i m1 μ1 hgv
            split at hm
            · rename_i my og hopz
              split at hm
              · rename_i hc
                cases hm
                simp only [Bool.and_eq_true] at hc
                obtain ⟨⟨⟨hmr, hm1⟩, hle⟩, hcr⟩ := hc
                have hcl0 := h.clear hd1
                have hgd : ∀ t2, y = .tmp t2 → d ≠ t2 := by
                  rintro t2 rfl rfl
                  simp only [give, get_clear, hit_self, if_true] at hgv
                  cases hgv
                obtain ⟨vs, C1, hv1, hv2, hG⟩ := give_sound (T := fun _ => ⟨d, []⟩) (τ := V.τ) (ty := t) (ds := [.sl z1 rows]) hcl0 hy (tg_clear (T := fun _ => ⟨d, []⟩) (n := 1) h (fun _ => rfl) (by intro j k q q' hj hk hne; omega)) (fun _ t2 ht2 => hgd t2 ht2) hgv (by rw [hopy]; rfl)
                have hve := hv2 _ _ hopy
                subst hve
                have hrx := hG.rep 0 m1 _ _ rfl rfl rfl
                have hm1' : (∃ c1, m1 = .own c1 ∧ leSL (mapL (killF [d]) c1) cols = true) ∨ m1 = .emp := by
                  cases m1 with
                  | own c1 => exact .inl ⟨c1, rfl, hm1⟩
                  | emp => exact .inr rfl
                  | u => cases hm1
                  | view ps => cases hm1
                have hcl : ee.zero.length = cols.length := by have := leSL_len hle; simpa using this
                have hva : c.args.toList.map a.eval = [a.eval y, a.eval z] := by rw [hargs]; rfl
                have hno : my.noOwn = true := by have := opM_noOwn μ1 z; rw [hopz] at this; exact this
                have hzu : opX V.τ φ t' z ≠ .u := by
                  intro e1
                  rw [e1] at hx
                  cases hx
                have hcz := op_sound (s := 0) hG.st hz hzu
                rw [hopz] at hcz
                obtain ⟨dz, oz, ez, hrz, _⟩ := hcz
                rw [ez] at hx
                have core : ∀ (rows' : List (List D)) (news : List Value), Src V.P z1 t' (a.eval z) rows'.length news w → Cells w C1 my rows' z1 news → (∀ row ∈ rows', fits ee.zero row = true) → (rows.length + rows'.length) * by_ ≤ memRoom → rows.length + rows'.length ≤ strRoom →
                    x = .d (.sl z1 (rows ++ rows')) none → OpOk V A w a g o (upd φ d x) ((μ1.map (killF [d])).put d (.c (.own cols) .no)) := by
                  rintro rows' news h1 h2 h3 h4 h5 rfl
                  exact append_st hrg ho hb hta hva hd hd1 hsz hG.st he hel hee hz0 hzl hcl hrx hm1' hno hle h1 h2 h3 h4 h5
                split at hx
                · rename_i z2 rows' oz' eqz
                  cases eqz
                  split at hx
                  · rename_i hc2
                    obtain ⟨hty, rfl, hall, hr1, hr2⟩ := hc2
                    have hfit : ∀ row ∈ rows', fits ee.zero row = true := List.all_eq_true.1 hall
                    have hk : ∃ et', V.P.underlying t' = some (.slice et') := by
                      rw [Option.any_eq_true] at hty
                      obtain ⟨e', he', h1⟩ := hty
                      exact slice_ty (V := V) he' h1
                    obtain ⟨et', hk⟩ := hk
                    obtain ⟨news, h1, h2⟩ := src_rows (w := w) hk hno hmr (fun row hr => by have := fits_len (hfit row hr); omega) hz0 hrz
                    exact core rows' news h1 h2 hfit hr1 hr2 (Option.some.inj hx).symm
                  · cases hx
                · rename_i s oz' eqz
                  cases eqz
                  split at hx
                  · rename_i hc2
                    obtain ⟨hty, hz8, hr1, hr2⟩ := hc2
                    have hz1e : z1 = 1 := by rw [← hzl, hz8]; rfl
                    subst hz1e
                    have hk : V.P.underlying t' = some .string := by
                      rw [Option.any_eq_true] at hty
                      obtain ⟨e', he', h1⟩ := hty
                      exact string_ty (V := V) he' (by simpa using h1)
                    have hzv := rep_val hrz hmr
                    have hview : my = .view [] ∨ ∃ ps, my = .view ps := by
                      cases my with
                      | u => cases hmr
                      | emp => obtain ⟨_, e1, _⟩ := rep_emp hrz; cases e1
                      | own cs => cases hno
                      | view ps => exact .inr ⟨ps, rfl⟩
                    obtain ⟨h1, h2⟩ := src_str (V := V) (w := w) (C := C1) (s := s) hk hmr hview
                    have hsl : (strRows s).length = s.size := by simp [strRows]
                    refine core (strRows s) (byteCells s) (by rw [hzv, hsl]; exact h1) h2 ?_ (by rw [hsl]; exact hr1) (by rw [hsl]; exact hr2) (Option.some.inj hx).symm
                    intro row hrow
                    simp only [strRows, List.mem_map] at hrow
                    obtain ⟨b, _, rfl⟩ := hrow
                    rw [hz8]
                    simp [fits, ZC.fit]
                  · cases hx
                · cases hx
              · cases hm
            · cases hm
          · cases hm
        · cases hx
      · cases hx
    · cases hx
  · cases hx
end
end Go.Ev

/- A slot is given up; new blocks are owned, or frozen. -/
namespace Go.Ev

def Cx.dropG (C : Cx) (t : Nat) (n : Nat) (N : Nat → Option Ow) (NG : Nat → Prop) : Cx where
  own b := (C.drop t n N).own b
  G b := (C.drop t n N).G b ∨ NG b
  PA := C.PA

section
variable {A : Start} {w w' : World} {μ : Mu} {φ : Fr} {tm : Nat → Value} {C : Cx}

theorem dropG_own {t n : Nat} {N : Nat → Option Ow} {NG : Nat → Prop} {b : Nat} {o : Ow} (h : C.own b = some o) (hb : b < n) (ht : hit t o.p.s = false) : (C.dropG t n N NG).own b = some o := Cx.drop_own h hb ht
theorem dropG_inv {t n : Nat} {N : Nat → Option Ow} {NG : Nat → Prop} {b : Nat} {o : Ow} (h : (C.dropG t n N NG).own b = some o) : (n ≤ b ∧ N b = some o) ∨ (b < n ∧ C.own b = some o ∧ hit t o.p.s = false) := Cx.drop_inv h
theorem dropG_ok (h : St A w μ φ tm C) {t : Nat} {N : Nat → Option Ow} {NG : Nat → Prop} {ps : List Pv} {b : Nat} (hb : okB C ps b) : okB (C.dropG t w.heap.size N NG) ps b := by
  rcases Cx.drop_ok (N := N) (t := t) h hb with h1 | ⟨p, hp, h1⟩
  · exact .inl (.inl h1)
  · cases p with
    | arg i => exact .inr ⟨_, hp, h1⟩
    | lab l => exact .inr ⟨_, hp, h1⟩

theorem St.putGG (h : St A w μ φ tm C) {t : Nat} (ht : t < 1000) (he : Ext w w') (N : Nat → Option Ow) (NG : Nat → Prop)
    (hN : ∀ b o, w.heap.size ≤ b → N b = some o → b < w'.heap.size)
    (hNG : ∀ b, NG b → w.heap.size ≤ b ∧ b < w'.heap.size ∧ N b = none)
    (hNt : ∀ b o, w.heap.size ≤ b → N b = some o → hit t o.p.s = true)
    (hNi : ∀ b b' o o', w.heap.size ≤ b → w.heap.size ≤ b' → N b = some o → N b' = some o' → o.p = o'.p → b = b') (hNk : OwnOk w' N)
    {μ' : Mu} {φ' : Fr} {tm' : Nat → Value} (hφ : ∀ s, hit t s = false → φ' s = φ s) (htm : ∀ s, hit t s = false → tm' s = tm s)
    (hμ : ∀ s, hit t s = false → μ'.get s = (μ.get s).dropS t)
    (hc : ∀ s, hit t s = true → φ' s = .u ∨ Claim w' (C.dropG t w.heap.size N NG) φ' tm' s (μ'.get s)) :
    St A w' μ' φ' tm' (C.dropG t w.heap.size N NG) := by
  have hsame : ∀ b, b < w.heap.size → w'.heap[b]? = w.heap[b]? := he.same
  refine ⟨?_, ?_, ?_, ?_, ?_, ?_, ?_, Nat.le_trans h.size he.size, h.calm.trans he.calm, ?_, ?_⟩
  rotate_right
  · intro b o h1
    rcases dropG_inv h1 with ⟨l1, n1⟩ | ⟨l1, n1, g1⟩
    · exact hNk b o n1
    · rw [hsame b l1]; exact h.oko b o n1
  · intro s
    cases hs : hit t s with
    | true => exact hc s hs
    | false =>
      rw [hφ s hs, hμ s hs]
      rcases h.slot s with h1 | h1
      · exact .inl h1
      · right
        have h2 := h1.dropS (t := t)
        have h3 := h2.keep (w' := w') (C' := C.dropG t w.heap.size N NG) (φ' := φ') (tm' := tm') idF (hφ s hs) (htm s hs) ?_ ?_ ?_ ?_ ?_
        · rwa [smap_id] at h3
        · intro b q off c z hb
          have hlt := (h.own b _ hb).1
          exact ⟨dropG_own hb hlt hs, hsame b hlt⟩
        · intro ps ps' hf b hb
          cases hf
          exact ⟨dropG_ok h hb, hsame b (h.ok_lt hb)⟩
        · intro i b hb
          exact ⟨hb, hsame b (Nat.lt_of_lt_of_le (h.pa i b hb).1 h.size)⟩
        · intro b hb
          exact ⟨.inl (.inl hb), hsame b (h.frz b hb).1⟩
        · refine refKeep_dropS idF _ hφ htm (fun b o hb hh => dropG_own hb (h.own b o hb).1 hh) ?_
          intro b n e i hi hb
          rw [e] at h1
          exact cix_hit h1.2.1 hi ht hb
  · intro b b' o o' h1 h2 e
    rcases dropG_inv h1 with ⟨l1, n1⟩ | ⟨l1, n1, g1⟩ <;> rcases dropG_inv h2 with ⟨l2, n2⟩ | ⟨l2, n2, g2⟩
    · exact hNi b b' o o' l1 l2 n1 n2 e
    · rw [← e, hNt b o l1 n1] at g2; cases g2
    · rw [e, hNt b' o' l2 n2] at g1; cases g1
    · exact h.inj b b' o o' n1 n2 e
  · intro b o h1
    rcases dropG_inv h1 with ⟨l1, n1⟩ | ⟨l1, n1, g1⟩
    · refine ⟨hN b o l1 n1, ?_, ?_, .inr (Nat.le_trans h.size l1)⟩
      · rintro ((hg | ⟨o', ho', _⟩) | hg)
        · have := (h.frz b hg).1; omega
        · have := (h.own b o' ho').1; omega
        · rw [(hNG b hg).2.2] at n1; cases n1
      · intro i hp
        have := (h.pa i b hp).1
        have := h.size
        omega
    · obtain ⟨q1, q2, q3, q4⟩ := h.own b o n1
      refine ⟨Nat.lt_of_lt_of_le q1 he.size, ?_, q3, q4⟩
      rintro ((hg | ⟨o', ho', hh⟩) | hg)
      · exact q2 hg
      · rw [n1] at ho'; cases ho'; rw [hh] at g1; cases g1
      · have := (hNG b hg).1; omega
  · rintro b ((hg | ⟨o, ho, hh⟩) | hg)
    · exact ⟨Nat.lt_of_lt_of_le (h.frz b hg).1 he.size, (h.frz b hg).2⟩
    · obtain ⟨q1, q2, q3, q4⟩ := h.own b o ho
      exact ⟨Nat.lt_of_lt_of_le q1 he.size, .inr q4⟩
    · have := hNG b hg
      exact ⟨this.2.1, .inr (.inr (Nat.le_trans h.size this.1))⟩
  · intro b hb
    exact ⟨.inl (.inl (h.ag b hb).1), (h.ag b hb).2⟩
  · exact h.pa
  · intro b hb hn
    rw [hsame b (Nat.lt_of_lt_of_le hb h.size)]
    exact h.old b hb hn
  · intro r hr
    obtain ⟨h1, h2⟩ := h.rng r hr
    refine ⟨h1.ext (hsame r.b h1.lt), fun o ho => ?_⟩
    rcases dropG_inv ho with ⟨l1, n1⟩ | ⟨l1, n1, g1⟩
    · have := h1.lt; omega
    · obtain ⟨e, ds, q1, q2⟩ := h2 o n1
      refine ⟨e, ds, ?_, q2⟩
      rw [e] at g1
      rw [hφ r.i g1]; exact q1
end
end Go.Ev

/- What a function does: its contract; its arguments at a call. -/
namespace Go.Ev

/-- An argument that is read: by its type, out of these blocks. -/
def ArgOk (V : Env) (w : World) (ok : Nat → Prop) (ty : Nat) (x : X) (v : Value) : Prop :=
  ∃ e, V.get ty = some e ∧ ((e.agg = false ∧ ∃ d, x = .d d none ∧ fits e.zero [d] = true ∧ Rd w ok d v) ∨
    (e.agg = true ∧ ∃ ds vs, x = .agg ds none ∧ v = .agg vs ∧ vs.size = ds.length ∧ fits e.zero ds = true ∧ ∀ (j : Nat) (d : D), ds[j]? = some d → Rd w ok d (vs.getD j undef)))

def PM.okOf (pm : PM) (G PAi : Nat → Prop) (b : Nat) : Prop := match pm with
  | .rd => G b ∨ PAi b
  | _ => G b

/-- An argument, by how it is handed on. -/
def ArgP (V : Env) (w : World) (G PAi : Nat → Prop) (pm : PM) (ty : Nat) (x : X) (v : Value) : Prop := match pm with
  | .rptr n => ∃ ds, x = .box ds ∧ ds.length = n ∧ ReadAt w (fun b => G b ∨ PAi b) v ds
  | .fn fs => ∃ f caps vs, x = .fv f caps ∧ f ∈ fs ∧ v = .func (.func f) #[] vs ∧ vs.size = caps.length ∧ ∀ (j : Nat) (ds : List D), caps[j]? = some ds → ReadAt w (fun b => G b ∨ PAi b) (vs.getD j undef) ds
  | pm => ArgOk V w (pm.okOf G PAi) ty x v

/-- What a call has left. -/
structure Done (w w' : World) (G : Nat → Prop) (PA : Nat → Nat → Prop) (sg : Sig) (rs : List X) (vs : List Value) (C' : Cx) : Prop where
  ext : Ext w w'
  own : ∀ b o, C'.own b = some o → w.heap.size ≤ b ∧ b < w'.heap.size ∧ ¬ C'.G b ∧ o.p.s < rs.length
  inj : ∀ b b' o o', C'.own b = some o → C'.own b' = some o' → o.p = o'.p → b = b'
  frz : ∀ b, C'.G b → G b ∨ (w.heap.size ≤ b ∧ b < w'.heap.size)
  keep : ∀ b, G b → C'.G b
  pa : C'.PA = PA
  oko : OwnOk w' C'.own
  len : vs.length = rs.length
  lenr : sg.res.length = rs.length
  res : ∀ (k : Nat) (r : X) (v : Value) (sm : SM), rs[k]? = some r → vs[k]? = some v → sg.res[k]? = some sm → ClaimX w' C' (fun _ => .u) (fun _ => undef) k r v sm

def packV : List Value → Value
  | [v] => v
  | vs => .tuple vs.toArray

/-- What such a call has left: what the first argument owns may be changed. -/
structure DoneM (w w' : World) (N0 : Nat → Option Ow) (G : Nat → Prop) (PA : Nat → Nat → Prop) (m : M) (v : Value) (d' : D) (r : X) (vr : Value) (C' : Cx) : Prop where
  size : w.heap.size ≤ w'.heap.size
  same : ∀ b, b < w.heap.size → N0 b = none → w'.heap[b]? = w.heap[b]?
  calm : Calm w w'
  own : ∀ b o, C'.own b = some o → (N0 b ≠ none ∨ w.heap.size ≤ b) ∧ b < w'.heap.size ∧ ¬ C'.G b ∧ o.p.s = 0
  inj : ∀ b b' o o', C'.own b = some o → C'.own b' = some o' → o.p = o'.p → b = b'
  frz : ∀ b, C'.G b → G b ∨ ((N0 b ≠ none ∨ w.heap.size ≤ b) ∧ b < w'.heap.size)
  keep : ∀ b, G b → C'.G b
  oko : OwnOk w' C'.own
  res : ClaimX w' C' (fun _ => .u) (fun _ => undef) 1 r vr (.c (.view []) .no)
  out : Rep w' C' ⟨0, []⟩ m d' v

/-- What a call has left that wrote what its first argument points to, or owns. -/
structure DoneP (w w' : World) (N0 : Nat → Option Ow) (G : Nat → Prop) (PA : Nat → Nat → Prop) (res : List SM) (smo : SM) (n : Nat) (v : Value) (xo : X) (rs : List X) (vs : List Value) (C' : Cx) : Prop where
  size : w.heap.size ≤ w'.heap.size
  same : ∀ b, b < w.heap.size → N0 b = none → w'.heap[b]? = w.heap[b]?
  calm : Calm w w'
  range : ∀ b off, v = .pointer (some ⟨b, off, none⟩) → RangeSame w w' b off n
  own : ∀ b o, C'.own b = some o → (N0 b ≠ none ∨ w.heap.size ≤ b) ∧ b < w'.heap.size ∧ ¬ C'.G b ∧ o.p.s ≤ rs.length
  inj : ∀ b b' o o', C'.own b = some o → C'.own b' = some o' → o.p = o'.p → b = b'
  frz : ∀ b, C'.G b → G b ∨ ((N0 b ≠ none ∨ w.heap.size ≤ b) ∧ b < w'.heap.size)
  keep : ∀ b, G b → C'.G b
  pa : C'.PA = PA
  oko : OwnOk w' C'.own
  len : vs.length = rs.length
  lenr : res.length = rs.length
  res : ∀ (k : Nat) (r : X) (v : Value) (sm : SM), rs[k]? = some r → vs[k]? = some v → res[k]? = some sm → ClaimX w' C' (fun _ => .u) (fun _ => undef) (k + 1) r v sm
  out : ClaimX w' C' (fun _ => .u) (fun _ => undef) 0 xo v smo

/-- What lies in the world from the start on, and stays. -/
def TabOk (T : List (Nat × Array Value)) (w : World) (G : Nat → Prop) : Prop := ∀ q ∈ T, G q.1 ∧ ∃ t fz, w.heap[q.1]? = some (.cells q.2 t fz)

def DoesPR (R : World → (Nat → Prop) → Prop) (V : Env) (f : Nat) (sg : Sig) (smi smo : SM) (n : Nat) (F : List X → Option (List X × List X)) : Prop :=
  ∀ (w : World) (N0 : Nat → Option Ow) (G : Nat → Prop) (PA : Nat → Nat → Prop) (vals : List Value) (xs : List X), R w G → vals.length = sg.pms.length → xs.length = sg.pms.length → (∀ b, G b → b < w.heap.size) → (∀ i b, PA i b → b < w.heap.size) →
    (∀ b o, N0 b = some o → b < w.heap.size ∧ ¬ G b ∧ (∀ i, ¬ PA i b) ∧ o.p.s = 0) → (∀ b b' o o', N0 b = some o → N0 b' = some o' → o.p = o'.p → b = b') → OwnOk w N0 →
    (∀ (i : Nat) (x : X) (v : Value) (pm : PM) (ty : Nat), xs[i + 1]? = some x → vals[i + 1]? = some v → sg.pms[i + 1]? = some pm → sg.tys[i + 1]? = some ty → ArgP V w G (PA (i + 1)) pm ty x v) →
    ∀ x v, xs[0]? = some x → vals[0]? = some v → ClaimX w ⟨N0, G, PA⟩ (fun _ => .u) (fun _ => undef) 0 x v smi →
    ∀ rs outs, F xs = some (rs, outs) → Calls V.P f vals.toArray w fun e w' => ∃ vs xo C', outs.head? = some xo ∧ e = .returned (packV vs) ∧ DoneP w w' N0 G PA sg.res smo n v xo rs vs C'

def DoesMR (R : World → (Nat → Prop) → Prop) (V : Env) (f : Nat) (sg : Sig) (m : M) (F : List X → Option (List X × List X)) : Prop :=
  ∀ (w : World) (N0 : Nat → Option Ow) (G : Nat → Prop) (PA : Nat → Nat → Prop) (vals : List Value) (xs : List X), R w G → vals.length = sg.pms.length → xs.length = sg.pms.length → (∀ b, G b → b < w.heap.size) → (∀ i b, PA i b → b < w.heap.size) →
    (∀ b o, N0 b = some o → b < w.heap.size ∧ ¬ G b ∧ (∀ i, ¬ PA i b) ∧ o.p.s = 0) → (∀ b b' o o', N0 b = some o → N0 b' = some o' → o.p = o'.p → b = b') → OwnOk w N0 →
    (∀ (i : Nat) (x : X) (v : Value) (pm : PM) (ty : Nat), xs[i + 1]? = some x → vals[i + 1]? = some v → sg.pms[i + 1]? = some pm → sg.tys[i + 1]? = some ty → ArgP V w G (PA (i + 1)) pm ty x v) →
    ∀ d v, xs[0]? = some (.d d none) → vals[0]? = some v → Rep w ⟨N0, G, PA⟩ ⟨0, []⟩ m d v →
    ∀ rs outs, F xs = some (rs, outs) → Calls V.P f vals.toArray w fun e w' => ∃ r vr d' C', rs = [r] ∧ outs.head? = some (.d d' none) ∧ e = .returned (packV [vr]) ∧ DoneM w w' N0 G PA m v d' r vr C'

def DoesR (R : World → (Nat → Prop) → Prop) (V : Env) (f : Nat) (sg : Sig) (F : List X → Option (List X × List X)) : Prop :=
  (∃ fn b, V.P.funcs[f]? = some fn ∧ fn.body = some b ∧ fn.name ≠ "runtime.NumGoroutine") ∧
  (sg.pms.all quietB = true → ∀ (w : World) (G : Nat → Prop) (PA : Nat → Nat → Prop) (vals : List Value) (xs : List X), R w G → vals.length = sg.pms.length → xs.length = sg.pms.length → (∀ b, G b → b < w.heap.size) → (∀ i b, PA i b → b < w.heap.size) →
    (∀ (i : Nat) (x : X) (v : Value) (pm : PM) (ty : Nat), xs[i]? = some x → vals[i]? = some v → sg.pms[i]? = some pm → sg.tys[i]? = some ty → ArgP V w G (PA i) pm ty x v) →
    ∀ rs outs, F xs = some (rs, outs) → Calls V.P f vals.toArray w fun e w' => ∃ vs C', e = .returned (packV vs) ∧ Done w w' G PA sg rs vs C') ∧
  (∀ m, mutOk sg = some m → DoesMR R V f sg m F) ∧
  ∀ smi smo n, ioOk sg = some (smi, smo, n) → DoesPR R V f sg smi smo n F

abbrev DoesP (V : Env) := DoesPR (TabOk V.tabs) V
abbrev DoesM (V : Env) := DoesMR (TabOk V.tabs) V
abbrev Does (V : Env) := DoesR (TabOk V.tabs) V

theorem DoesR.mono {R R' : World → (Nat → Prop) → Prop} {V : Env} {f : Nat} {sg : Sig} {F : List X → Option (List X × List X)} (h : DoesR R V f sg F) (hr : ∀ w G, R' w G → R w G) : DoesR R' V f sg F :=
  ⟨h.1, fun hq w G PA vals xs hR => h.2.1 hq w G PA vals xs (hr w G hR), fun m hm w N0 G PA vals xs hR => h.2.2.1 m hm w N0 G PA vals xs (hr w G hR), fun smi smo n hi w N0 G PA vals xs hR => h.2.2.2 smi smo n hi w N0 G PA vals xs (hr w G hR)⟩

/-- A world behind the start. -/
def Abv (A : Start) (w : World) (G : Nat → Prop) : Prop := ∀ b, A.G b → G b ∧ w.heap[b]? = A.w.heap[b]?

theorem St.abv {A : Start} {w : World} {μ : Mu} {φ : Fr} {tm : Nat → Value} {C : Cx} (h : St A w μ φ tm C) : Abv A w C.G := fun b hb => ⟨(h.ag b hb).1, h.old b (h.ag b hb).2.1 (h.ag b hb).2.2⟩

theorem tab_abv {T : List (Nat × Array Value)} {A : Start} {w : World} {G : Nat → Prop} (hT : TabOk T A.w A.G) (h : Abv A w G) : TabOk T w G := fun q hq => ⟨(h q.1 (hT q hq).1).1, by obtain ⟨t, fz, e⟩ := (hT q hq).2; exact ⟨t, fz, (h q.1 (hT q hq).1).2.trans e⟩⟩

section
variable {V : Env} {A : Start} {w w' : World} {μ μ' : Mu} {φ : Fr} {C : Cx} {a : Act} {g : Nat → Value} {o : Oper} {x : X}

theorem rep_rd {p : Pl} {m : M} {d : D} {v : Value} {ps : List Pv} (h : Rep w C p m d v) (hn : m.noOwn = true) (hp : m.prov = some ps) : Rd w (okB C ps) d v := by
  cases h with
  | u => cases hp
  | emp => exact .nil
  | view h => simp only [M.prov, Option.some.injEq] at hp; subst hp; exact h
  | nil => cases hn
  | own h1 => cases hn

theorem rd_flat {ok : Nat → Prop} {p : Pl} {zc : ZC} {m : M} {d : D} {v : Value} (h : Rep w C p m d v) (hm : m.readable = true) (hf : zc.flat = true) (hz : zc.fit d = true) : Rd w ok d v := by
  obtain ⟨x, rfl, hx⟩ := fit_flat hz hf
  rw [rep_val h hm]
  exact .v hx

/-- One argument. -/
theorem argQ0_sound {pm : PM} {y : Operand} {ty : Nat} {ps : List Pv} (h : St A w μ φ (tmO a.tmps g) C) (hs : sm1 y = true) (hx : argX V.τ φ pm.pk y ty = some x) (hm : argQ0 V.τ μ pm y ty = some ps) :
    ArgOk V w (pm.okOf C.G (okB C ps)) ty x (a.eval y) := by
  unfold argQ0 at hm
  split at hm
  · rename_i e he
    split at hm
    · rename_i hr
      have hpk : pm.pk = .val ∧ ((pm = .rd ∧ ((e.zero.all ZC.flat = true ∧ ps = []) ∨ prov0 (opM μ y) = some ps)) ∨ (pm = .frz ∧ ps = [] ∧ prov0 (opM μ y) = some [])) := by
        cases pm with
        | rd =>
          simp only at hm
          split at hm
          · rename_i hf; cases hm; exact ⟨rfl, .inl ⟨rfl, .inl ⟨hf, rfl⟩⟩⟩
          · exact ⟨rfl, .inl ⟨rfl, .inr hm⟩⟩
        | frz =>
          simp only at hm
          split at hm
          · rename_i hq; cases hm; exact ⟨rfl, .inr ⟨rfl, rfl, hq⟩⟩
          · cases hm
        | _ => cases hm
      obtain ⟨hpk, hcase⟩ := hpk
      rw [hpk] at hx
      simp only [argX] at hx
      have hno := opM_noOwn μ y
      -- out of the blocks told
      have one : ∀ (m : M) (zc : ZC) (d : D) (v : Value) (p : Pl), Rep w C p m d v → m.noOwn = true → m.readable = true → zc ∈ e.zero → zc.fit d = true → (∀ qs, prov0 (opM μ y) = some qs → ∃ rs, m.prov = some rs ∧ ∀ q ∈ rs, q ∈ qs) → Rd w (pm.okOf C.G (okB C ps)) d v := by
        intro m zc d v p hrep hn hmr hzc hfit hprov
        rcases hcase with ⟨rfl, ⟨hf, rfl⟩ | hq⟩ | ⟨rfl, rfl, hq⟩
        · exact rd_flat hrep hmr (List.all_eq_true.1 hf zc hzc) hfit
        · obtain ⟨rs, h1, h2⟩ := hprov ps hq
          exact (rep_rd hrep hn h1).mono fun b hb => ⟨.inr (okB_mono h2 hb), rfl⟩
        · obtain ⟨rs, h1, h2⟩ := hprov [] hq
          refine (rep_rd hrep hn h1).mono fun b hb => ⟨?_, rfl⟩
          rcases okB_mono h2 hb with h3 | ⟨q, hq', _⟩
          · exact h3
          · simp at hq'
      split at hx
      · rename_i d og hop
        rw [he] at hx
        simp only at hx
        split at hx
        · rename_i hc
          cases hx
          simp only [Bool.and_eq_true, Bool.not_eq_true'] at hc
          have hcl := op_sound (τ := V.τ) (ty := ty) (s := 0) h hs (by rw [hop]; simp)
          rw [hop] at hcl
          refine ⟨e, he, .inl ⟨hc.1, d, rfl, hc.2, ?_⟩⟩
          have hzl := fits_len hc.2
          obtain ⟨zc, hz⟩ : ∃ zc, e.zero = [zc] := by
            match hq : e.zero, hzl with
            | [zc], _ => exact ⟨zc, rfl⟩
          have hfz : zc.fit d = true := fits_at hc.2 (j := 0) (by rw [hz]; rfl) rfl
          generalize opM μ y = sm at *
          cases sm with
          | c m o' =>
            obtain ⟨d', o2, e1, e2, _⟩ := hcl
            cases e1
            exact one m zc d _ _ e2 hno hr (by rw [hz]; simp) hfz (fun qs hq => ⟨qs, hq, fun q h => h⟩)
          | agg ms o' => obtain ⟨_, _, _, e1, _⟩ := hcl; cases e1
          | _ => cases hr
        · cases hx
      · rename_i ds og hop
        rw [he] at hx
        simp only at hx
        split at hx
        · rename_i hc
          cases hx
          simp only [Bool.and_eq_true] at hc
          have hcl := op_sound (τ := V.τ) (ty := ty) (s := 0) h hs (by rw [hop]; simp)
          rw [hop] at hcl
          generalize opM μ y = sm at *
          cases sm with
          | agg ms o' =>
            obtain ⟨ds', o2, vs, e1, e2, e3, e4, e5, _⟩ := hcl
            cases e1
            refine ⟨e, he, .inr ⟨hc.1, ds, vs, rfl, e2, e3, hc.2, ?_⟩⟩
            intro j d hj
            have hjl := (List.getElem?_eq_some_iff.1 hj).1
            have hzl := fits_len hc.2
            have hz : e.zero[j]? = some e.zero[j] := List.getElem?_eq_getElem (by omega)
            have hmj : ms[j]? = some ms[j] := List.getElem?_eq_getElem (by omega)
            have hnj : (ms[j]).noOwn = true := by simp only [SM.noOwn, List.all_eq_true] at hno; exact hno _ (List.mem_of_getElem? hmj)
            have hrj : (ms[j]).readable = true := by simp only [SM.readable, List.all_eq_true] at hr; exact hr _ (List.mem_of_getElem? hmj)
            exact one ms[j] e.zero[j] d _ _ (e5 0 j ds d _ rfl hj hmj) hnj hrj (List.mem_of_getElem? hz) (fits_at hc.2 hz hj) (fun qs hq => provL_mem hq hmj)
          | c m o' => obtain ⟨_, _, e1, _⟩ := hcl; cases e1
          | _ => cases hr
        · cases hx
      · rename_i f caps hop
        exfalso
        have hcl := op_sound (τ := V.τ) (ty := ty) (s := 0) h hs (by rw [hop]; simp)
        rw [hop] at hcl
        generalize opM μ y = sm at *
        cases sm with
        | c m o' => obtain ⟨_, _, e1, _⟩ := hcl; cases e1
        | agg ms o' => obtain ⟨_, _, _, e1, _⟩ := hcl; cases e1
        | _ => cases hr
      · rename_i f caps hop
        exfalso
        have hcl := op_sound (τ := V.τ) (ty := ty) (s := 0) h hs (by rw [hop]; simp)
        rw [hop] at hcl
        generalize opM μ y = sm at *
        cases sm with
        | c m o' => obtain ⟨_, _, e1, _⟩ := hcl; cases e1
        | agg ms o' => obtain ⟨_, _, _, e1, _⟩ := hcl; cases e1
        | _ => cases hr
      · cases hx
    · cases hm
  · cases hm

/-- A whole box is read. -/
theorem box_read {s : Nat} {ms : List M} {ds : List D} {p : List Pv} (h : St A w μ φ (tmO a.tmps g) C) (hb : φ s = .box ds) (hm : μ.get s = .box ms) (hp : provL ms = some p) : ReadAt w (okB C (.lab [s] :: p)) (tmO a.tmps g s) ds := by
  have hcl := (h.slot s).resolve_left (by rw [hb]; simp)
  unfold Claim at hcl
  rw [hb, hm] at hcl
  obtain ⟨ds', b, off, arr, e1, e2, e3⟩ := hcl
  cases e1
  obtain ⟨ty, hty⟩ := e3.heap
  have hlab : (⟨s, []⟩ : Pl).lab = [s] := rfl
  refine ⟨b, off, arr, ty, (0, 0), e2, hty, .inr ⟨.lab [s], by simp, ⟨_, e3.own, by rw [hlab]; exact List.prefix_refl _⟩⟩, by have := e3.size 0 ds rfl; omega, ?_⟩
  intro j d hj
  have hjl := (List.getElem?_eq_some_iff.1 hj).1
  have hlen := e3.len 0 ds rfl
  have hmj : ms[j]? = some ms[j] := List.getElem?_eq_getElem (by omega)
  obtain ⟨qs, hq1, hq2⟩ := provL_mem hp hmj
  have := (e3.kids 0 j ds d _ rfl hj hmj).read [s] qs (by rw [Pl.lab_cell, hlab]; exact List.prefix_append _ _) hq1
  simp only [Nat.zero_mul, Nat.add_zero] at this
  exact this.mono fun b' hb' => ⟨okB_mono (by intro q hq; simp only [List.mem_cons] at hq ⊢; exact hq.imp id (hq2 q)) hb', rfl⟩

theorem argQp_sound {n ty : Nat} {y : Operand} {ps : List Pv} (h : St A w μ φ (tmO a.tmps g) C) (hs : sm1 y = true) (hx : argX V.τ φ (.rptr n) y ty = some x) (hm : argQp μ n y = some ps) : ∃ ds, x = .box ds ∧ ds.length = n ∧ ReadAt w (okB C ps) (a.eval y) ds := by
  simp only [argX] at hx
  split at hx
  · rename_i p hp
    rw [Option.map_eq_some_iff] at hx
    obtain ⟨ds, hc, rfl⟩ := hx
    have hpt := pt_sound h hs hp
    have hdl : ds.length = n := by
      unfold cellsAt at hc
      split at hc
      · rename_i rows hr
        have key : ∀ (st : List (Nat × Nat)) (rows : List (List D)), cellsIn rows st n = some ds → ds.length = n := by
          intro st
          induction st with
          | nil => intro rows h; simp [cellsIn] at h
          | cons q st ih =>
            obtain ⟨i, c⟩ := q
            intro rows h
            cases st with
            | nil =>
              simp only [cellsIn] at h
              split at h
              · split at h
                · rename_i hl
                  cases h
                  simp; omega
                · cases h
              · cases h
            | cons q2 st =>
              simp only [cellsIn] at h
              split at h
              · split at h
                · exact ih _ h
                · cases h
              · cases h
        exact key _ _ hc
      · cases hc
    refine ⟨ds, rfl, hdl, ?_⟩
    unfold argQp at hm
    split at hm
    · rename_i s k hop
      rw [hop] at hpt
      obtain ⟨p', e1, e2, e3, st, i, c, b, off, cap, z, g1, g2, g3⟩ := hpt 0
      cases e1
      subst e2
      have hst : st = [] ∧ c = k := by
        rw [g1] at e3
        cases st with
        | nil => simp at e3; exact ⟨rfl, e3⟩
        | cons q r => simp at e3
      obtain ⟨rfl, rfl⟩ := hst
      split at hm
      · rename_i ms hms
        split at hm
        · rename_i hkn
          rw [Option.map_eq_some_iff] at hm
          obtain ⟨pp, hpp, rfl⟩ := hm
          have hsl := h.slot p.s
          rcases hsl with hu | hcl
          · unfold cellsAt at hc
            rw [hu] at hc
            simp [rowsX] at hc
          · unfold Claim at hcl
            rw [hms] at hcl
            obtain ⟨ds0, b', off', arr, q1, q2, q3⟩ := hcl
            obtain ⟨tyb, htyb⟩ := q3.heap
            have hbb := h.inj _ _ _ _ g2 q3.own rfl
            subst hbb
            have ho := q3.own.symm.trans g2
            simp only [Option.some.injEq, Ow.mk.injEq] at ho
            obtain ⟨_, rfl, rfl, rfl⟩ := ho
            unfold cellsAt at hc
            rw [q1, g1] at hc
            simp only [rowsX, List.nil_append, cellsIn] at hc
            split at hc
            · rename_i row hrow
              have hi : i = 0 ∧ row = ds0 := by
                cases i with
                | zero => simp at hrow; exact ⟨rfl, hrow.symm⟩
                | succ i => simp at hrow
              obtain ⟨rfl, rfl⟩ := hi
              split at hc
              · rename_i hroom
                cases hc
                have hsize := q3.size 0 row rfl
                have hlen := q3.len 0 row rfl
                have hlab : (⟨p.s, []⟩ : Pl).lab = [p.s] := rfl
                refine ⟨b, off' + c, arr, tyb, (0, 0), by rw [g3]; simp, htyb, .inr ⟨.lab [p.s], by simp, ⟨_, q3.own, by rw [hlab]; exact List.prefix_refl _⟩⟩, by rw [hdl]; omega, ?_⟩
                intro j d hj
                rw [List.getElem?_take] at hj
                split at hj
                · rename_i hjn
                  rw [List.getElem?_drop] at hj
                  have hmj : ms[c + j]? = some ms[c + j] := List.getElem?_eq_getElem (by omega)
                  have hmj' : ((ms.drop c).take n)[j]? = some ms[c + j] := by
                    rw [List.getElem?_take, if_pos hjn, List.getElem?_drop, hmj]
                  obtain ⟨qs, hq1, hq2⟩ := provL_mem hpp hmj'
                  have := (q3.kids 0 (c + j) row d _ rfl hj hmj).read [p.s] qs (by rw [Pl.lab_cell, hlab]; exact List.prefix_append _ _) hq1
                  simp only [Nat.zero_mul, Nat.add_zero] at this
                  rw [show off' + c + j = off' + (c + j) by omega]
                  exact this.mono fun b' hb' => ⟨okB_mono (by intro q hq; simp only [List.mem_cons] at hq ⊢; exact hq.imp id (hq2 q)) hb', rfl⟩
                · cases hj
              · cases hc
            · cases hc
        · cases hm
      · cases hm
    · rename_i ps' s hop
      split at hm
      · rename_i hn
        cases hm
        rw [hop] at hpt
        obtain ⟨p', e1, e2, e0, e9, e3⟩ := hpt 0
        cases e1
        exact e3 n ds hc hn
      · cases hm
    · cases hm
  · cases hx

theorem capsQ_sound (h : St A w μ φ (tmO a.tmps g) C) : ∀ {caps : List Nat} {cs : List (List D)} {ps : List Pv}, capsX φ caps = some cs → capsQ μ caps = some ps → cs.length = caps.length ∧ ∀ (j c : Nat) (ds : List D), caps[j]? = some c → cs[j]? = some ds → ReadAt w (okB C ps) (tmO a.tmps g c) ds
  | [], cs, ps, h1, h2 => by
    simp only [capsX, Option.some.injEq] at h1
    subst h1
    exact ⟨rfl, by simp⟩
  | c :: caps, cs, ps, h1, h2 => by
    simp only [capsX] at h1
    split at h1
    · rename_i ds r hb hr
      cases h1
      simp only [capsQ] at h2
      split at h2
      · rename_i ms q hms hq
        split at h2
        · rename_i p hp
          cases h2
          obtain ⟨l1, ih⟩ := capsQ_sound h hr hq
          refine ⟨by simp [l1], ?_⟩
          intro j c' ds' k1 k2
          cases j with
          | zero =>
            simp only [List.getElem?_cons_zero, Option.some.injEq] at k1 k2
            subst k1; subst k2
            exact (box_read h hb hms hp).mono fun b hb => ⟨okB_mono (by intro q' hq'; simp only [List.mem_cons, List.mem_append, List.cons_append] at hq' ⊢; rcases hq' with h | h; exact .inl h; exact .inr (.inl h)) hb, rfl⟩
          | succ j =>
            simp only [List.getElem?_cons_succ] at k1 k2
            exact (ih j c' ds' k1 k2).mono fun b hb => ⟨okB_mono (by intro q' hq'; simp only [List.mem_cons, List.mem_append, List.cons_append]; exact .inr (.inr hq')) hb, rfl⟩
        · cases h2
      · cases h2
    · cases h1

theorem argQf_sound {fs : List Nat} {ty : Nat} {y : Operand} {ps : List Pv} (h : St A w μ φ (tmO a.tmps g) C) (hs : sm1 y = true) (hx : argX V.τ φ .val y ty = some x) (hm : argQf μ fs y = some ps) :
    ∃ f caps vs, x = .fv f caps ∧ f ∈ fs ∧ a.eval y = .func (.func f) #[] vs ∧ vs.size = caps.length ∧ ∀ (j : Nat) (ds : List D), caps[j]? = some ds → ReadAt w (okB C ps) (vs.getD j undef) ds := by
  have hu : opX V.τ φ ty y ≠ .u := by intro e; simp only [argX, e] at hx; cases hx
  have hcl := op_sound (τ := V.τ) (ty := ty) (s := 0) h hs hu
  unfold argQf at hm
  split at hm
  · rename_i f caps hop
    rw [hop] at hcl
    obtain ⟨e1, e2⟩ := hcl
    simp only [argX, e1] at hx
    rw [Option.map_eq_some_iff] at hx
    obtain ⟨cs, hcs, rfl⟩ := hx
    split at hm
    · rename_i hf
      obtain ⟨l1, ih⟩ := capsQ_sound h hcs hm
      refine ⟨f, cs, _, rfl, by simpa using hf, e2, by simp [l1], ?_⟩
      intro j ds hj
      have hjl := (List.getElem?_eq_some_iff.1 hj).1
      have hc : caps[j]? = some caps[j] := List.getElem?_eq_getElem (by omega)
      have hv : ((caps.map (tmO a.tmps g)).toArray).getD j undef = tmO a.tmps g caps[j] := by
        simp [Array.getD_eq_getD_getElem?, hc]
      rw [hv]
      exact ih j _ ds hc hj
    · cases hm
  · rename_i gs i hop
    rw [hop] at hcl
    obtain ⟨f, caps, vs, e1, e2, e3, e4, e5⟩ := hcl
    simp only [argX, e1, Option.some.injEq] at hx
    subst hx
    split at hm
    · rename_i hgs
      cases hm
      rw [List.all_eq_true] at hgs
      exact ⟨f, caps, vs, rfl, by simpa using hgs f e2, e3, e4, e5⟩
    · cases hm
  · cases hm

theorem argQ_sound {pm : PM} {y : Operand} {ty : Nat} {ps : List Pv} (h : St A w μ φ (tmO a.tmps g) C) (hs : sm1 y = true) (hx : argX V.τ φ pm.pk y ty = some x) (hm : argQ V.τ μ pm y ty = some ps) : ArgP V w C.G (okB C ps) pm ty x (a.eval y) := by
  have hor : (fun b => C.G b ∨ okB C ps b) = okB C ps := by
    funext b
    exact propext ⟨fun h => h.elim .inl id, .inr⟩
  cases pm with
  | rptr n =>
    simp only [ArgP, hor]
    exact argQp_sound h hs hx hm
  | fn fs =>
    simp only [ArgP, hor]
    exact argQf_sound h hs hx hm
  | _ => exact argQ0_sound h hs hx hm
end
end Go.Ev

/- Results of a call, put where the caller wants them. -/
namespace Go.Ev
section
variable {w' : World} {C1 C2 : Cx} {φ1 φ2 : Fr} {tm1 tm2 : Nat → Value}

theorem res_move {k s : Nat} {r : X} {v : Value} {sm : SM} (h : ClaimX w' C1 φ1 tm1 k r v sm) (hok : sm.resOk = true) (f : PF)
    (ho : ∀ b q off c z, C1.own b = some ⟨⟨k, q⟩, off, c, z⟩ → C2.own b = some ⟨⟨s, q⟩, off, c, z⟩) (hv : ∀ ps ps', f ps = some ps' → ∀ b, okB C1 ps b → okB C2 ps' b) : ClaimX w' C2 φ2 tm2 s r v (sm.map f) := by
  have hext : ∀ s q, (⟨s, []⟩ : Pl).ext q = ⟨s, q⟩ := fun s q => by simp [Pl.ext]
  cases sm with
  | c m og =>
    cases og with
    | no =>
      obtain ⟨d, o, e1, e2, e3⟩ := h
      refine ⟨d, o, e1, e2.move ⟨s, []⟩ f (fun b q off c z hb => ?_) (fun ps ps' hf b hb => ⟨hv ps ps' hf b hb, rfl⟩), e3⟩
      rw [hext] at hb ⊢
      exact ⟨ho b q off c z hb, rfl⟩
    | _ => cases hok
  | agg ms og =>
    cases og with
    | no =>
      obtain ⟨ds, o, vs, e1, e2, e3, e4, e5, e6⟩ := h
      refine ⟨ds, o, vs, e1, e2, e3, by rw [mapL_len]; exact e4, e5.move f (fun b i j q off c z hb => ?_) (fun ps ps' hf b hb => ⟨hv ps ps' hf b hb, rfl⟩), e6⟩
      rw [hext] at hb ⊢
      exact ⟨ho b _ off c z hb, rfl⟩
    | _ => cases hok
  | box ms =>
    obtain ⟨ds, b, off, arr, e1, e2, e3⟩ := h
    refine ⟨ds, b, off, arr, e1, e2, ho b [] off 0 0 e3.own, e3.heap, e3.size, fun i row hi => by rw [mapL_len]; exact e3.len i row hi, .inl (by simp), ?_⟩
    refine e3.kids.move f (fun b i j q off c z hb => ?_) (fun ps ps' hf b hb => ⟨hv ps ps' hf b hb, rfl⟩)
    rw [hext] at hb ⊢
    exact ⟨ho b _ off c z hb, rfl⟩
  | _ => cases hok
end

section
variable {V : Env} {A : Start} {w w' : World} {μ μ' : Mu} {φ : Fr} {C : Cx} {a : Act} {g : Nat → Value} {o : Oper} {x : X}

/-- All arguments. -/
theorem argsQ_sound (h : St A w μ φ (tmO a.tmps g) C) : ∀ {pms : List PM} {ys : List Operand} {tys : List Nat} {xs : List X} {pss : List (List Pv)}, ys.all sm1 = true → argsX V.τ φ (pms.map PM.pk) ys tys = some xs → argsQ V.τ μ pms ys tys = some pss →
    xs.length = pms.length ∧ ys.length = pms.length ∧ pss.length = pms.length ∧ ∀ (i : Nat) (x : X) (y : Operand) (pm : PM) (ty : Nat), xs[i]? = some x → ys[i]? = some y → pms[i]? = some pm → tys[i]? = some ty → ArgP V w C.G (okB C (pss.getD i [])) pm ty x (a.eval y)
  | [], [], [], xs, pss, _, h1, h2 => by
    simp only [List.map_nil, argsX, Option.some.injEq] at h1
    simp only [argsQ, Option.some.injEq] at h2
    subst h1; subst h2
    simp
  | pm :: pms, y :: ys, t :: tys, xs, pss, hs, h1, h2 => by
    simp only [List.all_cons, Bool.and_eq_true] at hs
    simp only [List.map_cons, argsX] at h1
    simp only [argsQ] at h2
    split at h1
    · rename_i x xs' hx hxs
      cases h1
      split at h2
      · rename_i ps pss' hp hps
        cases h2
        obtain ⟨l1, l2, l3, ih⟩ := argsQ_sound h hs.2 hxs hps
        refine ⟨by simp [l1], by simp [l2], by simp [l3], ?_⟩
        intro i x' y' pm' ty' q1 q2 q3 q4
        cases i with
        | zero =>
          simp only [List.getElem?_cons_zero, Option.some.injEq] at q1 q2 q3 q4
          subst q1; subst q2; subst q3; subst q4
          exact argQ_sound h hs.1 hx hp
        | succ i =>
          simp only [List.getElem?_cons_succ] at q1 q2 q3 q4
          exact ih i x' y' pm' ty' q1 q2 q3 q4
      · cases h2
    · cases h1
  | [], _ :: _, _, _, _, _, h1, _ => by simp [argsX] at h1
  | [], [], _ :: _, _, _, _, h1, _ => by simp [argsX] at h1
  | _ :: _, [], _, _, _, _, h1, _ => by simp [argsX] at h1
  | _ :: _, _ :: _, [], _, _, _, h1, _ => by simp [argsX] at h1

/-- Blocks of results, as the caller owns them. -/
def relab (C' : Cx) (tgt : Nat → Nat) : Nat → Option Ow := fun b => (C'.own b).map fun o => { o with p := ⟨tgt o.p.s, o.p.st⟩ }

theorem relab_of {C' : Cx} {tgt : Nat → Nat} {b k off c z : Nat} {q : List (Nat × Nat)} (h : C'.own b = some ⟨⟨k, q⟩, off, c, z⟩) : relab C' tgt b = some ⟨⟨tgt k, q⟩, off, c, z⟩ := by simp [relab, h]

theorem relab_inv {C' : Cx} {tgt : Nat → Nat} {b : Nat} {o : Ow} (h : relab C' tgt b = some o) : ∃ o0, C'.own b = some o0 ∧ o.p = ⟨tgt o0.p.s, o0.p.st⟩ := by
  unfold relab at h
  rw [Option.map_eq_some_iff] at h
  obtain ⟨o0, h1, rfl⟩ := h
  exact ⟨o0, h1, rfl⟩

/-- What the callee may read, the caller may. -/
theorem res_ok {G : Nat → Prop} {PA : Nat → Nat → Prop} {sg : Sig} {rs : List X} {vs : List Value} {C' : Cx} {pss : List (List Pv)} {t : Nat} {tgt : Nat → Nat} (h : St A w μ φ (tmO a.tmps g) C) (hG : ∀ b, G b → C.G b) (hPA : ∀ i b, PA i b → okB C (pss.getD i []) b)
    (hd : Done w w' G PA sg rs vs C') {ps ps' : List Pv} (hf : substQ pss ps = some ps') {b : Nat} (hb : okB C' ps b) : okB (C.dropG t w.heap.size (relab C' tgt) (fun b => w.heap.size ≤ b ∧ C'.G b)) ps' b := by
  unfold substQ at hf
  split at hf
  · cases hf
  · rename_i hnl
    cases hf
    rcases hb with hb | ⟨p, hp, hb⟩
    · rcases hd.frz b hb with h1 | h1
      · exact dropG_ok h (.inl (hG b h1))
      · exact .inl (.inr ⟨h1.1, hb⟩)
    · cases p with
      | lab l => exfalso; apply hnl; rw [List.any_eq_true]; exact ⟨_, hp, rfl⟩
      | arg i =>
        have hb' : PA i b := by rw [← hd.pa]; exact hb
        exact dropG_ok h (okB_mono (fun q hq => List.mem_flatMap.2 ⟨_, hp, hq⟩) (hPA i b hb'))
end
end Go.Ev

/- The results of a call are put down. -/
namespace Go.Ev
section
variable {V : Env} {A : Start} {w w' : World} {μ μ' : Mu} {φ : Fr} {C : Cx} {a : Act} {g : Nat → Value} {o : Oper} {x : X}

theorem relab_ok {G : Nat → Prop} {PA : Nat → Nat → Prop} {sg : Sig} {rs : List X} {vs : List Value} {C' : Cx} {tgt : Nat → Nat} (hd : Done w w' G PA sg rs vs C') (hinj : ∀ i j, i < rs.length → j < rs.length → tgt i = tgt j → i = j) :
    (∀ b o, w.heap.size ≤ b → relab C' tgt b = some o → b < w'.heap.size) ∧ (∀ b b' o o', w.heap.size ≤ b → w.heap.size ≤ b' → relab C' tgt b = some o → relab C' tgt b' = some o' → o.p = o'.p → b = b') ∧
    (∀ b, (w.heap.size ≤ b ∧ C'.G b) → (∀ b, G b → b < w.heap.size) → w.heap.size ≤ b ∧ b < w'.heap.size ∧ relab C' tgt b = none) := by
  refine ⟨?_, ?_, ?_⟩
  · intro b o' _ hb
    obtain ⟨o0, h1, _⟩ := relab_inv hb
    exact (hd.own b o0 h1).2.1
  · intro b b' o1 o2 _ _ h1 h2 e
    obtain ⟨o1', k1, k2⟩ := relab_inv h1
    obtain ⟨o2', l1, l2⟩ := relab_inv h2
    refine hd.inj b b' o1' o2' k1 l1 ?_
    rw [k2, l2] at e
    simp only [Pl.mk.injEq] at e
    have := hinj _ _ (hd.own b o1' k1).2.2.2 (hd.own b' o2' l1).2.2.2 e.1
    obtain ⟨⟨s1, st1⟩, _, _, _⟩ := o1'
    obtain ⟨⟨s2, st2⟩, _, _, _⟩ := o2'
    simp only at this e ⊢
    rw [this, e.2]
  · intro b hb hG
    refine ⟨hb.1, ?_, ?_⟩
    · rcases hd.frz b hb.2 with h1 | h1
      · have := hG b h1; omega
      · exact h1.2
    · cases e : relab C' tgt b with
      | none => rfl
      | some o1 =>
        obtain ⟨o0, k1, _⟩ := relab_inv e
        exact ((hd.own b o0 k1).2.2.1 hb.2).elim

/-- One result. -/
theorem relab_own {w' : World} {C' : Cx} {tgt : Nat → Nat} (h : OwnOk w' C'.own) : OwnOk w' (relab C' tgt) := by
  intro b o ho
  unfold relab at ho
  rw [Option.map_eq_some_iff] at ho
  obtain ⟨o0, h1, rfl⟩ := ho
  exact h b o0 h1

theorem call_put1 {G : Nat → Prop} {PA : Nat → Nat → Prop} {sg : Sig} {r : X} {v : Value} {C' : Cx} {pss : List (List Pv)} {d : Nat} {sm : SM} (h : St A w μ φ (tmO a.tmps g) C) (hd1 : d < 1000) (hsz : d < a.tmps.size) (hG : ∀ b, G b → C.G b)
    (hPA : ∀ i b, PA i b → okB C (pss.getD i []) b) (hd : Done w w' G PA sg [r] [v] C') (hsm : sg.res = [sm]) (hok : sm.resOk = true) :
    ∃ C2, St A w' (μ.put d (sm.map (substQ pss))) (upd φ d r) (tmO (a.put (some d) v).tmps g) C2 := by
  have hlt : ∀ b, G b → b < w.heap.size := fun b hb => (h.frz b (hG b hb)).1
  obtain ⟨k1, k2, k3⟩ := relab_ok (tgt := fun _ => d) hd (by intro i j hi hj _; simp at hi hj; omega)
  refine ⟨_, h.putGG hd1 hd.ext (relab C' fun _ => d) (fun b => w.heap.size ≤ b ∧ C'.G b) k1 (fun b hb => k3 b hb hlt) ?_ k2 (relab_own hd.oko) ?_ ?_ ?_ ?_⟩
  · intro b o' _ hb
    obtain ⟨o0, _, e⟩ := relab_inv hb
    rw [e]; exact hit_self d
  · intro s hs
    have : s ≠ d := by rintro rfl; rw [hit_self] at hs; cases hs
    simp [upd, this]
  · intro s hs
    have : s ≠ d := by rintro rfl; rw [hit_self] at hs; cases hs
    rw [tm_put hd1 hsz]
    simp [this]
  · intro s hs
    have : s ≠ d := by rintro rfl; rw [hit_self] at hs; cases hs
    rw [get_put, if_neg this, hs]; rfl
  · intro s hs
    rw [get_put]
    by_cases e : s = d
    · subst e
      rw [if_pos rfl]
      right
      unfold Claim
      rw [show upd φ s r s = r by simp [upd], tm_put hd1 hsz]
      simp only [if_true]
      refine ClaimX.dropS ?_
      refine res_move (hd.res 0 r v sm rfl rfl (by rw [hsm]; rfl)) hok (substQ pss) ?_ (fun ps ps' hf b hb => res_ok h hG hPA hd hf hb)
      intro b q off c z hb
      have hge := (hd.own b _ hb).1
      show (C.drop s w.heap.size _).own b = _
      simp only [Cx.drop]
      rw [if_pos hge, relab_of hb]
    · rw [if_neg e, hs]; exact .inr trivial

/-- No result. -/
theorem call_put0 {G : Nat → Prop} {PA : Nat → Nat → Prop} {sg : Sig} {C' : Cx} {d : Nat} {v : Value} (h : St A w μ φ (tmO a.tmps g) C) (hd1 : d < 1000) (hsz : d < a.tmps.size) (hd : Done w w' G PA sg [] [] C') :
    ∃ C2, St A w' (μ.clear d) (upd φ d .u) (tmO (a.put (some d) v).tmps g) C2 := by
  refine ⟨_, h.putG hd1 hd.ext (fun _ => none) (by simp) (by simp) (by simp) .none ?_ ?_ ?_ ?_⟩
  · intro s hs
    have : s ≠ d := by rintro rfl; rw [hit_self] at hs; cases hs
    simp [upd, this]
  · intro s hs
    have : s ≠ d := by rintro rfl; rw [hit_self] at hs; cases hs
    rw [tm_put hd1 hsz]
    simp [this]
  · intro s hs; rw [get_clear, hs]; rfl
  · intro s hs; rw [get_clear, hs]; exact .inr trivial
end
end Go.Ev

/- Several results of a call are put down. -/
namespace Go.Ev

theorem putComps_at (d : Nat) : ∀ (rs : List X) (i k : Nat) (φ : Fr) (r : X), rs[k]? = some r → putComps d i rs φ (cix d (i + k)) = r
  | [], i, k, φ, r, h => by simp at h
  | x :: xs, i, 0, φ, r, h => by
    simp only [List.getElem?_cons_zero, Option.some.injEq] at h
    subst h
    simp only [putComps, Nat.add_zero]
    have key : ∀ (xs : List X) (j : Nat) (φ : Fr), i < j → putComps d j xs φ (cix d i) = φ (cix d i) := by
      intro xs
      induction xs with
      | nil => intro j φ _; rfl
      | cons y ys ih =>
        intro j φ hj
        simp only [putComps]
        rw [ih (j + 1) _ (by omega)]
        have : cix d i ≠ cix d j := by unfold cix; omega
        simp [upd, this]
    rw [key xs (i + 1) _ (by omega)]
    simp [upd]
  | x :: xs, i, k + 1, φ, r, h => by
    simp only [List.getElem?_cons_succ] at h
    simp only [putComps]
    have := putComps_at d xs (i + 1) k (upd φ (cix d i) x) r h
    rwa [show i + 1 + k = i + (k + 1) by omega] at this

theorem putComps_out (d s : Nat) : ∀ (rs : List X) (i : Nat) (φ : Fr), (∀ k, k < rs.length → s ≠ cix d (i + k)) → putComps d i rs φ s = φ s
  | [], _, _, _ => rfl
  | x :: xs, i, φ, h => by
    simp only [putComps]
    rw [putComps_out d s xs (i + 1) _ (fun k hk => by have := h (k + 1) (by simp; omega); rwa [show i + (k + 1) = i + 1 + k by omega] at this)]
    have := h 0 (by simp)
    simp [upd, Nat.add_zero] at this ⊢
    intro e; exact (this e).elim

theorem lookup_comps (d : Nat) (rest : Mu) : ∀ (ms : List SM) (i : Nat) (s : Nat), List.lookup s (((ms.zipIdx i).map fun p => (cix d p.2, p.1)) ++ rest) = if cix d i ≤ s ∧ s < cix d (i + ms.length) then ms[s - cix d i]? else List.lookup s rest
  | [], i, s => by
    simp only [List.zipIdx_nil, List.map_nil, List.nil_append, List.length_nil, Nat.add_zero]
    rw [if_neg (by omega)]
  | m :: ms, i, s => by
    simp only [List.zipIdx_cons, List.map_cons, List.cons_append, List.lookup_cons, List.length_cons]
    have ih := lookup_comps d rest ms (i + 1) s
    by_cases e : s = cix d i
    · subst e
      simp only [beq_self_eq_true, Nat.sub_self, List.getElem?_cons_zero]
      rw [if_pos ⟨Nat.le_refl _, by unfold cix; omega⟩]
    · have e' : (s == cix d i) = false := by simpa using e
      rw [e']
      simp only
      rw [ih]
      unfold cix at e ⊢
      by_cases c : 1000 + 8 * d + (i + 1) ≤ s ∧ s < 1000 + 8 * d + (i + 1 + ms.length)
      · rw [if_pos c, if_pos (by omega)]
        have : s - (1000 + 8 * d + i) = (s - (1000 + 8 * d + (i + 1))) + 1 := by omega
        rw [this, List.getElem?_cons_succ]
      · rw [if_neg c, if_neg (by omega)]

section
variable {V : Env} {A : Start} {w w' : World} {μ μ' : Mu} {φ : Fr} {C : Cx} {a : Act} {g : Nat → Value} {o : Oper} {x : X}

/-- Several results. -/
theorem call_putN {G : Nat → Prop} {PA : Nat → Nat → Prop} {sg : Sig} {rs : List X} {vs : List Value} {C' : Cx} {pss : List (List Pv)} {d : Nat} (h : St A w μ φ (tmO a.tmps g) C) (hd1 : d < 1000) (hsz : d < a.tmps.size) (hG : ∀ b, G b → C.G b)
    (hPA : ∀ i b, PA i b → okB C (pss.getD i []) b) (hd : Done w w' G PA sg rs vs C') (hok : sg.res.all SM.resOk = true) (h8 : rs.length ≤ 8) :
    ∃ C2 g', St A w' ((d, .tup d rs.length) :: (((sg.res.map (SM.map (substQ pss))).zipIdx.map fun p => (cix d p.2, p.1)) ++ μ.clear d)) (upd (putComps d 0 rs φ) d (.tup d rs.length)) (tmO (a.put (some d) (.tuple vs.toArray)).tmps g') C2 := by
  have hlt : ∀ b, G b → b < w.heap.size := fun b hb => (h.frz b (hG b hb)).1
  obtain ⟨k1, k2, k3⟩ := relab_ok (tgt := fun k => cix d k) hd (by intro i j hi hj e; unfold cix at e; omega)
  have hcd : ∀ k, cix d k ≠ d := by intro k; unfold cix; omega
  have hhit : ∀ k, k < 8 → hit d (cix d k) = true := by
    intro k hk
    unfold hit isCix cix
    simp
    omega
  have hcase : ∀ s, hit d s = true → s = d ∨ ∃ k, k < 8 ∧ s = cix d k := by
    intro s hs
    unfold hit isCix at hs
    simp only [Bool.or_eq_true, beq_iff_eq, Bool.and_eq_true, decide_eq_true_eq] at hs
    rcases hs with hs | ⟨h1, h2⟩
    · exact .inl hs
    · right
      unfold cix at h1 h2 ⊢
      exact ⟨s - (1000 + 8 * d), by omega, by omega⟩
  let g' : Nat → Value := fun s => if cix d 0 ≤ s ∧ s < cix d 8 then vs.getD (s - cix d 0) undef else g s
  have htm : tmO (a.put (some d) (.tuple vs.toArray)).tmps g' = fun s => if s = d then .tuple vs.toArray else if cix d 0 ≤ s ∧ s < cix d 8 then vs.getD (s - cix d 0) undef else tmO a.tmps g s := by
    funext s
    have := congrFun (tm_put (a := a) (g := g) (v := .tuple vs.toArray) hd1 hsz) s
    by_cases e : s < 1000
    · have h1 : ¬ (cix d 0 ≤ s ∧ s < cix d 8) := by unfold cix; omega
      rw [if_neg h1, ← this]
      simp [tmO, e]
    · have h2 : s ≠ d := by omega
      rw [if_neg h2]
      simp only [tmO, e, if_false, g']
  have hnot : ∀ s, hit d s = false → s ≠ d ∧ ¬ (cix d 0 ≤ s ∧ s < cix d 8) := by
    intro s hs
    unfold hit isCix at hs
    simp only [Bool.or_eq_false_iff, beq_eq_false_iff_ne, ne_eq, Bool.and_eq_false_iff, decide_eq_false_iff_not] at hs
    refine ⟨hs.1, ?_⟩
    rintro ⟨h1, h2⟩
    rcases hs.2 with h3 | h3
    · exact h3 h1
    · exact h3 h2
  have hml : (sg.res.map (SM.map (substQ pss))).length = rs.length := by rw [List.length_map]; exact hd.lenr
  have hget : ∀ s, s ≠ d → Mu.get ((d, .tup d rs.length) :: (((sg.res.map (SM.map (substQ pss))).zipIdx.map fun p => (cix d p.2, p.1)) ++ μ.clear d)) s =
      if cix d 0 ≤ s ∧ s < cix d rs.length then ((sg.res.map (SM.map (substQ pss)))[s - cix d 0]?).getD .u else (μ.clear d).get s := by
    intro s hs
    unfold Mu.get
    rw [List.lookup_cons]
    have e' : (s == d) = false := by simpa using hs
    rw [e']
    simp only
    rw [lookup_comps d (μ.clear d) _ 0 s, hml, Nat.zero_add]
    by_cases c : cix d 0 ≤ s ∧ s < cix d rs.length
    · rw [if_pos c, if_pos c]
      cases (sg.res.map (SM.map (substQ pss)))[s - cix d 0]? <;> rfl
    · rw [if_neg c, if_neg c]
  have h88 : ∀ s, s < cix d rs.length → s < cix d 8 := by intro s; unfold cix; omega
  refine ⟨_, g', h.putGG hd1 hd.ext (relab C' fun k => cix d k) (fun b => w.heap.size ≤ b ∧ C'.G b) k1 (fun b hb => k3 b hb hlt) ?_ k2 (relab_own hd.oko) ?_ ?_ ?_ ?_⟩
  · intro b o' _ hb
    obtain ⟨o0, h1, e⟩ := relab_inv hb
    rw [e]
    have := (hd.own b o0 h1).2.2.2
    exact hhit _ (by omega)
  · intro s hs
    obtain ⟨h1, h2⟩ := hnot s hs
    rw [show upd (putComps d 0 rs φ) d (.tup d rs.length) s = putComps d 0 rs φ s by simp [upd, h1]]
    refine putComps_out d s rs 0 φ ?_
    rintro k hk rfl
    exact h2 ⟨by unfold cix; omega, by unfold cix; omega⟩
  · intro s hs
    obtain ⟨h1, h2⟩ := hnot s hs
    rw [htm]
    simp [h1, h2]
  · intro s hs
    obtain ⟨h1, h2⟩ := hnot s hs
    rw [hget s h1, if_neg (fun c => h2 ⟨c.1, h88 s c.2⟩), get_clear, hs]
    rfl
  · intro s hs
    rcases hcase s hs with rfl | ⟨k, hk, rfl⟩
    · right
      unfold Claim
      rw [show upd (putComps s 0 rs φ) s (.tup s rs.length) s = .tup s rs.length by simp [upd]]
      have hgs : Mu.get ((s, .tup s rs.length) :: (((sg.res.map (SM.map (substQ pss))).zipIdx.map fun p => (cix s p.2, p.1)) ++ μ.clear s)) s = .tup s rs.length := by
        unfold Mu.get; rw [List.lookup_cons]; simp
      rw [hgs, htm]
      simp only [if_true]
      refine ⟨rfl, h8, vs.toArray, rfl, by simp [hd.len], ?_⟩
      intro i hi
      have h1 : cix s i ≠ s := hcd i
      simp only [h1, if_false]
      rw [if_pos ⟨by unfold cix; omega, by unfold cix; omega⟩]
      have : cix s i - cix s 0 = i := by unfold cix; omega
      rw [this]
      simp [Array.getD_eq_getD_getElem?, List.getD_eq_getElem?_getD]
    · right
      unfold Claim
      rw [hget _ (hcd k)]
      have e0 : cix d k - cix d 0 = k := by unfold cix; omega
      by_cases hkn : k < rs.length
      · rw [if_pos ⟨by unfold cix; omega, by unfold cix; omega⟩, e0]
        have hkr : k < sg.res.length := by rw [hd.lenr]; exact hkn
        have hkv : k < vs.length := by rw [hd.len]; exact hkn
        rw [List.getElem?_map, List.getElem?_eq_getElem hkr]
        simp only [Option.map_some, Option.getD_some]
        have hx : upd (putComps d 0 rs φ) d (.tup d rs.length) (cix d k) = rs[k] := by
          rw [show upd (putComps d 0 rs φ) d (.tup d rs.length) (cix d k) = putComps d 0 rs φ (cix d k) by simp [upd, hcd k]]
          have := putComps_at d rs 0 k φ rs[k] (List.getElem?_eq_getElem hkn)
          rwa [Nat.zero_add] at this
        have hv : tmO (a.put (some d) (.tuple vs.toArray)).tmps g' (cix d k) = vs[k] := by
          rw [htm]
          simp only [hcd k, if_false]
          rw [if_pos ⟨by unfold cix; omega, by unfold cix; omega⟩, e0]
          simp [hkv]
        rw [hx, hv]
        refine res_move (hd.res k _ _ _ (List.getElem?_eq_getElem hkn) (List.getElem?_eq_getElem hkv) (List.getElem?_eq_getElem hkr)) (List.all_eq_true.1 hok _ (List.getElem_mem hkr)) (substQ pss) ?_ (fun ps ps' hf b hb => res_ok h hG hPA hd hf hb)
        intro b q off c z hb
        have hge := (hd.own b _ hb).1
        show (C.drop d w.heap.size _).own b = _
        simp only [Cx.drop]
        rw [if_pos hge, relab_of hb]
      · rw [if_neg (by unfold cix; omega), get_clear, hhit k hk]
        trivial
end
end Go.Ev

/- A call as an operation. -/
namespace Go.Ev

def PK.q : PK → Bool
  | .val => true
  | .rptr _ => true
  | _ => false

theorem backX_q {τ : List TE} {φ0 φ : Fr} {k : PK} {x : Operand} {out : X} (h : k.q = true) : backX τ φ0 k x out φ = some φ := by
  cases k <;> first | rfl | cases h

theorem argsQ_val {τ : List TE} {μ : Mu} : ∀ {pms : List PM} {ys : List Operand} {tys : List Nat} {pss : List (List Pv)}, argsQ τ μ pms ys tys = some pss → ∀ pm ∈ pms, pm.pk.q = true
  | [], _, _, _, _ => by simp
  | pm :: pms, [], _, _, h => by simp [argsQ] at h
  | pm :: pms, _ :: _, [], _, h => by simp [argsQ] at h
  | pm :: pms, y :: ys, t :: tys, pss, h => by
    simp only [argsQ] at h
    split at h
    · rename_i p ps hp hps
      intro q hq
      rcases List.mem_cons.1 hq with rfl | hq
      · cases q with
        | rptr n => rfl
        | fn fs => rfl
        | rd => rfl
        | frz => rfl
        | _ =>
          simp only [argQ, argQ0] at hp
          split at hp
          · split at hp <;> cases hp
          · cases hp
      · exact argsQ_val hps q hq
    · cases h

theorem argsQ_quiet {τ : List TE} {μ : Mu} : ∀ {pms : List PM} {ys : List Operand} {tys : List Nat} {pss : List (List Pv)}, argsQ τ μ pms ys tys = some pss → pms.all quietB = true
  | [], _, _, _, _ => rfl
  | pm :: pms, [], _, _, h => by simp [argsQ] at h
  | pm :: pms, _ :: _, [], _, h => by simp [argsQ] at h
  | pm :: pms, y :: ys, t :: tys, pss, h => by
    simp only [argsQ] at h
    split at h
    · rename_i p ps hp hps
      simp only [List.all_cons, argsQ_quiet hps, Bool.and_true]
      cases pm with
      | rptr n => rfl
      | fn fs => rfl
      | rd => rfl
      | frz => rfl
      | _ =>
        simp only [argQ, argQ0] at hp
        split at hp
        · split at hp <;> cases hp
        · cases hp
    · cases h

theorem argsQ_len0 {τ : List TE} {μ : Mu} : ∀ {pms : List PM} {ys : List Operand} {tys : List Nat} {pss : List (List Pv)}, argsQ τ μ pms ys tys = some pss → pms.length = ys.length ∧ tys.length = ys.length ∧ pss.length = ys.length
  | [], [], [], pss, h => by simp only [argsQ, Option.some.injEq] at h; subst h; exact ⟨rfl, rfl, rfl⟩
  | [], [], _ :: _, _, h => by simp [argsQ] at h
  | [], _ :: _, _, _, h => by simp [argsQ] at h
  | pm :: pms, [], _, _, h => by simp [argsQ] at h
  | pm :: pms, _ :: _, [], _, h => by simp [argsQ] at h
  | pm :: pms, y :: ys, t :: tys, pss, h => by
    simp only [argsQ] at h
    split at h
    · rename_i p ps hp hps
      cases h
      obtain ⟨h1, h2, h3⟩ := argsQ_len0 hps
      simp [h1, h2, h3]
    · cases h

theorem backs_val {τ : List TE} {φ0 : Fr} : ∀ {ks : List PK} {xs : List Operand} {os : List X} {φ φ' : Fr}, (∀ k ∈ ks, k.q = true) → backsX τ φ0 ks xs os φ = some φ' → φ' = φ
  | [], _, _, φ, φ', _, h => by simp only [backsX, Option.some.injEq] at h; exact h.symm
  | k :: ks, [], _, φ, φ', _, h => by simp [backsX] at h
  | k :: ks, _ :: _, [], φ, φ', _, h => by simp [backsX] at h
  | k :: ks, x :: xs, o :: os, φ, φ', hk, h => by
    simp only [backsX] at h
    rw [backX_q (hk k (by simp))] at h
    exact backs_val (fun k' hk' => hk k' (by simp [hk'])) h

section
variable {V : Env} {A : Start} {w w' : World} {μ μ' : Mu} {φ φ' : Fr} {C : Cx} {a : Act} {g : Nat → Value} {o : Oper} {x : X}

/-- Results, wherever they go. -/
theorem call_put {G : Nat → Prop} {PA : Nat → Nat → Prop} {sg : Sig} {rs : List X} {vs : List Value} {C' : Cx} {pss : List (List Pv)} (h : St A w μ φ (tmO a.tmps g) C) (hdst : ∀ d, o.dst = some d → d < 1000 ∧ d < a.tmps.size) (hG : ∀ b, G b → C.G b)
    (hPA : ∀ i b, PA i b → okB C (pss.getD i []) b) (hd : Done w w' G PA sg rs vs C') (hok : sg.res.all SM.resOk = true) (h8 : rs.length ≤ 8) (hm : putResM o.dst (sg.res.map (SM.map (substQ pss))) μ = some μ') :
    ∃ C2 g', St A w' μ' (putRes o.dst rs φ) (tmO (a.put o.dst (packV vs)).tmps g') C2 := by
  cases hds : o.dst with
  | none =>
    rw [hds] at hm
    simp only [putResM, Option.some.injEq] at hm
    subst hm
    exact ⟨C, g, h.ext hd.ext⟩
  | some d =>
    obtain ⟨hd1, hsz⟩ := hdst d hds
    rw [hds] at hm
    have hl := hd.len
    have hlr := hd.lenr
    match rs, vs, hl with
    | [], [], _ =>
      have hr : sg.res = [] := List.length_eq_zero_iff.1 hlr
      rw [hr] at hm
      simp only [putResM, List.map_nil, Option.some.injEq] at hm
      subst hm
      obtain ⟨C2, h2⟩ := call_put0 (v := packV []) h hd1 hsz hd
      exact ⟨C2, g, h2⟩
    | [r], [v], _ =>
      obtain ⟨sm, hr⟩ : ∃ sm, sg.res = [sm] := by
        match hq : sg.res, hlr with
        | [sm], _ => exact ⟨sm, rfl⟩
      rw [hr] at hm hok
      simp only [putResM, List.map_cons, List.map_nil, Option.some.injEq] at hm
      subst hm
      obtain ⟨C2, h2⟩ := call_put1 h hd1 hsz hG hPA hd hr (by simpa using hok)
      exact ⟨C2, g, h2⟩
    | r1 :: r2 :: rs, v1 :: v2 :: vs, _ =>
      obtain ⟨C2, g', h2⟩ := call_putN h hd1 hsz hG hPA hd hok h8
      have hmm : μ' = (d, .tup d (r1 :: r2 :: rs).length) :: (((sg.res.map (SM.map (substQ pss))).zipIdx.map fun p => (cix d p.2, p.1)) ++ μ.clear d) := by
        have hlm : (sg.res.map (SM.map (substQ pss))).length = (r1 :: r2 :: rs).length := by rw [List.length_map]; exact hlr
        generalize sg.res.map (SM.map (substQ pss)) = ms at hm hlm
        match ms, hlm with
        | m1 :: m2 :: ms, hlm =>
          simp only [putResM] at hm
          rw [if_pos (by rw [hlm]; exact h8)] at hm
          simp only [Option.some.injEq] at hm
          rw [← hm, hlm]
      rw [hmm]
      exact ⟨C2, g', h2⟩

theorem s_call {c : Call} {f : Nat} {S : Nat → Option (List PK)} {F : Nat → List X → Option (List X × List X)} {Sg : Nat → Option Sig} {sg : Sig} {next : Act → World → Prop} {Q : Exit → Act → World → Prop} (ho : o.op = .call c) (hcal : c.callee = .value (.func f))
    (hSg : Sg f = some sg) (hS : S f = some (sg.pms.map PM.pk)) (hD : DoesR (Abv A) V f sg (F f)) (h : St A w μ φ (tmO a.tmps g) C) (hs : c.args.toList.all sm1 = true) (hdst : ∀ d, o.dst = some d → d < 1000 ∧ d < a.tmps.size)
    (hx : callX V.τ S F f c o.dst [] φ = some φ') (hm : callQ V.τ Sg μ f c o.dst = some μ')
    (hK : ∀ v w' C2 g', St A w' μ' φ' (tmO (a.put o.dst v).tmps g') C2 → next (a.put o.dst v) w') : o.wp V.P a w next Q := by
  unfold callQ at hm
  rw [hSg] at hm
  simp only at hm
  split at hm
  · rename_i hc
    obtain ⟨hty, hok⟩ := hc
    split at hm
    · rename_i pss hpss
      unfold callX at hx
      rw [hS] at hx
      simp only at hx
      split at hx
      · rename_i as has
        have hl0 : c.args.toList.length = c.args.size := by simp
        have htake : (sg.pms.map PM.pk).take c.args.size = sg.pms.map PM.pk ∧ c.args.size = sg.pms.length := by
          have key : ∀ {pms : List PM} {ys : List Operand} {tys : List Nat} {pss : List (List Pv)}, argsQ V.τ μ pms ys tys = some pss → pms.length = ys.length := by
            intro pms
            induction pms with
            | nil => intro ys tys pss hq; cases ys <;> cases tys <;> simp_all [argsQ]
            | cons pm pms ih =>
              intro ys tys pss hq
              cases ys with
              | nil => simp [argsQ] at hq
              | cons y ys =>
                cases tys with
                | nil => simp [argsQ] at hq
                | cons t tys =>
                  simp only [argsQ] at hq
                  split at hq
                  · rename_i p ps hp hps; simp [ih hps]
                  · cases hq
          have := key hpss
          rw [hl0] at this
          exact ⟨List.take_of_length_le (by rw [List.length_map]; omega), this.symm⟩
        rw [htake.1] at has hx
        split at hx
        · rename_i rs outs hF
          rw [List.append_nil] at hF
          split at hx
          · rename_i h8
            split at hx
            · rename_i φ1 hback
              cases hx
              have hφ1 := backs_val (by
                intro k hk
                rw [List.mem_map] at hk
                obtain ⟨pm, hpm, rfl⟩ := hk
                exact argsQ_val hpss pm hpm) hback
              subst hφ1
              obtain ⟨l1, l2, l3, harg⟩ := argsQ_sound h hs has hpss
              obtain ⟨⟨fn, b, hf, hbd, hname⟩, hD, _⟩ := hD
              have hD := hD (argsQ_quiet hpss)
              have hrun : (execOp a.eval o).run V.P w = .ok (.enter f (c.args.toList.map a.eval).toArray) w := by
                have e1 : c.args.map a.eval = (c.args.toList.map a.eval).toArray := by apply Array.ext'; simp
                simp only [execOp, ho, resolve, hcal]
                have e2 : a.eval (.func f) = .func (.func f) #[] #[] := rfl
                simp [e2, Deferred.ofValue, invoke, callFunc, hf, hname, hbd, e1]
              unfold Oper.wp
              rw [hrun, Oper.upon_enter]
              refine (hD w C.G (fun i => okB C (pss.getD i [])) (c.args.toList.map a.eval) as h.abv (by simpa using l2) l1 (fun b hb => (h.frz b hb).1) (fun i b hb => h.ok_lt hb) ?_ rs outs hF).mono ?_
              · intro i x v pm ty q1 q2 q3 q4
                rw [List.getElem?_map, Option.map_eq_some_iff] at q2
                obtain ⟨y, hy, rfl⟩ := q2
                exact harg i x y pm ty q1 hy q3 (by rw [← hty]; exact q4)
              · rintro e w' ⟨vs, C', rfl, hdone⟩
                obtain ⟨C2, g', h2⟩ := call_put (o := o) h hdst (fun b hb => hb) (fun i b hb => hb) hdone hok h8 hm
                exact hK _ _ _ _ h2
            · cases hx
          · cases hx
        · cases hx
      · cases hx
    · cases hm
  · cases hm

theorem isV0_spec {sm : SM} (h : sm.isV0 = true) : sm = .c (.view []) .no := by
  unfold SM.isV0 at h
  split at h
  · rfl
  · cases h

theorem s_callV {c : Call} {t : Nat} {S : Nat → Option (List PK)} {F : Nat → List X → Option (List X × List X)} {Sg : Nat → Option Sig} {next : Act → World → Prop} {Q : Exit → Act → World → Prop} (ho : o.op = .call c) (hcal : c.callee = .value (.tmp t)) (ht : t < 1000)
    (hSg : ∀ f sg, Sg f = some sg → S f = some (sg.pms.map PM.pk) ∧ DoesR (Abv A) V f sg (F f)) (h : St A w μ φ (tmO a.tmps g) C) (hs : c.args.toList.all sm1 = true) (hdst : ∀ d, o.dst = some d → d < 1000 ∧ d < a.tmps.size)
    (hx : evOp V.τ S F o φ = some φ') (hm : callFv V.τ Sg μ (.tmp t) c o.dst = some μ')
    (hK : ∀ v w' C2 g', St A w' μ' φ' (tmO (a.put o.dst v).tmps g') C2 → next (a.put o.dst v) w') : o.wp V.P a w next Q := by
  unfold callFv at hm
  split at hm
  · rename_i fs px hfm
    split at hm
    · rename_i hall
      have hsmt : sm1 (.tmp t) = true := by simpa [sm1] using ht
      -- what the value is
      have hval : ∃ f cs vs, f ∈ fs ∧ a.eval (.tmp t) = .func (.func f) #[] vs ∧ vs.size = cs.length ∧ (∀ (j : Nat) (ds : List D), cs[j]? = some ds → ReadAt w (okB C px) (vs.getD j undef) ds) ∧ extraOk (S f) c.args.size cs = true ∧ callX V.τ S F f c o.dst (cs.map .box) φ = some φ' := by
        unfold evOp at hx
        rw [ho] at hx
        simp only [hcal] at hx
        have hopx : opX V.τ φ 0 (.tmp t) = cpX t (φ t) := rfl
        unfold funsM at hfm
        split at hx
        · rename_i f caps hφ
          have hcl := op_sound (τ := V.τ) (ty := 0) (s := 0) h hsmt (by rw [hopx, hφ]; simp [cpX])
          rw [hopx, hφ] at hcl
          simp only [cpX] at hcl
          split at hx
          · rename_i cs hcs
            split at hx
            · rename_i hex
              split at hfm
              · rename_i f' caps' hop
                rw [hop] at hcl
                obtain ⟨e1, e2⟩ := hcl
                cases e1
                rw [Option.map_eq_some_iff] at hfm
                obtain ⟨p, hp, e3⟩ := hfm
                cases e3
                obtain ⟨l1, ih⟩ := capsQ_sound h hcs hp
                refine ⟨f, cs, _, by simp, e2, by simp [l1], ?_, hex, hx⟩
                intro j ds hj
                have hjl := (List.getElem?_eq_some_iff.1 hj).1
                have hc : caps[j]? = some caps[j] := List.getElem?_eq_getElem (by omega)
                have hv : ((caps.map (tmO a.tmps g)).toArray).getD j undef = tmO a.tmps g caps[j] := by
                  simp [Array.getD_eq_getD_getElem?, hc]
                rw [hv]
                exact ih j _ ds hc hj
              · rename_i fs' j hop
                rw [hop] at hcl
                obtain ⟨_, _, _, e1, _⟩ := hcl
                cases e1
              · cases hfm
            · cases hx
          · cases hx
        · rename_i f cs hφ
          have hcl := op_sound (τ := V.τ) (ty := 0) (s := 0) h hsmt (by rw [hopx, hφ]; simp [cpX])
          rw [hopx, hφ] at hcl
          simp only [cpX] at hcl
          split at hx
          · rename_i hex
            split at hfm
            · rename_i f' caps' hop
              rw [hop] at hcl
              obtain ⟨e1, _⟩ := hcl
              cases e1
            · rename_i fs' j hop
              rw [hop] at hcl
              cases hfm
              obtain ⟨f', caps, vs, e1, e2, e3, e4, e5⟩ := hcl
              cases e1
              exact ⟨f, cs, vs, e2, e3, e4, e5, hex, hx⟩
            · cases hfm
          · cases hx
        · cases hx
      obtain ⟨f, cs, vs, hf, hv, hvs, hread, hex, hcx⟩ := hval
      have hfo := List.all_eq_true.1 hall f hf
      unfold fnOk at hfo
      split at hfo
      · rename_i sg hsg
        simp only [Bool.and_eq_true, beq_iff_eq, Nat.ble_eq] at hfo
        obtain ⟨⟨⟨⟨r1, r2⟩, r3⟩, r4⟩, r5⟩ := hfo
        obtain ⟨pss, hpss⟩ := Option.isSome_iff_exists.1 r5
        obtain ⟨hS, hD⟩ := hSg f sg hsg
        rw [hS] at hex
        simp only [extraOk, Bool.and_eq_true, decide_eq_true_eq, Nat.ble_eq] at hex
        have hex := hex.1
        rw [← List.map_drop] at hex
        have hlen : sg.pms.length = c.args.size + cs.length := by
          have := congrArg List.length hex
          simp only [List.length_map, List.length_drop] at this
          omega
        unfold callX at hcx
        rw [hS] at hcx
        simp only at hcx
        rw [← List.map_take] at hcx
        split at hcx
        · rename_i as has
          split at hcx
          · rename_i rs outs hF
            split at hcx
            · rename_i h8
              split at hcx
              · rename_i φ1 hback
                cases hcx
                have hφ1 := backs_val (by
                  intro k hk
                  rw [List.mem_map] at hk
                  obtain ⟨pm, hpm, rfl⟩ := hk
                  exact argsQ_val hpss pm hpm) hback
                subst hφ1
                obtain ⟨l1, l2, l3, harg⟩ := argsQ_sound h hs has hpss
                rw [List.length_take, Nat.min_eq_left r3] at l1 l2 l3
                obtain ⟨⟨fn, b, hfn, hbd, hname⟩, hD, _⟩ := hD
                have hrp : ∀ (j : Nat) (pm : PM), sg.pms[c.args.size + j]? = some pm → ∃ ds, cs[j]? = some ds ∧ pm = .rptr ds.length := by
                  intro j pm hj
                  have h1 : (sg.pms.drop c.args.size)[j]? = some pm := by rw [List.getElem?_drop]; exact hj
                  have h2 : ((sg.pms.drop c.args.size).map PM.pk)[j]? = some pm.pk := by rw [List.getElem?_map, h1]; rfl
                  rw [hex, List.getElem?_map, Option.map_eq_some_iff] at h2
                  obtain ⟨ds, h3, h4⟩ := h2
                  refine ⟨ds, h3, ?_⟩
                  cases pm <;> simp [PM.pk] at h4
                  rw [h4]
                have hq : sg.pms.all quietB = true := by
                  rw [← List.take_append_drop c.args.size sg.pms, List.all_append, argsQ_quiet hpss, Bool.true_and, List.all_eq_true]
                  intro pm hpm
                  obtain ⟨j, hj⟩ := List.mem_iff_getElem?.1 hpm
                  rw [List.getElem?_drop] at hj
                  obtain ⟨ds, _, rfl⟩ := hrp j pm hj
                  rfl
                have hD := hD hq
                have hrun : (execOp a.eval o).run V.P w = .ok (.enter f (c.args.toList.map a.eval ++ vs.toList).toArray) w := by
                  have e1 : c.args.map a.eval ++ vs = (c.args.toList.map a.eval ++ vs.toList).toArray := by apply Array.ext'; simp
                  simp only [execOp, ho, resolve, hcal]
                  simp [hv, Deferred.ofValue, invoke, callFunc, hfn, hname, hbd, e1]
                unfold Oper.wp
                rw [hrun, Oper.upon_enter]
                refine (hD w C.G (fun i => okB C ((pss ++ List.replicate cs.length px).getD i [])) (c.args.toList.map a.eval ++ vs.toList) (as ++ cs.map .box) h.abv (by simp [hvs]; omega) (by simp [l1]; omega) (fun b hb => (h.frz b hb).1) (fun i b hb => h.ok_lt hb) ?_ rs outs hF).mono ?_
                · intro i x v pm ty q1 q2 q3 q4
                  rcases Nat.lt_or_ge i c.args.size with hi | hi
                  · rw [List.getElem?_append_left (by omega)] at q1
                    rw [List.getElem?_append_left (by simp; omega), List.getElem?_map, Option.map_eq_some_iff] at q2
                    obtain ⟨y, hy, rfl⟩ := q2
                    have q3' : (sg.pms.take c.args.size)[i]? = some pm := by rw [List.getElem?_take, if_pos hi]; exact q3
                    have q4' : c.argTypes.toList[i]? = some ty := by rw [← r4, List.getElem?_take, if_pos hi]; exact q4
                    have := harg i x y pm ty q1 hy q3' q4'
                    rw [show (pss ++ List.replicate cs.length px).getD i [] = pss.getD i [] by
                      rw [List.getD_eq_getElem?_getD, List.getD_eq_getElem?_getD, List.getElem?_append_left (by omega)]]
                    exact this
                  · obtain ⟨j, rfl⟩ : ∃ j, i = c.args.size + j := ⟨i - c.args.size, by omega⟩
                    obtain ⟨ds, hds, rfl⟩ := hrp j pm q3
                    have hjl := (List.getElem?_eq_some_iff.1 hds).1
                    rw [List.getElem?_append_right (by omega), show c.args.size + j - as.length = j by omega, List.getElem?_map, hds] at q1
                    simp only [Option.map_some, Option.some.injEq] at q1
                    subst q1
                    rw [List.getElem?_append_right (by simp), show c.args.size + j - (c.args.toList.map a.eval).length = j by simp] at q2
                    have hv2 : vs.getD j undef = v := by
                      simp only [Array.getElem?_toList] at q2
                      simp [Array.getD_eq_getD_getElem?, q2]
                    rw [show (pss ++ List.replicate cs.length px).getD (c.args.size + j) [] = px by
                      rw [List.getD_eq_getElem?_getD, List.getElem?_append_right (by omega), show c.args.size + j - pss.length = j by omega, List.getElem?_replicate, if_pos hjl]; rfl]
                    refine ⟨ds, rfl, rfl, ?_⟩
                    rw [← hv2]
                    exact (hread j ds hds).mono fun b hb => ⟨.inr hb, rfl⟩
                · rintro e w' ⟨vs', C', rfl, hdone⟩
                  have hres : sg.res.map (SM.map (substQ (pss ++ List.replicate cs.length px))) = [.c (.view []) .no] := by
                    match hq : sg.res, r1, r2 with
                    | [sm], _, r2 =>
                      have : sm = .c (.view []) .no := isV0_spec (by simpa using r2)
                      subst this
                      simp [SM.map, M.map, substQ]
                  have hok : sg.res.all SM.resOk = true := by
                    rw [List.all_eq_true] at r2 ⊢
                    intro sm hsm
                    rw [isV0_spec (r2 sm hsm)]; rfl
                  obtain ⟨C2, g', h2⟩ := call_put (o := o) (pss := pss ++ List.replicate cs.length px) h hdst (fun b hb => hb) (fun i b hb => hb) hdone hok h8 (by rw [hres]; exact hm)
                  exact hK _ _ _ _ h2
              · cases hcx
            · cases hcx
          · cases hcx
        · cases hcx
      · cases hfo
    · cases hm
  · cases hm
end
end Go.Ev

/- What lies behind a header is changed by a call. -/
namespace Go.Ev

/-- Blocks that were lent, all behind a place; and what came of them. -/
structure Sub (w w' : World) (C C2 : Cx) (p : Pl) (L : Nat → Prop) : Prop where
  lent : ∀ b, L b → ∃ o q, C.own b = some o ∧ o.p = p.ext q
  size : w.heap.size ≤ w'.heap.size
  same : ∀ b, b < w.heap.size → ¬ L b → w'.heap[b]? = w.heap[b]?
  calm : Calm w w'
  keep : ∀ b o, C.own b = some o → ¬ L b → C2.own b = some o
  own : ∀ b o, C2.own b = some o → (C.own b = some o ∧ ¬ L b) ∨ (L b ∨ w.heap.size ≤ b)
  lt : ∀ b o, C2.own b = some o → b < w'.heap.size ∧ ¬ C2.G b
  inj : ∀ b b' o o', C2.own b = some o → C2.own b' = some o' → o.p = o'.p → b = b'
  frz : ∀ b, C2.G b → C.G b ∨ ((L b ∨ w.heap.size ≤ b) ∧ b < w'.heap.size)
  keepG : ∀ b, C.G b → C2.G b
  pa : C2.PA = C.PA
  oko : OwnOk w' C2.own

section
variable {A : Start} {w w' : World} {μ μ' : Mu} {φ φ' : Fr} {tm tm' : Nat → Value} {C C2 : Cx} {p : Pl} {L : Nat → Prop}

theorem St.subG (hrng : ∀ r ∈ A.rg, RangeSame A.w w' r.b r.off r.n ∧ ∀ o, C2.own r.b = some o → o = ⟨⟨r.i, []⟩, r.off, 0, 0⟩ ∧ ∃ ds, φ' r.i = .box ds ∧ ds.length = r.n) (h : St A w μ φ tm C) (hs : Sub w w' C C2 p L) (hslot : ∀ s, φ' s = .u ∨ Claim w' C2 φ' tm' s (μ'.get s)) : St A w' μ' φ' tm' C2 := by
  have hL : ∀ b, L b → b < w.heap.size ∧ ¬ C.G b ∧ (∀ i, ¬ C.PA i b) ∧ (A.own0 b ∨ A.w.heap.size ≤ b) := by
    intro b hb
    obtain ⟨o, q, h1, _⟩ := hs.lent b hb
    exact h.own b o h1
  refine ⟨hslot, hs.inj, ?_, ?_, ?_, ?_, ?_, Nat.le_trans h.size hs.size, h.calm.trans hs.calm, ?_, hs.oko⟩
  · intro b o ho
    obtain ⟨h1, h2⟩ := hs.lt b o ho
    rw [hs.pa]
    rcases hs.own b o ho with ⟨g1, _⟩ | g1 | g1
    · exact ⟨h1, h2, (h.own b o g1).2.2⟩
    · exact ⟨h1, h2, (hL b g1).2.2⟩
    · refine ⟨h1, h2, ?_, .inr (Nat.le_trans h.size g1)⟩
      intro i hi
      have := (h.pa i b hi).1
      have := h.size
      omega
  · intro b hb
    rcases hs.frz b hb with h1 | ⟨h1, h2⟩
    · exact ⟨Nat.lt_of_lt_of_le (h.frz b h1).1 hs.size, (h.frz b h1).2⟩
    · rcases h1 with h1 | h1
      · exact ⟨h2, .inr (hL b h1).2.2.2⟩
      · exact ⟨h2, .inr (.inr (Nat.le_trans h.size h1))⟩
  · intro b hb
    exact ⟨hs.keepG b (h.ag b hb).1, (h.ag b hb).2⟩
  · rw [hs.pa]; exact h.pa
  · intro b hb hn
    rw [hs.same b (Nat.lt_of_lt_of_le hb h.size)]
    · exact h.old b hb hn
    · intro hl
      rcases (hL b hl).2.2.2 with e | e
      · exact hn e
      · omega
  · exact hrng

/-- A range that is not behind the place stays. -/
theorem Sub.rng (h : St A w μ φ tm C) (hs : Sub w w' C C2 p L) (hp : ∀ q ds, φ p.s = .box ds → p.ext q ≠ ⟨p.s, []⟩) (hφ : ∀ s ds, φ s = .box ds → ∃ ds', φ' s = .box ds' ∧ ds'.length = ds.length) :
    ∀ r ∈ A.rg, RangeSame A.w w' r.b r.off r.n ∧ ∀ o, C2.own r.b = some o → o = ⟨⟨r.i, []⟩, r.off, 0, 0⟩ ∧ ∃ ds, φ' r.i = .box ds ∧ ds.length = r.n := by
  intro r hr
  obtain ⟨g1, g2⟩ := h.rng r hr
  have hlt := g1.lt
  have hnL : ¬ L r.b := by
    intro hl
    obtain ⟨o, q, h1, h2⟩ := hs.lent r.b hl
    obtain ⟨e, ds, q1, _⟩ := g2 o h1
    rw [e] at h2
    simp only at h2
    have hps : p.s = r.i := by
      have := congrArg Pl.s h2
      simpa [Pl.ext] using this.symm
    refine hp q ds (by rw [hps]; exact q1) ?_
    rw [← h2, hps]
  refine ⟨g1.ext (hs.same r.b hlt hnL), fun o ho => ?_⟩
  rcases hs.own r.b o ho with ⟨h1, _⟩ | h1 | h1
  · obtain ⟨e, ds, q1, q2⟩ := g2 o h1
    obtain ⟨ds', k1, k2⟩ := hφ r.i ds q1
    exact ⟨e, ds', k1, by rw [k2]; exact q2⟩
  · exact (hnL h1).elim
  · omega

/-- What is viewed, and not behind the place, stays. -/
theorem Sub.ok (h : St A w μ φ tm C) (hs : Sub w w' C C2 p L) {ps ps' : List Pv} (hf : killD p.lab ps = some ps') {b : Nat} (hb : okB C ps b) : okB C2 ps' b ∧ w'.heap[b]? = w.heap[b]? := by
  unfold killD at hf
  split at hf
  · cases hf
  · rename_i hk
    cases hf
    have hlt := h.ok_lt hb
    have hnL : ¬ L b := by
      intro hl
      obtain ⟨o, q, h1, h2⟩ := hs.lent b hl
      obtain ⟨_, g2, g3, _⟩ := h.own b o h1
      rcases hb with hb | ⟨v, hv, hb⟩
      · exact g2 hb
      · cases v with
        | arg i => exact g3 i hb
        | lab l =>
          obtain ⟨o', k1, k2⟩ := hb
          rw [h1] at k1; cases k1
          rw [h2, Pl.lab_ext] at k2
          apply hk
          rw [List.any_eq_true]
          refine ⟨_, hv, ?_⟩
          rcases prefix_comp k2 (List.prefix_append p.lab (q.map (·.2))) with e | e
          · simp [isPre_iff.2 e]
          · simp [isPre_iff.2 e]
    refine ⟨?_, hs.same b hlt hnL⟩
    rcases hb with hb | ⟨v, hv, hb⟩
    · exact .inl (hs.keepG b hb)
    · refine .inr ⟨v, hv, ?_⟩
      cases v with
      | arg i => show C2.PA i b; rw [hs.pa]; exact hb
      | lab l =>
        obtain ⟨o', k1, k2⟩ := hb
        exact ⟨o', hs.keep b o' k1 hnL, k2⟩

/-- The header lies in a slot. -/
theorem St.sub0 (h : St A w μ φ tm C) {s : Nat} (hnb : ∀ ds, φ s ≠ .box ds) (hs1 : s < 1000) (hs : Sub w w' C C2 ⟨s, []⟩ L) {m : M} {d : D} {o : Option Pl} {og : Og} (hrep : Rep w' C2 ⟨s, []⟩ m d (tm s)) (hog : og = .dead ∨ (og = .no ∧ o = none)) :
    St A w' ((μ.map (killD [s])).put s (.c m og)) (upd φ s (.d d o)) tm C2 := by
  refine h.subG (hs.rng h (fun q ds e => (hnb ds e).elim) ?_) hs ?_
  · intro s' ds e
    refine ⟨ds, ?_, rfl⟩
    have : s' ≠ s := by rintro rfl; exact hnb ds e
    simp [upd, this, e]
  intro s'
  rw [get_put, get_map]
  by_cases e : s' = s
  · subst e
    rw [if_pos rfl]
    right
    unfold Claim
    rw [show upd φ s' (.d d o) s' = .d d o by simp [upd]]
    refine ClaimX.dropS ⟨d, o, rfl, hrep, fun _ => ?_⟩
    rcases hog with rfl | ⟨rfl, rfl⟩
    · trivial
    · rfl
  · rw [if_neg e]
    cases hh : hit s s' with
    | true => exact .inr trivial
    | false =>
      have hu : upd φ s (.d d o) s' = φ s' := by simp [upd, e]
      rw [hu]
      rcases h.slot s' with h1 | h1
      · exact .inl h1
      · right
        have hdrop : ((μ.get s').map (killD [s])).dropS s = ((μ.get s').dropS s).map (killD [s]) := by
          generalize μ.get s' = sm
          cases sm with
          | vbox ps n => simp only [SM.dropS, SM.map]; cases killD [s] ps <;> rfl
          | pv ps q => by_cases e2 : hit s q = true <;> cases e3 : killD [s] ps <;> simp [SM.map, SM.dropS, e2, e3]
          | pt q cs => simp only [SM.map, SM.dropS]; split <;> rfl
          | pa q cs n => simp only [SM.map, SM.dropS]; split <;> rfl
          | tup b n => simp only [SM.map, SM.dropS]; split <;> rfl
          | clo f q => simp only [SM.map, SM.dropS]; split <;> rfl
          | _ => rfl
        simp only [Bool.false_eq_true, if_false]
        rw [hdrop]
        have h2 := h1.dropS (t := s)
        refine Claim.keep h2 (killD [s]) hu rfl ?_ ?_ ?_ ?_ ?_
        · intro b q off c z hb
          have hn : ¬ L b := by
            intro hl
            obtain ⟨o1, q1, g1, g2⟩ := hs.lent b hl
            rw [hb] at g1; cases g1
            simp only [Pl.ext, Pl.mk.injEq] at g2
            exact e g2.1
          exact ⟨hs.keep b _ hb hn, hs.same b (h.own b _ hb).1 hn⟩
        · intro ps ps' hf b hb
          exact hs.ok h (by simpa [Pl.lab] using hf) hb
        · intro i b hb
          obtain ⟨g1, g2, _⟩ := h.pa i b hb
          refine ⟨by rw [hs.pa]; exact hb, hs.same b (Nat.lt_of_lt_of_le g1 h.size) ?_⟩
          intro hl
          obtain ⟨o1, _, k1, _⟩ := hs.lent b hl
          exact (h.own b o1 k1).2.2.1 i hb
        · intro b hb
          refine ⟨hs.keepG b hb, hs.same b (h.frz b hb).1 ?_⟩
          intro hl
          obtain ⟨o1, _, k1, _⟩ := hs.lent b hl
          exact (h.own b o1 k1).2.1 hb
        · refine refKeep_dropS (killD [s]) _ ?_ (fun _ _ => rfl) ?_ ?_
          · intro s2 h2
            have : s2 ≠ s := by rintro rfl; rw [hit_self] at h2; cases h2
            simp [upd, this]
          · intro b o1 hb hh2
            refine hs.keep b o1 hb ?_
            intro hl
            obtain ⟨o2, q2, k1, k2⟩ := hs.lent b hl
            rw [hb] at k1; cases k1
            rw [k2] at hh2
            simp only [Pl.ext] at hh2
            rw [hit_self] at hh2; cases hh2
          · intro b n e2 i hi hb
            rw [e2] at h1
            exact cix_hit h1.2.1 hi hs1 hb
end
end Go.Ev


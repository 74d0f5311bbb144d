/- What a Go function does, reckoned in plain data, and that it does so: part 4. -/
import Derived.Test.YtojciiiilfmjgaaDoorEv3
set_option linter.all false
/- What lies behind a header in memory is changed by a call. -/
namespace Go.Ev
section
variable {A : Start} {w w' : World} {μ μ' : Mu} {φ φ' : Fr} {tm : Nat → Value} {C C2 : Cx} {L : Nat → Prop} {s : Nat} {st : List (Nat × Nat)} {i c : Nat}

theorem Sub.node (hs : Sub w w' C C2 ⟨s, st ++ [(i, c)]⟩ L) {b : Nat} {p : Pl} {off cap z : Nat} (hb : C.own b = some ⟨p, off, cap, z⟩) (hp : ∀ q, p ≠ (⟨s, st ++ [(i, c)]⟩ : Pl).ext q) : ¬ L b := by
  intro hl
  obtain ⟨o, q, h1, h2⟩ := hs.lent b hl
  rw [hb] at h1; cases h1
  exact hp q h2

theorem St.turned1 (h : St A w μ φ tm C) (hs : Sub w w' C C2 ⟨s, st ++ [(i, c)]⟩ L) {cols : List M} {rs : List (List D)} {row : List D} {d' : D} {b off cap z : Nat} {arr : Array Value}
    (hnode : Node w C ⟨s, st⟩ cols rs b off cap z arr) (hrow : rs[i]? = some row) (hle : c + 1 ≤ row.length)
    (hcell : ∀ (m : M) (d : D) (u : Value), cols[c]? = some m → row[c]? = some d → Rep w C ⟨s, st ++ [(i, c)]⟩ m d u → Rep w' C2 ⟨s, st ++ [(i, c)]⟩ (m.map (killD (s :: st.map (·.2) ++ [c]))) d' u) :
    Turned w' C2 ⟨s, st⟩ (mapL (killD (s :: st.map (·.2) ++ [c])) cols) rs (rs.set i (row.take c ++ [d'] ++ row.drop (c + [d'].length))) b off cap z arr := by
  obtain ⟨ty, hty⟩ := hnode.heap
  have hlab : (⟨s, st ++ [(i, c)]⟩ : Pl).lab = s :: st.map (·.2) ++ [c] := by simp [Pl.lab]
  have hnL : ¬ L b := hs.node hnode.own (by
    intro q e
    simp only [Pl.ext, Pl.mk.injEq, true_and] at e
    have := congrArg List.length e
    simp at this)
  have hcl := hnode.len i row hrow
  have hle' : c + [d'].length ≤ row.length := hle
  have hold : ∀ (i' j : Nat) (row' : List D) (d : D) (m : M), rs[i']? = some row' → row'[j]? = some d → cols[j]? = some m → (i' ≠ i ∨ j ≠ c) →
      Rep w' C2 ((⟨s, st⟩ : Pl).cell i' j) (m.map (killD (s :: st.map (·.2) ++ [c]))) d (arr.getD (off + i' * z + j) undef) := by
    intro i' j row' d m q1 q2 q3 hout
    refine (hnode.kids i' j row' d m q1 q2 q3).move _ _ ?_ (fun ps ps' hf b' hb' => hs.ok h (by rw [hlab]; exact hf) hb')
    intro b' q off' c' z' hb'
    rw [Pl.cell_ext] at hb' ⊢
    have hn := hs.node hb' (by
      intro q' e
      simp only [Pl.ext, Pl.mk.injEq, true_and, List.append_assoc, List.cons_append, List.nil_append] at e
      have := List.append_cancel_left e
      simp only [List.cons.injEq, Prod.mk.injEq] at this
      rcases hout with h1 | h1
      · exact h1 this.1.1
      · exact h1 this.1.2)
    exact ⟨hs.keep b' _ hb' hn, hs.same b' (h.own b' _ hb').1 hn⟩
  refine ⟨hs.keep b _ hnode.own hnL, ⟨arr, ty, by rw [hs.same b (h.own b _ hnode.own).1 hnL]; exact hty, rfl, ?_⟩, by simp, ?_⟩
  · intro i' j row' d m' q1 q2 q3
    obtain ⟨m, hm, rfl⟩ := mapL_get q3
    by_cases hi : i' = i
    · subst hi
      have hlt := (List.getElem?_eq_some_iff.1 hrow).1
      rw [List.getElem?_set_self hlt] at q1
      simp only [Option.some.injEq] at q1
      subst q1
      rw [splice_get hle'] at q2
      by_cases hj : j = c
      · subst hj
        rw [if_neg (by omega), if_pos (by simp)] at q2
        simp only [Nat.sub_self, List.getElem?_cons_zero, Option.some.injEq] at q2
        subst q2
        have hd : row[j]? = some row[j] := List.getElem?_eq_getElem (by omega)
        exact hcell m _ _ hm hd (hnode.kids i' j row _ m hrow hd hm)
      · have q2' : row[j]? = some d := by
          by_cases e : j < c
          · rw [if_pos e] at q2; exact q2
          · rw [if_neg e, if_neg (by simp; omega)] at q2; exact q2
        exact hold i' j row d m hrow q2' hm (.inr hj)
    · rw [List.getElem?_set_ne (fun e => hi e.symm)] at q1
      exact hold i' j row' d m q1 q2 hm (.inl hi)
  · intro row' hr'
    rw [mapL_len]
    rcases List.mem_or_eq_of_mem_set hr' with h1 | h1
    · obtain ⟨i', hi'⟩ := List.getElem?_of_mem h1
      exact hnode.len i' row' hi'
    · rw [h1, splice_length hle']; exact hcl

/-- The header lies in memory. -/
theorem St.sub1 (h : St A w μ φ tm C) (hs : Sub w w' C C2 ⟨s, st ++ [(i, c)]⟩ L) {cols : List M} (hn : nodeC (μ.get s) (st.map (·.2)) = some cols) {d' : D}
    (hput : putAt φ ⟨s, st ++ [(i, c)]⟩ [d'] = some φ') (hgam : μ.get gam = .u) (hnog : ∀ s, (μ.get s).noG = true)
    (hcell : ∀ (m : M) (d : D) (u : Value), cols[c]? = some m → dataAt φ ⟨s, st ++ [(i, c)]⟩ = some d → Rep w C ⟨s, st ++ [(i, c)]⟩ m d u → Rep w' C2 ⟨s, st ++ [(i, c)]⟩ (m.map (killD (s :: st.map (·.2) ++ [c]))) d' u)
    (hμ : ∀ s', s' ≠ s → μ'.get s' = finSM (s :: st.map (·.2)) c 1 ((μ.get s').map (killD (s :: st.map (·.2) ++ [c])))) (hself : μ'.get s = ((μ.get s).map (killD (s :: st.map (·.2) ++ [c]))).wrote) :
    St A w' μ' φ' tm C2 := by
  obtain ⟨rows, rs, row, x', h1, h2, h3, h4, rfl, h6, h7⟩ := put_snoc (p := ⟨s, st ++ [(i, c)]⟩) rfl hput
  simp only at h1 h7
  have hne : rs ≠ [] := by intro e; rw [e] at h3; simp at h3
  obtain ⟨b, off, cap, z, arr, hnode⟩ := h.node_at hn h1 h2 hne
  obtain ⟨ty, hty⟩ := hnode.heap
  have hlab : (⟨s, st ++ [(i, c)]⟩ : Pl).lab = s :: st.map (·.2) ++ [c] := by simp [Pl.lab]
  have hle : c + 1 ≤ row.length := h4
  have hcell' : ∀ (m : M) (d : D) (u : Value), cols[c]? = some m → row[c]? = some d → Rep w C ⟨s, st ++ [(i, c)]⟩ m d u → Rep w' C2 ⟨s, st ++ [(i, c)]⟩ (m.map (killD (s :: st.map (·.2) ++ [c]))) d' u := by
    intro m d u q1 q2 q3
    refine hcell m d u q1 ?_ q3
    have : dataAt φ ⟨s, st ++ [(i, c)]⟩ = some d := by
      unfold dataAt
      cases hst : st ++ [(i, c)] with
      | nil => simp at hst
      | cons a l =>
        simp only
        rw [← hst]
        unfold cellsAt
        simp only [h1]
        rw [cellsIn_snoc, h2]
        simp only [h3]
        rw [if_pos hle]
        rw [List.take_one, List.head?_drop, q2]
        rfl
    exact this
  have hturn := h.turned1 hs hnode h3 hle hcell'
  have hvok : ∀ ps ps', killD (s :: st.map (·.2) ++ [c]) ps = some ps' → ∀ b', okB C ps b' → okB C2 ps' b' ∧ w'.heap[b']? = w.heap[b']? := fun ps ps' hf b' hb' => hs.ok h (by rw [hlab]; exact hf) hb'
  have hdata : ∀ p : Pl, isPre p.lab (s :: st.map (·.2)) = false → under (s :: st.map (·.2)) c 1 p.lab = false → dataAt (upd φ s x') p = dataAt φ p := by
    intro p g1 g2
    by_cases e : p.s = s
    · have hp1 : ¬ p.st.map (·.2) <+: st.map (·.2) := by
        intro hp
        have : isPre p.lab (s :: st.map (·.2)) = true := by
          rw [isPre_iff, Pl.lab, e]
          exact (List.prefix_cons_inj _).2 hp
        rw [this] at g1; cases g1
      have hp2 : ∀ k, k < [d'].length → ¬ (st.map (·.2) ++ [c + k]) <+: p.st.map (·.2) := by
        intro k hk hp
        refine under_false g2 (k := k) (by simpa using hk) ?_
        rw [Pl.lab, e, List.cons_append]
        exact (List.prefix_cons_inj _).2 hp
      have hpne : p.st ≠ [] := by intro e'; rw [e'] at hp1; exact hp1 (by simp)
      have hcs : cellsAt (upd φ s x') p 1 = cellsAt φ p 1 := by
        unfold cellsAt
        rw [e, h1, show upd φ s x' s = x' by simp [upd], h6]
        exact cells_same h3 h4 st p.st rows h2 hp1 hp2
      unfold dataAt
      split
      · rename_i e'; exact (hpne e').elim
      · rw [hcs]
    · exact dataAt_same (by simp [upd, e])
  refine h.subG (hs.rng h (fun q ds _ e => by simp [Pl.ext] at e) fun s' ds e => putAt_len (p := ⟨s, st ++ [(i, c)]⟩) rfl hput e) hs ?_
  intro s'
  by_cases hss : s' = s
  · subst hss
    right
    have hu : φ s' ≠ .u := by intro e; rw [e] at h1; cases h1
    have hc := (h.slot s').resolve_left hu
    unfold Claim at hc ⊢
    rw [show upd φ s' x' s' = x' by simp [upd], hself]
    have hnode2 : ∀ b' off' cap' z' arr', Node w C ⟨s', st⟩ cols rs b' off' cap' z' arr' → b' = b ∧ off' = off ∧ cap' = cap ∧ z' = z ∧ arr' = arr := by
      intro b' off' cap' z' arr' hn'
      have hb := h.inj _ _ _ _ hnode.own hn'.own rfl
      subst hb
      have ho := hnode.own.symm.trans hn'.own
      cases ho
      obtain ⟨ty', hty'⟩ := hn'.heap
      rw [hty] at hty'
      cases hty'
      exact ⟨rfl, rfl, rfl, rfl, rfl⟩
    have hset : st ≠ [] → ∀ (cols0 : List M) (val : Nat → Nat → Value), Kids w C ⟨s', []⟩ cols0 rows val → colsD cols0 (st.map (·.2)) = some cols →
        Kids w' C2 ⟨s', []⟩ (mapL (killD (s' :: st.map (·.2) ++ [c])) cols0) (setD rows st (rs.set i (row.take c ++ [d'] ++ row.drop (c + [d'].length)))) val := by
      intro hst cols0 val hk hcol
      have hx : (⟨s', []⟩ : Pl).ext st = ⟨s', st⟩ := by simp [Pl.ext]
      refine Kids.set _ _ hvok st ⟨s', []⟩ cols0 rows val rs cols hk hst h2 hcol hne ?_ ?_
      · intro b' off' cap' z' arr' hn'
        rw [hx] at hn' ⊢
        obtain ⟨rfl, rfl, rfl, rfl, rfl⟩ := hnode2 _ _ _ _ _ hn'
        exact hturn
      · intro b' q off' cap' z' hb' hq
        have hq' : (⟨s', []⟩ : Pl).ext q = ⟨s', q⟩ := by simp [Pl.ext]
        rw [hq'] at hb' ⊢
        have hn := hs.node hb' (by
          intro q' e
          simp only [Pl.ext, Pl.mk.injEq, true_and, List.append_assoc] at e
          exact hq ⟨_, e.symm⟩)
        exact ⟨hs.keep b' _ hb' hn, hs.same b' (h.own b' _ hb').1 hn⟩
    have hroot : ∀ b' off' cap' z', C.own b' = some ⟨⟨s', []⟩, off', cap', z'⟩ → C2.own b' = some ⟨⟨s', []⟩, off', cap', z'⟩ ∧ w'.heap[b']? = w.heap[b']? := by
      intro b' off' cap' z' hb'
      have hn := hs.node hb' (by
        intro q' e
        simp [Pl.ext] at e)
      exact ⟨hs.keep b' _ hb' hn, hs.same b' (h.own b' _ hb').1 hn⟩
    generalize hsm : μ.get s' = sm at *
    cases sm with
    | box ms0 =>
      obtain ⟨ds, b0, off0, arr0, e1, e2, e3⟩ := hc
      have hrows : rows = [ds] := by rw [e1] at h1; simp only [rowsX, Option.some.injEq] at h1; exact h1.symm
      have hbx : ∃ cs', x' = .box cs' := by
        rcases h7 with ⟨cs, cs', _, q⟩ | ⟨z0, r0, o0, r1, q, _⟩ | ⟨cs, o0, q⟩
        · exact ⟨cs', q⟩
        · rw [e1] at q; cases q
        · rw [e1] at q; cases q
      obtain ⟨cs', rfl⟩ := hbx
      simp only [rowsX, Option.some.injEq] at h6
      show ClaimX _ _ _ _ _ _ _ (.box (mapL (killD (s' :: st.map (·.2) ++ [c])) ms0))
      obtain ⟨g1, g2⟩ := hroot b0 off0 0 0 e3.own
      obtain ⟨ty0, hty0⟩ := e3.heap
      have hk : Kids w' C2 ⟨s', []⟩ (mapL (killD (s' :: st.map (·.2) ++ [c])) ms0) [cs'] (fun i j => arr0.getD (off0 + i * 0 + j) undef) ∧ cs'.length = ds.length := by
        by_cases hst : st = []
        · subst hst
          simp only [List.map_nil, nodeC, Option.some.injEq] at hn
          subst hn
          have hrs : rs = [ds] := by rw [hrows] at h2; simp only [rowsD, Option.some.injEq] at h2; exact h2.symm
          have hsame : b0 = b ∧ off0 = off ∧ z = 0 := by
            have ho := e3.own
            have hb := h.inj _ _ _ _ hnode.own ho rfl
            subst hb
            have ho2 := hnode.own.symm.trans ho
            simp only [Option.some.injEq, Ow.mk.injEq] at ho2
            exact ⟨rfl, ho2.2.1.symm, ho2.2.2.2⟩
          obtain ⟨rfl, rfl, hz0⟩ := hsame
          subst hz0
          obtain ⟨arr', ty', k1, k2, k3⟩ := hturn.ex
          rw [g2, hty0] at k1
          cases k1
          have hrs' : rs.set i (row.take c ++ [d'] ++ row.drop (c + [d'].length)) = [cs'] := by rw [h6]; rfl
          rw [hrs'] at k3
          refine ⟨k3, ?_⟩
          have hrow' := hturn.rows
          rw [hrs'] at hrow'
          have := hrow' cs' (by simp)
          rw [this, mapL_len]
          have := hnode.len 0 ds (by rw [hrs]; rfl)
          exact this.symm
        · have hcol : colsD ms0 (st.map (·.2)) = some cols := by
            cases hS : st with
            | nil => exact (hst hS).elim
            | cons q r =>
              rw [hS] at hn
              simp only [List.map_cons, nodeC] at hn ⊢
              simp only [colsD]
              exact hn
          have hk := hset hst ms0 _ (by rw [hrows]; exact e3.kids) hcol
          rw [← h6] at hk
          refine ⟨hk, ?_⟩
          exact setD_rows (rs.set i (row.take c ++ [d'] ++ row.drop (c + [d'].length))) ds.length st rows hst (by rw [hrows]; simp) cs' (by rw [← h6]; simp)
      obtain ⟨hk, hcl⟩ := hk
      refine ⟨cs', b0, off0, arr0, rfl, e2, ⟨g1, ⟨ty0, by rw [g2]; exact hty0⟩, ?_, ?_, .inl (by simp), hk⟩⟩
      · intro i' row' hr'
        have := e3.size 0 ds rfl
        cases i' with
        | succ i' => simp at hr'
        | zero =>
          simp only [List.getElem?_cons_zero, Option.some.injEq] at hr'
          subst hr'
          omega
      · intro i' row' hr'
        have := e3.len 0 ds rfl
        rw [mapL_len]
        cases i' with
        | succ i' => simp at hr'
        | zero =>
          simp only [List.getElem?_cons_zero, Option.some.injEq] at hr'
          subst hr'
          omega
    | c m og =>
      obtain ⟨d, o, e1, e2, e3⟩ := hc
      cases m with
      | own cols0 =>
        cases d with
        | v u => rw [e1] at h1; simp [rowsX] at h1
        | sl z0 rows0 =>
          have hrows : rows = rows0 := by rw [e1] at h1; simp only [rowsX, Option.some.injEq] at h1; exact h1.symm
          subst hrows
          have hbx : ∃ rows', x' = .d (.sl z0 rows') o := by
            rcases h7 with ⟨cs, cs', q, _⟩ | ⟨z1, r0, o0, r1, q, q2⟩ | ⟨cs, o0, q⟩
            · rw [e1] at q; cases q
            · rw [e1] at q; cases q; exact ⟨r1, q2⟩
            · rw [e1] at q; cases q
          obtain ⟨rows', rfl⟩ := hbx
          simp only [rowsX, Option.some.injEq] at h6
          have hrne : rows ≠ [] := by
            intro e
            subst e
            cases hS : st with
            | nil => rw [hS] at h2; simp only [rowsD, Option.some.injEq] at h2; exact hne h2.symm
            | cons q r => obtain ⟨i1, c1⟩ := q; rw [hS] at h2; simp [rowsD] at h2
          have hog : ∃ og', ((SM.c (.own cols0) og).map (killD (s' :: st.map (·.2) ++ [c]))).wrote = .c (.own (mapL (killD (s' :: st.map (·.2) ++ [c])) cols0)) og' ∧ OgOk C2 (upd φ s' (.d (.sl z0 rows') o)) tm (.own (mapL (killD (s' :: st.map (·.2) ++ [c])) cols0)) o (.sl z0 rows') (tm s') og' := by
            cases og with
            | no => exact ⟨.no, rfl, fun _ => e3 rfl⟩
            | _ => exact ⟨.dead, rfl, fun _ => trivial⟩
          obtain ⟨b0, off0, cap0, arr0, hval, hnode0, hcap, hsz, hz, hz0⟩ := e2.node hrne
          simp only [nodeC] at hn
          obtain ⟨g1, g2⟩ := hroot b0 off0 cap0 z0 hnode0.own
          obtain ⟨ty0, hty0⟩ := hnode0.heap
          obtain ⟨og', k1, k2⟩ := hog
          rw [k1]
          have hk : Kids w' C2 ⟨s', []⟩ (mapL (killD (s' :: st.map (·.2) ++ [c])) cols0) rows' (fun i j => arr0.getD (off0 + i * z0 + j) undef) ∧ rows'.length = rows.length ∧ ∀ row ∈ rows', row.length = z0 := by
            by_cases hst : st = []
            · subst hst
              simp only [List.map_nil, colsD, Option.some.injEq] at hn
              subst hn
              have hrs : rs = rows := by simp only [rowsD, Option.some.injEq] at h2; exact h2.symm
              subst hrs
              have hsame : b0 = b ∧ off0 = off ∧ z0 = z := by
                have ho := hnode0.own
                have hb := h.inj _ _ _ _ hnode.own ho rfl
                subst hb
                have ho2 := hnode.own.symm.trans ho
                simp only [Option.some.injEq, Ow.mk.injEq] at ho2
                exact ⟨rfl, ho2.2.1.symm, ho2.2.2.2.symm⟩
              obtain ⟨rfl, rfl, rfl⟩ := hsame
              obtain ⟨arr', ty', q1, q2, q3⟩ := hturn.ex
              rw [g2, hty0] at q1
              cases q1
              have hrs' : rs.set i (row.take c ++ [d'] ++ row.drop (c + [d'].length)) = rows' := by rw [h6]; rfl
              rw [hrs'] at q3
              have hrow' := hturn.rows
              rw [hrs'] at hrow'
              have hlr := hturn.len
              rw [hrs'] at hlr
              exact ⟨q3, hlr, fun row1 hr1 => by rw [hrow' row1 hr1, mapL_len]; exact hz⟩
            · have hk := hset hst cols0 _ hnode0.kids hn
              rw [← h6] at hk
              refine ⟨hk, by rw [h6]; exact setD_length _ _ _ hst, ?_⟩
              intro row1 hr1
              rw [h6] at hr1
              refine setD_rows _ z0 st rows hst ?_ row1 hr1
              intro row2 hr2
              obtain ⟨i2, hi2⟩ := List.getElem?_of_mem hr2
              rw [hnode0.len i2 row2 hi2, hz]
          obtain ⟨hk, hlr, hrz⟩ := hk
          refine ⟨_, o, rfl, ?_, k2⟩
          rw [hval, ← hlr]
          exact .own g1 (by rw [g2]; exact hty0) (by omega) hsz (by rw [mapL_len]; exact hz) hz0 hrz hk
      | _ => simp [nodeC] at hn
    | _ => simp [nodeC] at hn
  · rw [hμ s' hss, fin_map]
    by_cases hg : s' = gam
    · subst hg
      right
      rw [hgam]
      trivial
    · rcases h.slot s' with hu | hc
      · left; simp [upd, hss, hu]
      · right
        have hc2 : Claim w C φ tm s' (finSM (s :: st.map (·.2)) c 1 (μ.get s')) := ClaimX.fin hc
        refine hc2.keep _ (by simp [upd, hss]) rfl ?_ hvok ?_ ?_ ?_
        · intro b' q off' c' z' hb'
          have hn := hs.node hb' (by
            intro q' e
            simp only [Pl.ext, Pl.mk.injEq] at e
            exact hss e.1)
          exact ⟨hs.keep b' _ hb' hn, hs.same b' (h.own b' _ hb').1 hn⟩
        · intro i' b' hb'
          have := (hvok [.arg i'] [.arg i'] (by simp [killD]) b' (.inr ⟨.arg i', by simp, hb'⟩)).2
          exact ⟨by rw [hs.pa]; exact hb', this⟩
        · intro b' hb'
          have := (hvok [] [] (by simp [killD]) b' (.inl hb')).2
          exact ⟨hs.keepG b' hb', this⟩
        · refine refKeep_fin _ (μ.get s') s rfl (fun s2 hs2 => by simp [upd, hs2]) (fun b' o ho hu => .inl ?_) (noG_spec (hnog s')) hdata
          refine hs.keep b' o ho ?_
          intro hl
          obtain ⟨o1, q1, k1, k2⟩ := hs.lent b' hl
          rw [ho] at k1; cases k1
          refine under_false hu (k := 0) (by omega) ?_
          rw [k2, Pl.lab_ext, hlab]
          exact List.prefix_append _ _
end
end Go.Ev

/- A call that writes what lies behind its first argument. -/
namespace Go.Ev

mutual
theorem map_prov (f : PF) (hf : f [] = some []) : ∀ (m : M), m.prov = some [] → m.map f = m
  | .u, h => by simp [M.prov] at h
  | .emp, _ => rfl
  | .view ps, h => by
    simp only [M.prov, Option.some.injEq] at h
    subst h
    simp [M.map, hf]
  | .own cols, h => by
    simp only [M.prov] at h
    simp only [M.map, mapL_prov f hf cols h]
theorem mapL_prov (f : PF) (hf : f [] = some []) : ∀ (l : List M), provL l = some [] → mapL f l = l
  | [], _ => rfl
  | m :: l, h => by
    simp only [provL] at h
    split at h
    · rename_i a b ha hb
      simp only [Option.some.injEq, List.append_eq_nil_iff] at h
      rw [h.1] at ha
      rw [h.2] at hb
      simp only [mapL, map_prov f hf m ha, mapL_prov f hf l hb]
    · cases h
end

/-- Nothing is viewed but what is frozen. -/
def nilF : PF := fun ps => if ps.isEmpty then some ps else none

theorem nilF_some {ps ps' : List Pv} (h : nilF ps = some ps') : ps = [] ∧ ps' = [] := by
  unfold nilF at h
  split at h
  · rename_i e
    cases h
    have := List.isEmpty_iff.1 e
    exact ⟨this, this⟩
  · cases h

section
variable {V : Env} {A : Start} {w w' : World} {μ μ' : Mu} {φ φ' : Fr} {C : Cx} {a : Act} {g : Nat → Value} {o : Oper} {x : X}

theorem hd_rep {tm : Nat → Value} (h : St A w μ φ tm C) {cols : List M} {z : Nat} {rows : List (List D)} {v u : Value} {p : Pl} (hh : HdOk C φ p (.sl z rows) v) (hr : Rep w C p (.own cols) (.sl z rows) u) (hz : cols.length = z) (hz0 : 0 < z) :
    Rep w C p (.own cols) (.sl z rows) v ∧ ((v = .slice none 0 0 ∧ rows = []) ∨ ∃ b off c, v = .slice (some ⟨b, off, none⟩) rows.length c ∧ C.own b = some ⟨p, off, c, z⟩) ∧ (rows ≠ [] → u = v) ∧
      ∀ b off c, v = .slice (some ⟨b, off, none⟩) rows.length c → (u = v ∨ u = .slice none 0 0) := by
  rcases hh with ⟨rfl, z', hd, _⟩ | ⟨b, off, c, z', rows0, rows1, hd, hl, rfl, ho, _⟩
  · cases hd
    exact ⟨.nil, .inl ⟨rfl, rfl⟩, fun e => (e rfl).elim, fun b off c e => by cases e⟩
  · cases hd
    rw [← hl]
    cases hr with
    | nil =>
      obtain ⟨arr, ty, h1, h2⟩ := h.oko b _ ho
      refine ⟨?_, .inr ⟨b, off, c, rfl, ho⟩, fun e => (e rfl).elim, fun _ _ _ _ => .inr rfl⟩
      refine .own ho h1 (by simp) h2 hz hz0 (by simp) ?_
      intro i j row d m q1
      simp at q1
    | @own _ _ _ _ b1 off1 c1 arr ty h1 h2 h3 h4 h5 h6 h7 h8 =>
      have hb := h.inj b1 b _ _ h1 ho rfl
      subst hb
      rw [h1] at ho
      cases ho
      exact ⟨.own h1 h2 h3 h4 h5 h6 h7 h8, .inr ⟨b1, off, c, rfl, h1⟩, fun _ => rfl, fun _ _ _ _ => .inl rfl⟩

theorem data_cell {p : Pl} {st : List (Nat × Nat)} {i c : Nat} {d : D} (hp : p.st = st ++ [(i, c)]) (h : dataAt φ p = some d) : ∃ rows rs row, rowsX (φ p.s) = some rows ∧ rowsD rows st = some rs ∧ rs[i]? = some row ∧ row[c]? = some d := by
  unfold dataAt at h
  rw [hp] at h
  cases hst : st ++ [(i, c)] with
  | nil => simp at hst
  | cons q l =>
    rw [hst] at h
    simp only at h
    unfold cellsAt at h
    rw [hp] at h
    cases h1 : rowsX (φ p.s) with
    | none => simp only [h1] at h; cases h
    | some rows =>
      simp only [h1] at h
      rw [cellsIn_snoc] at h
      cases h2 : rowsD rows st with
      | none => simp only [h2] at h; cases h
      | some rs =>
        simp only [h2] at h
        cases h3 : rs[i]? with
        | none => simp only [h3] at h; cases h
        | some row =>
          simp only [h3] at h
          refine ⟨rows, rs, row, rfl, h2, h3, ?_⟩
          split at h
          · rename_i y hy
            cases h
            split at hy
            · rename_i hle
              rw [List.take_one, List.head?_drop] at hy
              have hlt : c < row.length := by omega
              rw [List.getElem?_eq_getElem hlt] at hy ⊢
              simpa using hy
            · cases hy
          · cases h

theorem cellM_snoc {s : Nat} {st : List (Nat × Nat)} {i c : Nat} {m' : M} (h : cellM μ s ((st ++ [(i, c)]).map (·.2)) = some m') : ∃ cols, nodeC (μ.get s) (st.map (·.2)) = some cols ∧ cols[c]? = some m' := by
  have hcs : (st ++ [(i, c)]).map (·.2) = st.map (·.2) ++ [c] := by simp
  rw [hcs] at h
  unfold cellM at h
  cases hx : st.map (·.2) ++ [c] with
  | nil => simp at hx
  | cons y ys =>
    rw [hx] at h
    simp only at h
    rw [← hx] at h
    simp only [List.dropLast_concat] at h
    split at h
    · rename_i cols hn
      refine ⟨cols, hn, ?_⟩
      simpa using h
    · cases h

/-- What lies in the cell, or the slot. -/
theorem cell_rep {tm : Nat → Value} (h : St A w μ φ tm C) {p : Pl} {m : M} {d : D} (hm : cellM μ p.s (p.st.map (·.2)) = some m) (hd : dataAt φ p = some d) : ∃ u, Rep w C p m d u ∧ (p.st = [] → u = tm p.s ∧ ∃ o og, φ p.s = .d d o ∧ μ.get p.s = .c m og ∧ OgOk C φ tm m o d u og) := by
  obtain ⟨ps, pst⟩ := p
  simp only at hm hd ⊢
  rcases List.eq_nil_or_concat pst with rfl | ⟨st, ⟨i, c⟩, rfl⟩
  · simp only [List.map_nil, cellM] at hm
    split at hm
    · rename_i m0 og hmu
      cases hm
      unfold dataAt at hd
      simp only at hd
      split at hd
      · rename_i d0 o0 hphi
        cases hd
        have hc := (h.slot ps).resolve_left (by rw [hphi]; simp)
        unfold Claim at hc
        rw [hmu, hphi] at hc
        obtain ⟨d1, o1, e1, e2, e3⟩ := hc
        cases e1
        exact ⟨_, e2, fun _ => ⟨rfl, o0, og, hphi, hmu, e3⟩⟩
      · cases hd
    · cases hm
  · rw [List.concat_eq_append] at hm hd ⊢
    obtain ⟨rows, rs, row, h1, h2, h3, h4⟩ := data_cell rfl hd
    obtain ⟨cols, hn, hm'⟩ := cellM_snoc hm
    have hne : rs ≠ [] := by intro e; rw [e] at h3; simp at h3
    obtain ⟨b, off, cap, z, arr, hnode⟩ := h.node_at hn h1 h2 hne
    exact ⟨_, hnode.kids i c row d m h3 h4 hm', fun e => by simp at e⟩

/-- What is viewed, and not behind a place, is not owned there. -/
theorem not_behind {tm : Nat → Value} (h : St A w μ φ tm C) {p : Pl} {ps : List Pv} (hk : (killD p.lab ps).isSome = true) {b : Nat} (hb : okB C ps b) {o : Ow} (ho : C.own b = some o) {q : List (Nat × Nat)} : o.p ≠ p.ext q := by
  intro e
  obtain ⟨_, g2, g3, _⟩ := h.own b o ho
  rcases hb with hb | ⟨v, hv, hb⟩
  · exact g2 hb
  · cases v with
    | arg i => exact g3 i hb
    | lab l =>
      obtain ⟨o', k1, k2⟩ := hb
      rw [ho] at k1; cases k1
      rw [e, Pl.lab_ext] at k2
      unfold killD at hk
      split at hk
      · cases hk
      · rename_i hn
        apply hn
        rw [List.any_eq_true]
        refine ⟨_, hv, ?_⟩
        rcases prefix_comp k2 (List.prefix_append p.lab (q.map (·.2))) with e | e
        · simp [isPre_iff.2 e]
        · simp [isPre_iff.2 e]

def lentN (C : Cx) (p : Pl) : Nat → Option Ow := fun b => (C.own b).bind fun o => (p.sub o.p).map fun q => { o with p := ⟨0, q⟩ }

theorem lentN_some {p : Pl} {b : Nat} {o : Ow} (h : lentN C p b = some o) : ∃ o0 q, C.own b = some o0 ∧ o0.p = p.ext q ∧ o = { o0 with p := ⟨0, q⟩ } := by
  unfold lentN at h
  cases ho : C.own b with
  | none => rw [ho] at h; cases h
  | some o0 =>
    rw [ho] at h
    simp only [Option.bind_some, Option.map_eq_some_iff] at h
    obtain ⟨q, h1, rfl⟩ := h
    exact ⟨o0, q, rfl, sub_some.1 h1, rfl⟩

theorem lentN_of {p : Pl} {b off c z : Nat} {q : List (Nat × Nat)} (h : C.own b = some ⟨p.ext q, off, c, z⟩) : lentN C p b = some ⟨⟨0, q⟩, off, c, z⟩ := by
  unfold lentN
  rw [h]
  simp only [Option.bind_some]
  rw [sub_some.2 rfl]
  rfl

/-- What is owned once the call is done. -/
def Cx.back (C C' : Cx) (p : Pl) (n : Nat) : Cx where
  own b := if (lentN C p b).isSome || decide (n ≤ b) then (C'.own b).map fun o => { o with p := p.ext o.p.st } else C.own b
  G := C'.G
  PA := C.PA

end
end Go.Ev

/- The state behind such a call. -/
namespace Go.Ev
section
variable {V : Env} {A : Start} {w w' : World} {μ μ' : Mu} {φ φ' : Fr} {C C' : Cx} {tm : Nat → Value} {a : Act} {g : Nat → Value} {o : Oper} {x : X}
variable {p : Pl} {PA : Nat → Nat → Prop} {m : M} {v : Value} {d' : D} {r : X} {vr : Value}

theorem sub_back (h : St A w μ φ tm C) (hD : DoneM w w' (lentN C p) C.G PA m v d' r vr C') : Sub w w' C (C.back C' p w.heap.size) p (fun b => (lentN C p b).isSome = true) := by
  have hkeep : ∀ b o, C.own b = some o → ¬ (lentN C p b).isSome = true → (C.back C' p w.heap.size).own b = some o := by
    intro b o ho hn
    have := (h.own b o ho).1
    simp only [Cx.back]
    rw [if_neg]
    · exact ho
    · simp only [Bool.or_eq_true, decide_eq_true_eq, not_or]
      exact ⟨hn, by omega⟩
  have hcase : ∀ b o, (C.back C' p w.heap.size).own b = some o → (C.own b = some o ∧ ¬ (lentN C p b).isSome = true ∧ b < w.heap.size) ∨ (((lentN C p b).isSome = true ∨ w.heap.size ≤ b) ∧ ∃ o1, C'.own b = some o1 ∧ o = { o1 with p := p.ext o1.p.st }) := by
    intro b o ho
    simp only [Cx.back] at ho
    split at ho
    · rename_i hc
      right
      simp only [Bool.or_eq_true, decide_eq_true_eq] at hc
      rw [Option.map_eq_some_iff] at ho
      obtain ⟨o1, h1, h2⟩ := ho
      exact ⟨hc, o1, h1, h2.symm⟩
    · rename_i hc
      simp only [Bool.or_eq_true, decide_eq_true_eq, not_or] at hc
      exact .inl ⟨ho, hc.1, by omega⟩
  refine ⟨?_, hD.size, ?_, hD.calm, hkeep, ?_, ?_, ?_, ?_, hD.keep, rfl, ?_⟩
  · intro b hb
    obtain ⟨o, ho⟩ := Option.isSome_iff_exists.1 hb
    obtain ⟨o0, q, h1, h2, _⟩ := lentN_some ho
    exact ⟨o0, q, h1, h2⟩
  · intro b hb hn
    refine hD.same b hb ?_
    cases e : lentN C p b with
    | none => rfl
    | some y => rw [e] at hn; exact (hn rfl).elim
  · intro b o ho
    rcases hcase b o ho with ⟨h1, h2, _⟩ | ⟨h1, _⟩
    · exact .inl ⟨h1, h2⟩
    · exact .inr h1
  · intro b o ho
    rcases hcase b o ho with ⟨h1, h2, h3⟩ | ⟨h1, o1, h2, _⟩
    · refine ⟨Nat.lt_of_lt_of_le h3 hD.size, ?_⟩
      intro hg
      rcases hD.frz b hg with hg | ⟨hg | hg, _⟩
      · exact (h.own b o h1).2.1 hg
      · apply h2
        cases e : lentN C p b with
        | none => exact (hg e).elim
        | some y => rfl
      · omega
    · obtain ⟨_, k2, k3, _⟩ := hD.own b o1 h2
      exact ⟨k2, k3⟩
  · intro b b' o o' h1 h2 e
    rcases hcase b o h1 with ⟨a1, a2, a3⟩ | ⟨a1, o1, a2, rfl⟩ <;> rcases hcase b' o' h2 with ⟨b1, b2, b3⟩ | ⟨b1, o2, b2, rfl⟩
    · exact h.inj b b' o o' a1 b1 e
    · exfalso
      apply a2
      obtain ⟨p0, off, cap, z⟩ := o
      simp only at e
      rw [e] at a1
      rw [lentN_of a1]; rfl
    · exfalso
      apply b2
      obtain ⟨p0, off, cap, z⟩ := o'
      simp only at e
      rw [← e] at b1
      rw [lentN_of b1]; rfl
    · refine hD.inj b b' o1 o2 a2 b2 ?_
      simp only [Pl.ext, Pl.mk.injEq, true_and] at e
      have e2 := List.append_cancel_left e
      have s1 := (hD.own b o1 a2).2.2.2
      have s2 := (hD.own b' o2 b2).2.2.2
      obtain ⟨⟨_, _⟩, _, _, _⟩ := o1
      obtain ⟨⟨_, _⟩, _, _, _⟩ := o2
      simp only at s1 s2 e2 ⊢
      rw [s1, s2, e2]
  · intro b hb
    rcases hD.frz b hb with hg | ⟨hg | hg, h3⟩
    · exact .inl hg
    · refine .inr ⟨.inl ?_, h3⟩
      cases e : lentN C p b with
      | none => exact (hg e).elim
      | some y => rfl
    · exact .inr ⟨.inr hg, h3⟩
  · intro b o ho
    rcases hcase b o ho with ⟨h1, h2, h3⟩ | ⟨h1, o1, h2, rfl⟩
    · obtain ⟨arr, ty, k1, k2⟩ := h.oko b o h1
      refine ⟨arr, ty, ?_, k2⟩
      rw [hD.same b h3]
      · exact k1
      · cases e : lentN C p b with
        | none => rfl
        | some y => rw [e] at h2; exact (h2 rfl).elim
    · exact hD.oko b o1 h2

theorem sub_nil (h : St A w μ φ tm C) (hD : DoneM w w' (fun _ => none) C.G PA m v d' r vr C') : Sub w w' C ⟨C.own, C'.G, C.PA⟩ p (fun _ => False) := by
  refine ⟨fun b hb => hb.elim, hD.size, fun b hb _ => hD.same b hb rfl, hD.calm, fun b o ho _ => ho, fun b o ho => .inl ⟨ho, fun h => h⟩, ?_, h.inj, ?_, hD.keep, rfl, ?_⟩
  · intro b o ho
    obtain ⟨h1, h2, _⟩ := h.own b o ho
    refine ⟨Nat.lt_of_lt_of_le h1 hD.size, ?_⟩
    intro hg
    rcases hD.frz b hg with hg | ⟨hg | hg, _⟩
    · exact h2 hg
    · exact hg rfl
    · omega
  · intro b hb
    rcases hD.frz b hb with hg | ⟨hg | hg, h3⟩
    · exact .inl hg
    · exact (hg rfl).elim
    · exact .inr ⟨.inr hg, h3⟩
  · intro b o ho
    obtain ⟨arr, ty, k1, k2⟩ := h.oko b o ho
    exact ⟨arr, ty, by rw [hD.same b (h.own b o ho).1 rfl]; exact k1, k2⟩

/-- What came back stands at its place. -/
theorem rep_back (h : St A w μ φ tm C) (hm : m.prov = some []) (hD : DoneM w w' (lentN C p) C.G PA m v d' r vr C') : Rep w' (C.back C' p w.heap.size) p m d' v := by
  have := hD.out.move (w' := w') (C' := C.back C' p w.heap.size) p nilF ?_ ?_
  · rwa [map_prov nilF rfl m hm] at this
  · intro b q off c z hb
    refine ⟨?_, rfl⟩
    simp only [Cx.back]
    rw [if_pos]
    · rw [hb]; simp [Pl.ext]
    · simp only [Bool.or_eq_true, decide_eq_true_eq]
      rcases (hD.own b _ hb).1 with h1 | h1
      · left
        cases e : lentN C p b with
        | none => exact (h1 e).elim
        | some y => rfl
      · exact .inr h1
  · intro ps ps' hf b hb
    obtain ⟨rfl, rfl⟩ := nilF_some hf
    refine ⟨?_, rfl⟩
    rcases hb with hb | ⟨_, hp, _⟩
    · exact .inl hb
    · simp at hp

theorem backM_snoc {s : Nat} {st : List (Nat × Nat)} {i c : Nat} : backM μ s ((st ++ [(i, c)]).map (·.2)) m = Mu.set (List.map (fun p => (p.1, finSM (s :: st.map (·.2)) c 1 (p.2.map (killD (s :: st.map (·.2) ++ [c]))))) μ) s ((μ.get s).map (killD (s :: st.map (·.2) ++ [c]))).wrote := by
  have hcs : (st ++ [(i, c)]).map (·.2) = st.map (·.2) ++ [c] := by simp
  rw [hcs]
  unfold backM
  cases hx : st.map (·.2) ++ [c] with
  | nil => simp at hx
  | cons y ys =>
    simp only
    rw [← hx]
    simp

theorem callM_back (h : St A w μ φ tm C) {cols : List M} {m' : M} (hm' : cellM μ p.s (p.st.map (·.2)) = some m') (hown : m'.isOwn = true) (hle1 : leS m' (.own cols) = true) (hle2 : leS (.own cols) (m'.map (killD p.lab)) = true)
    (hs1 : p.s < 1000) (hG : μ.okG = true) {z : Nat} {rows r' : List (List D)} (hz : cols.length = z) (hz0 : 0 < z) (hprov : (M.own cols).prov = some []) (hh : HdOk C φ p (.sl z rows) v) (hdat : dataAt φ p = some (.sl z rows)) (htm : p.st = [] → tm p.s = v)
    (hD : (v = .slice none 0 0 ∧ DoneM w w' (fun _ => none) C.G PA (.own cols) v (.sl z r') r vr C') ∨ (v ≠ .slice none 0 0 ∧ DoneM w w' (lentN C p) C.G PA (.own cols) v (.sl z r') r vr C'))
    (hset : setAt φ p (.sl z r') = some φ') : ∃ C2, St A w' (backM μ p.s (p.st.map (·.2)) (.own cols)) φ' tm C2 ∧ C2.G = C'.G := by
  obtain ⟨C2, L, hsub, hrep, hCG, hLn⟩ : ∃ C2 L, Sub w w' C C2 p L ∧ Rep w' C2 p (.own cols) (.sl z r') v ∧ C2.G = C'.G ∧ (v = .slice none 0 0 → ∀ b, ¬ L b) := by
    rcases hD with ⟨hv, hD⟩ | ⟨hv, hD⟩
    · refine ⟨_, _, sub_nil h hD, ?_, rfl, fun _ _ h => h⟩
      have ho := hD.out
      subst hv
      cases ho
      exact .nil
    · exact ⟨_, _, sub_back h hD, rep_back h hprov hD, rfl, fun e => (hv e).elim⟩
  refine ⟨C2, ?_, hCG⟩
  obtain ⟨ps, pst⟩ := p
  simp only at hm' hs1 htm ⊢
  rcases List.eq_nil_or_concat pst with rfl | ⟨st, ⟨i, c⟩, rfl⟩
  · obtain ⟨u, _, hu2⟩ := cell_rep h (p := ⟨ps, []⟩) hm' hdat
    obtain ⟨hu3, o, og, hphi, hmu, hog⟩ := hu2 rfl
    unfold setAt at hset
    simp only at hset hphi hmu
    rw [hphi] at hset
    simp only [Option.some.injEq] at hset
    subst hset
    simp only [List.map_nil, backM, hmu]
    refine h.sub0 (by rw [hphi]; intro ds e; cases e) hs1 hsub (by rw [htm rfl]; exact hrep) ?_
    cases og with
    | no => exact .inr ⟨rfl, hog rfl⟩
    | _ => exact .inl rfl
  · rw [List.concat_eq_append] at *
    obtain ⟨cols0, hn, hc0⟩ := cellM_snoc hm'
    obtain ⟨hg0, hn0⟩ := okG_spec hG
    have hlab : (⟨ps, st ++ [(i, c)]⟩ : Pl).lab = ps :: st.map (·.2) ++ [c] := by simp [Pl.lab]
    have hput : putAt φ ⟨ps, st ++ [(i, c)]⟩ [.sl z r'] = some φ' := by
      unfold setAt at hset
      cases hst : st ++ [(i, c)] with
      | nil => simp at hst
      | cons y ys => rw [hst] at hset; exact hset
    rw [backM_snoc]
    refine h.sub1 hsub hn hput hg0 hn0 ?_ ?_ ?_
    · intro m1 d1 u q1 q2 q3
      rw [hc0] at q1; cases q1
      rw [hdat] at q2; cases q2
      rw [← hlab]
      obtain ⟨cols1, rfl⟩ : ∃ cols1, m' = .own cols1 := by
        cases m' <;> simp [M.isOwn] at hown
        exact ⟨_, rfl⟩
      obtain ⟨_, g2, g3, g4⟩ := hd_rep h hh (q3.leS hle1) hz hz0
      have hvrep := hrep.leS hle2
      by_cases hr0 : rows = []
      · subst hr0
        rcases g2 with ⟨hv, _⟩ | ⟨b, off, c1, hv, hb⟩
        · have hr' : r' = [] := by rw [hv] at hrep; cases hrep; rfl
          subst hr'
          cases q3 with
          | nil => exact .nil
          | own h1 h2 h3 h4 h5 h6 h7 h8 =>
            have hnl := hLn hv
            simp only [M.map]
            refine .own (hsub.keep _ _ h1 (hnl _)) (by rw [hsub.same _ (h.own _ _ h1).1 (hnl _)]; exact h2) h3 h4 (by rw [mapL_len]; exact h5) h6 (by simp) ?_
            intro i' j' row d m q1
            simp at q1
        · rcases g4 b off c1 hv with e | e
          · rw [e]; exact hvrep
          · rw [e]
            rw [hv] at hrep
            have hr' : r' = [] := by
              generalize hl : ([] : List (List D)).length = n at hrep
              cases hrep with
              | own h1 h2 h3 h4 h5 h6 h7 h8 => exact List.length_eq_zero_iff.1 hl.symm
            subst hr'
            exact .nil
      · rw [g3 hr0]; exact hvrep
    · intro s' hs'
      rw [get_set, if_neg hs']
      exact get_mapG (fun x => finSM (ps :: st.map (·.2)) c 1 (x.map (killD (ps :: st.map (·.2) ++ [c])))) rfl μ s'
    · rw [get_set, if_pos rfl]
end
end Go.Ev

/- Such a call as an operation. -/
namespace Go.Ev

theorem mutOk_spec {sg : Sig} {m : M} (h : mutOk sg = some m) : ∃ ps cols, sg.pms = .mut m :: ps ∧ sg.res = [.c (.view []) .no] ∧ ps.all quietB = true ∧ m.prov = some [] ∧ m = .own cols := by
  unfold mutOk at h
  split at h
  · rename_i m0 ps h1 h2
    split at h
    · rename_i hc
      cases h
      simp only [Bool.and_eq_true, decide_eq_true_eq] at hc
      obtain ⟨⟨g1, g2⟩, g3⟩ := hc
      cases m with
      | own cols => exact ⟨ps, cols, h1, h2, g1, g2, rfl⟩
      | _ => simp [M.isOwn] at g3
    · cases h
  · cases h

section
variable {V : Env} {A : Start} {w w' : World} {μ μ' : Mu} {φ φ' : Fr} {C : Cx} {a : Act} {g : Nat → Value} {o : Oper} {x : X}

structure ArgMOk (τ : List TE) (A : Start) (w : World) (μ : Mu) (φ : Fr) (C : Cx) (tm : Nat → Value) (cols : List M) (z : Nat) (rows : List (List D)) (p : Pl) (v : Value) (s : Nat) (cs : List Nat) : Prop where
  ps : p.s = s
  pst : p.st.map (·.2) = cs
  cell : ∃ m', cellM μ s cs = some m' ∧ m'.isOwn = true ∧ leS m' (.own cols) = true ∧ leS (.own cols) (m'.map (killD (s :: cs))) = true
  s1 : s < 1000
  okG : μ.okG = true
  z0 : cols.length = z ∧ 0 < z
  hd : HdOk C φ p (.sl z rows) v
  data : dataAt φ p = some (.sl z rows)
  tm0 : p.st = [] → tm s = v

theorem argMq_sound {y : Operand} {t s : Nat} {cs : List Nat} {m : M} (h : St A w μ φ (tmO a.tmps g) C) (hs : sm1 y = true) (hx : argX V.τ φ .mut y t = some x) (hm : argMq V.τ μ m y t = some (s, cs)) :
    ∃ cols z rows p, m = .own cols ∧ x = .d (.sl z rows) none ∧ (∀ ty, opX V.τ φ ty y = .d (.sl z rows) (some p)) ∧ ArgMOk V.τ A w μ φ C (tmO a.tmps g) cols z rows p (a.eval y) s cs := by
  unfold argMq at hm
  split at hm
  · rename_i m0 s0 cs0 hop
    split at hm
    · rename_i m' e cols hcell he
      split at hm
      · rename_i z0 hz0
        split at hm
        · rename_i hc
          simp only [Option.some.injEq, Prod.mk.injEq] at hm
          obtain ⟨rfl, rfl⟩ := hm
          simp only [Bool.and_eq_true, Nat.blt_eq, beq_iff_eq] at hc
          obtain ⟨⟨⟨⟨⟨⟨⟨c1, c2⟩, c3⟩, c4⟩, c5⟩, c6⟩, c7⟩, c8⟩ := hc
          obtain ⟨ty0, rfl⟩ : ∃ ty0, y = .tmp ty0 := by
            cases y with
            | tmp q => exact ⟨q, rfl⟩
            | const k =>
              exfalso
              unfold opM at hop
              split at hop
              · rename_i e; cases e
              · cases hop
              · split at hop <;> cases hop
              · cases hop
              · cases hop
            | func q => cases hop
            | global q => cases hop
          simp only [argX] at hx
          split at hx
          · rename_i z rows o' hox
            rw [he] at hx
            simp only at hx
            split at hx
            · rename_i hfit
              cases hx
              simp only [Bool.and_eq_true] at hfit
              have hzz : z = z0 := by
                have := hfit.2
                rw [hz0] at this
                simp only [fits, ZC.fit, Bool.and_true, beq_iff_eq] at this
                exact this.symm
              subst hzz
              have hcl := op_sound (τ := V.τ) (ty := t) (s := 0) h hs (by rw [hox]; simp)
              rw [hop, hox] at hcl
              obtain ⟨d, o2, e1, e2, e3⟩ := hcl
              cases e1
              obtain ⟨p, q1, q2, q3, q4, q5, q6⟩ := e3 rfl
              subst q1
              refine ⟨cols, z, rows, p, rfl, rfl, fun ty => ?_, q2, q3, ⟨m', hcell, c8, c2, c3⟩, c4, c5, ⟨c6, c7⟩, q4, q5 c1, fun hst => q6 ?_⟩
              · exact hox
              · rw [← q3, hst]; rfl
            · cases hx
          · cases hx
        · cases hm
      · cases hm
    · cases hm
  · cases hm

theorem s_callM {c : Call} {f : Nat} {S : Nat → Option (List PK)} {F : Nat → List X → Option (List X × List X)} {Sg : Nat → Option Sig} {sg : Sig} {next : Act → World → Prop} {Q : Exit → Act → World → Prop} (ho : o.op = .call c) (hcal : c.callee = .value (.func f))
    (hSg : Sg f = some sg) (hS : S f = some (sg.pms.map PM.pk)) (hD : DoesR (Abv A) V f sg (F f)) (h : St A w μ φ (tmO a.tmps g) C) (hs : c.args.toList.all sm1 = true) (hdst : ∀ d, o.dst = some d → d < 1000 ∧ d < a.tmps.size)
    (hx : callX V.τ S F f c o.dst [] φ = some φ') (hm : callMq V.τ Sg μ f c o.dst = some μ')
    (hK : ∀ v w' C2 g', St A w' μ' φ' (tmO (a.put o.dst v).tmps g') C2 → next (a.put o.dst v) w') : o.wp V.P a w next Q := by
  unfold callMq at hm
  rw [hSg] at hm
  simp only at hm
  split at hm
  · rename_i m p0 ps y ys t ts hmut hpms0 hargs htys
    obtain ⟨ps', cols0, hpms, hres, hqu, hprov, hmo⟩ := mutOk_spec hmut
    rw [hpms] at hpms0
    simp only [List.cons.injEq] at hpms0
    obtain ⟨rfl, rfl⟩ := hpms0
    split at hm
    · rename_i hty
      split at hm
      · rename_i s cs pss hargm hpss
        split at hm
        · rename_i hkill
          rw [List.all_eq_true] at hkill
          rw [hargs] at hs
          simp only [List.all_cons, Bool.and_eq_true] at hs
          unfold callX at hx
          rw [hS] at hx
          simp only at hx
          have hlq := (argsQ_len0 hpss).1
          have hl0 : c.args.toList.length = c.args.size := by simp
          have hsz : c.args.size = (sg.pms.map PM.pk).length := by rw [← hl0, hargs, hpms]; simp [hlq]
          rw [hsz, List.take_length] at hx
          rw [hargs, htys, hpms] at hx
          simp only [List.map_cons, argsX] at hx
          split at hx
          · rename_i as has
            split at has
            · rename_i a0 as' ha0 has'
              cases has
              obtain ⟨cols, z, rows, p, rfl, rfl, hop, hA⟩ := argMq_sound h hs.1 (by simpa [PM.pk] using ha0) hargm
              split at hx
              · rename_i rs outs hF
                rw [List.append_nil] at hF
                split at hx
                · rename_i h8
                  split at hx
                  · rename_i φ1 hback
                    cases hx
                    obtain ⟨⟨fn, b, hf, hbd, hname⟩, _, hDM, _⟩ := hD
                    have hDM := hDM _ hmut
                    obtain ⟨l1, l2, l3, harg⟩ := argsQ_sound h hs.2 has' hpss
                    have hrun : (execOp a.eval o).run V.P w = .ok (.enter f ((y :: ys).map a.eval).toArray) w := by
                      have e1 : c.args.map a.eval = ((y :: ys).map a.eval).toArray := by apply Array.ext'; rw [← hargs]; simp
                      simp only [execOp, ho, resolve, hcal]
                      have e2 : a.eval (.func f) = .func (.func f) #[] #[] := rfl
                      simp [e2, Deferred.ofValue, invoke, callFunc, hf, hname, hbd, e1]
                    have hlab : p.lab = s :: cs := by rw [Pl.lab, hA.ps, hA.pst]
                    obtain ⟨m', hcell, hcown, hle1, hle2⟩ := hA.cell
                    obtain ⟨u, hrep, _⟩ := cell_rep h (p := p) (by rw [hA.ps, hA.pst]; exact hcell) hA.data
                    obtain ⟨hvrep, hvcase, _, _⟩ := hd_rep h hA.hd (hrep.leS hle1) hA.z0.1 hA.z0.2
                    -- what is lent
                    obtain ⟨N0, hN0, hNs, hNrep⟩ : ∃ N0 : Nat → Option Ow, ((a.eval y = .slice none 0 0 ∧ N0 = fun _ => none) ∨ (a.eval y ≠ .slice none 0 0 ∧ N0 = lentN C p)) ∧
                        (∀ b o, N0 b = some o → ∃ o0 q, C.own b = some o0 ∧ o0.p = p.ext q ∧ o = { o0 with p := ⟨0, q⟩ }) ∧
                        ∀ PA, Rep w ⟨N0, C.G, PA⟩ ⟨0, []⟩ (.own cols) (.sl z rows) (a.eval y) := by
                      rcases hvcase with ⟨hv, rfl⟩ | ⟨b, off, c1, hv, hb⟩
                      · exact ⟨_, .inl ⟨hv, rfl⟩, fun b o hh => by simp at hh, fun PA => by rw [hv]; exact .nil⟩
                      · refine ⟨_, .inr ⟨by rw [hv]; simp, rfl⟩, fun b o hh => lentN_some hh, fun PA => ?_⟩
                        have := hvrep.move (w' := w) (C' := ⟨lentN C p, C.G, PA⟩) ⟨0, []⟩ nilF ?_ ?_
                        · rwa [map_prov nilF rfl _ hprov] at this
                        · intro b q off c z hb
                          refine ⟨?_, rfl⟩
                          have := lentN_of hb
                          simpa [Pl.ext] using this
                        · intro qs qs' hf b hb
                          obtain ⟨rfl, rfl⟩ := nilF_some hf
                          refine ⟨?_, rfl⟩
                          rcases hb with hb | ⟨_, hq, _⟩
                          · exact .inl hb
                          · simp at hq
                    let PA : Nat → Nat → Prop := fun i b => match i with
                      | 0 => False
                      | j + 1 => okB C (pss.getD j []) b
                    unfold Oper.wp
                    rw [hrun, Oper.upon_enter]
                    refine (hDM w N0 C.G PA ((y :: ys).map a.eval) (.d (.sl z rows) none :: as') h.abv (by rw [hpms]; simp [hlq]) (by rw [hpms]; simp [l1]) (fun b hb => (h.frz b hb).1) ?_ ?_ ?_ ?_ ?_ (.sl z rows) (a.eval y) rfl rfl (hNrep PA) rs outs hF).mono ?_
                    · intro i b hb
                      cases i with
                      | zero => exact hb.elim
                      | succ j => exact h.ok_lt hb
                    · intro b o hb
                      obtain ⟨o0, q, k1, k2, rfl⟩ := hNs b o hb
                      obtain ⟨g1, g2, _⟩ := h.own b o0 k1
                      refine ⟨g1, g2, ?_, rfl⟩
                      intro i hi
                      cases i with
                      | zero => exact hi
                      | succ j =>
                        refine not_behind h (p := p) (ps := pss.getD j []) ?_ hi k1 k2
                        rw [hlab]
                        by_cases hj : j < pss.length
                        · have : pss.getD j [] = pss[j] := by simp [List.getD_eq_getElem?_getD, hj]
                          rw [this]
                          exact hkill _ (List.getElem_mem hj)
                        · have : pss.getD j [] = [] := by simp [List.getD_eq_getElem?_getD]; rw [List.getElem?_eq_none (by omega)]; rfl
                          rw [this]
                          simp [killD]
                    · intro b b' o o' h1 h2 e
                      obtain ⟨o1, q1, k1, k2, rfl⟩ := hNs b o h1
                      obtain ⟨o2, q2, j1, j2, rfl⟩ := hNs b' o' h2
                      simp only [Pl.mk.injEq, true_and] at e
                      refine h.inj b b' o1 o2 k1 j1 ?_
                      rw [k2, j2, e]
                    · intro b o hb
                      obtain ⟨o0, q, k1, k2, rfl⟩ := hNs b o hb
                      exact h.oko b o0 k1
                    · intro i x v pm ty q1 q2 q3 q4
                      rw [hpms] at q3
                      rw [hty] at q4
                      simp only [List.map_cons, List.getElem?_cons_succ] at q1 q2 q3 q4
                      rw [List.getElem?_map, Option.map_eq_some_iff] at q2
                      obtain ⟨y', hy', rfl⟩ := q2
                      exact harg i x y' pm ty q1 hy' q3 q4
                    · rintro e w' ⟨r, vr, d', C', rfl, hout, rfl, hdone⟩
                      -- what is put back
                      cases outs with
                      | nil => cases hout
                      | cons o0 os =>
                        simp only [List.head?_cons, Option.some.injEq] at hout
                        subst hout
                        simp only [backsX] at hback
                        split at hback
                        · rename_i φ2 hb1
                          have hφ := backs_val (by
                            intro k hk
                            rw [List.mem_map] at hk
                            obtain ⟨pm, hpm, rfl⟩ := hk
                            exact argsQ_val hpss pm hpm) hback
                          subst hφ
                          simp only [PM.pk, backX] at hb1
                          rw [hop 0] at hb1
                          split at hb1
                          · rename_i z1 rows1 p1 o1 z' r' o2 e1 e2
                            cases e1
                            cases e2
                            split at hb1
                            · rename_i hzz
                              subst hzz
                              have hN0' : (a.eval y = .slice none 0 0 ∧ DoneM w w' (fun _ => none) C.G PA (.own cols) (a.eval y) (.sl z' r') r vr C') ∨ (a.eval y ≠ .slice none 0 0 ∧ DoneM w w' (lentN C p) C.G PA (.own cols) (a.eval y) (.sl z' r') r vr C') := by
                                rcases hN0 with ⟨k1, rfl⟩ | ⟨k1, rfl⟩
                                · exact .inl ⟨k1, hdone⟩
                                · exact .inr ⟨k1, hdone⟩
                              obtain ⟨C2, hst2, hCG⟩ := callM_back h (by rw [hA.ps, hA.pst]; exact hcell) hcown hle1 (by rw [hlab]; exact hle2) (by rw [hA.ps]; exact hA.s1) hA.okG hA.z0.1 hA.z0.2 hprov hA.hd hA.data (by rw [hA.ps]; exact hA.tm0) hN0' hb1
                              rw [hA.ps, hA.pst] at hst2
                              have hcl : ∀ d0, ClaimX w' C2 φ1 (tmO a.tmps g) d0 r vr (.c (.view []) .no) := by
                                intro d0
                                obtain ⟨dd, oo, q1, q2, q3⟩ := hdone.res
                                refine ⟨dd, oo, q1, ?_, q3⟩
                                cases q2 with
                                | view hrd =>
                                  refine .view (hrd.mono fun b hb => ⟨?_, rfl⟩)
                                  rcases hb with hb | ⟨_, hq, _⟩
                                  · left; rw [hCG]; exact hb
                                  · simp at hq
                              have key : ∃ C3, St A w' μ' (putRes o.dst [r] φ1) (tmO (a.put o.dst vr).tmps g) C3 := by
                                cases hds : o.dst with
                                | none =>
                                  rw [hds] at hm
                                  simp only [putResM, Option.some.injEq] at hm
                                  subst hm
                                  exact ⟨C2, hst2⟩
                                | some d =>
                                  obtain ⟨hd1, hsz1⟩ := hdst d hds
                                  rw [hds] at hm
                                  simp only [putResM, Option.some.injEq] at hm
                                  subst hm
                                  have h4 := hst2.putV (d := d) (x := r) (v := vr) hd1 rfl (hcl d)
                                  exact ⟨C2.drop d w'.heap.size fun _ => none, by rw [tm_put hd1 hsz1]; exact h4⟩
                              obtain ⟨C3, h3⟩ := key
                              exact hK vr w' C3 g h3
                            · cases hb1
                          · cases hb1
                        · cases hback
                  · cases hx
                · cases hx
              · cases hx
            · cases has
          · cases hx
        · cases hm
      · cases hm
    · cases hm
  · cases hm
end
end Go.Ev

/- A struct that is loaded from a box that is given up. -/
namespace Go.Ev
section
variable {V : Env} {A : Start} {w w' : World} {μ μ' : Mu} {φ φ' : Fr} {C : Cx} {a : Act} {g : Nat → Value} {o : Oper} {x : X}

theorem s_loadT {t : Nat} {y : Operand} {d : Nat} (ho : o.op = .load t y) (hd : o.dst = some d) (hd1 : d < 1000) (hsz : d < a.tmps.size) (h : St A w μ φ (tmO a.tmps g) C) (hs : sm1 y = true)
    (hx : pureX V.τ φ o.op o.type = some x) (hm : loadT V.τ μ t y d = some μ') : OpOk V A w a g o (upd φ d x) μ' := by
  unfold loadT at hm
  rw [ho] at hx
  simp only [pureX] at hx
  split at hx
  · rename_i p hp
    have hc := pt_sound h hs hp
    split at hm
    · rename_i s e hop he
      split at hm
      · rename_i ms hms
        split at hm
        · rename_i hcond
          simp only [Bool.and_eq_true, beq_iff_eq, bne_iff_ne, ne_eq] at hcond
          obtain ⟨⟨⟨hag, hml⟩, hread⟩, hsd⟩ := hcond
          cases hm
          rw [hop] at hc
          obtain ⟨p', e1, rfl, hcs, hpt⟩ := hc 0
          cases e1
          have he' : V.get t = some e := he
          have hcl0 := h.clear hd1
          have hfr : FreeAt (C.drop d w.heap.size fun _ => none) d := freeAt_drop fun b o hb => (h.own b o hb).1
          have hhit : hit d p.s = false := by
            cases hh : hit d p.s with
            | false => rfl
            | true => rw [get_clear, hh] at hms; cases hms
          obtain ⟨st, i, c, b0, off0, cap0, z0, hp0, hown0, hv0⟩ := id hpt
          have hst0 : st = [] ∧ c = 0 := by
            rw [hp0] at hcs
            simp only [List.map_append, List.map_cons, List.map_nil] at hcs
            cases st with
            | nil => simp at hcs; exact ⟨rfl, hcs⟩
            | cons q r => simp at hcs
          obtain ⟨rfl, rfl⟩ := hst0
          have hpt' : PtOk (C.drop d w.heap.size fun _ => none) p (a.eval y) := ⟨[], i, 0, b0, off0, cap0, z0, hp0, Cx.drop_own hown0 (h.own b0 _ hown0).1 hhit, hv0⟩
          unfold loadX at hx
          rw [he] at hx
          simp only at hx
          split at hx
          · rename_i ds hds
            split at hx
            · rename_i hfit
              obtain ⟨b, off, cap, z, arr, ty, rows, rs, row, q1, q2, q3, r1, r2, r3, q4, q5, q6, q7⟩ := hcl0.cells hpt' hp0 (cols := ms) (by rw [hms]; rfl) hds
              have hi0 : i = 0 := by
                have hu : φ p.s ≠ .u := by intro e; rw [e] at r1; cases r1
                have hbx := (hcl0.slot p.s).resolve_left hu
                unfold Claim at hbx
                rw [hms] at hbx
                obtain ⟨ds0, _, _, _, f1, _⟩ := hbx
                rw [f1] at r1
                simp only [rowsX, Option.some.injEq] at r1
                simp only [rowsD, Option.some.injEq] at r2
                rw [← r2, ← r1] at r3
                have := (List.getElem?_eq_some_iff.1 r3).1
                simp at this
                exact this
              subst hi0
              rw [hag] at hx
              simp only [mkX, if_true, Option.some.injEq] at hx
              subst hx
              have hlen := fits_len hfit
              have hszz := Env.zero_size he'
              have hrun := load_agg (V := V) (w := w) he' hag q3 q6
              let vs0 : List Value := (arr.toList.drop (off + 0 * z + 0)).take e.size
              have hvl : vs0.length = ds.length := by
                simp only [vs0, List.length_take, List.length_drop, Array.length_toList]
                omega
              have hvg : ∀ j v, vs0[j]? = some v → arr.getD (off + 0 * z + 0 + j) undef = v := by
                intro j v hv
                simp only [vs0, List.getElem?_take, List.getElem?_drop] at hv
                split at hv
                · rw [Array.getElem?_toList] at hv
                  rw [Array.getD_eq_getD_getElem?, hv]; rfl
                · cases hv
              have hrep : ∀ (k : Nat) (m : M) (dd : D) (v : Value), ms[k]? = some m → ds[k]? = some dd → vs0[k]? = some v → Rep w (C.drop d w.heap.size fun _ => none) ⟨p.s, [(0, k)]⟩ m dd v := by
                intro k m dd v g1 g2 g3
                have := q7 k dd m g2 (by rw [Nat.zero_add]; exact g1)
                rw [hvg k v g3] at this
                simpa using this
              have hcells : ∀ v ∈ vs0, v.isCell = true := by
                intro v hv
                obtain ⟨k, hk⟩ := List.getElem?_of_mem hv
                have hkl : k < ds.length := by have := (List.getElem?_eq_some_iff.1 hk).1; omega
                have hkm : k < ms.length := by omega
                exact (hrep k _ _ v (List.getElem?_eq_getElem hkm) (List.getElem?_eq_getElem hkl) hk).cell (List.all_eq_true.1 hread _ (List.getElem_mem hkm))
              have htg := tg_clear (T := fun k => ⟨d, [(0, k)]⟩) (n := ds.length) h (fun _ => rfl) (by
                intro j k q q' _ _ hne e
                simp only [Pl.ext, List.cons_append, List.nil_append, Pl.mk.injEq, List.cons.injEq, Prod.mk.injEq, true_and] at e
                exact hne e.1)
              have hjs : ∀ j ∈ ownsAt ms, j < ds.length := by
                intro j hj
                obtain ⟨m, hm, _⟩ := ownsAt_spec.1 hj
                have := (List.getElem?_eq_some_iff.1 hm).1
                omega
              obtain ⟨C1, hG⟩ := giveR_sound (A := A) (w := w) (φ := φ) (tm := tmO a.tmps g) (t := p.s) (T := fun k => ⟨d, [(0, k)]⟩) (ds := ds) (vs := vs0) (fun k => fun e => hsd e.symm) hcells (ownsAt ms)
                (fun j => ⟨p.s, [(0, j)]⟩) ms ((μ.clear d).set p.s .u) (C.drop d w.heap.size fun _ => none) (hcl0.setU p.s) (by rw [get_set, if_pos rfl]) (by unfold ownsAt; exact List.Nodup.sublist List.filter_sublist List.nodup_range) (fun _ _ => rfl)
                (by
                  intro j hj
                  right
                  cases hm : ms[j]? with
                  | none => rfl
                  | some m =>
                    simp only [Option.all_some]
                    refine noOwn_of_not ?_
                    cases hmo : m.isOwn with
                    | false => rfl
                    | true => exact (hj (ownsAt_spec.2 ⟨m, hm, hmo⟩)).elim)
                (fun b o hb k q e hk => htg.free b o hb k q (hjs k hk) e)
                (fun j k q q' hj hk hne => htg.apart j k q q' (hjs j hj) (hjs k hk) hne) hrep (by omega) hvl
              have hlab : (fun k => (⟨d, [(0, k)]⟩ : Pl).lab) = fun k => [d, k] := rfl
              rw [hlab] at hG
              refine ⟨.value (.agg vs0.toArray), _, w, C1.add w.heap.size fun _ => none, g, ?_, .inl rfl, ?_⟩
              · simp only [execOp, ho, q1]
                refine exec_value ?_
                have hrun' : (loadVar t ⟨b, off, none⟩).run V.P w = .ok (.agg ((arr.toList.drop off).take e.size).toArray) w := by simpa using hrun
                simp [Instr.loadAt, Instr.sureAddr, hrun', vs0]
              · rw [hd, tm_put hd1 hsz]
                refine hG.st.putK hd1 (Ext.refl w) NewOk.none .none (rgOff_given hcl0 hfr hG) (by simp) (ClaimX.dropS ?_)
                have hgl := hG.len
                have hml2 : (flatL e.zero (giveR p.s (fun k => [d, k]) (ownsAt ms) ms ((μ.clear d).set p.s .u)).1).length = ds.length := by rw [flatL_len (by omega)]; exact hgl
                refine ⟨ds, some p, vs0.toArray, rfl, rfl, by simpa using hvl, hml2, ?_, trivial⟩
                intro i j row' d' m g1 g2 g3
                cases i with
                | succ i => simp at g1
                | zero =>
                  simp only [List.getElem?_cons_zero, Option.some.injEq] at g1
                  subst g1
                  obtain ⟨zc, m0, k1, k2, rfl⟩ := flatL_get g3
                  have hj := (List.getElem?_eq_some_iff.1 g2).1
                  have hv : vs0[j]? = some (vs0.toArray.getD j undef) := by
                    have : j < vs0.length := by omega
                    simp [Array.getD, this]
                  have hr := (hG.rep j m0 d' _ k2 g2 hv).ext hG.st (Ext.refl w) (fun _ => none)
                  exact flat_rep (fits_at hfit k1 g2) hr (fun h => h) hr
            · cases hx
          · cases hx
        · cases hm
      · cases hm
    · cases hm
  · cases hx
end
end Go.Ev

/- The state behind a call that wrote what a slot owns. -/
namespace Go.Ev

/-- Steps that lead to the cells, or below them. -/
def okQ (n : Nat) : List (Nat × Nat) → Bool
  | [] => true
  | (_, c) :: _ => decide (c < n)

/-- What is lent of a slot with n cells. -/
def lentP (C : Cx) (s n : Nat) : Nat → Option Ow := fun b => (lentN C ⟨s, []⟩ b).filter fun o => okQ n o.p.st

theorem lentP_some {C : Cx} {s n b : Nat} {o : Ow} (h : lentP C s n b = some o) : ∃ o0 q, C.own b = some o0 ∧ o0.p = (⟨s, []⟩ : Pl).ext q ∧ o = { o0 with p := ⟨0, q⟩ } ∧ okQ n q = true := by
  unfold lentP at h
  rw [Option.filter_eq_some_iff] at h
  obtain ⟨o0, q, h1, h2, rfl⟩ := lentN_some h.1
  exact ⟨o0, q, h1, h2, rfl, h.2⟩

theorem lentP_of {C : Cx} {s n b off c z : Nat} {q : List (Nat × Nat)} (h : C.own b = some ⟨⟨s, q⟩, off, c, z⟩) (hq : okQ n q = true) : lentP C s n b = some ⟨⟨0, q⟩, off, c, z⟩ := by
  have h1 : lentN C ⟨s, []⟩ b = some ⟨⟨0, q⟩, off, c, z⟩ := lentN_of (p := ⟨s, []⟩) (q := q) (off := off) (c := c) (z := z) (by rw [h]; simp [Pl.ext])
  unfold lentP
  rw [h1]
  simp [Option.filter, hq]

/-- Whose the blocks of the callee's are, behind the call. -/
def relP (s n : Nat) (tg : Nat → Option Nat) (o : Ow) : Option Ow := match o.p.s with
  | 0 => if okQ n o.p.st then some { o with p := ⟨s, o.p.st⟩ } else none
  | k + 1 => (tg k).map fun t => { o with p := ⟨t, o.p.st⟩ }

def Cx.backP (C C' : Cx) (s m : Nat) (tg : Nat → Option Nat) (n : Nat) : Cx where
  own b := if (lentP C s m b).isSome || decide (n ≤ b) then (C'.own b).bind (relP s m tg) else C.own b
  G := C'.G
  PA := C.PA

theorem relP_some {s n : Nat} {tg : Nat → Option Nat} {o o' : Ow} (h : relP s n tg o = some o') : o'.off = o.off ∧ o'.cap = o.cap ∧ o'.z = o.z ∧ o'.p.st = o.p.st ∧ ((o.p.s = 0 ∧ o'.p.s = s ∧ okQ n o.p.st = true) ∨ ∃ k, o.p.s = k + 1 ∧ tg k = some o'.p.s) := by
  unfold relP at h
  split at h
  · rename_i e
    split at h
    · rename_i hq; cases h; exact ⟨rfl, rfl, rfl, rfl, .inl ⟨e, rfl, hq⟩⟩
    · cases h
  · rename_i k e
    rw [Option.map_eq_some_iff] at h
    obtain ⟨t, h1, rfl⟩ := h
    exact ⟨rfl, rfl, rfl, rfl, .inr ⟨k, e, h1⟩⟩

theorem cells_out {x : X} {p : Pl} {rows : List (List D)} {n : Nat} (hr : rowsX x = some rows) (hn : ∃ row, rows = [row] ∧ row.length = n) (hp : p.st ≠ []) (ho : ∀ i c q, p.st = (i, c) :: q → i ≠ 0 ∨ n ≤ c) {φ : Fr} (hx : φ p.s = x) : cellsAt φ p 1 = none := by
  obtain ⟨row, rfl, hl⟩ := hn
  unfold cellsAt
  rw [hx, hr]
  cases hst : p.st with
  | nil => exact (hp hst).elim
  | cons q l =>
    obtain ⟨i, c⟩ := q
    have h := ho i c l hst
    have key : ∀ (l : List (Nat × Nat)), cellsIn [row] ((i, c) :: l) 1 = none := by
      intro l
      cases i with
      | succ i => cases l <;> simp [cellsIn]
      | zero =>
        have hc : n ≤ c := h.resolve_left (by simp)
        cases l with
        | nil =>
          simp only [cellsIn, List.getElem?_cons_zero]
          rw [if_neg (by omega)]
        | cons q' l' =>
          simp only [cellsIn, List.getElem?_cons_zero]
          rw [List.getElem?_eq_none (by omega)]
    exact key l

section
variable {A : Start} {w w' : World} {μ μ' : Mu} {φ φ' : Fr} {tm : Nat → Value} {C C' : Cx} {s n : Nat} {tg : Nat → Option Nat}
variable {PA : Nat → Nat → Prop} {res : List SM} {smo : SM} {v : Value} {xo : X} {rs : List X} {vs : List Value}

theorem ptr_sub (h : St A w μ φ tm C) (hD : DoneP w w' (lentP C s n) C.G PA res smo n v xo rs vs C') (hts : ∀ k t, tg k = some t → t ≠ s) (hinj : ∀ i j t, tg i = some t → tg j = some t → i = j) (hfree : ∀ b o k t, C.own b = some o → tg k = some t → o.p.s ≠ t) :
    Sub w w' C (C.backP C' s n tg w.heap.size) ⟨s, []⟩ (fun b => (lentP C s n b).isSome = true) := by
  have hlent : ∀ b o, C.own b = some o → o.p.s = s → okQ n o.p.st = true → (lentP C s n b).isSome = true := by
    intro b o ho hs hq
    obtain ⟨⟨os, ost⟩, off, cap, z⟩ := o
    simp only at hs hq
    subst hs
    rw [lentP_of ho hq]; rfl
  have hkeep : ∀ b o, C.own b = some o → ¬ (lentP C s n b).isSome = true → (C.backP C' s n tg w.heap.size).own b = some o := by
    intro b o ho hn
    have := (h.own b o ho).1
    simp only [Cx.backP]
    rw [if_neg]
    · exact ho
    · simp only [Bool.or_eq_true, decide_eq_true_eq, not_or]
      exact ⟨hn, by omega⟩
  have hcase : ∀ b o, (C.backP C' s n tg w.heap.size).own b = some o → (C.own b = some o ∧ ¬ (lentP C s n b).isSome = true ∧ b < w.heap.size) ∨ (((lentP C s n b).isSome = true ∨ w.heap.size ≤ b) ∧ ∃ o1, C'.own b = some o1 ∧ relP s n tg o1 = some o) := by
    intro b o ho
    simp only [Cx.backP] at ho
    split at ho
    · rename_i hc
      right
      simp only [Bool.or_eq_true, decide_eq_true_eq] at hc
      rw [Option.bind_eq_some_iff] at ho
      obtain ⟨o1, h1, h2⟩ := ho
      exact ⟨hc, o1, h1, h2⟩
    · rename_i hc
      simp only [Bool.or_eq_true, decide_eq_true_eq, not_or] at hc
      exact .inl ⟨ho, hc.1, by omega⟩
  have hnone : ∀ b, ¬ (lentP C s n b).isSome = true → lentP C s n b = none := by
    intro b hn
    cases e : lentP C s n b with
    | none => rfl
    | some y => rw [e] at hn; exact (hn rfl).elim
  have hsome : ∀ b, lentP C s n b ≠ none → (lentP C s n b).isSome = true := by
    intro b hn
    cases e : lentP C s n b with
    | none => exact (hn e).elim
    | some y => rfl
  refine ⟨?_, hD.size, ?_, hD.calm, hkeep, ?_, ?_, ?_, ?_, hD.keep, rfl, ?_⟩
  · intro b hb
    obtain ⟨o, ho⟩ := Option.isSome_iff_exists.1 hb
    obtain ⟨o0, q, h1, h2, _⟩ := lentP_some ho
    exact ⟨o0, q, h1, h2⟩
  · intro b hb hn
    exact hD.same b hb (hnone b hn)
  · intro b o ho
    rcases hcase b o ho with ⟨h1, h2, _⟩ | ⟨h1, _⟩
    · exact .inl ⟨h1, h2⟩
    · exact .inr h1
  · intro b o ho
    rcases hcase b o ho with ⟨h1, h2, h3⟩ | ⟨h1, o1, h2, _⟩
    · refine ⟨Nat.lt_of_lt_of_le h3 hD.size, ?_⟩
      intro hg
      rcases hD.frz b hg with hg | ⟨hg | hg, _⟩
      · exact (h.own b o h1).2.1 hg
      · exact h2 (hsome b hg)
      · omega
    · obtain ⟨_, k2, k3, _⟩ := hD.own b o1 h2
      exact ⟨k2, k3⟩
  · intro b b' o o' h1 h2 e
    rcases hcase b o h1 with ⟨a1, a2, a3⟩ | ⟨a1, o1, a2, a4⟩ <;> rcases hcase b' o' h2 with ⟨b1, b2, b3⟩ | ⟨b1, o2, b2, b4⟩
    · exact h.inj b b' o o' a1 b1 e
    · exfalso
      obtain ⟨_, _, _, q4, q5⟩ := relP_some b4
      rcases q5 with ⟨_, q6, q7⟩ | ⟨k, _, q6⟩
      · exact a2 (hlent b o a1 (by rw [e]; exact q6) (by rw [e, q4]; exact q7))
      · exact hfree b o k _ a1 q6 (by rw [e])
    · exfalso
      obtain ⟨_, _, _, q4, q5⟩ := relP_some a4
      rcases q5 with ⟨_, q6, q7⟩ | ⟨k, _, q6⟩
      · exact b2 (hlent b' o' b1 (by rw [← e]; exact q6) (by rw [← e, q4]; exact q7))
      · exact hfree b' o' k _ b1 q6 (by rw [e])
    · refine hD.inj b b' o1 o2 a2 b2 ?_
      obtain ⟨_, _, _, p4, p5⟩ := relP_some a4
      obtain ⟨_, _, _, q4, q5⟩ := relP_some b4
      have hst : o1.p.st = o2.p.st := by rw [← p4, ← q4, e]
      have hss : o1.p.s = o2.p.s := by
        rcases p5 with ⟨p6, p7, _⟩ | ⟨k, p6, p7⟩ <;> rcases q5 with ⟨q6, q7, _⟩ | ⟨k', q6, q7⟩
        · rw [p6, q6]
        · exact (hts k' _ q7 (by rw [← e]; exact p7)).elim
        · exact (hts k _ p7 (by rw [e]; exact q7)).elim
        · rw [e] at p7
          rw [p6, q6, hinj k k' _ p7 q7]
      cases hp1 : o1.p; cases hp2 : o2.p
      rw [hp1] at hst hss
      rw [hp2] at hst hss
      simp only at hst hss
      rw [hst, hss]
  · intro b hb
    rcases hD.frz b hb with hg | ⟨hg | hg, h3⟩
    · exact .inl hg
    · exact .inr ⟨.inl (hsome b hg), h3⟩
    · exact .inr ⟨.inr hg, h3⟩
  · intro b o ho
    rcases hcase b o ho with ⟨h1, h2, h3⟩ | ⟨h1, o1, h2, h4⟩
    · obtain ⟨arr, ty, k1, k2⟩ := h.oko b o h1
      refine ⟨arr, ty, ?_, k2⟩
      rw [hD.same b h3 (hnone b h2)]
      exact k1
    · obtain ⟨p1, p2, p3, _⟩ := relP_some h4
      rw [p1, p2, p3]
      exact hD.oko b o1 h2

theorem backP_own0 (hD : DoneP w w' (lentP C s n) C.G PA res smo n v xo rs vs C') {b off c z : Nat} {q : List (Nat × Nat)} (hb : C'.own b = some ⟨⟨0, q⟩, off, c, z⟩) (hq : okQ n q = true) : (C.backP C' s n tg w.heap.size).own b = some ⟨⟨s, q⟩, off, c, z⟩ := by
  simp only [Cx.backP]
  rw [if_pos]
  · rw [hb]; simp [relP, hq]
  · simp only [Bool.or_eq_true, decide_eq_true_eq]
    rcases (hD.own b _ hb).1 with h1 | h1
    · left
      cases e : lentP C s n b with
      | none => exact (h1 e).elim
      | some y => rfl
    · exact .inr h1

theorem backP_ownk (hD : DoneP w w' (lentP C s n) C.G PA res smo n v xo rs vs C') {b off c z k t : Nat} {q : List (Nat × Nat)} (ht : tg k = some t) (hb : C'.own b = some ⟨⟨k + 1, q⟩, off, c, z⟩) : (C.backP C' s n tg w.heap.size).own b = some ⟨⟨t, q⟩, off, c, z⟩ := by
  simp only [Cx.backP]
  rw [if_pos]
  · rw [hb]; simp [relP, ht]
  · simp only [Bool.or_eq_true, decide_eq_true_eq]
    rcases (hD.own b _ hb).1 with h1 | h1
    · left
      cases e : lentP C s n b with
      | none => exact (h1 e).elim
      | some y => rfl
    · exact .inr h1

/-- What the callee may read, the caller may. -/
theorem backP_ok (h : St A w μ φ tm C) (hsub : Sub w w' C (C.backP C' s n tg w.heap.size) ⟨s, []⟩ (fun b => (lentP C s n b).isSome = true)) (hD : DoneP w w' (lentP C s n) C.G PA res smo n v xo rs vs C') {pss : List (List Pv)} (hPA : ∀ i b, PA i b → okB C (pss.getD i []) b)
    (hk : ∀ q ∈ pss, (killD [s] q).isSome = true) {ps ps' : List Pv} (hf : substQ pss ps = some ps') {b : Nat} (hb : okB C' ps b) : okB (C.backP C' s n tg w.heap.size) ps' b := by
  unfold substQ at hf
  split at hf
  · cases hf
  · rename_i hnl
    cases hf
    rcases hb with hb | ⟨p, hp, hb⟩
    · exact .inl hb
    · cases p with
      | lab l => exfalso; apply hnl; rw [List.any_eq_true]; exact ⟨_, hp, rfl⟩
      | arg i =>
        have hb' : PA i b := by rw [← hD.pa]; exact hb
        have h1 := hPA i b hb'
        have hkk : ∃ q, killD (⟨s, []⟩ : Pl).lab (pss.getD i []) = some q ∧ q = pss.getD i [] := by
          have : (killD [s] (pss.getD i [])).isSome = true := by
            by_cases hj : i < pss.length
            · have e : pss.getD i [] = pss[i] := by simp [List.getD_eq_getElem?_getD, hj]
              rw [e]; exact hk _ (List.getElem_mem hj)
            · have e : pss.getD i [] = [] := by simp [List.getD_eq_getElem?_getD]; rw [List.getElem?_eq_none (by omega)]; rfl
              rw [e]; simp [killD]
          obtain ⟨q, hq⟩ := Option.isSome_iff_exists.1 this
          refine ⟨q, by simpa [Pl.lab] using hq, ?_⟩
          unfold killD at hq
          split at hq
          · cases hq
          · exact (Option.some.inj hq).symm
        obtain ⟨q, hq1, hq2⟩ := hkk
        have h2 := (hsub.ok h hq1 h1).1
        rw [hq2] at h2
        exact okB_mono (fun q hq => List.mem_flatMap.2 ⟨_, hp, hq⟩) h2

/-- The state behind the call. -/
theorem St.ptr_back (h : St A w μ φ tm C) (hD : DoneP w w' (lentP C s n) C.G PA res smo n v xo rs vs C') (hts : ∀ k t, tg k = some t → t ≠ s) (hinj : ∀ i j t, tg i = some t → tg j = some t → i = j) (hfree : ∀ b o k t, C.own b = some o → tg k = some t → o.p.s ≠ t)
    (hroot : ∀ b off c z, C.own b = some ⟨⟨s, []⟩, off, c, z⟩ → (C.backP C' s n tg w.heap.size).own b = some ⟨⟨s, []⟩, off, c, z⟩) (hgam : μ.get gam = .u) (hnog : ∀ s, (μ.get s).noG = true) {ds ds' : List D} (hs0 : φ s = .box ds) (hl0 : ds.length = n) (hl1 : ds'.length = n) (hφ : φ' = upd φ s (.box ds'))
    (hrg : ∀ r ∈ A.rg, r.i = s → ∀ o, C.own r.b = some o → v = .pointer (some ⟨r.b, r.off, none⟩))
    (hslot : ∀ s', φ' s' = .u ∨ Claim w' (C.backP C' s n tg w.heap.size) φ' tm s' (μ'.get s') ∨ (s' ≠ s ∧ ∃ f : SM → SM, (∀ sm, ClaimX w' (C.backP C' s n tg w.heap.size) φ' tm s' (φ' s') (tm s') sm → ClaimX w' (C.backP C' s n tg w.heap.size) φ' tm s' (φ' s') (tm s') (f sm)) ∧ μ'.get s' = f (finSM [s] 0 n ((μ.get s').map (killD [s]))))) :
    St A w' μ' φ' tm (C.backP C' s n tg w.heap.size) := by
  have hs := ptr_sub (tg := tg) h hD hts hinj hfree
  have hlab : (⟨s, []⟩ : Pl).lab = [s] := rfl
  have hvok : ∀ ps ps', killD [s] ps = some ps' → ∀ b', okB C ps b' → okB (C.backP C' s n tg w.heap.size) ps' b' ∧ w'.heap[b']? = w.heap[b']? := fun ps ps' hf b' hb' => hs.ok h (by rw [hlab]; exact hf) hb'
  have hdata : ∀ p : Pl, isPre p.lab [s] = false → under [s] 0 n p.lab = false → dataAt φ' p = dataAt φ p := by
    intro p g1 g2
    subst hφ
    by_cases e : p.s = s
    · have hpne : p.st ≠ [] := by
        intro e'
        have : isPre p.lab [s] = true := by rw [isPre_iff, Pl.lab, e', e]; simp
        rw [this] at g1; cases g1
      have ho : ∀ i c q, p.st = (i, c) :: q → i ≠ 0 ∨ n ≤ c := by
        intro i c q hst
        right
        apply Classical.byContradiction
        intro hlt
        refine under_false g2 (k := c) (by omega) ?_
        rw [Pl.lab, hst, e]
        simp
      have h1 := cells_out (x := .box ds') (p := p) (n := n) (rows := [ds']) rfl ⟨ds', rfl, hl1⟩ hpne ho (φ := upd φ s (.box ds')) (by rw [e]; simp [upd])
      have h2 := cells_out (x := .box ds) (p := p) (n := n) (rows := [ds]) rfl ⟨ds, rfl, hl0⟩ hpne ho (φ := φ) (by rw [e]; exact hs0)
      unfold dataAt
      split
      · rename_i e'; exact (hpne e').elim
      · rw [h1, h2]
    · exact dataAt_same (by simp [upd, e])
  refine h.subG ?_ hs ?_
  · intro r hr
    obtain ⟨g1, g2⟩ := h.rng r hr
    by_cases hb : (lentP C s n r.b).isSome = true
    · obtain ⟨o1, ho1⟩ := Option.isSome_iff_exists.1 hb
      obtain ⟨o0, q, k1, k2, k3, _⟩ := lentP_some ho1
      obtain ⟨e, ds2, q1, q2⟩ := g2 o0 k1
      have hri : r.i = s := by
        have := congrArg Pl.s k2
        rw [e] at this
        simpa [Pl.ext] using this
      have f1 := hrg r hr hri o0 k1
      have f2 : (C.backP C' s n tg w.heap.size).own r.b = some o0 := by
        rw [e] at k1
        rw [e, hri]
        rw [hri] at k1
        exact hroot r.b r.off 0 0 k1
      rw [hri, hs0] at q1
      cases q1
      have hR := hD.range r.b r.off f1
      refine ⟨?_, fun o ho => ?_⟩
      · obtain ⟨a1, t1, a2, p1, p2, p3, p4⟩ := g1
        obtain ⟨b1, t2, b2, c1, c2, c3, c4⟩ := hR
        rw [p2] at c1
        cases c1
        refine ⟨a1, t1, b2, p1, c2, by rw [c3, p3], fun i hi => ?_⟩
        rw [c4 i (by omega), p4 i hi]
      · rw [f2] at ho
        cases ho
        subst hφ
        exact ⟨e, ds', by rw [hri]; simp [upd], by omega⟩
    · have hlt := g1.lt
      refine ⟨g1.ext (hs.same r.b hlt hb), fun o ho => ?_⟩
      rcases hs.own r.b o ho with ⟨h1, _⟩ | h1 | h1
      · obtain ⟨e, ds2, q1, q2⟩ := g2 o h1
        have hne : r.i ≠ s := by
          intro e2
          apply hb
          obtain ⟨⟨os, ost⟩, off, cap, z⟩ := o
          simp only [Ow.mk.injEq, Pl.mk.injEq] at e
          obtain ⟨⟨rfl, rfl⟩, rfl, rfl, rfl⟩ := e
          subst e2
          rw [lentP_of h1 rfl]; rfl
        refine ⟨e, ds2, ?_, q2⟩
        subst hφ
        simp [upd, hne, q1]
      · exact (hb h1).elim
      · omega
  intro s'
  rcases hslot s' with h1 | h1 | ⟨hss, f, hf, h1⟩
  · exact .inl h1
  · exact .inr h1
  · rw [h1]
    have hu : φ' s' = φ s' := by subst hφ; simp [upd, hss]
    by_cases hg : s' = gam
    · subst hg
      right
      unfold Claim
      refine hf _ ?_
      rw [hgam]
      trivial
    · rcases h.slot s' with hu' | hc
      · left; rw [hu, hu']
      · right
        unfold Claim
        refine hf _ ?_
        rw [fin_map]
        have hc2 : Claim w C φ tm s' (finSM [s] 0 n (μ.get s')) := ClaimX.fin hc
        refine hc2.keep _ hu rfl ?_ hvok ?_ ?_ ?_
        · intro b' q off' c' z' hb'
          have hn : ¬ (lentP C s n b').isSome = true := by
            intro hl
            obtain ⟨o1, ho1⟩ := Option.isSome_iff_exists.1 hl
            obtain ⟨o0, q', k1, k2, _⟩ := lentP_some ho1
            rw [hb'] at k1; cases k1
            simp only [Pl.ext, Pl.mk.injEq] at k2
            exact hss k2.1
          exact ⟨hs.keep b' _ hb' hn, hs.same b' (h.own b' _ hb').1 hn⟩
        · intro i' b' hb'
          have := (hvok [.arg i'] [.arg i'] (by simp [killD]) b' (.inr ⟨.arg i', by simp, hb'⟩)).2
          exact ⟨by rw [hs.pa]; exact hb', this⟩
        · intro b' hb'
          have := (hvok [] [] (by simp [killD]) b' (.inl hb')).2
          exact ⟨hs.keepG b' hb', this⟩
        · refine refKeep_fin _ (μ.get s') s rfl (fun s2 hs2 => by subst hφ; simp [upd, hs2]) (fun b' o ho hu => ?_) (noG_spec (hnog s')) hdata
          by_cases hl : (lentP C s n b').isSome = true
          · obtain ⟨o1, ho1⟩ := Option.isSome_iff_exists.1 hl
            obtain ⟨o0, q', k1, k2, _⟩ := lentP_some ho1
            rw [ho] at k1; cases k1
            left
            obtain ⟨⟨os, ost⟩, off, cap, z⟩ := o
            simp only [Pl.ext, List.nil_append, Pl.mk.injEq] at k2
            obtain ⟨rfl, rfl⟩ := k2
            have hq0 : ost = [] := by
              cases ost with
              | nil => rfl
              | cons y ys =>
                obtain ⟨i, c⟩ := y
                exfalso
                obtain ⟨_, _, _, _, _, hq⟩ := lentP_some ho1
                have hc : c < n := by
                  have e9 := lentP_of (n := n) ho (by
                    obtain ⟨o9, q9, g1, g2, _, g4⟩ := lentP_some ho1
                    rw [ho] at g1; cases g1
                    simp only [Pl.ext, List.nil_append, Pl.mk.injEq, true_and] at g2
                    rw [g2]; exact g4)
                  obtain ⟨o9, q9, g1, g2, _, g4⟩ := lentP_some e9
                  rw [ho] at g1; cases g1
                  simp only [Pl.ext, List.nil_append, Pl.mk.injEq, true_and] at g2
                  rw [← g2] at g4
                  simpa [okQ] using g4
                refine under_false hu (k := c) (by omega) ?_
                simp [Pl.lab]
            subst hq0
            exact hroot b' off cap z ho
          · exact .inl (hs.keep b' o ho hl)
end
end Go.Ev

/- Results behind a call: which slots they come to. -/
namespace Go.Ev

/-- What a result brings. -/
def entE (dst : Option Tmp) (ms : List SM) : Mu := match dst with
  | none => []
  | some d => match ms with
    | [] => []
    | [m] => [(d, m.dropS d)]
    | ms => (d, .tup d ms.length) :: (ms.zipIdx.map fun p => (cix d p.2, p.1))

theorem lookup_append' {α : Type} (s : Nat) : ∀ (a b : List (Nat × α)), List.lookup s (a ++ b) = match List.lookup s a with
    | some x => some x
    | none => List.lookup s b
  | [], b => rfl
  | (k, x) :: a, b => by
    simp only [List.cons_append, List.lookup_cons]
    split
    · rfl
    · exact lookup_append' s a b

/-- Results are put down: what their slots say. -/
theorem putResM_get {dst : Option Tmp} {ms : List SM} {μ μ' : Mu} (h : putResM dst ms μ = some μ') (s : Nat) :
    (∃ d, dst = some d ∧ hit d s = true ∧ μ'.get s = Mu.get (entE dst ms) s) ∨ ((∀ d, dst = some d → hit d s = false) ∧ μ'.get s = dst.elim (μ.get s) fun d => (μ.get s).dropS d) := by
  cases dst with
  | none =>
    cases h
    exact .inr ⟨by simp, rfl⟩
  | some d =>
    unfold putResM at h
    simp only at h
    split at h
    · cases h
      cases hs : hit d s with
      | true => exact .inl ⟨d, rfl, hs, by rw [get_clear, hs]; rfl⟩
      | false => exact .inr ⟨by rintro d' e; cases e; exact hs, by rw [get_clear, hs]; rfl⟩
    · rename_i r
      cases h
      cases hs : hit d s with
      | true =>
        refine .inl ⟨d, rfl, hs, ?_⟩
        rw [get_put, hs]
        simp only [entE, Mu.get, List.lookup_cons, List.lookup_nil]
        by_cases e : s = d
        · subst e; simp
        · have e' : (s == d) = false := by simpa using e
          simp [e, e']
      | false =>
        refine .inr ⟨by rintro d' e; cases e; exact hs, ?_⟩
        rw [get_put, hs, if_neg (by rintro rfl; rw [hit_self] at hs; cases hs)]
        rfl
    · rename_i hne1 hne2
      split at h
      · rename_i h8
        cases h
        cases hs : hit d s with
        | true =>
          refine .inl ⟨d, rfl, hs, ?_⟩
          have e : entE (some d) ms = (d, .tup d ms.length) :: (ms.zipIdx.map fun p => (cix d p.2, p.1)) := by
            unfold entE
            cases ms with
            | nil => exact (hne1 rfl).elim
            | cons m ms => cases ms with
              | nil => exact (hne2 m rfl).elim
              | cons m' ms => rfl
          rw [e]
          unfold Mu.get
          simp only [List.lookup_cons]
          cases hsd : (s == d) with
          | true => rfl
          | false =>
            simp only [lookup_append']
            cases hl : List.lookup s (ms.zipIdx.map fun p => (cix d p.2, p.1)) with
            | some y => rfl
            | none =>
              have := get_clear μ d s
              rw [hs] at this
              unfold Mu.get at this
              simpa using this
        | false =>
          refine .inr ⟨by rintro d' e; cases e; exact hs, ?_⟩
          have hne : s ≠ d := by rintro rfl; rw [hit_self] at hs; cases hs
          have e' : (s == d) = false := by simpa using hne
          have hc : List.lookup s (ms.zipIdx.map fun p => (cix d p.2, p.1)) = none := by
            have := lookup_comps d [] ms 0 s
            simp only [List.append_nil, List.lookup_nil] at this
            rw [this]
            rw [if_neg]
            rintro ⟨h1, h2⟩
            unfold hit isCix at hs
            simp only [Bool.or_eq_false_iff, Bool.and_eq_false_iff, decide_eq_false_iff_not] at hs
            unfold cix at h1 h2 hs
            omega
          have := get_clear μ d s
          rw [hs] at this
          unfold Mu.get at this ⊢
          simp only [List.lookup_cons, e', lookup_append', hc]
          simpa using this
      · cases h

/-- Where the blocks of a result come to lie. -/
def tgR (dst : Option Tmp) (n k : Nat) : Option Nat := match dst with
  | none => none
  | some d => if n = 1 then (if k = 0 then some d else none) else if k < n then some (cix d k) else none

theorem tgR_some {d n k t : Nat} (h : tgR (some d) n k = some t) : (n = 1 ∧ k = 0 ∧ t = d) ∨ (n ≠ 1 ∧ k < n ∧ t = cix d k) := by
  unfold tgR at h
  simp only at h
  by_cases hn : n = 1
  · rw [if_pos hn] at h
    by_cases hk : k = 0
    · rw [if_pos hk] at h; cases h; exact .inl ⟨hn, hk, rfl⟩
    · rw [if_neg hk] at h; cases h
  · rw [if_neg hn] at h
    by_cases hk : k < n
    · rw [if_pos hk] at h; cases h; exact .inr ⟨hn, hk, rfl⟩
    · rw [if_neg hk] at h; cases h

theorem tgR_hit {dst : Option Tmp} {n k t : Nat} (h8 : n ≤ 8) (h : tgR dst n k = some t) : ∃ d, dst = some d ∧ hit d t = true := by
  cases dst with
  | none => cases h
  | some d =>
    refine ⟨d, rfl, ?_⟩
    rcases tgR_some h with ⟨_, _, rfl⟩ | ⟨_, hk, rfl⟩
    · exact hit_self _
    · unfold hit isCix cix
      simp only [Bool.or_eq_true, beq_iff_eq, Bool.and_eq_true, decide_eq_true_iff]
      omega

theorem tgR_inj {dst : Option Tmp} {n i j t : Nat} (h1 : tgR dst n i = some t) (h2 : tgR dst n j = some t) : i = j := by
  cases dst with
  | none => cases h1
  | some d =>
    rcases tgR_some h1 with ⟨a1, a2, a3⟩ | ⟨a1, a2, a3⟩ <;> rcases tgR_some h2 with ⟨b1, b2, b3⟩ | ⟨b1, b2, b3⟩
    · omega
    · omega
    · omega
    · rw [a3] at b3; unfold cix at b3; omega

section
variable {A : Start} {w w' : World} {μ μ' : Mu} {φ : Fr} {tm : Nat → Value} {C : Cx} {a : Act} {g : Nat → Value} {o : Oper}

/-- The slot of a result is given up ahead of the call. -/
theorem St.clear2 (h : St A w μ φ tm C) {dst : Option Tmp} (hd : ∀ d, dst = some d → d < 1000) : ∃ C0, (∀ φ2 tm2, (∀ s, (∀ d, dst = some d → hit d s = false) → φ2 s = φ s ∧ tm2 s = tm s) → St A w (μ.clearO dst) φ2 tm2 C0) ∧ (∀ d, dst = some d → FreeAt C0 d) := by
  cases dst with
  | none =>
    refine ⟨C, fun φ2 tm2 hs => ?_, fun d hd => by cases hd⟩
    have e1 : φ2 = φ := by funext s; exact (hs s (fun d e => by cases e)).1
    have e2 : tm2 = tm := by funext s; exact (hs s (fun d e => by cases e)).2
    rw [e1, e2]
    exact h
  | some d =>
    refine ⟨C.drop d w.heap.size fun _ => none, fun φ2 tm2 hs => ?_, fun d' hd' => by cases hd'; exact freeAt_drop fun b o hb => (h.own b o hb).1⟩
    refine h.putG (hd d rfl) (Ext.refl w) (fun _ => none) (by simp) (by simp) (by simp) .none (fun s hh => (hs s fun d' e => by cases e; exact hh).1) (fun s hh => (hs s fun d' e => by cases e; exact hh).2) ?_ ?_
    · intro s hh
      show (μ.clear d).get s = _
      rw [get_clear, hh]; rfl
    · intro s hh
      right
      show Claim _ _ _ _ _ ((μ.clear d).get s)
      rw [get_clear, hh]; trivial

/-- The values of slots once results were put. -/
def putTm (a : Act) (g : Nat → Value) (dst : Option Tmp) (vs : List Value) : Nat → Value := match dst with
  | none => g
  | some d => if vs.length = 1 then g else fun s => if cix d 0 ≤ s ∧ s < cix d 8 then vs.getD (s - cix d 0) undef else g s

theorem putTm_out {dst : Option Tmp} {vs : List Value} {s : Nat} (hd : ∀ d, dst = some d → d < 1000 ∧ d < a.tmps.size) (hs : ∀ d, dst = some d → hit d s = false) : tmO (a.put dst (packV vs)).tmps (putTm a g dst vs) s = tmO a.tmps g s := by
  cases dst with
  | none => rfl
  | some d =>
    obtain ⟨h1, h2⟩ := hd d rfl
    have hh := hs d rfl
    have hne : s ≠ d := by rintro rfl; rw [hit_self] at hh; cases hh
    have hnc : ¬ (cix d 0 ≤ s ∧ s < cix d 8) := by
      rintro ⟨q1, q2⟩
      unfold hit isCix at hh
      simp only [Bool.or_eq_false_iff, Bool.and_eq_false_iff, decide_eq_false_iff_not] at hh
      rcases hh.2 with h3 | h3
      · exact h3 q1
      · exact h3 q2
    have := congrFun (tm_put (a := a) (g := putTm a g (some d) vs) (v := packV vs) h1 h2) s
    rw [this]
    simp only [hne, if_false]
    unfold tmO
    split
    · rfl
    · simp only [putTm]
      split
      · rfl
      · exact if_neg hnc

theorem putTm_at {d : Nat} {vs : List Value} {k t : Nat} {v : Value} (h1 : d < 1000) (h2 : d < a.tmps.size) (h8 : vs.length ≤ 8) (ht : tgR (some d) vs.length k = some t) (hv : vs[k]? = some v) : tmO (a.put (some d) (packV vs)).tmps (putTm a g (some d) vs) t = v := by
  have := congrFun (tm_put (a := a) (g := putTm a g (some d) vs) (v := packV vs) h1 h2) t
  rw [this]
  unfold tgR at ht
  simp only at ht
  split at ht
  · rename_i hl
    split at ht
    · rename_i hk
      cases ht
      subst hk
      simp only [if_true]
      match vs, hl, hv with
      | [v'], _, hv => simp only [List.getElem?_cons_zero, Option.some.injEq] at hv; subst hv; rfl
    · cases ht
  · rename_i hl
    split at ht
    · rename_i hk
      cases ht
      have hne : cix d k ≠ d := by unfold cix; omega
      simp only [hne, if_false]
      have hge : ¬ cix d k < 1000 := by unfold cix; omega
      unfold tmO
      rw [if_neg hge]
      simp only [putTm, hl, if_false]
      rw [if_pos ⟨by unfold cix; omega, by unfold cix; omega⟩]
      have : cix d k - cix d 0 = k := by unfold cix; omega
      rw [this]
      simp [hv]
    · cases ht

theorem putRes_out {dst : Option Tmp} {rs : List X} {φ : Fr} {s : Nat} (h8 : rs.length ≤ 8) (hs : ∀ d, dst = some d → hit d s = false) : putRes dst rs φ s = φ s := by
  cases dst with
  | none => rfl
  | some d =>
    have hh := hs d rfl
    have hne : s ≠ d := by rintro rfl; rw [hit_self] at hh; cases hh
    have hnc : ¬ (cix d 0 ≤ s ∧ s < cix d 8) := by
      rintro ⟨q1, q2⟩
      unfold hit isCix at hh
      simp only [Bool.or_eq_false_iff, Bool.and_eq_false_iff, decide_eq_false_iff_not] at hh
      rcases hh.2 with h3 | h3
      · exact h3 q1
      · exact h3 q2
    unfold putRes
    simp only
    split
    · simp [upd, hne]
    · simp [upd, hne]
    · rw [show upd (putComps d 0 rs φ) d (.tup d rs.length) s = putComps d 0 rs φ s by simp [upd, hne]]
      refine putComps_out d s rs 0 φ ?_
      rintro k hk rfl
      exact hnc ⟨by unfold cix; omega, by unfold cix; omega⟩

theorem putRes_at {d : Nat} {rs : List X} {φ : Fr} {k t : Nat} {r : X} (ht : tgR (some d) rs.length k = some t) (hr : rs[k]? = some r) : putRes (some d) rs φ t = r := by
  unfold tgR at ht
  simp only at ht
  split at ht
  · rename_i hl
    split at ht
    · rename_i hk
      cases ht
      subst hk
      match rs, hl, hr with
      | [r'], _, hr => simp only [List.getElem?_cons_zero, Option.some.injEq] at hr; subst hr; simp [putRes, upd]
    · cases ht
  · rename_i hl
    split at ht
    · rename_i hk
      cases ht
      have hne : cix d k ≠ d := by unfold cix; omega
      match rs, hl, hk, hr with
      | r1 :: r2 :: rs, hl, hk, hr =>
        simp only [putRes]
        rw [show upd (putComps d 0 (r1 :: r2 :: rs) φ) d (.tup d (r1 :: r2 :: rs).length) (cix d k) = putComps d 0 (r1 :: r2 :: rs) φ (cix d k) by simp [upd, hne]]
        have := putComps_at d (r1 :: r2 :: rs) 0 k φ r hr
        rwa [Nat.zero_add] at this
      | [r1], hl, hk, hr => exact (hl rfl).elim
    · cases ht

/-- What is said of the slots of results. -/
theorem res_slots {C2 : Cx} {φ' : Fr} {d : Nat} {rs : List X} {vs : List Value} {ms : List SM} {w' : World} (h1 : d < 1000) (h2 : d < a.tmps.size) (h8 : rs.length ≤ 8) (hl : vs.length = rs.length) (hm : ms.length = rs.length) {φ1 : Fr} (hφ : ∀ s, hit d s = true → φ' s = putRes (some d) rs φ1 s)
    (hc : ∀ k t r v m, tgR (some d) rs.length k = some t → rs[k]? = some r → vs[k]? = some v → ms[k]? = some m → ClaimX w' C2 φ' (tmO (a.put (some d) (packV vs)).tmps (putTm a g (some d) vs)) t r v m) {s : Nat} (hs : hit d s = true) :
    Claim w' C2 φ' (tmO (a.put (some d) (packV vs)).tmps (putTm a g (some d) vs)) s (Mu.get (entE (some d) ms) s) := by
  have hat : ∀ k t r v m, tgR (some d) rs.length k = some t → rs[k]? = some r → vs[k]? = some v → ms[k]? = some m → Claim w' C2 φ' (tmO (a.put (some d) (packV vs)).tmps (putTm a g (some d) vs)) t m := by
    intro k t r v m q1 q2 q3 q4
    obtain ⟨d', e1, e2⟩ := tgR_hit h8 q1
    cases e1
    unfold Claim
    rw [hφ t e2, putRes_at q1 q2, putTm_at h1 h2 (by omega) (by rw [hl]; exact q1) q3]
    exact hc k t r v m q1 q2 q3 q4
  unfold entE
  simp only
  split
  · exact trivial
  · rename_i m
    have hr1 : rs.length = 1 := by simpa using hm.symm
    by_cases e : s = d
    · subst e
      have hg : Mu.get [(s, m.dropS s)] s = m.dropS s := by simp [Mu.get]
      rw [hg]
      obtain ⟨r, hr⟩ : ∃ r, rs[0]? = some r := ⟨rs[0], List.getElem?_eq_getElem (by omega)⟩
      obtain ⟨v, hv⟩ : ∃ v, vs[0]? = some v := ⟨vs[0], List.getElem?_eq_getElem (by omega)⟩
      exact (hat 0 s r v m (by simp [tgR, hr1]) hr hv rfl).dropS
    · have e' : (s == d) = false := by simpa using e
      have hg : Mu.get [(d, m.dropS d)] s = .u := by simp [Mu.get, List.lookup_cons, e']
      rw [hg]
      trivial
  · rename_i hne1 hne2
    have hr1 : rs.length ≠ 1 := by
      intro e
      rw [e] at hm
      match ms, hm with
      | [m], _ => exact hne2 m rfl
    by_cases e : s = d
    · subst e
      have hg : Mu.get ((s, SM.tup s ms.length) :: (ms.zipIdx.map fun p => (cix s p.2, p.1))) s = .tup s ms.length := by simp [Mu.get]
      rw [hg]
      unfold Claim
      have hx : φ' s = .tup s rs.length := by
        rw [hφ s hs]
        match rs, hr1, hm with
        | r1 :: r2 :: rs, _, _ => simp [putRes, upd]
        | [r], h, _ => exact (h rfl).elim
        | [], _, hm => exact (hne1 (List.length_eq_zero_iff.1 hm)).elim
      have htm := congrFun (tm_put (a := a) (g := putTm a g (some s) vs) (v := packV vs) h1 h2) s
      rw [hx, htm, hm]
      simp only [if_true]
      have hpack : packV vs = .tuple vs.toArray := by
        match vs, hl with
        | [], _ => rfl
        | [v], hl => exact (hr1 (by simpa using hl.symm)).elim
        | v1 :: v2 :: vs, _ => rfl
      refine ⟨rfl, h8, vs.toArray, hpack, by simp [hl], ?_⟩
      intro i hi
      obtain ⟨v, hv⟩ : ∃ v, vs[i]? = some v := ⟨vs[i], List.getElem?_eq_getElem (by omega)⟩
      have := putTm_at (a := a) (g := g) h1 h2 (by omega) (vs := vs) (k := i) (t := cix s i) (v := v) (by unfold tgR; simp only; rw [if_neg (by omega), if_pos (by omega)]) hv
      rw [this]
      simp [Array.getD_eq_getD_getElem?, hv]
    · have e' : (s == d) = false := by simpa using e
      have hg : Mu.get ((d, SM.tup d ms.length) :: (ms.zipIdx.map fun p => (cix d p.2, p.1))) s = if cix d 0 ≤ s ∧ s < cix d (0 + ms.length) then (ms[s - cix d 0]?).getD .u else .u := by
        unfold Mu.get
        rw [List.lookup_cons, e']
        simp only
        have := lookup_comps d [] ms 0 s
        simp only [List.append_nil] at this
        rw [this]
        by_cases hq : cix d 0 ≤ s ∧ s < cix d (0 + ms.length)
        · rw [if_pos hq, if_pos hq]
          cases ms[s - cix d 0]? <;> rfl
        · rw [if_neg hq, if_neg hq]
          rfl
      rw [hg]
      split
      · rename_i hc2
        obtain ⟨k, hk1, hk2⟩ : ∃ k, s = cix d k ∧ k < rs.length := ⟨s - cix d 0, by unfold cix at hc2 ⊢; omega, by unfold cix at hc2 ⊢; omega⟩
        subst hk1
        have : cix d k - cix d 0 = k := by unfold cix; omega
        rw [this]
        have hmk : ms[k]? = some ms[k] := List.getElem?_eq_getElem (by omega)
        rw [hmk]
        exact hat k (cix d k) rs[k] vs[k] ms[k] (by unfold tgR; simp only; rw [if_neg hr1, if_pos hk2]) (List.getElem?_eq_getElem hk2) (List.getElem?_eq_getElem (by omega)) hmk
      · trivial
end
end Go.Ev

/- A call that writes what its first argument points to. -/
namespace Go.Ev

theorem leSL_get {a b : List M} (h : leSL a b = true) : ∀ {j : Nat} {m : M}, b[j]? = some m → ∃ m0, a[j]? = some m0 ∧ leS m0 m = true := by
  induction a generalizing b with
  | nil => cases b with
    | nil => intro j m hm; simp at hm
    | cons y ys => simp [leSL] at h
  | cons x xs ih =>
    cases b with
    | nil => simp [leSL] at h
    | cons y ys =>
      simp only [leSL, Bool.and_eq_true] at h
      intro j m hm
      cases j with
      | zero => simp only [List.getElem?_cons_zero, Option.some.injEq] at hm; subst hm; exact ⟨x, rfl, h.1⟩
      | succ j => simp only [List.getElem?_cons_succ] at hm ⊢; exact ih h.2 hm

section
variable {V : Env} {A : Start} {w w' : World} {μ μ' : Mu} {φ φ' : Fr} {C : Cx} {a : Act} {g : Nat → Value} {o : Oper} {x : X}

/-- A pointer to a whole box, as an argument. -/
structure ArgPOk (w : World) (φ : Fr) (C : Cx) (tm : Nat → Value) (ms ms0 : List M) (s : Nat) (px : List Pv) (v : Value) (ds : List D) (b off : Nat) (arr : Array Value) : Prop where
  slot : φ s = .box ds
  val : v = tm s
  ptr : v = .pointer (some ⟨b, off, none⟩)
  node : Node w C ⟨s, []⟩ ms0 [ds] b off 0 0 arr
  len0 : ms0.length = ms.length
  prov : provL ms0 = some px
  le : leSL (mapL (argF px) ms0) ms = true
  s1 : s < 1000
  kill : (killD [s] px).isSome = true

theorem argPq_sound {y : Operand} {s : Nat} {px : List Pv} {ms : List M} {t n : Nat} {τ : List TE} (h : St A w μ φ (tmO a.tmps g) C) (hs : sm1 y = true) (hx : argX τ φ (.ptr n) y t = some x) (hn : n = ms.length) (hn0 : 0 < n) (hm : argPq μ ms y = some (s, px)) :
    ∃ ms0 ds b off arr, μ.get s = .box ms0 ∧ x = .box ds ∧ ds.length = n ∧ ptX φ y = some ⟨s, [(0, 0)]⟩ ∧ μ.okG = true ∧ ArgPOk w φ C (tmO a.tmps g) ms ms0 s px (a.eval y) ds b off arr := by
  unfold argPq at hm
  split at hm
  · rename_i s0 hop
    split at hm
    · rename_i ms0 hbox
      split at hm
      · rename_i px0 hpx
        split at hm
        · rename_i hc
          simp only [Option.some.injEq, Prod.mk.injEq] at hm
          obtain ⟨rfl, rfl⟩ := hm
          simp only [Bool.and_eq_true, Nat.blt_eq, beq_iff_eq] at hc
          obtain ⟨⟨⟨⟨c1, c2⟩, c3⟩, c4⟩, c5⟩ := hc
          simp only [argX] at hx
          split at hx
          · rename_i p hp
            rw [Option.map_eq_some_iff] at hx
            obtain ⟨ds, hds, rfl⟩ := hx
            have hpt := pt_sound h hs hp
            rw [hop] at hpt
            obtain ⟨p', q1, q2, q3, st, i, c, b, off, cap, z, k1, k2, k3⟩ := hpt 0
            cases q1
            have hst : st = [] ∧ c = 0 := by
              rw [k1] at q3
              simp only [List.map_append, List.map_cons, List.map_nil] at q3
              cases st with
              | nil => simp at q3; exact ⟨rfl, q3⟩
              | cons u us => simp at q3
            obtain ⟨rfl, rfl⟩ := hst
            obtain ⟨ps, pst⟩ := p
            simp only [List.nil_append] at k1 q2 k2
            subst k1; subst q2
            -- the box
            have hphi : φ ps ≠ .u := by
              intro e
              unfold cellsAt at hds
              simp only [e, rowsX] at hds
              cases hds
            have hcl := (h.slot ps).resolve_left hphi
            unfold Claim at hcl
            rw [hbox] at hcl
            obtain ⟨dsb, b', off', arr, e1, e2, e3⟩ := hcl
            have hb := h.inj b b' _ _ k2 e3.own rfl
            subst hb
            rw [e3.own] at k2
            simp only [Option.some.injEq, Ow.mk.injEq, true_and] at k2
            obtain ⟨rfl, rfl, rfl⟩ := k2
            have hlen := e3.len 0 dsb rfl
            unfold cellsAt at hds
            simp only [e1, rowsX] at hds
            have hi0 : i = 0 ∧ ds = dsb := by
              cases i with
              | succ i => simp [cellsIn] at hds
              | zero =>
                refine ⟨rfl, ?_⟩
                simp only [cellsIn, List.getElem?_cons_zero] at hds
                split at hds
                · simp only [Option.some.injEq, List.drop_zero] at hds
                  rw [List.take_of_length_le (by omega)] at hds
                  exact hds.symm
                · cases hds
            obtain ⟨rfl, rfl⟩ := hi0
            refine ⟨ms0, ds, b, off', arr, hbox, rfl, by omega, hp, c4, ⟨e1, ?_, ?_, e3, c1, hpx, c2, c3, c5⟩⟩
            · rw [k3, e2]; simp
            · rw [k3]; simp
          · cases hx
        · cases hm
      · cases hm
    · cases hm
  · cases hm

/-- What the callee is told of the box. -/
theorem arg_box {tm : Nat → Value} {ms ms0 : List M} {s b off : Nat} {px : List Pv} {v : Value} {ds : List D} {arr : Array Value} (hA : ArgPOk w φ C tm ms ms0 s px v ds b off arr) {PA : Nat → Nat → Prop} (hPA : ∀ b, okB C px b → PA 0 b) :
    ClaimX w ⟨lentP C s ms.length, C.G, PA⟩ (fun _ => .u) (fun _ => undef) 0 (.box ds) v (.box ms) := by
  have hlen := hA.node.len 0 ds rfl
  have hl0 := hA.len0
  refine ⟨ds, b, off, arr, rfl, hA.ptr, ⟨lentP_of hA.node.own rfl, hA.node.heap, hA.node.size, ?_, .inl (by simp), ?_⟩⟩
  · intro i row hr
    rw [hA.node.len i row hr, hl0]
  · intro i j row d m q1 q2 q3
    cases i with
    | succ i => simp at q1
    | zero =>
      simp only [List.getElem?_cons_zero, Option.some.injEq] at q1
      subst q1
      have hj := (List.getElem?_eq_some_iff.1 q2).1
      obtain ⟨m1, k1, k2⟩ := leSL_get hA.le q3
      obtain ⟨m0, k3, rfl⟩ := mapL_get k1
      refine Rep.leS ?_ k2
      refine (hA.node.kids 0 j ds d m0 rfl q2 k3).move _ (argF px) ?_ ?_
      · intro b' q off' c z hb
        refine ⟨?_, rfl⟩
        have : (⟨0, []⟩ : Pl).cell 0 j = ⟨0, [(0, j)]⟩ := rfl
        rw [this]
        show lentP C s ms.length b' = some ⟨⟨0, (0, j) :: q⟩, off', c, z⟩
        exact lentP_of (q := (0, j) :: q) (by rw [hb]; simp [Pl.ext, Pl.cell]) (by simp only [okQ, decide_eq_true_eq]; omega)
      · intro ps ps' hf b' hb
        refine ⟨?_, rfl⟩
        unfold argF at hf
        split at hf
        · rename_i he
          cases hf
          have := List.isEmpty_iff.1 he
          subst this
          rcases hb with hb | ⟨_, hp, _⟩
          · exact .inl hb
          · simp at hp
        · split at hf
          · rename_i hall
            cases hf
            refine .inr ⟨.arg 0, by simp, hPA b' (okB_mono ?_ hb)⟩
            intro p hp
            rw [List.all_eq_true] at hall
            simpa using hall p hp
          · cases hf

theorem putAt_box {s : Nat} {ds ds' : List D} (hs : φ s = .box ds) (hl : ds'.length = ds.length) (h : putAt φ ⟨s, [(0, 0)]⟩ ds' = some φ') : φ' = upd φ s (.box ds') := by
  obtain ⟨rows, rs, row, x', h1, h2, h3, h4, rfl, h6, h7⟩ := put_snoc (p := ⟨s, [(0, 0)]⟩) (st := []) rfl h
  simp only at h1 h7
  rw [hs] at h1 h7
  simp only [rowsX, Option.some.injEq] at h1
  subst h1
  simp only [rowsD, Option.some.injEq] at h2
  subst h2
  simp only [List.getElem?_cons_zero, Option.some.injEq] at h3
  subst h3
  rcases h7 with ⟨cs, cs', _, rfl⟩ | ⟨z0, r0, o0, r1, q, _⟩ | ⟨cs, o0, q⟩
  · simp only [rowsX, setD, List.set_cons_zero, Option.some.injEq, List.cons.injEq, and_true, List.take_zero, List.nil_append, Nat.zero_add] at h6
    rw [List.drop_eq_nil_of_le (by omega), List.append_nil] at h6
    rw [h6]
  · cases q
  · cases q
end
end Go.Ev

/- Such a call as an operation. -/
namespace Go.Ev

theorem ioOk_ptr {sg : Sig} {ms ms' : List M} {ps : List PM} (hp : sg.pms = .ptr ms ms' :: ps) {q : SM × SM × Nat} (h : ioOk sg = some q) : q = (.box ms, .box ms', ms.length) ∧ ps.all quietB = true ∧ sg.res.all SM.resOk = true ∧ ms.length = ms'.length ∧ 0 < ms.length := by
  unfold ioOk at h
  rw [hp] at h
  simp only at h
  split at h
  · rename_i hc
    simp only [Bool.and_eq_true, beq_iff_eq, Nat.blt_eq] at hc
    exact ⟨(Option.some.inj h).symm, hc.1.1.1, hc.1.1.2, hc.1.2, hc.2⟩
  · cases h

section
variable {V : Env} {A : Start} {w w' : World} {μ μ' : Mu} {φ φ' : Fr} {C : Cx} {a : Act} {g : Nat → Value} {o : Oper} {x : X}

theorem s_callP {c : Call} {f : Nat} {S : Nat → Option (List PK)} {F : Nat → List X → Option (List X × List X)} {Sg : Nat → Option Sig} {sg : Sig} {next : Act → World → Prop} {Q : Exit → Act → World → Prop} (ho : o.op = .call c) (hcal : c.callee = .value (.func f))
    (hSg : Sg f = some sg) (hS : S f = some (sg.pms.map PM.pk)) (hD : DoesR (Abv A) V f sg (F f)) (h : St A w μ φ (tmO a.tmps g) C) (hs : c.args.toList.all sm1 = true) (hdst : ∀ d, o.dst = some d → d < 1000 ∧ d < a.tmps.size)
    (hx : callX V.τ S F f c o.dst [] φ = some φ') (hm : callPq V.τ Sg μ f c o.dst = some μ')
    (hK : ∀ v w' C2 g', St A w' μ' φ' (tmO (a.put o.dst v).tmps g') C2 → next (a.put o.dst v) w') : o.wp V.P a w next Q := by
  unfold callPq at hm
  rw [hSg] at hm
  simp only at hm
  split at hm
  · rename_i io ms ms' ps y ys t ts hio hpms hargs htys
    obtain ⟨rfl, hqu, hres, hmm, hn0⟩ := ioOk_ptr hpms hio
    split at hm
    · rename_i hty
      split at hm
      · rename_i s px pss hargm hpss
        split at hm
        · rename_i hkill
          rw [List.all_eq_true] at hkill
          rw [hargs] at hs
          simp only [List.all_cons, Bool.and_eq_true] at hs
          unfold callX at hx
          rw [hS] at hx
          simp only at hx
          have hlq := (argsQ_len0 hpss).1
          have hl0 : c.args.toList.length = c.args.size := by simp
          have hsz : c.args.size = (sg.pms.map PM.pk).length := by rw [← hl0, hargs, hpms]; simp [hlq]
          rw [hsz, List.take_length] at hx
          rw [hargs, htys, hpms] at hx
          simp only [List.map_cons, argsX] at hx
          split at hx
          · rename_i as has
            split at has
            · rename_i a0 as' ha0 has'
              cases has
              obtain ⟨C0, hclear, hfree⟩ := h.clear2 (dst := o.dst) (fun d hd => (hdst d hd).1)
              have h0 := hclear φ (tmO a.tmps g) (fun _ _ => ⟨rfl, rfl⟩)
              obtain ⟨ms0, ds, b, off, arr, hbox, rfl, hdl, hptx, hokG, hA⟩ := argPq_sound h0 hs.1 (by simpa [PM.pk] using ha0) rfl hn0 hargm
              obtain ⟨hgam, hnog⟩ := okG_spec hokG
              have hsd : ∀ d, o.dst = some d → hit d s = false := by
                intro d hd
                rw [Bool.eq_false_iff]
                intro hh
                have := hbox
                rw [hd] at this
                simp only [Mu.clearO, get_clear, hh, if_true] at this
                cases this
              split at hx
              · rename_i rs outs hF
                rw [List.append_nil] at hF
                split at hx
                · rename_i h8
                  split at hx
                  · rename_i φ1 hback
                    cases hx
                    obtain ⟨⟨fn, bd, hf, hbd, hname⟩, _, _, hDP⟩ := hD
                    have hDP := hDP _ _ _ hio
                    obtain ⟨l1, l2, l3, harg⟩ := argsQ_sound h0 hs.2 has' hpss
                    have hrun : (execOp a.eval o).run V.P w = .ok (.enter f ((y :: ys).map a.eval).toArray) w := by
                      have e1 : c.args.map a.eval = ((y :: ys).map a.eval).toArray := by apply Array.ext'; rw [← hargs]; simp
                      simp only [execOp, ho, resolve, hcal]
                      have e2 : a.eval (.func f) = .func (.func f) #[] #[] := rfl
                      simp [e2, Deferred.ofValue, invoke, callFunc, hf, hname, hbd, e1]
                    let PA : Nat → Nat → Prop := fun i b => okB C0 ((px :: pss).getD i []) b
                    have hkall : ∀ q ∈ px :: pss, (killD [s] q).isSome = true := by
                      intro q hq
                      rcases List.mem_cons.1 hq with rfl | hq
                      · exact hA.kill
                      · exact hkill q hq
                    have hkget : ∀ i, (killD (⟨s, []⟩ : Pl).lab ((px :: pss).getD i [])).isSome = true := by
                      intro i
                      show (killD [s] _).isSome = true
                      by_cases hj : i < (px :: pss).length
                      · have e : (px :: pss).getD i [] = (px :: pss)[i] := by simp [List.getD_eq_getElem?_getD, List.getElem?_eq_getElem hj]
                        rw [e]; exact hkall _ (List.getElem_mem hj)
                      · have e : (px :: pss).getD i [] = [] := by rw [List.getD_eq_getElem?_getD, List.getElem?_eq_none (by omega)]; rfl
                        rw [e]; simp [killD]
                    unfold Oper.wp
                    rw [hrun, Oper.upon_enter]
                    refine (hDP w (lentP C0 s ms.length) C0.G PA ((y :: ys).map a.eval) (.box ds :: as') h0.abv (by rw [hpms]; simp [hlq]) (by rw [hpms]; simp [l1]) (fun b hb => (h0.frz b hb).1) (fun i b hb => h0.ok_lt hb) ?_ ?_ ?_ ?_ (.box ds) (a.eval y) rfl rfl (arg_box hA fun b hb => hb) rs outs hF).mono ?_
                    · intro b o hb
                      obtain ⟨o0, q, k1, k2, rfl, _⟩ := lentP_some hb
                      obtain ⟨g1, g2, _⟩ := h0.own b o0 k1
                      exact ⟨g1, g2, fun i hi => not_behind h0 (p := ⟨s, []⟩) (hkget i) hi k1 k2, rfl⟩
                    · intro b b' o o' h1 h2 e
                      obtain ⟨o1, q1, k1, k2, rfl, _⟩ := lentP_some h1
                      obtain ⟨o2, q2, j1, j2, rfl, _⟩ := lentP_some h2
                      simp only [Pl.mk.injEq, true_and] at e
                      refine h0.inj b b' o1 o2 k1 j1 ?_
                      rw [k2, j2, e]
                    · intro b o hb
                      obtain ⟨o0, q, k1, k2, rfl, _⟩ := lentP_some hb
                      exact h0.oko b o0 k1
                    · intro i x v pm ty q1 q2 q3 q4
                      rw [hpms] at q3
                      rw [hty] at q4
                      simp only [List.map_cons, List.getElem?_cons_succ] at q1 q2 q3 q4
                      rw [List.getElem?_map, Option.map_eq_some_iff] at q2
                      obtain ⟨y', hy', rfl⟩ := q2
                      exact harg i x y' pm ty q1 hy' q3 q4
                    · rintro e w' ⟨vs, xo, C', hout, rfl, hdone⟩
                      cases outs with
                      | nil => cases hout
                      | cons o0 os =>
                        simp only [List.head?_cons, Option.some.injEq] at hout
                        subst hout
                        obtain ⟨ds', b2, off2, arr2, rfl, hv2, hnode2⟩ := hdone.out
                        have hdl2 : ds'.length = ms.length := by rw [hnode2.len 0 ds' rfl, hmm]
                        rw [hA.ptr] at hv2
                        simp only [Value.pointer.injEq, Option.some.injEq, Addr.mk.injEq, and_true] at hv2
                        obtain ⟨rfl, rfl⟩ := hv2
                        simp only [backsX] at hback
                        split at hback
                        · rename_i φ3 hb1
                          have hφ := backs_val (by
                            intro k hk
                            rw [List.mem_map] at hk
                            obtain ⟨pm, hpm, rfl⟩ := hk
                            exact argsQ_val hpss pm hpm) hback
                          subst hφ
                          simp only [PM.pk, backX, hptx] at hb1
                          have hφ3 := putAt_box hA.slot (by rw [hdl2, hdl]) hb1
                          have hlv := hdone.len
                          -- the frame and the values once the results are put
                          let φ2 : Fr := fun s' => match o.dst with
                            | some d => if hit d s' then putRes o.dst rs φ1 s' else φ s'
                            | none => φ s'
                          let tm2 : Nat → Value := tmO (a.put o.dst (packV vs)).tmps (putTm a g o.dst vs)
                          have h2 : St A w (μ.clearO o.dst) φ2 tm2 C0 := by
                            refine hclear φ2 tm2 fun s' hs' => ⟨?_, putTm_out hdst hs'⟩
                            show (match o.dst with | some d => if hit d s' then putRes o.dst rs φ1 s' else φ s' | none => φ s') = φ s'
                            cases hds : o.dst with
                            | none => rfl
                            | some d => simp [hs' d hds]
                          have hφ2s : φ2 s = .box ds := by
                            show (match o.dst with | some d => if hit d s then putRes o.dst rs φ1 s else φ s | none => φ s) = _
                            cases hds : o.dst with
                            | none => exact hA.slot
                            | some d => simp only [hsd d hds, Bool.false_eq_true, if_false]; exact hA.slot
                          have hfin : putRes o.dst rs φ1 = upd φ2 s (.box ds') := by
                            funext s'
                            by_cases e : s' = s
                            · subst e
                              rw [putRes_out h8 hsd, hφ3]
                              simp [upd]
                            · simp only [upd, e, if_false]
                              show _ = (match o.dst with | some d => if hit d s' then putRes o.dst rs φ1 s' else φ s' | none => φ s')
                              cases hds : o.dst with
                              | none => simp only [putRes]; rw [hφ3]; simp [upd, e]
                              | some d =>
                                simp only
                                split
                                · rfl
                                · rename_i hh
                                  rw [putRes_out h8 (fun d' hd' => by cases hd'; simpa using hh), hφ3]
                                  simp [upd, e]
                          have htm2s : tm2 s = a.eval y := by
                            show tmO _ _ s = _
                            rw [putTm_out hdst hsd, hA.val]
                          have hts : ∀ k t, tgR o.dst rs.length k = some t → t ≠ s := by
                            rintro k t hk rfl
                            obtain ⟨d, e1, e2⟩ := tgR_hit h8 hk
                            rw [hsd d e1] at e2; cases e2
                          have hfr : ∀ b o1 k t, C0.own b = some o1 → tgR o.dst rs.length k = some t → o1.p.s ≠ t := by
                            rintro b o1 k t ho1 hk rfl
                            obtain ⟨d, e1, e2⟩ := tgR_hit h8 hk
                            have := hfree d e1 b o1 ho1
                            rw [this] at e2; cases e2
                          have hinj : ∀ i j t, tgR o.dst rs.length i = some t → tgR o.dst rs.length j = some t → i = j := fun i j t q1 q2 => tgR_inj q1 q2
                          have hsub := ptr_sub (tg := tgR o.dst rs.length) h2 hdone hts hinj hfr
                          have hok : ∀ {q q' : List Pv}, substQ (px :: pss) q = some q' → ∀ b, okB C' q b → okB (C0.backP C' s ms.length (tgR o.dst rs.length) w.heap.size) q' b := fun hq b hb => backP_ok h2 hsub hdone (fun i b hb => hb) hkall hq hb
                          have hlm : (sg.res.map (SM.map (substQ (px :: pss)))).length = rs.length := by rw [List.length_map]; exact hdone.lenr
                          have hself : ClaimX w' (C0.backP C' s ms.length (tgR o.dst rs.length) w.heap.size) (upd φ2 s (.box ds')) tm2 s (.box ds') (tm2 s) (.box (mapL (substQ (px :: pss)) ms')) := by
                            rw [htm2s]
                            have hcl0 := hdone.out
                            obtain ⟨ds9, b9, off9, arr9, e91, e92, e93⟩ := hcl0
                            cases e91
                            refine ⟨ds', b9, off9, arr9, rfl, e92, backP_own0 hdone e93.own rfl, e93.heap, e93.size, fun i row hi => by rw [mapL_len]; exact e93.len i row hi, .inl (by simp), ?_⟩
                            intro i j row d m q1 q2 q3
                            obtain ⟨m0, q4, rfl⟩ := mapL_get q3
                            have q1' := q1
                            cases i with
                            | succ i => simp at q1
                            | zero =>
                              simp only [List.getElem?_cons_zero, Option.some.injEq] at q1
                              subst q1
                              have hj := (List.getElem?_eq_some_iff.1 q2).1
                              refine (e93.kids 0 j ds' d m0 rfl q2 q4).move _ (substQ (px :: pss)) ?_ (fun ps ps' hf b hb => ⟨hok hf b hb, rfl⟩)
                              intro b' q off' c' z' hb'
                              refine ⟨?_, rfl⟩
                              have := backP_own0 (tg := tgR o.dst rs.length) hdone (q := (0, j) :: q) hb' (by simp only [okQ, decide_eq_true_eq]; omega)
                              simpa [Pl.ext, Pl.cell] using this
                          have hmain : St A w' μ' (upd φ2 s (.box ds')) tm2 (C0.backP C' s ms.length (tgR o.dst rs.length) w.heap.size) := by
                            refine h2.ptr_back hdone hts hinj hfr ?_ hgam hnog hφ2s hdl hdl2 rfl ?_ ?_
                            · intro b' off' c' z' hb'
                              have hb9 := h2.inj b' _ _ _ hb' hA.node.own rfl
                              subst hb9
                              rw [hA.node.own] at hb'
                              cases hb'
                              exact backP_own0 hdone hnode2.own rfl
                            · intro r hr hri o1 ho1
                              obtain ⟨e, _⟩ := (h2.rng r hr).2 o1 ho1
                              have hb9 := h2.inj r.b _ _ _ ho1 hA.node.own (by rw [e, hri])
                              rw [e, hb9, hA.node.own] at ho1
                              simp only [Option.some.injEq, Ow.mk.injEq] at ho1
                              rw [hA.ptr, hb9, ho1.2.1]
                            · intro s'
                              by_cases hss : s' = s
                              · subst hss
                                right; left
                                have hg : μ'.get s' = .box (mapL (substQ (px :: pss)) ms') := by
                                  have hb : (backP (μ.clearO o.dst) s' (mapL (substQ (px :: pss)) ms')).get s' = .box (mapL (substQ (px :: pss)) ms') := by unfold backP; rw [get_set]; simp
                                  rcases putResM_get hm s' with ⟨d, e1, e2, _⟩ | ⟨_, e2⟩
                                  · rw [hsd d e1] at e2; cases e2
                                  · rw [e2, hb]
                                    cases o.dst <;> rfl
                                unfold Claim
                                rw [hg, show upd φ2 s' (.box ds') s' = .box ds' by simp [upd]]
                                exact hself
                              · rcases putResM_get hm s' with ⟨d, e1, e2, e3⟩ | ⟨e1, e2⟩
                                · right; left
                                  rw [e3]
                                  obtain ⟨d1, d2⟩ := hdst d e1
                                  have htm2 : tm2 = tmO (a.put (some d) (packV vs)).tmps (putTm a g (some d) vs) := by show tmO (a.put o.dst _).tmps (putTm a g o.dst vs) = _; rw [e1]
                                  rw [e1, htm2]
                                  refine res_slots (φ1 := φ1) d1 d2 h8 hlv hlm ?_ ?_ e2
                                  · intro s2 hh
                                    have : s2 ≠ s := by rintro rfl; rw [hsd d e1] at hh; cases hh
                                    simp only [upd, this, if_false]
                                    show (match o.dst with | some d => if hit d s2 then putRes o.dst rs φ1 s2 else φ s2 | none => φ s2) = _
                                    rw [e1]
                                    simp [hh]
                                  · intro k t r v m q1 q2 q3 q4
                                    rw [List.getElem?_map, Option.map_eq_some_iff] at q4
                                    obtain ⟨sm, q4, rfl⟩ := q4
                                    refine res_move (hdone.res k r v sm q2 q3 q4) (List.all_eq_true.1 hres _ (List.mem_of_getElem? q4)) (substQ (px :: pss)) ?_ (fun ps ps' hf b hb => by rw [← e1]; exact hok hf b hb)
                                    intro b' q off' c' z' hb'
                                    have := backP_ownk (s := s) (tg := tgR (some d) rs.length) hdone q1 hb'
                                    exact this
                                · right; right
                                  refine ⟨hss, fun sm => o.dst.elim sm fun d => sm.dropS d, ?_, ?_⟩
                                  · intro sm hsm
                                    have key : ∀ dd : Option Tmp, ClaimX w' (C0.backP C' s ms.length (tgR o.dst rs.length) w.heap.size) (upd φ2 s (.box ds')) tm2 s' (upd φ2 s (.box ds') s') (tm2 s') (dd.elim sm fun d => sm.dropS d) := by
                                      intro dd
                                      cases dd with
                                      | none => exact hsm
                                      | some d => exact ClaimX.dropS hsm
                                    exact key o.dst
                                  · rw [e2]
                                    have hb : (backP (μ.clearO o.dst) s (mapL (substQ (px :: pss)) ms')).get s' = finSM [s] 0 ms.length (((μ.clearO o.dst).get s').map (killD [s])) := by
                                      unfold backP
                                      rw [get_set, if_neg hss, mapL_len, ← hmm]
                                      exact get_mapG (fun x => finSM [s] 0 ms.length (x.map (killD [s]))) rfl _ s'
                                    rw [hb]
                          rw [← hfin] at hmain
                          exact hK (packV vs) w' _ _ hmain
                        · cases hback
                  · cases hx
                · cases hx
              · cases hx
            · cases has
          · cases hx
        · cases hm
      · cases hm
    · cases hm
  · cases hm
end
end Go.Ev

/- A struct that is passed, and what it owns may be written: as a call that was given its box. -/
namespace Go.Ev
theorem isV0_eq {sm : SM} (h : sm.isV0 = true) : sm = .c (.view []) .no := by
  unfold SM.isV0 at h
  split at h
  · rfl
  · cases h

open Classical in
/-- Steps into columns that are lent. -/
noncomputable def inJ (J : Nat → Prop) : List (Nat × Nat) → Bool
  | [] => false
  | (_, c) :: _ => decide (J c)

noncomputable def lentJ (C : Cx) (s : Nat) (J : Nat → Prop) : Nat → Option Ow := fun b => (lentN C ⟨s, []⟩ b).filter fun o => inJ J o.p.st

theorem lentJ_some {C : Cx} {s b : Nat} {J : Nat → Prop} {o : Ow} (h : lentJ C s J b = some o) : ∃ o0 q, C.own b = some o0 ∧ o0.p = (⟨s, []⟩ : Pl).ext q ∧ o = { o0 with p := ⟨0, q⟩ } ∧ inJ J q = true := by
  unfold lentJ at h
  rw [Option.filter_eq_some_iff] at h
  obtain ⟨o0, q, h1, h2, rfl⟩ := lentN_some h.1
  exact ⟨o0, q, h1, h2, rfl, h.2⟩

theorem lentJ_of {C : Cx} {s b off c z : Nat} {J : Nat → Prop} {q : List (Nat × Nat)} (h : C.own b = some ⟨⟨s, q⟩, off, c, z⟩) (hq : inJ J q = true) : lentJ C s J b = some ⟨⟨0, q⟩, off, c, z⟩ := by
  have h1 : lentN C ⟨s, []⟩ b = some ⟨⟨0, q⟩, off, c, z⟩ := lentN_of (p := ⟨s, []⟩) (q := q) (off := off) (c := c) (z := z) (by rw [h]; simp [Pl.ext])
  unfold lentJ
  rw [h1]
  simp [Option.filter, hq]

/-- One column: what is in the box, and what is passed. -/
inductive ColJ (w : World) (C : Cx) (p : Pl) : M → D → Value → Value → Prop
  | own {cols : List M} {z : Nat} {rows : List (List D)} {u v : Value} : Rep w C p (.own cols) (.sl z rows) u → Rep w C p (.own cols) (.sl z rows) v → (u = v ∨ (rows = [] ∧ u = .slice none 0 0) ∨ v = .slice none 0 0) → ColJ w C p (.own cols) (.sl z rows) u v
  | flat {x : Value} : x.scalar = true → ColJ w C p (.view []) (.v x) x x

theorem rep_nil_len {w : World} {C : Cx} {p : Pl} {cols : List M} {d : D} {a : Option Addr} {c : Nat} (h : Rep w C p (.own cols) d (.slice a 0 c)) : ∃ z, d = .sl z [] := by
  generalize hm : M.own cols = m at h
  generalize hv : Value.slice a 0 c = v at h
  cases h with
  | u => cases hm
  | emp => cases hm
  | view _ => cases hm
  | nil => exact ⟨_, rfl⟩
  | @own _ _ z rows b off c' arr ty h1 h2 h3 h4 h5 h6 h7 h8 =>
    simp only [Value.slice.injEq] at hv
    have : rows = [] := List.length_eq_zero_iff.1 hv.2.1.symm
    exact ⟨z, by rw [this]⟩

theorem rep_nil_z {w : World} {C : Cx} {p : Pl} {cols : List M} {z z' : Nat} {u : Value} (h : Rep w C p (.own cols) (.sl z []) u) (hz : z = z') : Rep w C p (.own cols) (.sl z' []) u := by subst hz; exact h

theorem sameZ_get {xs : List D} : ∀ {ys : List D}, sameZ xs ys = true → ∀ {j : Nat} {z z' : Nat} {r r' : List (List D)}, xs[j]? = some (.sl z r) → ys[j]? = some (.sl z' r') → z = z' := by
  induction xs with
  | nil => intro ys h j z z' r r' h1 h2; simp at h1
  | cons x xs ih =>
    intro ys h j z z' r r' h1 h2
    cases ys with
    | nil => simp at h2
    | cons y ys =>
      cases j with
      | zero =>
        simp only [List.getElem?_cons_zero, Option.some.injEq] at h1 h2
        subst h1; subst h2
        simp only [sameZ, Bool.and_eq_true, decide_eq_true_eq] at h
        exact h.1
      | succ j =>
        simp only [List.getElem?_cons_succ] at h1 h2
        refine ih ?_ h1 h2
        cases x <;> cases y <;> simp [sameZ] at h
        · exact h
        · exact h.2

theorem rep_slice {w : World} {C : Cx} {p : Pl} {cols : List M} {z : Nat} {rows : List (List D)} {v : Value} (h : Rep w C p (.own cols) (.sl z rows) v) : ∃ a c, v = .slice a rows.length c := by
  cases h with
  | nil => exact ⟨_, _, rfl⟩
  | own => exact ⟨_, _, rfl⟩

def JJ (n : Nat) (vs : Array Value) : Nat → Prop := fun j => j < n ∧ vs.getD j undef ≠ .slice none 0 0

theorem lentJ_P {C : Cx} {s n b : Nat} {vs : Array Value} {o : Ow} (h : lentJ C s (JJ n vs) b = some o) : lentP C s n b = some o := by
  obtain ⟨⟨⟨os, ost⟩, o1, o2, o3⟩, q, k1, k2, rfl, k4⟩ := lentJ_some h
  simp only [Pl.ext, List.nil_append, Pl.mk.injEq] at k2
  obtain ⟨rfl, rfl⟩ := k2
  refine lentP_of k1 ?_
  cases ost with
  | nil => rfl
  | cons x xs =>
    obtain ⟨i, c⟩ := x
    simp only [inJ, decide_eq_true_eq] at k4
    simp only [okQ, decide_eq_true_eq]
    exact k4.1

open Classical in
noncomputable def Cx.boxA (C C' : Cx) (s n : Nat) (J : Nat → Prop) : Cx where
  own b := if (lentJ C s J b).isNone = true ∧ (lentP C s n b).isSome = true then lentP C s n b else (C'.own b).filter fun o => decide (o.p.s ≠ 0) || inJ J o.p.st
  G := C'.G
  PA := C'.PA

section
variable {A : Start} {w w' : World} {μ μ' : Mu} {φ φ' : Fr} {tm : Nat → Value} {C C' : Cx} {s n : Nat}
variable {PA : Nat → Nat → Prop} {res : List SM} {xo : X} {rs : List X} {vs : List Value}

theorem agg_box (h : St A w μ φ tm C) {ms ms0 : List M} {ds : List D} {b off : Nat} {arr vs8 : Array Value} (hnode : Node w C ⟨s, []⟩ ms0 [ds] b off 0 0 arr) (hl0 : ms0.length = ms.length) (hprov : provL ms = some [])
    (hcol : ∀ j (d : D) (m : M), ds[j]? = some d → ms[j]? = some m → ColJ w C ⟨s, [(0, j)]⟩ m d (arr.getD (off + j) undef) (vs8.getD j undef)) (hres : res.all SM.isV0 = true) {m8 : Nat} (hzz : ∀ ds', xo = .agg ds' none → sameZ ds ds' = true)
    (hD : DoneP w w' (lentJ C s (JJ ms.length vs8)) C.G PA res (.agg ms .no) m8 (.agg vs8) xo rs vs C') :
    ∃ C'' ds', xo = .agg ds' none ∧ ds'.length = ms.length ∧ DoneP w w' (lentP C s ms.length) C.G PA res (.box ms) ms.length (.pointer (some ⟨b, off, none⟩)) (.box ds') rs vs C'' := by
  obtain ⟨ds', o8, vs', rfl, hv8, hvl, hml, hkids, hog⟩ := hD.out
  cases hv8
  simp only [AOgOk] at hog
  subst hog
  have hdl := hnode.len 0 ds rfl
  have hzz := hzz ds' rfl
  have hJn : ∀ bb, lentP C s ms.length bb = none → lentJ C s (JJ ms.length vs8) bb = none := by
    intro bb hb
    cases e : lentJ C s (JJ ms.length vs8) bb with
    | none => rfl
    | some o => rw [lentJ_P e] at hb; cases hb
  have hJs : ∀ bb, lentJ C s (JJ ms.length vs8) bb ≠ none → lentP C s ms.length bb ≠ none := fun bb hb hn => hb (hJn bb hn)
  -- blocks that stay as they were
  have hstay : ∀ bb o, lentJ C s (JJ ms.length vs8) bb = none → C.own bb = some o → bb < w.heap.size ∧ w'.heap[bb]? = w.heap[bb]? ∧ ¬ C'.G bb := by
    intro bb o hn ho
    obtain ⟨k1, k2, _⟩ := h.own bb o ho
    refine ⟨k1, hD.same bb k1 hn, fun hg => ?_⟩
    rcases hD.frz bb hg with hg | ⟨hg | hg, _⟩
    · exact k2 hg
    · exact hg hn
    · omega
  have hlP : ∀ bb o, lentP C s ms.length bb = some o → ∃ o0, C.own bb = some o0 ∧ o0.p = ⟨s, o.p.st⟩ ∧ o = { o0 with p := ⟨0, o.p.st⟩ } ∧ okQ ms.length o.p.st = true := by
    intro bb o hb
    obtain ⟨o0, q, k1, k2, rfl, k4⟩ := lentP_some hb
    exact ⟨o0, k1, by simpa [Pl.ext] using k2, rfl, k4⟩
  let C2 : Cx := C.boxA C' s ms.length (JJ ms.length vs8)
  have hcase : ∀ bb o, C2.own bb = some o → (lentJ C s (JJ ms.length vs8) bb = none ∧ lentP C s ms.length bb = some o) ∨ (¬ (lentJ C s (JJ ms.length vs8) bb = none ∧ (lentP C s ms.length bb).isSome = true) ∧ C'.own bb = some o ∧ (o.p.s ≠ 0 ∨ inJ (JJ ms.length vs8) o.p.st = true)) := by
    intro bb o ho
    simp only [C2, Cx.boxA] at ho
    split at ho
    · rename_i hc
      exact .inl ⟨Option.isNone_iff_eq_none.1 hc.1, ho⟩
    · rename_i hc
      rw [Option.filter_eq_some_iff] at ho
      refine .inr ⟨fun hq => hc ⟨Option.isNone_iff_eq_none.2 hq.1, hq.2⟩, ho.1, ?_⟩
      simpa using ho.2
  have hkeep : ∀ bb o, lentJ C s (JJ ms.length vs8) bb = none → lentP C s ms.length bb = some o → C2.own bb = some o := by
    intro bb o h1 h2
    simp only [C2, Cx.boxA]
    rw [if_pos ⟨by rw [h1]; rfl, by rw [h2]; rfl⟩, h2]
  have hback : ∀ bb o, C'.own bb = some o → (o.p.s ≠ 0 ∨ inJ (JJ ms.length vs8) o.p.st = true) → C2.own bb = some o := by
    intro bb o h1 h2
    simp only [C2, Cx.boxA]
    rw [if_neg, h1]
    · simp only [Option.filter, ite_eq_left_iff]
      intro hq
      exact (hq (by simpa using h2)).elim
    · rintro ⟨hq1, hq2⟩
      rcases (hD.own bb o h1).1 with hq | hq
      · exact hq (Option.isNone_iff_eq_none.1 hq1)
      · obtain ⟨o2, ho2⟩ := Option.isSome_iff_exists.1 hq2
        obtain ⟨o0, g1, _⟩ := hlP bb o2 ho2
        have := (h.own bb o0 g1).1
        omega
  have hbJ : lentJ C s (JJ ms.length vs8) b = none := by
    cases e : lentJ C s (JJ ms.length vs8) b with
    | none => rfl
    | some o =>
      obtain ⟨o0, q, k1, k2, _, k4⟩ := lentJ_some e
      rw [hnode.own] at k1
      cases k1
      simp only [Pl.ext, List.nil_append, Pl.mk.injEq, true_and] at k2
      subst k2
      simp [inJ] at k4
  have hbP : lentP C s ms.length b = some ⟨⟨0, []⟩, off, 0, 0⟩ := lentP_of hnode.own rfl
  have hbs := hstay b _ hbJ hnode.own
  obtain ⟨tyb, hheap⟩ := hnode.heap
  refine ⟨C2, ds', rfl, by rw [← hml], ?_⟩
  refine ⟨hD.size, fun bb h1 h2 => hD.same bb h1 (hJn bb h2), hD.calm, ?_, ?_, ?_, ?_, hD.keep, hD.pa, ?_, hD.len, hD.lenr, ?_, ?_⟩
  · intro b1 off1 e
    simp only [Value.pointer.injEq, Option.some.injEq, Addr.mk.injEq, and_true] at e
    obtain ⟨rfl, rfl⟩ := e
    exact ⟨arr, tyb, arr, hheap, by rw [hbs.2.1]; exact hheap, rfl, fun _ _ => rfl⟩
  · intro bb o ho
    rcases hcase bb o ho with ⟨h1, h2⟩ | ⟨h1, h2, h3⟩
    · obtain ⟨o0, k1, k2, k3, _⟩ := hlP bb o h2
      obtain ⟨g1, g2, g3⟩ := hstay bb o0 h1 k1
      refine ⟨.inl (by rw [h2]; simp), Nat.lt_of_lt_of_le g1 hD.size, g3, ?_⟩
      rw [k3]
      exact Nat.zero_le _
    · obtain ⟨g1, g2, g3, g4⟩ := hD.own bb o h2
      exact ⟨g1.imp (hJs bb) _root_.id, g2, g3, g4⟩
  · intro b1 b2 o1 o2 h1 h2 e
    rcases hcase b1 o1 h1 with ⟨a1, a2⟩ | ⟨a1, a2, a3⟩ <;> rcases hcase b2 o2 h2 with ⟨c1, c2⟩ | ⟨c1, c2, c3⟩
    · obtain ⟨p0, k1, k2, k3, _⟩ := hlP b1 o1 a2
      obtain ⟨q0, j1, j2, j3, _⟩ := hlP b2 o2 c2
      exact h.inj b1 b2 p0 q0 k1 j1 (by rw [k2, j2, e])
    · exfalso
      obtain ⟨p0, k1, k2, k3, k4⟩ := hlP b1 o1 a2
      have hs0 : o2.p.s = 0 := by rw [← e, k3]
      have hj := c3.resolve_left (fun hq => hq hs0)
      rw [← e] at hj
      have hp0 : C.own b1 = some ⟨⟨s, o1.p.st⟩, p0.off, p0.cap, p0.z⟩ := by rw [k1, ← k2]
      rw [lentJ_of hp0 hj] at a1
      cases a1
    · exfalso
      obtain ⟨p0, k1, k2, k3, k4⟩ := hlP b2 o2 c2
      have hs0 : o1.p.s = 0 := by rw [e, k3]
      have hj := a3.resolve_left (fun hq => hq hs0)
      rw [e] at hj
      have hp0 : C.own b2 = some ⟨⟨s, o2.p.st⟩, p0.off, p0.cap, p0.z⟩ := by rw [k1, ← k2]
      rw [lentJ_of hp0 hj] at c1
      cases c1
    · exact hD.inj b1 b2 o1 o2 a2 c2 e
  · intro bb hb
    rcases hD.frz bb hb with hg | ⟨hg, h3⟩
    · exact .inl hg
    · exact .inr ⟨hg.imp (hJs bb) _root_.id, h3⟩
  · intro bb o ho
    rcases hcase bb o ho with ⟨h1, h2⟩ | ⟨h1, h2, h3⟩
    · obtain ⟨o0, k1, k2, k3, _⟩ := hlP bb o h2
      obtain ⟨g1, g2, g3⟩ := hstay bb o0 h1 k1
      obtain ⟨arr1, ty1, q1, q2⟩ := h.oko bb o0 k1
      refine ⟨arr1, ty1, by rw [g2]; exact q1, ?_⟩
      rw [k3]
      exact q2
    · exact hD.oko bb o h2
  · intro k r v sm q1 q2 q3
    have hok := isV0_eq (List.all_eq_true.1 hres _ (List.mem_of_getElem? q3))
    have h0 := hD.res k r v sm q1 q2 q3
    rw [hok] at h0 ⊢
    refine res_move (s := k + 1) (C2 := C2) h0 rfl nilF (fun b' q off' c' z' hb' => hback b' _ hb' (.inl (by simp))) (fun ps ps' hf b' hb' => ?_)
    obtain ⟨rfl, rfl⟩ := nilF_some hf
    rcases hb' with hb' | ⟨_, hp, _⟩
    · exact .inl hb'
    · simp at hp
  · refine ⟨ds', b, off, arr, rfl, rfl, hkeep b _ hbJ hbP, ⟨tyb, by rw [hbs.2.1]; exact hheap⟩, ?_, ?_, .inl (by simp), ?_⟩
    · intro i row hr
      cases i with
      | succ i => simp at hr
      | zero =>
        simp only [List.getElem?_cons_zero, Option.some.injEq] at hr
        subst hr
        have := hnode.size 0 ds rfl
        omega
    · intro i row hr
      cases i with
      | succ i => simp at hr
      | zero =>
        simp only [List.getElem?_cons_zero, Option.some.injEq] at hr
        subst hr
        exact hml.symm
    · intro i j row d m q1 q2 q3
      cases i with
      | succ i => simp at q1
      | zero =>
        simp only [List.getElem?_cons_zero, Option.some.injEq] at q1
        subst q1
        have hj := (List.getElem?_eq_some_iff.1 q3).1
        have hd0 : ds[j]? = some ds[j] := List.getElem?_eq_getElem (by omega)
        obtain ⟨dd, hdd⟩ : ∃ dd, ds[j]? = some dd := ⟨_, hd0⟩
        have hc := hcol j dd m hdd q3
        have hrep : Rep w' C' ((⟨0, []⟩ : Pl).cell 0 j) m d (vs8.getD j undef) := hkids 0 j ds' d m rfl q2 q3
        have hpm : m.prov = some [] := by
          obtain ⟨rs1, g1, g2⟩ := provL_mem hprov q3
          cases rs1 with
          | nil => exact g1
          | cons x xs => exact absurd (g2 x (by simp)) (by simp)
        have hpl : (⟨0, []⟩ : Pl).cell 0 j = ⟨0, [(0, j)]⟩ := rfl
        rw [hpl] at hrep ⊢
        have hG' : ∀ ps ps', nilF ps = some ps' → ∀ b', okB C' ps b' → okB C2 ps' b' ∧ w'.heap[b']? = w'.heap[b']? := by
          intro ps ps' hf b' hb'
          obtain ⟨rfl, rfl⟩ := nilF_some hf
          refine ⟨?_, rfl⟩
          rcases hb' with hb' | ⟨_, hp, _⟩
          · exact .inl hb'
          · simp at hp
        show Rep w' C2 ⟨0, [(0, j)]⟩ m d (arr.getD (off + 0 * 0 + j) undef)
        rw [show off + 0 * 0 + j = off + j by omega]
        by_cases hJ : vs8.getD j undef = .slice none 0 0
        · -- nothing is passed
          generalize hu : arr.getD (off + j) undef = u at hc
          rw [hJ] at hc hrep
          generalize hv : Value.slice none 0 0 = v at hc
          cases hc with
          | flat hx => subst hv; simp [Value.scalar] at hx
          | @own cols z rows _ _ r1 r2 r3 =>
            subst hv
            obtain ⟨z', rfl⟩ := rep_nil_len hrep
            obtain ⟨z2, e2⟩ := rep_nil_len r2
            cases e2
            -- what the box has stays
            have hkp : ∀ b' q off' c' z9, C.own b' = some ⟨(⟨s, [(0, j)]⟩ : Pl).ext q, off', c', z9⟩ → C2.own b' = some ⟨(⟨0, [(0, j)]⟩ : Pl).ext q, off', c', z9⟩ ∧ w'.heap[b']? = w.heap[b']? := by
              intro b' q off' c' z9 hb'
              have hb2 : C.own b' = some ⟨⟨s, (0, j) :: q⟩, off', c', z9⟩ := by simpa [Pl.ext] using hb'
              have e1 : lentJ C s (JJ ms.length vs8) b' = none := by
                cases e : lentJ C s (JJ ms.length vs8) b' with
                | none => rfl
                | some o =>
                  obtain ⟨o0, q0, k1, k2, _, k4⟩ := lentJ_some e
                  rw [hb2] at k1
                  cases k1
                  simp only [Pl.ext, List.nil_append, Pl.mk.injEq, true_and] at k2
                  subst k2
                  simp only [inJ, decide_eq_true_eq] at k4
                  exact (k4.2 hJ).elim
              refine ⟨?_, (hstay b' _ e1 hb2).2.1⟩
              rw [show (⟨0, [(0, j)]⟩ : Pl).ext q = ⟨0, (0, j) :: q⟩ by simp [Pl.ext]]
              exact hkeep b' _ e1 (lentP_of hb2 (by simpa [okQ] using hj))
            have hG2 : ∀ ps ps', nilF ps = some ps' → ∀ b', okB C ps b' → okB C2 ps' b' ∧ w'.heap[b']? = w.heap[b']? := by
              intro ps ps' hf b' hb'
              obtain ⟨rfl, rfl⟩ := nilF_some hf
              have hg : C.G b' := by
                rcases hb' with hb' | ⟨_, hp, _⟩
                · exact hb'
                · simp at hp
              refine ⟨.inl (hD.keep b' hg), hD.same b' (h.frz b' hg).1 ?_⟩
              cases e : lentJ C s (JJ ms.length vs8) b' with
              | none => rfl
              | some o =>
                obtain ⟨o0, q0, k1, _⟩ := lentJ_some e
                exact ((h.own b' o0 k1).2.1 hg).elim
            have := r1.move ⟨0, [(0, j)]⟩ nilF hkp hG2
            rw [map_prov nilF rfl _ hpm] at this
            exact rep_nil_z this (sameZ_get hzz hdd q2)
        · have hback1 : Rep w' C2 ⟨0, [(0, j)]⟩ m d (vs8.getD j undef) := by
            have := hrep.move ⟨0, [(0, j)]⟩ nilF (w' := w') (C' := C2) (fun b' q off' c' z' hb' => ⟨hback b' _ hb' (.inr (by simp only [Pl.ext, List.cons_append, List.nil_append, inJ, decide_eq_true_eq]; exact ⟨hj, hJ⟩)), rfl⟩) hG'
            rwa [map_prov nilF rfl m hpm] at this
          generalize hu : arr.getD (off + j) undef = u at hc
          generalize hv : vs8.getD j undef = v at hc hback1 hJ
          cases hc with
          | flat hx => exact hback1
          | @own cols z rows _ _ r1 r2 r3 =>
            rcases r3 with rfl | ⟨rfl, rfl⟩ | rfl
            · exact hback1
            · obtain ⟨a1, c1, e1⟩ := rep_slice r2
              subst e1
              obtain ⟨z2, rfl⟩ := rep_nil_len hback1
              exact .nil
            · exact (hJ rfl).elim
end
end Go.Ev

/- Such a call: the state behind it; and for a struct. -/
namespace Go.Ev
section
variable {V : Env} {A : Start} {w w' : World} {μ μ' : Mu} {φ φ' : Fr} {C : Cx} {a : Act} {g : Nat → Value} {o : Oper} {x : X}

theorem callP_tail {sg : Sig} {ms ms' ms0 : List M} {s : Nat} {px : List Pv} {pss : List (List Pv)} {C0 C' : Cx} {ds ds' : List D} {b off : Nat} {arr : Array Value} {pv : Value} {rs : List X} {vs : List Value} {φ1 : Fr}
    (h8 : rs.length ≤ 8) (hdst : ∀ d, o.dst = some d → d < 1000 ∧ d < a.tmps.size)
    (hclear : ∀ φ2 tm2, (∀ s, (∀ d, o.dst = some d → hit d s = false) → φ2 s = φ s ∧ tm2 s = tmO a.tmps g s) → St A w (μ.clearO o.dst) φ2 tm2 C0) (hfree : ∀ d, o.dst = some d → FreeAt C0 d)
    (hbox : (μ.clearO o.dst).get s = .box ms0) (hdl : ds.length = ms.length) (hokG : (μ.clearO o.dst).okG = true) (hslot : φ s = .box ds) (hval : pv = tmO a.tmps g s) (hptr : pv = .pointer (some ⟨b, off, none⟩)) (hnode : Node w C0 ⟨s, []⟩ ms0 [ds] b off 0 0 arr)
    (hres : sg.res.all SM.resOk = true) (hmm : ms.length = ms'.length) (hkall : ∀ q ∈ px :: pss, (killD [s] q).isSome = true)
    (hdone : DoneP w w' (lentP C0 s ms.length) C0.G (fun i b => okB C0 ((px :: pss).getD i []) b) sg.res (.box ms') ms.length pv (.box ds') rs vs C') (hφ3 : φ1 = upd φ s (.box ds'))
    (hm : putResM o.dst (sg.res.map (SM.map (substQ (px :: pss)))) (backP (μ.clearO o.dst) s (mapL (substQ (px :: pss)) ms')) = some μ') :
    ∃ C2 g', St A w' μ' (putRes o.dst rs φ1) (tmO (a.put o.dst (packV vs)).tmps g') C2 := by
  obtain ⟨hgam, hnog⟩ := okG_spec hokG
  have hsd : ∀ d, o.dst = some d → hit d s = false := by
    intro d hd
    rw [Bool.eq_false_iff]
    intro hh
    have := hbox
    rw [hd] at this
    simp only [Mu.clearO, get_clear, hh, if_true] at this
    cases this
  obtain ⟨ds'', b2, off2, arr2, e1, hv2, hnode2⟩ := hdone.out
  cases e1
  have hdl2 : ds'.length = ms.length := by rw [hnode2.len 0 ds' rfl, hmm]
  rw [hptr] at hv2
  simp only [Value.pointer.injEq, Option.some.injEq, Addr.mk.injEq, and_true] at hv2
  obtain ⟨rfl, rfl⟩ := hv2
  have hlv := hdone.len
  -- the frame and the values once the results are put
  let φ2 : Fr := fun s' => match o.dst with
    | some d => if hit d s' then putRes o.dst rs φ1 s' else φ s'
    | none => φ s'
  let tm2 : Nat → Value := tmO (a.put o.dst (packV vs)).tmps (putTm a g o.dst vs)
  have h2 : St A w (μ.clearO o.dst) φ2 tm2 C0 := by
    refine hclear φ2 tm2 fun s' hs' => ⟨?_, putTm_out hdst hs'⟩
    show (match o.dst with | some d => if hit d s' then putRes o.dst rs φ1 s' else φ s' | none => φ s') = φ s'
    cases hds : o.dst with
    | none => rfl
    | some d => simp [hs' d hds]
  have hφ2s : φ2 s = .box ds := by
    show (match o.dst with | some d => if hit d s then putRes o.dst rs φ1 s else φ s | none => φ s) = _
    cases hds : o.dst with
    | none => exact hslot
    | some d => simp only [hsd d hds, Bool.false_eq_true, if_false]; exact hslot
  have hfin : putRes o.dst rs φ1 = upd φ2 s (.box ds') := by
    funext s'
    by_cases e : s' = s
    · subst e
      rw [putRes_out h8 hsd, hφ3]
      simp [upd]
    · simp only [upd, e, if_false]
      show _ = (match o.dst with | some d => if hit d s' then putRes o.dst rs φ1 s' else φ s' | none => φ s')
      cases hds : o.dst with
      | none => simp only [putRes]; rw [hφ3]; simp [upd, e]
      | some d =>
        simp only
        split
        · rfl
        · rename_i hh
          rw [putRes_out h8 (fun d' hd' => by cases hd'; simpa using hh), hφ3]
          simp [upd, e]
  have htm2s : tm2 s = pv := by
    show tmO _ _ s = _
    rw [putTm_out hdst hsd, hval]
  have hts : ∀ k t, tgR o.dst rs.length k = some t → t ≠ s := by
    rintro k t hk rfl
    obtain ⟨d, e1, e2⟩ := tgR_hit h8 hk
    rw [hsd d e1] at e2; cases e2
  have hfr : ∀ b o1 k t, C0.own b = some o1 → tgR o.dst rs.length k = some t → o1.p.s ≠ t := by
    rintro b o1 k t ho1 hk rfl
    obtain ⟨d, e1, e2⟩ := tgR_hit h8 hk
    have := hfree d e1 b o1 ho1
    rw [this] at e2; cases e2
  have hinj : ∀ i j t, tgR o.dst rs.length i = some t → tgR o.dst rs.length j = some t → i = j := fun i j t q1 q2 => tgR_inj q1 q2
  have hsub := ptr_sub (tg := tgR o.dst rs.length) h2 hdone hts hinj hfr
  have hok : ∀ {q q' : List Pv}, substQ (px :: pss) q = some q' → ∀ b, okB C' q b → okB (C0.backP C' s ms.length (tgR o.dst rs.length) w.heap.size) q' b := fun hq b hb => backP_ok h2 hsub hdone (fun i b hb => hb) hkall hq hb
  have hlm : (sg.res.map (SM.map (substQ (px :: pss)))).length = rs.length := by rw [List.length_map]; exact hdone.lenr
  have hself : ClaimX w' (C0.backP C' s ms.length (tgR o.dst rs.length) w.heap.size) (upd φ2 s (.box ds')) tm2 s (.box ds') (tm2 s) (.box (mapL (substQ (px :: pss)) ms')) := by
    rw [htm2s]
    have hcl0 := hdone.out
    obtain ⟨ds9, b9, off9, arr9, e91, e92, e93⟩ := hcl0
    cases e91
    refine ⟨ds', b9, off9, arr9, rfl, e92, backP_own0 hdone e93.own rfl, e93.heap, e93.size, fun i row hi => by rw [mapL_len]; exact e93.len i row hi, .inl (by simp), ?_⟩
    intro i j row d m q1 q2 q3
    obtain ⟨m0, q4, rfl⟩ := mapL_get q3
    have q1' := q1
    cases i with
    | succ i => simp at q1
    | zero =>
      simp only [List.getElem?_cons_zero, Option.some.injEq] at q1
      subst q1
      have hj := (List.getElem?_eq_some_iff.1 q2).1
      refine (e93.kids 0 j ds' d m0 rfl q2 q4).move _ (substQ (px :: pss)) ?_ (fun ps ps' hf b hb => ⟨hok hf b hb, rfl⟩)
      intro b' q off' c' z' hb'
      refine ⟨?_, rfl⟩
      have := backP_own0 (tg := tgR o.dst rs.length) hdone (q := (0, j) :: q) hb' (by simp only [okQ, decide_eq_true_eq]; omega)
      simpa [Pl.ext, Pl.cell] using this
  have hmain : St A w' μ' (upd φ2 s (.box ds')) tm2 (C0.backP C' s ms.length (tgR o.dst rs.length) w.heap.size) := by
    refine h2.ptr_back hdone hts hinj hfr ?_ hgam hnog hφ2s hdl hdl2 rfl ?_ ?_
    · intro b' off' c' z' hb'
      have hb9 := h2.inj b' _ _ _ hb' hnode.own rfl
      subst hb9
      rw [hnode.own] at hb'
      cases hb'
      exact backP_own0 hdone hnode2.own rfl
    · intro r hr hri o1 ho1
      obtain ⟨e, _⟩ := (h2.rng r hr).2 o1 ho1
      have hb9 := h2.inj r.b _ _ _ ho1 hnode.own (by rw [e, hri])
      rw [e, hb9, hnode.own] at ho1
      simp only [Option.some.injEq, Ow.mk.injEq] at ho1
      rw [hptr, hb9, ho1.2.1]
    · intro s'
      by_cases hss : s' = s
      · subst hss
        right; left
        have hg : μ'.get s' = .box (mapL (substQ (px :: pss)) ms') := by
          have hb : (backP (μ.clearO o.dst) s' (mapL (substQ (px :: pss)) ms')).get s' = .box (mapL (substQ (px :: pss)) ms') := by unfold backP; rw [get_set]; simp
          rcases putResM_get hm s' with ⟨d, e1, e2, _⟩ | ⟨_, e2⟩
          · rw [hsd d e1] at e2; cases e2
          · rw [e2, hb]
            cases o.dst <;> rfl
        unfold Claim
        rw [hg, show upd φ2 s' (.box ds') s' = .box ds' by simp [upd]]
        exact hself
      · rcases putResM_get hm s' with ⟨d, e1, e2, e3⟩ | ⟨e1, e2⟩
        · right; left
          rw [e3]
          obtain ⟨d1, d2⟩ := hdst d e1
          have htm2 : tm2 = tmO (a.put (some d) (packV vs)).tmps (putTm a g (some d) vs) := by show tmO (a.put o.dst _).tmps (putTm a g o.dst vs) = _; rw [e1]
          rw [e1, htm2]
          refine res_slots (φ1 := φ1) d1 d2 h8 hlv hlm ?_ ?_ e2
          · intro s2 hh
            have : s2 ≠ s := by rintro rfl; rw [hsd d e1] at hh; cases hh
            simp only [upd, this, if_false]
            show (match o.dst with | some d => if hit d s2 then putRes o.dst rs φ1 s2 else φ s2 | none => φ s2) = _
            rw [e1]
            simp [hh]
          · intro k t r v m q1 q2 q3 q4
            rw [List.getElem?_map, Option.map_eq_some_iff] at q4
            obtain ⟨sm, q4, rfl⟩ := q4
            refine res_move (hdone.res k r v sm q2 q3 q4) (List.all_eq_true.1 hres _ (List.mem_of_getElem? q4)) (substQ (px :: pss)) ?_ (fun ps ps' hf b hb => by rw [← e1]; exact hok hf b hb)
            intro b' q off' c' z' hb'
            have := backP_ownk (s := s) (tg := tgR (some d) rs.length) hdone q1 hb'
            exact this
        · right; right
          refine ⟨hss, fun sm => o.dst.elim sm fun d => sm.dropS d, ?_, ?_⟩
          · intro sm hsm
            have key : ∀ dd : Option Tmp, ClaimX w' (C0.backP C' s ms.length (tgR o.dst rs.length) w.heap.size) (upd φ2 s (.box ds')) tm2 s' (upd φ2 s (.box ds') s') (tm2 s') (dd.elim sm fun d => sm.dropS d) := by
              intro dd
              cases dd with
              | none => exact hsm
              | some d => exact ClaimX.dropS hsm
            exact key o.dst
          · rw [e2]
            have hb : (backP (μ.clearO o.dst) s (mapL (substQ (px :: pss)) ms')).get s' = finSM [s] 0 ms.length (((μ.clearO o.dst).get s').map (killD [s])) := by
              unfold backP
              rw [get_set, if_neg hss, mapL_len, ← hmm]
              exact get_mapG (fun x => finSM [s] 0 ms.length (x.map (killD [s]))) rfl _ s'
            rw [hb]
  rw [← hfin] at hmain
  exact ⟨_, _, hmain⟩
end
end Go.Ev

/- A struct as such an argument; the call as an operation. -/
namespace Go.Ev
section
variable {V : Env} {A : Start} {w w' : World} {μ μ' : Mu} {φ φ' : Fr} {C : Cx} {a : Act} {g : Nat → Value} {o : Oper} {x : X}

theorem sameL_get {xs : List D} : ∀ {ys : List D}, sameL xs ys = true → xs.length = ys.length ∧ ∀ {j : Nat} {d d' : D}, xs[j]? = some d → ys[j]? = some d' → sameD d d' = true := by
  induction xs with
  | nil => intro ys h; cases ys with
    | nil => exact ⟨rfl, fun h => by simp at h⟩
    | cons y ys => simp [sameL] at h
  | cons x xs ih =>
    intro ys h
    cases ys with
    | nil => simp [sameL] at h
    | cons y ys =>
      simp only [sameL, Bool.and_eq_true] at h
      obtain ⟨h1, h2⟩ := ih h.2
      refine ⟨by simp [h1], ?_⟩
      intro j d d' q1 q2
      cases j with
      | zero =>
        simp only [List.getElem?_cons_zero, Option.some.injEq] at q1 q2
        subst q1; subst q2; exact h.1
      | succ j =>
        simp only [List.getElem?_cons_succ] at q1 q2
        exact h2 q1 q2

theorem sameD_v {x : Value} {d : D} (h : sameD (.v x) d = true) : d = .v x := by
  cases d with
  | sl z r => cases x <;> simp [sameD] at h
  | v y => cases x <;> cases y <;> simp_all [sameD]

/-- A struct out of a whole box, as an argument. -/
structure ArgAOk (w : World) (φ : Fr) (C : Cx) (tm : Nat → Value) (ms ms0 : List M) (s : Nat) (vs8 : Array Value) (ds : List D) (b off : Nat) (arr : Array Value) : Prop where
  slot : φ s = .box ds
  ptr : tm s = .pointer (some ⟨b, off, none⟩)
  node : Node w C ⟨s, []⟩ ms0 [ds] b off 0 0 arr
  len0 : ms0.length = ms.length
  len8 : vs8.size = ms.length
  col : ∀ (j : Nat) (d : D) (m : M), ds[j]? = some d → ms[j]? = some m → ColJ w C ⟨s, [(0, j)]⟩ m d (arr.getD (off + j) undef) (vs8.getD j undef)

theorem argAq_sound {y : Operand} {s b8 : Nat} {ms : List M} {t : Nat} (h : St A w μ φ (tmO a.tmps g) C) (hs : sm1 y = true) (hx : argX V.τ φ (.magg b8) y t = some x) (hn0 : 0 < ms.length) (hm : argAq V.τ μ ms y t = some s) :
    ∃ ms0 ds b off arr vs8, μ.get s = .box ms0 ∧ x = .agg ds none ∧ ds.length = ms.length ∧ a.eval y = .agg vs8 ∧ s < 1000 ∧ μ.okG = true ∧ (∀ ty, opX V.τ φ ty y = .agg ds (some ⟨s, [(0, 0)]⟩)) ∧ ArgAOk w φ C (tmO a.tmps g) ms ms0 s vs8 ds b off arr := by
  unfold argAq at hm
  split at hm
  · rename_i m8 s0 js e hop he
    split at hm
    · rename_i ms0 hbox
      split at hm
      · rename_i hc
        cases hm
        simp only [Bool.and_eq_true, Nat.blt_eq, beq_iff_eq, List.all_eq_true, List.mem_range] at hc
        obtain ⟨⟨⟨⟨⟨c1, c2⟩, c3⟩, c4⟩, c5⟩, c6⟩ := hc
        simp only [argX] at hx
        split at hx
        · rename_i xs p hopx
          split at hx
          · rename_i ys e' hys he'
            rw [he] at he'
            cases he'
            split at hx
            · rename_i hc2
              cases hx
              simp only [Bool.and_eq_true] at hc2
              obtain ⟨⟨f1, f2⟩, f3⟩ := hc2
              have hcl := op_sound (τ := V.τ) (ty := t) (s := 0) h hs (by rw [hopx]; simp)
              rw [hopx, hop] at hcl
              obtain ⟨ds1, o1, vs8, e1, hv8, l1, l2, hkids, hog⟩ := hcl
              cases e1
              obtain ⟨p', g1, g2, g3, g4, g5⟩ := hog
              cases g1
              -- the place
              obtain ⟨pp, pst⟩ := p
              simp only at g2 g3 g4
              subst g2
              obtain ⟨i, rfl⟩ : ∃ i, pst = [(i, 0)] := by
                match pst, g3 with
                | [(i, c)], g3 => simp at g3; subst g3; exact ⟨i, rfl⟩
              have hphi : φ pp ≠ .u := by
                intro q
                unfold cellsAt at hys
                simp only [q, rowsX] at hys
                cases hys
              have hcl := (h.slot pp).resolve_left hphi
              unfold Claim at hcl
              rw [hbox] at hcl
              obtain ⟨dsb, b, off, arr, k1, k2, k3⟩ := hcl
              have hlen := k3.len 0 dsb rfl
              have hfl := fits_len f2
              have hi0 : i = 0 ∧ ys = dsb := by
                unfold cellsAt at hys
                simp only [k1, rowsX] at hys
                cases i with
                | succ i => simp [cellsIn] at hys
                | zero =>
                  refine ⟨rfl, ?_⟩
                  simp only [cellsIn, List.getElem?_cons_zero] at hys
                  split at hys
                  · simp only [Option.some.injEq, List.drop_zero] at hys
                    rw [List.take_of_length_le (by omega)] at hys
                    exact hys.symm
                  · cases hys
              obtain ⟨rfl, rfl⟩ := hi0
              obtain ⟨hsl, hsame⟩ := sameL_get f3
              have hxl : xs.length = ms.length := by omega
              -- column by column
              have hcol : ∀ (j : Nat), j < ms.length → ∃ d, xs[j]? = some d ∧ ys[j]? = some d ∧ ∀ m, ms[j]? = some m → ColJ w C ⟨pp, [(0, j)]⟩ m d (arr.getD (off + j) undef) (vs8.getD j undef) := by
                intro j hj
                have q1 : xs[j]? = some xs[j] := List.getElem?_eq_getElem (by omega)
                have q2 : ys[j]? = some ys[j] := List.getElem?_eq_getElem (by omega)
                have q3 : ms[j]? = some ms[j] := List.getElem?_eq_getElem hj
                have q4 : m8[j]? = some m8[j] := List.getElem?_eq_getElem (by omega)
                have q5 : ms0[j]? = some ms0[j] := List.getElem?_eq_getElem (by omega)
                have q6 : e.zero[j]? = some e.zero[j] := List.getElem?_eq_getElem (by omega)
                have hca := c4 j hj
                simp only [List.getD_eq_getElem?_getD, q3, q4, q5, q6, Option.getD_some] at hca
                have hf := fits_at f2 q6 q1
                have h8 := hkids 0 j xs xs[j] m8[j] rfl q1 q4
                have h0 := k3.kids 0 j ys ys[j] ms0[j] rfl q2 q5
                simp only [show off + 0 * 0 + j = off + j by omega] at h0
                have hsd := hsame q1 q2
                generalize xs[j] = d at *
                generalize ys[j] = d' at *
                generalize ms[j] = m at *
                generalize m8[j] = m8j at *
                generalize ms0[j] = m0j at *
                generalize e.zero[j] = zj at *
                unfold colA at hca
                split at hca
                · rename_i cols
                  simp only [Bool.and_eq_true] at hca
                  obtain ⟨⟨⟨a1, a2⟩, a3⟩, a4⟩ := hca
                  split at a4
                  · rename_i zz
                    simp only [Bool.and_eq_true, beq_iff_eq, Nat.blt_eq] at a4
                    obtain ⟨rows, rfl⟩ : ∃ rows, d = .sl zz rows := by
                      cases d with
                      | v x => cases x <;> simp [ZC.fit] at hf
                      | sl z r => simp only [ZC.fit, beq_iff_eq] at hf; subst hf; exact ⟨r, rfl⟩
                    obtain ⟨d9, r1, r2, r3⟩ := g5 j (by simpa using a2)
                    rw [q1] at r1
                    cases r1
                    rw [q4] at r3
                    have hda := r3 (by simpa using a3)
                    have hpc : (⟨pp, [(0, 0)]⟩ : Pl).addc j = ⟨pp, [(0, j)]⟩ := by simp [Pl.addc, addLast]
                    rw [hpc] at hda r2
                    have hd' : d' = .sl zz rows := by
                      unfold dataAt at hda
                      simp only [cellsAt, k1, rowsX, cellsIn, List.getElem?_cons_zero] at hda
                      split at hda
                      · rename_i d1 hd1
                        cases hda
                        split at hd1
                        · simp only [Option.some.injEq] at hd1
                          have := congrArg (fun l => l[0]?) hd1
                          simp only [List.getElem?_cons_zero, List.getElem?_take, List.getElem?_drop, Nat.add_zero] at this
                          rw [q2] at this
                          simpa using this
                        · cases hd1
                      · cases hda
                    subst hd'
                    refine ⟨_, q1, q2, ?_⟩
                    intro m' hm'
                    rw [q3] at hm'
                    cases hm'
                    have hr := h0.leS a1
                    obtain ⟨s1, s2, s3, s4⟩ := hd_rep h r2 hr a4.1 a4.2
                    refine .own hr s1 ?_
                    by_cases hrn : rows = []
                    · rcases s2 with ⟨s2, _⟩ | ⟨b1, off1, c9, s2, _⟩
                      · exact .inr (.inr s2)
                      · rcases s4 b1 off1 c9 s2 with s5 | s5
                        · exact .inl s5
                        · exact .inr (.inl ⟨hrn, s5⟩)
                    · exact .inl (s3 hrn)
                  · cases a4
                · simp only [Bool.and_eq_true] at hca
                  obtain ⟨⟨a1, a2⟩, a3⟩ := hca
                  obtain ⟨xv, rfl, hxs⟩ := fit_flat hf a1
                  have hd' := sameD_v hsd
                  subst hd'
                  refine ⟨_, q1, q2, ?_⟩
                  intro m' hm'
                  rw [q3] at hm'
                  cases hm'
                  have u1 : vs8.getD j undef = xv := rep_val h8 a3
                  have u2 := rep_val h0 a2
                  rw [u1, u2]
                  exact .flat hxs
                · cases hca
              have hxy : xs = ys := by
                apply List.ext_getElem?
                intro j
                by_cases hj : j < ms.length
                · obtain ⟨d, q1, q2, _⟩ := hcol j hj
                  rw [q1, q2]
                · rw [List.getElem?_eq_none (by omega), List.getElem?_eq_none (by omega)]
              subst hxy
              have hall : ∀ ty, opX V.τ φ ty y = .agg xs (some ⟨pp, [(0, 0)]⟩) := by
                intro ty
                cases y with
                | tmp u => exact hopx
                | const v =>
                  exfalso
                  unfold opX at hopx
                  split at hopx
                  · rename_i e; cases e
                  · cases hopx
                  · split at hopx <;> cases hopx
                  · rename_i e; cases e
                  · rename_i e; cases e
                | func f => simp [opX] at hopx
                | global _ => simp [opX] at hopx
              refine ⟨ms0, xs, b, off, arr, vs8, hbox, rfl, hxl, hv8, c5, c6, hall, ⟨k1, k2, k3, c1, by omega, ?_⟩⟩
              intro j d m q1 q2
              have hj := (List.getElem?_eq_some_iff.1 q2).1
              obtain ⟨d1, p1, _, p3⟩ := hcol j hj
              rw [q1] at p1
              cases p1
              exact p3 m q2
            · cases hx
          · cases hx
        · cases hx
      · cases hm
    · cases hm
  · cases hm

theorem ioOk_agg {sg : Sig} {b : Nat} {ms : List M} {ps : List PM} (hp : sg.pms = .magg b ms :: ps) {q : SM × SM × Nat} (h : ioOk sg = some q) : q = (.agg ms .no, .agg ms .no, ms.length) ∧ ps.all quietB = true ∧ sg.res.all SM.resOk = true ∧ sg.res.all SM.isV0 = true ∧ provL ms = some [] ∧ 0 < ms.length := by
  unfold ioOk at h
  rw [hp] at h
  simp only at h
  split at h
  · rename_i hc
    simp only [Bool.and_eq_true, Nat.blt_eq] at hc
    obtain ⟨⟨⟨⟨h1, h2⟩, h3⟩, h4⟩, h5⟩ := hc
    refine ⟨(Option.some.inj h).symm, h1, h2, h3, ?_, h5⟩
    cases e : provL ms with
    | none => rw [e] at h4; simp at h4
    | some l => rw [e] at h4; simp at h4; rw [h4]
  · cases h

/-- What the callee is told of the struct. -/
theorem arg_agg {tm : Nat → Value} {ms ms0 : List M} {s b off : Nat} {ds : List D} {arr vs8 : Array Value} (hprov : provL ms = some []) (hd : ds.length = ms.length) (hA : ArgAOk w φ C tm ms ms0 s vs8 ds b off arr) (PA : Nat → Nat → Prop) :
    ClaimX w ⟨lentJ C s (JJ ms.length vs8), C.G, PA⟩ (fun _ => .u) (fun _ => undef) 0 (.agg ds none) (.agg vs8) (.agg ms .no) := by
  refine ⟨ds, none, vs8, rfl, rfl, by rw [hA.len8, hd], by rw [hd], ?_, rfl⟩
  intro i j row d m q1 q2 q3
  cases i with
  | succ i => simp at q1
  | zero =>
    simp only [List.getElem?_cons_zero, Option.some.injEq] at q1
    subst q1
    have hj := (List.getElem?_eq_some_iff.1 q3).1
    have hc := hA.col j d m q2 q3
    have hpm : m.prov = some [] := by
      obtain ⟨rs1, g1, g2⟩ := provL_mem hprov q3
      cases rs1 with
      | nil => exact g1
      | cons x xs => exact absurd (g2 x (by simp)) (by simp)
    show Rep w _ ⟨0, [(0, j)]⟩ m d (vs8.getD j undef)
    by_cases hJ : vs8.getD j undef = .slice none 0 0
    · rw [hJ] at hc ⊢
      generalize hu : arr.getD (off + j) undef = u at hc
      generalize hv : Value.slice none 0 0 = v at hc
      cases hc with
      | flat hx => subst hv; simp [Value.scalar] at hx
      | @own cols z rows _ _ r1 r2 r3 =>
        subst hv
        obtain ⟨z2, e2⟩ := rep_nil_len r2
        cases e2
        exact .nil
    · generalize hv : vs8.getD j undef = v at hc hJ
      generalize hu : arr.getD (off + j) undef = u at hc
      cases hc with
      | flat hx => exact .view (.v hx)
      | @own cols z rows _ _ r1 r2 r3 =>
        have := r2.move (w' := w) (C' := ⟨lentJ C s (JJ ms.length vs8), C.G, PA⟩) ⟨0, [(0, j)]⟩ nilF ?_ ?_
        · rwa [map_prov nilF rfl _ hpm] at this
        · intro b' q off' c' z' hb'
          refine ⟨?_, rfl⟩
          rw [show (⟨0, [(0, j)]⟩ : Pl).ext q = ⟨0, (0, j) :: q⟩ by simp [Pl.ext]]
          exact lentJ_of (q := (0, j) :: q) (by rw [hb']; simp [Pl.ext]) (by simp only [inJ, decide_eq_true_eq]; exact ⟨hj, by rw [hv]; exact hJ⟩)
        · intro ps ps' hf b' hb'
          obtain ⟨rfl, rfl⟩ := nilF_some hf
          refine ⟨?_, rfl⟩
          rcases hb' with hb' | ⟨_, hp, _⟩
          · exact .inl hb'
          · simp at hp

theorem substQ_nil (pss : List (List Pv)) : substQ pss [] = some [] := by simp [substQ]

theorem s_callA {c : Call} {f : Nat} {S : Nat → Option (List PK)} {F : Nat → List X → Option (List X × List X)} {Sg : Nat → Option Sig} {sg : Sig} {next : Act → World → Prop} {Q : Exit → Act → World → Prop} (ho : o.op = .call c) (hcal : c.callee = .value (.func f))
    (hSg : Sg f = some sg) (hS : S f = some (sg.pms.map PM.pk)) (hD : DoesR (Abv A) V f sg (F f)) (h : St A w μ φ (tmO a.tmps g) C) (hs : c.args.toList.all sm1 = true) (hdst : ∀ d, o.dst = some d → d < 1000 ∧ d < a.tmps.size)
    (hx : callX V.τ S F f c o.dst [] φ = some φ') (hm : callAq V.τ Sg μ f c o.dst = some μ')
    (hK : ∀ v w' C2 g', St A w' μ' φ' (tmO (a.put o.dst v).tmps g') C2 → next (a.put o.dst v) w') : o.wp V.P a w next Q := by
  unfold callAq at hm
  rw [hSg] at hm
  simp only at hm
  split at hm
  · rename_i io b8 ms ps y ys t ts hio hpms hargs htys
    obtain ⟨rfl, hqu, hres, hres0, hprov, hn0⟩ := ioOk_agg hpms hio
    split at hm
    · rename_i hty
      split at hm
      · rename_i s pss hargm hpss
        split at hm
        · rename_i hkill
          rw [List.all_eq_true] at hkill
          rw [hargs] at hs
          simp only [List.all_cons, Bool.and_eq_true] at hs
          unfold callX at hx
          rw [hS] at hx
          simp only at hx
          have hlq := (argsQ_len0 hpss).1
          have hl0 : c.args.toList.length = c.args.size := by simp
          have hsz : c.args.size = (sg.pms.map PM.pk).length := by rw [← hl0, hargs, hpms]; simp [hlq]
          rw [hsz, List.take_length] at hx
          rw [hargs, htys, hpms] at hx
          simp only [List.map_cons, argsX] at hx
          split at hx
          · rename_i as has
            split at has
            · rename_i a0 as' ha0 has'
              cases has
              obtain ⟨C0, hclear, hfree⟩ := h.clear2 (dst := o.dst) (fun d hd => (hdst d hd).1)
              have h0 := hclear φ (tmO a.tmps g) (fun _ _ => ⟨rfl, rfl⟩)
              obtain ⟨ms0, ds, b, off, arr, vs8, hbox, rfl, hdl, hv8, hs1, hokG, hopx, hA⟩ := argAq_sound h0 hs.1 (by simpa [PM.pk] using ha0) hn0 hargm
              split at hx
              · rename_i rs outs hF
                rw [List.append_nil] at hF
                split at hx
                · rename_i h8
                  split at hx
                  · rename_i φ1 hback
                    cases hx
                    obtain ⟨⟨fn, bd, hf, hbd, hname⟩, _, _, hDP⟩ := hD
                    have hDP := hDP _ _ _ hio
                    obtain ⟨l1, l2, l3, harg⟩ := argsQ_sound h0 hs.2 has' hpss
                    have hrun : (execOp a.eval o).run V.P w = .ok (.enter f ((y :: ys).map a.eval).toArray) w := by
                      have e1 : c.args.map a.eval = ((y :: ys).map a.eval).toArray := by apply Array.ext'; rw [← hargs]; simp
                      simp only [execOp, ho, resolve, hcal]
                      have e2 : a.eval (.func f) = .func (.func f) #[] #[] := rfl
                      simp [e2, Deferred.ofValue, invoke, callFunc, hf, hname, hbd, e1]
                    let PA : Nat → Nat → Prop := fun i b => okB C0 (([] :: pss).getD i []) b
                    have hkall : ∀ q ∈ [] :: pss, (killD [s] q).isSome = true := by
                      intro q hq
                      rcases List.mem_cons.1 hq with rfl | hq
                      · simp [killD]
                      · exact hkill q hq
                    have hkget : ∀ i, (killD (⟨s, []⟩ : Pl).lab (([] :: pss).getD i [])).isSome = true := by
                      intro i
                      show (killD [s] _).isSome = true
                      by_cases hj : i < ([] :: pss).length
                      · have e : ([] :: pss).getD i [] = ([] :: pss)[i] := by simp [List.getD_eq_getElem?_getD, List.getElem?_eq_getElem hj]
                        rw [e]; exact hkall _ (List.getElem_mem hj)
                      · have e : ([] :: pss).getD i [] = [] := by rw [List.getD_eq_getElem?_getD, List.getElem?_eq_none (by omega)]; rfl
                        rw [e]; simp [killD]
                    unfold Oper.wp
                    rw [hrun, Oper.upon_enter]
                    refine (hDP w (lentJ C0 s (JJ ms.length vs8)) C0.G PA ((y :: ys).map a.eval) (.agg ds none :: as') h0.abv (by rw [hpms]; simp [hlq]) (by rw [hpms]; simp [l1]) (fun b hb => (h0.frz b hb).1) (fun i b hb => h0.ok_lt hb) ?_ ?_ ?_ ?_ (.agg ds none) (a.eval y) rfl rfl (by rw [hv8]; exact arg_agg hprov hdl hA PA) rs outs hF).mono ?_
                    · intro b o hb
                      obtain ⟨o0, q, k1, k2, rfl, _⟩ := lentJ_some hb
                      obtain ⟨g1, g2, _⟩ := h0.own b o0 k1
                      exact ⟨g1, g2, fun i hi => not_behind h0 (p := ⟨s, []⟩) (hkget i) hi k1 k2, rfl⟩
                    · intro b b' o o' h1 h2 e
                      obtain ⟨o1, q1, k1, k2, rfl, _⟩ := lentJ_some h1
                      obtain ⟨o2, q2, j1, j2, rfl, _⟩ := lentJ_some h2
                      simp only [Pl.mk.injEq, true_and] at e
                      refine h0.inj b b' o1 o2 k1 j1 ?_
                      rw [k2, j2, e]
                    · intro b o hb
                      obtain ⟨o0, q, k1, k2, rfl, _⟩ := lentJ_some hb
                      exact h0.oko b o0 k1
                    · intro i x v pm ty q1 q2 q3 q4
                      rw [hpms] at q3
                      rw [hty] at q4
                      simp only [List.map_cons, List.getElem?_cons_succ] at q1 q2 q3 q4
                      rw [List.getElem?_map, Option.map_eq_some_iff] at q2
                      obtain ⟨y', hy', rfl⟩ := q2
                      exact harg i x y' pm ty q1 hy' q3 q4
                    · rintro e w' ⟨vs, xo, C', hout, rfl, hdone⟩
                      cases outs with
                      | nil => cases hout
                      | cons o0 os =>
                        simp only [List.head?_cons, Option.some.injEq] at hout
                        subst hout
                        rw [hv8] at hdone
                        simp only [backsX] at hback
                        split at hback
                        · rename_i φ3 hb1
                          have hφ := backs_val (by
                            intro k hk
                            rw [List.mem_map] at hk
                            obtain ⟨pm, hpm, rfl⟩ := hk
                            exact argsQ_val hpss pm hpm) hback
                          subst hφ
                          obtain ⟨ds9, o9, vs9, e9, _, _, _, _, hog9⟩ := hdone.out
                          simp only [AOgOk] at hog9
                          subst hog9
                          subst e9
                          simp only [PM.pk, backX, hopx] at hb1
                          split at hb1
                          · rename_i hsz9
                            obtain ⟨C'', ds', e1, hdl', hdone2⟩ := agg_box h0 hA.node hA.len0 hprov hA.col hres0 (fun ds2 e2 => by cases e2; exact hsz9) hdone
                            cases e1
                            have hφ3 := putAt_box hA.slot (by rw [hdl', hdl]) hb1
                            obtain ⟨C2, g', hmain⟩ := callP_tail (px := []) (ms' := ms) h8 hdst hclear hfree hbox hdl hokG hA.slot hA.ptr.symm rfl hA.node hres rfl hkall hdone2 hφ3 (by rw [mapL_prov _ (substQ_nil _) ms hprov]; exact hm)
                            exact hK (packV vs) w' C2 g' hmain
                          · cases hb1
                        · cases hback
                  · cases hx
                · cases hx
              · cases hx
            · cases has
          · cases hx
        · cases hm
      · cases hm
    · cases hm
  · cases hm
end
end Go.Ev

/- One operation. -/
namespace Go.Ev
section
variable {V : Env} {A : Start} {w w' : World} {μ μ' : Mu} {φ φ' : Fr} {C : Cx} {a : Act} {g : Nat → Value} {o : Oper} {x : X}

/-- What is asked of an operation's own text: its slots are few. -/
def smallO (n : Nat) (o : Oper) : Bool := o.op.operands.all sm1 && (match o.dst with
  | some d => Nat.blt d n
  | none => true) && (match o.op with
  | .store _ _ _ => o.dst.isNone
  | _ => true)

/-- The first slot holds what it held, if that is told. -/
def Par (A : Start) (a : Act) : Prop := (∀ v, A.hd = some v → a.tmps.getD 0 undef = v) ∧ ∀ d ∈ A.ks, a.tmps.getD d undef = undef

/-- What stands after an operation. -/
def Stands (A : Start) (n : Nat) (φ' : Fr) (μ' : Mu) (a : Act) (w : World) : Prop :=
  ∃ C' g', St A w μ' φ' (tmO a.tmps g') C' ∧ a.tmps.size = n ∧ a.defers = [] ∧ Par A a

/-- The first slot is not put. -/
def Keeps (A : Start) (o : Oper) : Prop := (A.hd.isSome = true → o.dst ≠ some 0) ∧ ∀ d ∈ A.ks, o.dst ≠ some d

theorem Par.put {A : Start} {a : Act} {o : Oper} (h : Par A a) (hk : Keeps A o) (v : Value) : Par A (a.put o.dst v) := by
  have key : ∀ k : Nat, o.dst ≠ some k → (a.put o.dst v).tmps.getD k undef = a.tmps.getD k undef := by
    intro k h2
    cases hd : o.dst with
    | none => rfl
    | some d =>
      have hne : d ≠ k := by rintro rfl; exact h2 hd
      simp only [Act.put, Array.getD_eq_getD_getElem?]
      rw [Array.getElem?_setIfInBounds_ne hne]
  refine ⟨fun u hu => ?_, fun d hd => ?_⟩
  · rw [key 0 (hk.1 (by rw [hu]; rfl))]
    exact h.1 u hu
  · rw [key d (hk.2 d hd)]
    exact h.2 d hd

theorem put_size (a : Act) (dst : Option Tmp) (v : Value) : (a.put dst v).tmps.size = a.tmps.size := by cases dst <;> simp [Act.put]
theorem put_defers (a : Act) (dst : Option Tmp) (v : Value) : (a.put dst v).defers = a.defers := by cases dst <;> rfl

theorem OpOk.wp {n : Nat} {next : Act → World → Prop} {Q : Exit → Act → World → Prop} (h : OpOk V A w a g o φ' μ') (hsz : a.tmps.size = n) (hdf : a.defers = []) (hpar : Par A a) (hkp : Keeps A o) (hK : ∀ a w, Stands A n φ' μ' a w → next a w) : o.wp V.P a w next Q := by
  obtain ⟨nx, v, w', C', g', h1, h2, h3⟩ := h
  unfold Oper.wp
  rw [h1]
  rcases h2 with rfl | ⟨rfl, rfl⟩
  · rw [Oper.upon_value]
    exact hK _ _ ⟨C', g', h3, by rw [put_size]; exact hsz, by rw [put_defers]; exact hdf, hpar.put hkp _⟩
  · rw [Oper.upon_skip]
    exact hK _ _ ⟨C', g', h3, by rw [put_size]; exact hsz, by rw [put_defers]; exact hdf, hpar.put hkp _⟩

/-- What leaves nothing but its result. -/
theorem pure_ok {cols : List M} {n : Nat} (hn : n ≤ 1000) (hs : smallO n o = true) (hsz : a.tmps.size = n) (h : St A w μ φ (tmO a.tmps g) C) (hx : pureX V.τ φ o.op o.type = some x) (hm : pureC V.τ cols o μ = some μ') : OpOk V A w a g o (putRes o.dst [x] φ) μ' := by
  unfold pureC at hm
  split at hm
  · rename_i sm hsm
    unfold smallO at hs
    simp only [Bool.and_eq_true] at hs
    have hp := pure_sound (V := V) h hs.1.1 hx hsm
    cases hds : o.dst with
    | none =>
      rw [hds] at hm
      have hmm : μ' = μ := by
        cases sm <;> simp [putM] at hm <;> exact hm.symm
      subst hmm
      rcases hp with ⟨v, h1, _⟩ | ⟨v, w', h1, h2, _⟩
      · exact ⟨_, v, w, C, g, h1, .inl rfl, by rw [hds]; exact h⟩
      · exact ⟨_, v, w', C, g, h1, .inl rfl, by rw [hds]; exact h.ext h2⟩
    | some d =>
      rw [hds] at hm hs
      have hdn : Nat.lt d n := by have := hs.1.2; simpa [Nat.blt_eq] using this
      have hdn : @LT.lt Nat _ d n := hdn
      have hmm : μ' = μ.put d sm := by
        cases sm <;> simp [putM] at hm <;> exact hm.symm
      subst hmm
      obtain ⟨v, w', C', h1, _, h3⟩ := hp.st h (d := d) (Nat.lt_of_lt_of_le hdn hn) (by rw [hsz]; exact hdn)
      exact ⟨_, v, w', C', g, h1, .inl rfl, by rw [hds]; exact h3⟩
  · cases hm

/-- Any operation. -/
theorem op_wp {n : Nat} {cols : List M} {S : Nat → Option (List PK)} {F : Nat → List X → Option (List X × List X)} {Sg : Nat → Option Sig} {next : Act → World → Prop} {Q : Exit → Act → World → Prop} (hrg : RgOk A) (hn : n ≤ 1000)
    (hSg : ∀ f sg, Sg f = some sg → S f = some (sg.pms.map PM.pk) ∧ DoesR (Abv A) V f sg (F f)) (hs : smallO n o = true) (hsz : a.tmps.size = n) (hdf : a.defers = []) (hpar : Par A a) (hkp : Keeps A o) (h : St A w μ φ (tmO a.tmps g) C)
    (hx : evOp V.τ S F o φ = some φ') (hm : chkOp V.τ Sg cols o μ = some μ') (hK : ∀ a w, Stands A n φ' μ' a w → next a w) : o.wp V.P a w next Q := by
  have hs' := hs
  unfold smallO at hs'
  simp only [Bool.and_eq_true] at hs'
  obtain ⟨⟨hso, hsd⟩, hst⟩ := hs'
  have hdst : ∀ d, o.dst = some d → d < 1000 ∧ d < a.tmps.size := by
    intro d hd
    rw [hd] at hsd
    have : Nat.lt d n := by simpa [Nat.blt_eq] using hsd
    have : @LT.lt Nat _ d n := this
    exact ⟨Nat.lt_of_lt_of_le this hn, by rw [hsz]; exact this⟩
  have pure : ∀ x, pureX V.τ φ o.op o.type = some x → φ' = putRes o.dst [x] φ → pureC V.τ cols o μ = some μ' → o.wp V.P a w next Q := by
    rintro x h1 rfl h2
    exact (pure_ok hn hs hsz h h1 h2).wp hsz hdf hpar hkp hK
  cases ho : o.op with
  | store t y z =>
    have hyz : sm1 y = true ∧ sm1 z = true := by rw [ho] at hso; simpa [Op.operands] using hso
    unfold evOp at hx
    rw [ho] at hx
    simp only at hx
    split at hx
    · rename_i p hp
      have hdn : o.dst = none := by rw [ho] at hst; simpa using hst
      exact (s_store Sg hrg ho hdn h hyz.1 hyz.2 hp hx hm).wp hsz hdf hpar hkp hK
    · cases hx
  | assign y =>
    have hy : sm1 y = true := by rw [ho] at hso; simpa [Op.operands] using hso
    unfold evOp at hx
    rw [ho] at hx
    simp only at hx
    rw [← ho] at hx
    split at hx
    · rename_i x hpx
      cases hx
      cases hd : o.dst with
      | none => unfold chkOp at hm; rw [ho] at hm; simp [hd] at hm
      | some d =>
        obtain ⟨h1, h2⟩ := hdst d hd
        have := (s_assign (cols := cols) Sg ho hd h1 h2 h hy hpx hm).wp (n := n) (next := next) (Q := Q) hsz hdf hpar hkp (by rw [hd] at hK; exact hK)
        exact this
    · cases hx
  | move y =>
    have hy : sm1 y = true := by rw [ho] at hso; simpa [Op.operands] using hso
    unfold evOp at hx
    rw [ho] at hx
    simp only at hx
    rw [← ho] at hx
    split at hx
    · rename_i x hpx
      cases hx
      unfold chkOp at hm
      rw [ho] at hm
      simp only at hm
      split at hm
      · exact pure x hpx rfl hm
      · split at hm
        · rename_i d hd
          obtain ⟨h1, h2⟩ := hdst d hd
          have := (s_moveT ho hd h1 h2 h hy hpx hm).wp (n := n) (next := next) (Q := Q) hsz hdf hpar hkp (by rw [hd] at hK; exact hK)
          exact this
        · cases hm
    · cases hx
  | extract y i =>
    have hy : sm1 y = true := by rw [ho] at hso; simpa [Op.operands] using hso
    unfold evOp at hx
    rw [ho] at hx
    simp only at hx
    rw [← ho] at hx
    split at hx
    · rename_i x hpx
      cases hx
      unfold chkOp at hm
      rw [ho] at hm
      simp only at hm
      split at hm
      · exact pure x hpx rfl hm
      · split at hm
        · rename_i d hd
          obtain ⟨h1, h2⟩ := hdst d hd
          have := (s_extractT ho hd h1 h2 h hy hpx hm).wp (n := n) (next := next) (Q := Q) hsz hdf hpar hkp (by rw [hd] at hK; exact hK)
          exact this
        · cases hm
    · cases hx
  | load t y =>
    have hy : sm1 y = true := by rw [ho] at hso; simpa [Op.operands] using hso
    unfold evOp at hx
    rw [ho] at hx
    simp only at hx
    rw [← ho] at hx
    split at hx
    · rename_i x hpx
      cases hx
      unfold chkOp at hm
      rw [ho] at hm
      simp only at hm
      split at hm
      · exact pure x hpx rfl hm
      · split at hm
        · rename_i d hd
          obtain ⟨h1, h2⟩ := hdst d hd
          have := (s_loadT ho hd h1 h2 h hy hpx hm).wp (n := n) (next := next) (Q := Q) hsz hdf hpar hkp (by rw [hd] at hK; exact hK)
          exact this
        · cases hm
    · cases hx
  | box t y =>
    have hy : sm1 y = true := by rw [ho] at hso; simpa [Op.operands] using hso
    unfold evOp at hx
    rw [ho] at hx
    simp only at hx
    rw [← ho] at hx
    split at hx
    · rename_i x hpx
      cases hx
      cases hd : o.dst with
      | none => 
        unfold chkOp at hm; rw [ho] at hm; simp only [hd] at hm
        split at hm <;> first | (rename_i e; cases e; done) | cases hm
      | some d =>
        obtain ⟨h1, h2⟩ := hdst d hd
        have := (s_box (cols := cols) Sg ho hd h1 h2 h hy hpx hm).wp (n := n) (next := next) (Q := Q) hsz hdf hpar hkp (by rw [hd] at hK; exact hK)
        exact this
    · cases hx
  | call c =>
    have hargs : c.args.toList.all sm1 = true := by
      rw [ho] at hso
      simp only [Op.operands, Call.operands, Array.all_append, Bool.and_eq_true] at hso
      simpa using hso.2
    have fin : ∀ v w' C2 g', St A w' μ' φ' (tmO (a.put o.dst v).tmps g') C2 → next (a.put o.dst v) w' := by
      intro v w' C2 g' h1
      exact hK _ _ ⟨C2, g', h1, by rw [put_size]; exact hsz, by rw [put_defers]; exact hdf, hpar.put hkp _⟩
    have hx0 := hx
    unfold evOp at hx
    unfold chkOp at hm
    rw [ho] at hx hm
    simp only at hx hm
    cases hc : c.callee with
    | value y =>
      rw [hc] at hx hm
      cases y with
      | func f =>
        simp only at hx hm
        split at hm
        · rename_i μ2 hq
          cases hm
          have hsg : ∃ sg, Sg f = some sg := by
            unfold callQ at hq
            split at hq
            · rename_i sg e; exact ⟨sg, e⟩
            · cases hq
          obtain ⟨sg, hsg⟩ := hsg
          obtain ⟨h1, h2⟩ := hSg f sg hsg
          exact s_call ho hc hsg h1 h2 h hargs hdst hx hq fin
        · split at hm
          · rename_i μ2 hq
            cases hm
            have hsg : ∃ sg, Sg f = some sg := by
              unfold callMq at hq
              split at hq
              · rename_i sg e; exact ⟨sg, e⟩
              · cases hq
            obtain ⟨sg, hsg⟩ := hsg
            obtain ⟨h1, h2⟩ := hSg f sg hsg
            exact s_callM ho hc hsg h1 h2 h hargs hdst hx hq fin
          · split at hm
            · rename_i μ2 hq
              cases hm
              have hsg : ∃ sg, Sg f = some sg := by
                unfold callPq at hq
                split at hq
                · rename_i sg e; exact ⟨sg, e⟩
                · cases hq
              obtain ⟨sg, hsg⟩ := hsg
              obtain ⟨h1, h2⟩ := hSg f sg hsg
              exact s_callP ho hc hsg h1 h2 h hargs hdst hx hq fin
            · have hsg : ∃ sg, Sg f = some sg := by
                unfold callAq at hm
                split at hm
                · rename_i sg e; exact ⟨sg, e⟩
                · cases hm
              obtain ⟨sg, hsg⟩ := hsg
              obtain ⟨h1, h2⟩ := hSg f sg hsg
              exact s_callA ho hc hsg h1 h2 h hargs hdst hx hm fin
      | tmp t =>
        have ht : t < 1000 := by
          rw [ho] at hso
          simp only [Op.operands, Call.operands, hc, Array.all_append, Bool.and_eq_true] at hso
          have := hso.1
          simpa [sm1] using this
        exact s_callV ho hc ht hSg h hargs hdst hx0 hm fin
      | const k =>
        exfalso
        have hm : callFv V.τ Sg μ (.const k) c o.dst = some μ' := hm
        have : funsM μ (.const k) = none := by
          unfold funsM
          split
          · rename_i e
            unfold opM at e
            split at e
            · rename_i q; cases q
            · cases e
            · split at e <;> cases e
            · rename_i q; cases q
            · cases e
          · rename_i e
            unfold opM at e
            split at e
            · rename_i q; cases q
            · cases e
            · split at e <;> cases e
            · rename_i q; cases q
            · cases e
          · rfl
        unfold callFv at hm
        rw [this] at hm
        cases hm
      | «global» k => cases hm
    | builtin b =>
      rw [hc] at hx hm
      simp only at hx
      rw [← ho] at hx
      split at hx
      · rename_i x hpx
        by_cases hb : b = .append
        · subst hb
          simp only at hm
          split at hm
          · rename_i y z t t' d h1 h2 h3
            cases hx
            obtain ⟨d1, d2⟩ := hdst d h3
            have hyz : sm1 y = true ∧ sm1 z = true := by rw [h1] at hargs; simpa using hargs
            have hpx' : appX V.τ t t' (opX V.τ φ t y) (opX V.τ φ t' z) = some x := by
              rw [ho] at hpx
              simp only [pureX, hc, h1, h2] at hpx
              exact hpx
            have := (s_append (fun r hr e => hkp.1 (hrg r hr).2 (by rw [h3, ← e, (hrg r hr).1])) ho hc h1 h2 h3 d1 d2 h hyz.1 hyz.2 hpx' hm).wp (n := n) (next := next) (Q := Q) hsz hdf hpar hkp (by rw [h3] at hK; exact hK)
            exact this
          · cases hm
        · have hm' : pureC V.τ cols o μ = some μ' := by
            cases b <;> first | exact hm | exact (hb rfl).elim
          exact pure x hpx (Option.some.inj hx).symm hm'
      · cases hx
    | invoke r m =>
      rw [hc] at hx hm
      simp only at hx hm
      rw [← ho] at hx
      split at hx
      · rename_i x hpx
        exact pure x hpx (Option.some.inj hx).symm hm
      · cases hx
  | _ =>
    unfold evOp at hx
    unfold chkOp at hm
    rw [ho] at hx hm
    simp only at hx hm
    rw [← ho] at hx
    split at hx
    · rename_i x hpx
      exact pure x hpx (Option.some.inj hx).symm hm
    · cases hx
end
end Go.Ev

/- What is known may be forgotten, or told of another place: nothing runs here. -/
namespace Go.Ev

def leSX : SM → SM → Bool
  | _, .u => true
  | .c m o, .c m' o' => leS m m' && leOg o o'
  | .agg ms o, .agg ms' o' => leSL ms ms' && leOg o o'
  | .box ms, .box ms' => leSL ms ms'
  | .vbox ps n, .vbox ps' n' => ps == ps' && n == n'
  | .pt s cs, .pt s' cs' => s == s' && cs == cs'
  | .pa s cs n, .pa s' cs' n' => s == s' && cs == cs' && n == n'
  | .pv ps s, .pv ps' s' => ps.all ps'.contains && s == s'
  | .tup b n, .tup b' n' => b == b' && n == n'
  | .clo f cs, .clo f' cs' => f == f' && cs == cs'
  | .fv f i, .fv f' i' => f == f' && i == i'
  | _, _ => false

def weakS (μ ν : Mu) : Bool := List.all ν fun p => leSX (μ.get p.1) (ν.get p.1)

theorem leOg_spec {a b : Og} (h : leOg a b = true) : b = .dead ∨ a = b := by
  cases b <;> simp_all [leOg]

theorem leS_readable {a b : M} (h : leS a b = true) (hb : b.readable = true) : a.readable = true := by
  cases a <;> cases b <;> simp_all [leS, M.readable]

section
variable {A : Start} {w : World} {μ ν : Mu} {φ : Fr} {tm : Nat → Value} {C : Cx}

theorem ClaimX.weak {s : Nat} {x : X} {v : Value} {a b : SM} (h : ClaimX w C φ tm s x v a) (hl : leSX a b = true) : ClaimX w C φ tm s x v b := by
  cases b with
  | u => trivial
  | c m' og' =>
    cases a <;> simp only [leSX, Bool.false_eq_true] at hl
    rename_i m og
    simp only [Bool.and_eq_true] at hl
    obtain ⟨d, o, e1, e2, e3⟩ := h
    refine ⟨d, o, e1, e2.leS hl.1, fun hsl => ?_⟩
    rcases leOg_spec hl.2 with rfl | rfl
    · trivial
    · have e3 := e3 hsl
      cases og with
      | no => exact e3
      | dead => trivial
      | ats q cs js => trivial
      | vw q =>
        obtain ⟨p, q1, q2, q3⟩ := e3
        exact ⟨p, q1, q2, fun hm => q3 (leS_readable hl.1 hm)⟩
      | «at» q cs =>
        obtain ⟨p, q1, q2, q3, q4, q5, q6⟩ := e3
        exact ⟨p, q1, q2, q3, q4, fun hm => q5 (leS_readable hl.1 hm), q6⟩
  | agg ms' og' =>
    cases a <;> simp only [leSX, Bool.false_eq_true] at hl
    rename_i ms og
    simp only [Bool.and_eq_true] at hl
    obtain ⟨ds, o, vs, e1, e2, e3, e4, e5, e6⟩ := h
    have hlen := leSL_len hl.1
    refine ⟨ds, o, vs, e1, e2, e3, by omega, ?_, ?_⟩
    · intro i j row d m q1 q2 q3
      obtain ⟨m0, hm0, hle⟩ := leSL_at hl.1 q3
      exact (e5 i j row d m0 q1 q2 hm0).leS hle
    · rcases leOg_spec hl.2 with rfl | rfl
      · trivial
      · cases og with
        | ats q cs js =>
          obtain ⟨p, q1, q2, q3, q4, q5⟩ := e6
          refine ⟨p, q1, q2, q3, q4, fun j hj => ?_⟩
          obtain ⟨d, g1, g2, g3⟩ := q5 j hj
          refine ⟨d, g1, g2, fun hm => g3 ?_⟩
          cases hq : ms'[j]? with
          | none => rw [hq] at hm; cases hm
          | some m' =>
            rw [hq] at hm
            obtain ⟨m0, hm0, hle⟩ := leSL_at hl.1 hq
            rw [hm0]; exact leS_readable hle hm
        | no => exact e6
        | _ => trivial
  | box ms' =>
    cases a <;> simp only [leSX, Bool.false_eq_true] at hl
    obtain ⟨ds, b, off, arr, e1, e2, e3⟩ := h
    have hlen := leSL_len hl
    refine ⟨ds, b, off, arr, e1, e2, e3.own, e3.heap, e3.size, fun i row hi => by rw [← hlen]; exact e3.len i row hi, .inl (by simp), ?_⟩
    intro i j row d m q1 q2 q3
    obtain ⟨m0, hm0, hle⟩ := leSL_at hl q3
    exact (e3.kids i j row d m0 q1 q2 hm0).leS hle
  | pv ps' s' =>
    cases a <;> simp only [leSX, Bool.false_eq_true] at hl
    simp only [Bool.and_eq_true, List.all_eq_true, beq_iff_eq] at hl
    obtain ⟨hl, rfl⟩ := hl
    obtain ⟨p, e1, e2, e3, e4, e5⟩ := h
    exact ⟨p, e1, e2, e3, e4, fun n ds h1 h2 => (e5 n ds h1 h2).mono fun b hb => ⟨okB_mono (fun q hq => by simpa using hl q hq) hb, rfl⟩⟩
  | _ =>
    cases a <;> simp only [leSX, Bool.false_eq_true] at hl
    simp only [Bool.and_eq_true, beq_iff_eq] at hl
    first
      | (obtain ⟨rfl, rfl⟩ := hl; exact h)
      | (obtain ⟨⟨rfl, rfl⟩, rfl⟩ := hl; exact h)

theorem St.weak (h : St A w μ φ tm C) (hw : weakS μ ν = true) : St A w ν φ tm C := by
  refine { h with slot := ?_ }
  intro s
  rcases h.slot s with h1 | h1
  · exact .inl h1
  · right
    have : leSX (μ.get s) (ν.get s) = true := by
      unfold weakS at hw
      rw [List.all_eq_true] at hw
      by_cases e : ∃ m, (s, m) ∈ ν
      · obtain ⟨m, hm⟩ := e
        exact hw _ hm
      · have : ν.get s = .u := by
          unfold Mu.get
          cases hl : List.lookup s ν with
          | none => rfl
          | some m =>
            exfalso
            apply e
            refine ⟨m, ?_⟩
            clear h hw h1 e
            induction ν with
            | nil => cases hl
            | cons a l ih =>
              obtain ⟨k, y⟩ := a
              rw [List.lookup_cons] at hl
              by_cases e : s = k
              · subst e
                simp only [beq_self_eq_true, Option.some.injEq] at hl
                subst hl
                simp
              · have e' : (s == k) = false := by simpa using e
                rw [e'] at hl
                exact List.mem_cons_of_mem _ (ih hl)
        rw [this]
        cases μ.get s <;> rfl
    exact ClaimX.weak h1 this
end

/-- What a policy tells ahead of an operation: a state that is known to hold as well, and the columns. -/
structure Pol where
  /-- Whether the first slot is never put anew. -/
  lo : Bool := false
  pre : Oper → Mu → Option Mu
  cols : Oper → Mu → List M

def preM (P : Pol) (o : Oper) (μ : Mu) : Mu := match P.pre o μ with
  | some ν => if weakS μ ν then ν else μ
  | none => μ

theorem pre_sound {A : Start} {w : World} {μ : Mu} {φ : Fr} {tm : Nat → Value} {C : Cx} (P : Pol) (o : Oper) (h : St A w μ φ tm C) : St A w (preM P o μ) φ tm C := by
  unfold preM
  split
  · split
    · rename_i hw; exact h.weak hw
    · exact h
  · exact h
end Go.Ev


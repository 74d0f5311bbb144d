/- What a Go function does, reckoned in plain data, and that it does so: part 2. -/
import Derived.Laws.BytesArg
import Derived.Test.YtojciiiilfmjgaaDoorEv1
set_option linter.all false
/- Loads are right. -/
namespace Go.Ev
section
variable {V : Env} {A : Start} {w : World} {μ : Mu} {φ : Fr} {tm : Nat → Value} {C : Cx}

theorem zipIdx_get {zs : List ZC} {f : ZC × Nat → M} {j : Nat} {m : M} (h : (zs.zipIdx.map f)[j]? = some m) : ∃ z, zs[j]? = some z ∧ m = f (z, j) := by
  rw [List.getElem?_map, Option.map_eq_some_iff] at h
  obtain ⟨q, h1, h2⟩ := h
  rw [List.getElem?_zipIdx, Option.map_eq_some_iff] at h1
  obtain ⟨z, h3, rfl⟩ := h1
  exact ⟨z, h3, by rw [← h2]; simp⟩

theorem void_none (h : St A w μ φ tm C) {p : Pl} {st : List (Nat × Nat)} {i c n : Nat} {ds : List D} (hp : p.st = st ++ [(i, c)]) (hm : μ.mvoid p.s (st.map (·.2)) = true) (hc : cellsAt φ p n = some ds) : False := by
  obtain ⟨rows, rs, row, h1, h2, h3, h4, h5⟩ := cellsAt_snoc hp hc
  unfold Mu.mvoid at hm
  split at hm
  · rename_i hm'
    rcases List.eq_nil_or_concat st with rfl | ⟨st1, ⟨i1, k⟩, rfl⟩
    · have hu : φ p.s ≠ .u := by intro e; rw [e] at h1; cases h1
      have hcl := (h.slot p.s).resolve_left hu
      unfold Claim at hcl
      unfold Mu.mat at hm'
      split at hm'
      · cases hm'
      · generalize μ.get p.s = sm at *
        cases sm with
        | c m og =>
          obtain ⟨d, o, e1, e2, e3⟩ := hcl
          simp only [SM.at, List.map_nil, modeIn_nil, Option.some.injEq] at hm'
          subst hm'
          rw [e1] at h1
          obtain ⟨z, rfl, _⟩ := rep_emp e2
          simp only [rowsX, Option.some.injEq] at h1
          subst h1
          simp only [rowsD, Option.some.injEq] at h2
          subst h2
          simp at h3
        | _ => simp [SM.at] at hm'
    · rw [List.concat_eq_append] at hm' h2
      simp only [List.map_append, List.map_cons, List.map_nil] at hm'
      obtain ⟨cols, hn, hk⟩ := mat_snoc hm'
      rw [rowsD_snoc] at h2
      split at h2
      · rename_i rs1 hrs1
        split at h2
        · rename_i row1 hrow1
          split at h2
          · rename_i z r hd
            cases h2
            obtain ⟨b, off, cap, z', arr, hnode⟩ := h.node_at hn h1 hrs1 (by intro e; rw [e] at hrow1; simp at hrow1)
            have := hnode.kids i1 k row1 _ _ hrow1 hd hk
            obtain ⟨z2, e2, _⟩ := rep_emp this
            cases e2
            simp at h3
          · cases h2
        · cases h2
      · cases h2
  · cases hm

theorem load_pt (h : St A w μ φ tm C) {t : Nat} {e : TE} {p : Pl} {v : Value} {x : X} {sm : SM} (he : V.get t = some e) (hv : PtOk C p v)
    (hx : loadX V.τ φ t p = some x) (hm : loadM V.τ μ t (.pt p.s (p.st.map (·.2))) = some sm) :
    ∃ a u, v = .pointer (some a) ∧ (loadVar t a).run V.P w = .ok u w ∧ sm.noOwn = true ∧ ∀ s, ClaimX w C φ tm s x u sm := by
  have hv' := hv
  obtain ⟨st, i, c, _, _, _, _, hp, _, _⟩ := hv'
  have hcs : p.st.map (·.2) = st.map (·.2) ++ [c] := by rw [hp]; simp
  have he' : TE.find V.τ t = some e := he
  unfold loadX at hx
  rw [he'] at hx
  simp only at hx
  split at hx
  · rename_i ds hds
    split at hx
    · rename_i hfit
      unfold loadM at hm
      rw [he'] at hm
      simp only at hm
      split at hm
      · rename_i hvoid
        rw [hcs, List.dropLast_concat] at hvoid
        exact (void_none h hp hvoid hds).elim
      · split at hm
        · cases hm
        · rename_i hne
          generalize hms : loadMs μ p.s (p.st.map fun q => q.2) e.zero = ms at *
          simp only [Bool.or_eq_true, Bool.not_eq_true', not_or, Bool.not_eq_true, Bool.not_eq_false] at hne
          obtain ⟨hne, hread⟩ := hne
          have hlen := fits_len hfit
          have hsz := Env.zero_size he
          have hml : ms.length = e.zero.length := by rw [← hms]; simp [loadMs]
          have hget : ∀ j m, ms[j]? = some m → ∃ z m0 cols, e.zero[j]? = some z ∧ μ.mat p.s (addc (p.st.map (·.2)) j) = some m0 ∧ nodeC (μ.get p.s) (st.map (·.2)) = some cols ∧ cols[c + j]? = some m0 ∧
              m = flatM z (m0.viewAt (p.s :: (st.map (·.2) ++ [c + j]))) := by
            intro j m hj
            have hj' := hj
            rw [← hms] at hj
            unfold loadMs at hj
            obtain ⟨z, h1, h2⟩ := zipIdx_get hj
            simp only at h2
            split at h2
            · rename_i m0 hm0
              have hm0' := hm0
              rw [hcs, addc_snoc] at hm0' h2
              obtain ⟨cols, h3, h4⟩ := mat_snoc hm0'
              exact ⟨z, m0, cols, h1, hm0, h3, h4, h2⟩
            · have := List.all_eq_true.1 hread m (List.mem_of_getElem? hj')
              rw [h2] at this; cases this
          have hpos : 0 < ms.length := by
            rcases ms with _ | ⟨m, ms⟩
            · cases hne
            · simp
          obtain ⟨_, _, cols, _, _, hn, _, _⟩ := hget 0 ms[0] (List.getElem?_eq_getElem hpos)
          obtain ⟨b, off, cap, z, arr, ty, rows, rs, row, q1, q2, q3, r1, r2, r3, q4, q5, q6, q7⟩ := h.cells hv hp hn hds
          have hkid : ∀ j d m, ds[j]? = some d → ms[j]? = some m → ∃ zc m0, e.zero[j]? = some zc ∧ μ.mat p.s (addc (p.st.map (·.2)) j) = some m0 ∧ zc.fit d = true ∧
              m = flatM zc (m0.viewAt (p.s :: (st.map (·.2) ++ [c + j]))) ∧ m0.readable = true ∧ Rep w C ⟨p.s, st ++ [(i, c + j)]⟩ m0 d (arr.getD (off + i * z + c + j) undef) ∧
              ∀ p', Rep w C p' m d (arr.getD (off + i * z + c + j) undef) := by
            intro j d m hj hmj
            have hmr : m.readable = true := List.all_eq_true.1 hread m (List.mem_of_getElem? hmj)
            obtain ⟨zc, m0, cols', g1, g2, g3, g4, g5⟩ := hget j m hmj
            rw [hn] at g3; cases g3
            have hrep := q7 j d m0 hj g4
            have hf := fits_at hfit g1 hj
            have hr0 : m0.readable = true := viewAt_readable (flatM_r (by rw [← g5]; exact hmr))
            refine ⟨zc, m0, g1, g2, hf, g5, hr0, hrep, fun p' => ?_⟩
            rw [g5]
            have hva := hrep.viewAt (p' := p')
            have hl : (⟨p.s, st ++ [(i, c + j)]⟩ : Pl).lab = p.s :: (st.map (·.2) ++ [c + j]) := by simp [Pl.lab]
            rw [hl] at hva
            exact flat_rep hf hrep (fun _ => hr0) hva
          have hda : ∀ j d, ds[j]? = some d → dataAt φ (p.addc j) = some d := by
            intro j d hj
            have hpj : (p.addc j).st = st ++ [(i, c + j)] := by simp only [Pl.addc, hp, addLast_snoc]
            have hjl := (List.getElem?_eq_some_iff.1 hj).1
            have hrl : c + j + 1 ≤ row.length := by rw [q5, List.length_take] at hjl; omega
            have hca := cellsAt_of (n := 1) hpj r1 r2 r3 hrl
            have hne : (p.addc j).st ≠ [] := by rw [hpj]; simp
            have hd : row[c + j]? = some d := by
              rw [q5, List.getElem?_take] at hj
              split at hj
              · rwa [List.getElem?_drop] at hj
              · cases hj
            unfold dataAt
            split
            · rename_i e0; exact (hne e0).elim
            · rw [hca, List.take_one, List.head?_drop, hd]
              rfl
          have hsz2 : ds.length = e.size := by omega
          have harr : off + i * z + c + e.size ≤ arr.size := q6
          have hdl : ∀ j, j < ds.length → arr.getD (off + i * z + c + j) undef = (((arr.toList.drop (off + i * z + c)).take e.size).toArray).getD j undef := by
            intro j hj
            simp only [Array.getD_eq_getD_getElem?, List.getElem?_toArray, List.getElem?_take, List.getElem?_drop, Array.getElem?_toList]
            rw [if_pos (by omega)]
          split at hm
          · rename_i hag
            cases hm
            rw [hag] at hx
            simp only [mkX, if_true, Option.some.injEq] at hx
            subst hx
            refine ⟨⟨b, off + i * z + c, none⟩, _, q1, load_agg he hag q3 harr, ?_, ?_⟩
            · simp only [SM.noOwn, List.all_eq_true]
              intro m hmem
              obtain ⟨j, hj⟩ := List.getElem?_of_mem hmem
              obtain ⟨zc, m0, cols', g1, g2, g3, g4, g5⟩ := hget j m hj
              rw [g5]
              cases hf : zc.flat with
              | true =>
                cases hr : (m0.viewAt (p.s :: (st.map (·.2) ++ [c + j]))).readable with
                | true => rw [flatM_flat hr hf]; rfl
                | false =>
                  have : flatM zc (m0.viewAt (p.s :: (st.map (·.2) ++ [c + j]))) = .u := by
                    generalize m0.viewAt (p.s :: (st.map (·.2) ++ [c + j])) = q at hr
                    cases q <;> first | rfl | (cases hr; done)
                  rw [this]; rfl
              | false => rw [flatM_no hf]; exact viewAt_noOwn _ _
            · intro s
              refine ⟨ds, some p, _, rfl, rfl, ?_, by omega, ?_, ⟨p, rfl, rfl, rfl, by rw [hp]; simp, ?_⟩⟩
              · simp; omega
              · intro i' j row' d m h1 h2 h3
                cases i' with
                | succ i' => simp at h1
                | zero =>
                  simp only [List.getElem?_cons_zero, Option.some.injEq] at h1
                  subst h1
                  show Rep w C _ m d (Array.getD _ j undef)
                  rw [← hdl j (List.getElem?_eq_some_iff.1 h2).1]
                  obtain ⟨_, _, _, _, _, _, _, _, g⟩ := hkid j d m h2 h3
                  exact g _
              · intro j hj
                simp only [List.mem_filter, List.mem_range, Bool.and_eq_true, Option.any_eq_true] at hj
                obtain ⟨hj, ⟨m0', hm0', hmo⟩, _⟩ := hj
                have hjd : j < ds.length := by omega
                have hd : ds[j]? = some ds[j] := List.getElem?_eq_getElem hjd
                obtain ⟨zc, m0, g1, g2, g3, g4, g5, g6, g7⟩ := hkid j ds[j] ms[j] hd (List.getElem?_eq_getElem hj)
                rw [g2] at hm0'; cases hm0'
                refine ⟨ds[j], hd, ?_, fun _ => hda j _ hd⟩
                rw [← hdl j hjd]
                have hpj : p.addc j = ⟨p.s, st ++ [(i, c + j)]⟩ := by simp only [Pl.addc, hp, addLast_snoc]
                have hdj := hda j _ hd
                rw [hpj] at hdj ⊢
                exact hd_of g6 hmo hdj
          · rename_i hag
            have hag : e.agg = false := by simpa using hag
            split at hm
            · rename_i zc m hz1 hm1
              have hd0 : ∃ d, ds = [d] := by
                rw [hz1] at hlen
                match ds, hlen with
                | [d], _ => exact ⟨d, rfl⟩
              obtain ⟨d, rfl⟩ := hd0
              have hm0 : ([m] : List M)[0]? = some m := rfl
              obtain ⟨zc', m0, g1, g2, g3, g4, g5, g6, g7⟩ := hkid 0 d m rfl hm0
              rw [hz1] at g1
              simp only [List.getElem?_cons_zero, Option.some.injEq] at g1
              subst g1
              have hsize1 : e.size = 1 := by rw [← hsz, hz1]; rfl
              have hcell : arr[off + i * z + c]? = some (arr.getD (off + i * z + c) undef) := by
                rw [Array.getD_eq_getD_getElem?, Array.getElem?_eq_getElem (by omega)]; rfl
              have hrun := load_one he hag q3 hcell
              rw [Nat.add_zero] at g7
              rw [hag] at hx
              simp only [mkX, Bool.false_eq_true, if_false] at hx
              split at hm
              · rename_i hf
                cases hm
                obtain ⟨u, rfl, hu⟩ := fit_flat g3 hf
                simp only [Option.some.injEq] at hx
                subst hx
                have hmr : m.readable = true := List.all_eq_true.1 hread m (List.mem_of_getElem? hm0)
                have hval := rep_val (g7 ⟨0, []⟩) hmr
                rw [hval] at hrun
                exact ⟨_, _, q1, hrun, rfl, fun s => ⟨.v u, none, rfl, .view (.v hu), fun h => by cases h⟩⟩
              · rename_i hf
                cases hm
                have hf : zc.flat = false := by simpa using hf
                rw [flatM_no hf] at g4
                have hno : m.noOwn = true := by rw [g4]; exact viewAt_noOwn _ _
                cases d with
                | v u =>
                  exfalso
                  clear hdl hda hkid hget hms g4 g7 hm1 hread hz1
                  cases zc <;> first | (cases hf; done) | (cases u <;> cases g3)
                | sl z' r =>
                  simp only [Option.some.injEq] at hx
                  subst hx
                  refine ⟨_, _, q1, hrun, hno, fun s => ⟨.sl z' r, some p, rfl, g7 _, fun _ => ?_⟩⟩
                  have hd0 := hda 0 _ rfl
                  have hp0 : p.addc 0 = p := by
                    obtain ⟨ps, pst⟩ := p
                    simp only at hp
                    simp only [Pl.addc, hp, addLast_snoc, Nat.add_zero]
                  rw [hp0] at hd0
                  have hadd0 : addc (p.st.map (·.2)) 0 = p.st.map (·.2) := by rw [hcs, addc_snoc, Nat.add_zero]
                  rw [hadd0] at g2
                  rw [g2]
                  have hpe : p = ⟨p.s, st ++ [(i, c + 0)]⟩ := by rw [Nat.add_zero, ← hp]
                  have hhd : m0.mayOwn = true → HdOk C φ p (.sl z' r) (arr.getD (off + i * z + c) undef) := by
                    intro hmo
                    have hh := hd_of (φ := φ) g6 hmo (by rw [← hpe]; exact hd0)
                    rw [← hpe, Nat.add_zero] at hh
                    exact hh
                  cases m0 with
                  | u => cases g5
                  | emp => exact ⟨p, rfl, rfl, rfl, hhd rfl, fun _ => hd0, fun e => by rw [hcs] at e; simp at e⟩
                  | own cs => exact ⟨p, rfl, rfl, rfl, hhd rfl, fun _ => hd0, fun e => by rw [hcs] at e; simp at e⟩
                  | view ps => exact ⟨p, rfl, rfl, fun _ => hd0⟩
            · cases hm
    · cases hx
  · cases hx
end
end Go.Ev

/- Loads through views, and of arrays of plain cells; the load as an operation. -/
namespace Go.Ev
section
variable {V : Env} {A : Start} {w : World} {μ : Mu} {φ : Fr} {tm : Nat → Value} {C : Cx}

theorem cells_dataAt {p : Pl} {d : D} (h : cellsAt φ p 1 = some [d]) : dataAt φ p = some d := by
  unfold dataAt
  split
  · rename_i e
    unfold cellsAt at h
    rw [e] at h
    split at h
    · simp [cellsIn] at h
    · cases h
  · rw [h]

theorem load_pv {t : Nat} {e : TE} {p : Pl} {v : Value} {x : X} {sm : SM} {ps : List Pv} (he : V.get t = some e)
    (hv : ∀ n ds, cellsAt φ p n = some ds → 0 < n → ReadAt w (okB C ps) v ds)
    (hx : loadX V.τ φ t p = some x) (hm : loadM V.τ μ t (.pv ps p.s) = some sm) :
    ∃ a u, v = .pointer (some a) ∧ (loadVar t a).run V.P w = .ok u w ∧ sm.noOwn = true ∧ ∀ s, ClaimX w C φ tm s x u sm := by
  have he' : TE.find V.τ t = some e := he
  unfold loadX at hx
  rw [he'] at hx
  simp only at hx
  split at hx
  · rename_i ds hds
    split at hx
    · rename_i hfit
      unfold loadM at hm
      rw [he'] at hm
      simp only at hm
      have hlen := fits_len hfit
      have hsz := Env.zero_size he
      split at hm
      · cases hm
      · rename_i hne
        have hpos : 0 < e.size := by
          rw [← hsz]
          cases hz : e.zero with
          | nil => rw [hz] at hne; exact (hne rfl).elim
          | cons a l => simp
        obtain ⟨b, off, arr, ty, fz, q1, q2, q3, q4, q5⟩ := hv _ _ hds hpos
        have hrep : ∀ (p' : Pl) (j : Nat) (zc : ZC) (d : D), e.zero[j]? = some zc → ds[j]? = some d → Rep w C p' (flatM zc (.view ps)) d (arr.getD (off + j) undef) := by
          intro p' j zc d h1 h2
          exact flat_rep (p := p') (m := .view ps) (fits_at hfit h1 h2) (.view (q5 j d h2)) (fun _ => rfl) (.view (q5 j d h2))
        have hdl : ∀ j, j < ds.length → arr.getD (off + j) undef = (((arr.toList.drop off).take e.size).toArray).getD j undef := by
          intro j hj
          simp only [Array.getD_eq_getD_getElem?, List.getElem?_toArray, List.getElem?_take, List.getElem?_drop, Array.getElem?_toList]
          rw [if_pos (by omega)]
        have hflN : ∀ zc : ZC, (flatM zc (.view ps)).noOwn = true := by
          intro zc; unfold flatM; simp only; split <;> rfl
        split at hm
        · rename_i hag
          cases hm
          rw [hag] at hx
          simp only [mkX, if_true, Option.some.injEq] at hx
          subst hx
          refine ⟨⟨b, off, none⟩, _, q1, load_agg he hag q2 (by omega), ?_, ?_⟩
          · simp only [SM.noOwn, List.all_map, List.all_eq_true]
            intro zc _
            exact hflN zc
          · intro s
            refine ⟨ds, some p, _, rfl, rfl, by simp; omega, by simp [hlen], ?_, trivial⟩
            intro i' j row' d m h1 h2 h3
            cases i' with
            | succ i' => simp at h1
            | zero =>
              simp only [List.getElem?_cons_zero, Option.some.injEq] at h1
              subst h1
              show Rep w C _ m d (Array.getD _ j undef)
              rw [← hdl j (List.getElem?_eq_some_iff.1 h2).1]
              rw [List.getElem?_map, Option.map_eq_some_iff] at h3
              obtain ⟨zc, g1, rfl⟩ := h3
              exact hrep _ j zc d g1 h2
        · rename_i hag
          have hag : e.agg = false := by simpa using hag
          rw [hag] at hx
          simp only [mkX, Bool.false_eq_true, if_false] at hx
          split at hm
          · rename_i zc hz1
            have hd0 : ∃ d, ds = [d] := by
              rw [hz1] at hlen
              match ds, hlen with
              | [d], _ => exact ⟨d, rfl⟩
            obtain ⟨d, rfl⟩ := hd0
            have hsize1 : e.size = 1 := by rw [← hsz, hz1]; rfl
            have hcell : arr[off]? = some (arr.getD off undef) := by
              rw [Array.getD_eq_getD_getElem?, Array.getElem?_eq_getElem (by simp at q4; omega)]; rfl
            have hrun := load_one he hag q2 hcell
            have hf0 := fits_at hfit (j := 0) (by rw [hz1]; rfl) rfl
            have h0 := hrep ⟨0, []⟩ 0 zc d (by rw [hz1]; rfl) rfl
            have hq := q5 0 d rfl
            rw [Nat.add_zero] at h0 hq
            split at hm
            · rename_i hf
              cases hm
              obtain ⟨u, rfl, hu⟩ := fit_flat hf0 hf
              simp only [Option.some.injEq] at hx
              subst hx
              have hval := rep_val h0 (flat_readable rfl)
              rw [hval] at hrun
              exact ⟨_, _, q1, hrun, rfl, fun s => ⟨.v u, none, rfl, .view (.v hu), fun h => by cases h⟩⟩
            · rename_i hf
              cases hm
              have hf : zc.flat = false := by simpa using hf
              cases d with
              | v u =>
                exfalso
                clear hdl h0 hq q5 hrep hcell hz1
                cases zc <;> first | (cases hf; done) | (cases u <;> cases hf0)
              | sl z' r =>
                simp only [Option.some.injEq] at hx
                subst hx
                refine ⟨_, _, q1, hrun, rfl, fun s => ⟨.sl z' r, some p, rfl, .view hq, fun _ => ⟨p, rfl, rfl, fun _ => ?_⟩⟩⟩
                rw [hsize1] at hds
                exact cells_dataAt hds
          · cases hm
    · cases hx
  · cases hx

theorem load_pa (h : St A w μ φ tm C) {t : Nat} {e : TE} {p : Pl} {v : Value} {x : X} {sm : SM} {cs : List Nat} {n k : Nat} (he : V.get t = some e) (hv : PtOk C p v) (hk : k < n) (hp : p.st.map (·.2) = addc cs k)
    (hx : loadX V.τ φ t p = some x) (hm : loadM V.τ μ t (.pa p.s cs n) = some sm) :
    ∃ a u, v = .pointer (some a) ∧ (loadVar t a).run V.P w = .ok u w ∧ sm.noOwn = true ∧ ∀ s, ClaimX w C φ tm s x u sm := by
  have he' : TE.find V.τ t = some e := he
  unfold loadX at hx
  rw [he'] at hx
  simp only at hx
  split at hx
  · rename_i ds hds
    split at hx
    · rename_i hfit
      unfold loadM at hm
      rw [he'] at hm
      simp only at hm
      have hlen := fits_len hfit
      have hsz := Env.zero_size he
      split at hm
      · rename_i s0 c0 n0 heq
        cases heq
        split at hm
        · rename_i zc ms hz1 hbx
          split at hm
          · rename_i hcond
            cases hm
            simp only [Bool.and_eq_true, Bool.not_eq_true'] at hcond
            obtain ⟨⟨hf, hag⟩, hall⟩ := hcond
            have hst : ∃ i, p.st = [] ++ [(i, c0 + k)] := by
              simp only [addc] at hp
              match hs : p.st with
              | [] => rw [hs] at hp; simp at hp
              | [(i, c)] => rw [hs] at hp; simp at hp; exact ⟨i, by simp [hp]⟩
              | _ :: _ :: _ => rw [hs] at hp; simp at hp
            obtain ⟨i, hst⟩ := hst
            have hd0 : ∃ d, ds = [d] := by
              rw [hz1] at hlen
              match ds, hlen with
              | [d], _ => exact ⟨d, rfl⟩
            obtain ⟨d, rfl⟩ := hd0
            have hsize1 : e.size = 1 := by rw [← hsz, hz1]; rfl
            have hn : nodeC (μ.get p.s) (([] : List (Nat × Nat)).map (·.2)) = some ms := by rw [hbx]; rfl
            obtain ⟨b, off, cap, z, arr, ty, rows, rs, row, q1, q2, q3, r1, r2, r3, q4, q5, q6, q7⟩ := h.cells hv hst hn hds
            have hrl := q2.len i row r3
            have hc : c0 + k < ms.length := by omega
            have hrep := q7 0 d ms[c0 + k] rfl (by simp [hc])
            have hr : (ms[c0 + k]).readable = true := by
              refine List.all_eq_true.1 hall _ ?_
              refine List.mem_of_getElem? (i := k) ?_
              rw [List.getElem?_take, if_pos hk, List.getElem?_drop]
              simp [hc]
            obtain ⟨u, rfl, hu⟩ := fit_flat (fits_at hfit (j := 0) (by rw [hz1]; rfl) rfl) hf
            have hval := rep_val hrep hr
            have hcell : arr[off + i * z + (c0 + k)]? = some (arr.getD (off + i * z + (c0 + k)) undef) := by
              rw [Array.getD_eq_getD_getElem?, Array.getElem?_eq_getElem (by omega)]; rfl
            have hrun := load_one he hag q3 hcell
            rw [Nat.add_zero] at hval
            rw [hval] at hrun
            rw [hag] at hx
            simp only [mkX, Bool.false_eq_true, if_false, Option.some.injEq] at hx
            subst hx
            exact ⟨_, _, q1, hrun, rfl, fun s => ⟨.v u, none, rfl, .view (.v hu), fun h => by cases h⟩⟩
          · cases hm
        · cases hm
      · rename_i heq; cases heq
      · rename_i heq; cases heq
      · cases hm
    · cases hx
  · cases hx
end

section
variable {V : Env} {A : Start} {w : World} {μ : Mu} {φ : Fr} {C : Cx} {a : Act} {g : Nat → Value} {o : Oper} {x : X} {sm : SM}

theorem ptX_op {y : Operand} {p : Pl} (h : ptX φ y = some p) : ∀ τ ty, opX τ φ ty y = .pt p := by
  intro τ ty
  cases y with
  | tmp t =>
    simp only [ptX] at h
    simp only [opX]
    split at h
    · rename_i cs e; cases h; rw [e]; rfl
    · rename_i q e; cases h; rw [e]; rfl
    · cases h
  | _ => cases h

/-- A pointer operand. -/
theorem pt_sound {y : Operand} {p : Pl} (h : St A w μ φ (tmO a.tmps g) C) (hx : sm1 y = true) (hp : ptX φ y = some p) : ∀ s, ClaimX w C φ (tmO a.tmps g) s (.pt p) (a.eval y) (opM μ y) := by
  intro s
  have e := ptX_op hp [] 0
  have := op_sound (τ := []) (ty := 0) (s := s) h hx (by rw [e]; simp)
  rwa [e] at this

theorem s_load {t : Nat} {y : Operand} (ho : o.op = .load t y) (h : St A w μ φ (tmO a.tmps g) C) (hs : sm1 y = true) (hx : pureX V.τ φ o.op o.type = some x) (hm : loadM V.τ μ t (opM μ y) = some sm) :
    PureOk V w C φ (tmO a.tmps g) a o x sm := by
  rw [ho] at hx
  simp only [pureX] at hx
  split at hx
  · rename_i p hp
    have he : ∃ e, V.get t = some e := by
      unfold loadX at hx
      split at hx
      · rename_i e he; exact ⟨e, he⟩
      · cases hx
    obtain ⟨e, he⟩ := he
    have hc := pt_sound h hs hp
    have key : ∃ b u, a.eval y = .pointer (some b) ∧ (loadVar t b).run V.P w = .ok u w ∧ sm.noOwn = true ∧ ∀ s, ClaimX w C φ (tmO a.tmps g) s x u sm := by
      generalize opM μ y = m at hc hm
      cases m with
      | pt s cs =>
        obtain ⟨p', e1, rfl, rfl, hv⟩ := hc 0
        cases e1
        exact load_pt h he hv hx hm
      | pa s cs n =>
        obtain ⟨p', k, e1, rfl, hk, hcs, hv⟩ := hc 0
        cases e1
        exact load_pa h he hv hk hcs hx hm
      | pv ps s =>
        obtain ⟨p', e1, rfl, _, _, hv⟩ := hc 0
        cases e1
        exact load_pv he hv hx hm
      | _ => 
        exfalso
        unfold loadM at hm
        split at hm
        · split at hm <;> first | (rename_i e; cases e; done) | cases hm
        · cases hm
    obtain ⟨b, u, h1, h2, h3, h4⟩ := key
    refine .inl ⟨u, ?_, h3, h4⟩
    simp only [execOp, ho, h1]
    refine exec_value ?_
    simp [Instr.loadAt, Instr.sureAddr, h2]
  · cases hx
end
end Go.Ev

/- The operations that leave nothing but their result, one by one. -/
namespace Go.Ev

theorem rep_sl {w : World} {C : Cx} {p : Pl} {m : M} {z : Nat} {rows : List (List D)} {v : Value} (h : Rep w C p m (.sl z rows) v) (hm : m.readable = true) : ∃ ad c, v = .slice ad rows.length c := by
  cases h with
  | u => cases hm
  | emp => exact ⟨_, _, rfl⟩
  | view h => cases h with
    | nil => exact ⟨_, _, rfl⟩
    | sl h1 h2 h3 h4 h5 h6 => exact ⟨_, _, rfl⟩
  | nil => exact ⟨_, _, rfl⟩
  | own h1 h2 h3 h4 h5 h6 h7 h8 => exact ⟨_, _, rfl⟩

theorem leaf_vals : ∀ {zs : List ZC} {xs ys : List D} {b : Bool}, leafEq zs xs ys = some b → ∃ us vs, xs = us.map D.v ∧ ys = vs.map D.v ∧ leafV zs us vs = some b := by
  intro zs
  induction zs with
  | nil =>
    intro xs ys b h
    cases xs <;> cases ys <;> simp [leafEq] at h
    subst h
    exact ⟨[], [], rfl, rfl, rfl⟩
  | cons z zs ih =>
    intro xs ys b h
    cases z with
    | zi k =>
      match xs, ys, h with
      | .v (.int k1 a) :: xs, .v (.int k2 c) :: ys, h =>
        simp only [leafEq] at h
        split at h
        · rename_i hk
          rw [Option.map_eq_some_iff] at h
          obtain ⟨b', h1, h2⟩ := h
          obtain ⟨us, vs, rfl, rfl, h3⟩ := ih h1
          refine ⟨.int k1 a :: us, .int k2 c :: vs, rfl, rfl, ?_⟩
          simp only [leafV]
          rw [if_pos hk, h3]
          simp [h2]
        · cases h
    | zs =>
      match xs, ys, h with
      | .v (.string a) :: xs, .v (.string c) :: ys, h =>
        simp only [leafEq] at h
        rw [Option.map_eq_some_iff] at h
        obtain ⟨b', h1, h2⟩ := h
        obtain ⟨us, vs, rfl, rfl, h3⟩ := ih h1
        refine ⟨.string a :: us, .string c :: vs, rfl, rfl, ?_⟩
        simp only [leafV]
        rw [h3]
        simp [h2]
    | zb =>
      match xs, ys, h with
      | .v (.bool a) :: xs, .v (.bool c) :: ys, h =>
        simp only [leafEq] at h
        rw [Option.map_eq_some_iff] at h
        obtain ⟨b', h1, h2⟩ := h
        obtain ⟨us, vs, rfl, rfl, h3⟩ := ih h1
        refine ⟨.bool a :: us, .bool c :: vs, rfl, rfl, ?_⟩
        simp only [leafV]
        rw [h3]
        simp [h2]
    | zl n => simp [leafEq] at h
    | zx => simp [leafEq] at h

theorem zeros_at : ∀ {zs : List ZC} {vs : List Value} {j : Nat} {z : ZC}, zeros zs vs = true → zs[j]? = some z → ∃ v, vs[j]? = some v ∧ z.is v = true
  | [], _, j, z, _, h => by simp at h
  | _ :: _, [], j, z, h, _ => by simp [zeros] at h
  | z0 :: zs, v0 :: vs, j, z, h, hz => by
    simp only [zeros, Bool.and_eq_true] at h
    cases j with
    | zero => simp only [List.getElem?_cons_zero, Option.some.injEq] at hz; subst hz; exact ⟨v0, rfl, h.1⟩
    | succ j => simp only [List.getElem?_cons_succ] at hz ⊢; exact zeros_at h.2 hz

theorem zero_rep {w : World} {C : Cx} {p : Pl} {z : ZC} {v : Value} (h : z.is v = true) (hf : z.fit z.d = true) : Rep w C p (zeroM z) z.d v := by
  cases z with
  | zi k =>
    cases v <;> simp only [ZC.is, Bool.false_eq_true] at h
    simp only [Bool.and_eq_true, beq_iff_eq] at h
    obtain ⟨rfl, rfl⟩ := h
    exact .view (.v rfl)
  | zb =>
    cases v <;> simp only [ZC.is, Bool.false_eq_true] at h
    simp only [Bool.not_eq_true'] at h
    subst h
    exact .view (.v rfl)
  | zs =>
    cases v <;> simp only [ZC.is, Bool.false_eq_true] at h
    rename_i x
    simp only [beq_iff_eq] at h
    have : x = ByteArray.empty := by cases x; simp only at h; subst h; rfl
    subst this
    exact .view (.v rfl)
  | zl n =>
    unfold ZC.is at h
    split at h <;> first | (cases h; done) | (rename_i e1; cases e1; done) | skip
    all_goals first
      | exact .emp
      | (rename_i e1 _; cases e1; done)
      | (rename_i e1; cases e1; exact .emp)
  | zx => simp [ZC.fit, ZC.d] at hf

section
variable {V : Env} {A : Start} {w : World} {μ : Mu} {φ : Fr} {C : Cx} {a : Act} {g : Nat → Value} {o : Oper} {x : X} {sm : SM}

theorem scalar_ok {v : Value} (h1 : (execOp a.eval o).run V.P w = .ok (.value v) w) (hv : v.scalar = true) : PureOk V w C φ (tmO a.tmps g) a o (.d (.v v) none) scM :=
  .inl ⟨v, h1, rfl, fun _ => ⟨.v v, none, rfl, .view (.v hv), fun h => by cases h⟩⟩

theorem int_sound {y : Operand} {ty : Nat} {n : Int} (h : St A w μ φ (tmO a.tmps g) C) (hx : sm1 y = true) (hr : rdO μ y = true) (hv : (opX V.τ φ ty y).int = some n) : ∃ k, a.eval y = .int k n := by
  have : ∃ k, (opX V.τ φ ty y).val = some (.int k n) := by
    unfold X.int at hv
    split at hv
    · rename_i k m o e; cases hv; exact ⟨k, by rw [e]; rfl⟩
    · cases hv
  obtain ⟨k, hk⟩ := this
  exact ⟨k, (val_sound h hx hr hk).1⟩

theorem s_move {y : Operand} (ho : o.op = .move y ∨ o.op = .assign y) (h : St A w μ φ (tmO a.tmps g) C) (hs : sm1 y = true) (hu : opX V.τ φ o.type y ≠ .u) :
    PureOk V w C φ (tmO a.tmps g) a o (opX V.τ φ o.type y) (opM μ y) :=
  .inl ⟨a.eval y, by rcases ho with ho | ho <;> simp [execOp, ho], opM_noOwn μ y, fun _ => op_sound h hs hu⟩

theorem s_pick {c y z : Operand} (ho : o.op = .pick c y z) (h : St A w μ φ (tmO a.tmps g) C) (h1 : sm1 c = true) (h2 : sm1 y = true) (h3 : sm1 z = true) (hx : pureX V.τ φ o.op o.type = some x)
    (hr : (rdO μ c && rdO μ y && rdO μ z) = true) : PureOk V w C φ (tmO a.tmps g) a o x scM := by
  rw [ho] at hx
  simp only [pureX] at hx
  simp only [Bool.and_eq_true] at hr
  split at hx
  · rename_i b hb
    have hc := (val_sound h h1 hr.1.1 hb).1
    split at hx
    · rename_i v hv; cases hx
      cases b with
      | true =>
        obtain ⟨e1, e2⟩ := val_sound h h2 hr.1.2 hv
        exact scalar_ok (by simp [execOp, ho, hc, asBool, e1]) e2
      | false =>
        obtain ⟨e1, e2⟩ := val_sound h h3 hr.2 hv
        exact scalar_ok (by simp [execOp, ho, hc, asBool, e1]) e2
    · cases hx
  · cases hx

theorem alloc_ext {ty : TypeId} {vs : Array Value} : Ext w (w.alloc (.cells vs ty)) := by
  have hsz : (w.alloc (.cells vs ty)).heap = w.heap.push (.cells vs ty) := rfl
  refine ⟨by simp [hsz], ?_, ⟨rfl, rfl, rfl⟩⟩
  intro b hb
  rw [hsz, Array.getElem?_push, if_neg (by omega)]

def newOne (n d : Nat) (o : Ow) : Nat → Option Ow := fun b => if b = n then some { o with p := ⟨d, []⟩ } else none

theorem newOne_own {w' : World} {n d : Nat} {o : Ow} {arr : Array Value} {ty : TypeId} (h : w'.heap[n]? = some (.cells arr ty (0, 0))) (hr : o.off + o.cap * o.z ≤ arr.size) : OwnOk w' (newOne n d o) := by
  intro b o' e
  unfold newOne at e
  split at e
  · rename_i hb
    cases e
    rw [hb]
    exact ⟨arr, ty, h, hr⟩
  · cases e

theorem newOne_ok {n m d : Nat} {o : Ow} (h : n < m) : NewOk n m d (newOne n d o) := by
  refine ⟨?_, ?_, ?_⟩
  · intro b o' _ e
    unfold newOne at e
    split at e
    · rename_i hb; omega
    · cases e
  · intro b o' _ e
    unfold newOne at e
    split at e
    · cases e; rfl
    · cases e
  · intro b b' o1 o2 _ _ e1 e2 _
    unfold newOne at e1 e2
    split at e1
    · split at e2
      · rename_i h1 h2; rw [h1, h2]
      · cases e2
    · cases e1

theorem s_alloc {t : Nat} (ho : o.op = .alloc t) (hx : pureX V.τ φ o.op o.type = some x) (hm : pureM V.τ [] μ o.op = some sm) : PureOk V w C φ (tmO a.tmps g) a o x sm := by
  rw [ho] at hx hm
  simp only [pureX] at hx
  simp only [pureM] at hm
  split at hx
  · rename_i e he
    rw [he] at hm
    simp only [Option.some.injEq] at hm
    subst hm
    split at hx
    · rename_i hfit
      cases hx
      obtain ⟨i, v, hi, hs, hz, hzs⟩ := Env.info (V := V) he
      right
      refine ⟨.pointer (some ⟨w.heap.size, 0, none⟩), w.alloc (.cells v.cells t), ?_, alloc_ext, ?_⟩
      · have : (Instr.alloc t true (.tuple #[])).run V.P w = .ok (.pointer (some ⟨w.heap.size, 0, none⟩)) (w.alloc (.cells v.cells t)) := by
          simp [Instr.alloc, zeroValue, typeInfo, hi, hz, newVar_run]
        simp only [execOp, ho]
        rw [exec_value this]
      · intro d
        refine ⟨newOne w.heap.size d ⟨⟨d, []⟩, 0, 0, 0⟩, newOne_ok (by rw [show (w.alloc (.cells v.cells t)).heap = w.heap.push (.cells v.cells t) from rfl]; simp), newOne_own (arr := v.cells) (ty := t) (by rw [show (w.alloc (.cells v.cells t)).heap = w.heap.push (.cells v.cells t) from rfl]; simp) (by simp), ?_⟩
        intro C' φ' tm' hN _
        have hlen := zero_len hzs
        refine ⟨_, w.heap.size, 0, v.cells, rfl, rfl, ⟨hN _ _ (Nat.le_refl _) (by simp [newOne]), ⟨t, by rw [show (w.alloc (.cells v.cells t)).heap = w.heap.push (.cells v.cells t) from rfl]; simp⟩, ?_, ?_, .inl (by simp), ?_⟩⟩
        · intro i row hrow
          cases i with
          | succ i => simp at hrow
          | zero =>
            simp only [List.getElem?_cons_zero, Option.some.injEq] at hrow
            subst hrow
            simp; rw [hlen]; simp
        · intro i row hrow
          cases i with
          | succ i => simp at hrow
          | zero =>
            simp only [List.getElem?_cons_zero, Option.some.injEq] at hrow
            subst hrow
            simp
        · intro i j row d' m h1 h2 h3
          cases i with
          | succ i => simp at h1
          | zero =>
            simp only [List.getElem?_cons_zero, Option.some.injEq] at h1
            subst h1
            rw [List.getElem?_map, Option.map_eq_some_iff] at h2 h3
            obtain ⟨z, hz1, rfl⟩ := h2
            obtain ⟨z', hz2, rfl⟩ := h3
            rw [hz1] at hz2; cases hz2
            obtain ⟨u, hu, his⟩ := zeros_at hzs hz1
            have hf := fits_at hfit hz1 (by rw [List.getElem?_map, hz1]; rfl)
            have : v.cells.getD (0 + 0 * 0 + j) undef = u := by
              rw [Array.getElem?_toList] at hu
              simp [Array.getD_eq_getD_getElem?, hu]
            show Rep _ _ _ _ _ (v.cells.getD (0 + 0 * 0 + j) undef)
            rw [this]
            exact zero_rep his hf
    · cases hx
  · cases hx

theorem s_nil {y : Operand} (ho : o.op = .nilCheck y) (h : St A w μ φ (tmO a.tmps g) C) (hs : sm1 y = true) (hx : pureX V.τ φ o.op o.type = some x) (hm : pureM V.τ [] μ o.op = some sm) : PureOk V w C φ (tmO a.tmps g) a o x sm := by
  rw [ho] at hx hm
  simp only [pureX, Option.map_eq_some_iff] at hx
  obtain ⟨p, hp, rfl⟩ := hx
  have hc := pt_sound h hs hp
  simp only [pureM] at hm
  split at hm
  · rename_i s cs e
    cases hm
    rw [e] at hc
    have hv : ∃ ad, a.eval y = .pointer (some ad) := by
      obtain ⟨_, _, _, _, _, _, _, _, _, _, _, _, _, hv⟩ := hc 0
      exact ⟨_, hv⟩
    obtain ⟨ad, hv⟩ := hv
    exact .inl ⟨a.eval y, by simp [execOp, ho, hv], rfl, hc⟩
  · rename_i ps s e
    cases hm
    rw [e] at hc
    have hv : ∃ ad, a.eval y = .pointer (some ad) := by
      obtain ⟨_, _, _, _, ⟨b, off, hv⟩, _⟩ := hc 0
      exact ⟨_, hv⟩
    obtain ⟨ad, hv⟩ := hv
    exact .inl ⟨a.eval y, by simp [execOp, ho, hv], rfl, hc⟩
  · cases hm

theorem agg_vals {y : Operand} {ty : Nat} {us : List Value} {og : Option Pl} (h : St A w μ φ (tmO a.tmps g) C) (hs : sm1 y = true) (hr : rdO μ y = true) (hx : opX V.τ φ ty y = .agg (us.map D.v) og) : a.eval y = .agg us.toArray := by
  have hc := op_sound (s := 0) h hs (τ := V.τ) (ty := ty) (by rw [hx]; simp)
  rw [hx] at hc
  unfold rdO at hr
  generalize opM μ y = m at hc hr
  cases m with
  | agg ms o' =>
    obtain ⟨ds, o2, vs, e1, e2, e3, e4, e5, e6⟩ := hc
    cases e1
    rw [e2]
    congr 1
    apply Array.ext
    · simp at e3 ⊢; omega
    · intro j h1 h2
      have hj : j < us.length := by simpa using h2
      have hms : j < ms.length := by rw [e4]; simpa using hj
      have := e5 0 j _ (.v us[j]) ms[j] rfl (by simp [hj]) (List.getElem?_eq_getElem hms)
      have hmr : (ms[j]).readable = true := by
        simp only [SM.readable, List.all_eq_true] at hr
        exact hr _ (List.getElem_mem hms)
      have := rep_val this hmr
      simpa [Array.getD, h1] using this
  | c m o' => obtain ⟨_, _, e1, _⟩ := hc; cases e1
  | _ => cases hr

theorem s_bin {op : BinOp} {t t' : TypeId} {y z : Operand} (ho : o.op = .binOp op t y z t') (h : St A w μ φ (tmO a.tmps g) C) (h1 : sm1 y = true) (h2 : sm1 z = true) (hx : pureX V.τ φ o.op o.type = some x)
    (hr : (rdO μ y && rdO μ z) = true) : PureOk V w C φ (tmO a.tmps g) a o x scM := by
  rw [ho] at hx
  simp only [pureX] at hx
  simp only [Bool.and_eq_true] at hr
  have hex : ∀ r, (do eqGuard op t y z (a.eval y) (a.eval z); binOp op t (a.eval y) (a.eval z) : Sem Value).run V.P w = .ok r w → (execOp a.eval o).run V.P w = .ok (.value r) w := by
    intro r hr
    simp only [execOp, ho]
    exact exec_value hr
  have vs : ∀ (q : Operand) (v : Value) (og : Option Pl), sm1 q = true → rdO μ q = true → opX V.τ φ t q = .d (.v v) og → a.eval q = v := by
    intro q v og hq1 hq2 e
    exact (val_sound (τ := V.τ) (ty := t) h hq1 hq2 (by rw [e]; rfl)).1
  split at hx
  · rename_i hn
    obtain rfl : z = .const .nilIface := by
      unfold isNil at hn
      split at hn
      · rfl
      · cases hn
    unfold nilX at hx
    split at hx
    · rename_i og e e1 he
      have v1 := vs y _ _ h1 hr.1 e1
      have v2 : a.eval (.const .nilIface) = .nilIface := rfl
      split at hx
      · rename_i hk
        obtain ⟨d, hu, _, _, _, _, _, _, hid⟩ := Env.desc (V := V) he
        obtain ⟨ms, rfl⟩ := hid hk
        split at hx
        · cases hx
          refine scalar_ok (hex _ ?_) rfl
          rw [v1, v2]
          simp only [eqGuard, binOp, Sem.run_bind, nil_eq hu]
          cases y <;> rfl
        · cases hx
          refine scalar_ok (hex _ ?_) rfl
          rw [v1, v2]
          simp only [eqGuard, binOp, Sem.run_bind, nil_eq hu]
          cases y <;> rfl
        · cases hx
      · cases hx
    · cases hx
  unfold binX at hx
  split at hx
  · rename_i b o1 c o2 e1 e2
    have v1 := vs y _ _ h1 hr.1 e1
    have v2 := vs z _ _ h2 hr.2 e2
    split at hx
    · rename_i e he
      split at hx
      · rename_i hk
        obtain ⟨d, hu, _, _, _, _, hbd, _⟩ := Env.desc (V := V) he
        have := hbd hk; subst this
        split at hx
        · cases hx
          refine scalar_ok (hex _ ?_) rfl
          rw [v1, v2]
          simp only [eqGuard, binOp, Sem.run_bind, bool_eq hu]
          rfl
        · cases hx
          refine scalar_ok (hex _ ?_) rfl
          rw [v1, v2]
          simp only [eqGuard, binOp, Sem.run_bind, bool_eq hu]
          rfl
        · cases hx
      · cases hx
    · cases hx
  · rename_i b o1 c o2 _ e1 e2
    have v1 := vs y _ _ h1 hr.1 e1
    have v2 := vs z _ _ h2 hr.2 e2
    rw [Option.map_eq_some_iff] at hx
    obtain ⟨r, hr', rfl⟩ := hx
    refine scalar_ok (hex _ ?_) ?_
    · rw [v1, v2]; exact bin_run hr'
    · unfold bin at hr'
      split at hr' <;> first | (split at hr' <;> first | (cases hr'; rfl) | (cases hr'; done)) | (cases hr'; rfl) | (cases hr'; done)
  · rename_i xs o1 ys o2 e1 e2
    split at hx
    · rename_i e he
      split at hx
      · rename_i hq
        have hm : e ∈ V.τ := List.mem_of_find?_eq_some he
        have hf := V.eqok e hm hq
        have ht := (V.get_ok he).1
        subst ht
        split at hx
        · rename_i b hl; cases hx
          obtain ⟨us, vs', rfl, rfl, hv⟩ := leaf_vals hl
          refine scalar_ok (hex _ ?_) rfl
          rw [agg_vals h h1 hr.1 e1, agg_vals h h2 hr.2 e2]
          exact (hf y z us vs' b w hv).1
        · rename_i b hl; cases hx
          obtain ⟨us, vs', rfl, rfl, hv⟩ := leaf_vals hl
          refine scalar_ok (hex _ ?_) rfl
          rw [agg_vals h h1 hr.1 e1, agg_vals h h2 hr.2 e2]
          exact (hf y z us vs' b w hv).2
        · cases hx
      · cases hx
    · cases hx
  · cases hx

theorem s_un {op : UnOp} {t : TypeId} {y : Operand} (ho : o.op = .unOp op t y) (h : St A w μ φ (tmO a.tmps g) C) (h1 : sm1 y = true) (hx : pureX V.τ φ o.op o.type = some x) (hr : rdO μ y = true) : PureOk V w C φ (tmO a.tmps g) a o x scM := by
  rw [ho] at hx
  simp only [pureX] at hx
  split at hx
  · rename_i v hv
    obtain ⟨e1, e2⟩ := val_sound h h1 hr hv
    rw [Option.map_eq_some_iff] at hx
    obtain ⟨r, hr', rfl⟩ := hx
    unfold unF at hr'
    split at hr'
    · cases hr'; exact scalar_ok (by simp [execOp, ho, e1, Op.unary]) rfl
    · cases hr'; exact scalar_ok (by simp [execOp, ho, e1, Op.unary, Op.intArith]) rfl
    · cases hr'; exact scalar_ok (by simp [execOp, ho, e1, Op.unary, Op.intBits]) rfl
    · cases hr'
  · cases hx
end
end Go.Ev

/- Places within; lengths; components. -/
namespace Go.Ev
section
variable {V : Env} {A : Start} {w : World} {μ : Mu} {φ : Fr} {C : Cx} {a : Act} {g : Nat → Value} {o : Oper} {x : X} {sm : SM}

theorem dataAt_rows {p : Pl} {z : Nat} {rows : List (List D)} (h : dataAt φ p = some (.sl z rows)) : ∃ rows0, rowsX (φ p.s) = some rows0 ∧ rowsD rows0 p.st = some rows := by
  rcases List.eq_nil_or_concat p.st with e | ⟨st, ⟨i, c⟩, e⟩
  · unfold dataAt at h
    rw [e] at h ⊢
    simp only at h
    split at h
    · rename_i d o' e'; cases h; exact ⟨rows, by rw [e']; rfl, rfl⟩
    · cases h
  · rw [List.concat_eq_append] at e
    unfold dataAt at h
    split at h
    · rename_i e'; rw [e] at e'; simp at e'
    · split at h
      · rename_i d hd
        cases h
        obtain ⟨rows0, rs, row, h1, h2, h3, h4, h5⟩ := cellsAt_snoc e hd
        refine ⟨rows0, h1, ?_⟩
        rw [e, rowsD_snoc, h2]
        simp only
        rw [h3]
        simp only
        have : row[c]? = some (.sl z rows) := by
          have := congrArg (fun l => l[0]?) h5
          simp only [List.getElem?_cons_zero, List.getElem?_take, List.getElem?_drop] at this
          simpa using this.symm
        rw [this]
      · cases h

theorem s_field {s f : Nat} {y : Operand} (ho : o.op = .fieldAddr s y f) (h : St A w μ φ (tmO a.tmps g) C) (hs : sm1 y = true) (hx : pureX V.τ φ o.op o.type = some x) (hm : pureM V.τ [] μ o.op = some sm) :
    PureOk V w C φ (tmO a.tmps g) a o x sm := by
  rw [ho] at hx hm
  simp only [pureX] at hx
  split at hx
  · rename_i p hp
    have hc := pt_sound h hs hp
    unfold fieldX at hx
    split at hx
    · rename_i e he
      split at hx
      · rename_i off hf
        split at hx
        · rename_i ds0 hds0
          cases hx
          have hst : ∃ st i c, p.st = st ++ [(i, c)] := by
            rcases List.eq_nil_or_concat p.st with e | ⟨st, ⟨i, c⟩, e⟩
            · rw [e] at hds0
              simp only [addLast] at hds0
              unfold cellsAt at hds0
              split at hds0
              · simp [cellsIn] at hds0
              · cases hds0
            · exact ⟨st, i, c, by rw [e, List.concat_eq_append]⟩
          obtain ⟨st, i, c, hst⟩ := hst
          have hnew : addLast p.st off = st ++ [(i, c + off)] := by rw [hst, addLast_snoc]
          have hrun : ∀ b o', a.eval y = .pointer (some ⟨b, o', none⟩) → (execOp a.eval o).run V.P w = .ok (.value (.pointer (some ⟨b, o' + off, none⟩))) w := by
            intro b o' hv
            simp only [execOp, ho, hv]
            exact exec_value (field_run he hf)
          simp only [pureM, he] at hm
          split at hm
          · rename_i e' s' cs he' hop
            cases he'
            rw [hf] at hm
            simp only [Option.some.injEq] at hm
            subst hm
            rw [hop] at hc
            obtain ⟨p', q1, q2, q3, st', i', c', b, off0, cap, z, q4, q5, q6⟩ := hc 0
            cases q1
            rw [hst] at q4
            obtain ⟨q7, q8⟩ := List.append_inj' q4 rfl
            cases q8; subst q7
            refine .inl ⟨_, hrun _ _ q6, rfl, fun _ => ⟨_, rfl, q2, ?_, st, i, c + off, b, off0, cap, z, hnew, q5, by rw [Nat.add_assoc]⟩⟩
            show (addLast p.st off).map (·.2) = _
            rw [hnew, ← q3, hst]
            simp [addc_snoc]
          · rename_i e' ps s' he' hop
            cases he'
            cases hm
            rw [hop] at hc
            obtain ⟨p', q1, q2, q3, ⟨b, o', q4⟩, q5⟩ := hc 0
            cases q1
            refine .inl ⟨_, hrun _ _ q4, rfl, fun _ => ⟨_, rfl, q2, q3, ⟨_, _, rfl⟩, ?_⟩⟩
            intro n ds hds hn
            obtain ⟨rows, rs, row, h1, h2, h3, h4, h5⟩ := cellsAt_snoc (p := ⟨p.s, addLast p.st off⟩) hnew hds
            have hold := cellsAt_of (n := off + n) hst h1 h2 h3 (by omega)
            obtain ⟨b1, o1, arr, ty, fz, g1, g2, g3, g4, g5⟩ := q5 _ _ hold (by omega)
            rw [q4] at g1
            cases g1
            have hrl : ds.length = n := by rw [h5]; simp; omega
            have hol : ((row.drop c).take (off + n)).length = off + n := by simp; omega
            refine ⟨_, _, arr, ty, fz, rfl, g2, g3, by omega, ?_⟩
            intro j d hj
            have hjn := (List.getElem?_eq_some_iff.1 hj).1
            have := g5 (off + j) d (by
              rw [h5, List.getElem?_take, List.getElem?_drop] at hj
              rw [if_pos (by omega)] at hj
              rw [List.getElem?_take, List.getElem?_drop, if_pos (by omega), ← Nat.add_assoc]
              exact hj)
            rwa [← Nat.add_assoc] at this
          · cases hm
        · cases hx
      · cases hx
    · cases hx
  · cases hx

theorem s_index {t : Nat} {y i : Operand} (ho : o.op = .indexAddr t y i) (h : St A w μ φ (tmO a.tmps g) C) (hs : sm1 y = true) (hsi : sm1 i = true) (hx : pureX V.τ φ o.op o.type = some x) (hm : pureM V.τ [] μ o.op = some sm) :
    PureOk V w C φ (tmO a.tmps g) a o x sm := by
  rw [ho] at hx hm
  simp only [pureX] at hx
  simp only [pureM] at hm
  split at hm
  · cases hm
  · rename_i hri
    have hri : rdO μ i = true := by simpa using hri
    split at hx
    · rename_i n hn
      obtain ⟨k, hi⟩ := int_sound h hsi hri hn
      unfold indexX at hx
      split at hx
      · cases hx
      · rename_i hn0
        obtain ⟨n, rfl⟩ : ∃ m : Nat, n = m := ⟨n.toNat, by omega⟩
        simp only [Int.toNat_natCast] at hx
        split at hx
        · rename_i e he
          rw [he] at hm
          simp only at hm
          split at hx
          · rename_i et z yb hel
            rw [hel] at hm
            simp only at hm
            split at hx
            · rename_i z' rows p hop
              split at hx
              · rename_i hcond
                obtain ⟨rfl, hz0, hlt⟩ := hcond
                cases hx
                have hc := fun s => op_sound (τ := V.τ) (ty := t) (s := s) h hs (by rw [hop]; simp)
                rw [hop] at hc
                have hrun : ∀ b off c, a.eval y = .slice (some ⟨b, off, none⟩) rows.length c → (execOp a.eval o).run V.P w = .ok (.value (.pointer (some ⟨b, off + n * z', none⟩))) w := by
                  intro b off c hv
                  simp only [execOp, ho, hv, hi]
                  exact exec_value (index_run he hel hlt)
                split at hm
                · rename_i m s cs hopm
                  cases hm
                  rw [hopm] at hc
                  obtain ⟨d, o1, e1, e2, e3⟩ := hc 0
                  cases e1
                  obtain ⟨p', q1, q2, q3, q4, q5⟩ := e3 rfl
                  cases q1
                  rcases q4 with ⟨_, z2, g1, _⟩ | ⟨b, off, c, z2, rows0, rows1, g1, g2, g3, g4, g5⟩
                  · cases g1; simp at hlt
                  · cases g1
                    rw [← g2] at g3
                    refine .inl ⟨_, hrun _ _ _ g3, rfl, fun _ => ⟨_, rfl, q2, by simp [q3], p.st, n, 0, b, off, c, z', rfl, g4, by simp⟩⟩
                · rename_i ps s hopm
                  cases hm
                  rw [hopm] at hc
                  obtain ⟨d, o1, e1, e2, e3⟩ := hc 0
                  cases e1
                  obtain ⟨p', q1, q2, q3⟩ := e3 rfl
                  cases q1
                  have hda := q3 rfl
                  generalize hav : a.eval y = av at e2
                  cases e2 with
                  | view e2 =>
                    cases e2 with
                    | nil => simp at hlt
                    | @sl _ _ b off c arr ty fz k1 k2 k3 k4 k5 k6 =>
                      obtain ⟨rows0, r1, r2⟩ := dataAt_rows hda
                      refine .inl ⟨_, hrun _ _ _ hav, rfl, fun _ => ⟨_, rfl, q2, ?_, ⟨_, _, rfl⟩, ?_⟩⟩
                      · intro e; rw [q2, e] at r1; cases r1
                      · intro n' ds hds hn'
                        obtain ⟨rows2, rs, row, g1, g2, g3, g4, g5⟩ := cellsAt_snoc (p := ⟨p.s, p.st ++ [(n, 0)]⟩) rfl hds
                        simp only at g1
                        rw [r1] at g1; cases g1
                        rw [r2] at g2; cases g2
                        have hrl := k5 row (List.mem_of_getElem? g3)
                        have hnl := (List.getElem?_eq_some_iff.1 g3).1
                        have hmul : (n + 1) * z' ≤ rows.length * z' := Nat.mul_le_mul_right z' (by omega)
                        rw [Nat.add_mul] at hmul
                        have hdl : ds.length = n' := by rw [g5]; simp; omega
                        refine ⟨_, _, arr, ty, fz, rfl, k2, k1, by omega, ?_⟩
                        intro j d hj
                        rw [g5, List.drop_zero, List.getElem?_take] at hj
                        split at hj
                        · exact k6 n j row d g3 hj
                        · cases hj
                · cases hm
              · cases hx
            · cases hx
          · rename_i hel
            rw [hel] at hm
            simp only at hm
            cases hm
        · cases hx
    · cases hx

theorem s_stridx {t : Nat} {y i : Operand} (ho : o.op = .index t y i) (h : St A w μ φ (tmO a.tmps g) C) (hs : sm1 y = true) (hsi : sm1 i = true) (hx : pureX V.τ φ o.op o.type = some x)
    (hr : (rdO μ y && rdO μ i) = true) : PureOk V w C φ (tmO a.tmps g) a o x scM := by
  rw [ho] at hx
  simp only [pureX] at hx
  simp only [Bool.and_eq_true] at hr
  unfold strIndexX at hx
  split at hx
  · rename_i s o1 n e1 hn
    obtain ⟨k, hi⟩ := int_sound h hsi hr.2 hn
    have hv := (val_sound (τ := V.τ) (ty := t) h hs hr.1 (by rw [e1]; rfl)).1
    split at hx
    · rename_i h0
      split at hx
      · rename_i e b he hb
        split at hx
        · rename_i hk; cases hx
          obtain ⟨d, hu, _, _, _, _, _, hd, _⟩ := Env.desc (V := V) he
          have := hd hk; subst this
          refine scalar_ok ?_ rfl
          simp only [execOp, ho, hv, hi]
          refine exec_value ?_
          have hb' : s[n.toNat]? = some b := by
            obtain ⟨q1, q2⟩ := List.getElem?_eq_some_iff.1 hb
            have hlt : n.toNat < s.size := by simpa using q1
            rw [getElem?_pos s _ hlt, ← q2]
            rfl
          simp [Instr.index, asIntOf, run_underlying hu, h0, hb']
        · cases hx
      · cases hx
    · cases hx
  · cases hx

theorem s_extract {t i : Nat} (ho : o.op = .extract (.tmp t) i) (h : St A w μ φ (tmO a.tmps g) C) (ht : t < 1000) (hx : pureX V.τ φ o.op o.type = some x) (hm : pureM V.τ [] μ o.op = some sm) : PureOk V w C φ (tmO a.tmps g) a o x sm := by
  rw [ho] at hx hm
  simp only [pureX] at hx
  simp only [pureM] at hm
  split at hx
  · rename_i b n hφ
    split at hx
    · rename_i hcond
      obtain ⟨hin, hn8⟩ := hcond
      have hc := (h.slot t).resolve_left (by rw [hφ]; simp)
      split at hm
      · rename_i b' n' hμ
        unfold Claim at hc
        rw [hμ, hφ] at hc
        obtain ⟨e1, _, vs, e2, e3, e4⟩ := hc
        cases e1
        rw [if_pos hin] at hm
        cases hm
        have hcx : x = cpX (cix b i) (φ (cix b i)) ∧ x ≠ .u := by
          split at hx
          · cases hx
          · rename_i y hy _; cases hx; exact ⟨rfl, by assumption⟩
        obtain ⟨rfl, hxu⟩ := hcx
        have hcu : φ (cix b i) ≠ .u := by intro e; rw [e] at hxu; exact hxu rfl
        have hcc := (h.slot (cix b i)).resolve_left hcu
        refine .inl ⟨tmO a.tmps g (cix b i), ?_, cpM_noOwn _ _, fun _ => cpM_sound rfl hcc⟩
        rw [tmO_eval ht] at e2
        simp only [execOp, ho]
        rw [e2]
        refine exec_value ?_
        have hi : i < vs.size := by omega
        have : vs[i] = tmO a.tmps g (cix b i) := by rw [← e4 i hin]; simp [Array.getD, hi]
        simp [Instr.extract, hi, this]
      · cases hm
    · cases hx
  · cases hx

theorem s_len {y : Operand} {t : Nat} {c : Call} (ho : o.op = .call c) (hb : c.callee = .builtin .len) (hargs : c.args.toList = [y]) (htypes : c.argTypes.toList = [t]) (h : St A w μ φ (tmO a.tmps g) C) (hs : sm1 y = true)
    (hx : lenX V.τ t (opX V.τ φ t y) = some x) (hr : rdO μ y = true) : PureOk V w C φ (tmO a.tmps g) a o x scM := by
  have hex : ∀ r, (Builtin.len_ #[t] o.type #[a.eval y]).run V.P w = .ok r w → (execOp a.eval o).run V.P w = .ok (.value r) w := by
    intro r hr
    have e1 : c.args = #[y] := by rw [← Array.toArray_toList (xs := c.args), hargs]
    have e2 : c.argTypes = #[t] := by rw [← Array.toArray_toList (xs := c.argTypes), htypes]
    simp only [execOp, ho, resolve, hb]
    simp [invoke, builtin, e1, e2, hr]
  unfold lenX at hx
  split at hx
  · rename_i e he
    split at hx
    · rename_i s o1 e1
      split at hx
      · rename_i hk; cases hx
        refine scalar_ok (hex _ ?_) rfl
        obtain ⟨d, hu, _, _, _, _, _, hd, _⟩ := Env.desc (V := V) he
        have := hd hk; subst this
        rw [(val_sound (τ := V.τ) (ty := t) h hs hr (by rw [e1]; rfl)).1]
        simp [Builtin.len_, Sem.run_bind, run_underlying hu, goInt]
      · cases hx
    · rename_i z rows o1 e1
      split at hx
      · rename_i hel; cases hx
        obtain ⟨el, hel⟩ := Option.isSome_iff_exists.1 hel
        refine scalar_ok (hex _ ?_) rfl
        have hc := op_sound (τ := V.τ) (ty := t) (s := 0) h hs (by rw [e1]; simp)
        rw [e1] at hc
        unfold rdO at hr
        generalize opM μ y = m at hc hr
        cases m with
        | c m og =>
          obtain ⟨d, o2, q1, q2, q3⟩ := hc
          cases q1
          obtain ⟨ad, c', hv⟩ := rep_sl q2 hr
          rw [hv]
          exact len_slice he hel
        | agg ms og => obtain ⟨_, _, _, q1, _⟩ := hc; cases q1
        | _ => cases hr
      · cases hx
    · cases hx
  · cases hx

theorem s_mm {mx : Bool} {y z : Operand} {c : Call} (ho : o.op = .call c) (hb : c.callee = .builtin (if mx then .max else .min)) (hargs : c.args.toList = [y, z]) (h : St A w μ φ (tmO a.tmps g) C) (h1 : sm1 y = true) (h2 : sm1 z = true)
    (hx : mmX mx [opX V.τ φ 0 y, opX V.τ φ 0 z] = some x) (hr : (rdO μ y && rdO μ z) = true) : PureOk V w C φ (tmO a.tmps g) a o x scM := by
  simp only [Bool.and_eq_true] at hr
  have e1 : c.args = #[y, z] := by rw [← Array.toArray_toList (xs := c.args), hargs]
  unfold mmX at hx
  split at hx
  · rename_i k n o1 k' n' o2 hl
    simp only [List.cons.injEq, and_true] at hl
    obtain ⟨q1, q2⟩ := hl
    have v1 := (val_sound (τ := V.τ) (ty := 0) h h1 hr.1 (by rw [q1]; rfl)).1
    have v2 := (val_sound (τ := V.τ) (ty := 0) h h2 hr.2 (by rw [q2]; rfl)).1
    split at hx
    · rename_i hk; subst hk
      cases hx
      refine scalar_ok ?_ rfl
      cases mx with
      | true =>
        simp only [execOp, ho, resolve, hb]
        simp [invoke, builtin, e1, v1, v2, run_max_int2]
      | false =>
        simp only [execOp, ho, resolve, hb]
        simp [invoke, builtin, e1, v1, v2, run_min_int2]
    · cases hx
  · cases hx
end
end Go.Ev

/- Functions made, slices made, slices of slices, conversions. -/
namespace Go.Ev

theorem madeCells_rep {z : Array Value} {n k : Nat} (hz : z.size = k) : (madeCells z (n * k)).toList = (List.replicate n z.toList).flatten := by
  have key : ∀ (n : Nat) (j : Nat), (List.replicate n z.toList).flatten[j]? = if j < n * k then z.toList[j % k]? else none := by
    intro n
    induction n with
    | zero => intro j; simp
    | succ n ih =>
      intro j
      rw [List.replicate_succ, List.flatten_cons, List.getElem?_append]
      have hl : z.toList.length = k := by simpa using hz
      rw [hl]
      by_cases hj : j < k
      · have : j < (n + 1) * k := by rw [Nat.add_mul]; omega
        rw [if_pos hj, if_pos this, Nat.mod_eq_of_lt hj]
      · rw [if_neg hj, ih]
        by_cases hk : k = 0
        · subst hk; simp
        · have e : (j - k) % k = j % k := (Nat.mod_eq_sub_mod (by omega)).symm
          rw [e]
          have : j - k < n * k ↔ j < (n + 1) * k := by rw [Nat.add_mul]; omega
          simp only [this]
  apply List.ext_getElem?
  intro j
  rw [key]
  by_cases hj : j < n * k
  · rw [if_pos hj]
    have hk : 0 < k := by
      rcases Nat.eq_zero_or_pos k with h | h
      · subst h; simp at hj
      · exact h
    have hlt : j % k < z.size := by rw [hz]; exact Nat.mod_lt _ hk
    simp [madeCells, hj, hz]
    rw [getElem?_pos z (j % k) hlt]
    simp [getElem!_pos, hlt]
  · rw [if_neg hj]
    simp [madeCells, hj]


theorem bounds_run {P : Program} {w : World} {isS : Bool} {len cap l h m : Nat} {lo hi mx : Option Value}
    (h1 : (lo = none ∧ l = 0) ∨ ∃ k, lo = some (.int k l)) (h2 : (hi = none ∧ h = len ∧ mx = none) ∨ ∃ k, hi = some (.int k h)) (h3 : (mx = none ∧ m = cap) ∨ ∃ k, mx = some (.int k m))
    (hlh : l ≤ h) (hhm : h ≤ m) (hmc : m ≤ cap) : (Instr.sliceBounds isS len cap lo hi mx).run P w = .ok (l, h, m) w := by
  have b1 : ∀ (k : IntKind) (i y : Nat) (code : BoundsCode), i ≤ y → (Instr.sliceBound (.int k i) y code).run P w = .ok i w := by
    intro k i y code hi
    have := run_sliceBound (P := P) w k (i : Int) y code (by omega) (by omega)
    simpa using this
  rcases h1 with ⟨rfl, rfl⟩ | ⟨k1, rfl⟩ <;> rcases h3 with ⟨rfl, rfl⟩ | ⟨k3, rfl⟩ <;> rcases h2 with ⟨rfl, rfl, h4⟩ | ⟨k2, rfl⟩ <;> first
    | (cases h4; done)
    | simp [Instr.sliceBounds, b1, hlh, hhm, hmc]

theorem rep_le0 {w : World} {C : Cx} {p : Pl} {z : ZC} {m : M} {d : D} {v : Value} (hle : leM (zeroM z) m = true) (h : Rep w C p (zeroM z) d v) : Rep w C p m d v := by
  unfold zeroM at hle h
  split at hle
  · rename_i hf
    rw [if_pos hf] at h
    cases m with
    | u => exact .u
    | view ps =>
      cases h with
      | view h => exact .view (h.mono fun b hb => ⟨okB_mono (by simp) hb, rfl⟩)
    | _ => simp [leM] at hle
  · rename_i hf
    rw [if_neg hf] at h
    obtain ⟨z', rfl, rfl⟩ := rep_emp h
    cases m with
    | u => exact .u
    | emp => exact .emp
    | view ps => exact .view .nil
    | own cs => exact .nil

theorem leL_at : ∀ {as bs : List M} {j : Nat} {b : M}, leL as bs = true → bs[j]? = some b → ∃ a, as[j]? = some a ∧ leM a b = true
  | [], [], j, b, _, h => by simp at h
  | [], _ :: _, j, b, h, _ => by simp [leL] at h
  | _ :: _, [], j, b, h, _ => by simp [leL] at h
  | a :: as, b0 :: bs, j, b, h, hb => by
    simp only [leL, Bool.and_eq_true] at h
    cases j with
    | zero => simp only [List.getElem?_cons_zero, Option.some.injEq] at hb; subst hb; exact ⟨a, rfl, h.1⟩
    | succ j => simp only [List.getElem?_cons_succ] at hb ⊢; exact leL_at h.2 hb

theorem leL_len : ∀ {as bs : List M}, leL as bs = true → as.length = bs.length
  | [], [], _ => rfl
  | [], _ :: _, h => by simp [leL] at h
  | _ :: _, [], h => by simp [leL] at h
  | _ :: as, _ :: bs, h => by simp only [leL, Bool.and_eq_true] at h; simp [leL_len h.2]

section
variable {V : Env} {A : Start} {w : World} {μ : Mu} {φ : Fr} {C : Cx} {a : Act} {g : Nat → Value} {o : Oper} {x : X} {sm : SM}

theorem caps_sound (h : St A w μ φ (tmO a.tmps g) C) : ∀ {cs : List Operand} {l l' : List Nat}, cs.all sm1 = true → capSlots φ cs = some l → capM μ cs = some l' → l' = l ∧ cs.map a.eval = l.map (tmO a.tmps g)
  | [], l, l', _, h1, h2 => by
    simp only [capSlots, capM, Option.some.injEq] at h1 h2
    subst h1; subst h2
    exact ⟨rfl, rfl⟩
  | .tmp t :: xs, l, l', hs, h1, h2 => by
    simp only [List.all_cons, Bool.and_eq_true] at hs
    simp only [capSlots] at h1
    simp only [capM] at h2
    split at h1
    · rename_i r1 _ e1
      split at h2
      · rename_i r2 _ e2
        cases h1; cases h2
        obtain ⟨q1, q2⟩ := caps_sound h hs.2 e1 e2
        subst q1
        exact ⟨rfl, by simp only [List.map_cons, q2]; rw [tmO_eval (by simpa [sm1] using hs.1)]⟩
      · cases h2
    · cases h1
  | .const v :: xs, l, l', _, h1, _ => by simp [capSlots] at h1
  | .func v :: xs, l, l', _, h1, _ => by simp [capSlots] at h1
  | .global v :: xs, l, l', _, h1, _ => by simp [capSlots] at h1

theorem s_func {f : Nat} {fs cs : Array Operand} (ho : o.op = .makeFunc (.func f) fs cs) (h : St A w μ φ (tmO a.tmps g) C) (hs : cs.toList.all sm1 = true) (hx : pureX V.τ φ o.op o.type = some x) (hm : pureM V.τ [] μ o.op = some sm) :
    PureOk V w C φ (tmO a.tmps g) a o x sm := by
  rw [ho] at hx hm
  simp only [pureX] at hx
  simp only [pureM, Option.map_eq_some_iff] at hm
  obtain ⟨l', hl', rfl⟩ := hm
  split at hx
  · rename_i hfs
    rw [Option.map_eq_some_iff] at hx
    obtain ⟨l, hl, rfl⟩ := hx
    obtain ⟨q1, q2⟩ := caps_sound h hs hl hl'
    subst q1
    have hfe : fs = #[] := Array.eq_empty_of_size_eq_zero hfs
    subst hfe
    have e : cs.map a.eval = (l'.map (tmO a.tmps g)).toArray := by
      rw [← q2]
      apply Array.ext'
      simp
    refine .inl ⟨.func (.func f) #[] (l'.map (tmO a.tmps g)).toArray, ?_, rfl, fun _ => ⟨rfl, rfl⟩⟩
    simp only [execOp, ho]
    refine exec_value ?_
    simp [Instr.makeFunc, e]
  · cases hx

theorem s_make {t : Nat} {y y' : Operand} {cols : List M} (ho : o.op = .makeSlice t y y') (h : St A w μ φ (tmO a.tmps g) C) (h1 : sm1 y = true) (h2 : sm1 y' = true) (hx : pureX V.τ φ o.op o.type = some x) (hm : pureM V.τ cols μ o.op = some sm) :
    PureOk V w C φ (tmO a.tmps g) a o x sm := by
  rw [ho] at hx hm
  simp only [pureX] at hx
  simp only [pureM] at hm
  split at hx
  · rename_i n n' hn hn'
    split at hx
    · rename_i hnn
      subst hnn
      unfold makeX at hx
      split at hx
      · rename_i e he
        rw [he] at hm
        simp only at hm
        split at hx
        · rename_i et z yb hel
          rw [hel] at hm
          simp only at hm
          split at hx
          · rename_i ee hee
            rw [hee] at hm
            simp only at hm
            split at hx
            · rename_i hcond; cases hx
              obtain ⟨hfit, hzl, hz0, hn0, hroom, hroom2⟩ := hcond
              split at hm
              · rename_i hmc
                cases hm
                simp only [Bool.and_eq_true] at hmc
                obtain ⟨⟨⟨hr1, hr2⟩, hle⟩, _⟩ := hmc
                obtain ⟨k1, e1⟩ := int_sound h h1 hr1 hn
                obtain ⟨k2, e2⟩ := int_sound h h2 hr2 hn'
                obtain ⟨d, hu, _, _, _, hsl, _⟩ := Env.desc (V := V) he
                obtain ⟨rfl, i, hi, hz, hb⟩ := hsl _ _ _ hel
                obtain ⟨i', v, hi', hs', hzv, hzs⟩ := Env.info (V := V) hee
                rw [hi] at hi'; cases hi'
                have hvl : v.cells.size = z := by have := zero_len hzs; simp at this; omega
                have hrun := run_make (P := V.P) w t et i v hu hi hzv k1 k2 n n hn0 (Int.le_refl _) (by rw [hb]; exact hroom) (by omega)
                have hcl : cols.length = z := by have := leL_len hle; simp at this; omega
                obtain ⟨n, rfl⟩ : ∃ m : Nat, n = m := ⟨n.toNat, by omega⟩
                simp only [Int.toNat_natCast] at hrun ⊢
                rw [hz] at hrun
                have hsz : (w.alloc (.cells (madeCells v.cells (n * z)) et)).heap = w.heap.push (.cells (madeCells v.cells (n * z)) et) := rfl
                right
                refine ⟨.slice (some ⟨w.heap.size, 0, none⟩) n n, w.alloc (.cells (madeCells v.cells (n * z)) et), ?_, alloc_ext, ?_⟩
                · simp only [execOp, ho, e1, e2]
                  exact exec_value hrun
                · intro d
                  refine ⟨newOne w.heap.size d ⟨⟨d, []⟩, 0, n, z⟩, newOne_ok (by rw [hsz]; simp), newOne_own (arr := madeCells v.cells (n * z)) (ty := et) (by rw [hsz]; simp) (by rw [size_madeCells]; simp), ?_⟩
                  intro C' φ' tm' hN _
                  refine ⟨_, none, rfl, ?_, fun _ => rfl⟩
                  have hlen : (List.replicate n (ee.zero.map ZC.d)).length = n := by simp
                  have hsize : (madeCells v.cells (n * z)).size = n * z := size_madeCells _ _
                  rw [show Value.slice (some ⟨w.heap.size, 0, none⟩) n n = Value.slice (some ⟨w.heap.size, 0, none⟩) (List.replicate n (ee.zero.map ZC.d)).length n by rw [hlen]]
                  refine .own (arr := madeCells v.cells (n * z)) (ty := et) (hN _ _ (Nat.le_refl _) (by simp [newOne])) (by rw [hsz]; simp) (by simp) (by omega) hcl hz0 ?_ ?_
                  · intro row hrow
                    rw [List.mem_replicate] at hrow
                    rw [hrow.2]; simp [hzl]
                  · intro i' j row d' m q1 q2 q3
                    rw [List.getElem?_replicate] at q1
                    split at q1
                    · rename_i hin
                      cases q1
                      rw [List.getElem?_map, Option.map_eq_some_iff] at q2
                      obtain ⟨zc, hz1, rfl⟩ := q2
                      obtain ⟨m0, hm0, hlem⟩ := leL_at hle q3
                      rw [List.getElem?_map, hz1] at hm0
                      cases hm0
                      obtain ⟨u, hu', his⟩ := zeros_at hzs hz1
                      have hf := fits_at hfit hz1 (by rw [List.getElem?_map, hz1]; rfl)
                      have hjz : j < z := by have := (List.getElem?_eq_some_iff.1 hz1).1; omega
                      have hlt : i' * z + j < n * z := by
                        have := Nat.mul_le_mul_right z (Nat.succ_le_of_lt hin)
                        rw [Nat.succ_mul] at this
                        omega
                      have hval : (madeCells v.cells (n * z)).getD (0 + i' * z + j) undef = u := by
                        rw [Array.getElem?_toList] at hu'
                        have hj2 : (i' * z + j) % z = j := by rw [Nat.mul_comm, Nat.mul_add_mod, Nat.mod_eq_of_lt hjz]
                        have : (madeCells v.cells (n * z))[i' * z + j]? = some v.cells[j]! := by
                          simp [madeCells, hlt, hvl, hj2]
                        rw [Nat.zero_add, Array.getD_eq_getD_getElem?, this]
                        have hj3 : j < v.cells.size := by omega
                        rw [Array.getElem?_eq_getElem hj3] at hu'
                        cases hu'
                        simp [hj3]
                      rw [hval]
                      exact rep_le0 hlem (zero_rep his hf)
                    · cases q1
              · cases hm
            · cases hx
          · cases hx
        · cases hx
      · cases hx
    · cases hx
  · cases hx

theorem bound_op {d : Nat} {lo : Option Operand} {l : Nat} (h : St A w μ φ (tmO a.tmps g) C) (hs : lo.all sm1 = true) (hr : lo.all (rdO μ) = true) (hb : bound d (lo.map (opX V.τ φ 0)) = some l) :
    (lo.map a.eval = none ∧ l = d) ∨ ∃ k, lo.map a.eval = some (.int k l) := by
  cases lo with
  | none => simp only [Option.map_none, bound, Option.some.injEq] at hb; exact .inl ⟨rfl, hb.symm⟩
  | some y =>
    simp only [Option.all_some] at hs hr
    simp only [Option.map_some, bound] at hb
    split at hb
    · rename_i n hn
      split at hb
      · cases hb
        obtain ⟨k, e⟩ := int_sound h hs hr hn
        right
        refine ⟨k, ?_⟩
        simp only [Option.map_some, e]
        congr 2
        omega
      · cases hb
    · cases hb

theorem s_slice {t : Nat} {y : Operand} {lo hi mx : Option Operand} (ho : o.op = .slice t y lo hi mx) (h : St A w μ φ (tmO a.tmps g) C) (h1 : sm1 y = true) (h2 : lo.all sm1 = true) (h3 : hi.all sm1 = true) (h4 : mx.all sm1 = true)
    (hx : pureX V.τ φ o.op o.type = some x) (hm : pureM V.τ [] μ o.op = some sm) : PureOk V w C φ (tmO a.tmps g) a o x sm := by
  rw [ho] at hx hm
  simp only [pureX] at hx
  simp only [pureM] at hm
  split at hm
  · rename_i hrd
    simp only [Bool.and_eq_true] at hrd
    obtain ⟨⟨r1, r2⟩, r3⟩ := hrd
    split at hm
    · rename_i m og hop
      split at hm
      · rename_i hmr
        cases hm
        unfold sliceX at hx
        split at hx
        · rename_i s o1 e1
          split at hx
          · rename_i e he
            split at hx
            · rename_i hk
              obtain ⟨d, hu, _, _, _, _, _, hd, _⟩ := Env.desc (V := V) he
              have := hd hk; subst this
              split at hx
              · rename_i l hh hl hhh hmx
                split at hx
                · rename_i hle; cases hx
                  have b1 := bound_op h h2 r1 hl
                  have b2 := bound_op h h3 r2 hhh
                  have hmn : mx = none := by cases mx with
                    | none => rfl
                    | some y => cases hmx
                  subst hmn
                  have hv := (val_sound (τ := V.τ) (ty := t) (x := y) h h1 (by unfold rdO; rw [hop]; exact hmr) (by rw [e1]; rfl)).1
                  have hno : m.noOwn = true := by have := opM_noOwn μ y; rw [hop] at this; exact this
                  have hb := bounds_run (P := V.P) (w := w) (isS := false) (len := s.size) (cap := s.size) (mx := none) (m := s.size) b1 (b2.imp (fun q => ⟨q.1, q.2, rfl⟩) id) (.inl ⟨rfl, rfl⟩) hle.1 hle.2 (Nat.le_refl _)
                  refine .inl ⟨.string (s.extract l hh), ?_, hno, fun p => ⟨.v (.string (s.extract l hh)), none, rfl, ?_, fun h => by cases h⟩⟩
                  · simp only [execOp, ho, hv]
                    refine exec_value ?_
                    simp [Instr.sliceAt, Instr.slice, run_underlying hu, hb]
                  · cases m with
                    | u => exact .u
                    | view ps => exact .view (.v rfl)
                    | emp =>
                      exfalso
                      have hc := op_sound (τ := V.τ) (ty := t) (s := 0) h h1 (by rw [e1]; simp)
                      rw [e1, hop] at hc
                      obtain ⟨d, _, q1, q2, _⟩ := hc
                      cases q1
                      obtain ⟨_, q3, _⟩ := rep_emp q2
                      cases q3
                    | own cs => cases hno
                · cases hx
              · cases hx
            · cases hx
          · cases hx
        · rename_i z rows o1 e1
          split at hx
          · rename_i hcz
            obtain ⟨hz, hz0⟩ := hcz
            have hel : ∃ e et yb, V.get t = some e ∧ e.el = some (et, z, yb) := by
              unfold elz at hz
              split at hz
              · rename_i e he
                split at hz
                · rename_i et z' yb hel; subst hz; exact ⟨e, et, yb, he, hel⟩
                · omega
              · omega
            obtain ⟨e, et, yb, he, hel⟩ := hel
            obtain ⟨d, hu, _, _, _, hsl, _⟩ := Env.desc (V := V) he
            obtain ⟨rfl, i, hi', hiz, _⟩ := hsl _ _ _ hel
            have hno : m.noOwn = true := by have := opM_noOwn μ y; rw [hop] at this; exact this
            have hc := op_sound (τ := V.τ) (ty := t) (s := 0) h h1 (by rw [e1]; simp)
            rw [e1, hop] at hc
            obtain ⟨d, _, q1, q2, _⟩ := hc
            cases q1
            obtain ⟨ad, c, hv⟩ := rep_sl q2 hmr
            have hcap : rows.length ≤ c := by
              generalize a.eval y = av at hv q2
              subst hv
              cases q2 with
              | u => cases hmr
              | emp => simp
              | view q2 => cases q2 with
                | nil => simp
                | sl k1 k2 k3 k4 k5 k6 => exact k3
              | nil => simp
              | own k1 k2 k3 k4 k5 k6 k7 k8 => exact k3
            split at hx
            · rename_i l hh hl hhh
              have b1 := bound_op h h2 r1 hl
              have b2 := bound_op h h3 r2 hhh
              have key : ∀ mm, l ≤ hh → hh ≤ rows.length → hh ≤ mm → mm ≤ c → (Instr.sliceBounds true rows.length c (lo.map a.eval) (hi.map a.eval) (mx.map a.eval)).run V.P w = .ok (l, hh, mm) w →
                  PureOk V w C φ (tmO a.tmps g) a o (.d (.sl z ((rows.take hh).drop l)) none) (.c m .no) := by
                intro mm g1 g2 g3 g4 g5
                have hlen : ((rows.take hh).drop l).length = hh - l := by simp; omega
                refine .inl ⟨.slice (if mm = l then ad else ad.map (·.add (l * z))) (hh - l) (mm - l), ?_, hno, fun p => ⟨_, none, rfl, ?_, fun _ => rfl⟩⟩
                · simp only [execOp, ho, hv]
                  refine exec_value ?_
                  simp [Instr.sliceAt, Instr.slice, run_underlying hu, g5, sizeOf, typeInfo, hi', hiz]
                · rw [hv] at q2
                  have hrd : ∀ (ps : List Pv), Rd w (okB C ps) (.sl z rows) (.slice ad rows.length c) → Rd w (okB C ps) (.sl z ((rows.take hh).drop l)) (.slice (if mm = l then ad else ad.map (·.add (l * z))) (hh - l) (mm - l)) := by
                    intro ps hr
                    by_cases e0 : hh - l = 0
                    · have : (rows.take hh).drop l = [] := List.length_eq_zero_iff.1 (by omega)
                      rw [this, e0]
                      exact .nil
                    · have hml : mm ≠ l := by omega
                      rw [if_neg hml]
                      generalize hrl : rows.length = n at hr
                      cases hr with
                      | nil => simp only [List.length_nil] at g2; omega
                      | @sl _ _ b off _ arr ty fz k1 k2 k3 k4 k5 k6 =>
                        simp only [Option.map_some, addr_add]
                        rw [← hlen]
                        have hmul : rows.length * z = (rows.length - hh) * z + (hh - l) * z + l * z := by
                          rw [← Nat.add_mul, ← Nat.add_mul]
                          congr 1
                          omega
                        refine .sl (arr := arr) (ty := ty) (fz := fz) k1 k2 (by omega) (by rw [hlen]; omega) ?_ ?_
                        · intro row hrow
                          exact k5 row (List.mem_of_mem_take (List.mem_of_mem_drop hrow))
                        · intro i' j row d' p1 p2
                          rw [List.getElem?_drop, List.getElem?_take] at p1
                          split at p1
                          · have := k6 (l + i') j row d' p1 p2
                            rw [Nat.add_mul, ← Nat.add_assoc] at this
                            exact this
                          · cases p1
                  cases m with
                  | u => exact .u
                  | view ps => cases q2 with
                    | view q2 => exact .view (hrd ps q2)
                  | emp =>
                    obtain ⟨z', q3, q4⟩ := rep_emp q2
                    cases q3
                    cases q4
                    have : hh = 0 := by simpa using g2
                    subst this
                    have : mm = 0 := by omega
                    subst this
                    have : l = 0 := by omega
                    subst this
                    exact .emp
                  | own cs => cases hno
              split at hx
              · rename_i hmx
                have hmn : mx = none := by cases mx with
                  | none => rfl
                  | some y => cases hmx
                split at hx
                · rename_i hcond; cases hx
                  refine key c hcond.1 hcond.2 (by omega) (Nat.le_refl _) ?_
                  subst hmn
                  exact bounds_run b1 (b2.imp (fun q => ⟨q.1, q.2, rfl⟩) id) (.inl ⟨rfl, rfl⟩) hcond.1 (by omega) (Nat.le_refl _)
                · cases hx
              · rename_i mo hmx
                split at hx
                · rename_i hcond; cases hx
                  obtain ⟨c1, c2, c3, c4⟩ := hcond
                  refine key hh c3 c4 (Nat.le_refl _) (by omega) ?_
                  cases mx with
                  | none => cases hmx
                  | some ym =>
                    simp only [Option.map_some, Option.some.injEq] at hmx
                    subst hmx
                    simp only [Option.all_some] at h4 r3
                    obtain ⟨k, ek⟩ := int_sound h h4 r3 c2
                    refine bounds_run b1 (.inr ?_) (.inr ⟨k, by simp [ek]⟩) c3 (Nat.le_refl _) (by omega)
                    rcases b2 with ⟨q1, _⟩ | b2
                    · cases hi <;> simp_all
                    · exact b2
                · cases hx
            · cases hx
          · cases hx
        · cases hx
      · cases hm
    · cases hm
  · cases hm
end
end Go.Ev

/- Conversions; all operations that leave nothing but their result. -/
namespace Go.Ev

theorem bytesOf_rows : ∀ {rows : List (List D)} {l : List UInt8}, bytesOf rows = some l → ∃ xs : List Int, rows = xs.map (fun n => [D.v (.int .u8 n)]) ∧ l = xs.map fun n => UInt8.ofNat n.toNat
  | [], l, h => by simp only [bytesOf, Option.some.injEq] at h; subst h; exact ⟨[], rfl, rfl⟩
  | row :: rs, l, h => by
    unfold bytesOf at h
    split at h
    · rename_i e; cases e
    · rename_i n rs' e
      cases e
      rw [Option.map_eq_some_iff] at h
      obtain ⟨l', h1, rfl⟩ := h
      obtain ⟨xs, rfl, rfl⟩ := bytesOf_rows h1
      exact ⟨n :: xs, rfl, rfl⟩
    · cases h

section
variable {V : Env} {A : Start} {w : World} {μ : Mu} {φ : Fr} {C : Cx} {a : Act} {g : Nat → Value} {o : Oper} {x : X} {sm : SM}

theorem s_conv {src dst : Nat} {y : Operand} (ho : o.op = .convert src dst y) (h : St A w μ φ (tmO a.tmps g) C) (hs : sm1 y = true) (hx : pureX V.τ φ o.op o.type = some x) (hm : pureM V.τ [] μ o.op = some sm) :
    PureOk V w C φ (tmO a.tmps g) a o x sm := by
  rw [ho] at hx hm
  simp only [pureX] at hx
  simp only [pureM] at hm
  split at hm
  · rename_i hr
    unfold convX at hx
    split at hx
    · rename_i es ed hes hed
      rw [hed] at hm
      simp only at hm
      split at hm
      · rename_i hok
        cases hm
        have hsu : ∃ du, V.P.underlying src = some du := by
          obtain ⟨d, hu, _⟩ := Env.desc (V := V) hes
          exact ⟨d, hu⟩
        obtain ⟨du, hsu⟩ := hsu
        split at hx
        · rename_i k k' n o1 hz e1
          split at hx
          · cases hx
          · rename_i hag; cases hx
            have hd := Env.int_of (V := V) hed hz (by simpa using hag)
            have hv := (val_sound (τ := V.τ) (ty := src) h hs hr (by rw [e1]; rfl)).1
            refine scalar_ok ?_ rfl
            simp only [execOp, ho, hv]
            refine exec_value ?_
            simp [convert, run_underlying hsu, run_underlying hd, Conv.intToInt]
        · rename_i s o1 hz e1
          split at hx
          · cases hx
          · rename_i hag; cases hx
            have hd := Env.str_of (V := V) hed hz (by simpa using hag)
            have hv := (val_sound (τ := V.τ) (ty := src) h hs hr (by rw [e1]; rfl)).1
            refine scalar_ok ?_ rfl
            simp only [execOp, ho, hv]
            refine exec_value ?_
            simp [convert, run_underlying hsu, run_underlying hd]
        · rename_i rows o1 hz e1
          split at hx
          · cases hx
          · rename_i hag
            simp only [Bool.or_eq_true, not_or, Bool.not_eq_true] at hag
            obtain ⟨hag, hele⟩ := hag
            rw [Option.map_eq_some_iff] at hx
            obtain ⟨l, hl, rfl⟩ := hx
            have hd := Env.str_of (V := V) hed hz (by simpa using hag)
            have hc := op_sound (τ := V.τ) (ty := src) (s := 0) h hs (by rw [e1]; simp)
            rw [e1] at hc
            have hn := opM_noOwn μ y
            unfold rdO at hr
            generalize opM μ y = m at hc hr hn
            cases m with
            | c m og =>
              obtain ⟨d, o2, q1, q2, q3⟩ := hc
              cases q1
              obtain ⟨xs, rfl, rfl⟩ := bytesOf_rows hl
              unfold convOk at hok
              rw [hz] at hok
              simp only [hes] at hok
              split at hok
              · rename_i et z yb hel
                split at hok
                · rename_i ee hee
                  simp only [Bool.and_eq_true, beq_iff_eq, Bool.not_eq_true'] at hok
                  obtain ⟨d', hu, _, _, _, hsl, _⟩ := Env.desc (V := V) hes
                  obtain ⟨rfl, _⟩ := hsl _ _ _ hel
                  have heu := Env.int_of (V := V) hee hok.1 hok.2
                  refine scalar_ok ?_ rfl
                  simp only [execOp, ho]
                  refine exec_value ?_
                  have key : ∀ v, Rep w C ⟨0, []⟩ m (.sl 1 (xs.map fun n => [D.v (.int .u8 n)])) v → (convert src dst v).run V.P w = .ok (.string (strOfNums xs)) w := by
                    intro v hrep
                    have hnil : ∀ (ad : Option Addr) (c : Nat), (convert src dst (.slice ad 0 c)).run V.P w = .ok (.string ByteArray.empty) w := by
                      intro ad c
                      rw [run_convert_bytes_string w src dst et ad 0 c hu heu hd]
                      cases ad with
                      | none => rfl
                      | some ad => exact run_bytesToString w ad 0 c [] rfl
                    have hrd : ∀ ok, Rd w ok (.sl 1 (xs.map fun n => [D.v (.int .u8 n)])) v → (convert src dst v).run V.P w = .ok (.string (strOfNums xs)) w := by
                      intro ok hrd
                      generalize hrows : xs.map (fun n => [D.v (.int .u8 n)]) = rows at hrd
                      cases hrd with
                      | nil =>
                        have : xs = [] := by simpa using hrows
                        subst this
                        exact hnil _ _
                      | @sl _ _ b off c arr ty fz k1 k2 k3 k4 k5 k6 =>
                        have hlen : xs.length = rows.length := by rw [← hrows]; simp
                        refine run_convert_bytes_arg w src et hu heu b off rows.length c xs hlen ?_ dst hd
                        intro i hi
                        rw [cell_of k2]
                        have hrow : rows[i]? = some [D.v (.int .u8 (xs.getD i 0))] := by
                          rw [← hrows, List.getElem?_map]
                          have : i < xs.length := by omega
                          simp [List.getD, this]
                        have := k6 i 0 _ _ hrow rfl
                        rw [Nat.mul_one, Nat.add_zero] at this
                        rw [Nat.mul_one] at k4
                        have hlt : off + i < arr.size := by omega
                        have hg : arr.getD (off + i) undef = .int .u8 (xs.getD i 0) := by
                          generalize arr.getD (off + i) undef = q at this
                          cases this; rfl
                        rw [Array.getElem?_eq_getElem hlt]
                        rw [Array.getD, dif_pos hlt] at hg
                        exact congrArg some hg
                    cases m with
                    | u => cases hr
                    | emp =>
                      obtain ⟨z', q3, rfl⟩ := rep_emp hrep
                      have : xs = [] := by
                        simp only [D.sl.injEq, List.map_eq_nil_iff] at q3
                        exact q3.2
                      subst this
                      exact hnil _ _
                    | view ps => cases hrep with
                      | view hrep => exact hrd _ hrep
                    | own cs => cases hn
                  exact key _ (by cases m with
                    | u => cases hr
                    | emp => obtain ⟨z', q3, q4⟩ := rep_emp q2; rw [q4, q3]; exact .emp
                    | view ps => cases q2 with
                      | view q2 => exact .view q2
                    | own cs => cases hn)
                · cases hok
              · rename_i hel
                rw [hel] at hele
                cases hele
            | agg ms og => obtain ⟨_, _, _, q1, _⟩ := hc; cases q1
            | _ => cases hr
        · rename_i s o1 hz e1
          unfold convOk at hok
          rw [hz] at hok
          cases hok
        · cases hx
      · cases hm
    · cases hx
  · cases hm

end
end Go.Ev

/- What is owned goes to another place. -/
namespace Go.Ev

def strip : List (Nat × Nat) → List (Nat × Nat) → Option (List (Nat × Nat))
  | [], l => some l
  | a :: as, b :: bs => if a = b then strip as bs else none
  | _ :: _, [] => none

theorem strip_some : ∀ {a b q : List (Nat × Nat)}, strip a b = some q ↔ b = a ++ q
  | [], b, q => by simp [strip]
  | a :: as, [], q => by simp [strip]
  | a :: as, b :: bs, q => by
    simp only [strip]
    by_cases e : a = b
    · subst e; rw [if_pos rfl, strip_some]; simp
    · rw [if_neg e]; simp only [List.cons_append, List.cons.injEq, reduceCtorEq, false_iff]; rintro ⟨h, _⟩; exact e h.symm

def Pl.sub (p o : Pl) : Option (List (Nat × Nat)) := if o.s = p.s then strip p.st o.st else none

theorem sub_some {p o : Pl} {q : List (Nat × Nat)} : p.sub o = some q ↔ o = p.ext q := by
  unfold Pl.sub
  obtain ⟨ps, pst⟩ := p
  obtain ⟨os, ost⟩ := o
  simp only [Pl.ext, Pl.mk.injEq]
  by_cases e : os = ps
  · rw [if_pos e, strip_some]; simp [e]
  · rw [if_neg e]; simp [e]

def Cx.mv (C : Cx) (p p' : Pl) : Cx where
  own b := match C.own b with
    | some o => if isPre p.lab o.p.lab then (match p.sub o.p with
      | some q => some { o with p := p'.ext q }
      | none => none) else some o
    | none => none
  G b := C.G b ∨ ∃ o, C.own b = some o ∧ isPre p.lab o.p.lab = true ∧ p.sub o.p = none
  PA := C.PA

section
variable {C : Cx} {p p' : Pl}

theorem isPre_ext (p : Pl) (q : List (Nat × Nat)) : isPre p.lab (p.ext q).lab = true := by
  rw [isPre_iff, Pl.lab_ext]; exact List.prefix_append _ _

theorem mv_in {b : Nat} {q : List (Nat × Nat)} {off c z : Nat} (h : C.own b = some ⟨p.ext q, off, c, z⟩) : (C.mv p p').own b = some ⟨p'.ext q, off, c, z⟩ := by
  simp only [Cx.mv, h, isPre_ext, if_true]
  rw [sub_some.2 rfl]

theorem mv_out {b : Nat} {o : Ow} (h : C.own b = some o) (hl : isPre p.lab o.p.lab = false) : (C.mv p p').own b = some o := by
  simp [Cx.mv, h, hl]

theorem mv_inv {b : Nat} {o' : Ow} (h : (C.mv p p').own b = some o') : (∃ q, C.own b = some ⟨p.ext q, o'.off, o'.cap, o'.z⟩ ∧ o'.p = p'.ext q) ∨ (C.own b = some o' ∧ isPre p.lab o'.p.lab = false) := by
  simp only [Cx.mv] at h
  cases ho : C.own b with
  | none => rw [ho] at h; cases h
  | some o =>
    rw [ho] at h
    simp only at h
    split at h
    · split at h
      · rename_i q hq
        cases h
        left
        refine ⟨q, ?_, rfl⟩
        rw [← sub_some.1 hq]
      · cases h
    · rename_i hl; cases h; exact .inr ⟨rfl, by simpa using hl⟩

theorem prefix_comp {a b c : List Nat} (h1 : a <+: c) (h2 : b <+: c) : a <+: b ∨ b <+: a := List.prefix_or_prefix_of_prefix h1 h2

theorem mv_ok {ps : List Pv} {b : Nat} (h : okB C ps b) : okB (C.mv p p') (ps.flatMap (rnP p.lab p'.lab)) b := by
  rcases h with h | ⟨v, hv, h⟩
  · exact .inl (.inl h)
  · cases v with
    | arg i => exact .inr ⟨.arg i, List.mem_flatMap.2 ⟨_, hv, by simp [rnP]⟩, h⟩
    | lab q =>
      obtain ⟨o, ho, hq⟩ := h
      cases hl : isPre p.lab o.p.lab with
      | false =>
        right
        have hne : isPre p.lab q = false := by
          cases e : isPre p.lab q with
          | false => rfl
          | true => rw [isPre_iff] at e; rw [(isPre_iff.2 (e.trans hq))] at hl; cases hl
        refine ⟨.lab q, List.mem_flatMap.2 ⟨_, hv, ?_⟩, o, mv_out ho hl, hq⟩
        simp only [rnP, hne]
        split <;> first | contradiction | (split <;> simp)
      | true =>
        cases hs : p.sub o.p with
        | none => exact .inl (.inr ⟨o, ho, hl, hs⟩)
        | some r =>
          right
          have hop := sub_some.1 hs
          have hin : (C.mv p p').own b = some ⟨p'.ext r, o.off, o.cap, o.z⟩ := mv_in (by rw [ho, ← hop])
          rw [hop, Pl.lab_ext] at hq
          by_cases e : isPre p.lab q = true
          · have e' := isPre_iff.1 e
            obtain ⟨t, rfl⟩ := e'
            refine ⟨.lab (p'.lab ++ t), List.mem_flatMap.2 ⟨_, hv, ?_⟩, _, hin, ?_⟩
            · simp [rnP, e]
            · rw [Pl.lab_ext]
              obtain ⟨u, hu⟩ := hq
              rw [List.append_assoc] at hu
              have := List.append_cancel_left hu
              exact ⟨u, by rw [List.append_assoc, this]⟩
          · have e2 : isPre q p.lab = true := by
              rw [isPre_iff]
              rcases prefix_comp hq (List.prefix_append p.lab (r.map (·.2))) with h1 | h1
              · exact h1
              · exact (e (isPre_iff.2 h1)).elim
            refine ⟨.lab p'.lab, List.mem_flatMap.2 ⟨_, hv, ?_⟩, _, hin, ?_⟩
            · simp [rnP, e, e2]
            · rw [Pl.lab_ext]; exact List.prefix_append _ _
end

theorem ClaimX.dropL {w : World} {C : Cx} {φ : Fr} {tm : Nat → Value} {s : Nat} {l : List Nat} {x : X} {v : Value} {sm : SM} (h : ClaimX w C φ tm s x v sm) : ClaimX w C φ tm s x v (sm.dropL l) := by
  cases sm with
  | c m og =>
    obtain ⟨d, o, e1, e2, e3⟩ := h
    refine ⟨d, o, e1, e2, ?_⟩
    intro hsl
    have e3 := e3 hsl
    cases og with
    | «at» q cs => simp only [Og.dropL]; split <;> first | trivial | exact e3
    | ats q cs js => simp only [Og.dropL]; split <;> trivial
    | vw q => simp only [Og.dropL]; split <;> first | trivial | exact e3
    | no => exact e3
    | dead => trivial
  | agg ms og =>
    obtain ⟨ds, o, vs, e1, e2, e3, e4, e5, e6⟩ := h
    refine ⟨ds, o, vs, e1, e2, e3, e4, e5, ?_⟩
    cases og with
    | «at» q cs => simp only [Og.dropL]; split <;> trivial
    | ats q cs js => simp only [Og.dropL]; split <;> first | trivial | exact e6
    | vw q => simp only [Og.dropL]; split <;> trivial
    | no => exact e6
    | dead => trivial
  | pt q cs => simp only [SM.dropL]; split; trivial; exact h
  | pa q cs n => simp only [SM.dropL]; split; trivial; exact h
  | pv ps q => simp only [SM.dropL]; split; trivial; exact h
  | _ => exact h

/-- Of references that do not lead below a label: what they hang on stays, where all that is owned elsewhere does, and the frame is the same. -/
theorem refKeep_dropL {C C' : Cx} {φ : Fr} {tm : Nat → Value} {l : List Nat} (f : PF) (sm : SM)
    (ho : ∀ b o, C.own b = some o → isPre l o.p.lab = false → C'.own b = some o) : RefKeep C C' φ φ tm tm f (sm.dropL l) := by
  have hhd : ∀ (p : Pl) d v, isPre l p.lab = false → HdOk C φ p d v → HdOk C' φ p d v := by
    intro p d v hp h
    rcases h with h | ⟨b, off, c, z, rows0, rows, h0, h01, h1, h2, h3⟩
    · exact .inl h
    · exact .inr ⟨b, off, c, z, rows0, rows, h0, h01, h1, ho b _ h2 hp, h3⟩
  cases sm with
  | c m og =>
    cases og with
    | «at» s cs =>
      simp only [SM.dropL, Og.dropL]
      by_cases e : isPre l (s :: cs) = true
      · simp only [e, if_true]; trivial
      · have e' : isPre l (s :: cs) = false := by simpa using e
        simp only [e', if_false, Bool.false_eq_true]
        refine ⟨?_, fun _ => rfl⟩
        intro p hp hq
        refine ⟨fun d v => hhd p d v ?_, fun _ => rfl⟩
        rw [show p.lab = s :: cs by rw [Pl.lab, hp, hq]]; exact e'
    | vw s =>
      simp only [SM.dropL, Og.dropL]
      split
      · trivial
      · exact fun p _ _ => rfl
    | ats s cs js => simp only [SM.dropL, Og.dropL]; split <;> trivial
    | no => trivial
    | dead => trivial
  | agg ms og =>
    cases og with
    | «at» s cs => simp only [SM.dropL, Og.dropL]; split <;> trivial
    | ats s cs js =>
      simp only [SM.dropL, Og.dropL]
      by_cases e : js.any (fun j => isPre l (s :: addc cs j)) = true
      · simp only [e, if_true]; trivial
      · have e' : js.any (fun j => isPre l (s :: addc cs j)) = false := by simpa using e
        simp only [e', if_false, Bool.false_eq_true]
        intro p hp hq j hj
        rw [List.any_eq_false] at e'
        have e2 : isPre l (s :: addc cs j) = false := by simpa using e' j hj
        refine ⟨fun d v => hhd (p.addc j) d v ?_, fun _ => rfl⟩
        have : ∀ st : List (Nat × Nat), (addLast st j).map (·.2) = addc (st.map (·.2)) j := by
          intro st
          induction st with
          | nil => rfl
          | cons a st ih =>
            cases st with
            | nil => obtain ⟨i, c⟩ := a; rfl
            | cons b st => simp only [addLast, List.map_cons, addc] at ih ⊢; rw [ih]
        rw [show (p.addc j).lab = s :: addc cs j by simp only [Pl.addc, Pl.lab, this, hp, hq]]; exact e2
    | vw s => simp only [SM.dropL, Og.dropL]; split <;> trivial
    | no => trivial
    | dead => trivial
  | pt s cs =>
    simp only [SM.dropL]
    by_cases e : isPre l (s :: cs.dropLast) = true
    · simp only [e, if_true]; trivial
    · simp only [e, if_false, Bool.false_eq_true]
      intro b st off cap z hb hst
      refine ho b _ hb ?_
      show isPre l (s :: st.map (·.2)) = false
      rw [hst]; simpa using e
  | pa s cs n =>
    simp only [SM.dropL]
    by_cases e : isPre l (s :: cs.dropLast) = true
    · simp only [e, if_true]; trivial
    · simp only [e, if_false, Bool.false_eq_true]
      intro b st off cap z hb hst
      refine ho b _ hb ?_
      show isPre l (s :: st.map (·.2)) = false
      rw [hst]; simpa using e
  | pv ps s =>
    simp only [SM.dropL]
    split
    · trivial
    · exact ⟨fun h => h, fun _ _ _ => rfl⟩
  | tup b n => exact fun _ _ => rfl
  | clo g caps => exact fun _ _ => rfl
  | u => trivial
  | box ms => trivial
  | vbox ps n => trivial
  | fv fs i => trivial

theorem map_dropL (f : PF) (l : List Nat) (sm : SM) : (sm.map f).dropL l = (sm.dropL l).map f := by
  cases sm with
  | vbox ps n =>
    simp only [SM.dropL, SM.map]
    cases f ps <;> rfl
  | pv ps s => by_cases e2 : l.head? = some s <;> cases e : f ps <;> simp [SM.map, SM.dropL, e, e2]
  | pt s cs => simp only [SM.map, SM.dropL]; split <;> rfl
  | pa s cs n => simp only [SM.map, SM.dropL]; split <;> rfl
  | _ => rfl

section
variable {A : Start} {w : World} {μ : Mu} {φ : Fr} {tm : Nat → Value} {C : Cx}

theorem St.mv (h : St A w μ φ tm C) (p p' : Pl) {μ' : Mu} (hfree : ∀ b o, C.own b = some o → ∀ q, o.p ≠ p'.ext q) (hbx : p.st = [] → ∀ ds, φ p.s ≠ .box ds)
    (hμ : ∀ s, s ≠ p.s → μ'.get s = ((μ.get s).map (rnF p.lab p'.lab)).dropL p.lab) (hp : φ p.s = .u ∨ Claim w (C.mv p p') φ tm p.s (μ'.get p.s)) : St A w μ' φ tm (C.mv p p') := by
  refine ⟨?_, ?_, ?_, ?_, ?_, h.pa, h.old, h.size, h.calm, ?_, ?_⟩
  rotate_right
  · intro b o h1
    rcases mv_inv h1 with ⟨q1, k1, k2⟩ | ⟨k1, k2⟩
    · have := h.oko b _ k1
      exact this
    · exact h.oko b o k1
  · intro s
    by_cases e : s = p.s
    · subst e; exact hp
    · rcases h.slot s with h1 | h1
      · exact .inl h1
      · right
        rw [hμ s e, map_dropL]
        have h2 : Claim w C φ tm s ((μ.get s).dropL p.lab) := ClaimX.dropL h1
        refine h2.keep (rnF p.lab p'.lab) rfl rfl ?_ ?_ (fun i b hb => ⟨hb, rfl⟩) (fun b hb => ⟨.inl hb, rfl⟩) ?_
        · intro b q off c z hb
          refine ⟨mv_out hb ?_, rfl⟩
          simp only [isPre, Pl.lab]
          rw [List.isPrefixOf_cons_cons]
          have : (p.s == s) = false := by simpa using fun e' : p.s = s => e e'.symm
          rw [this]; rfl
        · intro ps ps' hf b hb
          simp only [rnF, Option.some.injEq] at hf
          subst hf
          exact ⟨mv_ok hb, rfl⟩
        · exact refKeep_dropL _ _ fun b o hb hl => mv_out hb hl
  · intro b b' o o' h1 h2 e
    rcases mv_inv h1 with ⟨q1, k1, k2⟩ | ⟨k1, k2⟩ <;> rcases mv_inv h2 with ⟨q2, l1, l2⟩ | ⟨l1, l2⟩
    · rw [k2, l2] at e
      have : q1 = q2 := by
        simp only [Pl.ext, Pl.mk.injEq, true_and] at e
        exact List.append_cancel_left e
      subst this
      exact h.inj b b' _ _ k1 l1 rfl
    · exact (hfree b' o' l1 q1 (by rw [← e, k2])).elim
    · exact (hfree b o k1 q2 (by rw [e, l2])).elim
    · exact h.inj b b' o o' k1 l1 e
  · intro b o h1
    have key : ∃ o0, C.own b = some o0 ∧ (isPre p.lab o0.p.lab = true → p.sub o0.p ≠ none) := by
      rcases mv_inv h1 with ⟨q1, k1, k2⟩ | ⟨k1, k2⟩
      · exact ⟨_, k1, fun _ => by rw [sub_some.2 rfl]; simp⟩
      · exact ⟨o, k1, fun e => by rw [k2] at e; cases e⟩
    obtain ⟨o0, k1, k2⟩ := key
    obtain ⟨q1, q2, q3, q4⟩ := h.own b o0 k1
    refine ⟨q1, ?_, q3, q4⟩
    rintro (hg | ⟨o1, g1, g2, g3⟩)
    · exact q2 hg
    · rw [k1] at g1; cases g1; exact k2 g2 g3
  · rintro b (hg | ⟨o1, g1, g2, g3⟩)
    · exact h.frz b hg
    · obtain ⟨q1, q2, q3, q4⟩ := h.own b o1 g1
      exact ⟨q1, .inr q4⟩
  · intro b hb
    exact ⟨.inl (h.ag b hb).1, (h.ag b hb).2⟩
  · intro r hr
    obtain ⟨h1, h2⟩ := h.rng r hr
    refine ⟨h1, fun o ho => ?_⟩
    rcases mv_inv ho with ⟨q1, k1, k2⟩ | ⟨k1, k2⟩
    · obtain ⟨e, ds, e2, _⟩ := h2 _ k1
      exfalso
      simp only [Ow.mk.injEq, Pl.ext, Pl.mk.injEq, List.append_eq_nil_iff] at e
      exact hbx e.1.2.1 ds (by rw [e.1.1]; exact e2)
    · exact h2 o k1
end
end Go.Ev

/- A slot is given up; what is owned is handed over to a slot. -/
namespace Go.Ev

def Cx.add (C : Cx) (n : Nat) (N : Nat → Option Ow) : Cx where
  own b := if n ≤ b then N b else C.own b
  G := C.G
  PA := C.PA

section
variable {A : Start} {w w' : World} {μ : Mu} {φ : Fr} {tm : Nat → Value} {C : Cx}

theorem add_old (h : St A w μ φ tm C) {N : Nat → Option Ow} {b : Nat} {o : Ow} (ho : C.own b = some o) : (C.add w.heap.size N).own b = some o := by
  have := (h.own b o ho).1
  simp only [Cx.add]
  rw [if_neg (by omega)]
  exact ho

theorem add_ok (h : St A w μ φ tm C) {N : Nat → Option Ow} {ps : List Pv} {b : Nat} (hb : okB C ps b) : okB (C.add w.heap.size N) ps b := by
  rcases hb with hb | ⟨p, hp, hb⟩
  · exact .inl hb
  · cases p with
    | arg i => exact .inr ⟨_, hp, hb⟩
    | lab l => obtain ⟨o, ho, hl⟩ := hb; exact .inr ⟨_, hp, o, add_old h ho, hl⟩

theorem St.clear (h : St A w μ φ tm C) {d : Nat} (hd : d < 1000) : St A w (μ.clear d) φ tm (C.drop d w.heap.size fun _ => none) := by
  refine h.putG hd (Ext.refl w) _ (by simp) (by simp) (by simp) .none (fun _ _ => rfl) (fun _ _ => rfl) ?_ ?_
  · intro s hs; rw [get_clear, hs]; rfl
  · intro s hs; rw [get_clear, hs]; exact .inr trivial

/-- Nothing is owned at a slot. -/
def FreeAt (C : Cx) (d : Nat) : Prop := ∀ b o, C.own b = some o → hit d o.p.s = false

theorem freeAt_drop {d n : Nat} (hn : ∀ b o, C.own b = some o → b < n) : FreeAt (C.drop d n fun _ => none) d := by
  intro b o hb
  rcases Cx.drop_inv hb with ⟨_, h2⟩ | ⟨_, _, h3⟩
  · cases h2
  · exact h3

/-- The boxes of pointers that came in do not lie at a slot that is given up. -/
def RgOff (A : Start) (C : Cx) (d : Nat) : Prop := ∀ r ∈ A.rg, hit d r.i = true → C.own r.b = none

theorem rgOff_of_free (h : St A w μ φ tm C) {d : Nat} (hf : FreeAt C d) : RgOff A C d := by
  intro r hr hh
  cases ho : C.own r.b with
  | none => rfl
  | some o =>
    obtain ⟨e, _⟩ := (h.rng r hr).2 o ho
    have := hf r.b o ho
    rw [e] at this
    rw [hh] at this; cases this

/-- A slot is written, beside what is owned there already. -/
theorem St.putK (h : St A w μ φ tm C) {d : Nat} (hd : d < 1000) (he : Ext w w') {N : Nat → Option Ow} (hN : NewOk w.heap.size w'.heap.size d N) (hNk : OwnOk w' N) (hrg : RgOff A C d)
    (hNo : ∀ b o, w.heap.size ≤ b → N b = some o → ∀ b' o', C.own b' = some o' → o.p ≠ o'.p) {x : X} {v : Value} {sm : SM}
    (hc : ClaimX w' (C.add w.heap.size N) (upd φ d x) (fun s => if s = d then v else tm s) d x v (sm.dropS d)) :
    St A w' (μ.put d sm) (upd φ d x) (fun s => if s = d then v else tm s) (C.add w.heap.size N) := by
  have hsame : ∀ b, b < w.heap.size → w'.heap[b]? = w.heap[b]? := he.same
  have hinv : ∀ b o, (C.add w.heap.size N).own b = some o → (w.heap.size ≤ b ∧ N b = some o) ∨ (b < w.heap.size ∧ C.own b = some o) := by
    intro b o hb
    simp only [Cx.add] at hb
    split at hb
    · rename_i hl; exact .inl ⟨hl, hb⟩
    · exact .inr ⟨by omega, hb⟩
  have hφ : ∀ s, hit d s = false → upd φ d x s = φ s := by
    intro s hs
    have : s ≠ d := by rintro rfl; rw [hit_self] at hs; cases hs
    simp [upd, this]
  have htm : ∀ s, hit d s = false → (fun s => if s = d then v else tm s) s = tm s := by
    intro s hs
    have : s ≠ d := by rintro rfl; rw [hit_self] at hs; cases hs
    simp [this]
  refine ⟨?_, ?_, ?_, ?_, ?_, ?_, ?_, Nat.le_trans h.size he.size, h.calm.trans he.calm, ?_, ?_⟩
  rotate_right
  · intro b o h1
    rcases hinv b o h1 with ⟨l1, n1⟩ | ⟨l1, n1⟩
    · exact hNk b o n1
    · rw [hsame b l1]; exact h.oko b o n1
  · intro s
    rw [get_put]
    by_cases e : s = d
    · subst e
      rw [if_pos rfl]
      right
      unfold Claim
      have hx : upd φ s x s = x := by simp [upd]
      rw [hx]
      simpa using hc
    · rw [if_neg e]
      cases hs : hit d s with
      | true => exact .inr trivial
      | false =>
        simp only [Bool.false_eq_true, if_false]
        rw [hφ s hs]
        rcases h.slot s with h1 | h1
        · exact .inl h1
        · right
          have h2 := h1.dropS (t := d)
          have h3 := h2.keep (w' := w') (C' := C.add w.heap.size N) (φ' := upd φ d x) (tm' := fun s => if s = d then v else tm s) idF (hφ s hs) (htm s hs) ?_ ?_ ?_ ?_ ?_
          · rwa [smap_id] at h3
          · intro b q off c z hb
            have hlt := (h.own b _ hb).1
            exact ⟨add_old h hb, hsame b hlt⟩
          · intro ps ps' hf b hb
            cases hf
            exact ⟨add_ok h hb, hsame b (h.ok_lt hb)⟩
          · intro i b hb
            exact ⟨hb, hsame b (Nat.lt_of_lt_of_le (h.pa i b hb).1 h.size)⟩
          · intro b hb
            exact ⟨hb, hsame b (h.frz b hb).1⟩
          · refine refKeep_dropS idF _ hφ htm (fun b o hb _ => add_old h hb) ?_
            intro b n e i hi hb
            rw [e] at h1
            exact cix_hit h1.2.1 hi hd hb
  · intro b b' o o' h1 h2 e
    rcases hinv b o h1 with ⟨l1, n1⟩ | ⟨l1, n1⟩ <;> rcases hinv b' o' h2 with ⟨l2, n2⟩ | ⟨l2, n2⟩
    · exact hN.inj b b' o o' l1 l2 n1 n2 e
    · exact (hNo b o l1 n1 b' o' n2 e).elim
    · exact (hNo b' o' l2 n2 b o n1 e.symm).elim
    · exact h.inj b b' o o' n1 n2 e
  · intro b o h1
    rcases hinv b o h1 with ⟨l1, n1⟩ | ⟨l1, n1⟩
    · refine ⟨hN.lt b o l1 n1, ?_, ?_, .inr (Nat.le_trans h.size l1)⟩
      · intro hg
        have := (h.frz b hg).1; omega
      · intro i hp
        have := (h.pa i b hp).1
        have := h.size
        omega
    · obtain ⟨q1, q2⟩ := h.own b o n1
      exact ⟨Nat.lt_of_lt_of_le q1 he.size, q2⟩
  · intro b hg
    exact ⟨Nat.lt_of_lt_of_le (h.frz b hg).1 he.size, (h.frz b hg).2⟩
  · exact h.ag
  · exact h.pa
  · intro b hb hn
    rw [hsame b (Nat.lt_of_lt_of_le hb h.size)]
    exact h.old b hb hn
  · intro r hr
    obtain ⟨h1, h2⟩ := h.rng r hr
    refine ⟨h1.ext (hsame r.b h1.lt), fun o ho => ?_⟩
    rcases hinv r.b o ho with ⟨l1, n1⟩ | ⟨l1, n1⟩
    · have := h1.lt; omega
    · obtain ⟨e, ds, q1, q2⟩ := h2 o n1
      refine ⟨e, ds, ?_, q2⟩
      have hh : hit d r.i = false := by
        cases hh : hit d r.i with
        | false => rfl
        | true => have := hrg r hr hh; rw [this] at n1; cases n1
      rw [hφ r.i hh]; exact q1

/-- Places to which cells go: each apart from the others, and nothing is there yet. -/
structure Tg (C : Cx) (T : Nat → Pl) (n : Nat) : Prop where
  free : ∀ b o, C.own b = some o → ∀ k q, k < n → o.p ≠ (T k).ext q
  apart : ∀ j k q q', j < n → k < n → j ≠ k → (T j).ext q ≠ (T k).ext q'

/-- What a hand-over comes to: the cells stand at their new places. -/
structure Given (A : Start) (w : World) (φ : Fr) (tm : Nat → Value) (C : Cx) (T : Nat → Pl) (μ' : Mu) (ms : List M) (ds : List D) (vs : List Value) (C' : Cx) : Prop where
  st : St A w μ' φ tm C'
  own : ∀ b o, C'.own b = some o → C.own b = some o ∨ ∃ o0 k q, C.own b = some o0 ∧ o.p = (T k).ext q
  len : ms.length = ds.length
  lenv : vs.length = ds.length
  cell : ∀ v ∈ vs, v.isCell = true
  rep : ∀ (k : Nat) (m : M) (d : D) (v : Value), ms[k]? = some m → ds[k]? = some d → vs[k]? = some v → Rep w C' (T k) m d v

theorem Rep.at (p p' : Pl) {m : M} {d : D} {v : Value} (h : Rep w C p m d v) (hn : m.noOwn = true) : Rep w C p' m d v := by
  have := h.moveV (w' := w) (C' := C) (p' := p') hn idF (by intro ps ps' hf b hb; cases hf; exact ⟨hb, rfl⟩)
  rwa [map_id] at this

theorem mapL_getD {f : PF} {l : List M} {j : Nat} {m : M} (h : (mapL f l)[j]? = some m) : ∃ m0, l[j]? = some m0 ∧ m = m0.map f := mapL_get h

theorem giveR_sound {t : Nat} {T : Nat → Pl} (hTs : ∀ k, (T k).s ≠ t) {ds : List D} {vs : List Value} (hcell : ∀ v ∈ vs, v.isCell = true) : ∀ (js : List Nat) (P : Nat → Pl) (rs : List M) (μ : Mu) (C : Cx), St A w μ φ tm C → μ.get t = .u → js.Nodup →
    (∀ j ∈ js, P j = ⟨t, [(0, j)]⟩) → (∀ j, j ∉ js → P j = T j ∨ (rs[j]?.all M.noOwn = true)) →
    (∀ b o, C.own b = some o → ∀ k q, o.p = (T k).ext q → k ∉ js) → (∀ j k q q', j ∈ js → k ∈ js → j ≠ k → (T j).ext q ≠ (T k).ext q') →
    (∀ (k : Nat) (m : M) (d : D) (v : Value), rs[k]? = some m → ds[k]? = some d → vs[k]? = some v → Rep w C (P k) m d v) → rs.length = ds.length → vs.length = ds.length →
    ∃ C', Given A w φ tm C T (giveR t (fun k => (T k).lab) js rs μ).2 (giveR t (fun k => (T k).lab) js rs μ).1 ds vs C'
  | [], P, rs, μ, C, h, _, _, _, hP, _, _, hr, hl, hl' => by
    refine ⟨C, h, fun b o hb => .inl hb, hl, hl', hcell, ?_⟩
    intro k m d v h1 h2 h3
    rcases hP k (by simp) with e | e
    · rw [← e]; exact hr k m d v h1 h2 h3
    · exact (hr k m d v h1 h2 h3).at _ _ (by rw [show rs[k]? = some m from h1] at e; simpa using e)
  | j :: js, P, rs, μ, C, h, hu, hn, hPj, hP, hfree, hap, hr, hl, hl' => by
    obtain ⟨hn1, hn2⟩ := List.nodup_cons.1 hn
    have hpj := hPj j (by simp)
    have hlabj : (⟨t, [(0, j)]⟩ : Pl).lab = [t, j] := rfl
    have h2 : St A w ((μ.map (rnF [t, j] (T j).lab)).dropL [t, j]) φ tm (C.mv ⟨t, [(0, j)]⟩ (T j)) := by
      refine h.mv ⟨t, [(0, j)]⟩ (T j) ?_ (by simp) ?_ (.inr ?_)
      · intro b o hb q e
        exact hfree b o hb j q e (by simp)
      · intro s _; rw [get_dropL, get_map]; rfl
      · rw [get_dropL, get_map, hu]; trivial
    have hrep : ∀ (k : Nat) (m : M) (d : D) (v : Value), (mapL (rnF [t, j] (T j).lab) rs)[k]? = some m → ds[k]? = some d → vs[k]? = some v →
        Rep w (C.mv ⟨t, [(0, j)]⟩ (T j)) (if k = j then T j else P k) m d v := by
      intro k m d v h1 h3 h4
      obtain ⟨m0, hm0, rfl⟩ := mapL_get h1
      have hr0 := hr k m0 d v hm0 h3 h4
      have hv : ∀ ps ps', (rnF [t, j] (T j).lab) ps = some ps' → ∀ b, okB C ps b → okB (C.mv ⟨t, [(0, j)]⟩ (T j)) ps' b ∧ w.heap[b]? = w.heap[b]? := by
        intro ps ps' hf b hb
        simp only [rnF, Option.some.injEq] at hf
        subst hf
        exact ⟨mv_ok hb, rfl⟩
      by_cases e : k = j
      · subst e
        rw [if_pos rfl]
        rw [hpj] at hr0
        exact hr0.move (T k) _ (fun b q off c z hb => ⟨mv_in hb, rfl⟩) hv
      · rw [if_neg e]
        cases hno : m0.noOwn with
        | true => exact hr0.moveV hno _ hv
        | false =>
          refine hr0.move (P k) _ (fun b q off c z hb => ⟨mv_out hb ?_, rfl⟩) hv
          show isPre [t, j] ((P k).ext q).lab = false
          by_cases hk : k ∈ js
          · rw [hPj k (by simp [hk])]
            simp only [Pl.ext, Pl.lab, isPre, List.cons_append, List.map_cons, List.nil_append]
            rw [List.isPrefixOf_cons_cons, List.isPrefixOf_cons_cons]
            have : (j == k) = false := by simpa using fun e' : j = k => e e'.symm
            simp [this]
          · rcases hP k (by simp [hk, e]) with e1 | e1
            · rw [e1]
              simp only [Pl.ext, Pl.lab, isPre]
              rw [List.isPrefixOf_cons_cons]
              have : (t == (T k).s) = false := by simpa using fun e' : t = (T k).s => hTs k e'.symm
              simp [this]
            · rw [hm0] at e1
              simp only [Option.all_some] at e1
              rw [hno] at e1; cases e1
    obtain ⟨C', hg⟩ := giveR_sound (t := t) (T := T) hTs hcell js (fun k => if k = j then T j else P k) (mapL (rnF [t, j] (T j).lab) rs) _ _ h2 (by rw [get_dropL, get_map, hu]; rfl) hn2
      (by
        intro k hk
        have : k ≠ j := fun e => hn1 (e ▸ hk)
        rw [if_neg this]
        exact hPj k (by simp [hk]))
      (by
        intro k hk
        by_cases e : k = j
        · subst e; left; simp
        · rw [if_neg e]
          rcases hP k (by simp [hk, e]) with e1 | e1
          · exact .inl e1
          · right
            cases hm : (mapL (rnF [t, j] (T j).lab) rs)[k]? with
            | none => rfl
            | some m =>
              obtain ⟨m0, hm0, rfl⟩ := mapL_get hm
              rw [hm0] at e1
              simp only [Option.all_some] at e1 ⊢
              cases m0 <;> first | (cases e1; done) | rfl)
      (by
        intro b o hb k q e hk
        rcases mv_inv hb with ⟨q1, k1, k2⟩ | ⟨k1, k2⟩
        · rw [k2] at e
          have : j ≠ k := fun e' => hn1 (e' ▸ hk)
          exact hap j k q1 q (by simp) (by simp [hk]) this e
        · exact hfree b o k1 k q e (by simp [hk]))
      (fun i k q q' hi hk => hap i k q q' (by simp [hi]) (by simp [hk])) hrep (by rw [mapL_len]; exact hl) hl'
    refine ⟨C', ?_⟩
    simp only [giveR]
    refine ⟨hg.st, ?_, hg.len, hg.lenv, hcell, hg.rep⟩
    intro b o hb
    rcases hg.own b o hb with h5 | ⟨o0, k, q, h5, h6⟩
    · rcases mv_inv h5 with ⟨q1, k1, k2⟩ | ⟨k1, k2⟩
      · exact .inr ⟨_, j, q1, k1, k2⟩
      · exact .inl k1
    · rcases mv_inv h5 with ⟨q1, k1, k2⟩ | ⟨k1, k2⟩
      · exact .inr ⟨_, k, q, k1, h6⟩
      · exact .inr ⟨_, k, q, k1, h6⟩
end
end Go.Ev

/- Hand-overs; variables assigned; boxes. -/
namespace Go.Ev

theorem cell_cells {v : Value} (h : v.isCell = true) : v.cells = [v].toArray := by
  cases v <;> first | rfl | (cases h)

theorem noOwn_of_not {m : M} (h : m.isOwn = false) : m.noOwn = true := by cases m <;> first | rfl | (cases h)

theorem ownsAt_spec {ms : List M} {j : Nat} : j ∈ ownsAt ms ↔ ∃ m, ms[j]? = some m ∧ m.isOwn = true := by
  unfold ownsAt
  simp only [List.mem_filter, List.mem_range, Option.any_eq_true]
  constructor
  · rintro ⟨_, m, h1, h2⟩; exact ⟨m, h1, h2⟩
  · rintro ⟨m, h1, h2⟩; exact ⟨(List.getElem?_eq_some_iff.1 h1).1, m, h1, h2⟩

section
variable {A : Start} {w w' : World} {μ : Mu} {φ : Fr} {tm : Nat → Value} {C : Cx}

theorem St.setU (h : St A w μ φ tm C) (t : Nat) : St A w (μ.set t .u) φ tm C := by
  refine { h with slot := ?_ }
  intro s
  rw [get_set]
  by_cases e : s = t
  · rw [if_pos e]; exact .inr trivial
  · rw [if_neg e]; exact h.slot s
end

section
variable {τ : List TE} {A : Start} {w w' : World} {μ μ' : Mu} {φ : Fr} {C : Cx} {a : Act} {g : Nat → Value} {T : Nat → Pl} {ms : List M} {ds : List D}

/-- What a slot, or a component of a tuple, hands over. -/
theorem give_slot {t : Nat} (h : St A w μ φ (tmO a.tmps g) C) (hT : Tg C T ds.length) (hTs : ∀ k, (T k).s ≠ t) (hg : give μ (.tmp t) (fun k => (T k).lab) = some (ms, μ'))
    (hc : (cpX t (φ t)).cells = some ds) : ∃ vs C', (tmO a.tmps g t).cells = vs.toArray ∧ (∀ d0 o0, cpX t (φ t) = .d d0 o0 → vs = [tmO a.tmps g t]) ∧ Given A w φ (tmO a.tmps g) C T μ' ms ds vs C' := by
  have same : ∀ (m : M) (d : D) (v : Value), tmO a.tmps g t = v → v.isCell = true → ds = [d] → ms = [m] → μ' = μ → (∀ p, Rep w C p m d v) → ∃ vs C', (tmO a.tmps g t).cells = vs.toArray ∧ (∀ d0 o0, cpX t (φ t) = .d d0 o0 → vs = [tmO a.tmps g t]) ∧ Given A w φ (tmO a.tmps g) C T μ' ms ds vs C' := by
    intro m d v h1 h2 h3 h4 h5 h6
    subst h3; subst h4; subst h5
    refine ⟨[v], C, by rw [h1]; exact cell_cells h2, fun _ _ _ => by rw [h1], h, fun b o hb => .inl hb, rfl, rfl, by simpa using h2, ?_⟩
    intro k m' d' v' q1 q2 q3
    cases k with
    | zero => simp at q1 q2 q3; subst q1; subst q2; subst q3; exact h6 _
    | succ k => simp at q1
  have hu : φ t ≠ .u := by intro e; rw [e] at hc; cases hc
  have hcl := (h.slot t).resolve_left hu
  have hcl' := hcl
  unfold Claim at hcl
  simp only [give] at hg
  split at hg
  · rename_i cols og hμ
    cases hg
    rw [hμ] at hcl
    obtain ⟨d, o, e1, e2, e3⟩ := hcl
    have hds : ds = [d] := by
      rw [e1] at hc
      cases d <;> simp [cpX, X.cells] at hc <;> exact hc.symm
    subst hds
    have hcell := e2.cell rfl
    have hv : ∀ ps ps', (rnF [t] (T 0).lab) ps = some ps' → ∀ b, okB C ps b → okB (C.mv ⟨t, []⟩ (T 0)) ps' b ∧ w.heap[b]? = w.heap[b]? := by
      intro ps ps' hf b hb
      simp only [rnF, Option.some.injEq] at hf
      subst hf
      exact ⟨mv_ok hb, rfl⟩
    have hmv : ∀ p', p' = T 0 → Rep w (C.mv ⟨t, []⟩ (T 0)) p' ((M.own cols).map (rnF [t] (T 0).lab)) d (tmO a.tmps g t) := by
      rintro p' rfl
      refine e2.move (T 0) _ (fun b q off c z hb => ⟨mv_in ?_, rfl⟩) hv
      exact hb
    refine ⟨[tmO a.tmps g t], C.mv ⟨t, []⟩ (T 0), cell_cells hcell, fun _ _ _ => rfl, ?_, ?_, rfl, rfl, by simpa using hcell, ?_⟩
    · refine h.mv ⟨t, []⟩ (T 0) (fun b o hb q => hT.free b o hb 0 q (by simp)) (by intro _ ds e; rw [e1] at e; cases e) ?_ (.inr ?_)
      · intro s hs
        rw [get_set, if_neg hs, get_dropL, get_map]; rfl
      · unfold Claim
        rw [get_set, if_pos rfl]
        refine ⟨d, o, e1, ?_, fun _ => trivial⟩
        exact (hmv _ rfl).viewAt
    · intro b o hb
      rcases mv_inv hb with ⟨q1, k1, k2⟩ | ⟨k1, k2⟩
      · exact .inr ⟨_, 0, q1, k1, k2⟩
      · exact .inl k1
    · intro k m' d' v' q1 q2 q3
      cases k with
      | zero => simp at q1 q2 q3; subst q1; subst q2; subst q3; exact hmv _ rfl
      | succ k => simp at q1
  · rename_i m og hno hμ
    split at hg
    · rename_i hr
      cases hg
      rw [hμ] at hcl
      obtain ⟨d, o, e1, e2, e3⟩ := hcl
      have hds : ds = [d] := by
        rw [e1] at hc
        cases d <;> simp [cpX, X.cells] at hc <;> exact hc.symm
      have hn : m.noOwn = true := by
        cases m with
        | own cols => exact (hno cols rfl).elim
        | _ => rfl
      exact same m d _ rfl (e2.cell hr) hds rfl rfl fun p => e2.at _ _ hn
    · cases hg
  · rename_i ms0 og hμ
    split at hg
    · rename_i hr
      rw [hμ] at hcl
      obtain ⟨ds0, o, vs, e1, e2, e3, e4, e5, e6⟩ := hcl
      have hds : ds = ds0 := by
        rw [e1] at hc
        simp only [cpX, X.cells, Option.some.injEq] at hc
        exact hc.symm
      subst hds
      have hev : (tmO a.tmps g t).cells = vs.toList.toArray := by rw [e2]; simp [Value.cells]
      have hrep : ∀ (k : Nat) (m : M) (d : D) (v : Value), ms0[k]? = some m → ds[k]? = some d → vs.toList[k]? = some v → Rep w C ⟨t, [(0, k)]⟩ m d v := by
        intro k m d v q1 q2 q3
        have := e5 0 k ds d m rfl q2 q1
        have hv : vs.getD k undef = v := by
          rw [Array.getElem?_toList] at q3
          simp [Array.getD_eq_getD_getElem?, q3]
        have this : Rep w C _ m d (vs.getD k undef) := this
        rw [hv] at this
        exact this
      have hcells : ∀ v ∈ vs.toList, v.isCell = true := by
        intro v hv
        obtain ⟨k, hk⟩ := List.getElem?_of_mem hv
        have hkl : k < ds.length := by have := (List.getElem?_eq_some_iff.1 hk).1; simp at this; omega
        have hkm : k < ms0.length := by omega
        exact (hrep k _ _ v (List.getElem?_eq_getElem hkm) (List.getElem?_eq_getElem hkl) hk).cell (List.all_eq_true.1 hr _ (List.getElem_mem hkm))
      split at hg
      · rename_i hno
        cases hg
        refine ⟨vs.toList, C, hev, (fun d0 o0 e => by simp [e1, cpX] at e), h, fun b o hb => .inl hb, e4, by simpa using e3, hcells, ?_⟩
        intro k m d v q1 q2 q3
        exact (hrep k m d v q1 q2 q3).at _ _ (List.all_eq_true.1 hno m (List.mem_of_getElem? q1))
      · rw [Option.some.injEq] at hg
        obtain ⟨C', hC'⟩ := giveR_sound (A := A) (w := w) (φ := φ) (tm := tmO a.tmps g) (t := t) (T := T) (ds := ds) (vs := vs.toList) (hTs) hcells (ownsAt ms0)
          (fun j => ⟨t, [(0, j)]⟩) ms0 (μ.set t .u) C (h.setU t) (by rw [get_set, if_pos rfl]) (by unfold ownsAt; exact List.Nodup.sublist List.filter_sublist List.nodup_range) (fun _ _ => rfl)
          (by
            intro j hj
            right
            rw [ownsAt_spec] at hj
            cases hm : ms0[j]? with
            | none => rfl
            | some m =>
              simp only [Option.all_some]
              refine noOwn_of_not ?_
              cases ho : m.isOwn with
              | false => rfl
              | true => exact (hj ⟨m, hm, ho⟩).elim)
          (fun b o hb k q e hk => by
            obtain ⟨m, hm, _⟩ := ownsAt_spec.1 hk
            exact hT.free b o hb k q (by have := (List.getElem?_eq_some_iff.1 hm).1; omega) e)
          (fun j k q q' hj hk => by
            obtain ⟨m, hm, _⟩ := ownsAt_spec.1 hj
            obtain ⟨m', hm', _⟩ := ownsAt_spec.1 hk
            exact hT.apart j k q q' (by have := (List.getElem?_eq_some_iff.1 hm).1; omega) (by have := (List.getElem?_eq_some_iff.1 hm').1; omega))
          hrep e4 (by simpa using e3)
        rw [hg] at hC'
        exact ⟨vs.toList, C', hev, (fun d0 o0 e => by simp [e1, cpX] at e), hC'⟩
    · cases hg
  · cases hg

theorem give_sound {y : Operand} {ty : Nat} (h : St A w μ φ (tmO a.tmps g) C) (hs : sm1 y = true) (hT : Tg C T ds.length) (hTs : ∀ k t, y = .tmp t → (T k).s ≠ t) (hg : give μ y (fun k => (T k).lab) = some (ms, μ'))
    (hc : (opX τ φ ty y).cells = some ds) : ∃ vs C', (a.eval y).cells = vs.toArray ∧ (∀ d0 o0, opX τ φ ty y = .d d0 o0 → vs = [a.eval y]) ∧ Given A w φ (tmO a.tmps g) C T μ' ms ds vs C' := by
  have same : ∀ (m : M) (d : D) (v : Value), a.eval y = v → v.isCell = true → ds = [d] → ms = [m] → μ' = μ → (∀ p, Rep w C p m d v) → ∃ vs C', (a.eval y).cells = vs.toArray ∧ (∀ d0 o0, opX τ φ ty y = .d d0 o0 → vs = [a.eval y]) ∧ Given A w φ (tmO a.tmps g) C T μ' ms ds vs C' := by
    intro m d v h1 h2 h3 h4 h5 h6
    subst h3; subst h4; subst h5
    refine ⟨[v], C, by rw [h1]; exact cell_cells h2, fun _ _ _ => by rw [h1], h, fun b o hb => .inl hb, rfl, rfl, by simpa using h2, ?_⟩
    intro k m' d' v' q1 q2 q3
    cases k with
    | zero => simp at q1 q2 q3; subst q1; subst q2; subst q3; exact h6 _
    | succ k => simp at q1
  cases y with
  | tmp t =>
    have ht : t < 1000 := by simpa [sm1] using hs
    have := give_slot (t := t) h hT (fun k => hTs k t rfl) hg hc
    rw [tmO_eval ht] at this
    exact this
  | const v =>
    unfold give at hg
    split at hg
    · rename_i e; cases e
    · rename_i e; cases e
      cases hg
      simp only [opX, X.cells, Option.some.injEq] at hc
      exact same .emp _ _ rfl rfl hc.symm rfl rfl fun p => .emp
    · rename_i x1 x2 e; cases e
      split at hg
      · rename_i hv; cases hg
        rw [(const_sc (μ := μ) hv ty).1] at hc
        simp only [X.cells, Option.some.injEq] at hc
        exact same (.view []) _ _ rfl (scalar_cell hv) hc.symm rfl rfl fun p => .view (.v hv)
      · cases hg
    · cases hg
  | func f => cases hg
  | global n => cases hg
end

section
variable {V : Env} {A : Start} {w w' : World} {μ μ' : Mu} {φ : Fr} {C : Cx} {a : Act} {g : Nat → Value} {o : Oper} {x : X}

theorem Rep.ext {p : Pl} {m : M} {d : D} {v : Value} (h : St A w μ φ (tmO a.tmps g) C) (he : Ext w w') (N : Nat → Option Ow) (hr : Rep w C p m d v) : Rep w' (C.add w.heap.size N) p m d v := by
  have := hr.move (w' := w') (C' := C.add w.heap.size N) p idF (fun b q off c z hb => ⟨add_old h hb, he.same b (h.own b _ hb).1⟩) (by intro ps ps' hf b hb; cases hf; exact ⟨add_ok h hb, he.same b (h.ok_lt hb)⟩)
  rwa [map_id] at this

theorem tg_clear (h : St A w μ φ (tmO a.tmps g) C) {d : Nat} {T : Nat → Pl} (hT : ∀ k, (T k).s = d) {n : Nat} (hap : ∀ j k q q', j < n → k < n → j ≠ k → (T j).ext q ≠ (T k).ext q') : Tg (C.drop d w.heap.size fun _ => none) T n := by
  refine ⟨?_, hap⟩
  intro b o hb k q _ e
  have := freeAt_drop (fun b o hb => (h.own b o hb).1) b o hb
  rw [e] at this
  simp only [Pl.ext, hT] at this
  rw [hit_self] at this; cases this

theorem rgOff_given {d : Nat} {ms : List M} {ds : List D} {vs : List Value} {T : Nat → Pl} {C' : Cx} (h : St A w μ φ (tmO a.tmps g) C) (hf : FreeAt C d) (hg : Given A w φ (tmO a.tmps g) C T μ' ms ds vs C') : RgOff A C' d := by
  intro r hr hh
  have h0 := rgOff_of_free h hf r hr hh
  cases ho : C'.own r.b with
  | none => rfl
  | some o =>
    rcases hg.own r.b o ho with h1 | ⟨o0, _, _, h1, _⟩
    · rw [h0] at h1; cases h1
    · rw [h0] at h1; cases h1

/-- What an operation comes to: it runs, and what stands stands. -/
def OpOk (V : Env) (A : Start) (w : World) (a : Act) (g : Nat → Value) (o : Oper) (φ' : Fr) (μ' : Mu) : Prop :=
  ∃ nx v w' C' g', (execOp a.eval o).run V.P w = .ok nx w' ∧ (nx = .value v ∨ nx = .skip ∧ v = undef) ∧ St A w' μ' φ' (tmO (a.put o.dst v).tmps g') C'

theorem s_assign {y : Operand} {d : Nat} {cols : List M} (Sg : Nat → Option Sig) (ho : o.op = .assign y) (hd : o.dst = some d) (hd1 : d < 1000) (hsz : d < a.tmps.size) (h : St A w μ φ (tmO a.tmps g) C) (hs : sm1 y = true)
    (hx : pureX V.τ φ o.op o.type = some x) (hm : chkOp V.τ Sg cols o μ = some μ') : OpOk V A w a g o (upd φ d x) μ' := by
  unfold chkOp at hm
  rw [ho] at hx hm
  simp only [hd] at hm
  simp only [pureX] at hx
  have hrun : (execOp a.eval o).run V.P w = .ok (.value (a.eval y)) w := by simp [execOp, ho]
  have hxu : ∃ X0, opX V.τ φ o.type y = X0 ∧ X0 ≠ .u ∧ x = ownX X0 := by
    refine ⟨_, rfl, ?_⟩
    generalize opX V.τ φ o.type y = q at hx
    cases q <;> first | (cases hx; done) | (cases hx; exact ⟨by simp, rfl⟩)
  obtain ⟨X0, hX0, hXu, rfl⟩ := hxu
  have hcl0 := h.clear hd1
  have hfr : FreeAt (C.drop d w.heap.size fun _ => none) d := freeAt_drop fun b o hb => (h.own b o hb).1
  have hts : ∀ t, y = .tmp t → ∀ m, (μ.clear d).get t = m → m ≠ .u → d ≠ t := by
    rintro t rfl m hm hne rfl
    rw [get_clear, hit_self, if_pos rfl] at hm
    exact hne hm.symm
  have hgd : ∀ {l ms μ1}, give (μ.clear d) y l = some (ms, μ1) → ∀ t, y = .tmp t → d ≠ t := by
    rintro l ms μ1 hg t rfl rfl
    simp only [give, get_clear, hit_self, if_true] at hg
    cases hg
  have fin : ∀ {sm : SM} {ms : List M} {ds : List D} {vs : List Value} {T : Nat → Pl} {C1 : Cx} {μ1 : Mu} {x : X}, Given A w φ (tmO a.tmps g) (C.drop d w.heap.size fun _ => none) T μ1 ms ds vs C1 →
      (∀ φ' tm', ClaimX w (C1.add w.heap.size fun _ => none) φ' tm' d x (a.eval y) sm) → OpOk V A w a g o (upd φ d x) (μ1.put d sm) := by
    intro sm ms ds vs T C1 μ1 x hg hcl
    refine ⟨_, _, w, C1.add w.heap.size fun _ => none, g, hrun, .inl rfl, ?_⟩
    rw [hd, tm_put hd1 hsz]
    exact hg.st.putK hd1 (Ext.refl w) NewOk.none .none (rgOff_given hcl0 hfr hg) (by simp) (ClaimX.dropS (hcl _ _))
  split at hm
  · rename_i m0 og0 hop
    split at hm
    · rename_i m μ1 hgv
      cases hm
      have hc0 := op_sound (s := 0) h hs (τ := V.τ) (ty := o.type) (by rw [hX0]; exact hXu)
      rw [hX0, hop] at hc0
      obtain ⟨dd, oo, e1, _, _⟩ := hc0
      subst e1
      obtain ⟨vs, C1, hv1, hv2, hG⟩ := give_sound (T := fun _ => ⟨d, []⟩) (τ := V.τ) (ty := o.type) (ds := [dd]) hcl0 hs (tg_clear (T := fun _ => ⟨d, []⟩) (n := 1) h (fun _ => rfl) (by intro j k q q' hj hk hne; omega)) (fun _ t ht => hgd hgv t ht) hgv (by rw [hX0]; rfl)
      refine fin hG ?_
      intro φ' tm'
      refine ⟨dd, none, rfl, ?_, fun _ => rfl⟩
      have hve := hv2 dd oo hX0
      subst hve
      have hrep := hG.rep 0 m dd _ rfl rfl rfl
      exact hrep.ext hG.st (Ext.refl w) _
    · cases hm
  · rename_i ms0 og0 hop
    split at hm
    · rename_i ms μ1 hgv
      cases hm
      have hc0 := op_sound (s := 0) h hs (τ := V.τ) (ty := o.type) (by rw [hX0]; exact hXu)
      rw [hX0, hop] at hc0
      obtain ⟨dd, oo, vs0, e1, e2, e3, e4, _, _⟩ := hc0
      subst e1
      obtain ⟨vs, C1, hv1, _, hG⟩ := give_sound (T := fun k => ⟨d, [(0, k)]⟩) (τ := V.τ) (ty := o.type) (ds := dd) hcl0 hs (tg_clear (T := fun k => ⟨d, [(0, k)]⟩) (n := dd.length) h (fun _ => rfl) (by
        intro j k q q' _ _ hne e
        simp only [Pl.ext, List.cons_append, List.nil_append, Pl.mk.injEq, List.cons.injEq, Prod.mk.injEq, true_and] at e
        exact hne e.1)) (fun _ t ht => hgd hgv t ht) hgv (by rw [hX0]; rfl)
      refine fin hG ?_
      intro φ' tm'
      have hve : vs = vs0.toList := by
        rw [e2] at hv1
        have : vs0 = vs.toArray := hv1
        rw [this]
      refine ⟨dd, none, vs0, rfl, e2, e3, hG.len, ?_, rfl⟩
      intro i j row d' m q1 q2 q3
      cases i with
      | succ i => simp at q1
      | zero =>
        simp only [List.getElem?_cons_zero, Option.some.injEq] at q1
        subst q1
        have hj := (List.getElem?_eq_some_iff.1 q2).1
        have hv : vs[j]? = some (vs0.getD j undef) := by
          rw [hve, Array.getElem?_toList, Array.getElem?_eq_getElem (by omega)]
          simp [Array.getD, show j < vs0.size by omega]
        exact (hG.rep j m d' _ q3 q2 hv).ext hG.st (Ext.refl w) _
    · cases hm
  · cases hm
  · rename_i hn1 hn2 hn3
    have hc0 := fun s => op_sound (s := s) h hs (τ := V.τ) (ty := o.type) (by rw [hX0]; exact hXu)
    rw [hX0] at hc0
    have hno := opM_noOwn μ y
    have key : opM μ y ≠ .u ∧ ownX X0 = X0 := by
      generalize opM μ y = q at *
      cases q with
      | u => simp [putM] at hm
      | c m og => exact (hn1 m og rfl).elim
      | agg m og => exact (hn2 m og rfl).elim
      | box ms => cases hno
      | vbox ps n => obtain ⟨ds, e1, _⟩ := hc0 0; subst e1; exact ⟨by simp, rfl⟩
      | pt s cs => obtain ⟨p, e1, _⟩ := hc0 0; subst e1; exact ⟨by simp, rfl⟩
      | pa s cs n => obtain ⟨p, k, e1, _⟩ := hc0 0; subst e1; exact ⟨by simp, rfl⟩
      | pv ps s => obtain ⟨p, e1, _⟩ := hc0 0; subst e1; exact ⟨by simp, rfl⟩
      | tup b n => obtain ⟨e1, _⟩ := hc0 0; subst e1; exact ⟨by simp, rfl⟩
      | clo f cs => obtain ⟨e1, _⟩ := hc0 0; subst e1; exact ⟨by simp, rfl⟩
      | fv fs i => obtain ⟨f, cs, vs, e1, _⟩ := hc0 0; subst e1; exact ⟨by simp, rfl⟩
    obtain ⟨k1, k2⟩ := key
    rw [k2]
    have hmu : μ' = μ.put d (opM μ y) := by
      generalize opM μ y = q at hm k1
      cases q <;> first | (exact (k1 rfl).elim) | (simp only [putM, hd, Option.some.injEq] at hm; exact hm.symm)
    rw [hmu]
    refine ⟨.value (a.eval y), a.eval y, w, C.drop d w.heap.size fun _ => none, g, hrun, .inl rfl, ?_⟩
    rw [hd, tm_put hd1 hsz]
    exact h.putV hd1 hno (hc0 d)

/-- A copy that takes along. -/
theorem s_moveT {y : Operand} {d : Nat} (ho : o.op = .move y) (hd : o.dst = some d) (hd1 : d < 1000) (hsz : d < a.tmps.size) (h : St A w μ φ (tmO a.tmps g) C) (hs : sm1 y = true)
    (hx : pureX V.τ φ o.op o.type = some x) (hm : moveT μ y d = some μ') : OpOk V A w a g o (upd φ d x) μ' := by
  unfold moveT at hm
  rw [ho] at hx
  simp only [pureX] at hx
  have hrun : (execOp a.eval o).run V.P w = .ok (.value (a.eval y)) w := by simp [execOp, ho]
  have hxu : ∃ X0, opX V.τ φ o.type y = X0 ∧ X0 ≠ .u ∧ x = X0 := by
    refine ⟨_, rfl, ?_⟩
    generalize opX V.τ φ o.type y = q at hx
    cases q <;> first | (cases hx; done) | (cases hx; exact ⟨by simp, rfl⟩)
  obtain ⟨X0, hX0, hXu, rfl⟩ := hxu
  have hcl0 := h.clear hd1
  have hfr : FreeAt (C.drop d w.heap.size fun _ => none) d := freeAt_drop fun b o hb => (h.own b o hb).1
  have hts : ∀ t, y = .tmp t → ∀ m, (μ.clear d).get t = m → m ≠ .u → d ≠ t := by
    rintro t rfl m hm hne rfl
    rw [get_clear, hit_self, if_pos rfl] at hm
    exact hne hm.symm
  have hgd : ∀ {l ms μ1}, give (μ.clear d) y l = some (ms, μ1) → ∀ t, y = .tmp t → d ≠ t := by
    rintro l ms μ1 hg t rfl rfl
    simp only [give, get_clear, hit_self, if_true] at hg
    cases hg
  have fin : ∀ {sm : SM} {ms : List M} {ds : List D} {vs : List Value} {T : Nat → Pl} {C1 : Cx} {μ1 : Mu} {x : X}, Given A w φ (tmO a.tmps g) (C.drop d w.heap.size fun _ => none) T μ1 ms ds vs C1 →
      (∀ φ' tm', ClaimX w (C1.add w.heap.size fun _ => none) φ' tm' d x (a.eval y) sm) → OpOk V A w a g o (upd φ d x) (μ1.put d sm) := by
    intro sm ms ds vs T C1 μ1 x hg hcl
    refine ⟨_, _, w, C1.add w.heap.size fun _ => none, g, hrun, .inl rfl, ?_⟩
    rw [hd, tm_put hd1 hsz]
    exact hg.st.putK hd1 (Ext.refl w) NewOk.none .none (rgOff_given hcl0 hfr hg) (by simp) (ClaimX.dropS (hcl _ _))
  split at hm
  · rename_i m0 og0 hop
    split at hm
    · rename_i m μ1 hgv
      cases hm
      have hc0 := op_sound (s := 0) h hs (τ := V.τ) (ty := o.type) (by rw [hX0]; exact hXu)
      rw [hX0, hop] at hc0
      obtain ⟨dd, oo, e1, _, _⟩ := hc0
      subst e1
      obtain ⟨vs, C1, hv1, hv2, hG⟩ := give_sound (T := fun _ => ⟨d, []⟩) (τ := V.τ) (ty := o.type) (ds := [dd]) hcl0 hs (tg_clear (T := fun _ => ⟨d, []⟩) (n := 1) h (fun _ => rfl) (by intro j k q q' hj hk hne; omega)) (fun _ t ht => hgd hgv t ht) hgv (by rw [hX0]; rfl)
      refine fin hG ?_
      intro φ' tm'
      refine ⟨dd, oo, rfl, ?_, fun _ => trivial⟩
      have hve := hv2 dd oo hX0
      subst hve
      have hrep := hG.rep 0 m dd _ rfl rfl rfl
      exact hrep.ext hG.st (Ext.refl w) _
    · cases hm
  · rename_i ms0 og0 hop
    split at hm
    · rename_i ms μ1 hgv
      cases hm
      have hc0 := op_sound (s := 0) h hs (τ := V.τ) (ty := o.type) (by rw [hX0]; exact hXu)
      rw [hX0, hop] at hc0
      obtain ⟨dd, oo, vs0, e1, e2, e3, e4, _, _⟩ := hc0
      subst e1
      obtain ⟨vs, C1, hv1, _, hG⟩ := give_sound (T := fun k => ⟨d, [(0, k)]⟩) (τ := V.τ) (ty := o.type) (ds := dd) hcl0 hs (tg_clear (T := fun k => ⟨d, [(0, k)]⟩) (n := dd.length) h (fun _ => rfl) (by
        intro j k q q' _ _ hne e
        simp only [Pl.ext, List.cons_append, List.nil_append, Pl.mk.injEq, List.cons.injEq, Prod.mk.injEq, true_and] at e
        exact hne e.1)) (fun _ t ht => hgd hgv t ht) hgv (by rw [hX0]; rfl)
      refine fin hG ?_
      intro φ' tm'
      have hve : vs = vs0.toList := by
        rw [e2] at hv1
        have : vs0 = vs.toArray := hv1
        rw [this]
      refine ⟨dd, oo, vs0, rfl, e2, e3, hG.len, ?_, trivial⟩
      intro i j row d' m q1 q2 q3
      cases i with
      | succ i => simp at q1
      | zero =>
        simp only [List.getElem?_cons_zero, Option.some.injEq] at q1
        subst q1
        have hj := (List.getElem?_eq_some_iff.1 q2).1
        have hv : vs[j]? = some (vs0.getD j undef) := by
          rw [hve, Array.getElem?_toList, Array.getElem?_eq_getElem (by omega)]
          simp [Array.getD, show j < vs0.size by omega]
        exact (hG.rep j m d' _ q3 q2 hv).ext hG.st (Ext.refl w) _
    · cases hm
  · cases hm

/-- A component of a tuple that takes along. -/
theorem s_extractT {y : Operand} {i d : Nat} (ho : o.op = .extract y i) (hd : o.dst = some d) (hd1 : d < 1000) (hsz : d < a.tmps.size) (h : St A w μ φ (tmO a.tmps g) C) (hs : sm1 y = true)
    (hx : pureX V.τ φ o.op o.type = some x) (hm : extractT μ y i d = some μ') : OpOk V A w a g o (upd φ d x) μ' := by
  unfold extractT at hm
  split at hm
  · rename_i t
    split at hm
    · rename_i b n hμt
      split at hm
      · rename_i hin
        have ht : t < 1000 := by simpa [sm1] using hs
        rw [ho] at hx
        simp only [pureX] at hx
        split at hx
        · rename_i b' n' hφ
          split at hx
          · rename_i hin'
            have hu : φ t ≠ .u := by rw [hφ]; simp
            have hcl := (h.slot t).resolve_left hu
            unfold Claim at hcl
            rw [hμt, hφ] at hcl
            obtain ⟨e0, _, vsT, e1, e2, e3⟩ := hcl
            cases e0
            rw [tmO_eval ht] at e1
            have hti : vsT.getD i undef = tmO a.tmps g (cix b i) := e3 i hin
            have hrun : (execOp a.eval o).run V.P w = .ok (.value (tmO a.tmps g (cix b i))) w := by
              rw [← hti]
              simp only [execOp, ho, e1, Instr.extract]
              have hlt : i < vsT.size := by omega
              simp [hlt, Array.getD_eq_getD_getElem?]
            have hxu : cpX (cix b i) (φ (cix b i)) = x ∧ x ≠ .u := by
              generalize cpX (cix b i) (φ (cix b i)) = q at hx
              cases q <;> first | (cases hx; done) | (cases hx; exact ⟨rfl, by simp⟩)
            obtain ⟨hX0, hXu⟩ := hxu
            have hsu : φ (cix b i) ≠ .u := by intro e; rw [e] at hX0; exact hXu hX0.symm
            have hcl0 := h.clear hd1
            have hfr : FreeAt (C.drop d w.heap.size fun _ => none) d := freeAt_drop fun b o hb => (h.own b o hb).1
            have hclq := (h.slot (cix b i)).resolve_left hsu
            unfold moveT at hm
            have hgd : ∀ {l ms μ1}, give (μ.clear d) (.tmp (cix b i)) l = some (ms, μ1) → d ≠ cix b i := by
              rintro l ms μ1 hg rfl
              simp only [give, get_clear, hit_self, if_true] at hg
              cases hg
            have fin : ∀ {sm : SM} {ms : List M} {ds : List D} {vs : List Value} {T : Nat → Pl} {C1 : Cx} {μ1 : Mu} {x : X}, Given A w φ (tmO a.tmps g) (C.drop d w.heap.size fun _ => none) T μ1 ms ds vs C1 →
                (∀ φ' tm', ClaimX w (C1.add w.heap.size fun _ => none) φ' tm' d x (tmO a.tmps g (cix b i)) sm) → OpOk V A w a g o (upd φ d x) (μ1.put d sm) := by
              intro sm ms ds vs T C1 μ1 x hg hcl
              refine ⟨_, _, w, C1.add w.heap.size fun _ => none, g, hrun, .inl rfl, ?_⟩
              rw [hd, tm_put hd1 hsz]
              exact hg.st.putK hd1 (Ext.refl w) NewOk.none .none (rgOff_given hcl0 hfr hg) (by simp) (ClaimX.dropS (hcl _ _))
            have hopm : opM μ (.tmp (cix b i)) = cpM (cix b i) (μ.get (cix b i)) := rfl
            have hcl1 : ClaimX w C φ (tmO a.tmps g) (cix b i) (φ (cix b i)) (tmO a.tmps g (cix b i)) (μ.get (cix b i)) := hclq
            split at hm
            · rename_i m0 og0 hop
              split at hm
              · rename_i m μ1 hgv
                cases hm
                have hdd : ∃ dd oo, x = .d dd oo := by
                  rw [hopm] at hop
                  generalize μ.get (cix b i) = sm at hop hcl1
                  cases sm <;> simp [cpM] at hop
                  obtain ⟨dd, oo, k1, _⟩ := hcl1
                  rw [← hX0, k1]
                  cases dd <;> exact ⟨_, _, rfl⟩
                obtain ⟨dd, oo, rfl⟩ := hdd
                obtain ⟨vs, C1, hv1, hv2, hG⟩ := give_slot (T := fun _ => ⟨d, []⟩) (ds := [dd]) hcl0 (tg_clear (T := fun _ => ⟨d, []⟩) (n := 1) h (fun _ => rfl) (by intro j k q q' hj hk hne; omega)) (fun _ => hgd hgv) hgv (by rw [hX0]; rfl)
                refine fin hG ?_
                intro φ' tm'
                refine ⟨dd, oo, rfl, ?_, fun _ => trivial⟩
                have hve := hv2 dd oo hX0
                subst hve
                have hrep := hG.rep 0 m dd _ rfl rfl rfl
                exact hrep.ext hG.st (Ext.refl w) _
              · cases hm
            · rename_i ms0 og0 hop
              split at hm
              · rename_i ms μ1 hgv
                cases hm
                have hdd : ∃ dd oo vs0, x = .agg dd oo ∧ tmO a.tmps g (cix b i) = .agg vs0 ∧ vs0.size = dd.length := by
                  rw [hopm] at hop
                  generalize μ.get (cix b i) = sm at hop hcl1
                  cases sm <;> simp [cpM] at hop
                  obtain ⟨dd, oo, vs0, k1, k2, k3, _⟩ := hcl1
                  rw [← hX0, k1]
                  exact ⟨_, _, vs0, rfl, k2, k3⟩
                obtain ⟨dd, oo, vs0, rfl, e2', e3'⟩ := hdd
                obtain ⟨vs, C1, hv1, _, hG⟩ := give_slot (T := fun k => ⟨d, [(0, k)]⟩) (ds := dd) hcl0 (tg_clear (T := fun k => ⟨d, [(0, k)]⟩) (n := dd.length) h (fun _ => rfl) (by
                  intro j k q q' _ _ hne e
                  simp only [Pl.ext, List.cons_append, List.nil_append, Pl.mk.injEq, List.cons.injEq, Prod.mk.injEq, true_and] at e
                  exact hne e.1)) (fun _ => hgd hgv) hgv (by rw [hX0]; rfl)
                refine fin hG ?_
                intro φ' tm'
                have hve : vs = vs0.toList := by
                  rw [e2'] at hv1
                  have : vs0 = vs.toArray := hv1
                  rw [this]
                refine ⟨dd, oo, vs0, rfl, e2', e3', hG.len, ?_, trivial⟩
                intro i' j row d' m q1 q2 q3
                cases i' with
                | succ i' => simp at q1
                | zero =>
                  simp only [List.getElem?_cons_zero, Option.some.injEq] at q1
                  subst q1
                  have hj := (List.getElem?_eq_some_iff.1 q2).1
                  have hv : vs[j]? = some (vs0.getD j undef) := by
                    rw [hve, Array.getElem?_toList, Array.getElem?_eq_getElem (by omega)]
                    simp [Array.getD, show j < vs0.size by omega]
                  exact (hG.rep j m d' _ q3 q2 hv).ext hG.st (Ext.refl w) _
              · cases hm
            · cases hm
          · cases hx
        · cases hx
      · cases hm
    · cases hm
  · cases hm

theorem flatL_get : ∀ {zs : List ZC} {ms : List M} {k : Nat} {m : M}, (flatL zs ms)[k]? = some m → ∃ z m0, zs[k]? = some z ∧ ms[k]? = some m0 ∧ m = flatM z m0
  | [], ms, k, m, h => by simp [flatL] at h
  | z :: zs, [], k, m, h => by simp [flatL] at h
  | z :: zs, m0 :: ms, k, m, h => by
    cases k with
    | zero => simp only [flatL, List.getElem?_cons_zero, Option.some.injEq] at h; exact ⟨z, m0, rfl, rfl, h.symm⟩
    | succ k => simp only [flatL, List.getElem?_cons_succ] at h ⊢; exact flatL_get h

theorem flatL_len : ∀ {zs : List ZC} {ms : List M}, zs.length = ms.length → (flatL zs ms).length = ms.length
  | [], [], _ => rfl
  | [], _ :: _, h => by simp at h
  | _ :: _, [], h => by simp at h
  | _ :: zs, _ :: ms, h => by simp only [flatL, List.length_cons] at h ⊢; rw [flatL_len (by omega)]

theorem s_box {t : Nat} {y : Operand} {d : Nat} {cols : List M} (Sg : Nat → Option Sig) (ho : o.op = .box t y) (hd : o.dst = some d) (hd1 : d < 1000) (hsz : d < a.tmps.size) (h : St A w μ φ (tmO a.tmps g) C) (hs : sm1 y = true)
    (hx : pureX V.τ φ o.op o.type = some x) (hm : chkOp V.τ Sg cols o μ = some μ') : OpOk V A w a g o (upd φ d x) μ' := by
  unfold chkOp at hm
  rw [ho] at hx hm
  simp only [hd] at hm
  simp only [pureX] at hx
  split at hx
  · rename_i e cs he hcs
    split at hx
    · rename_i hfit
      cases hx
      rw [he] at hm
      simp only at hm
      split at hm
      · rename_i ms μ1 hgv
        cases hm
        have hcl0 := h.clear hd1
        have hfr : FreeAt (C.drop d w.heap.size fun _ => none) d := freeAt_drop fun b o hb => (h.own b o hb).1
        have hgd : ∀ t, y = .tmp t → d ≠ t := by
          rintro t rfl rfl
          simp only [give, get_clear, hit_self, if_true] at hgv
          cases hgv
        obtain ⟨vs, C1, hv1, _, hG⟩ := give_sound (T := fun k => ⟨d, [(0, k)]⟩) (τ := V.τ) (ty := t) (ds := cs) hcl0 hs (tg_clear (T := fun k => ⟨d, [(0, k)]⟩) (n := cs.length) h (fun _ => rfl) (by
          intro j k q q' _ _ hne e
          simp only [Pl.ext, List.cons_append, List.nil_append, Pl.mk.injEq, List.cons.injEq, Prod.mk.injEq, true_and] at e
          exact hne e.1)) (fun _ t ht => hgd t ht) hgv hcs
        have hrun : (Instr.box t (a.eval y)).run V.P w = .ok (.pointer (some ⟨w.heap.size, 0, none⟩)) (w.alloc (.cells vs.toArray t)) := by
          simp [Instr.box, newVar_run, hv1]
        have hsz' : (w.alloc (.cells vs.toArray t)).heap = w.heap.push (.cells vs.toArray t) := rfl
        refine ⟨.value (.pointer (some ⟨w.heap.size, 0, none⟩)), .pointer (some ⟨w.heap.size, 0, none⟩), w.alloc (.cells vs.toArray t), C1.add w.heap.size (newOne w.heap.size d ⟨⟨d, []⟩, 0, 0, 0⟩), g, ?_, .inl rfl, ?_⟩
        · simp only [execOp, ho]
          exact exec_value hrun
        · rw [hd, tm_put hd1 hsz]
          refine hG.st.putK hd1 alloc_ext (newOne_ok (by rw [hsz']; simp)) (newOne_own (arr := vs.toArray) (ty := t) (by rw [hsz']; simp) (by simp)) (rgOff_given hcl0 hfr hG) ?_ (ClaimX.dropS ?_)
          · intro b o' hb hN b' o'' hb'
            unfold newOne at hN
            split at hN
            · cases hN
              rcases hG.own b' o'' hb' with h1 | ⟨_, k, q, _, h2⟩
              · have := hfr b' o'' h1
                intro e
                rw [← e] at this
                rw [hit_self] at this; cases this
              · rw [h2]; simp [Pl.ext]
            · cases hN
          · have hl := hG.len
            have hlv := hG.lenv
            have hfl := fits_len hfit
            have hml : (flatL e.zero ms).length = cs.length := by rw [flatL_len (by omega)]; exact hl
            refine ⟨cs, w.heap.size, 0, vs.toArray, rfl, rfl, ⟨by simp [Cx.add, newOne], ⟨t, by rw [hsz']; simp⟩, ?_, ?_, .inl (by simp), ?_⟩⟩
            · intro i row hrow
              cases i with
              | succ i => simp at hrow
              | zero =>
                simp only [List.getElem?_cons_zero, Option.some.injEq] at hrow
                subst hrow
                simp; omega
            · intro i row hrow
              cases i with
              | succ i => simp at hrow
              | zero =>
                simp only [List.getElem?_cons_zero, Option.some.injEq] at hrow
                subst hrow
                exact hml.symm
            · intro i j row d' m h1 h2 h3
              cases i with
              | succ i => simp at h1
              | zero =>
                simp only [List.getElem?_cons_zero, Option.some.injEq] at h1
                subst h1
                obtain ⟨z, m0, q1, q2, rfl⟩ := flatL_get h3
                have hj := (List.getElem?_eq_some_iff.1 h2).1
                have hv : vs[j]? = some (vs.toArray.getD (0 + 0 * 0 + j) undef) := by
                  have : j < vs.length := by omega
                  simp [Array.getD, this]
                have hrep := (hG.rep j m0 d' _ q2 h2 hv).ext hG.st (alloc_ext (vs := vs.toArray) (ty := t)) (newOne w.heap.size d ⟨⟨d, []⟩, 0, 0, 0⟩)
                exact flat_rep (fits_at hfit q1 h2) hrep (fun h => h) hrep
      · cases hm
    · cases hx
  · cases hx
end
end Go.Ev

/- Cells are written: what the writing does to data and to labels. -/
namespace Go.Ev

/-- Cells put over cells of a row. -/
theorem splice_get {α : Type} {row new : List α} {c : Nat} (hl : c + new.length ≤ row.length) (j : Nat) :
    (row.take c ++ new ++ row.drop (c + new.length))[j]? = if j < c then row[j]? else if j < c + new.length then new[j - c]? else row[j]? := by
  rw [List.append_assoc, List.getElem?_append, List.length_take, Nat.min_eq_left (by omega)]
  by_cases h1 : j < c
  · rw [if_pos h1, if_pos h1, List.getElem?_take, if_pos h1]
  · rw [if_neg h1, if_neg h1, List.getElem?_append]
    by_cases h2 : j < c + new.length
    · rw [if_pos (by omega), if_pos h2]
    · rw [if_neg (by omega), if_neg h2, List.getElem?_drop]
      congr 1
      omega

theorem splice_length {α : Type} {row new : List α} {c : Nat} (hl : c + new.length ≤ row.length) : (row.take c ++ new ++ row.drop (c + new.length)).length = row.length := by
  simp; omega

/-- Cells elsewhere are as they were. -/
theorem cells_same {new row : List D} {i c : Nat} {rs : List (List D)} (hrow : rs[i]? = some row) (hl : c + new.length ≤ row.length) : ∀ (st st' : List (Nat × Nat)) (rows : List (List D)),
    rowsD rows st = some rs → ¬ st'.map (·.2) <+: st.map (·.2) → (∀ k, k < new.length → ¬ (st.map (·.2) ++ [c + k]) <+: st'.map (·.2)) →
    cellsIn (setD rows st (rs.set i (row.take c ++ new ++ row.drop (c + new.length)))) st' 1 = cellsIn rows st' 1
  | _, [], _, _, h, _ => (h (by simp)).elim
  | [], (i1, c1) :: r, rows, hr, _, hk => by
    simp only [rowsD, Option.some.injEq] at hr
    subst hr
    simp only [setD]
    have hc1 : c1 < c ∨ c + new.length ≤ c1 := by
      rcases Nat.lt_or_ge c1 c with h | h
      · exact .inl h
      · right
        rcases Nat.lt_or_ge c1 (c + new.length) with h2 | h2
        · exfalso
          refine hk (c1 - c) (by omega) ?_
          have e : c + (c1 - c) = c1 := by omega
          simp [e]
        · exact h2
    by_cases hi : i1 = i
    · subst hi
      have hlt := (List.getElem?_eq_some_iff.1 hrow).1
      have hget : ∀ j, (j < c ∨ c + new.length ≤ j) → (row.take c ++ new ++ row.drop (c + new.length))[j]? = row[j]? := by
        intro j hj
        rw [splice_get hl]
        split
        · rfl
        · rw [if_neg (by omega)]
      have hset : (rows.set i1 (row.take c ++ new ++ row.drop (c + new.length)))[i1]? = some (row.take c ++ new ++ row.drop (c + new.length)) := by simp [hlt]
      cases r with
      | nil =>
        simp only [cellsIn]
        rw [hset, hrow]
        simp only
        rw [splice_length hl]
        split
        · rw [List.take_one, List.take_one, List.head?_drop, List.head?_drop, hget c1 hc1]
        · rfl
      | cons q r =>
        simp only [cellsIn]
        rw [hset, hrow]
        simp only
        rw [hget c1 hc1]
    · have hset : (rows.set i (row.take c ++ new ++ row.drop (c + new.length)))[i1]? = rows[i1]? := by
        rw [List.getElem?_set_ne (fun e => hi e.symm)]
      cases r with
      | nil => simp only [cellsIn]; rw [hset]
      | cons q r => simp only [cellsIn]; rw [hset]
  | (i0, c0) :: st, (i1, c1) :: r, rows, hr, hp, hk => by
    simp only [rowsD] at hr
    split at hr
    · rename_i row0 hrow0
      split at hr
      · rename_i z0 rs0 hd
        have hset : setD rows ((i0, c0) :: st) (rs.set i (row.take c ++ new ++ row.drop (c + new.length))) =
            rows.set i0 (row0.set c0 (.sl z0 (setD rs0 st (rs.set i (row.take c ++ new ++ row.drop (c + new.length)))))) := by simp only [setD, hrow0, hd]
        rw [hset]
        have hlt := (List.getElem?_eq_some_iff.1 hrow0).1
        have hltc := (List.getElem?_eq_some_iff.1 hd).1
        by_cases hi : i1 = i0
        · subst hi
          have h1 : (rows.set i1 (row0.set c0 (.sl z0 (setD rs0 st (rs.set i (row.take c ++ new ++ row.drop (c + new.length)))))))[i1]? = some (row0.set c0 (.sl z0 (setD rs0 st (rs.set i (row.take c ++ new ++ row.drop (c + new.length)))))) := by simp [hlt]
          by_cases hc : c1 = c0
          · subst hc
            cases r with
            | nil =>
              exfalso
              exact hp (by simp)
            | cons q r =>
              simp only [cellsIn]
              rw [h1, hrow0]
              simp only
              rw [hd]
              rw [show (row0.set c1 (.sl z0 (setD rs0 st (rs.set i (row.take c ++ new ++ row.drop (c + new.length))))))[c1]? = some (.sl z0 (setD rs0 st (rs.set i (row.take c ++ new ++ row.drop (c + new.length))))) by simp [hltc]]
              simp only
              refine cells_same hrow hl st (q :: r) rs0 hr ?_ ?_
              · intro h
                exact hp (by simp only [List.map_cons]; exact List.prefix_cons_inj c1 |>.2 h)
              · intro k hk' h
                exact hk k hk' (by simp only [List.map_cons, List.cons_append]; exact List.prefix_cons_inj c1 |>.2 h)
          · have h2 : (row0.set c0 (.sl z0 (setD rs0 st (rs.set i (row.take c ++ new ++ row.drop (c + new.length))))))[c1]? = row0[c1]? := by
              rw [List.getElem?_set_ne (fun e => hc e.symm)]
            cases r with
            | nil =>
              simp only [cellsIn]
              rw [h1, hrow0]
              simp only [List.length_set]
              split
              · rw [List.take_one, List.take_one, List.head?_drop, List.head?_drop, h2]
              · rfl
            | cons q r =>
              simp only [cellsIn]
              rw [h1, hrow0]
              simp only
              rw [h2]
        · have h1 : (rows.set i0 (row0.set c0 (.sl z0 (setD rs0 st (rs.set i (row.take c ++ new ++ row.drop (c + new.length)))))))[i1]? = rows[i1]? := by
            rw [List.getElem?_set_ne (fun e => hi e.symm)]
          cases r with
          | nil => simp only [cellsIn]; rw [h1]
          | cons q r => simp only [cellsIn]; rw [h1]
      · cases hr
    · cases hr

/-! ## Ownership lands at the cells written -/

structure Spot where
  s : Nat
  st : List (Nat × Nat)
  i : Nat
  c : Nat
  n : Nat

def Spot.T (S : Spot) (k : Nat) : Pl := ⟨S.s, S.st ++ [(S.i, S.c + k)]⟩
def Spot.row (S : Spot) : List Nat := S.s :: S.st.map (·.2)
def src (k : Nat) : Pl := ⟨gam, [(0, k)]⟩

def Spot.pl (S : Spot) (o : Pl) : Option Pl :=
  if o.s = gam then (match o.st with
    | (0, k) :: q => if k < S.n then some ⟨S.s, S.st ++ (S.i, S.c + k) :: q⟩ else none
    | _ => none)
  else if o.s = S.s then (match strip S.st o.st with
    | some ((i', c') :: _) => if i' = S.i ∧ S.c ≤ c' ∧ c' < S.c + S.n then none else some o
    | _ => some o)
  else some o

def Cx.land (C : Cx) (S : Spot) : Cx where
  own b := (C.own b).bind fun o => (S.pl o.p).map fun p => { o with p := p }
  G b := C.G b ∨ ∃ o, C.own b = some o ∧ S.pl o.p = none
  PA := C.PA

def Spot.lab (S : Spot) : Pv → Option Pv := landP S.row S.c

def Spot.f (S : Spot) : PF := landF S.row S.c

section
variable {C : Cx} {S : Spot}

theorem land_inv {b : Nat} {o' : Ow} (h : (C.land S).own b = some o') : ∃ o, C.own b = some o ∧ S.pl o.p = some o'.p ∧ o'.off = o.off ∧ o'.cap = o.cap ∧ o'.z = o.z := by
  simp only [Cx.land] at h
  cases ho : C.own b with
  | none => rw [ho] at h; cases h
  | some o =>
    rw [ho] at h
    simp only [Option.bind_some, Option.map_eq_some_iff] at h
    obtain ⟨p, h1, rfl⟩ := h
    exact ⟨o, rfl, h1, rfl, rfl, rfl⟩

theorem land_of {b : Nat} {o : Ow} {p : Pl} (h : C.own b = some o) (hp : S.pl o.p = some p) : (C.land S).own b = some { o with p := p } := by
  simp [Cx.land, h, hp]

theorem pl_src {k : Nat} {q : List (Nat × Nat)} (hk : k < S.n) : S.pl ((src k).ext q) = some ((S.T k).ext q) := by
  simp [Spot.pl, src, Pl.ext, Spot.T, hk]

theorem pl_other {o : Pl} (h1 : o.s ≠ gam) (h2 : o.s ≠ S.s) : S.pl o = some o := by simp [Spot.pl, h1, h2]

/-- A place of the slot that is not below the cells written. -/
theorem pl_same {o : Pl} (h1 : o.s ≠ gam) (h2 : ∀ k, k < S.n → ¬ (S.T k).lab <+: o.lab) : S.pl o = some o := by
  unfold Spot.pl
  rw [if_neg h1]
  split
  · rename_i hs
    split
    · rename_i i' c' q hst
      split
      · rename_i hc
        exfalso
        rw [strip_some] at hst
        refine h2 (c' - S.c) (by omega) ?_
        have e : S.c + (c' - S.c) = c' := by omega
        obtain ⟨os, ost⟩ := o
        simp only at hs hst
        subst hs
        rw [hst]
        simp [Pl.lab, Spot.T, e]
      · rfl
    · rfl
  · rfl

theorem pl_cases {o p : Pl} (h : S.pl o = some p) : (∃ k q, k < S.n ∧ o = (src k).ext q ∧ p = (S.T k).ext q) ∨ (o = p ∧ o.s ≠ gam ∧ ∀ k q, k < S.n → o ≠ (S.T k).ext q) := by
  unfold Spot.pl at h
  split at h
  · rename_i hs
    split at h
    · rename_i k q hst
      split at h
      · rename_i hk
        cases h
        left
        refine ⟨k, q, hk, ?_, by simp [Spot.T, Pl.ext]⟩
        obtain ⟨os, ost⟩ := o
        simp only at hs hst
        subst hs; subst hst
        rfl
      · cases h
    · cases h
  · rename_i hs
    right
    split at h
    · rename_i hs2
      split at h
      · rename_i i' c' q hst
        split at h
        · cases h
        · rename_i hc
          cases h
          refine ⟨rfl, hs, ?_⟩
          intro k q' hk e
          rw [strip_some] at hst
          rw [e] at hst
          simp only [Spot.T, Pl.ext, List.append_assoc, List.cons_append, List.nil_append] at hst
          have := List.append_cancel_left hst
          simp only [List.cons.injEq, Prod.mk.injEq] at this
          exact hc ⟨this.1.1.symm, by omega, by omega⟩
      · rename_i hst
        cases h
        refine ⟨rfl, hs, ?_⟩
        intro k q' hk e
        refine hst (S.i) (S.c + k) q' ?_
        rw [strip_some, e]
        simp [Spot.T, Pl.ext]
    · rename_i hs2
      cases h
      refine ⟨rfl, hs, ?_⟩
      intro k q' hk e
      rw [e] at hs2
      exact hs2 rfl

theorem pl_inj {o1 o2 p : Pl} (h1 : S.pl o1 = some p) (h2 : S.pl o2 = some p) : o1 = o2 := by
  rcases pl_cases h1 with ⟨k1, q1, a1, a2, a3⟩ | ⟨a1, a2, a3⟩ <;> rcases pl_cases h2 with ⟨k2, q2, b1, b2, b3⟩ | ⟨b1, b2, b3⟩
  · rw [a3] at b3
    simp only [Spot.T, Pl.ext, List.append_assoc, List.cons_append, List.nil_append, Pl.mk.injEq, true_and] at b3
    have := List.append_cancel_left b3
    simp only [List.cons.injEq, Prod.mk.injEq, true_and] at this
    have hk : k1 = k2 := by omega
    rw [a2, b2, hk, this.2]
  · exact (b3 k1 q1 a1 (by rw [b1, a3])).elim
  · exact (a3 k2 q2 b1 (by rw [a1, b3])).elim
  · rw [a1, b1]

theorem mapM_mem {α β : Type} {f : α → Option β} : ∀ {l : List α} {l' : List β}, l.mapM f = some l' → ∀ a ∈ l, ∃ b ∈ l', f a = some b
  | [], _, _, a, h => by simp at h
  | x :: l, l', h, a, ha => by
    simp only [List.mapM_cons, Option.bind_eq_bind, Option.pure_def] at h
    cases hx : f x with
    | none => rw [hx] at h; cases h
    | some y =>
      rw [hx] at h
      simp only [Option.bind_some] at h
      cases hl : l.mapM f with
      | none => rw [hl] at h; cases h
      | some ys =>
        rw [hl] at h
        simp only [Option.bind_some, Option.some.injEq] at h
        subst h
        rcases List.mem_cons.1 ha with rfl | ha
        · exact ⟨y, by simp, hx⟩
        · obtain ⟨b, hb, hb2⟩ := mapM_mem hl a ha
          exact ⟨b, by simp [hb], hb2⟩

/-- What is viewed stays, and is not what is written. -/
theorem land_ok {ps ps' : List Pv} {b bw : Nat} (hbw : ∃ off cap z, C.own bw = some ⟨⟨S.s, S.st⟩, off, cap, z⟩) (hnG : ¬ C.G bw) (hnP : ∀ i, ¬ C.PA i bw) (hsg : S.s ≠ gam) (hf : S.f ps = some ps') (h : okB C ps b) : okB (C.land S) ps' b ∧ b ≠ bw := by
  unfold Spot.f landF at hf
  change (ps.mapM S.lab).bind (killF S.row) = some ps' at hf
  cases hm : ps.mapM S.lab with
  | none => rw [hm] at hf; cases hf
  | some qs =>
    rw [hm] at hf
    simp only [Option.bind_some, killF] at hf
    split at hf
    · cases hf
    · rename_i hkill
      cases hf
      rcases h with h | ⟨v, hv, h⟩
      · exact ⟨.inl (.inl h), by rintro rfl; exact hnG h⟩
      · obtain ⟨v', hv', hlab⟩ := mapM_mem hm v hv
        cases v with
        | arg i =>
          simp only [Spot.lab, landP, Option.some.injEq] at hlab
          subst hlab
          exact ⟨.inr ⟨_, hv', h⟩, by rintro rfl; exact hnP i h⟩
        | lab l =>
          obtain ⟨o, ho, hl⟩ := h
          have hnk : ∀ l', v' = .lab l' → ¬ l' <+: S.row := by
            rintro l' rfl hp
            refine hkill ?_
            rw [List.any_eq_true]
            exact ⟨_, hv', isPre_iff.2 hp⟩
          have hne : b ≠ bw := by
            rintro rfl
            obtain ⟨off, cap, z, hw⟩ := hbw
            rw [hw] at ho; cases ho
            have hl' : l <+: S.row := hl
            match l, hlab, hl' with
            | [], hlab, hl' => simp only [Spot.lab, landP, Option.some.injEq] at hlab; exact hnk _ hlab.symm hl'
            | [a], hlab, hl' =>
              simp only [Spot.lab, landP] at hlab
              split at hlab
              · cases hlab
              · simp only [Option.some.injEq] at hlab; exact hnk _ hlab.symm hl'
            | a :: k :: r, hlab, hl' =>
              simp only [Spot.lab, landP] at hlab
              split at hlab
              · rename_i hg
                have := (List.cons_prefix_cons.1 hl').1
                exact hsg (by rw [← this, hg])
              · simp only [Option.some.injEq] at hlab; exact hnk _ hlab.symm hl'
          refine ⟨?_, hne⟩
          cases hpl : S.pl o.p with
          | none => exact .inl (.inr ⟨o, ho, hpl⟩)
          | some p =>
            right
            refine ⟨v', hv', ?_⟩
            rcases pl_cases hpl with ⟨k, q, _, e1, e2⟩ | ⟨e1, e2, _⟩
            · have hin := land_of ho hpl
              have hlo : o.p.lab = gam :: k :: q.map (·.2) := by rw [e1]; rfl
              have hlp : p.lab = S.row ++ (S.c + k) :: q.map (·.2) := by rw [e2]; simp [Spot.T, Pl.ext, Pl.lab, Spot.row]
              rw [hlo] at hl
              match l, hlab, hl with
              | [], hlab, hl => simp only [Spot.lab, landP, Option.some.injEq] at hlab; subst hlab; exact ⟨_, hin, List.nil_prefix⟩
              | [a], hlab, hl =>
                have := (List.cons_prefix_cons.1 hl).1
                subst this
                simp [Spot.lab, landP] at hlab
              | a :: k' :: r, hlab, hl =>
                obtain ⟨h1, h2⟩ := List.cons_prefix_cons.1 hl
                obtain ⟨h3, h4⟩ := List.cons_prefix_cons.1 h2
                subst h1; subst h3
                simp only [Spot.lab, landP, if_true, Option.some.injEq] at hlab
                subst hlab
                refine ⟨_, hin, ?_⟩
                show _ <+: p.lab
                rw [hlp]
                exact List.prefix_append_right_inj _ |>.2 (List.prefix_cons_inj _ |>.2 h4)
            · have hin := land_of ho hpl
              have hhead : ∀ a r, l = a :: r → a ≠ gam := by
                rintro a r rfl e
                have := (List.cons_prefix_cons.1 hl).1
                exact e2 (by rw [← this, e])
              have hv'l : v' = .lab l := by
                match l, hlab, hhead with
                | [], hlab, _ => simp only [Spot.lab, landP, Option.some.injEq] at hlab; exact hlab.symm
                | [a], hlab, hh => simp only [Spot.lab, landP, hh a [] rfl, if_false, Option.some.injEq] at hlab; exact hlab.symm
                | a :: k :: r, hlab, hh => simp only [Spot.lab, landP, hh a (k :: r) rfl, if_false, Option.some.injEq] at hlab; exact hlab.symm
              subst hv'l
              exact ⟨_, hin, by show l <+: p.lab; rw [← e1]; exact hl⟩
end
end Go.Ev

/- The cells written: all that stands still stands. -/
namespace Go.Ev

theorem isCell_one (v : Value) : v.isCell = v.oneCell' := by cases v <;> rfl


section
variable {V : Env} {w : World}

theorem store_run {t : TypeId} {e : TE} {b off : Nat} {arr : Array Value} {ty : TypeId} {v : Value} {vs : List Value} (he : V.get t = some e) (hv : v.cells = vs.toArray) (hl : vs.length = e.size)
    (hb : w.heap[b]? = some (.cells arr ty (0, 0))) (hs : off + vs.length ≤ arr.size) (hc : ∀ x ∈ vs, x.isCell = true) :
    (storeVar t ⟨b, off, none⟩ v).run V.P w = .ok () (w.setRow b (arr.toList.take off ++ vs ++ arr.toList.drop (off + vs.length)).toArray) := by
  have h1 := run_storeCells_at (P := V.P) b off ty vs 0 arr w hb (by simpa using hs) (fun x hx => by rw [← isCell_one]; exact hc x hx)
  simp only [Nat.add_zero] at h1
  simp only [storeVar, Sem.run_bind, Env.size_run he, Result.andThen_ok, hv]
  simp [hl]
  rw [hl] at h1
  simpa using h1

theorem setRow_get {w : World} {b : Nat} {arr arr' : Array Value} {ty : TypeId} {fz : Nat × Nat} (hb : w.heap[b]? = some (.cells arr ty fz)) : (w.setRow b arr').heap[b]? = some (.cells arr' ty fz) := setRow_heap w b arr arr' ty fz hb

theorem setRow_ne {b b' : Nat} {arr' : Array Value} (h : b' ≠ b) : (w.setRow b arr').heap[b']? = w.heap[b']? := by
  simp only [World.setRow, Array.getElem?_modify]
  rw [if_neg (Ne.symm h)]

theorem setRow_size {b : Nat} {arr' : Array Value} : (w.setRow b arr').heap.size = w.heap.size := by simp [World.setRow]

end

theorem put_snoc {φ φ' : Fr} {p : Pl} {st : List (Nat × Nat)} {i c : Nat} {new : List D} (hp : p.st = st ++ [(i, c)]) (h : putAt φ p new = some φ') :
    ∃ rows rs row x', rowsX (φ p.s) = some rows ∧ rowsD rows st = some rs ∧ rs[i]? = some row ∧ c + new.length ≤ row.length ∧ φ' = upd φ p.s x' ∧
      rowsX x' = some (setD rows st (rs.set i (row.take c ++ new ++ row.drop (c + new.length)))) ∧
      ((∃ cs cs', φ p.s = .box cs ∧ x' = .box cs') ∨ (∃ z rows0 o rows', φ p.s = .d (.sl z rows0) o ∧ x' = .d (.sl z rows') o) ∨ ∃ cs o, φ p.s = .agg cs o) := by
  unfold putAt at h
  split at h
  · rename_i x' hx
    cases h
    unfold putX at hx
    rw [hp] at hx
    have key : ∀ rows r', putIn rows (st ++ [(i, c)]) new = some r' → ∃ rs row, rowsD rows st = some rs ∧ rs[i]? = some row ∧ c + new.length ≤ row.length ∧ r' = setD rows st (rs.set i (row.take c ++ new ++ row.drop (c + new.length))) := by
      intro rows r' hr
      rw [putIn_snoc] at hr
      split at hr
      · rename_i rs hrs
        split at hr
        · rename_i row hrow
          split at hr
          · rename_i hle; cases hr; exact ⟨rs, row, hrs, hrow, hle, rfl⟩
          · cases hr
        · cases hr
      · cases hr
    have hone : ∀ (cs cs' : List D) (tl : List (List D)), putIn [cs] (st ++ [(i, c)]) new = some (cs' :: tl) → tl = [] := by
      intro cs cs' tl hr
      obtain ⟨rs, row, h1, h2, h3, h4⟩ := key _ _ hr
      have hl : (cs' :: tl).length = 1 := by
        rw [h4]
        cases st with
        | nil =>
          simp only [rowsD, Option.some.injEq] at h1
          subst h1
          simp [setD]
        | cons q st => rw [setD_length _ _ _ (by simp)]; rfl
      simpa using hl
    split at hx
    · rename_i cs e
      split at hx
      · rename_i cs' tl hpi
        cases hx
        have := hone _ _ _ hpi
        subst this
        obtain ⟨rs, row, h1, h2, h3, h4⟩ := key _ _ hpi
        exact ⟨[cs], rs, row, .box cs', by rw [e]; rfl, h1, h2, h3, rfl, by rw [← h4]; rfl, .inl ⟨cs, cs', e, rfl⟩⟩
      · cases hx
    · rename_i cs o e
      split at hx
      · rename_i cs' tl hpi
        cases hx
        have := hone _ _ _ hpi
        subst this
        obtain ⟨rs, row, h1, h2, h3, h4⟩ := key _ _ hpi
        exact ⟨[cs], rs, row, .agg cs' o, by rw [e]; rfl, h1, h2, h3, rfl, by rw [← h4]; rfl, .inr (.inr ⟨cs, o, e⟩)⟩
      · cases hx
    · rename_i z rows o e
      split at hx
      · rename_i rows' hpi
        cases hx
        obtain ⟨rs, row, h1, h2, h3, h4⟩ := key _ _ hpi
        exact ⟨rows, rs, row, .d (.sl z rows') o, by rw [e]; rfl, h1, h2, h3, rfl, by rw [← h4]; rfl, .inr (.inl ⟨z, rows, o, rows', e, rfl⟩)⟩
      · cases hx
    · cases hx
  · cases h

theorem leS_view {a : List Pv} {m : M} (h : leS (.view a) m = true) : m = .u ∨ ∃ b, m = .view b ∧ ∀ p ∈ a, p ∈ b := by
  cases m with
  | u => exact .inl rfl
  | view b =>
    right
    refine ⟨b, rfl, ?_⟩
    intro p hp
    simp only [leS, List.all_eq_true] at h
    simpa using h p hp
  | _ => simp [leS] at h

theorem leSL_len : ∀ {as bs : List M}, leSL as bs = true → as.length = bs.length
  | [], [], _ => rfl
  | [], _ :: _, h => by simp [leSL] at h
  | _ :: _, [], h => by simp [leSL] at h
  | _ :: as, _ :: bs, h => by simp only [leSL, Bool.and_eq_true] at h; simp [leSL_len h.2]

theorem leSL_at : ∀ {as bs : List M} {j : Nat} {b : M}, leSL as bs = true → bs[j]? = some b → ∃ a, as[j]? = some a ∧ leS a b = true
  | [], [], j, b, _, h => by simp at h
  | [], _ :: _, j, b, h, _ => by simp [leSL] at h
  | _ :: _, [], j, b, h, _ => by simp [leSL] at h
  | a :: as, b0 :: bs, j, b, h, hb => by
    simp only [leSL, Bool.and_eq_true] at h
    cases j with
    | zero => simp only [List.getElem?_cons_zero, Option.some.injEq] at hb; subst hb; exact ⟨a, rfl, h.1⟩
    | succ j => simp only [List.getElem?_cons_succ] at hb ⊢; exact leSL_at h.2 hb

theorem Rep.leS {w : World} {C : Cx} {p : Pl} {m : M} {d : D} {v : Value} (h : Rep w C p m d v) : ∀ {m' : M}, Ev.leS m m' = true → Rep w C p m' d v := by
  induction h with
  | u =>
    intro m' hl
    cases m' with
    | u => exact .u
    | _ => simp [Ev.leS] at hl
  | emp =>
    intro m' hl
    cases m' with
    | u => exact .u
    | emp => exact .emp
    | own cs => exact .nil
    | view ps => exact .view .nil
  | view h =>
    intro m' hl
    rcases leS_view hl with rfl | ⟨b, rfl, hb⟩
    · exact .u
    · exact .view (h.mono fun b' hb' => ⟨okB_mono hb hb', rfl⟩)
  | nil =>
    intro m' hl
    cases m' with
    | u => exact .u
    | own cs => exact .nil
    | _ => simp [Ev.leS] at hl
  | own h1 h2 h3 h4 h5 h6 h7 _ ih =>
    intro m' hl
    cases m' with
    | u => exact .u
    | own cs =>
      simp only [Ev.leS] at hl
      refine .own h1 h2 h3 h4 (by rw [← leSL_len hl]; exact h5) h6 h7 ?_
      intro i j row d m q1 q2 q3
      obtain ⟨m0, hm0, hle⟩ := leSL_at hl q3
      exact ih i j row d m0 q1 q2 hm0 hle
    | _ => simp [Ev.leS] at hl

theorem under_false {row : List Nat} {c n : Nat} {l : List Nat} (h : under row c n l = false) {k : Nat} (hk : k < n) : ¬ (row ++ [c + k]) <+: l := by
  intro hp
  unfold under at h
  rw [List.any_eq_false] at h
  exact h k (by simpa using hk) (isPre_iff.2 hp)

theorem addLast_map (j : Nat) : ∀ st : List (Nat × Nat), (addLast st j).map (·.2) = addc (st.map (·.2)) j
  | [] => rfl
  | [(i, c)] => rfl
  | a :: b :: st => by
    have := addLast_map j (b :: st)
    simp only [addLast, List.map_cons, addc] at this ⊢
    rw [this]

theorem fin_map (row : List Nat) (c n : Nat) (f : PF) (sm : SM) : finSM row c n (sm.map f) = (finSM row c n sm).map f := by
  cases sm with
  | c m og => cases og <;> simp only [SM.map, finSM] <;> (try split) <;> rfl
  | agg m og => cases og <;> simp only [SM.map, finSM, mapL_len] <;> (try split) <;> rfl
  | vbox ps n => simp only [SM.map, finSM]; cases f ps <;> rfl
  | pv ps q => by_cases e : row.head? = some q <;> cases e2 : f ps <;> simp [SM.map, finSM, e, e2]
  | pt q cs => simp only [SM.map, finSM]; split <;> rfl
  | pa q cs k => simp only [SM.map, finSM]; split <;> rfl
  | _ => rfl

theorem ClaimX.fin {w : World} {C : Cx} {φ : Fr} {tm : Nat → Value} {s : Nat} {row : List Nat} {c n : Nat} {x : X} {v : Value} {sm : SM} (h : ClaimX w C φ tm s x v sm) : ClaimX w C φ tm s x v (finSM row c n sm) := by
  cases sm with
  | c m og =>
    obtain ⟨d, o, e1, e2, e3⟩ := h
    cases og with
    | «at» q cs => simp only [finSM]; split <;> first | exact ⟨d, o, e1, e2, fun _ => trivial⟩ | exact ⟨d, o, e1, e2, e3⟩
    | vw q => simp only [finSM]; split <;> first | exact ⟨d, o, e1, e2, fun _ => trivial⟩ | exact ⟨d, o, e1, e2, e3⟩
    | ats q cs js => exact ⟨d, o, e1, e2, fun _ => trivial⟩
    | no => exact ⟨d, o, e1, e2, e3⟩
    | dead => exact ⟨d, o, e1, e2, e3⟩
  | agg ms og =>
    obtain ⟨ds, o, vs, e1, e2, e3, e4, e5, e6⟩ := h
    cases og with
    | «at» q cs => exact ⟨ds, o, vs, e1, e2, e3, e4, e5, trivial⟩
    | vw q => exact ⟨ds, o, vs, e1, e2, e3, e4, e5, trivial⟩
    | ats q cs js => simp only [finSM]; split <;> first | exact ⟨ds, o, vs, e1, e2, e3, e4, e5, trivial⟩ | exact ⟨ds, o, vs, e1, e2, e3, e4, e5, e6⟩
    | no => exact ⟨ds, o, vs, e1, e2, e3, e4, e5, e6⟩
    | dead => exact ⟨ds, o, vs, e1, e2, e3, e4, e5, e6⟩
  | pt q cs => simp only [finSM]; split; trivial; exact h
  | pa q cs n => simp only [finSM]; split; trivial; exact h
  | pv ps q => simp only [finSM]; split; trivial; exact h
  | _ => exact h

theorem refKeep_fin {C C' : Cx} {φ φ' : Fr} {tm : Nat → Value} {row : List Nat} {c n : Nat} (f : PF) (sm : SM) (s0 : Nat) (hrow : row.head? = some s0) (hφ : ∀ s, s ≠ s0 → φ' s = φ s)
    (ho : ∀ b o, C.own b = some o → under row c n o.p.lab = false → C'.own b = some o ∨ o.p.s = gam) (hg : ∀ q, q = gam → ∀ cs, sm ≠ .pt q cs ∧ (∀ k, sm ≠ .pa q cs k) ∧ (∀ m, sm ≠ .c m (.at q cs)) ∧ ∀ ms js, sm ≠ .agg ms (.ats q cs js))
    (hd : ∀ p : Pl, isPre p.lab row = false → under row c n p.lab = false → dataAt φ' p = dataAt φ p) : RefKeep C C' φ φ' tm tm f (finSM row c n sm) := by
  have hhd : ∀ (p : Pl) d v, p.s ≠ gam → isPre p.lab row = false → under row c n p.lab = false → HdOk C φ p d v → HdOk C' φ' p d v := by
    intro p d v hpg h1 h2 h
    rcases h with ⟨g1, z, g2, g3⟩ | ⟨b, off, c', z, rows0, rows, h0, h01, g1, g2, g3⟩
    · exact .inl ⟨g1, z, g2, by rw [hd p h1 h2]; exact g3⟩
    · exact .inr ⟨b, off, c', z, rows0, rows, h0, h01, g1, (ho b _ g2 h2).resolve_right hpg, by rw [hd p h1 h2]; exact g3⟩
  cases sm with
  | c m og =>
    cases og with
    | «at» s cs =>
      simp only [finSM]
      by_cases e : (isPre (s :: cs) row || under row c n (s :: cs)) = true
      · rw [if_pos e]; trivial
      · rw [if_neg e]
        simp only [Bool.or_eq_true, not_or, Bool.not_eq_true] at e
        refine ⟨?_, fun _ => rfl⟩
        intro p hp hq
        have hl : p.lab = s :: cs := by rw [Pl.lab, hp, hq]
        exact ⟨fun d v => hhd p d v (by intro e'; exact (hg s (by rw [← hp, e']) cs).2.2.1 m rfl) (by rw [hl]; exact e.1) (by rw [hl]; exact e.2), fun _ => hd p (by rw [hl]; exact e.1) (by rw [hl]; exact e.2)⟩
    | vw s =>
      simp only [finSM]
      by_cases e : row.head? = some s
      · rw [if_pos e]; trivial
      · rw [if_neg e]
        intro p hp _
        refine dataAt_same (hφ _ ?_)
        rw [hp]; intro e'; exact e (by rw [hrow, e'])
    | _ => trivial
  | agg ms og =>
    cases og with
    | ats s cs js =>
      simp only [finSM]
      by_cases e : (js.any (fun j => isPre (s :: addc cs j) row || under row c n (s :: addc cs j))) = true
      · rw [if_pos e]; trivial
      · rw [if_neg e]
        simp only [Bool.not_eq_true, List.any_eq_false, Bool.or_eq_true, not_or] at e
        intro p hp hq j hj
        have hl : (p.addc j).lab = s :: addc cs j := by simp only [Pl.addc, Pl.lab, addLast_map, hp, hq]
        obtain ⟨e1, e2⟩ := e j hj
        have e1 : isPre (s :: addc cs j) row = false := by simpa using e1
        have e2 : under row c n (s :: addc cs j) = false := by simpa using e2
        exact ⟨fun d v => hhd (p.addc j) d v (by intro e'; exact (hg s (by rw [← hp]; exact e') cs).2.2.2 ms js rfl) (by rw [hl]; exact e1) (by rw [hl]; exact e2), fun _ => hd (p.addc j) (by rw [hl]; exact e1) (by rw [hl]; exact e2)⟩
    | _ => trivial
  | pt s cs =>
    simp only [finSM]
    by_cases e : under row c n (s :: cs.dropLast) = true
    · rw [if_pos e]; trivial
    · rw [if_neg e]
      intro b st off cap z hb hst
      refine (ho b _ hb ?_).resolve_right ?_
      · show under row c n (s :: st.map (·.2)) = false
        rw [hst]; simpa using e
      · intro e'; exact (hg s e' cs).1 rfl
  | pa s cs k =>
    simp only [finSM]
    by_cases e : under row c n (s :: cs.dropLast) = true
    · rw [if_pos e]; trivial
    · rw [if_neg e]
      intro b st off cap z hb hst
      refine (ho b _ hb ?_).resolve_right ?_
      · show under row c n (s :: st.map (·.2)) = false
        rw [hst]; simpa using e
      · intro e'; exact (hg s e' cs).2.1 k rfl
  | pv ps q =>
    simp only [finSM]
    by_cases e : row.head? = some q
    · rw [if_pos e]; trivial
    · rw [if_neg e]
      have hne : q ≠ s0 := fun e' => e (by rw [hrow, e'])
      exact ⟨fun h => by rw [hφ q hne]; exact h, fun p k hp => cellsAt_same (hφ _ (by rw [hp]; exact hne))⟩
  | tup b n => exact fun _ _ => rfl
  | clo g caps => exact fun _ _ => rfl
  | u => trivial
  | box ms => trivial
  | vbox ps n => trivial
  | fv fs i => trivial
end Go.Ev

/- The row of cells that is written. -/
namespace Go.Ev

mutual
theorem leS_refl : ∀ m : M, leS m m = true
  | .u => rfl
  | .emp => rfl
  | .view a => by simp [leS]
  | .own a => by simp only [leS]; exact leSL_refl a
theorem leSL_refl : ∀ l : List M, leSL l l = true
  | [] => rfl
  | m :: l => by simp only [leSL, leS_refl m, leSL_refl l]; rfl
end

/-- How the columns of the row come out. -/
structure ColsTo (S : Spot) (cols ms cols' : List M) (rl : Nat) : Prop where
  len : cols'.length = cols.length
  out : ∀ (j : Nat) (m' : M), cols'[j]? = some m' → (j < S.c ∨ S.c + S.n ≤ j) → ∃ m, cols[j]? = some m ∧ m' = m.map S.f
  inn : ∀ (k : Nat) (m' : M), k < S.n → cols'[S.c + k]? = some m' → ∃ m, ms[k]? = some m ∧ leS (m.map S.f) m' = true
  all : rl ≤ 1 ∨ ∀ (j : Nat) (m' : M), cols'[j]? = some m' → ∃ m, cols[j]? = some m ∧ m' = m.map S.f

theorem colsTo_strong {S : Spot} {old ms : List M} {rl : Nat} (hl : S.c + S.n ≤ old.length) (hm : ms.length = S.n) (hr : rl ≤ 1) : ColsTo S old ms (spliceM (mapL S.f old) S.c (mapL S.f ms)) rl := by
  have hml : (mapL S.f ms).length = S.n := by rw [mapL_len]; exact hm
  have hol : (mapL S.f old).length = old.length := mapL_len
  have hle : S.c + (mapL S.f ms).length ≤ (mapL S.f old).length := by omega
  refine ⟨?_, ?_, ?_, .inl hr⟩
  · unfold spliceM; rw [splice_length hle, hol]
  · intro j m' hj hout
    unfold spliceM at hj
    rw [splice_get hle] at hj
    have : (mapL S.f old)[j]? = some m' := by
      split at hj
      · exact hj
      · rw [if_neg (by omega)] at hj; exact hj
    exact mapL_get this
  · intro k m' hk hj
    unfold spliceM at hj
    rw [splice_get hle, if_neg (by omega), if_pos (by omega)] at hj
    have e : S.c + k - S.c = k := by omega
    rw [e] at hj
    obtain ⟨m, h1, rfl⟩ := mapL_get hj
    exact ⟨m, h1, leS_refl _⟩

theorem colsTo_weak {S : Spot} {cols ms : List M} {rl : Nat} (hm : ms.length = S.n) (hle : ∀ k m m0, ms[k]? = some m → cols[S.c + k]? = some m0 → leS (m.map S.f) (m0.map S.f) = true) : ColsTo S cols ms (mapL S.f cols) rl := by
  refine ⟨mapL_len, fun j m' hj _ => mapL_get hj, ?_, .inr fun j m' hj => mapL_get hj⟩
  intro k m' hk hj
  obtain ⟨m0, h1, rfl⟩ := mapL_get hj
  have hkm : k < ms.length := by omega
  exact ⟨ms[k], List.getElem?_eq_getElem hkm, hle k _ _ (List.getElem?_eq_getElem hkm) h1⟩

section
variable {A : Start} {w : World} {μ : Mu} {φ : Fr} {tm : Nat → Value} {C : Cx} {S : Spot}

theorem row_pl (hg : S.s ≠ gam) : S.pl ⟨S.s, S.st⟩ = some ⟨S.s, S.st⟩ := by
  refine pl_same hg ?_
  intro k hk hp
  have := hp.length_le
  simp [Spot.T, Pl.lab] at this
  omega

theorem St.turned (h : St A w μ φ tm C) (hsg : S.s ≠ gam) {cols ms cols' : List M} {rs : List (List D)} {row new : List D} {vs : List Value} {b off cap z : Nat} {arr : Array Value}
    (hnode : Node w C ⟨S.s, S.st⟩ cols rs b off cap z arr) (hrow : rs[S.i]? = some row) (hle : S.c + new.length ≤ row.length) (hnl : new.length = S.n) (hvl : vs.length = S.n)
    (hrep : ∀ (k : Nat) (m : M) (d : D) (u : Value), ms[k]? = some m → new[k]? = some d → vs[k]? = some u → Rep w C (src k) m d u) (hc : ColsTo S cols ms cols' rs.length) :
    Turned (w.setRow b (arr.toList.take (off + S.i * z + S.c) ++ vs ++ arr.toList.drop (off + S.i * z + S.c + vs.length)).toArray) (C.land S) ⟨S.s, S.st⟩ cols' rs (rs.set S.i (row.take S.c ++ new ++ row.drop (S.c + new.length))) b off cap z arr := by
  obtain ⟨ty, hty⟩ := hnode.heap
  obtain ⟨hbl, hnG, hnP, _⟩ := h.own b _ hnode.own
  have hroom := hnode.size S.i row hrow
  have hal : off + S.i * z + S.c + vs.length ≤ arr.toList.length := by simp; omega
  have hcl := hnode.len S.i row hrow
  have hown : (C.land S).own b = some ⟨⟨S.s, S.st⟩, off, cap, z⟩ := land_of hnode.own (row_pl hsg)
  have hv : ∀ ps ps', S.f ps = some ps' → ∀ b', okB C ps b' → okB (C.land S) ps' b' ∧ (w.setRow b (arr.toList.take (off + S.i * z + S.c) ++ vs ++ arr.toList.drop (off + S.i * z + S.c + vs.length)).toArray).heap[b']? = w.heap[b']? := by
    intro ps ps' hf b' hb'
    obtain ⟨h1, h2⟩ := land_ok (S := S) ⟨off, cap, z, hnode.own⟩ hnG hnP hsg hf hb'
    exact ⟨h1, setRow_ne h2⟩
  have hget : ∀ j, (arr.toList.take (off + S.i * z + S.c) ++ vs ++ arr.toList.drop (off + S.i * z + S.c + vs.length)).toArray.getD j undef =
      if off + S.i * z + S.c ≤ j ∧ j < off + S.i * z + S.c + vs.length then (vs[j - (off + S.i * z + S.c)]?).getD undef else arr.getD j undef := by
    intro j
    rw [Array.getD_eq_getD_getElem?, List.getElem?_toArray, splice_get hal]
    by_cases h1 : j < off + S.i * z + S.c
    · rw [if_pos h1, if_neg (by omega), Array.getD_eq_getD_getElem?, Array.getElem?_toList]
    · rw [if_neg h1]
      by_cases h2 : j < off + S.i * z + S.c + vs.length
      · rw [if_pos h2, if_pos ⟨by omega, h2⟩]
      · rw [if_neg h2, if_neg (by omega), Array.getD_eq_getD_getElem?, Array.getElem?_toList]
  -- what was there
  have hold : ∀ (i' j : Nat) (row' : List D) (d : D) (m : M), rs[i']? = some row' → row'[j]? = some d → cols[j]? = some m → (i' ≠ S.i ∨ j < S.c ∨ S.c + S.n ≤ j) →
      Rep (w.setRow b (arr.toList.take (off + S.i * z + S.c) ++ vs ++ arr.toList.drop (off + S.i * z + S.c + vs.length)).toArray) (C.land S) ((⟨S.s, S.st⟩ : Pl).cell i' j) (m.map S.f) d
        ((arr.toList.take (off + S.i * z + S.c) ++ vs ++ arr.toList.drop (off + S.i * z + S.c + vs.length)).toArray.getD (off + i' * z + j) undef) := by
    intro i' j row' d m q1 q2 q3 hout
    have hval : (arr.toList.take (off + S.i * z + S.c) ++ vs ++ arr.toList.drop (off + S.i * z + S.c + vs.length)).toArray.getD (off + i' * z + j) undef = arr.getD (off + i' * z + j) undef := by
      rw [hget, if_neg]
      intro ⟨g1, g2⟩
      have hjl := (List.getElem?_eq_some_iff.1 q2).1
      have hl' := hnode.len i' row' q1
      by_cases hi : i' = S.i
      · subst hi
        rcases hout with e | e | e
        · exact e rfl
        · omega
        · omega
      · rcases hnode.step with hst | hst
        · have l1 := (List.getElem?_eq_some_iff.1 q1).1
          have l2 := (List.getElem?_eq_some_iff.1 hrow).1
          omega
        · have hjz : j < z := by omega
          have hcz : S.c + S.n ≤ z := by omega
          rcases Nat.lt_or_ge i' S.i with hlt | hge
          · have := Nat.mul_le_mul_right z (Nat.succ_le_of_lt hlt)
            rw [Nat.succ_mul] at this
            omega
          · have : S.i + 1 ≤ i' := by omega
            have := Nat.mul_le_mul_right z this
            rw [Nat.add_mul] at this
            omega
    rw [hval]
    refine (hnode.kids i' j row' d m q1 q2 q3).move _ S.f ?_ hv
    intro b' q off' c' z' hb'
    rw [Pl.cell_ext] at hb' ⊢
    refine ⟨land_of hb' ?_, setRow_ne ?_⟩
    · have hst : strip S.st (S.st ++ (i', j) :: q) = some ((i', j) :: q) := strip_some.2 rfl
      have hcond : ¬ (i' = S.i ∧ S.c ≤ j ∧ j < S.c + S.n) := by
        rintro ⟨g1, g2, g3⟩
        rcases hout with e | e | e
        · exact e g1
        · omega
        · omega
      have : S.pl ⟨S.s, S.st ++ (i', j) :: q⟩ = some ⟨S.s, S.st ++ (i', j) :: q⟩ := by
        unfold Spot.pl
        rw [if_neg hsg, if_pos rfl]
        simp only [hst]
        rw [if_neg hcond]
      exact this
    · rintro rfl
      have := hnode.own.symm.trans hb'
      simp [Pl.ext] at this
  have hsize : (arr.toList.take (off + S.i * z + S.c) ++ vs ++ arr.toList.drop (off + S.i * z + S.c + vs.length)).toArray.size = arr.size := by
    rw [List.size_toArray, splice_length hal]; simp
  have hkids : Kids (w.setRow b (arr.toList.take (off + S.i * z + S.c) ++ vs ++ arr.toList.drop (off + S.i * z + S.c + vs.length)).toArray) (C.land S) ⟨S.s, S.st⟩ cols' (rs.set S.i (row.take S.c ++ new ++ row.drop (S.c + new.length)))
      (fun i j => (arr.toList.take (off + S.i * z + S.c) ++ vs ++ arr.toList.drop (off + S.i * z + S.c + vs.length)).toArray.getD (off + i * z + j) undef) := by
    intro i' j row' d m' q1 q2 q3
    by_cases hi : i' = S.i
    · subst hi
      have hlt := (List.getElem?_eq_some_iff.1 hrow).1
      rw [List.getElem?_set_self hlt] at q1
      simp only [Option.some.injEq] at q1
      subst q1
      rw [splice_get hle] at q2
      by_cases hin : S.c ≤ j ∧ j < S.c + S.n
      · rw [if_neg (by omega), if_pos (by omega)] at q2
        obtain ⟨k, rfl⟩ : ∃ k, j = S.c + k := ⟨j - S.c, by omega⟩
        have e : S.c + k - S.c = k := by omega
        rw [e] at q2
        obtain ⟨m, hm1, hm2⟩ := hc.inn k m' (by omega) q3
        have hku : k < vs.length := by omega
        have hr0 := hrep k m d vs[k] hm1 q2 (List.getElem?_eq_getElem hku)
        have hval : (arr.toList.take (off + S.i * z + S.c) ++ vs ++ arr.toList.drop (off + S.i * z + S.c + vs.length)).toArray.getD (off + S.i * z + (S.c + k)) undef = vs[k] := by
          rw [hget, if_pos ⟨by omega, by omega⟩]
          have e2 : off + S.i * z + (S.c + k) - (off + S.i * z + S.c) = k := by omega
          rw [e2, List.getElem?_eq_getElem hku]
          rfl
        show Rep _ _ _ _ _ (Array.getD _ _ undef)
        rw [hval]
        refine Rep.leS ?_ hm2
        have := hr0.move (w' := w.setRow b (arr.toList.take (off + S.i * z + S.c) ++ vs ++ arr.toList.drop (off + S.i * z + S.c + vs.length)).toArray) (C' := C.land S) (S.T k) S.f ?_ hv
        · exact this
        · intro b' q off' c' z' hb'
          refine ⟨land_of hb' (pl_src (by omega)), setRow_ne ?_⟩
          rintro rfl
          have := hnode.own.symm.trans hb'
          simp only [Option.some.injEq, Ow.mk.injEq, src, Pl.ext, Pl.mk.injEq] at this
          exact hsg this.1.1
      · have hout : j < S.c ∨ S.c + S.n ≤ j := by omega
        obtain ⟨m, hm1, rfl⟩ := hc.out j m' q3 hout
        have q2' : row[j]? = some d := by
          rcases hout with e | e
          · rw [if_pos e] at q2; exact q2
          · rw [if_neg (by omega), if_neg (by omega)] at q2; exact q2
        exact hold S.i j row d m hrow q2' hm1 (.inr hout)
    · rw [List.getElem?_set_ne (fun e => hi e.symm)] at q1
      have hm : ∃ m, cols[j]? = some m ∧ m' = m.map S.f := by
        rcases hc.all with hone | hall
        · have l1 := (List.getElem?_eq_some_iff.1 q1).1
          have l2 := (List.getElem?_eq_some_iff.1 hrow).1
          omega
        · exact hall j m' q3
      obtain ⟨m, hm1, rfl⟩ := hm
      exact hold i' j row' d m q1 q2 hm1 (.inl hi)
  refine ⟨hown, ⟨_, ty, setRow_get hty, hsize, hkids⟩, by simp, ?_⟩
  · intro row' hr'
    rcases List.mem_or_eq_of_mem_set hr' with h1 | h1
    · obtain ⟨i', hi'⟩ := List.getElem?_of_mem h1
      rw [hc.len]; exact hnode.len i' row' hi'
    · rw [h1, splice_length hle, hc.len]; exact hcl
end
end Go.Ev


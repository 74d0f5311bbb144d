/- What a Go function does, reckoned in plain data, and that it does so: part 3. -/
import Derived.Great.BuildSlice
import Derived.Deep.AppendSrc
import Derived.Deep.Upon
import Derived.Orders
import Derived.Test.YtfgaikcoodagiaaEv2
set_option linter.all false
/- All operations that leave nothing but their result. -/
namespace Go.Ev
section
variable {V : Env} {A : Start} {w : World} {μ : Mu} {φ : Fr} {C : Cx} {a : Act} {g : Nat → Value} {o : Oper} {x : X} {sm : SM}

structure FRows (w : World) (C : Cx) (cells : Array Value) (rows : List (List D)) (cols : List M) (z : Nat) : Prop where
  size : cells.size = rows.length * z
  row : ∀ r ∈ rows, r.length = z
  rep : ∀ (i j : Nat) (r : List D) (d : D) (m : M), rows[i]? = some r → r[j]? = some d → cols[j]? = some m → ∀ p, Rep w C p m d (cells.getD (i * z + j) undef)

theorem idx_ne {i i' j k z : Nat} (hj : j < z) (hk : k < z) (h : i ≠ i') : ¬ (i * z ≤ i' * z + j ∧ i' * z + j < i * z + z) := by
  rintro ⟨h1, h2⟩
  rcases Nat.lt_or_gt_of_ne h with h3 | h3
  · have := Nat.mul_le_mul_right z (Nat.succ_le_of_lt h3)
    rw [Nat.succ_mul] at this
    omega
  · have := Nat.mul_le_mul_right z (Nat.succ_le_of_lt h3)
    rw [Nat.succ_mul] at this
    omega

theorem FRows.set {cells cv : Array Value} {rows : List (List D)} {new : List D} {mn cols : List M} {z i : Nat} (h : FRows w C cells rows cols z) (hn : FR w C cv new mn) (hl : new.length = z) (hi : i < rows.length) (hle : leSL mn cols = true) :
    FRows w C (cv.zipIdx.foldl (fun cs (c, j) => cs.setIfInBounds (i * z + j) c) cells) (rows.set i new) cols z := by
  have hlist : cv.zipIdx.foldl (fun cs (c, j) => cs.setIfInBounds (i * z + j) c) cells = (cv.toList.zipIdx 0).foldl (fun cs (c, j) => cs.setIfInBounds (i * z + j) c) cells := by
    rw [← Array.foldl_toList, Array.toList_zipIdx]
  rw [hlist]
  obtain ⟨h1, h2⟩ := setAll cv.toList 0 (i * z) cells
  have hns := hn.size
  have hcl : cv.toList.length = z := by simp; omega
  have hroom : i * z + z ≤ cells.size := by
    rw [h.size]
    have := Nat.mul_le_mul_right z (Nat.succ_le_of_lt hi)
    rw [Nat.succ_mul] at this
    exact this
  refine ⟨?_, ?_, ?_⟩
  · rw [h1, h.size]; simp
  · intro r hr
    rcases List.mem_or_eq_of_mem_set hr with hr | hr
    · exact h.row r hr
    · rw [hr]; exact hl
  · intro i' j r d m q1 q2 q3 p
    rw [Array.getD_eq_getD_getElem?, h2]
    by_cases e : i' = i
    · subst e
      rw [List.getElem?_set_self hi] at q1
      cases q1
      have hj := (List.getElem?_eq_some_iff.1 q2).1
      rw [if_pos (by omega)]
      have e3 : i' * z + j - i' * z - 0 = j := by omega
      rw [e3]
      obtain ⟨m0, hm0, hle0⟩ := leSL_at hle q3
      have := hn.rep j d m0 q2 hm0 p
      rw [Array.getD_eq_getD_getElem?] at this
      rw [Array.getElem?_toList]
      exact this.leS hle0
    · rw [List.getElem?_set_ne (fun e' => e e'.symm)] at q1
      have hj : j < z := by
        have := h.row r (List.mem_of_getElem? q1)
        have := (List.getElem?_eq_some_iff.1 q2).1
        omega
      rw [if_neg]
      · rw [← Array.getD_eq_getD_getElem?]
        exact h.rep i' j r d m q1 q2 q3 p
      · rintro ⟨g1, g2, _⟩
        exact idx_ne (i := i) (i' := i') hj hj (fun e' => e e'.symm) ⟨by omega, by omega⟩

theorem rep_own_inv {p : Pl} {cols : List M} {d : D} {v : Value} (h : Rep w C p (.own cols) d v) : (∃ z, d = .sl z [] ∧ v = .slice none 0 0) ∨ ∃ b off c n z, v = .slice (some ⟨b, off, none⟩) n c ∧ C.own b = some ⟨p, off, c, z⟩ := by
  cases h with
  | nil => exact .inl ⟨_, rfl, rfl⟩
  | own h1 h2 h3 h4 h5 h6 h7 h8 => exact .inr ⟨_, _, _, _, _, rfl, h1⟩

theorem rep_free {w' : World} {C' : Cx} {m : M} {d : D} {v : Value} (h : ∀ p, Rep w C p m d v) (hk : ∀ ps b, okB C ps b → okB C' ps b ∧ w'.heap[b]? = w.heap[b]?) (p : Pl) : Rep w' C' p m d v := by
  cases hn : m.noOwn with
  | true =>
    have := (h p).moveV (w' := w') (C' := C') (p' := p) hn idF (by intro ps ps' hf b hb; cases hf; exact hk ps b hb)
    rwa [map_id] at this
  | false =>
    cases m with
    | own cols =>
      rcases rep_own_inv (h ⟨0, []⟩) with ⟨z, rfl, rfl⟩ | ⟨b, off, c, n, z, e1, e2⟩
      · exact .nil
      · rcases rep_own_inv (h ⟨1, []⟩) with ⟨z', _, e3⟩ | ⟨b', off', c', n', z', e3, e4⟩
        · rw [e1] at e3; cases e3
        · rw [e1] at e3; cases e3
          rw [e2] at e4; cases e4
    | _ => cases hn

theorem fillRows_sound (h : St A w μ φ (tmO a.tmps g) C) {zs : List ZC} {z : Nat} {cols : List M} : ∀ (parts : List (Nat × Operand)) (cells : Array Value) (rows rows' : List (List D)), (∀ p ∈ parts, sm1 p.2 = true ∧ rdO μ p.2 = true ∧ leSL (cellsOfM (opM μ p.2)) cols = true) →
    FRows w C cells rows cols z → fillRows z rows (partsX V.τ φ parts fun _ => 0) = some rows' →
      ∃ cells', Instr.fill (fun i => some (i * z, z)) cells (parts.map fun p => (p.1, a.eval p.2)) = some cells' ∧ FRows w C cells' rows' cols z ∧ rows'.length = rows.length
  | [], cells, rows, rows', _, hf, hx => by
    simp only [partsX, List.map_nil, fillRows, Option.some.injEq] at hx
    subst hx
    exact ⟨cells, rfl, hf, rfl⟩
  | (i, y) :: rest, cells, rows, rows', hp, hf, hx => by
    simp only [partsX, List.map_cons, fillRows] at hx
    split at hx
    · rename_i new hnew
      split at hx
      · rename_i hc
        obtain ⟨hc1, hc2⟩ := hc
        obtain ⟨s1, s2, s3⟩ := hp (i, y) (by simp)
        have hpart := part_sound h s1 s2 hnew
        have hsp := hf.set hpart hc1 hc2 s3
        obtain ⟨cells', g1, g2, g3⟩ := fillRows_sound (zs := zs) h rest _ _ rows' (fun p hp' => hp p (by simp [hp'])) hsp hx
        refine ⟨cells', ?_, g2, by rw [g3]; simp⟩
        simp only [List.map_cons, Instr.fill]
        have e1 : (a.eval y).cells.size = z := by rw [hpart.size, hc1]
        have hroom : i * z + z ≤ cells.size := by
          rw [hf.size]
          have := Nat.mul_le_mul_right z (Nat.succ_le_of_lt hc2)
          rw [Nat.succ_mul] at this
          exact this
        rw [if_neg (by simp; omega)]
        exact g1
      · cases hx
    · cases hx

theorem s_buildS {t n : Nat} {ps : Array (Nat × Operand)} {cols : List M} (ho : o.op = .buildSlice t n ps) (h : St A w μ φ (tmO a.tmps g) C) (hs : ∀ p ∈ ps.toList, sm1 p.2 = true) (hx : pureX V.τ φ o.op o.type = some x) (hm : pureM V.τ cols μ o.op = some sm) :
    PureOk V w C φ (tmO a.tmps g) a o x sm := by
  rw [ho] at hx hm
  simp only [pureX] at hx
  simp only [pureM] at hm
  unfold buildSliceX at hx
  split at hx
  · rename_i e he
    rw [he] at hm
    simp only at hm
    split at hx
    · rename_i et z yb hel
      rw [hel] at hm
      simp only at hm
      split at hx
      · rename_i ee hee
        rw [hee] at hm
        simp only at hm
        split at hx
        · rename_i hcond
          obtain ⟨hfit0, hzl, hz0, hnz⟩ := hcond
          split at hx
          · rename_i rows hfill
            split at hx
            · rename_i hfits
              cases hx
              split at hm
              · rename_i hmc
                cases hm
                simp only [Bool.and_eq_true] at hmc
                obtain ⟨⟨hr, hle⟩, _⟩ := hmc
                obtain ⟨d, hu, _, _, _, hsl, _⟩ := Env.desc (V := V) he
                obtain ⟨rfl, i, hi, hz, hb⟩ := hsl _ _ _ hel
                obtain ⟨i', v, hi', hs', hzv, hzs⟩ := Env.info (V := V) hee
                rw [hi] at hi'; cases hi'
                have hvl : v.cells.size = z := by have := zero_len hzs; simp at this; omega
                have hcl : cols.length = z := by have := leSL_len hle; simp at this; omega
                have hinit : FRows w C (madeCells v.cells (n * z)) (List.replicate n (ee.zero.map ZC.d)) cols z := by
                  refine ⟨by rw [size_madeCells]; simp, ?_, ?_⟩
                  · intro r hr
                    rw [List.mem_replicate] at hr
                    rw [hr.2]; simp [hzl]
                  · intro i' j row d' m q1 q2 q3 p
                    rw [List.getElem?_replicate] at q1
                    split at q1
                    · rename_i hin
                      cases q1
                      rw [List.getElem?_map, Option.map_eq_some_iff] at q2
                      obtain ⟨zc, hz1, rfl⟩ := q2
                      obtain ⟨m0, hm0, hlem⟩ := leSL_at hle q3
                      rw [List.getElem?_map, hz1] at hm0
                      cases hm0
                      obtain ⟨u, hu', his⟩ := zeros_at hzs hz1
                      have hf := fits_at hfit0 hz1 (by rw [List.getElem?_map, hz1]; rfl)
                      have hjz : j < z := by have := (List.getElem?_eq_some_iff.1 hz1).1; omega
                      have hlt : i' * z + j < n * z := by
                        have := Nat.mul_le_mul_right z (Nat.succ_le_of_lt hin)
                        rw [Nat.succ_mul] at this
                        omega
                      have hval : (madeCells v.cells (n * z)).getD (i' * z + j) undef = u := by
                        rw [Array.getElem?_toList] at hu'
                        have hj2 : (i' * z + j) % z = j := by rw [Nat.mul_comm, Nat.mul_add_mod, Nat.mod_eq_of_lt hjz]
                        have : (madeCells v.cells (n * z))[i' * z + j]? = some v.cells[j]! := by
                          simp [madeCells, hlt, hvl, hj2]
                        rw [Array.getD_eq_getD_getElem?, this]
                        have hj3 : j < v.cells.size := by omega
                        rw [Array.getElem?_eq_getElem hj3] at hu'
                        cases hu'
                        simp [hj3]
                      rw [hval]
                      exact (zero_rep his hf).leS hlem
                    · cases q1
                have hparts : ∀ p ∈ ps.toList, sm1 p.2 = true ∧ rdO μ p.2 = true ∧ leSL (cellsOfM (opM μ p.2)) cols = true := by
                  intro p hp
                  rw [List.all_eq_true] at hr
                  have := hr p hp
                  simp only [Bool.and_eq_true] at this
                  exact ⟨hs p hp, this.1, this.2⟩
                obtain ⟨cells', g1, g2, g3⟩ := fillRows_sound (V := V) (zs := ee.zero) h ps.toList _ _ rows hparts hinit hfill
                rw [List.length_replicate] at g3
                have hrun : (Instr.buildSlice t n (ps.map fun (i, x) => (i, a.eval x))).run V.P w = .ok (.slice (some ⟨w.heap.size, 0, none⟩) n n) (w.alloc (.cells cells' et)) := by
                  have g1' : Instr.fill (fun i => some (i * z, z)) (madeCells v.cells (n * z)) (ps.map fun (i, x) => (i, a.eval x)).toList = some cells' := by simpa using g1
                  by_cases hn0 : n * z = 0
                  · have hm0 : madeCells v.cells (n * z) = #[] := by rw [hn0]; simp [madeCells]
                    rw [hm0] at g1'
                    simp [Instr.buildSlice, run_underlying hu, sizeOf, typeInfo, hi, hz, hn0, newRow] at g1' ⊢
                    have hnil : ∀ f : Nat → Value, Array.map f (Array.range 0) = #[] := fun f => by simp
                    rw [hnil, g1']
                    rfl
                  · exact run_buildSlice w t et n _ cells' i v hu hi hzv (by rw [hz]; omega) (by rw [hz]; exact hn0) (by rw [hz]; exact g1')
                have hsz : (w.alloc (.cells cells' et)).heap = w.heap.push (.cells cells' et) := rfl
                right
                refine ⟨.slice (some ⟨w.heap.size, 0, none⟩) n n, w.alloc (.cells cells' et), ?_, alloc_ext, ?_⟩
                · simp only [execOp, ho]
                  exact exec_value hrun
                · intro d
                  refine ⟨newOne w.heap.size d ⟨⟨d, []⟩, 0, n, z⟩, newOne_ok (by rw [hsz]; simp), ?_⟩
                  intro C' φ' tm' hN hok
                  refine ⟨_, none, rfl, ?_, fun _ => rfl⟩
                  have hs1 := g2.size
                  rw [g3] at hs1
                  rw [← g3]
                  refine .own (arr := cells') (ty := et) (by rw [g3]; exact hN _ _ (Nat.le_refl _) (by simp [newOne])) (by rw [hsz]; simp) (Nat.le_refl _) (by rw [g3]; omega) hcl hz0 g2.row ?_
                  intro i' j row d' m q1 q2 q3
                  rw [Nat.zero_add]
                  exact rep_free (fun p => g2.rep i' j row d' m q1 q2 q3 p) (fun ps b hb => ⟨hok ps b hb, alloc_ext.same b (h.ok_lt hb)⟩) _
              · cases hm
            · cases hx
          · cases hx
        · cases hx
      · cases hx
    · cases hx
  · cases hx

/-- What leaves nothing but its result. -/
theorem pure_sound {cols : List M} (h : St A w μ φ (tmO a.tmps g) C) (hs : o.op.operands.all sm1 = true) (hx : pureX V.τ φ o.op o.type = some x) (hm : pureM V.τ cols μ o.op = some sm) :
    PureOk V w C φ (tmO a.tmps g) a o x sm := by
  have hx' := hx
  have hm' := hm
  cases ho : o.op with
  | move y =>
    rw [ho] at hx hm hs
    simp only [pureX] at hx
    simp only [pureM, Option.some.injEq] at hm
    subst hm
    have hsy : sm1 y = true := by simpa [Op.operands] using hs
    have key := s_move (V := V) (.inl ho) h hsy
    generalize opX V.τ φ o.type y = q at hx key
    cases q <;> first | (cases hx; done) | (cases hx; exact key (by simp))
  | pick c y z =>
    rw [ho] at hm hs
    simp [Op.operands] at hs
    simp only [pureM] at hm
    split at hm
    · rename_i hr; cases hm; exact s_pick ho h hs.1 hs.2.1 hs.2.2 hx' hr
    · cases hm
  | alloc t => exact s_alloc (μ := μ) ho hx' (by rw [ho] at hm' ⊢; exact hm')
  | load t y =>
    rw [ho] at hm hs
    exact s_load ho h (by simpa [Op.operands] using hs) hx' hm
  | nilCheck y => exact s_nil ho h (by rw [ho] at hs; simpa [Op.operands] using hs) hx' (by rw [ho] at hm' ⊢; exact hm')
  | binOp op t y z t' =>
    rw [ho] at hm hs
    simp [Op.operands] at hs
    simp only [pureM] at hm
    split at hm
    · rename_i hr; cases hm; exact s_bin ho h hs.1 hs.2 hx' hr
    · cases hm
  | unOp op t y =>
    rw [ho] at hm hs
    simp only [pureM] at hm
    split at hm
    · rename_i hr; cases hm; exact s_un ho h (by simpa [Op.operands] using hs) hx' hr
    · cases hm
  | fieldAddr s y f => exact s_field ho h (by rw [ho] at hs; simpa [Op.operands] using hs) hx' (by rw [ho] at hm' ⊢; exact hm')
  | indexAddr t y i =>
    have : sm1 y = true ∧ sm1 i = true := by rw [ho] at hs; simpa [Op.operands] using hs
    exact s_index ho h this.1 this.2 hx' (by rw [ho] at hm' ⊢; exact hm')
  | index t y i =>
    rw [ho] at hm hs
    simp [Op.operands] at hs
    simp only [pureM] at hm
    split at hm
    · rename_i hr; cases hm; exact s_stridx ho h hs.1 hs.2 hx' hr
    · cases hm
  | extract t i =>
    cases t with
    | tmp t => exact s_extract ho h (by rw [ho] at hs; simpa [Op.operands, sm1] using hs) hx' (by rw [ho] at hm' ⊢; exact hm')
    | _ => rw [ho] at hm; cases hm
  | slice t y lo hi mx =>
    have hq : sm1 y = true ∧ lo.all sm1 = true ∧ hi.all sm1 = true ∧ mx.all sm1 = true := by
      rw [ho] at hs
      cases lo <;> cases hi <;> cases mx <;> simp_all [Op.operands]
    exact s_slice ho h hq.1 hq.2.1 hq.2.2.1 hq.2.2.2 hx' (by rw [ho] at hm' ⊢; exact hm')
  | convert src dst y => exact s_conv ho h (by rw [ho] at hs; simpa [Op.operands] using hs) hx' (by rw [ho] at hm' ⊢; exact hm')
  | makeSlice t y z =>
    have : sm1 y = true ∧ sm1 z = true := by rw [ho] at hs; simpa [Op.operands] using hs
    exact s_make (cols := cols) ho h this.1 this.2 hx' hm'
  | makeFunc fn fs cs =>
    cases fn with
    | func f => exact s_func ho h (by rw [ho] at hs; simp [Op.operands] at hs; simpa using hs.2) hx' (by rw [ho] at hm' ⊢; exact hm')
    | _ => rw [ho] at hm; cases hm
  | call c =>
    rw [ho] at hx hm hs
    simp only [pureX] at hx
    simp only [pureM] at hm
    have hargs : c.args.toList.all sm1 = true := by
      simp only [Op.operands, Call.operands, Array.all_append, Bool.and_eq_true] at hs
      simpa using hs.2
    split at hm
    · rename_i y hb hl
      rw [hb, hl] at hx
      rw [hl] at hargs
      split at hm
      · rename_i hr; cases hm
        split at hx
        · rename_i q1 q2 q3; cases q2; exact s_len ho hb hl q3 h (by simpa using hargs) hx hr
        · rename_i q1 q2; cases q1
        · rename_i q1 q2; cases q1
        · rename_i q1 q2; cases q1
        · cases hx
      · cases hm
    · rename_i y z hb hl
      rw [hb, hl] at hx
      rw [hl] at hargs
      simp at hargs
      split at hm
      · rename_i hr; cases hm
        exact s_mm (mx := true) ho hb hl h hargs.1 hargs.2 hx hr
      · cases hm
    · rename_i y z hb hl
      rw [hb, hl] at hx
      rw [hl] at hargs
      simp at hargs
      split at hm
      · rename_i hr; cases hm
        exact s_mm (mx := false) ho hb hl h hargs.1 hargs.2 hx hr
      · cases hm
    · cases hm
  | build t ps =>
    refine s_build ho h ?_ hx' (by rw [ho] at hm' ⊢; exact hm')
    intro p hp
    rw [ho] at hs
    simp only [Op.operands] at hs
    rw [List.all_toArray, List.all_eq_true] at hs
    exact hs _ (List.mem_map_of_mem hp)
  | buildSlice t n ps =>
    refine s_buildS (cols := cols) ho h ?_ hx' hm'
    intro p hp
    rw [ho] at hs
    simp only [Op.operands] at hs
    rw [List.all_toArray, List.all_eq_true] at hs
    exact hs _ (List.mem_map_of_mem hp)
  | _ => rw [ho] at hm; cases hm
end
end Go.Ev

/- A slice that a slot owns grows. -/
namespace Go.Ev

theorem killF_spec {q : List Nat} {ps ps' : List Pv} (h : killF q ps = some ps') : ps' = ps ∧ ∀ l, Pv.lab l ∈ ps → ¬ l <+: q := by
  unfold killF at h
  split at h
  · cases h
  · rename_i hk
    cases h
    refine ⟨rfl, fun l hl hp => hk ?_⟩
    rw [List.any_eq_true]
    exact ⟨_, hl, isPre_iff.2 hp⟩

theorem map_dropS (f : PF) (t : Nat) (sm : SM) : (sm.map f).dropS t = (sm.dropS t).map f := by
  cases sm with
  | vbox ps n =>
    simp only [SM.dropS, SM.map]
    cases f ps <;> rfl
  | pv ps s => by_cases e2 : hit t s = true <;> cases e : f ps <;> simp [SM.map, SM.dropS, e, e2]
  | pt s cs => simp only [SM.map, SM.dropS]; split <;> rfl
  | pa s cs n => simp only [SM.map, SM.dropS]; split <;> rfl
  | tup b n => simp only [SM.map, SM.dropS]; split <;> rfl
  | clo g cs => simp only [SM.map, SM.dropS]; split <;> rfl
  | _ => rfl

section
variable {A : Start} {w w' : World} {μ : Mu} {φ : Fr} {tm : Nat → Value} {C C' : Cx}

/-- A slot is written; what it owned at its root may be owned anew, written, or given up; who reads it is told so. -/
structure Regrow (w w' : World) (C C' : Cx) (d : Nat) : Prop where
  same : ∀ b, b < w.heap.size → (∀ off c z, C.own b ≠ some ⟨⟨d, []⟩, off, c, z⟩) → w'.heap[b]? = w.heap[b]? ∧ C'.own b = C.own b
  root : ∀ b off c z, C.own b = some ⟨⟨d, []⟩, off, c, z⟩ → C'.own b = none ∨ ∃ off' c' z', C'.own b = some ⟨⟨d, []⟩, off', c', z'⟩
  new : ∀ b o, w.heap.size ≤ b → C'.own b = some o → o.p = ⟨d, []⟩ ∧ b < w'.heap.size
  uniq : ∀ b1 b2 o1 o2, C'.own b1 = some o1 → C'.own b2 = some o2 → o1.p = ⟨d, []⟩ → o2.p = ⟨d, []⟩ → b1 = b2
  G : ∀ b, C'.G b ↔ C.G b ∨ (C'.own b = none ∧ ∃ off c z, C.own b = some ⟨⟨d, []⟩, off, c, z⟩)
  PA : C'.PA = C.PA
  size : w.heap.size ≤ w'.heap.size
  calm : Calm w w'

theorem Regrow.ok {d : Nat} (hr : Regrow w w' C C' d) (h : St A w μ φ tm C) {ps ps' : List Pv} (hf : killF [d] ps = some ps') {b : Nat} (hb : okB C ps b) : okB C' ps' b ∧ w'.heap[b]? = w.heap[b]? := by
  obtain ⟨rfl, hk⟩ := killF_spec hf
  have hlt := h.ok_lt hb
  have hnr : ∀ off c z, C.own b ≠ some ⟨⟨d, []⟩, off, c, z⟩ := by
    intro off c z ho
    obtain ⟨_, hnG, hnP, _⟩ := h.own b _ ho
    rcases hb with hb | ⟨p, hp, hb⟩
    · exact hnG hb
    · cases p with
      | arg i => exact hnP i hb
      | lab l =>
        obtain ⟨o, ho', hl⟩ := hb
        rw [ho] at ho'; cases ho'
        exact hk l hp hl
  obtain ⟨h1, h2⟩ := hr.same b hlt hnr
  refine ⟨?_, h1⟩
  rcases hb with hb | ⟨p, hp, hb⟩
  · exact .inl ((hr.G b).2 (.inl hb))
  · cases p with
    | arg i => exact .inr ⟨_, hp, by show C'.PA i b; rw [hr.PA]; exact hb⟩
    | lab l =>
      obtain ⟨o, ho, hl⟩ := hb
      exact .inr ⟨_, hp, o, by rw [h2]; exact ho, hl⟩

theorem St.regrow (h : St A w μ φ tm C) (hrg : A.rg = []) {d : Nat} (hd : d < 1000) (hr : Regrow w w' C C' d) {x : X} {v : Value} {sm : SM}
    (hc : ClaimX w' C' (upd φ d x) (fun s => if s = d then v else tm s) d x v (sm.dropS d)) :
    St A w' ((μ.map (killF [d])).put d sm) (upd φ d x) (fun s => if s = d then v else tm s) C' := by
  have hφ : ∀ s, hit d s = false → upd φ d x s = φ s := by
    intro s hs
    have : s ≠ d := by rintro rfl; rw [hit_self] at hs; cases hs
    simp [upd, this]
  have htm : ∀ s, hit d s = false → (fun s => if s = d then v else tm s) s = tm s := by
    intro s hs
    have : s ≠ d := by rintro rfl; rw [hit_self] at hs; cases hs
    simp [this]
  have hnrs : ∀ {b o}, C.own b = some o → o.p ≠ ⟨d, []⟩ → ∀ off c z, C.own b ≠ some ⟨⟨d, []⟩, off, c, z⟩ := by
    intro b o ho hne off c z e
    rw [ho] at e; cases e; exact hne rfl
  have hinv : ∀ b o, C'.own b = some o → (∃ o0, C.own b = some o0 ∧ (o = o0 ∨ (o0.p = ⟨d, []⟩ ∧ o.p = ⟨d, []⟩))) ∨ (w.heap.size ≤ b ∧ o.p = ⟨d, []⟩ ∧ b < w'.heap.size) := by
    intro b o ho
    by_cases hb : b < w.heap.size
    · left
      by_cases hroot : ∃ off c z, C.own b = some ⟨⟨d, []⟩, off, c, z⟩
      · obtain ⟨off, c, z, h0⟩ := hroot
        refine ⟨_, h0, .inr ⟨rfl, ?_⟩⟩
        rcases hr.root b off c z h0 with e | ⟨off', c', z', e⟩
        · rw [e] at ho; cases ho
        · rw [e] at ho; cases ho; rfl
      · obtain ⟨_, e⟩ := hr.same b hb (fun off c z e => hroot ⟨off, c, z, e⟩)
        rw [e] at ho
        exact ⟨o, ho, .inl rfl⟩
    · obtain ⟨h1, h2⟩ := hr.new b o (by omega) ho
      exact .inr ⟨by omega, h1, h2⟩
  refine ⟨?_, ?_, ?_, ?_, ?_, ?_, ?_, Nat.le_trans h.size hr.size, h.calm.trans hr.calm, by rw [hrg]; intro r hr; simp at hr⟩
  · intro s
    rw [get_put, get_map]
    by_cases e : s = d
    · subst e
      rw [if_pos rfl]
      right
      unfold Claim
      rw [show upd φ s x s = x by simp [upd]]
      simpa using hc
    · rw [if_neg e]
      cases hs : hit d s with
      | true => exact .inr trivial
      | false =>
        simp only [Bool.false_eq_true, if_false]
        rw [hφ s hs]
        rcases h.slot s with h1 | h1
        · exact .inl h1
        · right
          rw [map_dropS]
          have h2 := h1.dropS (t := d)
          refine h2.keep (killF [d]) (hφ s hs) (htm s hs) ?_ ?_ ?_ ?_ ?_
          · intro b q off c z hb
            have hlt := (h.own b _ hb).1
            obtain ⟨g1, g2⟩ := hr.same b hlt (hnrs hb (by intro e'; exact e (by simpa using congrArg Pl.s e')))
            exact ⟨by rw [g2]; exact hb, g1⟩
          · intro ps ps' hf b hb; exact hr.ok h hf hb
          · intro i b hb
            have hlt := Nat.lt_of_lt_of_le (h.pa i b hb).1 h.size
            refine ⟨by rw [hr.PA]; exact hb, (hr.same b hlt ?_).1⟩
            intro off c z ho
            exact (h.own b _ ho).2.2.1 i hb
          · intro b hb
            refine ⟨(hr.G b).2 (.inl hb), (hr.same b (h.frz b hb).1 ?_).1⟩
            intro off c z ho
            exact (h.own b _ ho).2.1 hb
          · refine refKeep_dropS (killF [d]) _ hφ htm ?_ ?_
            · intro b o ho hh
              have hlt := (h.own b _ ho).1
              obtain ⟨_, g2⟩ := hr.same b hlt (hnrs ho (by intro e'; rw [e'] at hh; simp [hit_self] at hh))
              rw [g2]; exact ho
            · intro b n e' i hi hb
              rw [e'] at h1
              exact cix_hit h1.2.1 hi hd hb
  · intro b b' o o' h1 h2 e
    by_cases hp : o.p = ⟨d, []⟩
    · exact hr.uniq b b' o o' h1 h2 hp (by rw [← e]; exact hp)
    · have hp' : o'.p ≠ ⟨d, []⟩ := by rw [← e]; exact hp
      rcases hinv b o h1 with ⟨o0, k1, k2⟩ | ⟨_, k2, _⟩
      · rcases hinv b' o' h2 with ⟨o0', l1, l2⟩ | ⟨_, l2, _⟩
        · rcases k2 with rfl | ⟨_, k2⟩
          · rcases l2 with rfl | ⟨_, l2⟩
            · exact h.inj b b' _ _ k1 l1 e
            · exact (hp' l2).elim
          · exact (hp k2).elim
        · exact (hp' l2).elim
      · exact (hp k2).elim
  · intro b o h1
    rcases hinv b o h1 with ⟨o0, k1, k2⟩ | ⟨k1, k2, k3⟩
    · obtain ⟨q1, q2, q3, q4⟩ := h.own b o0 k1
      refine ⟨Nat.lt_of_lt_of_le q1 hr.size, ?_, by rw [hr.PA]; exact q3, q4⟩
      intro hg
      rcases (hr.G b).1 hg with hg | ⟨hg, _⟩
      · exact q2 hg
      · rw [h1] at hg; cases hg
    · refine ⟨k3, ?_, ?_, .inr (Nat.le_trans h.size k1)⟩
      · intro hg
        rcases (hr.G b).1 hg with hg | ⟨hg, _⟩
        · have := (h.frz b hg).1; omega
        · rw [h1] at hg; cases hg
      · intro i hp
        rw [hr.PA] at hp
        have := (h.pa i b hp).1
        have := h.size
        omega
  · intro b hg
    rcases (hr.G b).1 hg with hg | ⟨_, off, c, z, ho⟩
    · exact ⟨Nat.lt_of_lt_of_le (h.frz b hg).1 hr.size, (h.frz b hg).2⟩
    · obtain ⟨q1, q2, q3, q4⟩ := h.own b _ ho
      exact ⟨Nat.lt_of_lt_of_le q1 hr.size, .inr q4⟩
  · intro b hb
    exact ⟨(hr.G b).2 (.inl (h.ag b hb).1), (h.ag b hb).2⟩
  · intro i b hb
    rw [hr.PA] at hb
    exact h.pa i b hb
  · intro b hb hn
    have hlt := Nat.lt_of_lt_of_le hb h.size
    rw [(hr.same b hlt ?_).1]
    · exact h.old b hb hn
    · intro off c z ho
      rcases (h.own b _ ho).2.2.2 with e | e
      · exact hn e
      · omega
end
end Go.Ev

/- append. -/
namespace Go.Ev

/-- The root of a slot is owned anew. -/
def Cx.rg (C : Cx) (d : Nat) (N : Option (Nat × Ow)) : Cx where
  own b := match N with
    | some (b0, o0) => if b = b0 then some o0 else (match C.own b with
      | some o => if o.p = ⟨d, []⟩ then none else some o
      | none => none)
    | none => match C.own b with
      | some o => if o.p = ⟨d, []⟩ then none else some o
      | none => none
  G b := C.G b ∨ ((match N with
    | some (b0, _) => b ≠ b0
    | none => True) ∧ ∃ off c z, C.own b = some ⟨⟨d, []⟩, off, c, z⟩)
  PA := C.PA

section
variable {A : Start} {w w' : World} {μ : Mu} {φ : Fr} {tm : Nat → Value} {C : Cx}

theorem rg_none {d b : Nat} {o : Ow} (h : C.own b = some o) (hne : o.p ≠ ⟨d, []⟩) : (C.rg d none).own b = some o := by simp [Cx.rg, h, hne]

theorem rg_regrow_none (h : St A w μ φ tm C) {d : Nat} (he : Ext w w') : Regrow w w' C (C.rg d none) d := by
  refine ⟨?_, ?_, ?_, ?_, ?_, rfl, he.size, he.calm⟩
  · intro b hb hn
    refine ⟨he.same b hb, ?_⟩
    simp only [Cx.rg]
    cases ho : C.own b with
    | none => rfl
    | some o =>
      have : o.p ≠ ⟨d, []⟩ := by intro e; exact hn o.off o.cap o.z (by rw [ho, ← e])
      simp [this]
  · intro b off c z ho
    left
    simp [Cx.rg, ho]
  · intro b o hb ho
    simp only [Cx.rg] at ho
    cases h0 : C.own b with
    | none => rw [h0] at ho; cases ho
    | some o0 => have := (h.own b o0 h0).1; omega
  · intro b1 b2 o1 o2 h1 _ e1 _
    simp only [Cx.rg] at h1
    cases h0 : C.own b1 with
    | none => rw [h0] at h1; cases h1
    | some o0 =>
      rw [h0] at h1
      simp only at h1
      split at h1
      · cases h1
      · rename_i hne; cases h1; exact (hne e1).elim
  · intro b
    simp only [Cx.rg]
    constructor
    · rintro (hg | ⟨_, off, c, z, ho⟩)
      · exact .inl hg
      · exact .inr ⟨by simp [ho], off, c, z, ho⟩
    · rintro (hg | ⟨_, off, c, z, ho⟩)
      · exact .inl hg
      · exact .inr ⟨trivial, off, c, z, ho⟩

theorem rg_some {d b b0 : Nat} {o0 o : Ow} (hb : b ≠ b0) (h : C.own b = some o) (hne : o.p ≠ ⟨d, []⟩) : (C.rg d (some (b0, o0))).own b = some o := by simp [Cx.rg, hb, h, hne]

theorem rg_new {d b0 : Nat} {o0 : Ow} : (C.rg d (some (b0, o0))).own b0 = some o0 := by simp [Cx.rg]

/-- A new block is owned, or the old one. -/
theorem rg_regrow_some (h : St A w μ φ tm C) {d b0 : Nat} {o0 : Ow} (ho0 : o0.p = ⟨d, []⟩) (hb0 : (w.heap.size ≤ b0 ∧ b0 < w'.heap.size) ∨ ∃ off c z, C.own b0 = some ⟨⟨d, []⟩, off, c, z⟩)
    (hs : ∀ b, b < w.heap.size → b ≠ b0 → w'.heap[b]? = w.heap[b]?) (hsz : w.heap.size ≤ w'.heap.size) (hc : Calm w w') : Regrow w w' C (C.rg d (some (b0, o0))) d := by
  refine ⟨?_, ?_, ?_, ?_, ?_, rfl, hsz, hc⟩
  · intro b hb hn
    have hne : b ≠ b0 := by
      rintro rfl
      rcases hb0 with ⟨h1, _⟩ | ⟨off, c, z, h1⟩
      · omega
      · exact hn _ _ _ h1
    refine ⟨hs b hb hne, ?_⟩
    simp only [Cx.rg]
    rw [if_neg hne]
    cases ho : C.own b with
    | none => rfl
    | some o =>
      have : o.p ≠ ⟨d, []⟩ := by intro e; exact hn o.off o.cap o.z (by rw [ho, ← e])
      simp [this]
  · intro b off c z ho
    by_cases e : b = b0
    · subst e
      right
      refine ⟨o0.off, o0.cap, o0.z, ?_⟩
      rw [rg_new, ← ho0]
    · left
      simp [Cx.rg, ho, e]
  · intro b o hb ho
    simp only [Cx.rg] at ho
    split at ho
    · rename_i e
      cases ho
      refine ⟨ho0, ?_⟩
      subst e
      rcases hb0 with ⟨_, h1⟩ | ⟨off, c, z, h1⟩
      · exact h1
      · have := (h.own b _ h1).1; omega
    · cases h0 : C.own b with
      | none => rw [h0] at ho; cases ho
      | some o1 => have := (h.own b o1 h0).1; omega
  · have key : ∀ b1 o1, (C.rg d (some (b0, o0))).own b1 = some o1 → o1.p = ⟨d, []⟩ → b1 = b0 := by
      intro b1 o1 h1 e1
      simp only [Cx.rg] at h1
      split at h1
      · assumption
      · cases h0 : C.own b1 with
        | none => rw [h0] at h1; cases h1
        | some o2 =>
          rw [h0] at h1
          simp only at h1
          split at h1
          · cases h1
          · rename_i hne; cases h1; exact (hne e1).elim
    intro b1 b2 o1 o2 h1 h2 e1 e2
    rw [key b1 o1 h1 e1, key b2 o2 h2 e2]
  · intro b
    simp only [Cx.rg]
    constructor
    · rintro (hg | ⟨hne, off, c, z, ho⟩)
      · exact .inl hg
      · exact .inr ⟨by rw [if_neg hne]; simp [ho], off, c, z, ho⟩
    · rintro (hg | ⟨hnone, off, c, z, ho⟩)
      · exact .inl hg
      · refine .inr ⟨?_, off, c, z, ho⟩
        rintro rfl
        simp at hnone

/-- What lies beside the root stays. -/
theorem rep_rg {d : Nat} {N : Option (Nat × Ow)} (h : St A w μ φ tm C) (hr : Regrow w w' C (C.rg d N) d) {i j : Nat} {m : M} {x : D} {v : Value} (hrep : Rep w C ((⟨d, []⟩ : Pl).cell i j) m x v) : Rep w' (C.rg d N) ((⟨d, []⟩ : Pl).cell i j) (m.map (killF [d])) x v := by
  refine hrep.move _ (killF [d]) ?_ (fun ps ps' hf b hb => hr.ok h hf hb)
  intro b q off c z hb
  have hlt := (h.own b _ hb).1
  obtain ⟨h1, h2⟩ := hr.same b hlt (by
    intro off' c' z' e
    rw [hb] at e
    simp [Pl.cell, Pl.ext] at e)
  exact ⟨by rw [h2]; exact hb, h1⟩

/-- A copy stays, wherever it is put. -/
theorem rd_rg {d : Nat} {N : Option (Nat × Ow)} (h : St A w μ φ tm C) (hr : Regrow w w' C (C.rg d N) d) {p : Pl} {m : M} {x : D} {v : Value} (hn : m.noOwn = true) (hrep : Rep w C p m x v) (p' : Pl) : Rep w' (C.rg d N) p' (m.map (killF [d])) x v :=
  hrep.moveV hn (killF [d]) (fun ps ps' hf b hb => hr.ok h hf hb)
end

/-- A row of cells out of rows of data: cell by cell. -/
def Cells (w : World) (C : Cx) (m : M) (rows : List (List D)) (z : Nat) (news : List Value) : Prop :=
  news.length = rows.length * z ∧ (∀ row ∈ rows, row.length = z) ∧ ∀ (i j : Nat) (row : List D) (d : D), rows[i]? = some row → row[j]? = some d → ∃ v, news[i * z + j]? = some v ∧ ∀ p, Rep w C p m d v

section
variable {V : Env} {A : Start} {w w' : World} {μ μ' : Mu} {φ : Fr} {C : Cx} {a : Act} {g : Nat → Value} {o : Oper} {x : X}

theorem mul_at {i j z n : Nat} (hi : i < n) (hj : j < z) : i * z + j < n * z := by
  have := Nat.mul_le_mul_right z (Nat.succ_le_of_lt hi)
  rw [Nat.succ_mul] at this
  omega

/-- What is appended, as a source: a slice. -/
theorem src_rows {t' et' : Nat} {m : M} {z : Nat} {rows : List (List D)} {v : Value} (hk : V.P.underlying t' = some (.slice et')) (hno : m.noOwn = true) (hr : m.readable = true) (hrow : ∀ row ∈ rows, row.length = z) (hz : 0 < z) (hrep : Rep w C ⟨0, []⟩ m (.sl z rows) v) :
    ∃ news, Src V.P z t' v rows.length news w ∧ Cells w C m rows z news := by
  have hrd : ∀ ps, m = .view ps → Rd w (okB C ps) (.sl z rows) v → ∃ news, Src V.P z t' v rows.length news w ∧ Cells w C m rows z news := by
    rintro ps rfl hrd
    generalize hn0 : rows = r0 at hrd
    cases hrd with
    | nil =>
      subst hn0
      rename_i ad c
      refine ⟨[], ?_, by simp, by simp, by simp⟩
      cases ad with
      | none => exact Src.ofNil w hk c
      | some ad => exact Src.ofSlice w hk ad 0 c [] (by simp) (by simp) (by simp)
    | @sl _ _ b off c arr ty fz k1 k2 k3 k4 k5 k6 =>
      subst hn0
      have hl : ((arr.toList.drop off).take (rows.length * z)).length = rows.length * z := by simp; omega
      have hat : ∀ i j row d, rows[i]? = some row → row[j]? = some d → ((arr.toList.drop off).take (rows.length * z))[i * z + j]? = some (arr.getD (off + i * z + j) undef) := by
        intro i j row d q1 q2
        have hi := (List.getElem?_eq_some_iff.1 q1).1
        have hj : j < z := by have := k5 row (List.mem_of_getElem? q1); have := (List.getElem?_eq_some_iff.1 q2).1; omega
        have := mul_at (z := z) hi hj
        rw [List.getElem?_take, if_pos this, List.getElem?_drop, Array.getElem?_toList, ← Nat.add_assoc, Array.getD_eq_getD_getElem?, Array.getElem?_eq_getElem (by omega)]
        rfl
      refine ⟨(arr.toList.drop off).take (rows.length * z), Src.ofSlice w hk ⟨b, off, none⟩ rows.length c _ hl ?_ ?_, hl, k5, ?_⟩
      · intro j u hj
        rw [List.getElem?_take] at hj
        split at hj
        · rw [List.getElem?_drop, Array.getElem?_toList] at hj
          rw [addr_add, cell_of k2]
          exact hj
        · cases hj
      · intro u hu
        obtain ⟨k, hk'⟩ := List.getElem?_of_mem hu
        have hkl := (List.getElem?_eq_some_iff.1 hk').1
        rw [hl] at hkl
        have hi : k / z < rows.length := by
          rw [Nat.div_lt_iff_lt_mul hz]; exact hkl
        have hj : k % z < z := Nat.mod_lt _ hz
        have hrl := k5 rows[k / z] (List.getElem_mem hi)
        have hjl : k % z < (rows[k / z]).length := by omega
        have h1 := hat (k / z) (k % z) _ _ (List.getElem?_eq_getElem hi) (List.getElem?_eq_getElem hjl)
        have e : k / z * z + k % z = k := by rw [Nat.mul_comm]; exact Nat.div_add_mod k z
        rw [e, hk'] at h1
        cases h1
        have := (k6 (k / z) (k % z) _ _ (List.getElem?_eq_getElem hi) (List.getElem?_eq_getElem hjl)).cell
        rw [← isCell_one]; exact this
      · intro i j row d q1 q2
        exact ⟨_, hat i j row d q1 q2, fun p => .view (k6 i j row d q1 q2)⟩
  cases m with
  | u => cases hr
  | own cs => cases hno
  | emp =>
    obtain ⟨z', e1, rfl⟩ := rep_emp hrep
    cases e1
    exact ⟨[], Src.ofNil w hk 0, by simp, by simp, by simp⟩
  | view ps => cases hrep with
    | view h => exact hrd ps rfl h

/-- A string. -/
theorem src_str {t' : Nat} {s : ByteArray} {m : M} (hk : V.P.underlying t' = some .string) (hm : m.readable = true) (hn : m = .view [] ∨ ∃ ps, m = .view ps) :
    Src V.P 1 t' (.string s) s.size (byteCells s) w ∧ Cells w C m (strRows s) 1 (byteCells s) := by
  refine ⟨Src.ofString w hk s, ?_, ?_, ?_⟩
  · rw [byteCells_length]; simp [strRows]
  · intro row hrow
    simp only [strRows, List.mem_map] at hrow
    obtain ⟨b, _, rfl⟩ := hrow
    rfl
  · intro i j row d q1 q2
    unfold strRows at q1
    rw [List.getElem?_map, Option.map_eq_some_iff] at q1
    obtain ⟨b, hb, rfl⟩ := q1
    cases j with
    | succ j => simp at q2
    | zero =>
      simp only [List.getElem?_cons_zero, Option.some.injEq] at q2
      subst q2
      refine ⟨.int .u8 b.toNat, ?_, ?_⟩
      · rw [Nat.mul_one, Nat.add_zero]
        unfold byteCells
        rw [List.getElem?_map, hb]; rfl
      · intro p
        rcases hn with rfl | ⟨ps, rfl⟩ <;> exact .view (.v rfl)
end
end Go.Ev

/- append as an operation. -/
namespace Go.Ev

theorem append_room {P : Program} {w : World} (t tx ty e : TypeId) (i : TypeInfo) (ht : P.underlying t = some (.slice e)) (hi : P.info? e = some i) (b off sLen sCap : Nat) (x : Value) (n : Nat) (news : List Value) (hs : Src P i.size tx x n news w)
    (hroom : sLen + n ≤ sCap) {arr : Array Value} {ty0 : TypeId} (hb : w.heap[b]? = some (.cells arr ty0 (0, 0))) (hsz : off + sLen * i.size + news.length ≤ arr.size) :
    (Builtin.append_ #[t, tx] ty #[.slice (some ⟨b, off, none⟩) sLen sCap, x]).run P w =
      .ok (.slice (some ⟨b, off, none⟩) (sLen + n) sCap) (w.setRow b (arr.toList.take (off + sLen * i.size) ++ news ++ arr.toList.drop (off + sLen * i.size + news.length)).toArray) := by
  have hst := run_storeCells_at (P := P) b (off + sLen * i.size) ty0 news 0 arr w hb (by simpa using hsz) hs.one
  simp only [Nat.add_zero] at hst
  rcases hs.kind with ⟨e', hk⟩ | hk <;> simp [Builtin.append_, run_underlying ht, run_underlying hk, sizeOf, typeInfo, hi, hs.len, hroom, hs.cells, Addr.add_lit, hst]

section
variable {V : Env} {A : Start} {w w' : World} {μ μ' : Mu} {φ : Fr} {C : Cx} {a : Act} {g : Nat → Value} {o : Oper} {x : X}

theorem grow_ext {e : TypeId} {arr : Array Value} : Ext w (w.drew.alloc (.cells arr e)) ∧ (w.drew.alloc (.cells arr e)).heap[w.heap.size]? = some (.cells arr e (0, 0)) ∧ w.heap.size < (w.drew.alloc (.cells arr e)).heap.size := by
  have hh : (w.drew.alloc (.cells arr e)).heap = w.heap.push (.cells arr e) := rfl
  refine ⟨⟨by rw [hh]; simp, ?_, ⟨rfl, rfl, rfl⟩⟩, by rw [hh]; simp, by rw [hh]; simp⟩
  intro b hb
  rw [hh, Array.getElem?_push, if_neg (by omega)]

/-- The state behind: what stands is the slot's own slice, old rows and new ones. -/
theorem append_st {d : Nat} {C1 : Cx} {μ1 : Mu} {t t' et yb z : Nat} {e ee : TE} {cols : List M} {my : M} {rows rows' : List (List D)} {news : List Value} {vx vy : Value} {m1 : M} {c : Call}
    (hrg : A.rg = []) (ho : o.op = .call c) (hbi : c.callee = .builtin .append) (hta : c.argTypes.toList = [t, t']) (hva : c.args.toList.map a.eval = [vx, vy]) (hd : o.dst = some d) (hd1 : d < 1000) (hsz : d < a.tmps.size)
    (h : St A w μ1 φ (tmO a.tmps g) C1) (he : V.get t = some e) (hel : e.el = some (et, z, yb)) (hee : V.get et = some ee) (hz0 : 0 < z) (hzl : ee.zero.length = z) (hcl : ee.zero.length = cols.length)
    (hx : Rep w C1 ⟨d, []⟩ m1 (.sl z rows) vx) (hm1 : (∃ c1, m1 = .own c1 ∧ leSL (mapL (killF [d]) c1) cols = true) ∨ m1 = .emp)
    (hno : my.noOwn = true) (hle : leSL (ee.zero.map fun z => flatM z (my.map (killF [d]))) cols = true) (hsrc : Src V.P z t' vy rows'.length news w) (hcells : Cells w C1 my rows' z news) (hfit : ∀ row ∈ rows', fits ee.zero row = true)
    (hroom : (rows.length + rows'.length) * yb ≤ memRoom) (hroom2 : rows.length + rows'.length ≤ strRoom) :
    OpOk V A w a g o (upd φ d (.d (.sl z (rows ++ rows')) none)) ((μ1.map (killF [d])).put d (.c (.own cols) .no)) := by
  obtain ⟨dd, hu, _, _, _, hsl, _⟩ := Env.desc he
  obtain ⟨rfl, i, hi, hiz, hib⟩ := hsl _ _ _ hel
  obtain ⟨i', v, hi', hs', hzv, hzs⟩ := Env.info hee
  rw [hi] at hi'; cases hi'
  have hvl : v.cells.size = z := by have := zero_len hzs; simp at this; omega
  obtain ⟨hnl, hrow', hnew⟩ := hcells
  have hex : ∀ r w', (Builtin.append_ #[t, t'] o.type #[vx, vy]).run V.P w = .ok r w' → (execOp a.eval o).run V.P w = .ok (.value r) w' := by
    intro r w' hr
    have e1 : c.args.map a.eval = #[vx, vy] := by
      apply Array.ext'
      rw [Array.toList_map, hva]
    have e2 : c.argTypes = #[t, t'] := by rw [← Array.toArray_toList (xs := c.argTypes), hta]
    simp only [execOp, ho, resolve, hbi]
    simp [invoke, builtin, e1, e2, hr]
  have fin : ∀ (r : Value) (w' : World) (N : Option (Nat × Ow)), (Builtin.append_ #[t, t'] o.type #[vx, vy]).run V.P w = .ok r w' → Regrow w w' C1 (C1.rg d N) d → Rep w' (C1.rg d N) ⟨d, []⟩ (.own cols) (.sl z (rows ++ rows')) r →
      OpOk V A w a g o (upd φ d (.d (.sl z (rows ++ rows')) none)) ((μ1.map (killF [d])).put d (.c (.own cols) .no)) := by
    intro r w' N hr hrr hrep
    refine ⟨.value r, r, w', C1.rg d N, g, hex r w' hr, .inl rfl, ?_⟩
    rw [hd, tm_put hd1 hsz]
    exact h.regrow hrg hd1 hrr (ClaimX.dropS ⟨_, none, rfl, hrep, fun _ => rfl⟩)
  -- the new rows, wherever they come to lie
  have hnews : ∀ {w' N} (hrr : Regrow w w' C1 (C1.rg d N) d) (i j : Nat) (row : List D) (x : D) (mc : M), rows'[i]? = some row → row[j]? = some x → cols[j]? = some mc → ∃ u, news[i * z + j]? = some u ∧ ∀ p, Rep w' (C1.rg d N) p mc x u := by
    intro w' N hrr i j row x mc q1 q2 q3
    obtain ⟨u, hu1, hu2⟩ := hnew i j row x q1 q2
    refine ⟨u, hu1, fun p => ?_⟩
    obtain ⟨m0, hm0, hle0⟩ := leSL_at hle q3
    rw [List.getElem?_map, Option.map_eq_some_iff] at hm0
    obtain ⟨zc, hz1, rfl⟩ := hm0
    have hf := fits_at (hfit row (List.mem_of_getElem? q1)) hz1 q2
    have h1 := rd_rg h hrr hno (hu2 ⟨0, []⟩) p
    exact (flat_rep hf h1 (fun h => h) h1).leS hle0
  have hlen : (rows ++ rows').length = rows.length + rows'.length := by simp
  -- a new row of cells
  have grow : ∀ (base : Option Addr) (cap : Nat) (olds : List Value), vx = .slice base rows.length cap → (Builtin.firstCells i.size rows.length (.slice base rows.length cap)).run V.P w.drew = .ok olds.toArray w.drew → cap < rows.length + rows'.length → olds.length = rows.length * z → (∀ row ∈ rows, row.length = z) →
      (∀ {w' N} (hrr : Regrow w w' C1 (C1.rg d N) d) (i j : Nat) (row : List D) (x : D) (mc : M), rows[i]? = some row → row[j]? = some x → cols[j]? = some mc → ∃ u, olds[i * z + j]? = some u ∧ Rep w' (C1.rg d N) ((⟨d, []⟩ : Pl).cell i j) mc x u) →
      OpOk V A w a g o (upd φ d (.d (.sl z (rows ++ rows')) none)) ((μ1.map (killF [d])).put d (.c (.own cols) .no)) := by
    intro base cap olds hv hold hg hol hrow hkid
    have hn2 := nextslicecap_le hg
    have hfit2 : Builtin.nextslicecap (rows.length + rows'.length) cap * i.bytes ≤ 281474976710656 := by
      rw [hib]
      have h1 := Nat.mul_le_mul_right yb hn2
      have h2 : 2 * (rows.length + rows'.length) * yb = 2 * ((rows.length + rows'.length) * yb) := by rw [Nat.mul_assoc]
      unfold memRoom at hroom
      omega
    have hrun := run_append_grow_src (P := V.P) w t t' o.type et i v hu hi hzv base rows.length cap olds hold vy rows'.length news (by rw [hiz]; exact hsrc) hg (by unfold strRoom at hroom2; omega) hfit2
    rw [← hv] at hrun
    generalize hcap : grownCap w (rows.length + rows'.length) cap et = cap' at hrun
    have hge : rows.length + rows'.length ≤ cap' := by rw [← hcap]; exact grownCap_ge w _ _ _
    generalize harr : (olds ++ news).toArray ++ Builtin.zeroCells v.cells (cap' - (rows.length + rows'.length)) = arr' at hrun
    obtain ⟨hext, hheap, hlt⟩ := grow_ext (w := w) (e := et) (arr := arr')
    have hsize : arr'.size = cap' * z := by
      rw [← harr]
      simp only [Array.size_append, List.size_toArray, List.length_append, Builtin.zeroCells, Array.size_map, Array.size_range, hvl]
      rw [hol, hnl, ← Nat.add_mul, ← Nat.add_mul]
      congr 1
      omega
    have hrr : Regrow w (w.drew.alloc (.cells arr' et)) C1 (C1.rg d (some (w.heap.size, ⟨⟨d, []⟩, 0, cap', z⟩))) d := rg_regrow_some h rfl (.inl ⟨Nat.le_refl _, hlt⟩) (fun b hb _ => hext.same b hb) hext.size hext.calm
    refine fin _ _ _ hrun hrr ?_
    rw [← hlen]
    refine .own (arr := arr') (ty := et) rg_new hheap (by rw [hlen]; exact hge) (by omega) (by omega) hz0 ?_ ?_
    · intro row hr
      rcases List.mem_append.1 hr with hr | hr
      · exact hrow row hr
      · exact hrow' row hr
    · intro i' j row x mc q1 q2 q3
      rw [Nat.zero_add]
      have hjz : j < z := by have := (List.getElem?_eq_some_iff.1 q3).1; omega
      have hget : ∀ k, k < (rows.length + rows'.length) * z → arr'.getD k undef = ((olds ++ news)[k]?).getD undef := by
        intro k hk
        rw [← harr, Array.getD_eq_getD_getElem?, Array.getElem?_append_left (by simp [hol, hnl]; rw [← Nat.add_mul]; exact hk), List.getElem?_toArray]
      rw [List.getElem?_append] at q1
      split at q1
      · rename_i hlt'
        obtain ⟨u, hu1, hu2⟩ := hkid hrr i' j row x mc q1 q2 q3
        have hk := mul_at (z := z) hlt' hjz
        have hk2 : i' * z + j < (rows.length + rows'.length) * z := by rw [Nat.add_mul]; omega
        rw [hget _ hk2, List.getElem?_append_left (by omega), hu1]
        exact hu2
      · rename_i hge'
        obtain ⟨u, hu1, hu2⟩ := hnews hrr (i' - rows.length) j row x mc q1 q2 q3
        have hi2 := (List.getElem?_eq_some_iff.1 q1).1
        have hk := mul_at (z := z) hi2 hjz
        have e1 : i' * z + j = rows.length * z + ((i' - rows.length) * z + j) := by
          have : i' = rows.length + (i' - rows.length) := by omega
          conv => lhs; rw [this, Nat.add_mul]
          omega
        have hk2 : i' * z + j < (rows.length + rows'.length) * z := by rw [e1, Nat.add_mul]; omega
        rw [hget _ hk2, e1, List.getElem?_append_right (by omega), hol]
        have e2 : rows.length * z + ((i' - rows.length) * z + j) - rows.length * z = (i' - rows.length) * z + j := by omega
        rw [e2, hu1]
        exact hu2 _
  have nilcase : rows = [] → vx = .slice none 0 0 → OpOk V A w a g o (upd φ d (.d (.sl z (rows ++ rows')) none)) ((μ1.map (killF [d])).put d (.c (.own cols) .no)) := by
    rintro rfl rfl
    by_cases hn : rows'.length = 0
    · have hr0 : rows' = [] := List.length_eq_zero_iff.1 hn
      subst hr0
      have hn0 : news = [] := List.length_eq_zero_iff.1 (by simpa using hnl)
      subst hn0
      refine fin _ w none (run_append_nothing w t t' o.type et i hu hi none 0 0 (Nat.le_refl _) vy (by rw [hiz]; exact hsrc)) (rg_regrow_none h (Ext.refl w)) .nil
    · refine grow none 0 [] rfl (by rw [hiz]; exact run_firstCells_none w.drew z 0 0 0) (by simp; omega) (by simp) (by simp) ?_
      intro w' N _ i j row x mc q1
      simp at q1
  rcases hm1 with ⟨c1, rfl, hlec⟩ | rfl
  · cases hx with
    | nil => exact nilcase rfl rfl
    | @own _ _ _ _ b off cap arr ty k1 k2 k3 k4 k5 k6 k7 k8 =>
      have hkid : ∀ {w' N} (hrr : Regrow w w' C1 (C1.rg d N) d) (i j : Nat) (row : List D) (x : D) (mc : M), rows[i]? = some row → row[j]? = some x → cols[j]? = some mc → Rep w' (C1.rg d N) ((⟨d, []⟩ : Pl).cell i j) mc x (arr.getD (off + i * z + j) undef) := by
        intro w' N hrr i j row x mc q1 q2 q3
        obtain ⟨m0, hm0, hle0⟩ := leSL_at hlec q3
        obtain ⟨m, hm, rfl⟩ := mapL_get hm0
        exact (rep_rg h hrr (k8 i j row x m q1 q2 hm)).leS hle0
      by_cases hcap : rows.length + rows'.length ≤ cap
      · have hmul := Nat.mul_le_mul_right z hcap
        rw [Nat.add_mul] at hmul
        have hrun := append_room (P := V.P) (w := w) t t' o.type et i hu hi b off rows.length cap vy rows'.length news (by rw [hiz]; exact hsrc) hcap k2 (by rw [hiz]; omega)
        rw [hiz] at hrun
        have hal : off + rows.length * z + news.length ≤ arr.toList.length := by simp; omega
        have hrr : Regrow w (w.setRow b (arr.toList.take (off + rows.length * z) ++ news ++ arr.toList.drop (off + rows.length * z + news.length)).toArray) C1 (C1.rg d (some (b, ⟨⟨d, []⟩, off, cap, z⟩))) d :=
          rg_regrow_some h rfl (.inr ⟨_, _, _, k1⟩) (fun b' _ hne => setRow_ne hne) (by rw [setRow_size]; exact Nat.le_refl _) ⟨rfl, rfl, rfl⟩
        refine fin _ _ _ hrun hrr ?_
        rw [← hlen]
        have hsize : (arr.toList.take (off + rows.length * z) ++ news ++ arr.toList.drop (off + rows.length * z + news.length)).toArray.size = arr.size := by
          rw [List.size_toArray, splice_length hal]; simp
        refine .own rg_new (setRow_get k2) (by rw [hlen]; exact hcap) (by rw [hsize]; exact k4) (by omega) hz0 ?_ ?_
        · intro row hr
          rcases List.mem_append.1 hr with hr | hr
          · exact k7 row hr
          · exact hrow' row hr
        · intro i' j row x mc q1 q2 q3
          have hjz : j < z := by have := (List.getElem?_eq_some_iff.1 q3).1; omega
          rw [Array.getD_eq_getD_getElem?, List.getElem?_toArray, splice_get hal]
          rw [List.getElem?_append] at q1
          split at q1
          · rename_i hlt'
            have hk := mul_at (z := z) hlt' hjz
            rw [if_pos (by omega), Array.getElem?_toList, ← Array.getD_eq_getD_getElem?]
            exact hkid hrr i' j row x mc q1 q2 q3
          · rename_i hge'
            obtain ⟨u, hu1, hu2⟩ := hnews hrr (i' - rows.length) j row x mc q1 q2 q3
            have hi2 := (List.getElem?_eq_some_iff.1 q1).1
            have hk := mul_at (z := z) hi2 hjz
            have e1 : i' * z + j = rows.length * z + ((i' - rows.length) * z + j) := by
              have : i' = rows.length + (i' - rows.length) := by omega
              conv => lhs; rw [this, Nat.add_mul]
              omega
            rw [if_neg (by omega), if_pos (by omega)]
            have e2 : off + i' * z + j - (off + rows.length * z) = (i' - rows.length) * z + j := by omega
            rw [e2, hu1]
            exact hu2 _
      · have hl : ((arr.toList.drop off).take (rows.length * z)).length = rows.length * z := by
          have := Nat.mul_le_mul_right z k3
          simp; omega
        have hat : ∀ i j row x, rows[i]? = some row → row[j]? = some x → ((arr.toList.drop off).take (rows.length * z))[i * z + j]? = some (arr.getD (off + i * z + j) undef) := by
          intro i j row x q1 q2
          have hi' := (List.getElem?_eq_some_iff.1 q1).1
          have hj : j < z := by have := k7 row (List.mem_of_getElem? q1); have := (List.getElem?_eq_some_iff.1 q2).1; omega
          have := mul_at (z := z) hi' hj
          have h3 := Nat.mul_le_mul_right z k3
          rw [List.getElem?_take, if_pos this, List.getElem?_drop, Array.getElem?_toList, ← Nat.add_assoc, Array.getD_eq_getD_getElem?, Array.getElem?_eq_getElem (by omega)]
          rfl
        refine grow (some ⟨b, off, none⟩) cap ((arr.toList.drop off).take (rows.length * z)) rfl ?_ (by omega) hl k7 ?_
        · rw [hiz]
          refine run_firstCells_some w.drew z rows.length ⟨b, off, none⟩ rows.length cap _ hl ?_
          intro j u hj
          rw [List.getElem?_take] at hj
          split at hj
          · rw [List.getElem?_drop, Array.getElem?_toList] at hj
            rw [addr_add]
            have : w.drew.heap[b]? = some (.cells arr ty (0, 0)) := k2
            rw [cell_of this]
            exact hj
          · cases hj
        · intro w' N hrr i j row x mc q1 q2 q3
          exact ⟨_, hat i j row x q1 q2, hkid hrr i j row x mc q1 q2 q3⟩
  · obtain ⟨z', e1, e2⟩ := rep_emp hx
    cases e1
    exact nilcase rfl e2
end
end Go.Ev

/- append, out of its rule. -/
namespace Go.Ev
section
variable {V : Env} {A : Start} {w w' : World} {μ μ' : Mu} {φ : Fr} {C : Cx} {a : Act} {g : Nat → Value} {o : Oper} {x : X}

theorem slice_ty {t : Nat} {e : TE} (h : V.get t = some e) (hs : e.el.isSome = true) : ∃ et, V.P.underlying t = some (.slice et) := by
  obtain ⟨⟨et, z, y⟩, hel⟩ := Option.isSome_iff_exists.1 hs
  obtain ⟨d, hu, _, _, _, hsl, _⟩ := Env.desc h
  obtain ⟨rfl, _⟩ := hsl _ _ _ hel
  exact ⟨et, hu⟩

theorem string_ty {t : Nat} {e : TE} (h : V.get t = some e) (hk : e.kd = 2) : V.P.underlying t = some .string := by
  obtain ⟨d, hu, _, _, _, _, _, hd⟩ := Env.desc h
  rw [hd hk] at hu; exact hu

theorem s_append {c : Call} {y z : Operand} {t t' d : Nat} {cols : List M} (hrg : A.rg = []) (ho : o.op = .call c) (hb : c.callee = .builtin .append) (hargs : c.args.toList = [y, z]) (hta : c.argTypes.toList = [t, t']) (hd : o.dst = some d)
    (hd1 : d < 1000) (hsz : d < a.tmps.size) (h : St A w μ φ (tmO a.tmps g) C) (hy : sm1 y = true) (hz : sm1 z = true) (hx : appX V.τ t t' (opX V.τ φ t y) (opX V.τ φ t' z) = some x) (hm : appM V.τ μ t y z d cols = some μ') :
    OpOk V A w a g o (upd φ d x) μ' := by
  unfold appX at hx
  unfold appM at hm
  split at hx
  · rename_i e he
    split at hx
    · rename_i et zz by_ z1 rows o1 hel hopy
      split at hx
      · rename_i ee hee
        split at hx
        · rename_i hcond
          obtain ⟨rfl, hz0, hzl⟩ := hcond
          rw [he] at hm
          simp only at hm
          rw [hel] at hm
          simp only at hm
          rw [hee] at hm
          simp only at hm
          split at hm
          · rename_i m1 μ1 hgv
            split at hm
            · rename_i my og hopz
              split at hm
              · rename_i hc
                cases hm
                simp only [Bool.and_eq_true] at hc
                obtain ⟨⟨⟨hmr, hm1⟩, hle⟩, hcr⟩ := hc
                have hcl0 := h.clear hd1
                have hgd : ∀ t2, y = .tmp t2 → d ≠ t2 := by
                  rintro t2 rfl rfl
                  simp only [give, get_clear, hit_self, if_true] at hgv
                  cases hgv
                obtain ⟨vs, C1, hv1, hv2, hG⟩ := give_sound (T := fun _ => ⟨d, []⟩) (τ := V.τ) (ty := t) (ds := [.sl z1 rows]) hcl0 hy (tg_clear (T := fun _ => ⟨d, []⟩) (n := 1) h (fun _ => rfl) (by intro j k q q' hj hk hne; omega)) (fun _ t2 ht2 => hgd t2 ht2) hgv (by rw [hopy]; rfl)
                have hve := hv2 _ _ hopy
                subst hve
                have hrx := hG.rep 0 m1 _ _ rfl rfl rfl
                have hm1' : (∃ c1, m1 = .own c1 ∧ leSL (mapL (killF [d]) c1) cols = true) ∨ m1 = .emp := by
                  cases m1 with
                  | own c1 => exact .inl ⟨c1, rfl, hm1⟩
                  | emp => exact .inr rfl
                  | u => cases hm1
                  | view ps => cases hm1
                have hcl : ee.zero.length = cols.length := by have := leSL_len hle; simpa using this
                have hva : c.args.toList.map a.eval = [a.eval y, a.eval z] := by rw [hargs]; rfl
                have hno : my.noOwn = true := by have := opM_noOwn μ1 z; rw [hopz] at this; exact this
                have hzu : opX V.τ φ t' z ≠ .u := by
                  intro e1
                  rw [e1] at hx
                  cases hx
                have hcz := op_sound (s := 0) hG.st hz hzu
                rw [hopz] at hcz
                obtain ⟨dz, oz, ez, hrz, _⟩ := hcz
                rw [ez] at hx
                have core : ∀ (rows' : List (List D)) (news : List Value), Src V.P z1 t' (a.eval z) rows'.length news w → Cells w C1 my rows' z1 news → (∀ row ∈ rows', fits ee.zero row = true) → (rows.length + rows'.length) * by_ ≤ memRoom → rows.length + rows'.length ≤ strRoom →
                    x = .d (.sl z1 (rows ++ rows')) none → OpOk V A w a g o (upd φ d x) ((μ1.map (killF [d])).put d (.c (.own cols) .no)) := by
                  rintro rows' news h1 h2 h3 h4 h5 rfl
                  exact append_st hrg ho hb hta hva hd hd1 hsz hG.st he hel hee hz0 hzl hcl hrx hm1' hno hle h1 h2 h3 h4 h5
                split at hx
                · rename_i z2 rows' oz' eqz
                  cases eqz
                  split at hx
                  · rename_i hc2
                    obtain ⟨hty, rfl, hall, hr1, hr2⟩ := hc2
                    have hfit : ∀ row ∈ rows', fits ee.zero row = true := List.all_eq_true.1 hall
                    have hk : ∃ et', V.P.underlying t' = some (.slice et') := by
                      rw [Option.any_eq_true] at hty
                      obtain ⟨e', he', h1⟩ := hty
                      exact slice_ty (V := V) he' h1
                    obtain ⟨et', hk⟩ := hk
                    obtain ⟨news, h1, h2⟩ := src_rows (w := w) hk hno hmr (fun row hr => by have := fits_len (hfit row hr); omega) hz0 hrz
                    exact core rows' news h1 h2 hfit hr1 hr2 (Option.some.inj hx).symm
                  · cases hx
                · rename_i s oz' eqz
                  cases eqz
                  split at hx
                  · rename_i hc2
                    obtain ⟨hty, hz8, hr1, hr2⟩ := hc2
                    have hz1e : z1 = 1 := by rw [← hzl, hz8]; rfl
                    subst hz1e
                    have hk : V.P.underlying t' = some .string := by
                      rw [Option.any_eq_true] at hty
                      obtain ⟨e', he', h1⟩ := hty
                      exact string_ty (V := V) he' (by simpa using h1)
                    have hzv := rep_val hrz hmr
                    have hview : my = .view [] ∨ ∃ ps, my = .view ps := by
                      cases my with
                      | u => cases hmr
                      | emp => obtain ⟨_, e1, _⟩ := rep_emp hrz; cases e1
                      | own cs => cases hno
                      | view ps => exact .inr ⟨ps, rfl⟩
                    obtain ⟨h1, h2⟩ := src_str (V := V) (w := w) (C := C1) (s := s) hk hmr hview
                    have hsl : (strRows s).length = s.size := by simp [strRows]
                    refine core (strRows s) (byteCells s) (by rw [hzv, hsl]; exact h1) h2 ?_ (by rw [hsl]; exact hr1) (by rw [hsl]; exact hr2) (Option.some.inj hx).symm
                    intro row hrow
                    simp only [strRows, List.mem_map] at hrow
                    obtain ⟨b, _, rfl⟩ := hrow
                    rw [hz8]
                    simp [fits, ZC.fit]
                  · cases hx
                · cases hx
              · cases hm
            · cases hm
          · cases hm
        · cases hx
      · cases hx
    · cases hx
  · cases hx
end
end Go.Ev

/- A slot is given up; new blocks are owned, or frozen. -/
namespace Go.Ev

def Cx.dropG (C : Cx) (t : Nat) (n : Nat) (N : Nat → Option Ow) (NG : Nat → Prop) : Cx where
  own b := (C.drop t n N).own b
  G b := (C.drop t n N).G b ∨ NG b
  PA := C.PA

section
variable {A : Start} {w w' : World} {μ : Mu} {φ : Fr} {tm : Nat → Value} {C : Cx}

theorem dropG_own {t n : Nat} {N : Nat → Option Ow} {NG : Nat → Prop} {b : Nat} {o : Ow} (h : C.own b = some o) (hb : b < n) (ht : hit t o.p.s = false) : (C.dropG t n N NG).own b = some o := Cx.drop_own h hb ht
theorem dropG_inv {t n : Nat} {N : Nat → Option Ow} {NG : Nat → Prop} {b : Nat} {o : Ow} (h : (C.dropG t n N NG).own b = some o) : (n ≤ b ∧ N b = some o) ∨ (b < n ∧ C.own b = some o ∧ hit t o.p.s = false) := Cx.drop_inv h
theorem dropG_ok (h : St A w μ φ tm C) {t : Nat} {N : Nat → Option Ow} {NG : Nat → Prop} {ps : List Pv} {b : Nat} (hb : okB C ps b) : okB (C.dropG t w.heap.size N NG) ps b := by
  rcases Cx.drop_ok (N := N) (t := t) h hb with h1 | ⟨p, hp, h1⟩
  · exact .inl (.inl h1)
  · cases p with
    | arg i => exact .inr ⟨_, hp, h1⟩
    | lab l => exact .inr ⟨_, hp, h1⟩

theorem St.putGG (h : St A w μ φ tm C) {t : Nat} (ht : t < 1000) (he : Ext w w') (N : Nat → Option Ow) (NG : Nat → Prop)
    (hN : ∀ b o, w.heap.size ≤ b → N b = some o → b < w'.heap.size)
    (hNG : ∀ b, NG b → w.heap.size ≤ b ∧ b < w'.heap.size ∧ N b = none)
    (hNt : ∀ b o, w.heap.size ≤ b → N b = some o → hit t o.p.s = true)
    (hNi : ∀ b b' o o', w.heap.size ≤ b → w.heap.size ≤ b' → N b = some o → N b' = some o' → o.p = o'.p → b = b')
    {μ' : Mu} {φ' : Fr} {tm' : Nat → Value} (hφ : ∀ s, hit t s = false → φ' s = φ s) (htm : ∀ s, hit t s = false → tm' s = tm s)
    (hμ : ∀ s, hit t s = false → μ'.get s = (μ.get s).dropS t)
    (hc : ∀ s, hit t s = true → φ' s = .u ∨ Claim w' (C.dropG t w.heap.size N NG) φ' tm' s (μ'.get s)) :
    St A w' μ' φ' tm' (C.dropG t w.heap.size N NG) := by
  have hsame : ∀ b, b < w.heap.size → w'.heap[b]? = w.heap[b]? := he.same
  refine ⟨?_, ?_, ?_, ?_, ?_, ?_, ?_, Nat.le_trans h.size he.size, h.calm.trans he.calm, ?_⟩
  · intro s
    cases hs : hit t s with
    | true => exact hc s hs
    | false =>
      rw [hφ s hs, hμ s hs]
      rcases h.slot s with h1 | h1
      · exact .inl h1
      · right
        have h2 := h1.dropS (t := t)
        have h3 := h2.keep (w' := w') (C' := C.dropG t w.heap.size N NG) (φ' := φ') (tm' := tm') idF (hφ s hs) (htm s hs) ?_ ?_ ?_ ?_ ?_
        · rwa [smap_id] at h3
        · intro b q off c z hb
          have hlt := (h.own b _ hb).1
          exact ⟨dropG_own hb hlt hs, hsame b hlt⟩
        · intro ps ps' hf b hb
          cases hf
          exact ⟨dropG_ok h hb, hsame b (h.ok_lt hb)⟩
        · intro i b hb
          exact ⟨hb, hsame b (Nat.lt_of_lt_of_le (h.pa i b hb).1 h.size)⟩
        · intro b hb
          exact ⟨.inl (.inl hb), hsame b (h.frz b hb).1⟩
        · refine refKeep_dropS idF _ hφ htm (fun b o hb hh => dropG_own hb (h.own b o hb).1 hh) ?_
          intro b n e i hi hb
          rw [e] at h1
          exact cix_hit h1.2.1 hi ht hb
  · intro b b' o o' h1 h2 e
    rcases dropG_inv h1 with ⟨l1, n1⟩ | ⟨l1, n1, g1⟩ <;> rcases dropG_inv h2 with ⟨l2, n2⟩ | ⟨l2, n2, g2⟩
    · exact hNi b b' o o' l1 l2 n1 n2 e
    · rw [← e, hNt b o l1 n1] at g2; cases g2
    · rw [e, hNt b' o' l2 n2] at g1; cases g1
    · exact h.inj b b' o o' n1 n2 e
  · intro b o h1
    rcases dropG_inv h1 with ⟨l1, n1⟩ | ⟨l1, n1, g1⟩
    · refine ⟨hN b o l1 n1, ?_, ?_, .inr (Nat.le_trans h.size l1)⟩
      · rintro ((hg | ⟨o', ho', _⟩) | hg)
        · have := (h.frz b hg).1; omega
        · have := (h.own b o' ho').1; omega
        · rw [(hNG b hg).2.2] at n1; cases n1
      · intro i hp
        have := (h.pa i b hp).1
        have := h.size
        omega
    · obtain ⟨q1, q2, q3, q4⟩ := h.own b o n1
      refine ⟨Nat.lt_of_lt_of_le q1 he.size, ?_, q3, q4⟩
      rintro ((hg | ⟨o', ho', hh⟩) | hg)
      · exact q2 hg
      · rw [n1] at ho'; cases ho'; rw [hh] at g1; cases g1
      · have := (hNG b hg).1; omega
  · rintro b ((hg | ⟨o, ho, hh⟩) | hg)
    · exact ⟨Nat.lt_of_lt_of_le (h.frz b hg).1 he.size, (h.frz b hg).2⟩
    · obtain ⟨q1, q2, q3, q4⟩ := h.own b o ho
      exact ⟨Nat.lt_of_lt_of_le q1 he.size, .inr q4⟩
    · have := hNG b hg
      exact ⟨this.2.1, .inr (.inr (Nat.le_trans h.size this.1))⟩
  · intro b hb
    exact ⟨.inl (.inl (h.ag b hb).1), (h.ag b hb).2⟩
  · exact h.pa
  · intro b hb hn
    rw [hsame b (Nat.lt_of_lt_of_le hb h.size)]
    exact h.old b hb hn
  · intro r hr
    obtain ⟨h1, h2⟩ := h.rng r hr
    refine ⟨h1.ext (hsame r.b h1.lt), fun o ho => ?_⟩
    rcases dropG_inv ho with ⟨l1, n1⟩ | ⟨l1, n1, g1⟩
    · have := h1.lt; omega
    · obtain ⟨e, ds, q1, q2⟩ := h2 o n1
      refine ⟨e, ds, ?_, q2⟩
      rw [e] at g1
      rw [hφ r.i g1]; exact q1
end
end Go.Ev

/- What a function does: its contract; its arguments at a call. -/
namespace Go.Ev

/-- An argument that is read: by its type, out of these blocks. -/
def ArgOk (V : Env) (w : World) (ok : Nat → Prop) (ty : Nat) (x : X) (v : Value) : Prop :=
  ∃ e, V.get ty = some e ∧ ((e.agg = false ∧ ∃ d, x = .d d none ∧ fits e.zero [d] = true ∧ Rd w ok d v) ∨
    (e.agg = true ∧ ∃ ds vs, x = .agg ds none ∧ v = .agg vs ∧ vs.size = ds.length ∧ fits e.zero ds = true ∧ ∀ (j : Nat) (d : D), ds[j]? = some d → Rd w ok d (vs.getD j undef)))

def PM.okOf (pm : PM) (G PAi : Nat → Prop) (b : Nat) : Prop := match pm with
  | .rd => G b ∨ PAi b
  | _ => G b

/-- What a call has left. -/
structure Done (w w' : World) (G : Nat → Prop) (PA : Nat → Nat → Prop) (sg : Sig) (rs : List X) (vs : List Value) (C' : Cx) : Prop where
  ext : Ext w w'
  own : ∀ b o, C'.own b = some o → w.heap.size ≤ b ∧ b < w'.heap.size ∧ ¬ C'.G b ∧ o.p.s < rs.length
  inj : ∀ b b' o o', C'.own b = some o → C'.own b' = some o' → o.p = o'.p → b = b'
  frz : ∀ b, C'.G b → G b ∨ (w.heap.size ≤ b ∧ b < w'.heap.size)
  keep : ∀ b, G b → C'.G b
  pa : C'.PA = PA
  len : vs.length = rs.length
  lenr : sg.res.length = rs.length
  res : ∀ (k : Nat) (r : X) (v : Value) (sm : SM), rs[k]? = some r → vs[k]? = some v → sg.res[k]? = some sm → ClaimX w' C' (fun _ => .u) (fun _ => undef) k r v sm

def packV : List Value → Value
  | [v] => v
  | vs => .tuple vs.toArray

def Does (V : Env) (f : Nat) (sg : Sig) (F : List X → Option (List X × List X)) : Prop :=
  (∃ fn b, V.P.funcs[f]? = some fn ∧ fn.body = some b ∧ fn.name ≠ "runtime.NumGoroutine") ∧
  ∀ (w : World) (G : Nat → Prop) (PA : Nat → Nat → Prop) (vals : List Value) (xs : List X), vals.length = sg.pms.length → xs.length = sg.pms.length → (∀ b, G b → b < w.heap.size) → (∀ i b, PA i b → b < w.heap.size) →
    (∀ (i : Nat) (x : X) (v : Value) (pm : PM) (ty : Nat), xs[i]? = some x → vals[i]? = some v → sg.pms[i]? = some pm → sg.tys[i]? = some ty → ArgOk V w (pm.okOf G (PA i)) ty x v) →
    ∀ rs outs, F xs = some (rs, outs) → Calls V.P f vals.toArray w fun e w' => ∃ vs C', e = .returned (packV vs) ∧ Done w w' G PA sg rs vs C'

section
variable {V : Env} {A : Start} {w w' : World} {μ μ' : Mu} {φ : Fr} {C : Cx} {a : Act} {g : Nat → Value} {o : Oper} {x : X}

theorem rep_rd {p : Pl} {m : M} {d : D} {v : Value} {ps : List Pv} (h : Rep w C p m d v) (hn : m.noOwn = true) (hp : m.prov = some ps) : Rd w (okB C ps) d v := by
  cases h with
  | u => cases hp
  | emp => exact .nil
  | view h => simp only [M.prov, Option.some.injEq] at hp; subst hp; exact h
  | nil => cases hn
  | own h1 => cases hn

theorem rd_flat {ok : Nat → Prop} {p : Pl} {zc : ZC} {m : M} {d : D} {v : Value} (h : Rep w C p m d v) (hm : m.readable = true) (hf : zc.flat = true) (hz : zc.fit d = true) : Rd w ok d v := by
  obtain ⟨x, rfl, hx⟩ := fit_flat hz hf
  rw [rep_val h hm]
  exact .v hx

/-- One argument. -/
theorem argQ_sound {pm : PM} {y : Operand} {ty : Nat} {ps : List Pv} (h : St A w μ φ (tmO a.tmps g) C) (hs : sm1 y = true) (hx : argX V.τ φ pm.pk y ty = some x) (hm : argQ V.τ μ pm y ty = some ps) :
    ArgOk V w (pm.okOf C.G (okB C ps)) ty x (a.eval y) := by
  unfold argQ at hm
  split at hm
  · rename_i e he
    split at hm
    · rename_i hr
      have hpk : pm.pk = .val ∧ ((pm = .rd ∧ ((e.zero.all ZC.flat = true ∧ ps = []) ∨ prov0 (opM μ y) = some ps)) ∨ (pm = .frz ∧ ps = [] ∧ prov0 (opM μ y) = some [])) := by
        cases pm with
        | rd =>
          simp only at hm
          split at hm
          · rename_i hf; cases hm; exact ⟨rfl, .inl ⟨rfl, .inl ⟨hf, rfl⟩⟩⟩
          · exact ⟨rfl, .inl ⟨rfl, .inr hm⟩⟩
        | frz =>
          simp only at hm
          split at hm
          · rename_i hq; cases hm; exact ⟨rfl, .inr ⟨rfl, rfl, hq⟩⟩
          · cases hm
        | _ => cases hm
      obtain ⟨hpk, hcase⟩ := hpk
      rw [hpk] at hx
      simp only [argX] at hx
      have hno := opM_noOwn μ y
      -- out of the blocks told
      have one : ∀ (m : M) (zc : ZC) (d : D) (v : Value) (p : Pl), Rep w C p m d v → m.noOwn = true → m.readable = true → zc ∈ e.zero → zc.fit d = true → (∀ qs, prov0 (opM μ y) = some qs → ∃ rs, m.prov = some rs ∧ ∀ q ∈ rs, q ∈ qs) → Rd w (pm.okOf C.G (okB C ps)) d v := by
        intro m zc d v p hrep hn hmr hzc hfit hprov
        rcases hcase with ⟨rfl, ⟨hf, rfl⟩ | hq⟩ | ⟨rfl, rfl, hq⟩
        · exact rd_flat hrep hmr (List.all_eq_true.1 hf zc hzc) hfit
        · obtain ⟨rs, h1, h2⟩ := hprov ps hq
          exact (rep_rd hrep hn h1).mono fun b hb => ⟨.inr (okB_mono h2 hb), rfl⟩
        · obtain ⟨rs, h1, h2⟩ := hprov [] hq
          refine (rep_rd hrep hn h1).mono fun b hb => ⟨?_, rfl⟩
          rcases okB_mono h2 hb with h3 | ⟨q, hq', _⟩
          · exact h3
          · simp at hq'
      split at hx
      · rename_i d og hop
        rw [he] at hx
        simp only at hx
        split at hx
        · rename_i hc
          cases hx
          simp only [Bool.and_eq_true, Bool.not_eq_true'] at hc
          have hcl := op_sound (τ := V.τ) (ty := ty) (s := 0) h hs (by rw [hop]; simp)
          rw [hop] at hcl
          refine ⟨e, he, .inl ⟨hc.1, d, rfl, hc.2, ?_⟩⟩
          have hzl := fits_len hc.2
          obtain ⟨zc, hz⟩ : ∃ zc, e.zero = [zc] := by
            match hq : e.zero, hzl with
            | [zc], _ => exact ⟨zc, rfl⟩
          have hfz : zc.fit d = true := fits_at hc.2 (j := 0) (by rw [hz]; rfl) rfl
          generalize opM μ y = sm at *
          cases sm with
          | c m o' =>
            obtain ⟨d', o2, e1, e2, _⟩ := hcl
            cases e1
            exact one m zc d _ _ e2 hno hr (by rw [hz]; simp) hfz (fun qs hq => ⟨qs, hq, fun q h => h⟩)
          | agg ms o' => obtain ⟨_, _, _, e1, _⟩ := hcl; cases e1
          | _ => cases hr
        · cases hx
      · rename_i ds og hop
        rw [he] at hx
        simp only at hx
        split at hx
        · rename_i hc
          cases hx
          simp only [Bool.and_eq_true] at hc
          have hcl := op_sound (τ := V.τ) (ty := ty) (s := 0) h hs (by rw [hop]; simp)
          rw [hop] at hcl
          generalize opM μ y = sm at *
          cases sm with
          | agg ms o' =>
            obtain ⟨ds', o2, vs, e1, e2, e3, e4, e5, _⟩ := hcl
            cases e1
            refine ⟨e, he, .inr ⟨hc.1, ds, vs, rfl, e2, e3, hc.2, ?_⟩⟩
            intro j d hj
            have hjl := (List.getElem?_eq_some_iff.1 hj).1
            have hzl := fits_len hc.2
            have hz : e.zero[j]? = some e.zero[j] := List.getElem?_eq_getElem (by omega)
            have hmj : ms[j]? = some ms[j] := List.getElem?_eq_getElem (by omega)
            have hnj : (ms[j]).noOwn = true := by simp only [SM.noOwn, List.all_eq_true] at hno; exact hno _ (List.mem_of_getElem? hmj)
            have hrj : (ms[j]).readable = true := by simp only [SM.readable, List.all_eq_true] at hr; exact hr _ (List.mem_of_getElem? hmj)
            exact one ms[j] e.zero[j] d _ _ (e5 0 j ds d _ rfl hj hmj) hnj hrj (List.mem_of_getElem? hz) (fits_at hc.2 hz hj) (fun qs hq => provL_mem hq hmj)
          | c m o' => obtain ⟨_, _, e1, _⟩ := hcl; cases e1
          | _ => cases hr
        · cases hx
      · rename_i f caps hop
        exfalso
        have hcl := op_sound (τ := V.τ) (ty := ty) (s := 0) h hs (by rw [hop]; simp)
        rw [hop] at hcl
        generalize opM μ y = sm at *
        cases sm with
        | c m o' => obtain ⟨_, _, e1, _⟩ := hcl; cases e1
        | agg ms o' => obtain ⟨_, _, _, e1, _⟩ := hcl; cases e1
        | _ => cases hr
      · rename_i f caps hop
        exfalso
        have hcl := op_sound (τ := V.τ) (ty := ty) (s := 0) h hs (by rw [hop]; simp)
        rw [hop] at hcl
        generalize opM μ y = sm at *
        cases sm with
        | c m o' => obtain ⟨_, _, e1, _⟩ := hcl; cases e1
        | agg ms o' => obtain ⟨_, _, _, e1, _⟩ := hcl; cases e1
        | _ => cases hr
      · cases hx
    · cases hm
  · cases hm
end
end Go.Ev

/- Results of a call, put where the caller wants them. -/
namespace Go.Ev
section
variable {w' : World} {C1 C2 : Cx} {φ1 φ2 : Fr} {tm1 tm2 : Nat → Value}

theorem res_move {k s : Nat} {r : X} {v : Value} {sm : SM} (h : ClaimX w' C1 φ1 tm1 k r v sm) (hok : sm.resOk = true) (f : PF)
    (ho : ∀ b q off c z, C1.own b = some ⟨⟨k, q⟩, off, c, z⟩ → C2.own b = some ⟨⟨s, q⟩, off, c, z⟩) (hv : ∀ ps ps', f ps = some ps' → ∀ b, okB C1 ps b → okB C2 ps' b) : ClaimX w' C2 φ2 tm2 s r v (sm.map f) := by
  have hext : ∀ s q, (⟨s, []⟩ : Pl).ext q = ⟨s, q⟩ := fun s q => by simp [Pl.ext]
  cases sm with
  | c m og =>
    cases og with
    | no =>
      obtain ⟨d, o, e1, e2, e3⟩ := h
      refine ⟨d, o, e1, e2.move ⟨s, []⟩ f (fun b q off c z hb => ?_) (fun ps ps' hf b hb => ⟨hv ps ps' hf b hb, rfl⟩), e3⟩
      rw [hext] at hb ⊢
      exact ⟨ho b q off c z hb, rfl⟩
    | _ => cases hok
  | agg ms og =>
    cases og with
    | no =>
      obtain ⟨ds, o, vs, e1, e2, e3, e4, e5, e6⟩ := h
      refine ⟨ds, o, vs, e1, e2, e3, by rw [mapL_len]; exact e4, e5.move f (fun b i j q off c z hb => ?_) (fun ps ps' hf b hb => ⟨hv ps ps' hf b hb, rfl⟩), e6⟩
      rw [hext] at hb ⊢
      exact ⟨ho b _ off c z hb, rfl⟩
    | _ => cases hok
  | box ms =>
    obtain ⟨ds, b, off, arr, e1, e2, e3⟩ := h
    refine ⟨ds, b, off, arr, e1, e2, ho b [] off 0 0 e3.own, e3.heap, e3.size, fun i row hi => by rw [mapL_len]; exact e3.len i row hi, .inl (by simp), ?_⟩
    refine e3.kids.move f (fun b i j q off c z hb => ?_) (fun ps ps' hf b hb => ⟨hv ps ps' hf b hb, rfl⟩)
    rw [hext] at hb ⊢
    exact ⟨ho b _ off c z hb, rfl⟩
  | _ => cases hok
end

section
variable {V : Env} {A : Start} {w w' : World} {μ μ' : Mu} {φ : Fr} {C : Cx} {a : Act} {g : Nat → Value} {o : Oper} {x : X}

/-- All arguments. -/
theorem argsQ_sound (h : St A w μ φ (tmO a.tmps g) C) : ∀ {pms : List PM} {ys : List Operand} {tys : List Nat} {xs : List X} {pss : List (List Pv)}, ys.all sm1 = true → argsX V.τ φ (pms.map PM.pk) ys tys = some xs → argsQ V.τ μ pms ys tys = some pss →
    xs.length = pms.length ∧ ys.length = pms.length ∧ pss.length = pms.length ∧ ∀ (i : Nat) (x : X) (y : Operand) (pm : PM) (ty : Nat), xs[i]? = some x → ys[i]? = some y → pms[i]? = some pm → tys[i]? = some ty → ArgOk V w (pm.okOf C.G (okB C (pss.getD i []))) ty x (a.eval y)
  | [], [], [], xs, pss, _, h1, h2 => by
    simp only [List.map_nil, argsX, Option.some.injEq] at h1
    simp only [argsQ, Option.some.injEq] at h2
    subst h1; subst h2
    simp
  | pm :: pms, y :: ys, t :: tys, xs, pss, hs, h1, h2 => by
    simp only [List.all_cons, Bool.and_eq_true] at hs
    simp only [List.map_cons, argsX] at h1
    simp only [argsQ] at h2
    split at h1
    · rename_i x xs' hx hxs
      cases h1
      split at h2
      · rename_i ps pss' hp hps
        cases h2
        obtain ⟨l1, l2, l3, ih⟩ := argsQ_sound h hs.2 hxs hps
        refine ⟨by simp [l1], by simp [l2], by simp [l3], ?_⟩
        intro i x' y' pm' ty' q1 q2 q3 q4
        cases i with
        | zero =>
          simp only [List.getElem?_cons_zero, Option.some.injEq] at q1 q2 q3 q4
          subst q1; subst q2; subst q3; subst q4
          exact argQ_sound h hs.1 hx hp
        | succ i =>
          simp only [List.getElem?_cons_succ] at q1 q2 q3 q4
          exact ih i x' y' pm' ty' q1 q2 q3 q4
      · cases h2
    · cases h1
  | [], _ :: _, _, _, _, _, h1, _ => by simp [argsX] at h1
  | [], [], _ :: _, _, _, _, h1, _ => by simp [argsX] at h1
  | _ :: _, [], _, _, _, _, h1, _ => by simp [argsX] at h1
  | _ :: _, _ :: _, [], _, _, _, h1, _ => by simp [argsX] at h1

/-- Blocks of results, as the caller owns them. -/
def relab (C' : Cx) (tgt : Nat → Nat) : Nat → Option Ow := fun b => (C'.own b).map fun o => { o with p := ⟨tgt o.p.s, o.p.st⟩ }

theorem relab_of {C' : Cx} {tgt : Nat → Nat} {b k off c z : Nat} {q : List (Nat × Nat)} (h : C'.own b = some ⟨⟨k, q⟩, off, c, z⟩) : relab C' tgt b = some ⟨⟨tgt k, q⟩, off, c, z⟩ := by simp [relab, h]

theorem relab_inv {C' : Cx} {tgt : Nat → Nat} {b : Nat} {o : Ow} (h : relab C' tgt b = some o) : ∃ o0, C'.own b = some o0 ∧ o.p = ⟨tgt o0.p.s, o0.p.st⟩ := by
  unfold relab at h
  rw [Option.map_eq_some_iff] at h
  obtain ⟨o0, h1, rfl⟩ := h
  exact ⟨o0, h1, rfl⟩

/-- What the callee may read, the caller may. -/
theorem res_ok {G : Nat → Prop} {PA : Nat → Nat → Prop} {sg : Sig} {rs : List X} {vs : List Value} {C' : Cx} {pss : List (List Pv)} {t : Nat} {tgt : Nat → Nat} (h : St A w μ φ (tmO a.tmps g) C) (hG : ∀ b, G b → C.G b) (hPA : ∀ i b, PA i b → okB C (pss.getD i []) b)
    (hd : Done w w' G PA sg rs vs C') {ps ps' : List Pv} (hf : substQ pss ps = some ps') {b : Nat} (hb : okB C' ps b) : okB (C.dropG t w.heap.size (relab C' tgt) (fun b => w.heap.size ≤ b ∧ C'.G b)) ps' b := by
  unfold substQ at hf
  split at hf
  · cases hf
  · rename_i hnl
    cases hf
    rcases hb with hb | ⟨p, hp, hb⟩
    · rcases hd.frz b hb with h1 | h1
      · exact dropG_ok h (.inl (hG b h1))
      · exact .inl (.inr ⟨h1.1, hb⟩)
    · cases p with
      | lab l => exfalso; apply hnl; rw [List.any_eq_true]; exact ⟨_, hp, rfl⟩
      | arg i =>
        have hb' : PA i b := by rw [← hd.pa]; exact hb
        exact dropG_ok h (okB_mono (fun q hq => List.mem_flatMap.2 ⟨_, hp, hq⟩) (hPA i b hb'))
end
end Go.Ev

/- The results of a call are put down. -/
namespace Go.Ev
section
variable {V : Env} {A : Start} {w w' : World} {μ μ' : Mu} {φ : Fr} {C : Cx} {a : Act} {g : Nat → Value} {o : Oper} {x : X}

theorem relab_ok {G : Nat → Prop} {PA : Nat → Nat → Prop} {sg : Sig} {rs : List X} {vs : List Value} {C' : Cx} {tgt : Nat → Nat} (hd : Done w w' G PA sg rs vs C') (hinj : ∀ i j, i < rs.length → j < rs.length → tgt i = tgt j → i = j) :
    (∀ b o, w.heap.size ≤ b → relab C' tgt b = some o → b < w'.heap.size) ∧ (∀ b b' o o', w.heap.size ≤ b → w.heap.size ≤ b' → relab C' tgt b = some o → relab C' tgt b' = some o' → o.p = o'.p → b = b') ∧
    (∀ b, (w.heap.size ≤ b ∧ C'.G b) → (∀ b, G b → b < w.heap.size) → w.heap.size ≤ b ∧ b < w'.heap.size ∧ relab C' tgt b = none) := by
  refine ⟨?_, ?_, ?_⟩
  · intro b o' _ hb
    obtain ⟨o0, h1, _⟩ := relab_inv hb
    exact (hd.own b o0 h1).2.1
  · intro b b' o1 o2 _ _ h1 h2 e
    obtain ⟨o1', k1, k2⟩ := relab_inv h1
    obtain ⟨o2', l1, l2⟩ := relab_inv h2
    refine hd.inj b b' o1' o2' k1 l1 ?_
    rw [k2, l2] at e
    simp only [Pl.mk.injEq] at e
    have := hinj _ _ (hd.own b o1' k1).2.2.2 (hd.own b' o2' l1).2.2.2 e.1
    obtain ⟨⟨s1, st1⟩, _, _, _⟩ := o1'
    obtain ⟨⟨s2, st2⟩, _, _, _⟩ := o2'
    simp only at this e ⊢
    rw [this, e.2]
  · intro b hb hG
    refine ⟨hb.1, ?_, ?_⟩
    · rcases hd.frz b hb.2 with h1 | h1
      · have := hG b h1; omega
      · exact h1.2
    · cases e : relab C' tgt b with
      | none => rfl
      | some o1 =>
        obtain ⟨o0, k1, _⟩ := relab_inv e
        exact ((hd.own b o0 k1).2.2.1 hb.2).elim

/-- One result. -/
theorem call_put1 {G : Nat → Prop} {PA : Nat → Nat → Prop} {sg : Sig} {r : X} {v : Value} {C' : Cx} {pss : List (List Pv)} {d : Nat} {sm : SM} (h : St A w μ φ (tmO a.tmps g) C) (hd1 : d < 1000) (hsz : d < a.tmps.size) (hG : ∀ b, G b → C.G b)
    (hPA : ∀ i b, PA i b → okB C (pss.getD i []) b) (hd : Done w w' G PA sg [r] [v] C') (hsm : sg.res = [sm]) (hok : sm.resOk = true) :
    ∃ C2, St A w' (μ.put d (sm.map (substQ pss))) (upd φ d r) (tmO (a.put (some d) v).tmps g) C2 := by
  have hlt : ∀ b, G b → b < w.heap.size := fun b hb => (h.frz b (hG b hb)).1
  obtain ⟨k1, k2, k3⟩ := relab_ok (tgt := fun _ => d) hd (by intro i j hi hj _; simp at hi hj; omega)
  refine ⟨_, h.putGG hd1 hd.ext (relab C' fun _ => d) (fun b => w.heap.size ≤ b ∧ C'.G b) k1 (fun b hb => k3 b hb hlt) ?_ k2 ?_ ?_ ?_ ?_⟩
  · intro b o' _ hb
    obtain ⟨o0, _, e⟩ := relab_inv hb
    rw [e]; exact hit_self d
  · intro s hs
    have : s ≠ d := by rintro rfl; rw [hit_self] at hs; cases hs
    simp [upd, this]
  · intro s hs
    have : s ≠ d := by rintro rfl; rw [hit_self] at hs; cases hs
    rw [tm_put hd1 hsz]
    simp [this]
  · intro s hs
    have : s ≠ d := by rintro rfl; rw [hit_self] at hs; cases hs
    rw [get_put, if_neg this, hs]; rfl
  · intro s hs
    rw [get_put]
    by_cases e : s = d
    · subst e
      rw [if_pos rfl]
      right
      unfold Claim
      rw [show upd φ s r s = r by simp [upd], tm_put hd1 hsz]
      simp only [if_true]
      refine ClaimX.dropS ?_
      refine res_move (hd.res 0 r v sm rfl rfl (by rw [hsm]; rfl)) hok (substQ pss) ?_ (fun ps ps' hf b hb => res_ok h hG hPA hd hf hb)
      intro b q off c z hb
      have hge := (hd.own b _ hb).1
      show (C.drop s w.heap.size _).own b = _
      simp only [Cx.drop]
      rw [if_pos hge, relab_of hb]
    · rw [if_neg e, hs]; exact .inr trivial

/-- No result. -/
theorem call_put0 {G : Nat → Prop} {PA : Nat → Nat → Prop} {sg : Sig} {C' : Cx} {d : Nat} {v : Value} (h : St A w μ φ (tmO a.tmps g) C) (hd1 : d < 1000) (hsz : d < a.tmps.size) (hd : Done w w' G PA sg [] [] C') :
    ∃ C2, St A w' (μ.clear d) (upd φ d .u) (tmO (a.put (some d) v).tmps g) C2 := by
  refine ⟨_, h.putG hd1 hd.ext (fun _ => none) (by simp) (by simp) (by simp) ?_ ?_ ?_ ?_⟩
  · intro s hs
    have : s ≠ d := by rintro rfl; rw [hit_self] at hs; cases hs
    simp [upd, this]
  · intro s hs
    have : s ≠ d := by rintro rfl; rw [hit_self] at hs; cases hs
    rw [tm_put hd1 hsz]
    simp [this]
  · intro s hs; rw [get_clear, hs]; rfl
  · intro s hs; rw [get_clear, hs]; exact .inr trivial
end
end Go.Ev

/- Several results of a call are put down. -/
namespace Go.Ev

theorem putComps_at (d : Nat) : ∀ (rs : List X) (i k : Nat) (φ : Fr) (r : X), rs[k]? = some r → putComps d i rs φ (cix d (i + k)) = r
  | [], i, k, φ, r, h => by simp at h
  | x :: xs, i, 0, φ, r, h => by
    simp only [List.getElem?_cons_zero, Option.some.injEq] at h
    subst h
    simp only [putComps, Nat.add_zero]
    have key : ∀ (xs : List X) (j : Nat) (φ : Fr), i < j → putComps d j xs φ (cix d i) = φ (cix d i) := by
      intro xs
      induction xs with
      | nil => intro j φ _; rfl
      | cons y ys ih =>
        intro j φ hj
        simp only [putComps]
        rw [ih (j + 1) _ (by omega)]
        have : cix d i ≠ cix d j := by unfold cix; omega
        simp [upd, this]
    rw [key xs (i + 1) _ (by omega)]
    simp [upd]
  | x :: xs, i, k + 1, φ, r, h => by
    simp only [List.getElem?_cons_succ] at h
    simp only [putComps]
    have := putComps_at d xs (i + 1) k (upd φ (cix d i) x) r h
    rwa [show i + 1 + k = i + (k + 1) by omega] at this

theorem putComps_out (d s : Nat) : ∀ (rs : List X) (i : Nat) (φ : Fr), (∀ k, k < rs.length → s ≠ cix d (i + k)) → putComps d i rs φ s = φ s
  | [], _, _, _ => rfl
  | x :: xs, i, φ, h => by
    simp only [putComps]
    rw [putComps_out d s xs (i + 1) _ (fun k hk => by have := h (k + 1) (by simp; omega); rwa [show i + (k + 1) = i + 1 + k by omega] at this)]
    have := h 0 (by simp)
    simp [upd, Nat.add_zero] at this ⊢
    intro e; exact (this e).elim

theorem lookup_comps (d : Nat) (rest : Mu) : ∀ (ms : List SM) (i : Nat) (s : Nat), List.lookup s (((ms.zipIdx i).map fun p => (cix d p.2, p.1)) ++ rest) = if cix d i ≤ s ∧ s < cix d (i + ms.length) then ms[s - cix d i]? else List.lookup s rest
  | [], i, s => by
    simp only [List.zipIdx_nil, List.map_nil, List.nil_append, List.length_nil, Nat.add_zero]
    rw [if_neg (by omega)]
  | m :: ms, i, s => by
    simp only [List.zipIdx_cons, List.map_cons, List.cons_append, List.lookup_cons, List.length_cons]
    have ih := lookup_comps d rest ms (i + 1) s
    by_cases e : s = cix d i
    · subst e
      simp only [beq_self_eq_true, Nat.sub_self, List.getElem?_cons_zero]
      rw [if_pos ⟨Nat.le_refl _, by unfold cix; omega⟩]
    · have e' : (s == cix d i) = false := by simpa using e
      rw [e']
      simp only
      rw [ih]
      unfold cix at e ⊢
      by_cases c : 1000 + 8 * d + (i + 1) ≤ s ∧ s < 1000 + 8 * d + (i + 1 + ms.length)
      · rw [if_pos c, if_pos (by omega)]
        have : s - (1000 + 8 * d + i) = (s - (1000 + 8 * d + (i + 1))) + 1 := by omega
        rw [this, List.getElem?_cons_succ]
      · rw [if_neg c, if_neg (by omega)]

section
variable {V : Env} {A : Start} {w w' : World} {μ μ' : Mu} {φ : Fr} {C : Cx} {a : Act} {g : Nat → Value} {o : Oper} {x : X}

/-- Several results. -/
theorem call_putN {G : Nat → Prop} {PA : Nat → Nat → Prop} {sg : Sig} {rs : List X} {vs : List Value} {C' : Cx} {pss : List (List Pv)} {d : Nat} (h : St A w μ φ (tmO a.tmps g) C) (hd1 : d < 1000) (hsz : d < a.tmps.size) (hG : ∀ b, G b → C.G b)
    (hPA : ∀ i b, PA i b → okB C (pss.getD i []) b) (hd : Done w w' G PA sg rs vs C') (hok : sg.res.all SM.resOk = true) (h8 : rs.length ≤ 8) :
    ∃ C2 g', St A w' ((d, .tup d rs.length) :: (((sg.res.map (SM.map (substQ pss))).zipIdx.map fun p => (cix d p.2, p.1)) ++ μ.clear d)) (upd (putComps d 0 rs φ) d (.tup d rs.length)) (tmO (a.put (some d) (.tuple vs.toArray)).tmps g') C2 := by
  have hlt : ∀ b, G b → b < w.heap.size := fun b hb => (h.frz b (hG b hb)).1
  obtain ⟨k1, k2, k3⟩ := relab_ok (tgt := fun k => cix d k) hd (by intro i j hi hj e; unfold cix at e; omega)
  have hcd : ∀ k, cix d k ≠ d := by intro k; unfold cix; omega
  have hhit : ∀ k, k < 8 → hit d (cix d k) = true := by
    intro k hk
    unfold hit isCix cix
    simp
    omega
  have hcase : ∀ s, hit d s = true → s = d ∨ ∃ k, k < 8 ∧ s = cix d k := by
    intro s hs
    unfold hit isCix at hs
    simp only [Bool.or_eq_true, beq_iff_eq, Bool.and_eq_true, decide_eq_true_eq] at hs
    rcases hs with hs | ⟨h1, h2⟩
    · exact .inl hs
    · right
      unfold cix at h1 h2 ⊢
      exact ⟨s - (1000 + 8 * d), by omega, by omega⟩
  let g' : Nat → Value := fun s => if cix d 0 ≤ s ∧ s < cix d 8 then vs.getD (s - cix d 0) undef else g s
  have htm : tmO (a.put (some d) (.tuple vs.toArray)).tmps g' = fun s => if s = d then .tuple vs.toArray else if cix d 0 ≤ s ∧ s < cix d 8 then vs.getD (s - cix d 0) undef else tmO a.tmps g s := by
    funext s
    have := congrFun (tm_put (a := a) (g := g) (v := .tuple vs.toArray) hd1 hsz) s
    by_cases e : s < 1000
    · have h1 : ¬ (cix d 0 ≤ s ∧ s < cix d 8) := by unfold cix; omega
      rw [if_neg h1, ← this]
      simp [tmO, e]
    · have h2 : s ≠ d := by omega
      rw [if_neg h2]
      simp only [tmO, e, if_false, g']
  have hnot : ∀ s, hit d s = false → s ≠ d ∧ ¬ (cix d 0 ≤ s ∧ s < cix d 8) := by
    intro s hs
    unfold hit isCix at hs
    simp only [Bool.or_eq_false_iff, beq_eq_false_iff_ne, ne_eq, Bool.and_eq_false_iff, decide_eq_false_iff_not] at hs
    refine ⟨hs.1, ?_⟩
    rintro ⟨h1, h2⟩
    rcases hs.2 with h3 | h3
    · exact h3 h1
    · exact h3 h2
  have hml : (sg.res.map (SM.map (substQ pss))).length = rs.length := by rw [List.length_map]; exact hd.lenr
  have hget : ∀ s, s ≠ d → Mu.get ((d, .tup d rs.length) :: (((sg.res.map (SM.map (substQ pss))).zipIdx.map fun p => (cix d p.2, p.1)) ++ μ.clear d)) s =
      if cix d 0 ≤ s ∧ s < cix d rs.length then ((sg.res.map (SM.map (substQ pss)))[s - cix d 0]?).getD .u else (μ.clear d).get s := by
    intro s hs
    unfold Mu.get
    rw [List.lookup_cons]
    have e' : (s == d) = false := by simpa using hs
    rw [e']
    simp only
    rw [lookup_comps d (μ.clear d) _ 0 s, hml, Nat.zero_add]
    by_cases c : cix d 0 ≤ s ∧ s < cix d rs.length
    · rw [if_pos c, if_pos c]
      cases (sg.res.map (SM.map (substQ pss)))[s - cix d 0]? <;> rfl
    · rw [if_neg c, if_neg c]
  have h88 : ∀ s, s < cix d rs.length → s < cix d 8 := by intro s; unfold cix; omega
  refine ⟨_, g', h.putGG hd1 hd.ext (relab C' fun k => cix d k) (fun b => w.heap.size ≤ b ∧ C'.G b) k1 (fun b hb => k3 b hb hlt) ?_ k2 ?_ ?_ ?_ ?_⟩
  · intro b o' _ hb
    obtain ⟨o0, h1, e⟩ := relab_inv hb
    rw [e]
    have := (hd.own b o0 h1).2.2.2
    exact hhit _ (by omega)
  · intro s hs
    obtain ⟨h1, h2⟩ := hnot s hs
    rw [show upd (putComps d 0 rs φ) d (.tup d rs.length) s = putComps d 0 rs φ s by simp [upd, h1]]
    refine putComps_out d s rs 0 φ ?_
    rintro k hk rfl
    exact h2 ⟨by unfold cix; omega, by unfold cix; omega⟩
  · intro s hs
    obtain ⟨h1, h2⟩ := hnot s hs
    rw [htm]
    simp [h1, h2]
  · intro s hs
    obtain ⟨h1, h2⟩ := hnot s hs
    rw [hget s h1, if_neg (fun c => h2 ⟨c.1, h88 s c.2⟩), get_clear, hs]
    rfl
  · intro s hs
    rcases hcase s hs with rfl | ⟨k, hk, rfl⟩
    · right
      unfold Claim
      rw [show upd (putComps s 0 rs φ) s (.tup s rs.length) s = .tup s rs.length by simp [upd]]
      have hgs : Mu.get ((s, .tup s rs.length) :: (((sg.res.map (SM.map (substQ pss))).zipIdx.map fun p => (cix s p.2, p.1)) ++ μ.clear s)) s = .tup s rs.length := by
        unfold Mu.get; rw [List.lookup_cons]; simp
      rw [hgs, htm]
      simp only [if_true]
      refine ⟨rfl, h8, vs.toArray, rfl, by simp [hd.len], ?_⟩
      intro i hi
      have h1 : cix s i ≠ s := hcd i
      simp only [h1, if_false]
      rw [if_pos ⟨by unfold cix; omega, by unfold cix; omega⟩]
      have : cix s i - cix s 0 = i := by unfold cix; omega
      rw [this]
      simp [Array.getD_eq_getD_getElem?, List.getD_eq_getElem?_getD]
    · right
      unfold Claim
      rw [hget _ (hcd k)]
      have e0 : cix d k - cix d 0 = k := by unfold cix; omega
      by_cases hkn : k < rs.length
      · rw [if_pos ⟨by unfold cix; omega, by unfold cix; omega⟩, e0]
        have hkr : k < sg.res.length := by rw [hd.lenr]; exact hkn
        have hkv : k < vs.length := by rw [hd.len]; exact hkn
        rw [List.getElem?_map, List.getElem?_eq_getElem hkr]
        simp only [Option.map_some, Option.getD_some]
        have hx : upd (putComps d 0 rs φ) d (.tup d rs.length) (cix d k) = rs[k] := by
          rw [show upd (putComps d 0 rs φ) d (.tup d rs.length) (cix d k) = putComps d 0 rs φ (cix d k) by simp [upd, hcd k]]
          have := putComps_at d rs 0 k φ rs[k] (List.getElem?_eq_getElem hkn)
          rwa [Nat.zero_add] at this
        have hv : tmO (a.put (some d) (.tuple vs.toArray)).tmps g' (cix d k) = vs[k] := by
          rw [htm]
          simp only [hcd k, if_false]
          rw [if_pos ⟨by unfold cix; omega, by unfold cix; omega⟩, e0]
          simp [hkv]
        rw [hx, hv]
        refine res_move (hd.res k _ _ _ (List.getElem?_eq_getElem hkn) (List.getElem?_eq_getElem hkv) (List.getElem?_eq_getElem hkr)) (List.all_eq_true.1 hok _ (List.getElem_mem hkr)) (substQ pss) ?_ (fun ps ps' hf b hb => res_ok h hG hPA hd hf hb)
        intro b q off c z hb
        have hge := (hd.own b _ hb).1
        show (C.drop d w.heap.size _).own b = _
        simp only [Cx.drop]
        rw [if_pos hge, relab_of hb]
      · rw [if_neg (by unfold cix; omega), get_clear, hhit k hk]
        trivial
end
end Go.Ev

/- A call as an operation. -/
namespace Go.Ev

theorem argsQ_val {τ : List TE} {μ : Mu} : ∀ {pms : List PM} {ys : List Operand} {tys : List Nat} {pss : List (List Pv)}, argsQ τ μ pms ys tys = some pss → ∀ pm ∈ pms, pm.pk = .val
  | [], _, _, _, _ => by simp
  | pm :: pms, [], _, _, h => by simp [argsQ] at h
  | pm :: pms, _ :: _, [], _, h => by simp [argsQ] at h
  | pm :: pms, y :: ys, t :: tys, pss, h => by
    simp only [argsQ] at h
    split at h
    · rename_i p ps hp hps
      intro q hq
      rcases List.mem_cons.1 hq with rfl | hq
      · unfold argQ at hp
        split at hp
        · split at hp
          · cases q <;> first | rfl | (cases hp)
          · cases hp
        · cases hp
      · exact argsQ_val hps q hq
    · cases h

theorem backs_val {τ : List TE} {φ0 : Fr} : ∀ {ks : List PK} {xs : List Operand} {os : List X} {φ φ' : Fr}, (∀ k ∈ ks, k = .val) → backsX τ φ0 ks xs os φ = some φ' → φ' = φ
  | [], _, _, φ, φ', _, h => by simp only [backsX, Option.some.injEq] at h; exact h.symm
  | k :: ks, [], _, φ, φ', _, h => by simp [backsX] at h
  | k :: ks, _ :: _, [], φ, φ', _, h => by simp [backsX] at h
  | k :: ks, x :: xs, o :: os, φ, φ', hk, h => by
    simp only [backsX] at h
    rw [hk k (by simp)] at h
    simp only [backX] at h
    exact backs_val (fun k' hk' => hk k' (by simp [hk'])) h

section
variable {V : Env} {A : Start} {w w' : World} {μ μ' : Mu} {φ φ' : Fr} {C : Cx} {a : Act} {g : Nat → Value} {o : Oper} {x : X}

/-- Results, wherever they go. -/
theorem call_put {G : Nat → Prop} {PA : Nat → Nat → Prop} {sg : Sig} {rs : List X} {vs : List Value} {C' : Cx} {pss : List (List Pv)} (h : St A w μ φ (tmO a.tmps g) C) (hdst : ∀ d, o.dst = some d → d < 1000 ∧ d < a.tmps.size) (hG : ∀ b, G b → C.G b)
    (hPA : ∀ i b, PA i b → okB C (pss.getD i []) b) (hd : Done w w' G PA sg rs vs C') (hok : sg.res.all SM.resOk = true) (h8 : rs.length ≤ 8) (hm : putResM o.dst (sg.res.map (SM.map (substQ pss))) μ = some μ') :
    ∃ C2 g', St A w' μ' (putRes o.dst rs φ) (tmO (a.put o.dst (packV vs)).tmps g') C2 := by
  cases hds : o.dst with
  | none =>
    rw [hds] at hm
    simp only [putResM, Option.some.injEq] at hm
    subst hm
    exact ⟨C, g, h.ext hd.ext⟩
  | some d =>
    obtain ⟨hd1, hsz⟩ := hdst d hds
    rw [hds] at hm
    have hl := hd.len
    have hlr := hd.lenr
    match rs, vs, hl with
    | [], [], _ =>
      have hr : sg.res = [] := List.length_eq_zero_iff.1 hlr
      rw [hr] at hm
      simp only [putResM, List.map_nil, Option.some.injEq] at hm
      subst hm
      obtain ⟨C2, h2⟩ := call_put0 (v := packV []) h hd1 hsz hd
      exact ⟨C2, g, h2⟩
    | [r], [v], _ =>
      obtain ⟨sm, hr⟩ : ∃ sm, sg.res = [sm] := by
        match hq : sg.res, hlr with
        | [sm], _ => exact ⟨sm, rfl⟩
      rw [hr] at hm hok
      simp only [putResM, List.map_cons, List.map_nil, Option.some.injEq] at hm
      subst hm
      obtain ⟨C2, h2⟩ := call_put1 h hd1 hsz hG hPA hd hr (by simpa using hok)
      exact ⟨C2, g, h2⟩
    | r1 :: r2 :: rs, v1 :: v2 :: vs, _ =>
      obtain ⟨C2, g', h2⟩ := call_putN h hd1 hsz hG hPA hd hok h8
      have hmm : μ' = (d, .tup d (r1 :: r2 :: rs).length) :: (((sg.res.map (SM.map (substQ pss))).zipIdx.map fun p => (cix d p.2, p.1)) ++ μ.clear d) := by
        have hlm : (sg.res.map (SM.map (substQ pss))).length = (r1 :: r2 :: rs).length := by rw [List.length_map]; exact hlr
        generalize sg.res.map (SM.map (substQ pss)) = ms at hm hlm
        match ms, hlm with
        | m1 :: m2 :: ms, hlm =>
          simp only [putResM] at hm
          rw [if_pos (by rw [hlm]; exact h8)] at hm
          simp only [Option.some.injEq] at hm
          rw [← hm, hlm]
      rw [hmm]
      exact ⟨C2, g', h2⟩

theorem s_call {c : Call} {f : Nat} {S : Nat → Option (List PK)} {F : Nat → List X → Option (List X × List X)} {Sg : Nat → Option Sig} {sg : Sig} {next : Act → World → Prop} {Q : Exit → Act → World → Prop} (ho : o.op = .call c) (hcal : c.callee = .value (.func f))
    (hSg : Sg f = some sg) (hS : S f = some (sg.pms.map PM.pk)) (hD : Does V f sg (F f)) (h : St A w μ φ (tmO a.tmps g) C) (hs : c.args.toList.all sm1 = true) (hdst : ∀ d, o.dst = some d → d < 1000 ∧ d < a.tmps.size)
    (hx : callX V.τ S F f c o.dst [] φ = some φ') (hm : callQ V.τ Sg μ f c o.dst = some μ')
    (hK : ∀ v w' C2 g', St A w' μ' φ' (tmO (a.put o.dst v).tmps g') C2 → next (a.put o.dst v) w') : o.wp V.P a w next Q := by
  unfold callQ at hm
  rw [hSg] at hm
  simp only at hm
  split at hm
  · rename_i hc
    obtain ⟨hty, hok⟩ := hc
    split at hm
    · rename_i pss hpss
      unfold callX at hx
      rw [hS] at hx
      simp only at hx
      split at hx
      · rename_i as has
        have hl0 : c.args.toList.length = c.args.size := by simp
        have htake : (sg.pms.map PM.pk).take c.args.size = sg.pms.map PM.pk ∧ c.args.size = sg.pms.length := by
          have key : ∀ {pms : List PM} {ys : List Operand} {tys : List Nat} {pss : List (List Pv)}, argsQ V.τ μ pms ys tys = some pss → pms.length = ys.length := by
            intro pms
            induction pms with
            | nil => intro ys tys pss hq; cases ys <;> cases tys <;> simp_all [argsQ]
            | cons pm pms ih =>
              intro ys tys pss hq
              cases ys with
              | nil => simp [argsQ] at hq
              | cons y ys =>
                cases tys with
                | nil => simp [argsQ] at hq
                | cons t tys =>
                  simp only [argsQ] at hq
                  split at hq
                  · rename_i p ps hp hps; simp [ih hps]
                  · cases hq
          have := key hpss
          rw [hl0] at this
          exact ⟨List.take_of_length_le (by rw [List.length_map]; omega), this.symm⟩
        rw [htake.1] at has hx
        split at hx
        · rename_i rs outs hF
          rw [List.append_nil] at hF
          split at hx
          · rename_i h8
            split at hx
            · rename_i φ1 hback
              cases hx
              have hφ1 := backs_val (by
                intro k hk
                rw [List.mem_map] at hk
                obtain ⟨pm, hpm, rfl⟩ := hk
                exact argsQ_val hpss pm hpm) hback
              subst hφ1
              obtain ⟨l1, l2, l3, harg⟩ := argsQ_sound h hs has hpss
              obtain ⟨⟨fn, b, hf, hbd, hname⟩, hD⟩ := hD
              have hrun : (execOp a.eval o).run V.P w = .ok (.enter f (c.args.toList.map a.eval).toArray) w := by
                have e1 : c.args.map a.eval = (c.args.toList.map a.eval).toArray := by apply Array.ext'; simp
                simp only [execOp, ho, resolve, hcal]
                have e2 : a.eval (.func f) = .func (.func f) #[] #[] := rfl
                simp [e2, Deferred.ofValue, invoke, callFunc, hf, hname, hbd, e1]
              unfold Oper.wp
              rw [hrun, Oper.upon_enter]
              refine (hD w C.G (fun i => okB C (pss.getD i [])) (c.args.toList.map a.eval) as (by simpa using l2) l1 (fun b hb => (h.frz b hb).1) (fun i b hb => h.ok_lt hb) ?_ rs outs hF).mono ?_
              · intro i x v pm ty q1 q2 q3 q4
                rw [List.getElem?_map, Option.map_eq_some_iff] at q2
                obtain ⟨y, hy, rfl⟩ := q2
                exact harg i x y pm ty q1 hy q3 (by rw [← hty]; exact q4)
              · rintro e w' ⟨vs, C', rfl, hdone⟩
                obtain ⟨C2, g', h2⟩ := call_put (o := o) h hdst (fun b hb => hb) (fun i b hb => hb) hdone hok h8 hm
                exact hK _ _ _ _ h2
            · cases hx
          · cases hx
        · cases hx
      · cases hx
    · cases hm
  · cases hm
end
end Go.Ev

/- One operation. -/
namespace Go.Ev
section
variable {V : Env} {A : Start} {w w' : World} {μ μ' : Mu} {φ φ' : Fr} {C : Cx} {a : Act} {g : Nat → Value} {o : Oper} {x : X}

/-- What is asked of an operation's own text: its slots are few. -/
def smallO (n : Nat) (o : Oper) : Bool := o.op.operands.all sm1 && (match o.dst with
  | some d => Nat.blt d n
  | none => true) && (match o.op with
  | .store _ _ _ => o.dst.isNone
  | _ => true)

/-- What stands after an operation. -/
def Stands (A : Start) (n : Nat) (φ' : Fr) (μ' : Mu) (a : Act) (w : World) : Prop :=
  ∃ C' g', St A w μ' φ' (tmO a.tmps g') C' ∧ a.tmps.size = n ∧ a.defers = []

theorem put_size (a : Act) (dst : Option Tmp) (v : Value) : (a.put dst v).tmps.size = a.tmps.size := by cases dst <;> simp [Act.put]
theorem put_defers (a : Act) (dst : Option Tmp) (v : Value) : (a.put dst v).defers = a.defers := by cases dst <;> rfl

theorem OpOk.wp {n : Nat} {next : Act → World → Prop} {Q : Exit → Act → World → Prop} (h : OpOk V A w a g o φ' μ') (hsz : a.tmps.size = n) (hdf : a.defers = []) (hK : ∀ a w, Stands A n φ' μ' a w → next a w) : o.wp V.P a w next Q := by
  obtain ⟨nx, v, w', C', g', h1, h2, h3⟩ := h
  unfold Oper.wp
  rw [h1]
  rcases h2 with rfl | ⟨rfl, rfl⟩
  · rw [Oper.upon_value]
    exact hK _ _ ⟨C', g', h3, by rw [put_size]; exact hsz, by rw [put_defers]; exact hdf⟩
  · rw [Oper.upon_skip]
    exact hK _ _ ⟨C', g', h3, by rw [put_size]; exact hsz, by rw [put_defers]; exact hdf⟩

/-- What leaves nothing but its result. -/
theorem pure_ok {cols : List M} {n : Nat} (hn : n ≤ 1000) (hs : smallO n o = true) (hsz : a.tmps.size = n) (h : St A w μ φ (tmO a.tmps g) C) (hx : pureX V.τ φ o.op o.type = some x) (hm : pureC V.τ cols o μ = some μ') : OpOk V A w a g o (putRes o.dst [x] φ) μ' := by
  unfold pureC at hm
  split at hm
  · rename_i sm hsm
    unfold smallO at hs
    simp only [Bool.and_eq_true] at hs
    have hp := pure_sound (V := V) h hs.1.1 hx hsm
    cases hds : o.dst with
    | none =>
      rw [hds] at hm
      have hmm : μ' = μ := by
        cases sm <;> simp [putM] at hm <;> exact hm.symm
      subst hmm
      rcases hp with ⟨v, h1, _⟩ | ⟨v, w', h1, h2, _⟩
      · exact ⟨_, v, w, C, g, h1, .inl rfl, by rw [hds]; exact h⟩
      · exact ⟨_, v, w', C, g, h1, .inl rfl, by rw [hds]; exact h.ext h2⟩
    | some d =>
      rw [hds] at hm hs
      have hdn : Nat.lt d n := by have := hs.1.2; simpa [Nat.blt_eq] using this
      have hdn : @LT.lt Nat _ d n := hdn
      have hmm : μ' = μ.put d sm := by
        cases sm <;> simp [putM] at hm <;> exact hm.symm
      subst hmm
      obtain ⟨v, w', C', h1, _, h3⟩ := hp.st h (d := d) (Nat.lt_of_lt_of_le hdn hn) (by rw [hsz]; exact hdn)
      exact ⟨_, v, w', C', g, h1, .inl rfl, by rw [hds]; exact h3⟩
  · cases hm

/-- Any operation. -/
theorem op_wp {n : Nat} {cols : List M} {S : Nat → Option (List PK)} {F : Nat → List X → Option (List X × List X)} {Sg : Nat → Option Sig} {next : Act → World → Prop} {Q : Exit → Act → World → Prop} (hrg : A.rg = []) (hn : n ≤ 1000)
    (hSg : ∀ f sg, Sg f = some sg → S f = some (sg.pms.map PM.pk) ∧ Does V f sg (F f)) (hs : smallO n o = true) (hsz : a.tmps.size = n) (hdf : a.defers = []) (h : St A w μ φ (tmO a.tmps g) C)
    (hx : evOp V.τ S F o φ = some φ') (hm : chkOp V.τ Sg cols o μ = some μ') (hK : ∀ a w, Stands A n φ' μ' a w → next a w) : o.wp V.P a w next Q := by
  have hs' := hs
  unfold smallO at hs'
  simp only [Bool.and_eq_true] at hs'
  obtain ⟨⟨hso, hsd⟩, hst⟩ := hs'
  have hdst : ∀ d, o.dst = some d → d < 1000 ∧ d < a.tmps.size := by
    intro d hd
    rw [hd] at hsd
    have : Nat.lt d n := by simpa [Nat.blt_eq] using hsd
    have : @LT.lt Nat _ d n := this
    exact ⟨Nat.lt_of_lt_of_le this hn, by rw [hsz]; exact this⟩
  have pure : ∀ x, pureX V.τ φ o.op o.type = some x → φ' = putRes o.dst [x] φ → pureC V.τ cols o μ = some μ' → o.wp V.P a w next Q := by
    rintro x h1 rfl h2
    exact (pure_ok hn hs hsz h h1 h2).wp hsz hdf hK
  cases ho : o.op with
  | store t y z =>
    have hyz : sm1 y = true ∧ sm1 z = true := by rw [ho] at hso; simpa [Op.operands] using hso
    unfold evOp at hx
    rw [ho] at hx
    simp only at hx
    split at hx
    · rename_i p hp
      have hdn : o.dst = none := by rw [ho] at hst; simpa using hst
      exact (s_store Sg hrg ho hdn h hyz.1 hyz.2 hp hx hm).wp hsz hdf hK
    · cases hx
  | assign y =>
    have hy : sm1 y = true := by rw [ho] at hso; simpa [Op.operands] using hso
    unfold evOp at hx
    rw [ho] at hx
    simp only at hx
    rw [← ho] at hx
    split at hx
    · rename_i x hpx
      cases hx
      cases hd : o.dst with
      | none => unfold chkOp at hm; rw [ho] at hm; simp [hd] at hm
      | some d =>
        obtain ⟨h1, h2⟩ := hdst d hd
        have := (s_assign (cols := cols) Sg ho hd h1 h2 h hy hpx hm).wp (n := n) (next := next) (Q := Q) hsz hdf (by rw [hd] at hK; exact hK)
        exact this
    · cases hx
  | move y =>
    have hy : sm1 y = true := by rw [ho] at hso; simpa [Op.operands] using hso
    unfold evOp at hx
    rw [ho] at hx
    simp only at hx
    rw [← ho] at hx
    split at hx
    · rename_i x hpx
      cases hx
      unfold chkOp at hm
      rw [ho] at hm
      simp only at hm
      split at hm
      · exact pure x hpx rfl hm
      · split at hm
        · rename_i d hd
          obtain ⟨h1, h2⟩ := hdst d hd
          have := (s_moveT ho hd h1 h2 h hy hpx hm).wp (n := n) (next := next) (Q := Q) hsz hdf (by rw [hd] at hK; exact hK)
          exact this
        · cases hm
    · cases hx
  | box t y =>
    have hy : sm1 y = true := by rw [ho] at hso; simpa [Op.operands] using hso
    unfold evOp at hx
    rw [ho] at hx
    simp only at hx
    rw [← ho] at hx
    split at hx
    · rename_i x hpx
      cases hx
      cases hd : o.dst with
      | none => 
        unfold chkOp at hm; rw [ho] at hm; simp only [hd] at hm
        split at hm <;> first | (rename_i e; cases e; done) | cases hm
      | some d =>
        obtain ⟨h1, h2⟩ := hdst d hd
        have := (s_box (cols := cols) Sg ho hd h1 h2 h hy hpx hm).wp (n := n) (next := next) (Q := Q) hsz hdf (by rw [hd] at hK; exact hK)
        exact this
    · cases hx
  | call c =>
    have hargs : c.args.toList.all sm1 = true := by
      rw [ho] at hso
      simp only [Op.operands, Call.operands, Array.all_append, Bool.and_eq_true] at hso
      simpa using hso.2
    have fin : ∀ v w' C2 g', St A w' μ' φ' (tmO (a.put o.dst v).tmps g') C2 → next (a.put o.dst v) w' := by
      intro v w' C2 g' h1
      exact hK _ _ ⟨C2, g', h1, by rw [put_size]; exact hsz, by rw [put_defers]; exact hdf⟩
    unfold evOp at hx
    unfold chkOp at hm
    rw [ho] at hx hm
    simp only at hx hm
    cases hc : c.callee with
    | value y =>
      rw [hc] at hx hm
      cases y with
      | func f =>
        simp only at hx hm
        have hsg : ∃ sg, Sg f = some sg := by
          unfold callQ at hm
          split at hm
          · rename_i sg e; exact ⟨sg, e⟩
          · cases hm
        obtain ⟨sg, hsg⟩ := hsg
        obtain ⟨h1, h2⟩ := hSg f sg hsg
        exact s_call ho hc hsg h1 h2 h hargs hdst hx hm fin
      | _ => cases hm
    | builtin b =>
      rw [hc] at hx hm
      simp only at hx
      rw [← ho] at hx
      split at hx
      · rename_i x hpx
        by_cases hb : b = .append
        · subst hb
          simp only at hm
          split at hm
          · rename_i y z t t' d h1 h2 h3
            cases hx
            obtain ⟨d1, d2⟩ := hdst d h3
            have hyz : sm1 y = true ∧ sm1 z = true := by rw [h1] at hargs; simpa using hargs
            have hpx' : appX V.τ t t' (opX V.τ φ t y) (opX V.τ φ t' z) = some x := by
              rw [ho] at hpx
              simp only [pureX, hc, h1, h2] at hpx
              exact hpx
            have := (s_append hrg ho hc h1 h2 h3 d1 d2 h hyz.1 hyz.2 hpx' hm).wp (n := n) (next := next) (Q := Q) hsz hdf (by rw [h3] at hK; exact hK)
            exact this
          · cases hm
        · have hm' : pureC V.τ cols o μ = some μ' := by
            cases b <;> first | exact hm | exact (hb rfl).elim
          exact pure x hpx (Option.some.inj hx).symm hm'
      · cases hx
    | invoke r m =>
      rw [hc] at hx hm
      simp only at hx hm
      rw [← ho] at hx
      split at hx
      · rename_i x hpx
        exact pure x hpx (Option.some.inj hx).symm hm
      · cases hx
  | _ =>
    unfold evOp at hx
    unfold chkOp at hm
    rw [ho] at hx hm
    simp only at hx hm
    rw [← ho] at hx
    split at hx
    · rename_i x hpx
      exact pure x hpx (Option.some.inj hx).symm hm
    · cases hx
end
end Go.Ev

/- What is known may be forgotten, or told of another place: nothing runs here. -/
namespace Go.Ev

def leSX : SM → SM → Bool
  | _, .u => true
  | .c m o, .c m' o' => leS m m' && leOg o o'
  | .agg ms o, .agg ms' o' => leSL ms ms' && leOg o o'
  | .box ms, .box ms' => leSL ms ms'
  | .vbox ps n, .vbox ps' n' => ps == ps' && n == n'
  | .pt s cs, .pt s' cs' => s == s' && cs == cs'
  | .pa s cs n, .pa s' cs' n' => s == s' && cs == cs' && n == n'
  | .pv ps s, .pv ps' s' => ps.all ps'.contains && s == s'
  | .tup b n, .tup b' n' => b == b' && n == n'
  | .clo f cs, .clo f' cs' => f == f' && cs == cs'
  | .fv f i, .fv f' i' => f == f' && i == i'
  | _, _ => false

def weakS (μ ν : Mu) : Bool := List.all ν fun p => leSX (μ.get p.1) (ν.get p.1)

theorem leOg_spec {a b : Og} (h : leOg a b = true) : b = .dead ∨ a = b := by
  cases b <;> simp_all [leOg]

theorem leS_readable {a b : M} (h : leS a b = true) (hb : b.readable = true) : a.readable = true := by
  cases a <;> cases b <;> simp_all [leS, M.readable]

section
variable {A : Start} {w : World} {μ ν : Mu} {φ : Fr} {tm : Nat → Value} {C : Cx}

theorem ClaimX.weak {s : Nat} {x : X} {v : Value} {a b : SM} (h : ClaimX w C φ tm s x v a) (hl : leSX a b = true) : ClaimX w C φ tm s x v b := by
  cases b with
  | u => trivial
  | c m' og' =>
    cases a <;> simp only [leSX, Bool.false_eq_true] at hl
    rename_i m og
    simp only [Bool.and_eq_true] at hl
    obtain ⟨d, o, e1, e2, e3⟩ := h
    refine ⟨d, o, e1, e2.leS hl.1, fun hsl => ?_⟩
    rcases leOg_spec hl.2 with rfl | rfl
    · trivial
    · have e3 := e3 hsl
      cases og with
      | no => exact e3
      | dead => trivial
      | ats q cs js => trivial
      | vw q =>
        obtain ⟨p, q1, q2, q3⟩ := e3
        exact ⟨p, q1, q2, fun hm => q3 (leS_readable hl.1 hm)⟩
      | «at» q cs =>
        obtain ⟨p, q1, q2, q3, q4, q5, q6⟩ := e3
        exact ⟨p, q1, q2, q3, q4, fun hm => q5 (leS_readable hl.1 hm), q6⟩
  | agg ms' og' =>
    cases a <;> simp only [leSX, Bool.false_eq_true] at hl
    rename_i ms og
    simp only [Bool.and_eq_true] at hl
    obtain ⟨ds, o, vs, e1, e2, e3, e4, e5, e6⟩ := h
    have hlen := leSL_len hl.1
    refine ⟨ds, o, vs, e1, e2, e3, by omega, ?_, ?_⟩
    · intro i j row d m q1 q2 q3
      obtain ⟨m0, hm0, hle⟩ := leSL_at hl.1 q3
      exact (e5 i j row d m0 q1 q2 hm0).leS hle
    · rcases leOg_spec hl.2 with rfl | rfl
      · trivial
      · cases og with
        | ats q cs js =>
          obtain ⟨p, q1, q2, q3, q4, q5⟩ := e6
          refine ⟨p, q1, q2, q3, q4, fun j hj => ?_⟩
          obtain ⟨d, g1, g2, g3⟩ := q5 j hj
          refine ⟨d, g1, g2, fun hm => g3 ?_⟩
          cases hq : ms'[j]? with
          | none => rw [hq] at hm; cases hm
          | some m' =>
            rw [hq] at hm
            obtain ⟨m0, hm0, hle⟩ := leSL_at hl.1 hq
            rw [hm0]; exact leS_readable hle hm
        | no => exact e6
        | _ => trivial
  | box ms' =>
    cases a <;> simp only [leSX, Bool.false_eq_true] at hl
    obtain ⟨ds, b, off, arr, e1, e2, e3⟩ := h
    have hlen := leSL_len hl
    refine ⟨ds, b, off, arr, e1, e2, e3.own, e3.heap, e3.size, fun i row hi => by rw [← hlen]; exact e3.len i row hi, .inl (by simp), ?_⟩
    intro i j row d m q1 q2 q3
    obtain ⟨m0, hm0, hle⟩ := leSL_at hl q3
    exact (e3.kids i j row d m0 q1 q2 hm0).leS hle
  | pv ps' s' =>
    cases a <;> simp only [leSX, Bool.false_eq_true] at hl
    simp only [Bool.and_eq_true, List.all_eq_true, beq_iff_eq] at hl
    obtain ⟨hl, rfl⟩ := hl
    obtain ⟨p, e1, e2, e3, e4, e5⟩ := h
    exact ⟨p, e1, e2, e3, e4, fun n ds h1 h2 => (e5 n ds h1 h2).mono fun b hb => ⟨okB_mono (fun q hq => by simpa using hl q hq) hb, rfl⟩⟩
  | _ =>
    cases a <;> simp only [leSX, Bool.false_eq_true] at hl
    simp only [Bool.and_eq_true, beq_iff_eq] at hl
    first
      | (obtain ⟨rfl, rfl⟩ := hl; exact h)
      | (obtain ⟨⟨rfl, rfl⟩, rfl⟩ := hl; exact h)

theorem St.weak (h : St A w μ φ tm C) (hw : weakS μ ν = true) : St A w ν φ tm C := by
  refine { h with slot := ?_ }
  intro s
  rcases h.slot s with h1 | h1
  · exact .inl h1
  · right
    have : leSX (μ.get s) (ν.get s) = true := by
      unfold weakS at hw
      rw [List.all_eq_true] at hw
      by_cases e : ∃ m, (s, m) ∈ ν
      · obtain ⟨m, hm⟩ := e
        exact hw _ hm
      · have : ν.get s = .u := by
          unfold Mu.get
          cases hl : List.lookup s ν with
          | none => rfl
          | some m =>
            exfalso
            apply e
            refine ⟨m, ?_⟩
            clear h hw h1 e
            induction ν with
            | nil => cases hl
            | cons a l ih =>
              obtain ⟨k, y⟩ := a
              rw [List.lookup_cons] at hl
              by_cases e : s = k
              · subst e
                simp only [beq_self_eq_true, Option.some.injEq] at hl
                subst hl
                simp
              · have e' : (s == k) = false := by simpa using e
                rw [e'] at hl
                exact List.mem_cons_of_mem _ (ih hl)
        rw [this]
        cases μ.get s <;> rfl
    exact ClaimX.weak h1 this
end

/-- What a policy tells ahead of an operation: a state that is known to hold as well, and the columns. -/
structure Pol where
  pre : Oper → Mu → Option Mu
  cols : Oper → Mu → List M

def preM (P : Pol) (o : Oper) (μ : Mu) : Mu := match P.pre o μ with
  | some ν => if weakS μ ν then ν else μ
  | none => μ

theorem pre_sound {A : Start} {w : World} {μ : Mu} {φ : Fr} {tm : Nat → Value} {C : Cx} (P : Pol) (o : Oper) (h : St A w μ φ tm C) : St A w (preM P o μ) φ tm C := by
  unfold preM
  split
  · split
    · rename_i hw; exact h.weak hw
    · exact h
  · exact h
end Go.Ev

/- Operations in their order. -/
namespace Go.Ev

/-- What comes before a guard that is not met leaves the slot empty. -/
def guardM (τ : List TE) (Sg : Nat → Option Sig) (cols : List M) (o : Oper) (μ : Mu) : Option Mu := match o.dst with
  | some _ => match o.op with
    | .call c => match c.callee with
      | .value (.func f) => match Sg f with
        | some sg => if sg.res.length = 1 then chkOp τ Sg cols o μ else none
        | none => none
      | .builtin .append => none
      | .builtin _ => chkOp τ Sg cols o μ
      | _ => none
    | .assign _ | .box _ _ | .store _ _ _ => none
    | .move _ => if cols.isEmpty then chkOp τ Sg cols o μ else none
    | _ => chkOp τ Sg cols o μ
  | none => none

theorem putM_put {dst : Option Tmp} {d : Nat} {sm : SM} {μ μ' : Mu} (hd : dst = some d) (h : putM dst sm μ = some μ') : ∃ sm, μ' = μ.put d sm := by
  subst hd
  refine ⟨sm, ?_⟩
  cases sm <;> simp [putM] at h <;> exact h.symm

theorem guardM_put {τ : List TE} {Sg : Nat → Option Sig} {cols : List M} {o : Oper} {μ μ' : Mu} (h : guardM τ Sg cols o μ = some μ') : chkOp τ Sg cols o μ = some μ' ∧ ∃ d sm, o.dst = some d ∧ μ' = μ.put d sm := by
  have pure : ∀ d, o.dst = some d → pureC τ cols o μ = some μ' → ∃ d sm, o.dst = some d ∧ μ' = μ.put d sm := by
    intro d hd h
    unfold pureC at h
    split at h
    · obtain ⟨sm, e⟩ := putM_put hd h
      exact ⟨d, sm, hd, e⟩
    · cases h
  unfold guardM at h
  split at h
  · rename_i d hd
    cases ho : o.op with
    | call c =>
      rw [ho] at h
      simp only at h
      split at h
      · rename_i f hc
        split at h
        · rename_i sg hsg
          split at h
          · rename_i hl
            refine ⟨h, ?_⟩
            unfold chkOp at h
            rw [ho] at h
            simp only [hc] at h
            unfold callQ at h
            rw [hsg] at h
            simp only at h
            split at h
            · split at h
              · rename_i pss _
                obtain ⟨sm, hr⟩ : ∃ sm, sg.res = [sm] := by
                  match hq : sg.res, hl with
                  | [sm], _ => exact ⟨sm, rfl⟩
                rw [hr, hd] at h
                simp only [putResM, List.map_cons, List.map_nil, Option.some.injEq] at h
                exact ⟨d, _, hd, h.symm⟩
              · cases h
            · cases h
          · cases h
        · cases h
      · cases h
      · rename_i b hb hc
        refine ⟨h, pure d hd ?_⟩
        unfold chkOp at h
        rw [ho] at h
        simp only [hc] at h
        cases b <;> first | exact h | exact (hb rfl).elim
      · cases h
    | assign y => rw [ho] at h; cases h
    | box t y => rw [ho] at h; cases h
    | store t y z => rw [ho] at h; cases h
    | move y =>
      rw [ho] at h
      simp only at h
      split at h
      · rename_i hcl
        refine ⟨h, pure d hd ?_⟩
        unfold chkOp at h
        rw [ho] at h
        simp only [hcl, if_true] at h
        exact h
      · cases h
    | _ =>
      rw [ho] at h
      simp only at h
      refine ⟨h, pure d hd ?_⟩
      unfold chkOp at h
      rw [ho] at h
      exact h
  · cases h

section
variable {V : Env} {A : Start} {w w' : World} {μ μ' : Mu} {φ φ' : Fr} {C : Cx} {a : Act} {g : Nat → Value} {o : Oper} {x : X}

theorem skip_st {d : Nat} {sm : SM} (h : St A w μ φ (tmO a.tmps g) C) (hd1 : d < 1000) (hsz : d < a.tmps.size) : ∃ C2, St A w (μ.put d sm) (upd φ d .u) (tmO (a.put (some d) undef).tmps g) C2 := by
  refine ⟨_, h.putG hd1 (Ext.refl w) (fun _ => none) (by simp) (by simp) (by simp) ?_ ?_ ?_ ?_⟩
  · intro s hs
    have : s ≠ d := by rintro rfl; rw [hit_self] at hs; cases hs
    simp [upd, this]
  · intro s hs
    have : s ≠ d := by rintro rfl; rw [hit_self] at hs; cases hs
    rw [tm_put hd1 hsz]
    simp [this]
  · intro s hs
    have : s ≠ d := by rintro rfl; rw [hit_self] at hs; cases hs
    rw [get_put, if_neg this, hs]; rfl
  · intro s hs
    rw [get_put]
    by_cases e : s = d
    · subst e; exact .inl (by simp [upd])
    · rw [if_neg e, hs]; exact .inr trivial

/-- A condition's slot. -/
theorem slot_bool {d : Nat} {b : Bool} (h : St A w μ φ (tmO a.tmps g) C) (hd : d < 1000) (hr : rdO μ (.tmp d) = true) (hv : (φ d).val = some (.bool b)) : a.tmps.getD d undef = .bool b := by
  have hv' : (opX ([] : List TE) φ 0 (.tmp d)).val = some (.bool b) := by
    simp only [opX]
    generalize φ d = q at hv
    unfold X.val at hv
    split at hv
    · cases hv; rfl
    · cases hv
  have := (val_sound (τ := []) (ty := 0) h (by simpa [sm1] using hd) hr hv').1
  exact this
end

/-- The check of operations in their order; the columns are told by a policy. -/
def chkOps (τ : List TE) (Sg : Nat → Option Sig) (colsP : Pol) (n : Nat) (ops : Array Oper) : List Oper → Mu → Option Mu
  | [], μ => some μ
  | o :: rest, μ0 =>
    let μ := preM colsP o μ0
    if smallO n o then (match o.guard with
    | none => match chkOp τ Sg (colsP.cols o μ) o μ with
      | some μ' => chkOps τ Sg colsP n ops rest μ'
      | none => none
    | some (j, _) => match (ops[j]?).bind (·.dst) with
      | some d => if Nat.blt d 1000 && rdO μ (.tmp d) then (match guardM τ Sg (colsP.cols o μ) o μ with
        | some μ' => chkOps τ Sg colsP n ops rest μ'
        | none => none) else none
      | none => none) else none

theorem ops_wp {V : Env} {A : Start} {n : Nat} {colsP : Pol} {S : Nat → Option (List PK)} {F : Nat → List X → Option (List X × List X)} {Sg : Nat → Option Sig} {ops : Array Oper} {Q : Exit → Act → World → Prop} (hrg : A.rg = []) (hn : n ≤ 1000)
    (hSg : ∀ f sg, Sg f = some sg → S f = some (sg.pms.map PM.pk) ∧ Does V f sg (F f)) : ∀ (l : List Oper) (μ μ' : Mu) (φ φ' : Fr) (a : Act) (w : World), Stands A n φ μ a w → evOps V.τ S F ops l φ = some φ' → chkOps V.τ Sg colsP n ops l μ = some μ' →
      (∀ a w, Stands A n φ' μ' a w → Q .normal a w) → wpList V.P ops Q l a w
  | [], μ, μ', φ, φ', a, w, hst, hx, hm, hQ => by
    simp only [evOps, Option.some.injEq] at hx
    simp only [chkOps, Option.some.injEq] at hm
    subst hx; subst hm
    exact hQ a w hst
  | o :: rest, μ, μ', φ, φ', a, w, hst, hx, hm, hQ => by
    obtain ⟨C, g, h0, hsz, hdf⟩ := hst
    have h := pre_sound colsP o h0
    simp only [chkOps] at hm
    generalize preM colsP o μ = μ at h hm
    split at hm
    · rename_i hs
      simp only [evOps] at hx
      unfold wpList
      cases hg : o.guard with
      | none =>
        rw [hg] at hx hm
        simp only at hx hm
        split at hx
        · rename_i φ1 hx1
          split at hm
          · rename_i μ1 hm1
            rw [if_pos (by simp [Region.wanted, hg])]
            exact .inl (op_wp hrg hn hSg hs hsz hdf h hx1 hm1 fun a' w' hst' => ops_wp hrg hn hSg rest μ1 μ' φ1 φ' a' w' hst' hx hm hQ)
          · cases hm
        · cases hx
      | some jw =>
        obtain ⟨j, want⟩ := jw
        rw [hg] at hx hm
        simp only at hx hm
        split at hm
        · rename_i d hj
          rw [hj] at hx
          simp only at hx
          split at hm
          · rename_i hc
            simp only [Bool.and_eq_true, Nat.blt_eq] at hc
            split at hm
            · rename_i μ1 hm1
              obtain ⟨hm2, d2, sm, hd2, hput⟩ := guardM_put hm1
              split at hx
              · rename_i b hb
                have hbool := slot_bool h hc.1 hc.2 hb
                have hy : yielded ops a.tmps j = some b := by
                  unfold yielded
                  rw [hj]
                  simp only [Option.bind_some]
                  have : a.tmps[d]? = some (.bool b) := by
                    by_cases hlt : d < a.tmps.size
                    · rw [Array.getElem?_eq_getElem hlt]
                      simp [Array.getD, hlt] at hbool
                      rw [hbool]
                    · simp [Array.getD, hlt] at hbool
                      cases hbool
                  rw [this]
                split at hx
                · rename_i hbw
                  split at hx
                  · rename_i φ1 hx1
                    rw [if_pos (by simp [Region.wanted, hg, hy, hbw])]
                    exact .inl (op_wp hrg hn hSg hs hsz hdf h hx1 hm2 fun a' w' hst' => ops_wp hrg hn hSg rest μ1 μ' φ1 φ' a' w' hst' hx hm hQ)
                  · cases hx
                · rename_i hbw
                  rw [if_neg (by simp [Region.wanted, hg, hy, hbw])]
                  rw [hd2] at hx ⊢
                  simp only [putRes] at hx
                  unfold smallO at hs
                  simp only [Bool.and_eq_true] at hs
                  have hdn := hs.1.2
                  rw [hd2] at hdn
                  simp only [Nat.blt_eq] at hdn
                  obtain ⟨C2, h2⟩ := skip_st (sm := sm) h (Nat.lt_of_lt_of_le hdn hn) (by rw [hsz]; exact hdn)
                  rw [hput] at hm
                  exact ops_wp hrg hn hSg rest _ μ' _ φ' _ w ⟨C2, g, h2, by rw [put_size]; exact hsz, by rw [put_defers]; exact hdf⟩ hx hm hQ
              · cases hx
            · cases hm
          · cases hm
        · cases hm
    · cases hm
end Go.Ev

/- Operations in their order, with what is forgotten ahead of them. -/

/- What an operation answers hangs on what it reads alone. -/
namespace Go.Ev

/-- More is told. -/
def Le (φ φ' : Fr) : Prop := ∀ s, φ s = .u ∨ φ' s = φ s

section
variable {τ : List TE} {φ φ' : Fr}

theorem cpX_u {t : Nat} {x : X} (h : cpX t x ≠ .u) : x ≠ .u := by rintro rfl; exact h rfl

theorem Le.at (h : Le φ φ') {s : Nat} (hs : φ s ≠ .u) : φ' s = φ s := (h s).resolve_left hs

theorem opX_le (h : Le φ φ') (ty : Nat) (y : Operand) (hy : opX τ φ ty y ≠ .u) : opX τ φ' ty y = opX τ φ ty y := by
  unfold opX at hy ⊢
  split
  · rename_i t
    rw [h.at (cpX_u hy)]
  · rfl
  · rfl
  · rfl
  · rfl

theorem opX_le' (h : Le φ φ') {ty : Nat} {y : Operand} {x : X} (hy : opX τ φ ty y = x) (hx : x ≠ .u) : opX τ φ' ty y = x := by
  rw [opX_le h ty y (by rw [hy]; exact hx), hy]

theorem val_le (h : Le φ φ') {ty : Nat} {y : Operand} {v : Value} (hy : (opX τ φ ty y).val = some v) : (opX τ φ' ty y).val = some v := by
  rw [opX_le h ty y (by intro e; rw [e] at hy; cases hy)]; exact hy

theorem int_le (h : Le φ φ') {ty : Nat} {y : Operand} {v : Int} (hy : (opX τ φ ty y).int = some v) : (opX τ φ' ty y).int = some v := by
  rw [opX_le h ty y (by intro e; rw [e] at hy; cases hy)]; exact hy

theorem cells_le (h : Le φ φ') {ty : Nat} {y : Operand} {cs : List D} (hy : (opX τ φ ty y).cells = some cs) : (opX τ φ' ty y).cells = some cs := by
  rw [opX_le h ty y (by intro e; rw [e] at hy; cases hy)]; exact hy

theorem ptX_le (h : Le φ φ') {y : Operand} {p : Pl} (hy : ptX φ y = some p) : ptX φ' y = some p := by
  unfold ptX at hy ⊢
  split at hy
  · rename_i t
    rw [h.at (by intro e; rw [e] at hy; cases hy)]
    exact hy
  · cases hy

theorem cellsAt_le (h : Le φ φ') {p : Pl} {n : Nat} {cs : List D} (hy : cellsAt φ p n = some cs) : cellsAt φ' p n = some cs := by
  unfold cellsAt at hy ⊢
  rw [h.at (by intro e; rw [e] at hy; cases hy)]
  exact hy

theorem loadX_le (h : Le φ φ') {t : Nat} {p : Pl} {x : X} (hy : loadX τ φ t p = some x) : loadX τ φ' t p = some x := by
  unfold loadX at hy ⊢
  split at hy
  · rename_i e he
    split at hy
    · rename_i cs hcs
      rw [cellsAt_le h hcs]
      exact hy
    · cases hy
  · cases hy

theorem fieldX_le (h : Le φ φ') {s f : Nat} {p : Pl} {x : X} (hy : fieldX τ φ s p f = some x) : fieldX τ φ' s p f = some x := by
  unfold fieldX at hy ⊢
  split at hy
  · rename_i e he
    split at hy
    · rename_i off hoff
      split at hy
      · rename_i cs hcs
        rw [cellsAt_le h hcs]
        exact hy
      · cases hy
    · cases hy
  · cases hy

theorem indexX_le (h : Le φ φ') {t : Nat} {y : Operand} {i : Int} {x : X} (hy : indexX τ φ t y i = some x) : indexX τ φ' t y i = some x := by
  unfold indexX at hy ⊢
  split at hy
  · cases hy
  · rename_i hi
    rw [if_neg hi]
    split at hy
    · rename_i e he
      split at hy
      · rename_i hel
        split at hy
        · rename_i hop
          rw [opX_le' h hop (by simp)]
          exact hy
        · cases hy
      · rename_i hel
        split at hy
        · rename_i q1 q2
          rw [ptX_le h q2, q1]
          simp only
          split at hy
          · rename_i hlt
            rw [if_pos hlt]
            split at hy
            · rename_i hcs
              rw [cellsAt_le h hcs]
              exact hy
            · cases hy
          · cases hy
        · cases hy
    · cases hy

theorem capSlots_le (h : Le φ φ') : ∀ {l : List Operand} {r : List Nat}, capSlots φ l = some r → capSlots φ' l = some r
  | [], r, hy => hy
  | y :: l, r, hy => by
    unfold capSlots at hy ⊢
    split at hy
    · rename_i heq; cases heq
    · rename_i t xs heq
      cases heq
      split at hy
      · rename_i h1 h2
        rw [h.at (by rw [h1]; simp)]
        simp only [h1, capSlots_le h h2]
        exact hy
      · cases hy
    · cases hy

theorem fill_le {pl : Nat → Option (Nat × Nat)} (h : Le φ φ') {ty : Nat → Nat} : ∀ (ps : List (Nat × Operand)) (cs cs' : List D), fillX pl cs (partsX τ φ ps ty) = some cs' → fillX pl cs (partsX τ φ' ps ty) = some cs'
  | [], cs, cs', hy => hy
  | p :: ps, cs, cs', hy => by
    simp only [partsX, List.map_cons, fillX] at hy ⊢
    split at hy
    · rename_i q1 q2
      rw [q1]
      simp only [cells_le h q2]
      split at hy
      · rename_i hc
        rw [if_pos hc]
        exact fill_le h ps _ _ hy
      · cases hy
    · cases hy

theorem fillRows_le {z : Nat} (h : Le φ φ') {ty : Nat → Nat} : ∀ (ps : List (Nat × Operand)) (rs rs' : List (List D)), fillRows z rs (partsX τ φ ps ty) = some rs' → fillRows z rs (partsX τ φ' ps ty) = some rs'
  | [], cs, cs', hy => hy
  | p :: ps, cs, cs', hy => by
    simp only [partsX, List.map_cons, fillRows] at hy ⊢
    split at hy
    · rename_i q2
      simp only [cells_le h q2]
      split at hy
      · rename_i hc
        rw [if_pos hc]
        exact fillRows_le h ps _ _ hy
      · cases hy
    · cases hy

theorem bound_le (h : Le φ φ') {d n : Nat} {y : Option Operand} (hy : bound d (y.map (opX τ φ 0)) = some n) : bound d (y.map (opX τ φ' 0)) = some n := by
  cases y with
  | none => exact hy
  | some y =>
    simp only [Option.map_some, bound] at hy ⊢
    split at hy
    · rename_i q
      rw [int_le h q]
      exact hy
    · cases hy

/-- An operation's result stays where more is told. -/
theorem pureX_le (h : Le φ φ') {o : Op} {ty : Nat} {x : X} (hy : pureX τ φ o ty = some x) : pureX τ φ' o ty = some x := by
  cases o with
  | move y =>
    simp only [pureX] at hy ⊢
    rw [opX_le h ty y (by intro e; rw [e] at hy; cases hy)]; exact hy
  | assign y =>
    simp only [pureX] at hy ⊢
    rw [opX_le h ty y (by intro e; rw [e] at hy; cases hy)]; exact hy
  | pick c y z =>
    simp only [pureX] at hy ⊢
    split at hy
    · rename_i b hb
      rw [val_le h hb]
      simp only
      split at hy
      · rename_i v hv
        rw [val_le h hv]; exact hy
      · cases hy
    · cases hy
  | alloc t => exact hy
  | box t y =>
    simp only [pureX] at hy ⊢
    have hy0 := hy
    split at hy
    · rename_i q1 q2
      rw [cells_le h q2, ← q2]; exact hy0
    · cases hy
  | load t y =>
    simp only [pureX] at hy ⊢
    split at hy
    · rename_i q
      rw [ptX_le h q]; exact loadX_le h hy
    · cases hy
  | nilCheck y =>
    simp only [pureX] at hy ⊢
    rw [Option.map_eq_some_iff] at hy
    obtain ⟨p, q, rfl⟩ := hy
    rw [ptX_le h q]; rfl
  | binOp op t y z g =>
    simp only [pureX] at hy ⊢
    have h1 : opX τ φ t y ≠ .u := by intro e; rw [e] at hy; simp [binX] at hy
    have h2 : opX τ φ t z ≠ .u := by intro e; rw [e] at hy; unfold binX at hy; split at hy <;> simp_all
    rw [opX_le h t y h1, opX_le h t z h2]; exact hy
  | unOp op t y =>
    simp only [pureX] at hy ⊢
    split at hy
    · rename_i q
      rw [val_le h q]; exact hy
    · cases hy
  | fieldAddr s y f =>
    simp only [pureX] at hy ⊢
    split at hy
    · rename_i q
      rw [ptX_le h q]; exact fieldX_le h hy
    · cases hy
  | indexAddr t y i =>
    simp only [pureX] at hy ⊢
    split at hy
    · rename_i q
      rw [int_le h q]; exact indexX_le h hy
    · cases hy
  | index t y i =>
    simp only [pureX] at hy ⊢
    unfold strIndexX at hy ⊢
    split at hy
    · rename_i q1 q2
      rw [opX_le' h q1 (by simp), int_le h q2]; exact hy
    · cases hy
  | extract y i =>
    cases y with
    | tmp t =>
      simp only [pureX] at hy ⊢
      split at hy
      · rename_i q
        rw [h.at (by rw [q]; simp), q]
        simp only
        split at hy
        · rename_i hc
          rw [if_pos hc]
          rw [h.at (by intro e; rw [e] at hy; cases hy)]; exact hy
        · cases hy
      · cases hy
    | _ => cases hy
  | slice t y lo hi mx =>
    simp only [pureX] at hy ⊢
    unfold sliceX at hy ⊢
    split at hy
    · rename_i q
      rw [opX_le' h q (by simp)]
      simp only
      split at hy
      · rename_i e he
        split at hy
        · rename_i hk
          rw [if_pos hk]
          split at hy
          · rename_i q1 q2 q3
            rw [bound_le h q1, bound_le h q2]
            rw [Option.map_eq_none_iff] at q3
            subst q3
            exact hy
          · cases hy
        · cases hy
      · cases hy
    · rename_i q
      rw [opX_le' h q (by simp)]
      simp only
      split at hy
      · rename_i hk
        rw [if_pos hk]
        split at hy
        · rename_i q1 q2
          rw [bound_le h q1, bound_le h q2]
          simp only
          split at hy
          · rename_i q3
            rw [Option.map_eq_none_iff] at q3
            subst q3
            exact hy
          · rename_i q3
            rw [Option.map_eq_some_iff] at q3
            obtain ⟨m, rfl, rfl⟩ := q3
            split at hy
            · rename_i hc
              simp only [Option.map_some]
              rw [if_pos ⟨by simpa using hc.1, int_le h hc.2.1, hc.2.2⟩]
              exact hy
            · cases hy
        · cases hy
      · cases hy
    · cases hy
  | convert s d y =>
    simp only [pureX] at hy ⊢
    have h1 : opX τ φ s y ≠ .u := by intro e; rw [e] at hy; unfold convX at hy; split at hy <;> simp_all
    rw [opX_le h s y h1]; exact hy
  | makeSlice t n c =>
    simp only [pureX] at hy ⊢
    split at hy
    · rename_i q1 q2
      rw [int_le h q1, int_le h q2]; exact hy
    · cases hy
  | build t ps =>
    simp only [pureX] at hy ⊢
    unfold buildX at hy ⊢
    split at hy
    · rename_i e he
      split at hy
      · rename_i hc
        rw [if_pos hc]
        split at hy
        · split at hy
          · rename_i q
            rw [fill_le h _ _ _ q]; exact hy
          · cases hy
        · split at hy
          · rename_i q
            rw [fill_le h _ _ _ q]; exact hy
          · cases hy
      · cases hy
    · cases hy
  | buildSlice t n ps =>
    simp only [pureX] at hy ⊢
    unfold buildSliceX at hy ⊢
    split at hy
    · split at hy
      · split at hy
        · split at hy
          · rename_i hc
            rw [if_pos hc]
            split at hy
            · rename_i q
              rw [fillRows_le h _ _ _ q]; exact hy
            · cases hy
          · cases hy
        · cases hy
      · cases hy
    · cases hy
  | makeFunc f fs cs =>
    cases f with
    | func f =>
      simp only [pureX] at hy ⊢
      split at hy
      · rename_i hc
        rw [if_pos hc]
        rw [Option.map_eq_some_iff] at hy ⊢
        obtain ⟨l, q, rfl⟩ := hy
        exact ⟨l, capSlots_le h q, rfl⟩
      · cases hy
    | _ => cases hy
  | call c =>
    simp only [pureX] at hy ⊢
    split at hy
    · rename_i y t q1 q2 q3
      have h1 : opX τ φ t y ≠ .u := by intro e; rw [e] at hy; unfold lenX at hy; split at hy <;> simp_all
      rw [opX_le h t y h1]; exact hy
    · rename_i y z t t' q1 q2 q3
      have h1 : opX τ φ t y ≠ .u := by intro e; rw [e] at hy; unfold appX at hy; split at hy <;> (try split at hy) <;> simp_all
      have h2 : opX τ φ t' z ≠ .u := by
        intro e; rw [e] at hy; unfold appX at hy
        repeat' (split at hy)
        all_goals simp_all
      rw [opX_le h t y h1, opX_le h t' z h2]; exact hy
    · rename_i y z q1 q2
      have h1 : opX τ φ 0 y ≠ .u := by intro e; rw [e] at hy; simp [mmX] at hy
      have h2 : opX τ φ 0 z ≠ .u := by intro e; rw [e] at hy; unfold mmX at hy; split at hy <;> simp_all
      rw [opX_le h 0 y h1, opX_le h 0 z h2]; exact hy
    · rename_i y z q1 q2
      have h1 : opX τ φ 0 y ≠ .u := by intro e; rw [e] at hy; simp [mmX] at hy
      have h2 : opX τ φ 0 z ≠ .u := by intro e; rw [e] at hy; unfold mmX at hy; split at hy <;> simp_all
      rw [opX_le h 0 y h1, opX_le h 0 z h2]; exact hy
    · cases hy
  | _ => cases hy

/-- The same of arguments that are read. -/
theorem capsX_le (h : Le φ φ') : ∀ {l : List Nat} {r : List (List D)}, capsX φ l = some r → capsX φ' l = some r
  | [], r, hy => hy
  | s :: l, r, hy => by
    unfold capsX at hy ⊢
    split at hy
    · rename_i h1 h2
      rw [h.at (by rw [h1]; simp), h1, capsX_le h h2]
      exact hy
    · cases hy

theorem argX_le (h : Le φ φ') {y : Operand} {ty : Nat} {x : X} (hy : argX τ φ .val y ty = some x) : argX τ φ' .val y ty = some x := by
  simp only [argX] at hy ⊢
  have h1 : opX τ φ ty y ≠ .u := by intro e; rw [e] at hy; cases hy
  rw [opX_le h ty y h1]
  split at hy
  · exact hy
  · exact hy
  · rw [Option.map_eq_some_iff] at hy
    obtain ⟨r, q2, rfl⟩ := hy
    simp only [capsX_le h q2, Option.map_some]
  · exact hy
  · cases hy

theorem argsX_le (h : Le φ φ') : ∀ {ks : List PK} {ys : List Operand} {tys : List Nat} {xs : List X}, (∀ k ∈ ks, k = .val) → argsX τ φ ks ys tys = some xs → argsX τ φ' ks ys tys = some xs
  | [], [], [], xs, _, hy => hy
  | k :: ks, y :: ys, t :: ts, xs, hk, hy => by
    simp only [argsX] at hy ⊢
    split at hy
    · rename_i q1 q2
      rw [hk k (by simp)] at q1 ⊢
      rw [argX_le h q1, argsX_le h (fun k' hk' => hk k' (by simp [hk'])) q2]
      exact hy
    · cases hy
  | [], _ :: _, _, _, _, hy => by simp [argsX] at hy
  | [], [], _ :: _, _, _, hy => by simp [argsX] at hy
  | _ :: _, [], _, _, _, hy => by simp [argsX] at hy
  | _ :: _, _ :: _, [], _, _, hy => by simp [argsX] at hy
end
end Go.Ev

/- One operation of a list; the tail of a region whose order is drawn. -/
namespace Go.Ev

theorem op_step {V : Env} {A : Start} {n : Nat} {colsP : Pol} {S : Nat → Option (List PK)} {F : Nat → List X → Option (List X × List X)} {Sg : Nat → Option Sig} {ops : Array Oper} {K : Act → World → Prop} {Q : Exit → Act → World → Prop} (hrg : A.rg = []) (hn : n ≤ 1000)
    (hSg : ∀ f sg, Sg f = some sg → S f = some (sg.pms.map PM.pk) ∧ Does V f sg (F f)) {o : Oper} {rest : List Oper} {μ μ' : Mu} {φ φ' : Fr} {a : Act} {w : World} (hst : Stands A n φ μ a w) (hx : evOps V.τ S F ops (o :: rest) φ = some φ') (hm : chkOps V.τ Sg colsP n ops (o :: rest) μ = some μ')
    (hK : ∀ φ1 μ1 a w, Stands A n φ1 μ1 a w → evOps V.τ S F ops rest φ1 = some φ' → chkOps V.τ Sg colsP n ops rest μ1 = some μ' → K a w) :
    if Region.wanted o (yielded ops a.tmps) then o.wp V.P a w K Q ∨ (o.asks V.P a w ∧ LetsOut Q) else K (a.put o.dst undef) w := by
  obtain ⟨C, g, h0, hsz, hdf⟩ := hst
  have h := pre_sound colsP o h0
  simp only [chkOps] at hm
  generalize preM colsP o μ = μ at h hm
  split at hm
  · rename_i hs
    simp only [evOps] at hx
    cases hg : o.guard with
    | none =>
      rw [hg] at hx hm
      simp only at hx hm
      split at hx
      · rename_i φ1 hx1
        split at hm
        · rename_i μ1 hm1
          rw [if_pos (by simp [Region.wanted, hg])]
          exact .inl (op_wp hrg hn hSg hs hsz hdf h hx1 hm1 fun a' w' hst' => hK φ1 μ1 a' w' hst' hx hm)
        · cases hm
      · cases hx
    | some jw =>
      obtain ⟨j, want⟩ := jw
      rw [hg] at hx hm
      simp only at hx hm
      split at hm
      · rename_i d hj
        rw [hj] at hx
        simp only at hx
        split at hm
        · rename_i hc
          simp only [Bool.and_eq_true, Nat.blt_eq] at hc
          split at hm
          · rename_i μ1 hm1
            obtain ⟨hm2, d2, sm, hd2, hput⟩ := guardM_put hm1
            split at hx
            · rename_i b hb
              have hbool := slot_bool h hc.1 hc.2 hb
              have hy : yielded ops a.tmps j = some b := by
                unfold yielded
                rw [hj]
                simp only [Option.bind_some]
                have : a.tmps[d]? = some (.bool b) := by
                  by_cases hlt : d < a.tmps.size
                  · rw [Array.getElem?_eq_getElem hlt]
                    simp [Array.getD, hlt] at hbool
                    rw [hbool]
                  · simp [Array.getD, hlt] at hbool
                    cases hbool
                rw [this]
              split at hx
              · rename_i hbw
                split at hx
                · rename_i φ1 hx1
                  rw [if_pos (by simp [Region.wanted, hg, hy, hbw])]
                  exact .inl (op_wp hrg hn hSg hs hsz hdf h hx1 hm2 fun a' w' hst' => hK φ1 μ1 a' w' hst' hx hm)
                · cases hx
              · rename_i hbw
                rw [if_neg (by simp [Region.wanted, hg, hy, hbw])]
                rw [hd2] at hx ⊢
                simp only [putRes] at hx
                unfold smallO at hs
                simp only [Bool.and_eq_true] at hs
                have hdn := hs.1.2
                rw [hd2] at hdn
                simp only [Nat.blt_eq] at hdn
                obtain ⟨C2, h2⟩ := skip_st (sm := sm) h (Nat.lt_of_lt_of_le hdn hn) (by rw [hsz]; exact hdn)
                rw [hput] at hm
                exact hK _ _ _ w ⟨C2, g, h2, by rw [put_size]; exact hsz, by rw [put_defers]; exact hdf⟩ hx hm
            · cases hx
          · cases hm
        · cases hm
      · cases hm
  · cases hm

/-- The operations behind the cut, in their one order. -/
theorem tail_wp {V : Env} {A : Start} {n : Nat} {colsP : Pol} {S : Nat → Option (List PK)} {F : Nat → List X → Option (List X × List X)} {Sg : Nat → Option Sig} {ops : Array Oper} {Q : Exit → Act → World → Prop} (hrg : A.rg = []) (hn : n ≤ 1000)
    (hSg : ∀ f sg, Sg f = some sg → S f = some (sg.pms.map PM.pk) ∧ Does V f sg (F f)) {φ' : Fr} {μ' : Mu} (hQ : ∀ a w, Stands A n φ' μ' a w → Q .normal a w) {m : Nat}
    (hseq : ∀ i o, ops[i]? = some o → m ≤ i → ∀ j, j < i → ∀ (listed : Array Bool), (∀ k, listed.getD k false = true → ∀ b, b < k → listed.getD b false = true) → i ∈ Region.ready .any ops listed → listed.getD j false = true)
    (hrdy : ∀ i (listed : Array Bool), i < ops.size → listed.getD i true = false → (∀ j, j < i → listed.getD j false = true) → i ∈ Region.ready .any ops listed) :
    ∀ (rest : List Oper) (i : Nat) (fuel : Nat) (listed : Array Bool) (φ : Fr) (μ : Mu) (a : Act) (w : World), m ≤ i → rest = ops.toList.drop i → listed.size = ops.size →
      (∀ j, j < i → listed.getD j false = true) → (∀ j, i ≤ j → j < ops.size → listed.getD j true = false) → rest.length ≤ fuel →
      Stands A n φ μ a w → evOps V.τ S F ops rest φ = some φ' → chkOps V.τ Sg colsP n ops rest μ = some μ' → wpAny V.P .any ops Q fuel listed a w
  | [], i, fuel, listed, φ, μ, a, w, hmi, hr, hls, hl, hu, hf, hst, hx, hm => by
    simp only [evOps, Option.some.injEq] at hx
    simp only [chkOps, Option.some.injEq] at hm
    subst hx; subst hm
    refine wpAny_done ?_ (hQ a w hst) fuel
    have : ops.size ≤ i := by
      have := congrArg List.length hr
      simp at this
      omega
    apply List.eq_nil_iff_forall_not_mem.2
    intro j hj
    obtain ⟨h1, o, h2, _⟩ := mem_ready.1 hj
    have hlt := (Array.getElem?_eq_some_iff.1 h2).1
    have h3 := hl j (by omega)
    rw [Array.getD_eq_getD_getElem?] at h1 h3
    have : j < listed.size := by omega
    simp [this] at h1 h3
    rw [h3] at h1; cases h1
  | o :: rest, i, fuel, listed, φ, μ, a, w, hmi, hr, hls, hl, hu, hf, hst, hx, hm => by
    have hio : ops[i]? = some o := by
      have := congrArg (·[0]?) hr
      simp at this
      exact this.symm
    have hi : i < ops.size := (Array.getElem?_eq_some_iff.1 hio).1
    have hrest : rest = ops.toList.drop (i + 1) := by
      have := congrArg (List.drop 1) hr
      simpa using this
    cases fuel with
    | zero => simp at hf
    | succ fuel =>
      have hi0 : listed.getD i true = false := hu i (Nat.le_refl _) hi
      have hin : i ∈ Region.ready .any ops listed := hrdy i listed hi hi0 hl
      refine ⟨fun e => absurd (e ▸ hin) (by simp), fun j hj => ?_⟩
      have hji : j = i := by
        obtain ⟨h1, oj, h2, _⟩ := mem_ready.1 hj
        have hjs := (Array.getElem?_eq_some_iff.1 h2).1
        rcases Nat.lt_trichotomy j i with h3 | h3 | h3
        · have h4 := hl j h3
          rw [Array.getD_eq_getD_getElem?] at h1 h4
          have : j < listed.size := by omega
          simp [this] at h1 h4
          rw [h4] at h1; cases h1
        · exact h3
        · have h4 := hseq j oj h2 (by omega) i h3 listed (fun k hk b hb => by
            by_cases hki : k < i
            · exact hl b (by omega)
            · by_cases hks : k < ops.size
              · have h5 := hu k (by omega) hks
                rw [Array.getD_eq_getD_getElem?] at hk h5
                have : k < listed.size := by omega
                simp [this] at hk h5
                rw [hk] at h5; cases h5
              · rw [Array.getD_eq_getD_getElem?] at hk
                have : ¬ k < listed.size := by omega
                simp [this] at hk) hj
          have h5 := hi0
          rw [Array.getD_eq_getD_getElem?] at h4 h5
          have : i < listed.size := by omega
          simp [this] at h4 h5
          rw [h4] at h5; cases h5
      subst hji
      unfold wpOp
      rw [hio]
      refine op_step hrg hn hSg hst hx hm fun φ1 μ1 a' w' hst' hx' hm' => ?_
      refine tail_wp hrg hn hSg hQ hseq hrdy rest (j + 1) fuel _ φ1 μ1 a' w' (by omega) hrest (by simpa using hls) ?_ ?_ (by simpa using hf) hst' hx' hm'
      · intro k hk
        by_cases e : k = j
        · subst e
          have : k < listed.size := by omega
          simp [this]
        · exact getD_set_true (hl k (by omega))
      · intro k hk hks
        rw [getD_set_ne true (by omega)]
        exact hu k (by omega) hks

end Go.Ev

/- Operations that may go in any order: each by itself. -/
namespace Go.Ev

/-- Operations that leave nothing but one result. -/
def pureK (o : Op) : Bool := match o with
  | .store _ _ _ => false
  | .box _ _ => false
  | .call c => match c.callee with
    | .value _ => false
    | .builtin .append => false
    | _ => true
  | _ => true

/-- A copy that is put into a variable: a view. -/
def assignJ (μ : Mu) (x : Operand) : Option SM := match opM μ x with
  | .c m _ => some (.c m .no)
  | .agg ms _ => some (.agg ms .no)
  | _ => none

def pureJ (τ : List TE) (cols : List M) (μ : Mu) (o : Op) : Option SM := match o with
  | .assign x => assignJ μ x
  | o => pureM τ cols μ o

theorem pureJ_eq {τ : List TE} {cols : List M} {μ : Mu} {o : Op} (h : ∀ x, o ≠ .assign x) : pureJ τ cols μ o = pureM τ cols μ o := by
  unfold pureJ
  split
  · rename_i x; exact (h x rfl).elim
  · rfl

/-- The modes of the results of an operation that may go in any order. -/
def judge (τ : List TE) (Sg : Nat → Option Sig) (cols : List M) (o : Oper) (μ : Mu) : Option (List SM) := if pureK o.op then (pureJ τ cols μ o.op).map fun sm => [sm] else match o.op with
  | .call c => match c.callee with
    | .value (.func f) => match Sg f with
      | some sg => if sg.tys = c.argTypes.toList ∧ sg.res.all SM.resOk = true then (match argsQ τ μ sg.pms c.args.toList c.argTypes.toList with
        | some as => some (sg.res.map (SM.map (substQ as)))
        | none => none) else none
      | none => none
    | _ => none
  | _ => none

section
variable {V : Env} {A : Start} {w w' : World} {μ μ' : Mu} {φ φ' : Fr} {C : Cx} {a : Act} {g : Nat → Value} {o : Oper} {x : X}
variable {S : Nat → Option (List PK)} {F : Nat → List X → Option (List X × List X)} {Sg : Nat → Option Sig} {τ : List TE}

theorem assign_pure {y : Operand} {sm : SM} (ho : o.op = .assign y) (h : St A w μ φ (tmO a.tmps g) C) (hs : sm1 y = true) (hx : pureX V.τ φ o.op o.type = some x) (hm : assignJ μ y = some sm) : PureOk V w C φ (tmO a.tmps g) a o x sm := by
  rw [ho] at hx
  simp only [pureX] at hx
  have hrun : (execOp a.eval o).run V.P w = .ok (.value (a.eval y)) w := by simp [execOp, ho]
  have hu : opX V.τ φ o.type y ≠ .u := by intro e; rw [e] at hx; cases hx
  have hxe : x = ownX (opX V.τ φ o.type y) := by
    generalize opX V.τ φ o.type y = q at hx hu
    cases q <;> first | exact (hu rfl).elim | (simp only [Option.some.injEq] at hx; exact hx.symm)
  have hcl := fun s => op_sound (s := s) h hs (τ := V.τ) (ty := o.type) hu
  have hno := opM_noOwn μ y
  unfold assignJ at hm
  refine .inl ⟨a.eval y, hrun, ?_⟩
  split at hm
  · rename_i m og hop
    cases hm
    rw [hop] at hno hcl
    refine ⟨hno, fun s => ?_⟩
    obtain ⟨d, o', e1, e2, _⟩ := hcl s
    rw [hxe, e1]
    exact ⟨d, none, rfl, e2, fun _ => rfl⟩
  · rename_i ms og hop
    cases hm
    rw [hop] at hno hcl
    refine ⟨hno, fun s => ?_⟩
    obtain ⟨ds, o', vs, e1, e2, e3, e4, e5, _⟩ := hcl s
    rw [hxe, e1]
    exact ⟨ds, none, vs, rfl, e2, e3, e4, e5, rfl⟩
  · cases hm

/-- What an operation answers. -/
def Yields (τ : List TE) (S : Nat → Option (List PK)) (F : Nat → List X → Option (List X × List X)) (φ : Fr) (o : Oper) (rs : List X) : Prop :=
  rs.length ≤ 8 ∧ ((pureK o.op = true ∧ ∃ x, pureX τ φ o.op o.type = some x ∧ rs = [x]) ∨
  (∃ c f ks as outs, o.op = .call c ∧ c.callee = .value (.func f) ∧ S f = some ks ∧ (∀ k ∈ ks, k = .val) ∧ argsX τ φ (ks.take c.args.size) c.args.toList c.argTypes.toList = some as ∧ F f as = some (rs, outs)))

theorem Yields.le {rs : List X} (hl : Le φ φ') (h : Yields τ S F φ o rs) : Yields τ S F φ' o rs := by
  refine ⟨h.1, ?_⟩
  rcases h.2 with ⟨h1, x, h2, h3⟩ | ⟨c, f, ks, as, outs, h1, h2, h3, h4, h5, h6⟩
  · exact .inl ⟨h1, x, pureX_le hl h2, h3⟩
  · exact .inr ⟨c, f, ks, as, outs, h1, h2, h3, h4, argsX_le hl (fun k hk => h4 k (List.mem_of_mem_take hk)) h5, h6⟩

theorem evOp_pure (hk : pureK o.op = true) (h : evOp τ S F o φ = some φ') : ∃ x, pureX τ φ o.op o.type = some x ∧ φ' = putRes o.dst [x] φ := by
  have fin : ∀ {q : Option X}, (match q with | some x => some (putRes o.dst [x] φ) | none => none) = some φ' → ∃ x, q = some x ∧ φ' = putRes o.dst [x] φ := by
    intro q hq
    cases q with
    | none => cases hq
    | some x => exact ⟨x, rfl, by simpa using hq.symm⟩
  unfold evOp at h
  cases ho : o.op with
  | store t y z => rw [ho] at hk; cases hk
  | call c =>
    rw [ho] at hk h
    simp only [pureK] at hk
    simp only at h
    split at h
    · rename_i e; rw [e] at hk; cases hk
    · rename_i e; rw [e] at hk; cases hk
    · exact fin h
  | _ => rw [ho] at h; exact fin h

theorem evOp_yields {cols : List M} {ms : List SM} (hSg : ∀ f sg, Sg f = some sg → S f = some (sg.pms.map PM.pk)) (hj : judge τ Sg cols o μ = some ms) (h : evOp τ S F o φ = some φ') : ∃ rs, Yields τ S F φ o rs ∧ φ' = putRes o.dst rs φ := by
  unfold judge at hj
  split at hj
  · rename_i hk
    obtain ⟨x, h1, h2⟩ := evOp_pure hk h
    exact ⟨[x], ⟨by simp, .inl ⟨hk, x, h1, rfl⟩⟩, h2⟩
  · split at hj
    · rename_i c ho
      split at hj
      · rename_i f hc
        split at hj
        · rename_i sg hsg
          split at hj
          · split at hj
            · rename_i as has
              have hS := hSg f sg hsg
              have hval : ∀ k ∈ sg.pms.map PM.pk, k = .val := by
                intro k hk
                rw [List.mem_map] at hk
                obtain ⟨pm, hpm, rfl⟩ := hk
                exact argsQ_val has pm hpm
              unfold evOp at h
              rw [ho] at h
              simp only [hc] at h
              unfold callX at h
              rw [hS] at h
              simp only at h
              split at h
              · rename_i xs hxs
                split at h
                · rename_i rs outs hF
                  rw [List.append_nil] at hF
                  split at h
                  · rename_i h8
                    split at h
                    · rename_i φ1 hback
                      cases h
                      have hφ1 := backs_val (fun k hk => hval k (List.mem_of_mem_take hk)) hback
                      subst hφ1
                      exact ⟨rs, ⟨h8, .inr ⟨c, f, _, xs, outs, ho, hc, hS, hval, hxs, hF⟩⟩, rfl⟩
                    · cases h
                  · cases h
                · cases h
              · cases h
            · cases hj
          · cases hj
        · cases hj
      · cases hj
    · cases hj

theorem argsQ_len {μ : Mu} : ∀ {pms : List PM} {ys : List Operand} {tys : List Nat} {pss : List (List Pv)}, argsQ τ μ pms ys tys = some pss → pms.length = ys.length := by
  intro pms
  induction pms with
  | nil => intro ys tys pss hq; cases ys <;> cases tys <;> simp_all [argsQ]
  | cons pm pms ih =>
    intro ys tys pss hq
    cases ys with
    | nil => simp [argsQ] at hq
    | cons y ys =>
      cases tys with
      | nil => simp [argsQ] at hq
      | cons t tys =>
        simp only [argsQ] at hq
        split at hq
        · rename_i p ps hp hps; simp [ih hps]
        · cases hq

/-- An operation that is judged by less than is known. -/
theorem settle_op {n : Nat} {cols : List M} {ms : List SM} {rs : List X} {μi μD μD' : Mu} {next : Act → World → Prop} {Q : Exit → Act → World → Prop} (hn : n ≤ 1000)
    (hSg : ∀ f sg, Sg f = some sg → S f = some (sg.pms.map PM.pk) ∧ Does V f sg (F f)) (hs : smallO n o = true) (hsz : a.tmps.size = n) (hdf : a.defers = []) (hi : St A w μi φ (tmO a.tmps g) C) (h : St A w μD φ (tmO a.tmps g) C)
    (hj : judge V.τ Sg cols o μi = some ms) (hy : Yields V.τ S F φ o rs) (hp : putResM o.dst ms μD = some μD') (hK : ∀ a w, Stands A n (putRes o.dst rs φ) μD' a w → next a w) : o.wp V.P a w next Q := by
  have hs' := hs
  unfold smallO at hs'
  simp only [Bool.and_eq_true] at hs'
  obtain ⟨⟨hso, hsd⟩, _⟩ := hs'
  have hdst : ∀ d, o.dst = some d → d < 1000 ∧ d < a.tmps.size := by
    intro d hd
    rw [hd] at hsd
    have : Nat.lt d n := by simpa [Nat.blt_eq] using hsd
    have : @LT.lt Nat _ d n := this
    exact ⟨Nat.lt_of_lt_of_le this hn, by rw [hsz]; exact this⟩
  obtain ⟨h8, hy⟩ := hy
  unfold judge at hj
  rcases hy with ⟨hk, x, hx, rfl⟩ | ⟨c, f, ks, as, outs, ho, hc, hks, hval, has, hF⟩
  · rw [if_pos hk] at hj
    rw [Option.map_eq_some_iff] at hj
    obtain ⟨sm, hsm, rfl⟩ := hj
    have hpo : PureOk V w C φ (tmO a.tmps g) a o x sm := by
      by_cases he : ∃ y, o.op = .assign y
      · obtain ⟨y, he⟩ := he
        rw [he] at hsm
        exact assign_pure he hi (by rw [he] at hso; simpa [Op.operands] using hso) hx hsm
      · rw [pureJ_eq fun y e => he ⟨y, e⟩] at hsm
        exact pure_sound (V := V) hi hso hx hsm
    refine OpOk.wp (n := n) (φ' := putRes o.dst [x] φ) (μ' := μD') (g := g) ?_ hsz hdf hK
    cases hds : o.dst with
    | none =>
      rw [hds] at hp
      simp only [putResM, Option.some.injEq] at hp
      subst hp
      rcases hpo with ⟨v, h1, _⟩ | ⟨v, w', h1, h2, _⟩
      · exact ⟨_, v, w, C, g, h1, .inl rfl, by rw [hds]; exact h⟩
      · exact ⟨_, v, w', C, g, h1, .inl rfl, by rw [hds]; exact h.ext h2⟩
    | some d =>
      obtain ⟨d1, d2⟩ := hdst d hds
      rw [hds] at hp
      simp only [putResM, Option.some.injEq] at hp
      subst hp
      obtain ⟨v, w', C', h1, _, h3⟩ := hpo.st h d1 d2
      exact ⟨_, v, w', C', g, h1, .inl rfl, by rw [hds]; exact h3⟩
  · have hnk : pureK o.op = false := by rw [ho]; simp [pureK, hc]
    rw [hnk] at hj
    simp only [ho, hc, Bool.false_eq_true, if_false] at hj
    split at hj
    · rename_i sg hsg
      obtain ⟨hS, hD⟩ := hSg f sg hsg
      split at hj
      · rename_i hcond
        obtain ⟨hty, hok⟩ := hcond
        split at hj
        · rename_i pss hpss
          cases hj
          rw [hS] at hks
          cases hks
          have hl := argsQ_len hpss
          have hl0 : c.args.toList.length = c.args.size := by simp
          rw [List.take_of_length_le (by rw [List.length_map]; omega)] at has
          have hsa : c.args.toList.all sm1 = true := by
            rw [ho] at hso
            simp only [Op.operands, Call.operands, Array.all_append, Bool.and_eq_true] at hso
            simpa using hso.2
          obtain ⟨l1, l2, l3, harg⟩ := argsQ_sound hi hsa has hpss
          obtain ⟨⟨fn, b, hf, hbd, hname⟩, hD⟩ := hD
          have hrun : (execOp a.eval o).run V.P w = .ok (.enter f (c.args.toList.map a.eval).toArray) w := by
            have e1 : c.args.map a.eval = (c.args.toList.map a.eval).toArray := by apply Array.ext'; simp
            simp only [execOp, ho, resolve, hc]
            have e2 : a.eval (.func f) = .func (.func f) #[] #[] := rfl
            simp [e2, Deferred.ofValue, invoke, callFunc, hf, hname, hbd, e1]
          unfold Oper.wp
          rw [hrun, Oper.upon_enter]
          refine (hD w C.G (fun i => okB C (pss.getD i [])) (c.args.toList.map a.eval) as (by simpa using l2) l1 (fun b hb => (h.frz b hb).1) (fun i b hb => h.ok_lt hb) ?_ rs outs hF).mono ?_
          · intro i x v pm ty q1 q2 q3 q4
            rw [List.getElem?_map, Option.map_eq_some_iff] at q2
            obtain ⟨y, hy, rfl⟩ := q2
            exact harg i x y pm ty q1 hy q3 (by rw [← hty]; exact q4)
          · rintro e w' ⟨vs, C', rfl, hdone⟩
            obtain ⟨C2, g', h2⟩ := call_put (o := o) h hdst (fun b hb => hb) (fun i b hb => hb) hdone hok h8 hp
            exact hK _ _ ⟨C2, g', h2, by rw [put_size]; exact hsz, by rw [put_defers]; exact hdf⟩
        · cases hj
      · cases hj
    · cases hj
end
end Go.Ev

/- Results that may come in any order: the frame behind them. -/
namespace Go.Ev

theorem hit_disj {d d' s : Nat} (h1 : d < 1000) (h2 : d' < 1000) (h : hit d s = true) (h' : hit d' s = true) : d = d' := by
  unfold hit isCix cix at h h'
  simp only [Bool.or_eq_true, beq_iff_eq, Bool.and_eq_true, decide_eq_true_iff] at h h'
  omega

def patch (f : Nat → Option X) (φ : Fr) : Fr := fun s => match f s with
  | some x => x
  | none => φ s

theorem patch_patch (f g : Nat → Option X) (φ : Fr) : patch f (patch g φ) = patch (fun s => match f s with | some x => some x | none => g s) φ := by
  funext s
  cases e : f s <;> simp [patch, e]

theorem upd_patch (t : Nat) (x : X) (φ : Fr) : upd φ t x = patch (fun s => if s = t then some x else none) φ := by
  funext s
  unfold upd patch
  by_cases e : s = t <;> simp [e]

theorem putComps_patch (t : Nat) : ∀ (rs : List X) (i : Nat), ∃ f, (∀ φ, putComps t i rs φ = patch f φ) ∧ ∀ s, f s ≠ none → ∃ k, k < rs.length ∧ s = cix t (i + k)
  | [], i => ⟨fun _ => none, fun φ => rfl, by simp⟩
  | x :: rs, i => by
    obtain ⟨f, h1, h2⟩ := putComps_patch t rs (i + 1)
    refine ⟨_, fun φ => by rw [putComps, h1, upd_patch, patch_patch], ?_⟩
    intro s hs
    split at hs
    · rename_i y hy
      obtain ⟨k, hk, e⟩ := h2 s (by rw [hy]; simp)
      exact ⟨k + 1, by simpa using hk, by rw [e]; congr 1; omega⟩
    · split at hs
      · rename_i e; exact ⟨0, by simp, e⟩
      · exact (hs rfl).elim

theorem putRes_patch (dst : Option Tmp) (rs : List X) (h8 : rs.length ≤ 8) : ∃ f, (∀ φ, putRes dst rs φ = patch f φ) ∧ ∀ s, f s ≠ none → ∃ d, dst = some d ∧ hit d s = true := by
  cases dst with
  | none => exact ⟨fun _ => none, fun φ => rfl, by simp⟩
  | some d =>
    have one : ∀ x : X, ∃ f, (∀ φ, upd φ d x = patch f φ) ∧ ∀ s, f s ≠ none → ∃ d', some d = some d' ∧ hit d' s = true := fun x =>
      ⟨_, fun φ => upd_patch d x φ, fun s hs => by
        by_cases e : s = d
        · exact ⟨d, rfl, by rw [e]; exact hit_self d⟩
        · simp [e] at hs⟩
    match rs with
    | [] => exact one .u
    | [r] => exact one r
    | r1 :: r2 :: rs =>
      obtain ⟨f, h1, h2⟩ := putComps_patch d (r1 :: r2 :: rs) 0
      refine ⟨_, fun φ => by rw [putRes, h1, upd_patch, patch_patch] <;> simp, ?_⟩
      intro s hs
      refine ⟨d, rfl, ?_⟩
      split at hs
      · rename_i y hy
        by_cases e : s = d
        · rw [e]; exact hit_self d
        · simp [e] at hy
      · obtain ⟨k, hk, e⟩ := h2 s hs
        rw [e]
        unfold hit isCix cix
        simp only [Bool.or_eq_true, beq_iff_eq, Bool.and_eq_true, decide_eq_true_iff]
        omega

theorem Le.refl (φ : Fr) : Le φ φ := fun _ => .inr rfl
theorem Le.trans {a b c : Fr} (h : Le a b) (k : Le b c) : Le a c := fun s => by
  rcases h s with h1 | h1
  · exact .inl h1
  · rcases k s with k1 | k1
    · exact .inl (by rw [← h1, k1])
    · exact .inr (by rw [k1, h1])

section
variable {S : Nat → Option (List PK)} {F : Nat → List X → Option (List X × List X)} {τ : List TE} {ops : Array Oper}

/-- What an operation has come to, in the frame behind all. -/
def Come (τ : List TE) (S : Nat → Option (List PK)) (F : Nat → List X → Option (List X × List X)) (ops : Array Oper) (φ : Fr) (o : Oper) : Prop := match o.guard with
  | none => ∃ rs, Yields τ S F φ o rs ∧ putRes o.dst rs φ = φ
  | some (j, want) => ∃ d b, (ops[j]?).bind (·.dst) = some d ∧ (φ d).val = some (.bool b) ∧ (b = want → ∃ rs, Yields τ S F φ o rs ∧ putRes o.dst rs φ = φ) ∧
      (b ≠ want → ∀ d', o.dst = some d' → φ d' = .u)

/-- Each of the operations is one that may go in any order. -/
def AnyOrder (τ : List TE) (S : Nat → Option (List PK)) (F : Nat → List X → Option (List X × List X)) (o : Oper) : Prop := ∀ φ φ', evOp τ S F o φ = some φ' → ∃ rs, Yields τ S F φ o rs ∧ φ' = putRes o.dst rs φ

theorem come_all : ∀ (l : List Oper) (φ0 φF : Fr), evOps τ S F ops l φ0 = some φF → (∀ o ∈ l, AnyOrder τ S F o) → (l.filterMap (·.dst)).Nodup → (∀ d ∈ l.filterMap (·.dst), d < 1000) →
    (∀ d ∈ l.filterMap (·.dst), ∀ s, hit d s = true → φ0 s = .u) → Le φ0 φF ∧ (∀ s, (∀ d ∈ l.filterMap (·.dst), hit d s = false) → φF s = φ0 s) ∧ ∀ o ∈ l, Come τ S F ops φF o
  | [], φ0, φF, h, _, _, _, _ => by
    simp only [evOps, Option.some.injEq] at h
    subst h
    exact ⟨.refl _, fun _ _ => rfl, by simp⟩
  | o :: l, φ0, φF, h, ha, hn, hd, h0 => by
    have hn' : (l.filterMap (·.dst)).Nodup := by
      simp only [List.filterMap_cons] at hn
      split at hn
      · exact hn
      · exact (List.nodup_cons.1 hn).2
    have hsub : ∀ d ∈ l.filterMap (·.dst), d ∈ (o :: l).filterMap (·.dst) := by
      intro d hd
      simp only [List.filterMap_cons]
      split
      · exact hd
      · exact List.mem_cons_of_mem _ hd
    have hown : ∀ d, o.dst = some d → d ∈ (o :: l).filterMap (·.dst) ∧ ∀ d' ∈ l.filterMap (·.dst), ∀ s, hit d s = true → hit d' s = false := by
      intro d e
      have hm : d ∈ (o :: l).filterMap (·.dst) := by simp [List.filterMap_cons, e]
      refine ⟨hm, ?_⟩
      intro d' hd' s hs
      rw [Bool.eq_false_iff]
      intro hs'
      have := hit_disj (hd d hm) (hd d' (hsub d' hd')) hs hs'
      subst this
      simp only [List.filterMap_cons, e, List.nodup_cons] at hn
      exact hn.1 hd'
    -- a step: results are put down
    have step : ∀ rs : List X, rs.length ≤ 8 → evOps τ S F ops l (putRes o.dst rs φ0) = some φF → Le φ0 φF ∧ (∀ s, (∀ d ∈ (o :: l).filterMap (·.dst), hit d s = false) → φF s = φ0 s) ∧ (∀ o ∈ l, Come τ S F ops φF o) ∧ putRes o.dst rs φF = φF := by
      intro rs h8 he
      obtain ⟨f, hf1, hf2⟩ := putRes_patch o.dst rs h8
      have hle0 : Le φ0 (putRes o.dst rs φ0) := by
        intro s
        rw [hf1]
        unfold patch
        split
        · rename_i x hx
          obtain ⟨d, e, hh⟩ := hf2 s (by rw [hx]; simp)
          exact .inl (h0 d (hown d e).1 s hh)
        · exact .inr rfl
      obtain ⟨r1, r2, r3⟩ := come_all l _ φF he (fun o' ho' => ha o' (List.mem_cons_of_mem _ ho')) hn' (fun d hd' => hd d (hsub d hd')) (by
        intro d' hd' s hs
        rw [hf1]
        unfold patch
        split
        · rename_i x hx
          obtain ⟨d, e, hh⟩ := hf2 s (by rw [hx]; simp)
          have := (hown d e).2 d' hd' s hh
          rw [hs] at this; cases this
        · exact h0 d' (hsub d' hd') s hs)
      refine ⟨hle0.trans r1, ?_, r3, ?_⟩
      · intro s hs
        rw [r2 s fun d hd' => hs d (hsub d hd'), hf1]
        unfold patch
        split
        · rename_i x hx
          obtain ⟨d, e, hh⟩ := hf2 s (by rw [hx]; simp)
          have := hs d (hown d e).1
          rw [hh] at this; cases this
        · rfl
      · rw [hf1 φF]
        funext s
        unfold patch
        split
        · rename_i x hx
          obtain ⟨d, e, hh⟩ := hf2 s (by rw [hx]; simp)
          rw [r2 s fun d' hd' => (hown d e).2 d' hd' s hh, hf1]
          simp [patch, hx]
        · rfl
    have doit : ∀ φ1, evOp τ S F o φ0 = some φ1 → evOps τ S F ops l φ1 = some φF → Le φ0 φF ∧ (∀ s, (∀ d ∈ (o :: l).filterMap (·.dst), hit d s = false) → φF s = φ0 s) ∧ (∀ o ∈ l, Come τ S F ops φF o) ∧ ∃ rs, Yields τ S F φF o rs ∧ putRes o.dst rs φF = φF := by
      intro φ1 he hr
      obtain ⟨rs, hy, rfl⟩ := ha o (by simp) φ0 φ1 he
      obtain ⟨q1, q2, q3, q4⟩ := step rs hy.1 hr
      exact ⟨q1, q2, q3, rs, hy.le q1, q4⟩
    simp only [evOps] at h
    split at h
    · rename_i hg
      split at h
      · rename_i φ1 he
        obtain ⟨q1, q2, q3, q4⟩ := doit φ1 he h
        refine ⟨q1, q2, ?_⟩
        intro o' ho'
        rcases List.mem_cons.1 ho' with rfl | ho'
        · unfold Come; rw [hg]; exact q4
        · exact q3 o' ho'
      · cases h
    · rename_i j want hg
      split at h
      · rename_i d hj
        split at h
        · rename_i b hb
          have hbF : ∀ {ψ : Fr}, Le φ0 ψ → (ψ d).val = some (.bool b) := by
            intro ψ hle
            rw [hle.at (by intro e; rw [e] at hb; cases hb)]; exact hb
          split at h
          · rename_i hbw
            split at h
            · rename_i φ1 he
              obtain ⟨q1, q2, q3, q4⟩ := doit φ1 he h
              refine ⟨q1, q2, ?_⟩
              intro o' ho'
              rcases List.mem_cons.1 ho' with rfl | ho'
              · unfold Come; rw [hg]; exact ⟨d, b, hj, hbF q1, fun _ => q4, fun hne => absurd hbw hne⟩
              · exact q3 o' ho'
            · cases h
          · rename_i hbw
            obtain ⟨q1, q2, q3, q4⟩ := step [] (by simp) h
            refine ⟨q1, q2, ?_⟩
            intro o' ho'
            rcases List.mem_cons.1 ho' with rfl | ho'
            · unfold Come; rw [hg]
              refine ⟨d, b, hj, hbF q1, fun e => absurd e hbw, ?_⟩
              intro _ d' e'
              rw [← q4, e']
              simp [putRes, upd]
            · exact q3 o' ho'
        · cases h
      · cases h

theorem evOps_append : ∀ (l l' : List Oper) (φ φ' : Fr), evOps τ S F ops (l ++ l') φ = some φ' → ∃ φ1, evOps τ S F ops l φ = some φ1 ∧ evOps τ S F ops l' φ1 = some φ'
  | [], l', φ, φ', h => ⟨φ, rfl, h⟩
  | o :: l, l', φ, φ', h => by
    simp only [List.cons_append, evOps] at h ⊢
    split at h
    · split at h
      · exact evOps_append l l' _ φ' h
      · cases h
    · split at h
      · split at h
        · split at h
          · rename_i hb
            split at h
            · obtain ⟨φ1, h1, h2⟩ := evOps_append l l' _ φ' h
              rename_i he
              exact ⟨φ1, by rw [if_pos hb]; exact h1, h2⟩
            · cases h
          · rename_i hb
            obtain ⟨φ1, h1, h2⟩ := evOps_append l l' _ φ' h
            exact ⟨φ1, by rw [if_neg hb]; exact h1, h2⟩
        · cases h
      · cases h
end
end Go.Ev

/- Results that may come in any order: their modes. -/
namespace Go.Ev

/-- No reference to these slots. -/
def SM.free (p : Nat → Bool) : SM → Bool
  | .c _ (.at s _) => !p s
  | .c _ (.ats s _ _) => !p s
  | .c _ (.vw s) => !p s
  | .agg _ (.at s _) => !p s
  | .agg _ (.ats s _ _) => !p s
  | .agg _ (.vw s) => !p s
  | .pt s _ => !p s
  | .pa s _ _ => !p s
  | .pv _ s => !p s
  | .tup b _ => !p b
  | .clo _ caps => !caps.any p
  | _ => true

theorem SM.free_dropS {p : Nat → Bool} {t : Nat} (hp : ∀ s, hit t s = true → p s = true) {m : SM} (h : m.free p = true) : m.dropS t = m := by
  have key : ∀ s, p s = false → hit t s = false := by
    intro s hs
    rw [Bool.eq_false_iff]
    intro e
    rw [hp s e] at hs; cases hs
  cases m with
  | c m o => cases o <;> simp_all [SM.free, SM.dropS, Og.dropS]
  | agg m o => cases o <;> simp_all [SM.free, SM.dropS, Og.dropS]
  | clo f caps =>
    simp only [SM.free, Bool.not_eq_true'] at h
    have : caps.any (hit t) = false := by
      rw [List.any_eq_false] at h ⊢
      intro c hc
      have := key c (by simpa using h c hc)
      simp [this]
    simp [SM.dropS, this]
  | _ => simp_all [SM.free, SM.dropS]

/-- What a result brings. -/
def entE (dst : Option Tmp) (ms : List SM) : Mu := match dst with
  | none => []
  | some d => match ms with
    | [] => []
    | [m] => [(d, m.dropS d)]
    | ms => (d, .tup d ms.length) :: (ms.zipIdx.map fun p => (cix d p.2, p.1))

def seeM (μ0 : Mu) (Es : List Mu) (b : List Nat) : Mu := (b.flatMap fun j => Es.getD j []) ++ μ0

/-- Slots of results that are not surely there where operation i runs. -/
def othersD (dl : List (Option Tmp)) (i : Nat) (b : List Nat) : List Nat := dl.zipIdx.filterMap fun p => if p.2 == i || b.contains p.2 then none else p.1

def guardS (ops : Array Oper) (o : Oper) (μ : Mu) (b : List Nat) (ms : List SM) : Bool := match o.guard with
  | none => true
  | some (j, _) => b.contains j && ms.length == 1 && o.dst.isSome && (match (ops[j]?).bind (·.dst) with
    | some d => Nat.blt d 1000 && rdO μ (.tmp d)
    | none => false)

section
variable (τ : List TE) (Sg : Nat → Option Sig) (colsP : Pol) (n : Nat) (ops : Array Oper) (μ0 : Mu) (dl : List (Option Tmp))

def settleM : Nat → List Oper → List (List Nat) → List Mu → Option (List Mu)
  | _, [], _, Es => some Es
  | _, _ :: _, [], _ => none
  | i, o :: l, b :: bs, Es =>
    let μ := seeM μ0 Es b
    if smallO n o && b.all (fun j => Nat.blt j i) then (match judge τ Sg (colsP.cols o μ) o μ with
      | some ms =>
        let E := entE o.dst ms
        if Nat.ble ms.length 8 && List.all E (fun p => p.2.free (isHit (othersD dl i b))) && guardS ops o μ b ms then settleM (i + 1) l bs (Es ++ [E]) else none
      | none => none) else none

structure JudgedAt (EF : List Mu) (i : Nat) (o : Oper) (b : List Nat) : Prop where
  small : smallO n o = true
  lt : ∀ j ∈ b, j < i
  ex : ∃ cols ms, judge τ Sg cols o (seeM μ0 EF b) = some ms ∧ ms.length ≤ 8 ∧ EF.getD i [] = entE o.dst ms ∧ (∀ p ∈ entE o.dst ms, p.2.free (isHit (othersD dl i b)) = true) ∧ guardS ops o (seeM μ0 EF b) b ms = true
end

section
variable {τ : List TE} {Sg : Nat → Option Sig} {colsP : Pol} {n : Nat} {ops : Array Oper} {μ0 : Mu} {dl : List (Option Tmp)}

theorem seeM_pre {Es Ys : List Mu} {b : List Nat} (h : ∀ j ∈ b, j < Es.length) : seeM μ0 (Es ++ Ys) b = seeM μ0 Es b := by
  unfold seeM
  congr 1
  induction b with
  | nil => rfl
  | cons j b ih =>
    have := h j (by simp)
    simp only [List.flatMap_cons, ih fun k hk => h k (by simp [hk])]
    simp [List.getD_eq_getElem?_getD, List.getElem?_append_left this]

theorem settleM_spec : ∀ (l : List Oper) (i : Nat) (bs : List (List Nat)) (Es EF : List Mu), i = Es.length → settleM τ Sg colsP n ops μ0 dl i l bs Es = some EF →
    ∃ Ys, EF = Es ++ Ys ∧ Ys.length = l.length ∧ ∀ k o b, l[k]? = some o → bs[k]? = some b → JudgedAt τ Sg n ops μ0 dl EF (i + k) o b
  | [], i, bs, Es, EF, hi, h => by
    simp only [settleM, Option.some.injEq] at h
    exact ⟨[], by simp [h], rfl, by simp⟩
  | o :: l, i, [], Es, EF, hi, h => by simp [settleM] at h
  | o :: l, i, b :: bs, Es, EF, hi, h => by
    simp only [settleM] at h
    split at h
    · rename_i hc
      simp only [Bool.and_eq_true, List.all_eq_true, Nat.blt_eq] at hc
      split at h
      · rename_i ms hms
        split at h
        · rename_i hc2
          simp only [Bool.and_eq_true, List.all_eq_true, Nat.ble_eq] at hc2
          obtain ⟨Ys, h1, h2, h3⟩ := settleM_spec l (i + 1) bs _ EF (by simp [hi]) h
          have hpre : seeM μ0 EF b = seeM μ0 Es b := by
            rw [h1, List.append_assoc]
            exact seeM_pre fun j hj => by rw [← hi]; exact hc.2 j hj
          refine ⟨entE o.dst ms :: Ys, by rw [h1]; simp, by simp [h2], ?_⟩
          intro k o' b' hk hb
          cases k with
          | zero =>
            simp only [List.getElem?_cons_zero, Option.some.injEq] at hk hb
            subst hk; subst hb
            refine ⟨hc.1, fun j hj => hc.2 j hj, _, ms, by rw [hpre]; exact hms, hc2.1.1, ?_, fun p hp => hc2.1.2 p hp, by rw [hpre]; exact hc2.2⟩
            rw [h1, hi]
            simp [List.getD_eq_getElem?_getD]
          | succ k =>
            simp only [List.getElem?_cons_succ] at hk hb
            have := h3 k o' b' hk hb
            rw [show i + (k + 1) = i + 1 + k by omega]
            exact this
        · cases h
      · cases h
    · cases h

theorem entE_hit {dst : Option Tmp} {ms : List SM} (h8 : ms.length ≤ 8) {s : Nat} {x : SM} (h : List.lookup s (entE dst ms) = some x) : ∃ d, dst = some d ∧ hit d s = true := by
  unfold entE at h
  split at h
  · simp at h
  · rename_i d
    refine ⟨d, rfl, ?_⟩
    split at h
    · simp at h
    · rw [List.lookup_cons] at h
      split at h
      · rename_i e; simp at e; rw [e]; exact hit_self d
      · simp at h
    · rw [List.lookup_cons] at h
      split at h
      · rename_i e; simp at e; rw [e]; exact hit_self d
      · have := lookup_comps d [] ms 0 s
        simp only [List.append_nil] at this
        rw [this] at h
        split at h
        · rename_i e
          unfold hit isCix
          simp only [Bool.or_eq_true, beq_iff_eq, Bool.and_eq_true, decide_eq_true_iff]
          right
          refine ⟨e.1, ?_⟩
          have := e.2
          unfold cix at this ⊢
          omega
        · simp at h

theorem lookup_append' {α : Type} (s : Nat) : ∀ (a b : List (Nat × α)), List.lookup s (a ++ b) = match List.lookup s a with
    | some x => some x
    | none => List.lookup s b
  | [], b => rfl
  | (k, x) :: a, b => by
    simp only [List.cons_append, List.lookup_cons]
    split
    · rfl
    · exact lookup_append' s a b

theorem seeM_get {Es : List Mu} {s : Nat} {x : SM} : ∀ (b : List Nat), List.lookup s (seeM μ0 Es b) = some x → (∃ j ∈ b, List.lookup s (Es.getD j []) = some x) ∨ List.lookup s μ0 = some x
  | [], h => .inr h
  | j :: b, h => by
    unfold seeM at h
    rw [List.flatMap_cons, List.append_assoc, lookup_append'] at h
    split at h
    · rename_i y hy
      cases h
      exact .inl ⟨j, by simp, hy⟩
    · rcases seeM_get b h with ⟨j', h1, h2⟩ | h1
      · exact .inl ⟨j', by simp [h1], h2⟩
      · exact .inr h1

theorem lookup_mem {α : Type} {l : List (Nat × α)} {s : Nat} {x : α} (h : List.lookup s l = some x) : (s, x) ∈ l := by
  induction l with
  | nil => cases h
  | cons a l ih =>
    obtain ⟨k, y⟩ := a
    rw [List.lookup_cons] at h
    split at h
    · rename_i e; simp at e; cases h; simp [e]
    · exact List.mem_cons_of_mem _ (ih h)

/-- Results are put down: what their slots say. -/
theorem putResM_get {dst : Option Tmp} {ms : List SM} {μ μ' : Mu} (h : putResM dst ms μ = some μ') (s : Nat) :
    (∃ d, dst = some d ∧ hit d s = true ∧ μ'.get s = Mu.get (entE dst ms) s) ∨ ((∀ d, dst = some d → hit d s = false) ∧ μ'.get s = dst.elim (μ.get s) fun d => (μ.get s).dropS d) := by
  cases dst with
  | none =>
    cases h
    exact .inr ⟨by simp, rfl⟩
  | some d =>
    unfold putResM at h
    simp only at h
    split at h
    · cases h
      cases hs : hit d s with
      | true => exact .inl ⟨d, rfl, hs, by rw [get_clear, hs]; rfl⟩
      | false => exact .inr ⟨by rintro d' e; cases e; exact hs, by rw [get_clear, hs]; rfl⟩
    · rename_i r
      cases h
      cases hs : hit d s with
      | true =>
        refine .inl ⟨d, rfl, hs, ?_⟩
        rw [get_put, hs]
        simp only [entE, Mu.get, List.lookup_cons, List.lookup_nil]
        by_cases e : s = d
        · subst e; simp
        · have e' : (s == d) = false := by simpa using e
          simp [e, e']
      | false =>
        refine .inr ⟨by rintro d' e; cases e; exact hs, ?_⟩
        rw [get_put, hs, if_neg (by rintro rfl; rw [hit_self] at hs; cases hs)]
        rfl
    · rename_i hne1 hne2
      split at h
      · rename_i h8
        cases h
        cases hs : hit d s with
        | true =>
          refine .inl ⟨d, rfl, hs, ?_⟩
          have e : entE (some d) ms = (d, .tup d ms.length) :: (ms.zipIdx.map fun p => (cix d p.2, p.1)) := by
            unfold entE
            cases ms with
            | nil => exact (hne1 rfl).elim
            | cons m ms => cases ms with
              | nil => exact (hne2 m rfl).elim
              | cons m' ms => rfl
          rw [e]
          unfold Mu.get
          simp only [List.lookup_cons]
          cases hsd : (s == d) with
          | true => rfl
          | false =>
            simp only [lookup_append']
            cases hl : List.lookup s (ms.zipIdx.map fun p => (cix d p.2, p.1)) with
            | some y => rfl
            | none =>
              have := get_clear μ d s
              rw [hs] at this
              unfold Mu.get at this
              simpa using this
        | false =>
          refine .inr ⟨by rintro d' e; cases e; exact hs, ?_⟩
          have hne : s ≠ d := by rintro rfl; rw [hit_self] at hs; cases hs
          have e' : (s == d) = false := by simpa using hne
          have hc : List.lookup s (ms.zipIdx.map fun p => (cix d p.2, p.1)) = none := by
            have := lookup_comps d [] ms 0 s
            simp only [List.append_nil, List.lookup_nil] at this
            rw [this]
            rw [if_neg]
            rintro ⟨h1, h2⟩
            unfold hit isCix at hs
            simp only [Bool.or_eq_false_iff, Bool.and_eq_false_iff, decide_eq_false_iff_not] at hs
            unfold cix at h1 h2 hs
            omega
          have := get_clear μ d s
          rw [hs] at this
          unfold Mu.get at this ⊢
          simp only [List.lookup_cons, e', lookup_append', hc]
          simpa using this
      · cases h
end
end Go.Ev

/- A region whose order is drawn. -/
namespace Go.Ev

def nodupB : List Nat → Bool
  | [] => true
  | x :: l => !l.contains x && nodupB l

theorem nodupB_spec : ∀ {l : List Nat}, nodupB l = true → l.Nodup
  | [], _ => .nil
  | x :: l, h => by
    simp only [nodupB, Bool.and_eq_true, Bool.not_eq_true', List.contains_eq_mem, decide_eq_false_iff_not] at h
    exact List.nodup_cons.2 ⟨h.1, nodupB_spec h.2⟩

/-- What is asked of the region's own text. -/
def textOk (ops : Array Oper) (B : List (List Nat)) (m : Nat) : Bool :=
  Nat.ble m ops.size && B.length == ops.size &&
  ((List.range ops.size).all fun i => match ops[i]? with
    | none => false
    | some o => ((B.getD i []).all fun b => o.after.toList.any fun e => Region.binds .any e && (e.on == b || (B.getD e.on []).contains b)) &&
        (o.after.toList.all fun e => !Region.binds .any e || Nat.blt e.on i) &&
        ((B.getD i []).all fun b => Nat.blt b i) &&
        (Nat.blt i m || (List.range i).all (B.getD i []).contains)) &&
  nodupB (dstsOf (ops.toList.take m))

structure TextOk (ops : Array Oper) (B : List (List Nat)) (m : Nat) : Prop where
  le : m ≤ ops.size
  len : B.length = ops.size
  via : ∀ i o, ops[i]? = some o → ∀ b ∈ B.getD i [], ∃ e ∈ o.after, Region.binds .any e = true ∧ (e.on = b ∨ b ∈ B.getD e.on [])
  edge : ∀ i o, ops[i]? = some o → ∀ e ∈ o.after, Region.binds .any e = true → e.on < i
  lt : ∀ i, ∀ b ∈ B.getD i [], b < i
  tail : ∀ i, i < ops.size → m ≤ i → ∀ j, j < i → j ∈ B.getD i []
  dsts : ((ops.toList.take m).filterMap (·.dst)).Nodup

theorem mem_getD {b : Nat} {B : List (List Nat)} {i : Nat} (h : b ∈ B.getD i []) : i < B.length := by
  rw [List.getD_eq_getElem?_getD] at h
  cases e : B[i]? with
  | none => rw [e] at h; simp at h
  | some q => exact (List.getElem?_eq_some_iff.1 e).1

theorem textOk_spec {ops : Array Oper} {B : List (List Nat)} {m : Nat} (h : textOk ops B m = true) : TextOk ops B m := by
  unfold textOk at h
  simp only [Bool.and_eq_true, Nat.ble_eq, beq_iff_eq] at h
  obtain ⟨⟨⟨h1, h2⟩, h3⟩, h4⟩ := h
  rw [List.all_eq_true] at h3
  have k : ∀ i o, ops[i]? = some o → _ := fun i o ho => by
    have hi := (Array.getElem?_eq_some_iff.1 ho).1
    have := h3 i (by simpa using hi)
    rw [ho] at this
    simp only [Bool.and_eq_true] at this
    exact this
  have some_of : ∀ i, i < ops.size → ∃ o, ops[i]? = some o := fun i hi => ⟨ops[i], Array.getElem?_eq_getElem hi⟩
  refine ⟨h1, h2, ?_, ?_, ?_, ?_, nodupB_spec h4⟩
  · intro i o ho b hb
    have := (k i o ho).1.1.1
    rw [List.all_eq_true] at this
    have := this b hb
    rw [List.any_eq_true] at this
    obtain ⟨e, he, h5⟩ := this
    simp only [Bool.and_eq_true, Bool.or_eq_true, beq_iff_eq, List.contains_eq_mem, decide_eq_true_eq] at h5
    exact ⟨e, by simpa using he, h5.1, h5.2⟩
  · intro i o ho e he hb
    have := (k i o ho).1.1.2
    rw [List.all_eq_true] at this
    have := this e (by simpa using he)
    simpa [hb] using this
  · intro i b hb
    have hi := mem_getD hb
    obtain ⟨o, ho⟩ := some_of i (by omega)
    have := (k i o ho).1.2
    rw [List.all_eq_true] at this
    simpa using this b hb
  · intro i hi hm j hj
    obtain ⟨o, ho⟩ := some_of i hi
    have := (k i o ho).2
    simp only [Bool.or_eq_true, Nat.blt_eq, List.all_eq_true] at this
    rcases this with h5 | h5
    · omega
    · simpa using h5 j (by simpa using hj)

theorem arr_getD_flip {l : Array Bool} {k : Nat} (h : k < l.size) : l.getD k true = l.getD k false := by
  simp [Array.getD_eq_getD_getElem?, h]

theorem least_unlisted {l : Array Bool} : ∀ {m : Nat}, (∃ j, j < m ∧ l.getD j false = false) → ∃ j, j < m ∧ l.getD j false = false ∧ ∀ k, k < j → l.getD k false = true
  | 0, h => by obtain ⟨j, h, _⟩ := h; omega
  | m + 1, h => by
    by_cases e : ∃ j, j < m ∧ l.getD j false = false
    · obtain ⟨j, h1, h2, h3⟩ := least_unlisted e
      exact ⟨j, by omega, h2, h3⟩
    · obtain ⟨j, h1, h2⟩ := h
      have hjm : j = m := by
        rcases Nat.lt_or_ge j m with h3 | h3
        · exact (e ⟨j, h3, h2⟩).elim
        · omega
      subst hjm
      refine ⟨j, h1, h2, fun k hk => ?_⟩
      cases e1 : l.getD k false with
      | true => rfl
      | false => exact (e ⟨k, hk, e1⟩).elim

theorem filterMap_inj {α : Type} {f : α → Option Nat} : ∀ {l : List α}, (l.filterMap f).Nodup → ∀ {i j : Nat} {a b : α} {d : Nat}, l[i]? = some a → l[j]? = some b → f a = some d → f b = some d → i = j
  | [], _, i, j, a, b, d, h, _, _, _ => by simp at h
  | c :: l, hn, i, j, a, b, d, h1, h2, h3, h4 => by
    have hn' : (l.filterMap f).Nodup := by
      simp only [List.filterMap_cons] at hn
      split at hn
      · exact hn
      · exact (List.nodup_cons.1 hn).2
    have out : ∀ (x : α) (k : Nat), l[k]? = some x → f x = some d → f c = some d → False := by
      intro x k hk hx hc
      simp only [List.filterMap_cons, hc, List.nodup_cons] at hn
      exact hn.1 (List.mem_filterMap.2 ⟨x, List.mem_of_getElem? hk, hx⟩)
    cases i with
    | zero =>
      cases j with
      | zero => rfl
      | succ j =>
        simp only [List.getElem?_cons_zero, Option.some.injEq] at h1
        simp only [List.getElem?_cons_succ] at h2
        subst h1
        exact (out b j h2 h4 h3).elim
    | succ i =>
      cases j with
      | zero =>
        simp only [List.getElem?_cons_zero, Option.some.injEq] at h2
        simp only [List.getElem?_cons_succ] at h1
        subst h2
        exact (out a i h1 h3 h4).elim
      | succ j =>
        simp only [List.getElem?_cons_succ] at h1 h2
        rw [filterMap_inj hn' h1 h2 h3 h4]

theorem isHit_iff {ds : List Nat} {s : Nat} : isHit ds s = true ↔ ∃ d ∈ ds, hit d s = true := by
  unfold isHit
  rw [List.any_eq_true]
  rfl

theorem mem_others {dl : List (Option Tmp)} {i k d : Nat} {b : List Nat} (h : dl[k]? = some (some d)) (hk : k ≠ i) (hb : k ∉ b) : d ∈ othersD dl i b := by
  unfold othersD
  rw [List.mem_filterMap]
  refine ⟨(some d, k), ?_, ?_⟩
  · rw [List.mem_iff_getElem?]
    exact ⟨k, by simp [List.getElem?_zipIdx, h]⟩
  · simp [hk, hb]

section
variable {V : Env} {A : Start} {n : Nat} {S : Nat → Option (List PK)} {F : Nat → List X → Option (List X × List X)} {Sg : Nat → Option Sig} {ops : Array Oper} {μ0 : Mu}

/-- What the modes say where some are settled. -/
structure SetInv (ops : Array Oper) (m : Nat) (μ0 : Mu) (ds : List Nat) (EF : List Mu) (listed : Array Bool) (μ : Mu) : Prop where
  base : ∀ s, isHit ds s = false → μ.get s = μ0.get s
  done : ∀ j o d s, ops[j]? = some o → j < m → listed.getD j false = true → o.dst = some d → hit d s = true → μ.get s = Mu.get (EF.getD j []) s

theorem St.weakG {w : World} {μ ν : Mu} {φ : Fr} {tm : Nat → Value} {C : Cx} (h : St A w μ φ tm C) (hw : ∀ s, ν.get s = .u ∨ ν.get s = μ.get s) : St A w ν φ tm C := by
  refine { h with slot := ?_ }
  intro s
  rcases h.slot s with h1 | h1
  · exact .inl h1
  · right
    rcases hw s with e | e
    · rw [e]; trivial
    · rw [e]; exact h1

theorem get_of_lookup {μ : Mu} {s : Nat} {x : SM} (h : List.lookup s μ = some x) : μ.get s = x := by
  unfold Mu.get; rw [h]

theorem see_weak {m : Nat} {dl : List (Option Tmp)} {ds : List Nat} {B : List (List Nat)} {EF : List Mu} {listed : Array Bool} {μ : Mu} (hm : m ≤ ops.size) (hJ : ∀ i o, ops[i]? = some o → i < m → JudgedAt V.τ Sg n ops μ0 dl EF i o (B.getD i []))
    (h0 : ∀ s x, List.lookup s μ0 = some x → x.free (isHit ds) = true ∧ isHit ds s = false) (hI : SetInv ops m μ0 ds EF listed μ) {b : List Nat} (hb : ∀ j ∈ b, j < m ∧ listed.getD j false = true) (s : Nat) : (seeM μ0 EF b).get s = .u ∨ (seeM μ0 EF b).get s = μ.get s := by
  cases hl : List.lookup s (seeM μ0 EF b) with
  | none => left; unfold Mu.get; rw [hl]
  | some x =>
    right
    rw [get_of_lookup hl]
    rcases seeM_get b hl with ⟨j, hj, h1⟩ | h1
    · obtain ⟨hjm, hjl⟩ := hb j hj
      have hjs : j < ops.size := by omega
      obtain ⟨cols, ms, _, h8, hE, _, _⟩ := (hJ j _ (Array.getElem?_eq_getElem hjs) hjm).ex
      have h1' := h1
      rw [hE] at h1'
      obtain ⟨d, e, hh⟩ := entE_hit h8 h1'
      rw [hI.done j _ d s (Array.getElem?_eq_getElem hjs) hjm hjl e hh, get_of_lookup h1]
    · rw [hI.base s (h0 s x h1).2, get_of_lookup h1]

theorem drop_same {p : Nat → Bool} {t s : Nat} {μ : Mu} (hp : ∀ s, hit t s = true → p s = true) (h : ∀ x, List.lookup s μ = some x → x.free p = true) : (μ.get s).dropS t = μ.get s := by
  cases hl : List.lookup s μ with
  | none => unfold Mu.get; rw [hl]; rfl
  | some x => rw [get_of_lookup hl]; exact SM.free_dropS hp (h x hl)

/-- One more is settled. -/
theorem SetInv.put {m : Nat} {dl : List (Option Tmp)} {B : List (List Nat)} {EF : List Mu} {listed : Array Bool} {μ μ' : Mu} (hok : TextOk ops B m) (hn : n ≤ 1000) (hdl : dl = (ops.toList.take m).map (·.dst))
    (hJ : ∀ i o, ops[i]? = some o → i < m → JudgedAt V.τ Sg n ops μ0 dl EF i o (B.getD i []))
    (h0 : ∀ s x, List.lookup s μ0 = some x → x.free (isHit (dstsOf (ops.toList.take m))) = true ∧ isHit (dstsOf (ops.toList.take m)) s = false) (hdown : ∀ i, listed.getD i false = true → ∀ b ∈ B.getD i [], listed.getD b false = true)
    (hI : SetInv ops m μ0 (dstsOf (ops.toList.take m)) EF listed μ) {i : Nat} {o : Oper} (ho : ops[i]? = some o) (him : i < m) (hu : listed.getD i false = false) (hg : ∀ s, (∃ d, o.dst = some d ∧ hit d s = true ∧ μ'.get s = Mu.get (EF.getD i []) s) ∨ ((∀ d, o.dst = some d → hit d s = false) ∧ μ'.get s = o.dst.elim (μ.get s) fun d => (μ.get s).dropS d)) :
    SetInv ops m μ0 (dstsOf (ops.toList.take m)) EF (listed.setIfInBounds i true) μ' := by
  have hat : ∀ j oj, ops[j]? = some oj → j < m → (ops.toList.take m)[j]? = some oj := by
    intro j oj h1 h2
    rw [List.getElem?_take, if_pos h2]
    simpa using h1
  have hmem : ∀ j oj d, ops[j]? = some oj → j < m → oj.dst = some d → d ∈ dstsOf (ops.toList.take m) := by
    intro j oj d h1 h2 h3
    exact List.mem_filterMap.2 ⟨oj, List.mem_of_getElem? (hat j oj h1 h2), h3⟩
  have hsm : ∀ j oj d, ops[j]? = some oj → j < m → oj.dst = some d → d < 1000 := by
    intro j oj d h1 h2 h3
    have := (hJ j oj h1 h2).small
    unfold smallO at this
    simp only [Bool.and_eq_true] at this
    have := this.1.2
    rw [h3] at this
    have : Nat.lt d n := by simpa [Nat.blt_eq] using this
    exact Nat.lt_of_lt_of_le this hn
  refine ⟨?_, ?_⟩
  · intro s hs
    rcases hg s with ⟨d, e, hh, _⟩ | ⟨_, h2⟩
    · have : isHit (dstsOf (ops.toList.take m)) s = true := isHit_iff.2 ⟨d, hmem i o d ho him e, hh⟩
      rw [hs] at this; cases this
    · rw [h2]
      cases e : o.dst with
      | none => exact hI.base s hs
      | some d =>
        simp only [Option.elim]
        rw [hI.base s hs]
        exact drop_same (p := isHit (dstsOf (ops.toList.take m))) (fun s' hs' => isHit_iff.2 ⟨d, hmem i o d ho him e, hs'⟩) fun x hx => (h0 s x hx).1
  · intro j oj dj s hj hjm hjl hdj hh
    by_cases e : j = i
    · subst e
      rw [ho] at hj; cases hj
      rcases hg s with ⟨d, e, _, h2⟩ | ⟨h1, _⟩
      · exact h2
      · have := h1 dj hdj
        rw [hh] at this; cases this
    · rw [getD_set_ne false (fun e' => e e'.symm)] at hjl
      have hold := hI.done j oj dj s hj hjm hjl hdj hh
      have hnb : i ∉ B.getD j [] := by
        intro hb
        have := hdown j hjl i hb
        rw [hu] at this; cases this
      rcases hg s with ⟨d, e2, hh2, _⟩ | ⟨h1, h2⟩
      · exfalso
        have : dj = d := hit_disj (hsm j oj dj hj hjm hdj) (hsm i o d ho him e2) hh hh2
        subst this
        exact e (filterMap_inj (f := (·.dst)) hok.dsts (hat j oj hj hjm) (hat i o ho him) hdj e2)
      · rw [h2]
        cases e2 : o.dst with
        | none => exact hold
        | some d =>
          simp only [Option.elim]
          rw [hold]
          obtain ⟨cols, ms, _, h8, hE, hfree, _⟩ := (hJ j oj hj hjm).ex
          refine drop_same (p := isHit (othersD dl j (B.getD j []))) (fun s' hs' => isHit_iff.2 ⟨d, ?_, hs'⟩) fun x hx => ?_
          · refine mem_others (k := i) ?_ (fun e' => e e'.symm) hnb
            rw [hdl, List.getElem?_map, hat i o ho him]
            simp [e2]
          · rw [hE] at hx
            exact hfree _ (lookup_mem hx)
end
end Go.Ev


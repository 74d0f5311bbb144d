/- What a Go function does, reckoned in plain data, and that it does so: part 4. -/
import Derived.Orders
import Derived.Test.YtfgaikcoodagiaaEv3
set_option linter.all false
/- The state behind a call that wrote what a slot owns. -/
namespace Go.Ev

/-- Steps that lead to the cells, or below them. -/
def okQ (n : Nat) : List (Nat × Nat) → Bool
  | [] => true
  | (_, c) :: _ => decide (c < n)

/-- What is lent of a slot with n cells. -/
def lentP (C : Cx) (s n : Nat) : Nat → Option Ow := fun b => (lentN C ⟨s, []⟩ b).filter fun o => okQ n o.p.st

theorem lentP_some {C : Cx} {s n b : Nat} {o : Ow} (h : lentP C s n b = some o) : ∃ o0 q, C.own b = some o0 ∧ o0.p = (⟨s, []⟩ : Pl).ext q ∧ o = { o0 with p := ⟨0, q⟩ } ∧ okQ n q = true := by
  unfold lentP at h
  rw [Option.filter_eq_some_iff] at h
  obtain ⟨o0, q, h1, h2, rfl⟩ := lentN_some h.1
  exact ⟨o0, q, h1, h2, rfl, h.2⟩

theorem lentP_of {C : Cx} {s n b off c z : Nat} {q : List (Nat × Nat)} (h : C.own b = some ⟨⟨s, q⟩, off, c, z⟩) (hq : okQ n q = true) : lentP C s n b = some ⟨⟨0, q⟩, off, c, z⟩ := by
  have h1 : lentN C ⟨s, []⟩ b = some ⟨⟨0, q⟩, off, c, z⟩ := lentN_of (p := ⟨s, []⟩) (q := q) (off := off) (c := c) (z := z) (by rw [h]; simp [Pl.ext])
  unfold lentP
  rw [h1]
  simp [Option.filter, hq]

/-- Whose the blocks of the callee's are, behind the call. -/
def relP (s n : Nat) (tg : Nat → Option Nat) (o : Ow) : Option Ow := match o.p.s with
  | 0 => if okQ n o.p.st then some { o with p := ⟨s, o.p.st⟩ } else none
  | k + 1 => (tg k).map fun t => { o with p := ⟨t, o.p.st⟩ }

def Cx.backP (C C' : Cx) (s m : Nat) (tg : Nat → Option Nat) (n : Nat) : Cx where
  own b := if (lentP C s m b).isSome || decide (n ≤ b) then (C'.own b).bind (relP s m tg) else C.own b
  G := C'.G
  PA := C.PA

theorem relP_some {s n : Nat} {tg : Nat → Option Nat} {o o' : Ow} (h : relP s n tg o = some o') : o'.off = o.off ∧ o'.cap = o.cap ∧ o'.z = o.z ∧ o'.p.st = o.p.st ∧ ((o.p.s = 0 ∧ o'.p.s = s ∧ okQ n o.p.st = true) ∨ ∃ k, o.p.s = k + 1 ∧ tg k = some o'.p.s) := by
  unfold relP at h
  split at h
  · rename_i e
    split at h
    · rename_i hq; cases h; exact ⟨rfl, rfl, rfl, rfl, .inl ⟨e, rfl, hq⟩⟩
    · cases h
  · rename_i k e
    rw [Option.map_eq_some_iff] at h
    obtain ⟨t, h1, rfl⟩ := h
    exact ⟨rfl, rfl, rfl, rfl, .inr ⟨k, e, h1⟩⟩

theorem cells_out {x : X} {p : Pl} {rows : List (List D)} {n : Nat} (hr : rowsX x = some rows) (hn : ∃ row, rows = [row] ∧ row.length = n) (hp : p.st ≠ []) (ho : ∀ i c q, p.st = (i, c) :: q → i ≠ 0 ∨ n ≤ c) {φ : Fr} (hx : φ p.s = x) : cellsAt φ p 1 = none := by
  obtain ⟨row, rfl, hl⟩ := hn
  unfold cellsAt
  rw [hx, hr]
  cases hst : p.st with
  | nil => exact (hp hst).elim
  | cons q l =>
    obtain ⟨i, c⟩ := q
    have h := ho i c l hst
    have key : ∀ (l : List (Nat × Nat)), cellsIn [row] ((i, c) :: l) 1 = none := by
      intro l
      cases i with
      | succ i => cases l <;> simp [cellsIn]
      | zero =>
        have hc : n ≤ c := h.resolve_left (by simp)
        cases l with
        | nil =>
          simp only [cellsIn, List.getElem?_cons_zero]
          rw [if_neg (by omega)]
        | cons q' l' =>
          simp only [cellsIn, List.getElem?_cons_zero]
          rw [List.getElem?_eq_none (by omega)]
    exact key l

section
variable {A : Start} {w w' : World} {μ μ' : Mu} {φ φ' : Fr} {tm : Nat → Value} {C C' : Cx} {s n : Nat} {tg : Nat → Option Nat}
variable {PA : Nat → Nat → Prop} {res : List SM} {smo : SM} {v : Value} {xo : X} {rs : List X} {vs : List Value}

theorem ptr_sub (h : St A w μ φ tm C) (hD : DoneP w w' (lentP C s n) C.G PA res smo n v xo rs vs C') (hts : ∀ k t, tg k = some t → t ≠ s) (hinj : ∀ i j t, tg i = some t → tg j = some t → i = j) (hfree : ∀ b o k t, C.own b = some o → tg k = some t → o.p.s ≠ t) :
    Sub w w' C (C.backP C' s n tg w.heap.size) ⟨s, []⟩ (fun b => (lentP C s n b).isSome = true) := by
  have hlent : ∀ b o, C.own b = some o → o.p.s = s → okQ n o.p.st = true → (lentP C s n b).isSome = true := by
    intro b o ho hs hq
    obtain ⟨⟨os, ost⟩, off, cap, z⟩ := o
    simp only at hs hq
    subst hs
    rw [lentP_of ho hq]; rfl
  have hkeep : ∀ b o, C.own b = some o → ¬ (lentP C s n b).isSome = true → (C.backP C' s n tg w.heap.size).own b = some o := by
    intro b o ho hn
    have := (h.own b o ho).1
    simp only [Cx.backP]
    rw [if_neg]
    · exact ho
    · simp only [Bool.or_eq_true, decide_eq_true_eq, not_or]
      exact ⟨hn, by omega⟩
  have hcase : ∀ b o, (C.backP C' s n tg w.heap.size).own b = some o → (C.own b = some o ∧ ¬ (lentP C s n b).isSome = true ∧ b < w.heap.size) ∨ (((lentP C s n b).isSome = true ∨ w.heap.size ≤ b) ∧ ∃ o1, C'.own b = some o1 ∧ relP s n tg o1 = some o) := by
    intro b o ho
    simp only [Cx.backP] at ho
    split at ho
    · rename_i hc
      right
      simp only [Bool.or_eq_true, decide_eq_true_eq] at hc
      rw [Option.bind_eq_some_iff] at ho
      obtain ⟨o1, h1, h2⟩ := ho
      exact ⟨hc, o1, h1, h2⟩
    · rename_i hc
      simp only [Bool.or_eq_true, decide_eq_true_eq, not_or] at hc
      exact .inl ⟨ho, hc.1, by omega⟩
  have hnone : ∀ b, ¬ (lentP C s n b).isSome = true → lentP C s n b = none := by
    intro b hn
    cases e : lentP C s n b with
    | none => rfl
    | some y => rw [e] at hn; exact (hn rfl).elim
  have hsome : ∀ b, lentP C s n b ≠ none → (lentP C s n b).isSome = true := by
    intro b hn
    cases e : lentP C s n b with
    | none => exact (hn e).elim
    | some y => rfl
  refine ⟨?_, hD.size, ?_, hD.calm, hkeep, ?_, ?_, ?_, ?_, hD.keep, rfl, ?_⟩
  · intro b hb
    obtain ⟨o, ho⟩ := Option.isSome_iff_exists.1 hb
    obtain ⟨o0, q, h1, h2, _⟩ := lentP_some ho
    exact ⟨o0, q, h1, h2⟩
  · intro b hb hn
    exact hD.same b hb (hnone b hn)
  · intro b o ho
    rcases hcase b o ho with ⟨h1, h2, _⟩ | ⟨h1, _⟩
    · exact .inl ⟨h1, h2⟩
    · exact .inr h1
  · intro b o ho
    rcases hcase b o ho with ⟨h1, h2, h3⟩ | ⟨h1, o1, h2, _⟩
    · refine ⟨Nat.lt_of_lt_of_le h3 hD.size, ?_⟩
      intro hg
      rcases hD.frz b hg with hg | ⟨hg | hg, _⟩
      · exact (h.own b o h1).2.1 hg
      · exact h2 (hsome b hg)
      · omega
    · obtain ⟨_, k2, k3, _⟩ := hD.own b o1 h2
      exact ⟨k2, k3⟩
  · intro b b' o o' h1 h2 e
    rcases hcase b o h1 with ⟨a1, a2, a3⟩ | ⟨a1, o1, a2, a4⟩ <;> rcases hcase b' o' h2 with ⟨b1, b2, b3⟩ | ⟨b1, o2, b2, b4⟩
    · exact h.inj b b' o o' a1 b1 e
    · exfalso
      obtain ⟨_, _, _, q4, q5⟩ := relP_some b4
      rcases q5 with ⟨_, q6, q7⟩ | ⟨k, _, q6⟩
      · exact a2 (hlent b o a1 (by rw [e]; exact q6) (by rw [e, q4]; exact q7))
      · exact hfree b o k _ a1 q6 (by rw [e])
    · exfalso
      obtain ⟨_, _, _, q4, q5⟩ := relP_some a4
      rcases q5 with ⟨_, q6, q7⟩ | ⟨k, _, q6⟩
      · exact b2 (hlent b' o' b1 (by rw [← e]; exact q6) (by rw [← e, q4]; exact q7))
      · exact hfree b' o' k _ b1 q6 (by rw [e])
    · refine hD.inj b b' o1 o2 a2 b2 ?_
      obtain ⟨_, _, _, p4, p5⟩ := relP_some a4
      obtain ⟨_, _, _, q4, q5⟩ := relP_some b4
      have hst : o1.p.st = o2.p.st := by rw [← p4, ← q4, e]
      have hss : o1.p.s = o2.p.s := by
        rcases p5 with ⟨p6, p7, _⟩ | ⟨k, p6, p7⟩ <;> rcases q5 with ⟨q6, q7, _⟩ | ⟨k', q6, q7⟩
        · rw [p6, q6]
        · exact (hts k' _ q7 (by rw [← e]; exact p7)).elim
        · exact (hts k _ p7 (by rw [e]; exact q7)).elim
        · rw [e] at p7
          rw [p6, q6, hinj k k' _ p7 q7]
      cases hp1 : o1.p; cases hp2 : o2.p
      rw [hp1] at hst hss
      rw [hp2] at hst hss
      simp only at hst hss
      rw [hst, hss]
  · intro b hb
    rcases hD.frz b hb with hg | ⟨hg | hg, h3⟩
    · exact .inl hg
    · exact .inr ⟨.inl (hsome b hg), h3⟩
    · exact .inr ⟨.inr hg, h3⟩
  · intro b o ho
    rcases hcase b o ho with ⟨h1, h2, h3⟩ | ⟨h1, o1, h2, h4⟩
    · obtain ⟨arr, ty, k1, k2⟩ := h.oko b o h1
      refine ⟨arr, ty, ?_, k2⟩
      rw [hD.same b h3 (hnone b h2)]
      exact k1
    · obtain ⟨p1, p2, p3, _⟩ := relP_some h4
      rw [p1, p2, p3]
      exact hD.oko b o1 h2

theorem backP_own0 (hD : DoneP w w' (lentP C s n) C.G PA res smo n v xo rs vs C') {b off c z : Nat} {q : List (Nat × Nat)} (hb : C'.own b = some ⟨⟨0, q⟩, off, c, z⟩) (hq : okQ n q = true) : (C.backP C' s n tg w.heap.size).own b = some ⟨⟨s, q⟩, off, c, z⟩ := by
  simp only [Cx.backP]
  rw [if_pos]
  · rw [hb]; simp [relP, hq]
  · simp only [Bool.or_eq_true, decide_eq_true_eq]
    rcases (hD.own b _ hb).1 with h1 | h1
    · left
      cases e : lentP C s n b with
      | none => exact (h1 e).elim
      | some y => rfl
    · exact .inr h1

theorem backP_ownk (hD : DoneP w w' (lentP C s n) C.G PA res smo n v xo rs vs C') {b off c z k t : Nat} {q : List (Nat × Nat)} (ht : tg k = some t) (hb : C'.own b = some ⟨⟨k + 1, q⟩, off, c, z⟩) : (C.backP C' s n tg w.heap.size).own b = some ⟨⟨t, q⟩, off, c, z⟩ := by
  simp only [Cx.backP]
  rw [if_pos]
  · rw [hb]; simp [relP, ht]
  · simp only [Bool.or_eq_true, decide_eq_true_eq]
    rcases (hD.own b _ hb).1 with h1 | h1
    · left
      cases e : lentP C s n b with
      | none => exact (h1 e).elim
      | some y => rfl
    · exact .inr h1

/-- What the callee may read, the caller may. -/
theorem backP_ok (h : St A w μ φ tm C) (hsub : Sub w w' C (C.backP C' s n tg w.heap.size) ⟨s, []⟩ (fun b => (lentP C s n b).isSome = true)) (hD : DoneP w w' (lentP C s n) C.G PA res smo n v xo rs vs C') {pss : List (List Pv)} (hPA : ∀ i b, PA i b → okB C (pss.getD i []) b)
    (hk : ∀ q ∈ pss, (killD [s] q).isSome = true) {ps ps' : List Pv} (hf : substQ pss ps = some ps') {b : Nat} (hb : okB C' ps b) : okB (C.backP C' s n tg w.heap.size) ps' b := by
  unfold substQ at hf
  split at hf
  · cases hf
  · rename_i hnl
    cases hf
    rcases hb with hb | ⟨p, hp, hb⟩
    · exact .inl hb
    · cases p with
      | lab l => exfalso; apply hnl; rw [List.any_eq_true]; exact ⟨_, hp, rfl⟩
      | arg i =>
        have hb' : PA i b := by rw [← hD.pa]; exact hb
        have h1 := hPA i b hb'
        have hkk : ∃ q, killD (⟨s, []⟩ : Pl).lab (pss.getD i []) = some q ∧ q = pss.getD i [] := by
          have : (killD [s] (pss.getD i [])).isSome = true := by
            by_cases hj : i < pss.length
            · have e : pss.getD i [] = pss[i] := by simp [List.getD_eq_getElem?_getD, hj]
              rw [e]; exact hk _ (List.getElem_mem hj)
            · have e : pss.getD i [] = [] := by simp [List.getD_eq_getElem?_getD]; rw [List.getElem?_eq_none (by omega)]; rfl
              rw [e]; simp [killD]
          obtain ⟨q, hq⟩ := Option.isSome_iff_exists.1 this
          refine ⟨q, by simpa [Pl.lab] using hq, ?_⟩
          unfold killD at hq
          split at hq
          · cases hq
          · exact (Option.some.inj hq).symm
        obtain ⟨q, hq1, hq2⟩ := hkk
        have h2 := (hsub.ok h hq1 h1).1
        rw [hq2] at h2
        exact okB_mono (fun q hq => List.mem_flatMap.2 ⟨_, hp, hq⟩) h2

/-- The state behind the call. -/
theorem St.ptr_back (h : St A w μ φ tm C) (hD : DoneP w w' (lentP C s n) C.G PA res smo n v xo rs vs C') (hts : ∀ k t, tg k = some t → t ≠ s) (hinj : ∀ i j t, tg i = some t → tg j = some t → i = j) (hfree : ∀ b o k t, C.own b = some o → tg k = some t → o.p.s ≠ t)
    (hroot : ∀ b off c z, C.own b = some ⟨⟨s, []⟩, off, c, z⟩ → (C.backP C' s n tg w.heap.size).own b = some ⟨⟨s, []⟩, off, c, z⟩) (hgam : μ.get gam = .u) (hnog : ∀ s, (μ.get s).noG = true) {ds ds' : List D} (hs0 : φ s = .box ds) (hl0 : ds.length = n) (hl1 : ds'.length = n) (hφ : φ' = upd φ s (.box ds'))
    (hrg : ∀ r ∈ A.rg, r.i = s → ∀ o, C.own r.b = some o → v = .pointer (some ⟨r.b, r.off, none⟩))
    (hslot : ∀ s', φ' s' = .u ∨ Claim w' (C.backP C' s n tg w.heap.size) φ' tm s' (μ'.get s') ∨ (s' ≠ s ∧ ∃ f : SM → SM, (∀ sm, ClaimX w' (C.backP C' s n tg w.heap.size) φ' tm s' (φ' s') (tm s') sm → ClaimX w' (C.backP C' s n tg w.heap.size) φ' tm s' (φ' s') (tm s') (f sm)) ∧ μ'.get s' = f (finSM [s] 0 n ((μ.get s').map (killD [s]))))) :
    St A w' μ' φ' tm (C.backP C' s n tg w.heap.size) := by
  have hs := ptr_sub (tg := tg) h hD hts hinj hfree
  have hlab : (⟨s, []⟩ : Pl).lab = [s] := rfl
  have hvok : ∀ ps ps', killD [s] ps = some ps' → ∀ b', okB C ps b' → okB (C.backP C' s n tg w.heap.size) ps' b' ∧ w'.heap[b']? = w.heap[b']? := fun ps ps' hf b' hb' => hs.ok h (by rw [hlab]; exact hf) hb'
  have hdata : ∀ p : Pl, isPre p.lab [s] = false → under [s] 0 n p.lab = false → dataAt φ' p = dataAt φ p := by
    intro p g1 g2
    subst hφ
    by_cases e : p.s = s
    · have hpne : p.st ≠ [] := by
        intro e'
        have : isPre p.lab [s] = true := by rw [isPre_iff, Pl.lab, e', e]; simp
        rw [this] at g1; cases g1
      have ho : ∀ i c q, p.st = (i, c) :: q → i ≠ 0 ∨ n ≤ c := by
        intro i c q hst
        right
        apply Classical.byContradiction
        intro hlt
        refine under_false g2 (k := c) (by omega) ?_
        rw [Pl.lab, hst, e]
        simp
      have h1 := cells_out (x := .box ds') (p := p) (n := n) (rows := [ds']) rfl ⟨ds', rfl, hl1⟩ hpne ho (φ := upd φ s (.box ds')) (by rw [e]; simp [upd])
      have h2 := cells_out (x := .box ds) (p := p) (n := n) (rows := [ds]) rfl ⟨ds, rfl, hl0⟩ hpne ho (φ := φ) (by rw [e]; exact hs0)
      unfold dataAt
      split
      · rename_i e'; exact (hpne e').elim
      · rw [h1, h2]
    · exact dataAt_same (by simp [upd, e])
  refine h.subG ?_ hs ?_
  · intro r hr
    obtain ⟨g1, g2⟩ := h.rng r hr
    by_cases hb : (lentP C s n r.b).isSome = true
    · obtain ⟨o1, ho1⟩ := Option.isSome_iff_exists.1 hb
      obtain ⟨o0, q, k1, k2, k3, _⟩ := lentP_some ho1
      obtain ⟨e, ds2, q1, q2⟩ := g2 o0 k1
      have hri : r.i = s := by
        have := congrArg Pl.s k2
        rw [e] at this
        simpa [Pl.ext] using this
      have f1 := hrg r hr hri o0 k1
      have f2 : (C.backP C' s n tg w.heap.size).own r.b = some o0 := by
        rw [e] at k1
        rw [e, hri]
        rw [hri] at k1
        exact hroot r.b r.off 0 0 k1
      rw [hri, hs0] at q1
      cases q1
      have hR := hD.range r.b r.off f1
      refine ⟨?_, fun o ho => ?_⟩
      · obtain ⟨a1, t1, a2, p1, p2, p3, p4⟩ := g1
        obtain ⟨b1, t2, b2, c1, c2, c3, c4⟩ := hR
        rw [p2] at c1
        cases c1
        refine ⟨a1, t1, b2, p1, c2, by rw [c3, p3], fun i hi => ?_⟩
        rw [c4 i (by omega), p4 i hi]
      · rw [f2] at ho
        cases ho
        subst hφ
        exact ⟨e, ds', by rw [hri]; simp [upd], by omega⟩
    · have hlt := g1.lt
      refine ⟨g1.ext (hs.same r.b hlt hb), fun o ho => ?_⟩
      rcases hs.own r.b o ho with ⟨h1, _⟩ | h1 | h1
      · obtain ⟨e, ds2, q1, q2⟩ := g2 o h1
        have hne : r.i ≠ s := by
          intro e2
          apply hb
          obtain ⟨⟨os, ost⟩, off, cap, z⟩ := o
          simp only [Ow.mk.injEq, Pl.mk.injEq] at e
          obtain ⟨⟨rfl, rfl⟩, rfl, rfl, rfl⟩ := e
          subst e2
          rw [lentP_of h1 rfl]; rfl
        refine ⟨e, ds2, ?_, q2⟩
        subst hφ
        simp [upd, hne, q1]
      · exact (hb h1).elim
      · omega
  intro s'
  rcases hslot s' with h1 | h1 | ⟨hss, f, hf, h1⟩
  · exact .inl h1
  · exact .inr h1
  · rw [h1]
    have hu : φ' s' = φ s' := by subst hφ; simp [upd, hss]
    by_cases hg : s' = gam
    · subst hg
      right
      unfold Claim
      refine hf _ ?_
      rw [hgam]
      trivial
    · rcases h.slot s' with hu' | hc
      · left; rw [hu, hu']
      · right
        unfold Claim
        refine hf _ ?_
        rw [fin_map]
        have hc2 : Claim w C φ tm s' (finSM [s] 0 n (μ.get s')) := ClaimX.fin hc
        refine hc2.keep _ hu rfl ?_ hvok ?_ ?_ ?_
        · intro b' q off' c' z' hb'
          have hn : ¬ (lentP C s n b').isSome = true := by
            intro hl
            obtain ⟨o1, ho1⟩ := Option.isSome_iff_exists.1 hl
            obtain ⟨o0, q', k1, k2, _⟩ := lentP_some ho1
            rw [hb'] at k1; cases k1
            simp only [Pl.ext, Pl.mk.injEq] at k2
            exact hss k2.1
          exact ⟨hs.keep b' _ hb' hn, hs.same b' (h.own b' _ hb').1 hn⟩
        · intro i' b' hb'
          have := (hvok [.arg i'] [.arg i'] (by simp [killD]) b' (.inr ⟨.arg i', by simp, hb'⟩)).2
          exact ⟨by rw [hs.pa]; exact hb', this⟩
        · intro b' hb'
          have := (hvok [] [] (by simp [killD]) b' (.inl hb')).2
          exact ⟨hs.keepG b' hb', this⟩
        · refine refKeep_fin _ (μ.get s') s rfl (fun s2 hs2 => by subst hφ; simp [upd, hs2]) (fun b' o ho hu => ?_) (noG_spec (hnog s')) hdata
          by_cases hl : (lentP C s n b').isSome = true
          · obtain ⟨o1, ho1⟩ := Option.isSome_iff_exists.1 hl
            obtain ⟨o0, q', k1, k2, _⟩ := lentP_some ho1
            rw [ho] at k1; cases k1
            left
            obtain ⟨⟨os, ost⟩, off, cap, z⟩ := o
            simp only [Pl.ext, List.nil_append, Pl.mk.injEq] at k2
            obtain ⟨rfl, rfl⟩ := k2
            have hq0 : ost = [] := by
              cases ost with
              | nil => rfl
              | cons y ys =>
                obtain ⟨i, c⟩ := y
                exfalso
                obtain ⟨_, _, _, _, _, hq⟩ := lentP_some ho1
                have hc : c < n := by
                  have e9 := lentP_of (n := n) ho (by
                    obtain ⟨o9, q9, g1, g2, _, g4⟩ := lentP_some ho1
                    rw [ho] at g1; cases g1
                    simp only [Pl.ext, List.nil_append, Pl.mk.injEq, true_and] at g2
                    rw [g2]; exact g4)
                  obtain ⟨o9, q9, g1, g2, _, g4⟩ := lentP_some e9
                  rw [ho] at g1; cases g1
                  simp only [Pl.ext, List.nil_append, Pl.mk.injEq, true_and] at g2
                  rw [← g2] at g4
                  simpa [okQ] using g4
                refine under_false hu (k := c) (by omega) ?_
                simp [Pl.lab]
            subst hq0
            exact hroot b' off cap z ho
          · exact .inl (hs.keep b' o ho hl)
end
end Go.Ev

/- Results behind a call: which slots they come to. -/
namespace Go.Ev

/-- What a result brings. -/
def entE (dst : Option Tmp) (ms : List SM) : Mu := match dst with
  | none => []
  | some d => match ms with
    | [] => []
    | [m] => [(d, m.dropS d)]
    | ms => (d, .tup d ms.length) :: (ms.zipIdx.map fun p => (cix d p.2, p.1))

theorem lookup_append' {α : Type} (s : Nat) : ∀ (a b : List (Nat × α)), List.lookup s (a ++ b) = match List.lookup s a with
    | some x => some x
    | none => List.lookup s b
  | [], b => rfl
  | (k, x) :: a, b => by
    simp only [List.cons_append, List.lookup_cons]
    split
    · rfl
    · exact lookup_append' s a b

/-- Results are put down: what their slots say. -/
theorem putResM_get {dst : Option Tmp} {ms : List SM} {μ μ' : Mu} (h : putResM dst ms μ = some μ') (s : Nat) :
    (∃ d, dst = some d ∧ hit d s = true ∧ μ'.get s = Mu.get (entE dst ms) s) ∨ ((∀ d, dst = some d → hit d s = false) ∧ μ'.get s = dst.elim (μ.get s) fun d => (μ.get s).dropS d) := by
  cases dst with
  | none =>
    cases h
    exact .inr ⟨by simp, rfl⟩
  | some d =>
    unfold putResM at h
    simp only at h
    split at h
    · cases h
      cases hs : hit d s with
      | true => exact .inl ⟨d, rfl, hs, by rw [get_clear, hs]; rfl⟩
      | false => exact .inr ⟨by rintro d' e; cases e; exact hs, by rw [get_clear, hs]; rfl⟩
    · rename_i r
      cases h
      cases hs : hit d s with
      | true =>
        refine .inl ⟨d, rfl, hs, ?_⟩
        rw [get_put, hs]
        simp only [entE, Mu.get, List.lookup_cons, List.lookup_nil]
        by_cases e : s = d
        · subst e; simp
        · have e' : (s == d) = false := by simpa using e
          simp [e, e']
      | false =>
        refine .inr ⟨by rintro d' e; cases e; exact hs, ?_⟩
        rw [get_put, hs, if_neg (by rintro rfl; rw [hit_self] at hs; cases hs)]
        rfl
    · rename_i hne1 hne2
      split at h
      · rename_i h8
        cases h
        cases hs : hit d s with
        | true =>
          refine .inl ⟨d, rfl, hs, ?_⟩
          have e : entE (some d) ms = (d, .tup d ms.length) :: (ms.zipIdx.map fun p => (cix d p.2, p.1)) := by
            unfold entE
            cases ms with
            | nil => exact (hne1 rfl).elim
            | cons m ms => cases ms with
              | nil => exact (hne2 m rfl).elim
              | cons m' ms => rfl
          rw [e]
          unfold Mu.get
          simp only [List.lookup_cons]
          cases hsd : (s == d) with
          | true => rfl
          | false =>
            simp only [lookup_append']
            cases hl : List.lookup s (ms.zipIdx.map fun p => (cix d p.2, p.1)) with
            | some y => rfl
            | none =>
              have := get_clear μ d s
              rw [hs] at this
              unfold Mu.get at this
              simpa using this
        | false =>
          refine .inr ⟨by rintro d' e; cases e; exact hs, ?_⟩
          have hne : s ≠ d := by rintro rfl; rw [hit_self] at hs; cases hs
          have e' : (s == d) = false := by simpa using hne
          have hc : List.lookup s (ms.zipIdx.map fun p => (cix d p.2, p.1)) = none := by
            have := lookup_comps d [] ms 0 s
            simp only [List.append_nil, List.lookup_nil] at this
            rw [this]
            rw [if_neg]
            rintro ⟨h1, h2⟩
            unfold hit isCix at hs
            simp only [Bool.or_eq_false_iff, Bool.and_eq_false_iff, decide_eq_false_iff_not] at hs
            unfold cix at h1 h2 hs
            omega
          have := get_clear μ d s
          rw [hs] at this
          unfold Mu.get at this ⊢
          simp only [List.lookup_cons, e', lookup_append', hc]
          simpa using this
      · cases h

/-- Where the blocks of a result come to lie. -/
def tgR (dst : Option Tmp) (n k : Nat) : Option Nat := match dst with
  | none => none
  | some d => if n = 1 then (if k = 0 then some d else none) else if k < n then some (cix d k) else none

theorem tgR_some {d n k t : Nat} (h : tgR (some d) n k = some t) : (n = 1 ∧ k = 0 ∧ t = d) ∨ (n ≠ 1 ∧ k < n ∧ t = cix d k) := by
  unfold tgR at h
  simp only at h
  by_cases hn : n = 1
  · rw [if_pos hn] at h
    by_cases hk : k = 0
    · rw [if_pos hk] at h; cases h; exact .inl ⟨hn, hk, rfl⟩
    · rw [if_neg hk] at h; cases h
  · rw [if_neg hn] at h
    by_cases hk : k < n
    · rw [if_pos hk] at h; cases h; exact .inr ⟨hn, hk, rfl⟩
    · rw [if_neg hk] at h; cases h

theorem tgR_hit {dst : Option Tmp} {n k t : Nat} (h8 : n ≤ 8) (h : tgR dst n k = some t) : ∃ d, dst = some d ∧ hit d t = true := by
  cases dst with
  | none => cases h
  | some d =>
    refine ⟨d, rfl, ?_⟩
    rcases tgR_some h with ⟨_, _, rfl⟩ | ⟨_, hk, rfl⟩
    · exact hit_self _
    · unfold hit isCix cix
      simp only [Bool.or_eq_true, beq_iff_eq, Bool.and_eq_true, decide_eq_true_iff]
      omega

theorem tgR_inj {dst : Option Tmp} {n i j t : Nat} (h1 : tgR dst n i = some t) (h2 : tgR dst n j = some t) : i = j := by
  cases dst with
  | none => cases h1
  | some d =>
    rcases tgR_some h1 with ⟨a1, a2, a3⟩ | ⟨a1, a2, a3⟩ <;> rcases tgR_some h2 with ⟨b1, b2, b3⟩ | ⟨b1, b2, b3⟩
    · omega
    · omega
    · omega
    · rw [a3] at b3; unfold cix at b3; omega

section
variable {A : Start} {w w' : World} {μ μ' : Mu} {φ : Fr} {tm : Nat → Value} {C : Cx} {a : Act} {g : Nat → Value} {o : Oper}

/-- The slot of a result is given up ahead of the call. -/
theorem St.clear2 (h : St A w μ φ tm C) {dst : Option Tmp} (hd : ∀ d, dst = some d → d < 1000) : ∃ C0, (∀ φ2 tm2, (∀ s, (∀ d, dst = some d → hit d s = false) → φ2 s = φ s ∧ tm2 s = tm s) → St A w (μ.clearO dst) φ2 tm2 C0) ∧ (∀ d, dst = some d → FreeAt C0 d) := by
  cases dst with
  | none =>
    refine ⟨C, fun φ2 tm2 hs => ?_, fun d hd => by cases hd⟩
    have e1 : φ2 = φ := by funext s; exact (hs s (fun d e => by cases e)).1
    have e2 : tm2 = tm := by funext s; exact (hs s (fun d e => by cases e)).2
    rw [e1, e2]
    exact h
  | some d =>
    refine ⟨C.drop d w.heap.size fun _ => none, fun φ2 tm2 hs => ?_, fun d' hd' => by cases hd'; exact freeAt_drop fun b o hb => (h.own b o hb).1⟩
    refine h.putG (hd d rfl) (Ext.refl w) (fun _ => none) (by simp) (by simp) (by simp) .none (fun s hh => (hs s fun d' e => by cases e; exact hh).1) (fun s hh => (hs s fun d' e => by cases e; exact hh).2) ?_ ?_
    · intro s hh
      show (μ.clear d).get s = _
      rw [get_clear, hh]; rfl
    · intro s hh
      right
      show Claim _ _ _ _ _ ((μ.clear d).get s)
      rw [get_clear, hh]; trivial

/-- The values of slots once results were put. -/
def putTm (a : Act) (g : Nat → Value) (dst : Option Tmp) (vs : List Value) : Nat → Value := match dst with
  | none => g
  | some d => if vs.length = 1 then g else fun s => if cix d 0 ≤ s ∧ s < cix d 8 then vs.getD (s - cix d 0) undef else g s

theorem putTm_out {dst : Option Tmp} {vs : List Value} {s : Nat} (hd : ∀ d, dst = some d → d < 1000 ∧ d < a.tmps.size) (hs : ∀ d, dst = some d → hit d s = false) : tmO (a.put dst (packV vs)).tmps (putTm a g dst vs) s = tmO a.tmps g s := by
  cases dst with
  | none => rfl
  | some d =>
    obtain ⟨h1, h2⟩ := hd d rfl
    have hh := hs d rfl
    have hne : s ≠ d := by rintro rfl; rw [hit_self] at hh; cases hh
    have hnc : ¬ (cix d 0 ≤ s ∧ s < cix d 8) := by
      rintro ⟨q1, q2⟩
      unfold hit isCix at hh
      simp only [Bool.or_eq_false_iff, Bool.and_eq_false_iff, decide_eq_false_iff_not] at hh
      rcases hh.2 with h3 | h3
      · exact h3 q1
      · exact h3 q2
    have := congrFun (tm_put (a := a) (g := putTm a g (some d) vs) (v := packV vs) h1 h2) s
    rw [this]
    simp only [hne, if_false]
    unfold tmO
    split
    · rfl
    · simp only [putTm]
      split
      · rfl
      · exact if_neg hnc

theorem putTm_at {d : Nat} {vs : List Value} {k t : Nat} {v : Value} (h1 : d < 1000) (h2 : d < a.tmps.size) (h8 : vs.length ≤ 8) (ht : tgR (some d) vs.length k = some t) (hv : vs[k]? = some v) : tmO (a.put (some d) (packV vs)).tmps (putTm a g (some d) vs) t = v := by
  have := congrFun (tm_put (a := a) (g := putTm a g (some d) vs) (v := packV vs) h1 h2) t
  rw [this]
  unfold tgR at ht
  simp only at ht
  split at ht
  · rename_i hl
    split at ht
    · rename_i hk
      cases ht
      subst hk
      simp only [if_true]
      match vs, hl, hv with
      | [v'], _, hv => simp only [List.getElem?_cons_zero, Option.some.injEq] at hv; subst hv; rfl
    · cases ht
  · rename_i hl
    split at ht
    · rename_i hk
      cases ht
      have hne : cix d k ≠ d := by unfold cix; omega
      simp only [hne, if_false]
      have hge : ¬ cix d k < 1000 := by unfold cix; omega
      unfold tmO
      rw [if_neg hge]
      simp only [putTm, hl, if_false]
      rw [if_pos ⟨by unfold cix; omega, by unfold cix; omega⟩]
      have : cix d k - cix d 0 = k := by unfold cix; omega
      rw [this]
      simp [hv]
    · cases ht

theorem putRes_out {dst : Option Tmp} {rs : List X} {φ : Fr} {s : Nat} (h8 : rs.length ≤ 8) (hs : ∀ d, dst = some d → hit d s = false) : putRes dst rs φ s = φ s := by
  cases dst with
  | none => rfl
  | some d =>
    have hh := hs d rfl
    have hne : s ≠ d := by rintro rfl; rw [hit_self] at hh; cases hh
    have hnc : ¬ (cix d 0 ≤ s ∧ s < cix d 8) := by
      rintro ⟨q1, q2⟩
      unfold hit isCix at hh
      simp only [Bool.or_eq_false_iff, Bool.and_eq_false_iff, decide_eq_false_iff_not] at hh
      rcases hh.2 with h3 | h3
      · exact h3 q1
      · exact h3 q2
    unfold putRes
    simp only
    split
    · simp [upd, hne]
    · simp [upd, hne]
    · rw [show upd (putComps d 0 rs φ) d (.tup d rs.length) s = putComps d 0 rs φ s by simp [upd, hne]]
      refine putComps_out d s rs 0 φ ?_
      rintro k hk rfl
      exact hnc ⟨by unfold cix; omega, by unfold cix; omega⟩

theorem putRes_at {d : Nat} {rs : List X} {φ : Fr} {k t : Nat} {r : X} (ht : tgR (some d) rs.length k = some t) (hr : rs[k]? = some r) : putRes (some d) rs φ t = r := by
  unfold tgR at ht
  simp only at ht
  split at ht
  · rename_i hl
    split at ht
    · rename_i hk
      cases ht
      subst hk
      match rs, hl, hr with
      | [r'], _, hr => simp only [List.getElem?_cons_zero, Option.some.injEq] at hr; subst hr; simp [putRes, upd]
    · cases ht
  · rename_i hl
    split at ht
    · rename_i hk
      cases ht
      have hne : cix d k ≠ d := by unfold cix; omega
      match rs, hl, hk, hr with
      | r1 :: r2 :: rs, hl, hk, hr =>
        simp only [putRes]
        rw [show upd (putComps d 0 (r1 :: r2 :: rs) φ) d (.tup d (r1 :: r2 :: rs).length) (cix d k) = putComps d 0 (r1 :: r2 :: rs) φ (cix d k) by simp [upd, hne]]
        have := putComps_at d (r1 :: r2 :: rs) 0 k φ r hr
        rwa [Nat.zero_add] at this
      | [r1], hl, hk, hr => exact (hl rfl).elim
    · cases ht

/-- What is said of the slots of results. -/
theorem res_slots {C2 : Cx} {φ' : Fr} {d : Nat} {rs : List X} {vs : List Value} {ms : List SM} {w' : World} (h1 : d < 1000) (h2 : d < a.tmps.size) (h8 : rs.length ≤ 8) (hl : vs.length = rs.length) (hm : ms.length = rs.length) {φ1 : Fr} (hφ : ∀ s, hit d s = true → φ' s = putRes (some d) rs φ1 s)
    (hc : ∀ k t r v m, tgR (some d) rs.length k = some t → rs[k]? = some r → vs[k]? = some v → ms[k]? = some m → ClaimX w' C2 φ' (tmO (a.put (some d) (packV vs)).tmps (putTm a g (some d) vs)) t r v m) {s : Nat} (hs : hit d s = true) :
    Claim w' C2 φ' (tmO (a.put (some d) (packV vs)).tmps (putTm a g (some d) vs)) s (Mu.get (entE (some d) ms) s) := by
  have hat : ∀ k t r v m, tgR (some d) rs.length k = some t → rs[k]? = some r → vs[k]? = some v → ms[k]? = some m → Claim w' C2 φ' (tmO (a.put (some d) (packV vs)).tmps (putTm a g (some d) vs)) t m := by
    intro k t r v m q1 q2 q3 q4
    obtain ⟨d', e1, e2⟩ := tgR_hit h8 q1
    cases e1
    unfold Claim
    rw [hφ t e2, putRes_at q1 q2, putTm_at h1 h2 (by omega) (by rw [hl]; exact q1) q3]
    exact hc k t r v m q1 q2 q3 q4
  unfold entE
  simp only
  split
  · exact trivial
  · rename_i m
    have hr1 : rs.length = 1 := by simpa using hm.symm
    by_cases e : s = d
    · subst e
      have hg : Mu.get [(s, m.dropS s)] s = m.dropS s := by simp [Mu.get]
      rw [hg]
      obtain ⟨r, hr⟩ : ∃ r, rs[0]? = some r := ⟨rs[0], List.getElem?_eq_getElem (by omega)⟩
      obtain ⟨v, hv⟩ : ∃ v, vs[0]? = some v := ⟨vs[0], List.getElem?_eq_getElem (by omega)⟩
      exact (hat 0 s r v m (by simp [tgR, hr1]) hr hv rfl).dropS
    · have e' : (s == d) = false := by simpa using e
      have hg : Mu.get [(d, m.dropS d)] s = .u := by simp [Mu.get, List.lookup_cons, e']
      rw [hg]
      trivial
  · rename_i hne1 hne2
    have hr1 : rs.length ≠ 1 := by
      intro e
      rw [e] at hm
      match ms, hm with
      | [m], _ => exact hne2 m rfl
    by_cases e : s = d
    · subst e
      have hg : Mu.get ((s, SM.tup s ms.length) :: (ms.zipIdx.map fun p => (cix s p.2, p.1))) s = .tup s ms.length := by simp [Mu.get]
      rw [hg]
      unfold Claim
      have hx : φ' s = .tup s rs.length := by
        rw [hφ s hs]
        match rs, hr1, hm with
        | r1 :: r2 :: rs, _, _ => simp [putRes, upd]
        | [r], h, _ => exact (h rfl).elim
        | [], _, hm => exact (hne1 (List.length_eq_zero_iff.1 hm)).elim
      have htm := congrFun (tm_put (a := a) (g := putTm a g (some s) vs) (v := packV vs) h1 h2) s
      rw [hx, htm, hm]
      simp only [if_true]
      have hpack : packV vs = .tuple vs.toArray := by
        match vs, hl with
        | [], _ => rfl
        | [v], hl => exact (hr1 (by simpa using hl.symm)).elim
        | v1 :: v2 :: vs, _ => rfl
      refine ⟨rfl, h8, vs.toArray, hpack, by simp [hl], ?_⟩
      intro i hi
      obtain ⟨v, hv⟩ : ∃ v, vs[i]? = some v := ⟨vs[i], List.getElem?_eq_getElem (by omega)⟩
      have := putTm_at (a := a) (g := g) h1 h2 (by omega) (vs := vs) (k := i) (t := cix s i) (v := v) (by unfold tgR; simp only; rw [if_neg (by omega), if_pos (by omega)]) hv
      rw [this]
      simp [Array.getD_eq_getD_getElem?, hv]
    · have e' : (s == d) = false := by simpa using e
      have hg : Mu.get ((d, SM.tup d ms.length) :: (ms.zipIdx.map fun p => (cix d p.2, p.1))) s = if cix d 0 ≤ s ∧ s < cix d (0 + ms.length) then (ms[s - cix d 0]?).getD .u else .u := by
        unfold Mu.get
        rw [List.lookup_cons, e']
        simp only
        have := lookup_comps d [] ms 0 s
        simp only [List.append_nil] at this
        rw [this]
        by_cases hq : cix d 0 ≤ s ∧ s < cix d (0 + ms.length)
        · rw [if_pos hq, if_pos hq]
          cases ms[s - cix d 0]? <;> rfl
        · rw [if_neg hq, if_neg hq]
          rfl
      rw [hg]
      split
      · rename_i hc2
        obtain ⟨k, hk1, hk2⟩ : ∃ k, s = cix d k ∧ k < rs.length := ⟨s - cix d 0, by unfold cix at hc2 ⊢; omega, by unfold cix at hc2 ⊢; omega⟩
        subst hk1
        have : cix d k - cix d 0 = k := by unfold cix; omega
        rw [this]
        have hmk : ms[k]? = some ms[k] := List.getElem?_eq_getElem (by omega)
        rw [hmk]
        exact hat k (cix d k) rs[k] vs[k] ms[k] (by unfold tgR; simp only; rw [if_neg hr1, if_pos hk2]) (List.getElem?_eq_getElem hk2) (List.getElem?_eq_getElem (by omega)) hmk
      · trivial
end
end Go.Ev

/- A call that writes what its first argument points to. -/
namespace Go.Ev

theorem leSL_get {a b : List M} (h : leSL a b = true) : ∀ {j : Nat} {m : M}, b[j]? = some m → ∃ m0, a[j]? = some m0 ∧ leS m0 m = true := by
  induction a generalizing b with
  | nil => cases b with
    | nil => intro j m hm; simp at hm
    | cons y ys => simp [leSL] at h
  | cons x xs ih =>
    cases b with
    | nil => simp [leSL] at h
    | cons y ys =>
      simp only [leSL, Bool.and_eq_true] at h
      intro j m hm
      cases j with
      | zero => simp only [List.getElem?_cons_zero, Option.some.injEq] at hm; subst hm; exact ⟨x, rfl, h.1⟩
      | succ j => simp only [List.getElem?_cons_succ] at hm ⊢; exact ih h.2 hm

section
variable {V : Env} {A : Start} {w w' : World} {μ μ' : Mu} {φ φ' : Fr} {C : Cx} {a : Act} {g : Nat → Value} {o : Oper} {x : X}

/-- A pointer to a whole box, as an argument. -/
structure ArgPOk (w : World) (φ : Fr) (C : Cx) (tm : Nat → Value) (ms ms0 : List M) (s : Nat) (px : List Pv) (v : Value) (ds : List D) (b off : Nat) (arr : Array Value) : Prop where
  slot : φ s = .box ds
  val : v = tm s
  ptr : v = .pointer (some ⟨b, off, none⟩)
  node : Node w C ⟨s, []⟩ ms0 [ds] b off 0 0 arr
  len0 : ms0.length = ms.length
  prov : provL ms0 = some px
  le : leSL (mapL (argF px) ms0) ms = true
  s1 : s < 1000
  kill : (killD [s] px).isSome = true

theorem argPq_sound {y : Operand} {s : Nat} {px : List Pv} {ms : List M} {t n : Nat} {τ : List TE} (h : St A w μ φ (tmO a.tmps g) C) (hs : sm1 y = true) (hx : argX τ φ (.ptr n) y t = some x) (hn : n = ms.length) (hn0 : 0 < n) (hm : argPq μ ms y = some (s, px)) :
    ∃ ms0 ds b off arr, μ.get s = .box ms0 ∧ x = .box ds ∧ ds.length = n ∧ ptX φ y = some ⟨s, [(0, 0)]⟩ ∧ μ.okG = true ∧ ArgPOk w φ C (tmO a.tmps g) ms ms0 s px (a.eval y) ds b off arr := by
  unfold argPq at hm
  split at hm
  · rename_i s0 hop
    split at hm
    · rename_i ms0 hbox
      split at hm
      · rename_i px0 hpx
        split at hm
        · rename_i hc
          simp only [Option.some.injEq, Prod.mk.injEq] at hm
          obtain ⟨rfl, rfl⟩ := hm
          simp only [Bool.and_eq_true, Nat.blt_eq, beq_iff_eq] at hc
          obtain ⟨⟨⟨⟨c1, c2⟩, c3⟩, c4⟩, c5⟩ := hc
          simp only [argX] at hx
          split at hx
          · rename_i p hp
            rw [Option.map_eq_some_iff] at hx
            obtain ⟨ds, hds, rfl⟩ := hx
            have hpt := pt_sound h hs hp
            rw [hop] at hpt
            obtain ⟨p', q1, q2, q3, st, i, c, b, off, cap, z, k1, k2, k3⟩ := hpt 0
            cases q1
            have hst : st = [] ∧ c = 0 := by
              rw [k1] at q3
              simp only [List.map_append, List.map_cons, List.map_nil] at q3
              cases st with
              | nil => simp at q3; exact ⟨rfl, q3⟩
              | cons u us => simp at q3
            obtain ⟨rfl, rfl⟩ := hst
            obtain ⟨ps, pst⟩ := p
            simp only [List.nil_append] at k1 q2 k2
            subst k1; subst q2
            -- the box
            have hphi : φ ps ≠ .u := by
              intro e
              unfold cellsAt at hds
              simp only [e, rowsX] at hds
              cases hds
            have hcl := (h.slot ps).resolve_left hphi
            unfold Claim at hcl
            rw [hbox] at hcl
            obtain ⟨dsb, b', off', arr, e1, e2, e3⟩ := hcl
            have hb := h.inj b b' _ _ k2 e3.own rfl
            subst hb
            rw [e3.own] at k2
            simp only [Option.some.injEq, Ow.mk.injEq, true_and] at k2
            obtain ⟨rfl, rfl, rfl⟩ := k2
            have hlen := e3.len 0 dsb rfl
            unfold cellsAt at hds
            simp only [e1, rowsX] at hds
            have hi0 : i = 0 ∧ ds = dsb := by
              cases i with
              | succ i => simp [cellsIn] at hds
              | zero =>
                refine ⟨rfl, ?_⟩
                simp only [cellsIn, List.getElem?_cons_zero] at hds
                split at hds
                · simp only [Option.some.injEq, List.drop_zero] at hds
                  rw [List.take_of_length_le (by omega)] at hds
                  exact hds.symm
                · cases hds
            obtain ⟨rfl, rfl⟩ := hi0
            refine ⟨ms0, ds, b, off', arr, hbox, rfl, by omega, hp, c4, ⟨e1, ?_, ?_, e3, c1, hpx, c2, c3, c5⟩⟩
            · rw [k3, e2]; simp
            · rw [k3]; simp
          · cases hx
        · cases hm
      · cases hm
    · cases hm
  · cases hm

/-- What the callee is told of the box. -/
theorem arg_box {tm : Nat → Value} {ms ms0 : List M} {s b off : Nat} {px : List Pv} {v : Value} {ds : List D} {arr : Array Value} (hA : ArgPOk w φ C tm ms ms0 s px v ds b off arr) {PA : Nat → Nat → Prop} (hPA : ∀ b, okB C px b → PA 0 b) :
    ClaimX w ⟨lentP C s ms.length, C.G, PA⟩ (fun _ => .u) (fun _ => undef) 0 (.box ds) v (.box ms) := by
  have hlen := hA.node.len 0 ds rfl
  have hl0 := hA.len0
  refine ⟨ds, b, off, arr, rfl, hA.ptr, ⟨lentP_of hA.node.own rfl, hA.node.heap, hA.node.size, ?_, .inl (by simp), ?_⟩⟩
  · intro i row hr
    rw [hA.node.len i row hr, hl0]
  · intro i j row d m q1 q2 q3
    cases i with
    | succ i => simp at q1
    | zero =>
      simp only [List.getElem?_cons_zero, Option.some.injEq] at q1
      subst q1
      have hj := (List.getElem?_eq_some_iff.1 q2).1
      obtain ⟨m1, k1, k2⟩ := leSL_get hA.le q3
      obtain ⟨m0, k3, rfl⟩ := mapL_get k1
      refine Rep.leS ?_ k2
      refine (hA.node.kids 0 j ds d m0 rfl q2 k3).move _ (argF px) ?_ ?_
      · intro b' q off' c z hb
        refine ⟨?_, rfl⟩
        have : (⟨0, []⟩ : Pl).cell 0 j = ⟨0, [(0, j)]⟩ := rfl
        rw [this]
        show lentP C s ms.length b' = some ⟨⟨0, (0, j) :: q⟩, off', c, z⟩
        exact lentP_of (q := (0, j) :: q) (by rw [hb]; simp [Pl.ext, Pl.cell]) (by simp only [okQ, decide_eq_true_eq]; omega)
      · intro ps ps' hf b' hb
        refine ⟨?_, rfl⟩
        unfold argF at hf
        split at hf
        · rename_i he
          cases hf
          have := List.isEmpty_iff.1 he
          subst this
          rcases hb with hb | ⟨_, hp, _⟩
          · exact .inl hb
          · simp at hp
        · split at hf
          · rename_i hall
            cases hf
            refine .inr ⟨.arg 0, by simp, hPA b' (okB_mono ?_ hb)⟩
            intro p hp
            rw [List.all_eq_true] at hall
            simpa using hall p hp
          · cases hf

theorem putAt_box {s : Nat} {ds ds' : List D} (hs : φ s = .box ds) (hl : ds'.length = ds.length) (h : putAt φ ⟨s, [(0, 0)]⟩ ds' = some φ') : φ' = upd φ s (.box ds') := by
  obtain ⟨rows, rs, row, x', h1, h2, h3, h4, rfl, h6, h7⟩ := put_snoc (p := ⟨s, [(0, 0)]⟩) (st := []) rfl h
  simp only at h1 h7
  rw [hs] at h1 h7
  simp only [rowsX, Option.some.injEq] at h1
  subst h1
  simp only [rowsD, Option.some.injEq] at h2
  subst h2
  simp only [List.getElem?_cons_zero, Option.some.injEq] at h3
  subst h3
  rcases h7 with ⟨cs, cs', _, rfl⟩ | ⟨z0, r0, o0, r1, q, _⟩ | ⟨cs, o0, q⟩
  · simp only [rowsX, setD, List.set_cons_zero, Option.some.injEq, List.cons.injEq, and_true, List.take_zero, List.nil_append, Nat.zero_add] at h6
    rw [List.drop_eq_nil_of_le (by omega), List.append_nil] at h6
    rw [h6]
  · cases q
  · cases q
end
end Go.Ev

/- Such a call as an operation. -/
namespace Go.Ev

theorem ioOk_ptr {sg : Sig} {ms ms' : List M} {ps : List PM} (hp : sg.pms = .ptr ms ms' :: ps) {q : SM × SM × Nat} (h : ioOk sg = some q) : q = (.box ms, .box ms', ms.length) ∧ ps.all quietB = true ∧ sg.res.all SM.resOk = true ∧ ms.length = ms'.length ∧ 0 < ms.length := by
  unfold ioOk at h
  rw [hp] at h
  simp only at h
  split at h
  · rename_i hc
    simp only [Bool.and_eq_true, beq_iff_eq, Nat.blt_eq] at hc
    exact ⟨(Option.some.inj h).symm, hc.1.1.1, hc.1.1.2, hc.1.2, hc.2⟩
  · cases h

section
variable {V : Env} {A : Start} {w w' : World} {μ μ' : Mu} {φ φ' : Fr} {C : Cx} {a : Act} {g : Nat → Value} {o : Oper} {x : X}

theorem s_callP {c : Call} {f : Nat} {S : Nat → Option (List PK)} {F : Nat → List X → Option (List X × List X)} {Sg : Nat → Option Sig} {sg : Sig} {next : Act → World → Prop} {Q : Exit → Act → World → Prop} (ho : o.op = .call c) (hcal : c.callee = .value (.func f))
    (hSg : Sg f = some sg) (hS : S f = some (sg.pms.map PM.pk)) (hD : Does V f sg (F f)) (h : St A w μ φ (tmO a.tmps g) C) (hs : c.args.toList.all sm1 = true) (hdst : ∀ d, o.dst = some d → d < 1000 ∧ d < a.tmps.size)
    (hx : callX V.τ S F f c o.dst [] φ = some φ') (hm : callPq V.τ Sg μ f c o.dst = some μ')
    (hK : ∀ v w' C2 g', St A w' μ' φ' (tmO (a.put o.dst v).tmps g') C2 → next (a.put o.dst v) w') : o.wp V.P a w next Q := by
  unfold callPq at hm
  rw [hSg] at hm
  simp only at hm
  split at hm
  · rename_i io ms ms' ps y ys t ts hio hpms hargs htys
    obtain ⟨rfl, hqu, hres, hmm, hn0⟩ := ioOk_ptr hpms hio
    split at hm
    · rename_i hty
      split at hm
      · rename_i s px pss hargm hpss
        split at hm
        · rename_i hkill
          rw [List.all_eq_true] at hkill
          rw [hargs] at hs
          simp only [List.all_cons, Bool.and_eq_true] at hs
          unfold callX at hx
          rw [hS] at hx
          simp only at hx
          have hlq := (argsQ_len0 hpss).1
          have hl0 : c.args.toList.length = c.args.size := by simp
          have hsz : c.args.size = (sg.pms.map PM.pk).length := by rw [← hl0, hargs, hpms]; simp [hlq]
          rw [hsz, List.take_length] at hx
          rw [hargs, htys, hpms] at hx
          simp only [List.map_cons, argsX] at hx
          split at hx
          · rename_i as has
            split at has
            · rename_i a0 as' ha0 has'
              cases has
              obtain ⟨C0, hclear, hfree⟩ := h.clear2 (dst := o.dst) (fun d hd => (hdst d hd).1)
              have h0 := hclear φ (tmO a.tmps g) (fun _ _ => ⟨rfl, rfl⟩)
              obtain ⟨ms0, ds, b, off, arr, hbox, rfl, hdl, hptx, hokG, hA⟩ := argPq_sound h0 hs.1 (by simpa [PM.pk] using ha0) rfl hn0 hargm
              obtain ⟨hgam, hnog⟩ := okG_spec hokG
              have hsd : ∀ d, o.dst = some d → hit d s = false := by
                intro d hd
                rw [Bool.eq_false_iff]
                intro hh
                have := hbox
                rw [hd] at this
                simp only [Mu.clearO, get_clear, hh, if_true] at this
                cases this
              split at hx
              · rename_i rs outs hF
                rw [List.append_nil] at hF
                split at hx
                · rename_i h8
                  split at hx
                  · rename_i φ1 hback
                    cases hx
                    obtain ⟨⟨fn, bd, hf, hbd, hname⟩, _, _, hDP⟩ := hD
                    have hDP := hDP _ _ _ hio
                    obtain ⟨l1, l2, l3, harg⟩ := argsQ_sound h0 hs.2 has' hpss
                    have hrun : (execOp a.eval o).run V.P w = .ok (.enter f ((y :: ys).map a.eval).toArray) w := by
                      have e1 : c.args.map a.eval = ((y :: ys).map a.eval).toArray := by apply Array.ext'; rw [← hargs]; simp
                      simp only [execOp, ho, resolve, hcal]
                      have e2 : a.eval (.func f) = .func (.func f) #[] #[] := rfl
                      simp [e2, Deferred.ofValue, invoke, callFunc, hf, hname, hbd, e1]
                    let PA : Nat → Nat → Prop := fun i b => okB C0 ((px :: pss).getD i []) b
                    have hkall : ∀ q ∈ px :: pss, (killD [s] q).isSome = true := by
                      intro q hq
                      rcases List.mem_cons.1 hq with rfl | hq
                      · exact hA.kill
                      · exact hkill q hq
                    have hkget : ∀ i, (killD (⟨s, []⟩ : Pl).lab ((px :: pss).getD i [])).isSome = true := by
                      intro i
                      show (killD [s] _).isSome = true
                      by_cases hj : i < (px :: pss).length
                      · have e : (px :: pss).getD i [] = (px :: pss)[i] := by simp [List.getD_eq_getElem?_getD, List.getElem?_eq_getElem hj]
                        rw [e]; exact hkall _ (List.getElem_mem hj)
                      · have e : (px :: pss).getD i [] = [] := by rw [List.getD_eq_getElem?_getD, List.getElem?_eq_none (by omega)]; rfl
                        rw [e]; simp [killD]
                    unfold Oper.wp
                    rw [hrun, Oper.upon_enter]
                    refine (hDP w (lentP C0 s ms.length) C0.G PA ((y :: ys).map a.eval) (.box ds :: as') (by rw [hpms]; simp [hlq]) (by rw [hpms]; simp [l1]) (fun b hb => (h0.frz b hb).1) (fun i b hb => h0.ok_lt hb) ?_ ?_ ?_ ?_ (.box ds) (a.eval y) rfl rfl (arg_box hA fun b hb => hb) rs outs hF).mono ?_
                    · intro b o hb
                      obtain ⟨o0, q, k1, k2, rfl, _⟩ := lentP_some hb
                      obtain ⟨g1, g2, _⟩ := h0.own b o0 k1
                      exact ⟨g1, g2, fun i hi => not_behind h0 (p := ⟨s, []⟩) (hkget i) hi k1 k2, rfl⟩
                    · intro b b' o o' h1 h2 e
                      obtain ⟨o1, q1, k1, k2, rfl, _⟩ := lentP_some h1
                      obtain ⟨o2, q2, j1, j2, rfl, _⟩ := lentP_some h2
                      simp only [Pl.mk.injEq, true_and] at e
                      refine h0.inj b b' o1 o2 k1 j1 ?_
                      rw [k2, j2, e]
                    · intro b o hb
                      obtain ⟨o0, q, k1, k2, rfl, _⟩ := lentP_some hb
                      exact h0.oko b o0 k1
                    · intro i x v pm ty q1 q2 q3 q4
                      rw [hpms] at q3
                      rw [hty] at q4
                      simp only [List.map_cons, List.getElem?_cons_succ] at q1 q2 q3 q4
                      rw [List.getElem?_map, Option.map_eq_some_iff] at q2
                      obtain ⟨y', hy', rfl⟩ := q2
                      exact harg i x y' pm ty q1 hy' q3 q4
                    · rintro e w' ⟨vs, xo, C', hout, rfl, hdone⟩
                      cases outs with
                      | nil => cases hout
                      | cons o0 os =>
                        simp only [List.head?_cons, Option.some.injEq] at hout
                        subst hout
                        obtain ⟨ds', b2, off2, arr2, rfl, hv2, hnode2⟩ := hdone.out
                        have hdl2 : ds'.length = ms.length := by rw [hnode2.len 0 ds' rfl, hmm]
                        rw [hA.ptr] at hv2
                        simp only [Value.pointer.injEq, Option.some.injEq, Addr.mk.injEq, and_true] at hv2
                        obtain ⟨rfl, rfl⟩ := hv2
                        simp only [backsX] at hback
                        split at hback
                        · rename_i φ3 hb1
                          have hφ := backs_val (by
                            intro k hk
                            rw [List.mem_map] at hk
                            obtain ⟨pm, hpm, rfl⟩ := hk
                            exact argsQ_val hpss pm hpm) hback
                          subst hφ
                          simp only [PM.pk, backX, hptx] at hb1
                          have hφ3 := putAt_box hA.slot (by rw [hdl2, hdl]) hb1
                          have hlv := hdone.len
                          -- the frame and the values once the results are put
                          let φ2 : Fr := fun s' => match o.dst with
                            | some d => if hit d s' then putRes o.dst rs φ1 s' else φ s'
                            | none => φ s'
                          let tm2 : Nat → Value := tmO (a.put o.dst (packV vs)).tmps (putTm a g o.dst vs)
                          have h2 : St A w (μ.clearO o.dst) φ2 tm2 C0 := by
                            refine hclear φ2 tm2 fun s' hs' => ⟨?_, putTm_out hdst hs'⟩
                            show (match o.dst with | some d => if hit d s' then putRes o.dst rs φ1 s' else φ s' | none => φ s') = φ s'
                            cases hds : o.dst with
                            | none => rfl
                            | some d => simp [hs' d hds]
                          have hφ2s : φ2 s = .box ds := by
                            show (match o.dst with | some d => if hit d s then putRes o.dst rs φ1 s else φ s | none => φ s) = _
                            cases hds : o.dst with
                            | none => exact hA.slot
                            | some d => simp only [hsd d hds, Bool.false_eq_true, if_false]; exact hA.slot
                          have hfin : putRes o.dst rs φ1 = upd φ2 s (.box ds') := by
                            funext s'
                            by_cases e : s' = s
                            · subst e
                              rw [putRes_out h8 hsd, hφ3]
                              simp [upd]
                            · simp only [upd, e, if_false]
                              show _ = (match o.dst with | some d => if hit d s' then putRes o.dst rs φ1 s' else φ s' | none => φ s')
                              cases hds : o.dst with
                              | none => simp only [putRes]; rw [hφ3]; simp [upd, e]
                              | some d =>
                                simp only
                                split
                                · rfl
                                · rename_i hh
                                  rw [putRes_out h8 (fun d' hd' => by cases hd'; simpa using hh), hφ3]
                                  simp [upd, e]
                          have htm2s : tm2 s = a.eval y := by
                            show tmO _ _ s = _
                            rw [putTm_out hdst hsd, hA.val]
                          have hts : ∀ k t, tgR o.dst rs.length k = some t → t ≠ s := by
                            rintro k t hk rfl
                            obtain ⟨d, e1, e2⟩ := tgR_hit h8 hk
                            rw [hsd d e1] at e2; cases e2
                          have hfr : ∀ b o1 k t, C0.own b = some o1 → tgR o.dst rs.length k = some t → o1.p.s ≠ t := by
                            rintro b o1 k t ho1 hk rfl
                            obtain ⟨d, e1, e2⟩ := tgR_hit h8 hk
                            have := hfree d e1 b o1 ho1
                            rw [this] at e2; cases e2
                          have hinj : ∀ i j t, tgR o.dst rs.length i = some t → tgR o.dst rs.length j = some t → i = j := fun i j t q1 q2 => tgR_inj q1 q2
                          have hsub := ptr_sub (tg := tgR o.dst rs.length) h2 hdone hts hinj hfr
                          have hok : ∀ {q q' : List Pv}, substQ (px :: pss) q = some q' → ∀ b, okB C' q b → okB (C0.backP C' s ms.length (tgR o.dst rs.length) w.heap.size) q' b := fun hq b hb => backP_ok h2 hsub hdone (fun i b hb => hb) hkall hq hb
                          have hlm : (sg.res.map (SM.map (substQ (px :: pss)))).length = rs.length := by rw [List.length_map]; exact hdone.lenr
                          have hself : ClaimX w' (C0.backP C' s ms.length (tgR o.dst rs.length) w.heap.size) (upd φ2 s (.box ds')) tm2 s (.box ds') (tm2 s) (.box (mapL (substQ (px :: pss)) ms')) := by
                            rw [htm2s]
                            have hcl0 := hdone.out
                            obtain ⟨ds9, b9, off9, arr9, e91, e92, e93⟩ := hcl0
                            cases e91
                            refine ⟨ds', b9, off9, arr9, rfl, e92, backP_own0 hdone e93.own rfl, e93.heap, e93.size, fun i row hi => by rw [mapL_len]; exact e93.len i row hi, .inl (by simp), ?_⟩
                            intro i j row d m q1 q2 q3
                            obtain ⟨m0, q4, rfl⟩ := mapL_get q3
                            have q1' := q1
                            cases i with
                            | succ i => simp at q1
                            | zero =>
                              simp only [List.getElem?_cons_zero, Option.some.injEq] at q1
                              subst q1
                              have hj := (List.getElem?_eq_some_iff.1 q2).1
                              refine (e93.kids 0 j ds' d m0 rfl q2 q4).move _ (substQ (px :: pss)) ?_ (fun ps ps' hf b hb => ⟨hok hf b hb, rfl⟩)
                              intro b' q off' c' z' hb'
                              refine ⟨?_, rfl⟩
                              have := backP_own0 (tg := tgR o.dst rs.length) hdone (q := (0, j) :: q) hb' (by simp only [okQ, decide_eq_true_eq]; omega)
                              simpa [Pl.ext, Pl.cell] using this
                          have hmain : St A w' μ' (upd φ2 s (.box ds')) tm2 (C0.backP C' s ms.length (tgR o.dst rs.length) w.heap.size) := by
                            refine h2.ptr_back hdone hts hinj hfr ?_ hgam hnog hφ2s hdl hdl2 rfl ?_ ?_
                            · intro b' off' c' z' hb'
                              have hb9 := h2.inj b' _ _ _ hb' hA.node.own rfl
                              subst hb9
                              rw [hA.node.own] at hb'
                              cases hb'
                              exact backP_own0 hdone hnode2.own rfl
                            · intro r hr hri o1 ho1
                              obtain ⟨e, _⟩ := (h2.rng r hr).2 o1 ho1
                              have hb9 := h2.inj r.b _ _ _ ho1 hA.node.own (by rw [e, hri])
                              rw [e, hb9, hA.node.own] at ho1
                              simp only [Option.some.injEq, Ow.mk.injEq] at ho1
                              rw [hA.ptr, hb9, ho1.2.1]
                            · intro s'
                              by_cases hss : s' = s
                              · subst hss
                                right; left
                                have hg : μ'.get s' = .box (mapL (substQ (px :: pss)) ms') := by
                                  have hb : (backP (μ.clearO o.dst) s' (mapL (substQ (px :: pss)) ms')).get s' = .box (mapL (substQ (px :: pss)) ms') := by unfold backP; rw [get_set]; simp
                                  rcases putResM_get hm s' with ⟨d, e1, e2, _⟩ | ⟨_, e2⟩
                                  · rw [hsd d e1] at e2; cases e2
                                  · rw [e2, hb]
                                    cases o.dst <;> rfl
                                unfold Claim
                                rw [hg, show upd φ2 s' (.box ds') s' = .box ds' by simp [upd]]
                                exact hself
                              · rcases putResM_get hm s' with ⟨d, e1, e2, e3⟩ | ⟨e1, e2⟩
                                · right; left
                                  rw [e3]
                                  obtain ⟨d1, d2⟩ := hdst d e1
                                  have htm2 : tm2 = tmO (a.put (some d) (packV vs)).tmps (putTm a g (some d) vs) := by show tmO (a.put o.dst _).tmps (putTm a g o.dst vs) = _; rw [e1]
                                  rw [e1, htm2]
                                  refine res_slots (φ1 := φ1) d1 d2 h8 hlv hlm ?_ ?_ e2
                                  · intro s2 hh
                                    have : s2 ≠ s := by rintro rfl; rw [hsd d e1] at hh; cases hh
                                    simp only [upd, this, if_false]
                                    show (match o.dst with | some d => if hit d s2 then putRes o.dst rs φ1 s2 else φ s2 | none => φ s2) = _
                                    rw [e1]
                                    simp [hh]
                                  · intro k t r v m q1 q2 q3 q4
                                    rw [List.getElem?_map, Option.map_eq_some_iff] at q4
                                    obtain ⟨sm, q4, rfl⟩ := q4
                                    refine res_move (hdone.res k r v sm q2 q3 q4) (List.all_eq_true.1 hres _ (List.mem_of_getElem? q4)) (substQ (px :: pss)) ?_ (fun ps ps' hf b hb => by rw [← e1]; exact hok hf b hb)
                                    intro b' q off' c' z' hb'
                                    have := backP_ownk (s := s) (tg := tgR (some d) rs.length) hdone q1 hb'
                                    exact this
                                · right; right
                                  refine ⟨hss, fun sm => o.dst.elim sm fun d => sm.dropS d, ?_, ?_⟩
                                  · intro sm hsm
                                    have key : ∀ dd : Option Tmp, ClaimX w' (C0.backP C' s ms.length (tgR o.dst rs.length) w.heap.size) (upd φ2 s (.box ds')) tm2 s' (upd φ2 s (.box ds') s') (tm2 s') (dd.elim sm fun d => sm.dropS d) := by
                                      intro dd
                                      cases dd with
                                      | none => exact hsm
                                      | some d => exact ClaimX.dropS hsm
                                    exact key o.dst
                                  · rw [e2]
                                    have hb : (backP (μ.clearO o.dst) s (mapL (substQ (px :: pss)) ms')).get s' = finSM [s] 0 ms.length (((μ.clearO o.dst).get s').map (killD [s])) := by
                                      unfold backP
                                      rw [get_set, if_neg hss, mapL_len, ← hmm]
                                      exact get_mapG (fun x => finSM [s] 0 ms.length (x.map (killD [s]))) rfl _ s'
                                    rw [hb]
                          rw [← hfin] at hmain
                          exact hK (packV vs) w' _ _ hmain
                        · cases hback
                  · cases hx
                · cases hx
              · cases hx
            · cases has
          · cases hx
        · cases hm
      · cases hm
    · cases hm
  · cases hm
end
end Go.Ev

/- One operation. -/
namespace Go.Ev
section
variable {V : Env} {A : Start} {w w' : World} {μ μ' : Mu} {φ φ' : Fr} {C : Cx} {a : Act} {g : Nat → Value} {o : Oper} {x : X}

/-- What is asked of an operation's own text: its slots are few. -/
def smallO (n : Nat) (o : Oper) : Bool := o.op.operands.all sm1 && (match o.dst with
  | some d => Nat.blt d n
  | none => true) && (match o.op with
  | .store _ _ _ => o.dst.isNone
  | _ => true)

/-- The first slot holds what it held, if that is told. -/
def Par (A : Start) (a : Act) : Prop := (∀ v, A.hd = some v → a.tmps.getD 0 undef = v) ∧ ∀ d ∈ A.ks, a.tmps.getD d undef = undef

/-- What stands after an operation. -/
def Stands (A : Start) (n : Nat) (φ' : Fr) (μ' : Mu) (a : Act) (w : World) : Prop :=
  ∃ C' g', St A w μ' φ' (tmO a.tmps g') C' ∧ a.tmps.size = n ∧ a.defers = [] ∧ Par A a

/-- The first slot is not put. -/
def Keeps (A : Start) (o : Oper) : Prop := (A.hd.isSome = true → o.dst ≠ some 0) ∧ ∀ d ∈ A.ks, o.dst ≠ some d

theorem Par.put {A : Start} {a : Act} {o : Oper} (h : Par A a) (hk : Keeps A o) (v : Value) : Par A (a.put o.dst v) := by
  have key : ∀ k : Nat, o.dst ≠ some k → (a.put o.dst v).tmps.getD k undef = a.tmps.getD k undef := by
    intro k h2
    cases hd : o.dst with
    | none => rfl
    | some d =>
      have hne : d ≠ k := by rintro rfl; exact h2 hd
      simp only [Act.put, Array.getD_eq_getD_getElem?]
      rw [Array.getElem?_setIfInBounds_ne hne]
  refine ⟨fun u hu => ?_, fun d hd => ?_⟩
  · rw [key 0 (hk.1 (by rw [hu]; rfl))]
    exact h.1 u hu
  · rw [key d (hk.2 d hd)]
    exact h.2 d hd

theorem put_size (a : Act) (dst : Option Tmp) (v : Value) : (a.put dst v).tmps.size = a.tmps.size := by cases dst <;> simp [Act.put]
theorem put_defers (a : Act) (dst : Option Tmp) (v : Value) : (a.put dst v).defers = a.defers := by cases dst <;> rfl

theorem OpOk.wp {n : Nat} {next : Act → World → Prop} {Q : Exit → Act → World → Prop} (h : OpOk V A w a g o φ' μ') (hsz : a.tmps.size = n) (hdf : a.defers = []) (hpar : Par A a) (hkp : Keeps A o) (hK : ∀ a w, Stands A n φ' μ' a w → next a w) : o.wp V.P a w next Q := by
  obtain ⟨nx, v, w', C', g', h1, h2, h3⟩ := h
  unfold Oper.wp
  rw [h1]
  rcases h2 with rfl | ⟨rfl, rfl⟩
  · rw [Oper.upon_value]
    exact hK _ _ ⟨C', g', h3, by rw [put_size]; exact hsz, by rw [put_defers]; exact hdf, hpar.put hkp _⟩
  · rw [Oper.upon_skip]
    exact hK _ _ ⟨C', g', h3, by rw [put_size]; exact hsz, by rw [put_defers]; exact hdf, hpar.put hkp _⟩

/-- What leaves nothing but its result. -/
theorem pure_ok {cols : List M} {n : Nat} (hn : n ≤ 1000) (hs : smallO n o = true) (hsz : a.tmps.size = n) (h : St A w μ φ (tmO a.tmps g) C) (hx : pureX V.τ φ o.op o.type = some x) (hm : pureC V.τ cols o μ = some μ') : OpOk V A w a g o (putRes o.dst [x] φ) μ' := by
  unfold pureC at hm
  split at hm
  · rename_i sm hsm
    unfold smallO at hs
    simp only [Bool.and_eq_true] at hs
    have hp := pure_sound (V := V) h hs.1.1 hx hsm
    cases hds : o.dst with
    | none =>
      rw [hds] at hm
      have hmm : μ' = μ := by
        cases sm <;> simp [putM] at hm <;> exact hm.symm
      subst hmm
      rcases hp with ⟨v, h1, _⟩ | ⟨v, w', h1, h2, _⟩
      · exact ⟨_, v, w, C, g, h1, .inl rfl, by rw [hds]; exact h⟩
      · exact ⟨_, v, w', C, g, h1, .inl rfl, by rw [hds]; exact h.ext h2⟩
    | some d =>
      rw [hds] at hm hs
      have hdn : Nat.lt d n := by have := hs.1.2; simpa [Nat.blt_eq] using this
      have hdn : @LT.lt Nat _ d n := hdn
      have hmm : μ' = μ.put d sm := by
        cases sm <;> simp [putM] at hm <;> exact hm.symm
      subst hmm
      obtain ⟨v, w', C', h1, _, h3⟩ := hp.st h (d := d) (Nat.lt_of_lt_of_le hdn hn) (by rw [hsz]; exact hdn)
      exact ⟨_, v, w', C', g, h1, .inl rfl, by rw [hds]; exact h3⟩
  · cases hm

/-- Any operation. -/
theorem op_wp {n : Nat} {cols : List M} {S : Nat → Option (List PK)} {F : Nat → List X → Option (List X × List X)} {Sg : Nat → Option Sig} {next : Act → World → Prop} {Q : Exit → Act → World → Prop} (hrg : RgOk A) (hn : n ≤ 1000)
    (hSg : ∀ f sg, Sg f = some sg → S f = some (sg.pms.map PM.pk) ∧ Does V f sg (F f)) (hs : smallO n o = true) (hsz : a.tmps.size = n) (hdf : a.defers = []) (hpar : Par A a) (hkp : Keeps A o) (h : St A w μ φ (tmO a.tmps g) C)
    (hx : evOp V.τ S F o φ = some φ') (hm : chkOp V.τ Sg cols o μ = some μ') (hK : ∀ a w, Stands A n φ' μ' a w → next a w) : o.wp V.P a w next Q := by
  have hs' := hs
  unfold smallO at hs'
  simp only [Bool.and_eq_true] at hs'
  obtain ⟨⟨hso, hsd⟩, hst⟩ := hs'
  have hdst : ∀ d, o.dst = some d → d < 1000 ∧ d < a.tmps.size := by
    intro d hd
    rw [hd] at hsd
    have : Nat.lt d n := by simpa [Nat.blt_eq] using hsd
    have : @LT.lt Nat _ d n := this
    exact ⟨Nat.lt_of_lt_of_le this hn, by rw [hsz]; exact this⟩
  have pure : ∀ x, pureX V.τ φ o.op o.type = some x → φ' = putRes o.dst [x] φ → pureC V.τ cols o μ = some μ' → o.wp V.P a w next Q := by
    rintro x h1 rfl h2
    exact (pure_ok hn hs hsz h h1 h2).wp hsz hdf hpar hkp hK
  cases ho : o.op with
  | store t y z =>
    have hyz : sm1 y = true ∧ sm1 z = true := by rw [ho] at hso; simpa [Op.operands] using hso
    unfold evOp at hx
    rw [ho] at hx
    simp only at hx
    split at hx
    · rename_i p hp
      have hdn : o.dst = none := by rw [ho] at hst; simpa using hst
      exact (s_store Sg hrg ho hdn h hyz.1 hyz.2 hp hx hm).wp hsz hdf hpar hkp hK
    · cases hx
  | assign y =>
    have hy : sm1 y = true := by rw [ho] at hso; simpa [Op.operands] using hso
    unfold evOp at hx
    rw [ho] at hx
    simp only at hx
    rw [← ho] at hx
    split at hx
    · rename_i x hpx
      cases hx
      cases hd : o.dst with
      | none => unfold chkOp at hm; rw [ho] at hm; simp [hd] at hm
      | some d =>
        obtain ⟨h1, h2⟩ := hdst d hd
        have := (s_assign (cols := cols) Sg ho hd h1 h2 h hy hpx hm).wp (n := n) (next := next) (Q := Q) hsz hdf hpar hkp (by rw [hd] at hK; exact hK)
        exact this
    · cases hx
  | move y =>
    have hy : sm1 y = true := by rw [ho] at hso; simpa [Op.operands] using hso
    unfold evOp at hx
    rw [ho] at hx
    simp only at hx
    rw [← ho] at hx
    split at hx
    · rename_i x hpx
      cases hx
      unfold chkOp at hm
      rw [ho] at hm
      simp only at hm
      split at hm
      · exact pure x hpx rfl hm
      · split at hm
        · rename_i d hd
          obtain ⟨h1, h2⟩ := hdst d hd
          have := (s_moveT ho hd h1 h2 h hy hpx hm).wp (n := n) (next := next) (Q := Q) hsz hdf hpar hkp (by rw [hd] at hK; exact hK)
          exact this
        · cases hm
    · cases hx
  | load t y =>
    have hy : sm1 y = true := by rw [ho] at hso; simpa [Op.operands] using hso
    unfold evOp at hx
    rw [ho] at hx
    simp only at hx
    rw [← ho] at hx
    split at hx
    · rename_i x hpx
      cases hx
      unfold chkOp at hm
      rw [ho] at hm
      simp only at hm
      split at hm
      · exact pure x hpx rfl hm
      · split at hm
        · rename_i d hd
          obtain ⟨h1, h2⟩ := hdst d hd
          have := (s_loadT ho hd h1 h2 h hy hpx hm).wp (n := n) (next := next) (Q := Q) hsz hdf hpar hkp (by rw [hd] at hK; exact hK)
          exact this
        · cases hm
    · cases hx
  | box t y =>
    have hy : sm1 y = true := by rw [ho] at hso; simpa [Op.operands] using hso
    unfold evOp at hx
    rw [ho] at hx
    simp only at hx
    rw [← ho] at hx
    split at hx
    · rename_i x hpx
      cases hx
      cases hd : o.dst with
      | none => 
        unfold chkOp at hm; rw [ho] at hm; simp only [hd] at hm
        split at hm <;> first | (rename_i e; cases e; done) | cases hm
      | some d =>
        obtain ⟨h1, h2⟩ := hdst d hd
        have := (s_box (cols := cols) Sg ho hd h1 h2 h hy hpx hm).wp (n := n) (next := next) (Q := Q) hsz hdf hpar hkp (by rw [hd] at hK; exact hK)
        exact this
    · cases hx
  | call c =>
    have hargs : c.args.toList.all sm1 = true := by
      rw [ho] at hso
      simp only [Op.operands, Call.operands, Array.all_append, Bool.and_eq_true] at hso
      simpa using hso.2
    have fin : ∀ v w' C2 g', St A w' μ' φ' (tmO (a.put o.dst v).tmps g') C2 → next (a.put o.dst v) w' := by
      intro v w' C2 g' h1
      exact hK _ _ ⟨C2, g', h1, by rw [put_size]; exact hsz, by rw [put_defers]; exact hdf, hpar.put hkp _⟩
    unfold evOp at hx
    unfold chkOp at hm
    rw [ho] at hx hm
    simp only at hx hm
    cases hc : c.callee with
    | value y =>
      rw [hc] at hx hm
      cases y with
      | func f =>
        simp only at hx hm
        split at hm
        · rename_i μ2 hq
          cases hm
          have hsg : ∃ sg, Sg f = some sg := by
            unfold callQ at hq
            split at hq
            · rename_i sg e; exact ⟨sg, e⟩
            · cases hq
          obtain ⟨sg, hsg⟩ := hsg
          obtain ⟨h1, h2⟩ := hSg f sg hsg
          exact s_call ho hc hsg h1 h2 h hargs hdst hx hq fin
        · split at hm
          · rename_i μ2 hq
            cases hm
            have hsg : ∃ sg, Sg f = some sg := by
              unfold callMq at hq
              split at hq
              · rename_i sg e; exact ⟨sg, e⟩
              · cases hq
            obtain ⟨sg, hsg⟩ := hsg
            obtain ⟨h1, h2⟩ := hSg f sg hsg
            exact s_callM ho hc hsg h1 h2 h hargs hdst hx hq fin
          · have hsg : ∃ sg, Sg f = some sg := by
              unfold callPq at hm
              split at hm
              · rename_i sg e; exact ⟨sg, e⟩
              · cases hm
            obtain ⟨sg, hsg⟩ := hsg
            obtain ⟨h1, h2⟩ := hSg f sg hsg
            exact s_callP ho hc hsg h1 h2 h hargs hdst hx hm fin
      | _ => cases hm
    | builtin b =>
      rw [hc] at hx hm
      simp only at hx
      rw [← ho] at hx
      split at hx
      · rename_i x hpx
        by_cases hb : b = .append
        · subst hb
          simp only at hm
          split at hm
          · rename_i y z t t' d h1 h2 h3
            cases hx
            obtain ⟨d1, d2⟩ := hdst d h3
            have hyz : sm1 y = true ∧ sm1 z = true := by rw [h1] at hargs; simpa using hargs
            have hpx' : appX V.τ t t' (opX V.τ φ t y) (opX V.τ φ t' z) = some x := by
              rw [ho] at hpx
              simp only [pureX, hc, h1, h2] at hpx
              exact hpx
            have := (s_append (fun r hr e => hkp.1 (hrg r hr).2 (by rw [h3, ← e, (hrg r hr).1])) ho hc h1 h2 h3 d1 d2 h hyz.1 hyz.2 hpx' hm).wp (n := n) (next := next) (Q := Q) hsz hdf hpar hkp (by rw [h3] at hK; exact hK)
            exact this
          · cases hm
        · have hm' : pureC V.τ cols o μ = some μ' := by
            cases b <;> first | exact hm | exact (hb rfl).elim
          exact pure x hpx (Option.some.inj hx).symm hm'
      · cases hx
    | invoke r m =>
      rw [hc] at hx hm
      simp only at hx hm
      rw [← ho] at hx
      split at hx
      · rename_i x hpx
        exact pure x hpx (Option.some.inj hx).symm hm
      · cases hx
  | _ =>
    unfold evOp at hx
    unfold chkOp at hm
    rw [ho] at hx hm
    simp only at hx hm
    rw [← ho] at hx
    split at hx
    · rename_i x hpx
      exact pure x hpx (Option.some.inj hx).symm hm
    · cases hx
end
end Go.Ev

/- What is known may be forgotten, or told of another place: nothing runs here. -/
namespace Go.Ev

def leSX : SM → SM → Bool
  | _, .u => true
  | .c m o, .c m' o' => leS m m' && leOg o o'
  | .agg ms o, .agg ms' o' => leSL ms ms' && leOg o o'
  | .box ms, .box ms' => leSL ms ms'
  | .vbox ps n, .vbox ps' n' => ps == ps' && n == n'
  | .pt s cs, .pt s' cs' => s == s' && cs == cs'
  | .pa s cs n, .pa s' cs' n' => s == s' && cs == cs' && n == n'
  | .pv ps s, .pv ps' s' => ps.all ps'.contains && s == s'
  | .tup b n, .tup b' n' => b == b' && n == n'
  | .clo f cs, .clo f' cs' => f == f' && cs == cs'
  | .fv f i, .fv f' i' => f == f' && i == i'
  | _, _ => false

def weakS (μ ν : Mu) : Bool := List.all ν fun p => leSX (μ.get p.1) (ν.get p.1)

theorem leOg_spec {a b : Og} (h : leOg a b = true) : b = .dead ∨ a = b := by
  cases b <;> simp_all [leOg]

theorem leS_readable {a b : M} (h : leS a b = true) (hb : b.readable = true) : a.readable = true := by
  cases a <;> cases b <;> simp_all [leS, M.readable]

section
variable {A : Start} {w : World} {μ ν : Mu} {φ : Fr} {tm : Nat → Value} {C : Cx}

theorem ClaimX.weak {s : Nat} {x : X} {v : Value} {a b : SM} (h : ClaimX w C φ tm s x v a) (hl : leSX a b = true) : ClaimX w C φ tm s x v b := by
  cases b with
  | u => trivial
  | c m' og' =>
    cases a <;> simp only [leSX, Bool.false_eq_true] at hl
    rename_i m og
    simp only [Bool.and_eq_true] at hl
    obtain ⟨d, o, e1, e2, e3⟩ := h
    refine ⟨d, o, e1, e2.leS hl.1, fun hsl => ?_⟩
    rcases leOg_spec hl.2 with rfl | rfl
    · trivial
    · have e3 := e3 hsl
      cases og with
      | no => exact e3
      | dead => trivial
      | ats q cs js => trivial
      | vw q =>
        obtain ⟨p, q1, q2, q3⟩ := e3
        exact ⟨p, q1, q2, fun hm => q3 (leS_readable hl.1 hm)⟩
      | «at» q cs =>
        obtain ⟨p, q1, q2, q3, q4, q5, q6⟩ := e3
        exact ⟨p, q1, q2, q3, q4, fun hm => q5 (leS_readable hl.1 hm), q6⟩
  | agg ms' og' =>
    cases a <;> simp only [leSX, Bool.false_eq_true] at hl
    rename_i ms og
    simp only [Bool.and_eq_true] at hl
    obtain ⟨ds, o, vs, e1, e2, e3, e4, e5, e6⟩ := h
    have hlen := leSL_len hl.1
    refine ⟨ds, o, vs, e1, e2, e3, by omega, ?_, ?_⟩
    · intro i j row d m q1 q2 q3
      obtain ⟨m0, hm0, hle⟩ := leSL_at hl.1 q3
      exact (e5 i j row d m0 q1 q2 hm0).leS hle
    · rcases leOg_spec hl.2 with rfl | rfl
      · trivial
      · cases og with
        | ats q cs js =>
          obtain ⟨p, q1, q2, q3, q4, q5⟩ := e6
          refine ⟨p, q1, q2, q3, q4, fun j hj => ?_⟩
          obtain ⟨d, g1, g2, g3⟩ := q5 j hj
          refine ⟨d, g1, g2, fun hm => g3 ?_⟩
          cases hq : ms'[j]? with
          | none => rw [hq] at hm; cases hm
          | some m' =>
            rw [hq] at hm
            obtain ⟨m0, hm0, hle⟩ := leSL_at hl.1 hq
            rw [hm0]; exact leS_readable hle hm
        | no => exact e6
        | _ => trivial
  | box ms' =>
    cases a <;> simp only [leSX, Bool.false_eq_true] at hl
    obtain ⟨ds, b, off, arr, e1, e2, e3⟩ := h
    have hlen := leSL_len hl
    refine ⟨ds, b, off, arr, e1, e2, e3.own, e3.heap, e3.size, fun i row hi => by rw [← hlen]; exact e3.len i row hi, .inl (by simp), ?_⟩
    intro i j row d m q1 q2 q3
    obtain ⟨m0, hm0, hle⟩ := leSL_at hl q3
    exact (e3.kids i j row d m0 q1 q2 hm0).leS hle
  | pv ps' s' =>
    cases a <;> simp only [leSX, Bool.false_eq_true] at hl
    simp only [Bool.and_eq_true, List.all_eq_true, beq_iff_eq] at hl
    obtain ⟨hl, rfl⟩ := hl
    obtain ⟨p, e1, e2, e3, e4, e5⟩ := h
    exact ⟨p, e1, e2, e3, e4, fun n ds h1 h2 => (e5 n ds h1 h2).mono fun b hb => ⟨okB_mono (fun q hq => by simpa using hl q hq) hb, rfl⟩⟩
  | _ =>
    cases a <;> simp only [leSX, Bool.false_eq_true] at hl
    simp only [Bool.and_eq_true, beq_iff_eq] at hl
    first
      | (obtain ⟨rfl, rfl⟩ := hl; exact h)
      | (obtain ⟨⟨rfl, rfl⟩, rfl⟩ := hl; exact h)

theorem St.weak (h : St A w μ φ tm C) (hw : weakS μ ν = true) : St A w ν φ tm C := by
  refine { h with slot := ?_ }
  intro s
  rcases h.slot s with h1 | h1
  · exact .inl h1
  · right
    have : leSX (μ.get s) (ν.get s) = true := by
      unfold weakS at hw
      rw [List.all_eq_true] at hw
      by_cases e : ∃ m, (s, m) ∈ ν
      · obtain ⟨m, hm⟩ := e
        exact hw _ hm
      · have : ν.get s = .u := by
          unfold Mu.get
          cases hl : List.lookup s ν with
          | none => rfl
          | some m =>
            exfalso
            apply e
            refine ⟨m, ?_⟩
            clear h hw h1 e
            induction ν with
            | nil => cases hl
            | cons a l ih =>
              obtain ⟨k, y⟩ := a
              rw [List.lookup_cons] at hl
              by_cases e : s = k
              · subst e
                simp only [beq_self_eq_true, Option.some.injEq] at hl
                subst hl
                simp
              · have e' : (s == k) = false := by simpa using e
                rw [e'] at hl
                exact List.mem_cons_of_mem _ (ih hl)
        rw [this]
        cases μ.get s <;> rfl
    exact ClaimX.weak h1 this
end

/-- What a policy tells ahead of an operation: a state that is known to hold as well, and the columns. -/
structure Pol where
  /-- Whether the first slot is never put anew. -/
  lo : Bool := false
  pre : Oper → Mu → Option Mu
  cols : Oper → Mu → List M

def preM (P : Pol) (o : Oper) (μ : Mu) : Mu := match P.pre o μ with
  | some ν => if weakS μ ν then ν else μ
  | none => μ

theorem pre_sound {A : Start} {w : World} {μ : Mu} {φ : Fr} {tm : Nat → Value} {C : Cx} (P : Pol) (o : Oper) (h : St A w μ φ tm C) : St A w (preM P o μ) φ tm C := by
  unfold preM
  split
  · split
    · rename_i hw; exact h.weak hw
    · exact h
  · exact h
end Go.Ev

/- Operations in their order. -/
namespace Go.Ev

/-- What stands whether an operation ran or not. -/
def weakG (o : Oper) (μ : Mu) : Option Mu → Option Mu
  | some μ1 => match o.dst with
    | some d => if weakS (μ.put d (μ1.get d)) μ1 then some μ1 else none
    | none => none
  | none => none

theorem weakG_spec {o : Oper} {μ μ' : Mu} {q : Option Mu} (h : weakG o μ q = some μ') : q = some μ' ∧ ∃ d sm, o.dst = some d ∧ weakS (μ.put d sm) μ' = true := by
  unfold weakG at h
  split at h
  · split at h
    · rename_i d hd
      split at h
      · rename_i hw
        cases h
        exact ⟨rfl, d, _, hd, hw⟩
      · cases h
    · cases h
  · cases h

/-- What comes before a guard that is not met leaves the slot empty. -/
def guardM (τ : List TE) (Sg : Nat → Option Sig) (cols : List M) (o : Oper) (μ : Mu) : Option Mu := match o.dst with
  | some _ => match o.op with
    | .call c => match c.callee with
      | .value (.func f) => match Sg f with
        | some sg => if sg.res.length = 1 ∧ (mutOk sg).isNone = true ∧ (ioOk sg).isNone = true then chkOp τ Sg cols o μ else if sg.res.length = 1 ∧ (ioOk sg).isSome = true then weakG o μ (chkOp τ Sg cols o μ) else none
        | none => none
      | .builtin .append => none
      | .builtin _ => chkOp τ Sg cols o μ
      | _ => none
    | .assign _ | .box _ _ | .store _ _ _ => none
    | .move _ => if cols.isEmpty then chkOp τ Sg cols o μ else none
    | .load _ _ => if cols.isEmpty then chkOp τ Sg cols o μ else none
    | _ => chkOp τ Sg cols o μ
  | none => none

theorem putM_put {dst : Option Tmp} {d : Nat} {sm : SM} {μ μ' : Mu} (hd : dst = some d) (h : putM dst sm μ = some μ') : ∃ sm, μ' = μ.put d sm := by
  subst hd
  refine ⟨sm, ?_⟩
  cases sm <;> simp [putM] at h <;> exact h.symm

theorem guardM_put {τ : List TE} {Sg : Nat → Option Sig} {cols : List M} {o : Oper} {μ μ' : Mu} (h : guardM τ Sg cols o μ = some μ') : chkOp τ Sg cols o μ = some μ' ∧ ∃ d sm, o.dst = some d ∧ (μ' = μ.put d sm ∨ weakS (μ.put d sm) μ' = true) := by
  have pure : ∀ d, o.dst = some d → pureC τ cols o μ = some μ' → ∃ d sm, o.dst = some d ∧ (μ' = μ.put d sm ∨ weakS (μ.put d sm) μ' = true) := by
    intro d hd h
    unfold pureC at h
    split at h
    · obtain ⟨sm, e⟩ := putM_put hd h
      exact ⟨d, sm, hd, .inl e⟩
    · cases h
  unfold guardM at h
  split at h
  · rename_i d hd
    cases ho : o.op with
    | call c =>
      rw [ho] at h
      simp only at h
      split at h
      · rename_i f hc
        split at h
        · rename_i sg hsg
          split at h
          · rename_i hl
            refine ⟨h, ?_⟩
            unfold chkOp at h
            rw [ho] at h
            simp only [hc] at h
            split at h
            · rename_i μ2 hq
              cases h
              unfold callQ at hq
              rw [hsg] at hq
              simp only at hq
              split at hq
              · split at hq
                · rename_i pss _
                  obtain ⟨sm, hr⟩ : ∃ sm, sg.res = [sm] := by
                    match hq : sg.res, hl.1 with
                    | [sm], _ => exact ⟨sm, rfl⟩
                  rw [hr, hd] at hq
                  simp only [putResM, List.map_cons, List.map_nil, Option.some.injEq] at hq
                  exact ⟨d, _, hd, .inl hq.symm⟩
                · cases hq
              · cases hq
            · exfalso
              obtain ⟨_, h0, h1⟩ := hl
              have e1 : callMq τ Sg μ f c o.dst = none := by
                unfold callMq
                rw [hsg]
                simp only
                cases hmu : mutOk sg with
                | none => simp
                | some m => rw [hmu] at h0; cases h0
              have e2 : callPq τ Sg μ f c o.dst = none := by
                unfold callPq
                rw [hsg]
                simp only
                cases hmu : ioOk sg with
                | none => simp
                | some m => rw [hmu] at h1; cases h1
              rw [e1] at h
              simp only at h
              rw [e2] at h
              cases h
          · split at h
            · obtain ⟨q1, d2, sm, q2, q3⟩ := weakG_spec h
              exact ⟨q1, d2, sm, q2, .inr q3⟩
            · cases h
        · cases h
      · cases h
      · rename_i b hb hc
        refine ⟨h, pure d hd ?_⟩
        unfold chkOp at h
        rw [ho] at h
        simp only [hc] at h
        cases b <;> first | exact h | exact (hb rfl).elim
      · cases h
    | assign y => rw [ho] at h; cases h
    | box t y => rw [ho] at h; cases h
    | store t y z => rw [ho] at h; cases h
    | move y =>
      rw [ho] at h
      simp only at h
      split at h
      · rename_i hcl
        refine ⟨h, pure d hd ?_⟩
        unfold chkOp at h
        rw [ho] at h
        simp only [hcl, if_true] at h
        exact h
      · cases h
    | load t y =>
      rw [ho] at h
      simp only at h
      split at h
      · rename_i hcl
        refine ⟨h, pure d hd ?_⟩
        unfold chkOp at h
        rw [ho] at h
        simp only [hcl, if_true] at h
        exact h
      · cases h
    | _ =>
      rw [ho] at h
      simp only at h
      refine ⟨h, pure d hd ?_⟩
      unfold chkOp at h
      rw [ho] at h
      exact h
  · cases h

section
variable {V : Env} {A : Start} {w w' : World} {μ μ' : Mu} {φ φ' : Fr} {C : Cx} {a : Act} {g : Nat → Value} {o : Oper} {x : X}

theorem skip_st {d : Nat} {sm : SM} (h : St A w μ φ (tmO a.tmps g) C) (hd1 : d < 1000) (hsz : d < a.tmps.size) : ∃ C2, St A w (μ.put d sm) (upd φ d .u) (tmO (a.put (some d) undef).tmps g) C2 := by
  refine ⟨_, h.putG hd1 (Ext.refl w) (fun _ => none) (by simp) (by simp) (by simp) .none ?_ ?_ ?_ ?_⟩
  · intro s hs
    have : s ≠ d := by rintro rfl; rw [hit_self] at hs; cases hs
    simp [upd, this]
  · intro s hs
    have : s ≠ d := by rintro rfl; rw [hit_self] at hs; cases hs
    rw [tm_put hd1 hsz]
    simp [this]
  · intro s hs
    have : s ≠ d := by rintro rfl; rw [hit_self] at hs; cases hs
    rw [get_put, if_neg this, hs]; rfl
  · intro s hs
    rw [get_put]
    by_cases e : s = d
    · subst e; exact .inl (by simp [upd])
    · rw [if_neg e, hs]; exact .inr trivial

/-- A condition's slot. -/
theorem slot_bool {d : Nat} {b : Bool} (h : St A w μ φ (tmO a.tmps g) C) (hd : d < 1000) (hr : rdO μ (.tmp d) = true) (hv : (φ d).val = some (.bool b)) : a.tmps.getD d undef = .bool b := by
  have hv' : (opX ([] : List TE) φ 0 (.tmp d)).val = some (.bool b) := by
    simp only [opX]
    generalize φ d = q at hv
    unfold X.val at hv
    split at hv
    · cases hv; rfl
    · cases hv
  have := (val_sound (τ := []) (ty := 0) h (by simpa [sm1] using hd) hr hv').1
  exact this
end

def dstOk (lo : Bool) (o : Oper) : Bool := !lo || o.dst != some 0

theorem dstOk_keeps {A : Start} {lo : Bool} {o : Oper} (hks : A.ks = []) (hlo : A.hd.isSome = true → lo = true) (h : dstOk lo o = true) : Keeps A o := by
  refine ⟨?_, by rw [hks]; simp⟩
  intro h1
  have h2 := hlo h1
  subst h2
  simpa [dstOk] using h

/-- The check of operations in their order; the columns are told by a policy. -/
def chkOps (τ : List TE) (Sg : Nat → Option Sig) (colsP : Pol) (n : Nat) (ops : Array Oper) : List Oper → Mu → Option Mu
  | [], μ => some μ
  | o :: rest, μ0 =>
    let μ := preM colsP o μ0
    if smallO n o && dstOk colsP.lo o then (match o.guard with
    | none => match chkOp τ Sg (colsP.cols o μ) o μ with
      | some μ' => chkOps τ Sg colsP n ops rest μ'
      | none => none
    | some (j, _) => match (ops[j]?).bind (·.dst) with
      | some d => if Nat.blt d 1000 && rdO μ (.tmp d) then (match guardM τ Sg (colsP.cols o μ) o μ with
        | some μ' => chkOps τ Sg colsP n ops rest μ'
        | none => none) else none
      | none => none) else none

/-- Slots that were passed over hold nothing. -/
def Start.k (A : Start) (l : List Nat) : Start := { A with ks := l }

theorem St.ks {A : Start} {l : List Nat} {w : World} {μ : Mu} {φ : Fr} {tm : Nat → Value} {C : Cx} (h : St A w μ φ tm C) : St (A.k l) w μ φ tm C := ⟨h.slot, h.inj, h.own, h.frz, h.ag, h.pa, h.old, h.size, h.calm, h.rng, h.oko⟩
theorem St.unks {A : Start} {l : List Nat} {w : World} {μ : Mu} {φ : Fr} {tm : Nat → Value} {C : Cx} (h : St (A.k l) w μ φ tm C) : St A w μ φ tm C := ⟨h.slot, h.inj, h.own, h.frz, h.ag, h.pa, h.old, h.size, h.calm, h.rng, h.oko⟩

theorem Stands.ks0 {A : Start} {n : Nat} {φ : Fr} {μ : Mu} {a : Act} {w : World} {l : List Nat} (hks : A.ks = []) (h : Stands (A.k l) n φ μ a w) : Stands A n φ μ a w := by
  obtain ⟨C, g, h1, h2, h3, h4⟩ := h
  exact ⟨C, g, h1.unks, h2, h3, h4.1, by rw [hks]; simp⟩
theorem Stands.ks1 {A : Start} {n : Nat} {φ : Fr} {μ : Mu} {a : Act} {w : World} (h : Stands A n φ μ a w) : Stands (A.k []) n φ μ a w := by
  obtain ⟨C, g, h1, h2, h3, h4⟩ := h
  exact ⟨C, g, h1.ks, h2, h3, h4.1, by simp [Start.k]⟩
theorem Stands.sub {A : Start} {n : Nat} {φ : Fr} {μ : Mu} {a : Act} {w : World} {l l' : List Nat} (hs : ∀ d ∈ l', d ∈ l) (h : Stands (A.k l) n φ μ a w) : Stands (A.k l') n φ μ a w := by
  obtain ⟨C, g, h1, h2, h3, h4⟩ := h
  exact ⟨C, g, h1.unks.ks, h2, h3, h4.1, fun d hd => h4.2 d (hs d hd)⟩

/-- Operations in their order, some of them passed over. -/
theorem ops_wpK {V : Env} {A : Start} {n : Nat} {colsP : Pol} {S : Nat → Option (List PK)} {F : Nat → List X → Option (List X × List X)} {Sg : Nat → Option Sig} {ops : Array Oper} {Q : Exit → Act → World → Prop} (hrg : RgOk A) (hks : A.ks = []) (hlo : A.hd.isSome = true → colsP.lo = true) (hn : n ≤ 1000)
    (hSg : ∀ f sg, Sg f = some sg → S f = some (sg.pms.map PM.pk) ∧ Does V f sg (F f)) : ∀ (l : List Oper) (sk : List Nat) (μ μ' : Mu) (φ φ' : Fr) (a : Act) (w : World), Stands (A.k sk) n φ μ a w → evOps V.τ S F ops l φ (some sk) = some φ' → chkOps V.τ Sg colsP n ops l μ = some μ' →
      (∀ a w, Stands A n φ' μ' a w → Q .normal a w) → wpList V.P ops Q l a w
  | [], sk, μ, μ', φ, φ', a, w, hst, hx, hm, hQ => by
    simp only [evOps, Option.some.injEq] at hx
    simp only [chkOps, Option.some.injEq] at hm
    subst hx; subst hm
    exact hQ a w (hst.ks0 hks)
  | o :: rest, sk, μ, μ', φ, φ', a, w, hst, hx, hm, hQ => by
    simp only [chkOps] at hm
    have hkeep : ∀ sk1 : List Nat, dstOk colsP.lo o = true → (∀ d ∈ sk1, o.dst ≠ some d) → Keeps (A.k sk1) o := by
      intro sk1 hds h1
      exact ⟨(dstOk_keeps hks hlo hds).1, h1⟩
    -- what stands when it is put
    have hrm : ∃ sk1, rmS o.dst (some sk) = some sk1 ∧ (∀ d ∈ sk1, d ∈ sk) ∧ ∀ d ∈ sk1, o.dst ≠ some d := by
      cases hd : o.dst with
      | none => exact ⟨sk, rfl, fun d h => h, fun d _ => by simp⟩
      | some d =>
        refine ⟨sk.filter (· != d), rfl, fun d' h => (List.mem_filter.1 h).1, fun d' h e => ?_⟩
        cases e
        simpa using (List.mem_filter.1 h).2
    obtain ⟨sk1, hsk1, hsub, hne⟩ := hrm
    have hst1 := hst.sub hsub
    obtain ⟨C, g, h0, hsz, hdf, hpar⟩ := hst1
    have h := pre_sound colsP o h0
    generalize preM colsP o μ = μ at h hm
    split at hm
    · rename_i hs
      rw [Bool.and_eq_true] at hs
      obtain ⟨hs, hds⟩ := hs
      have hkp := hkeep sk1 hds hne
      have hrg1 : RgOk (A.k sk1) := hrg
      simp only [evOps] at hx
      unfold wpList
      have skip : ∀ (μ1 : Mu) d2 sm, o.dst = some d2 → (μ1 = μ.put d2 sm ∨ weakS (μ.put d2 sm) μ1 = true) → chkOps V.τ Sg colsP n ops rest μ1 = some μ' → evOps V.τ S F ops rest (putRes o.dst [] φ) (addS o.dst (some sk)) = some φ' → wpList V.P ops Q rest (a.put o.dst undef) w := by
        intro μ1 d2 sm hd2 hput hm hx
        rw [hd2] at hx ⊢
        simp only [putRes] at hx
        unfold smallO at hs
        simp only [Bool.and_eq_true] at hs
        have hdn := hs.1.2
        rw [hd2] at hdn
        simp only [Nat.blt_eq] at hdn
        obtain ⟨C2, h2⟩ := skip_st (sm := sm) h (Nat.lt_of_lt_of_le hdn hn) (by rw [hsz]; exact hdn)
        have h3 : ∃ C2, St (A.k sk1) w μ1 (upd φ d2 .u) (tmO (a.put (some d2) undef).tmps g) C2 := by
          rcases hput with rfl | hw
          · exact ⟨C2, h2⟩
          · exact ⟨C2, h2.weak hw⟩
        obtain ⟨C2, h2⟩ := h3
        refine ops_wpK hrg hks hlo hn hSg rest (d2 :: sk) _ μ' _ φ' _ w ⟨C2, g, h2.unks.ks, by rw [put_size]; exact hsz, by rw [put_defers]; exact hdf, ?_⟩ hx hm hQ
        obtain ⟨C', g', k1, k2, k3, k4⟩ := hst
        have hp := hd2 ▸ hpar.put hkp undef
        refine ⟨hp.1, fun d hd => ?_⟩
        rcases List.mem_cons.1 hd with rfl | hd
        · simp [Act.put, Array.getD_eq_getD_getElem?, Array.getElem?_setIfInBounds]
          split <;> simp_all
        · by_cases e : d = d2
          · subst e
            simp [Act.put, Array.getD_eq_getD_getElem?, Array.getElem?_setIfInBounds]
            split <;> simp_all
          · simp only [Act.put, Array.getD_eq_getD_getElem?]
            rw [Array.getElem?_setIfInBounds_ne (fun h => e h.symm)]
            have := k4.2 d hd
            simpa [Array.getD_eq_getD_getElem?] using this
      cases hg : o.guard with
      | none =>
        rw [hg] at hx hm
        simp only at hx hm
        split at hx
        · rename_i φ1 hx1
          rw [hsk1] at hx
          split at hm
          · rename_i μ1 hm1
            rw [if_pos (by simp [Region.wanted, hg])]
            exact .inl (op_wp hrg1 hn hSg hs hsz hdf hpar hkp h hx1 hm1 fun a' w' hst' => ops_wpK hrg hks hlo hn hSg rest sk1 μ1 μ' φ1 φ' a' w' hst' hx hm hQ)
          · cases hm
        · cases hx
      | some jw =>
        obtain ⟨j, want⟩ := jw
        rw [hg] at hx hm
        simp only at hx hm
        split at hm
        · rename_i d hj
          rw [hj] at hx
          simp only at hx
          split at hm
          · rename_i hc
            simp only [Bool.and_eq_true, Nat.blt_eq] at hc
            split at hm
            · rename_i μ1 hm1
              obtain ⟨hm2, d2, sm, hd2, hput⟩ := guardM_put hm1
              split at hx
              · rename_i hin
                have hu : a.tmps.getD d undef = undef := by
                  obtain ⟨C', g', k1, k2, k3, k4⟩ := hst
                  exact k4.2 d (show d ∈ sk from by simpa [inS] using hin)
                have hy : yielded ops a.tmps j = none := by
                  unfold yielded
                  rw [hj]
                  simp only [Option.bind_some]
                  cases hq : a.tmps[d]? with
                  | none => rfl
                  | some v =>
                    simp only [Array.getD_eq_getD_getElem?, hq, Option.getD_some] at hu
                    subst hu
                    rfl
                rw [if_neg (by simp [Region.wanted, hg, hy])]
                exact skip μ1 d2 sm hd2 hput hm hx
              · split at hx
                · rename_i b hb
                  have hbool := slot_bool h hc.1 hc.2 hb
                  have hy : yielded ops a.tmps j = some b := by
                    unfold yielded
                    rw [hj]
                    simp only [Option.bind_some]
                    have : a.tmps[d]? = some (.bool b) := by
                      by_cases hlt : d < a.tmps.size
                      · rw [Array.getElem?_eq_getElem hlt]
                        simp [Array.getD, hlt] at hbool
                        rw [hbool]
                      · simp [Array.getD, hlt] at hbool
                        cases hbool
                    rw [this]
                  split at hx
                  · rename_i hbw
                    split at hx
                    · rename_i φ1 hx1
                      rw [hsk1] at hx
                      rw [if_pos (by simp [Region.wanted, hg, hy, hbw])]
                      exact .inl (op_wp hrg1 hn hSg hs hsz hdf hpar hkp h hx1 hm2 fun a' w' hst' => ops_wpK hrg hks hlo hn hSg rest sk1 μ1 μ' φ1 φ' a' w' hst' hx hm hQ)
                    · cases hx
                  · rename_i hbw
                    rw [if_neg (by simp [Region.wanted, hg, hy, hbw])]
                    exact skip μ1 d2 sm hd2 hput hm hx
                · cases hx
            · cases hm
          · cases hm
        · cases hm
    · cases hm

theorem ops_wp {V : Env} {A : Start} {n : Nat} {colsP : Pol} {S : Nat → Option (List PK)} {F : Nat → List X → Option (List X × List X)} {Sg : Nat → Option Sig} {ops : Array Oper} {Q : Exit → Act → World → Prop} (hrg : RgOk A) (hks : A.ks = []) (hlo : A.hd.isSome = true → colsP.lo = true) (hn : n ≤ 1000)
    (hSg : ∀ f sg, Sg f = some sg → S f = some (sg.pms.map PM.pk) ∧ Does V f sg (F f)) (l : List Oper) (μ μ' : Mu) (φ φ' : Fr) (a : Act) (w : World) (hst : Stands A n φ μ a w) (hx : evOps V.τ S F ops l φ (some []) = some φ') (hm : chkOps V.τ Sg colsP n ops l μ = some μ')
    (hQ : ∀ a w, Stands A n φ' μ' a w → Q .normal a w) : wpList V.P ops Q l a w := ops_wpK hrg hks hlo hn hSg l [] μ μ' φ φ' a w hst.ks1 hx hm hQ
end Go.Ev

/- Operations in their order, with what is forgotten ahead of them. -/

/- What an operation answers hangs on what it reads alone. -/
namespace Go.Ev

/-- More is told. -/
def Le (φ φ' : Fr) : Prop := ∀ s, φ s = .u ∨ φ' s = φ s

section
variable {τ : List TE} {φ φ' : Fr}

theorem cpX_u {t : Nat} {x : X} (h : cpX t x ≠ .u) : x ≠ .u := by rintro rfl; exact h rfl

theorem Le.at (h : Le φ φ') {s : Nat} (hs : φ s ≠ .u) : φ' s = φ s := (h s).resolve_left hs

theorem opX_le (h : Le φ φ') (ty : Nat) (y : Operand) (hy : opX τ φ ty y ≠ .u) : opX τ φ' ty y = opX τ φ ty y := by
  unfold opX at hy ⊢
  split
  · rename_i t
    rw [h.at (cpX_u hy)]
  · rfl
  · rfl
  · rfl
  · rfl

theorem opX_le' (h : Le φ φ') {ty : Nat} {y : Operand} {x : X} (hy : opX τ φ ty y = x) (hx : x ≠ .u) : opX τ φ' ty y = x := by
  rw [opX_le h ty y (by rw [hy]; exact hx), hy]

theorem val_le (h : Le φ φ') {ty : Nat} {y : Operand} {v : Value} (hy : (opX τ φ ty y).val = some v) : (opX τ φ' ty y).val = some v := by
  rw [opX_le h ty y (by intro e; rw [e] at hy; cases hy)]; exact hy

theorem int_le (h : Le φ φ') {ty : Nat} {y : Operand} {v : Int} (hy : (opX τ φ ty y).int = some v) : (opX τ φ' ty y).int = some v := by
  rw [opX_le h ty y (by intro e; rw [e] at hy; cases hy)]; exact hy

theorem cells_le (h : Le φ φ') {ty : Nat} {y : Operand} {cs : List D} (hy : (opX τ φ ty y).cells = some cs) : (opX τ φ' ty y).cells = some cs := by
  rw [opX_le h ty y (by intro e; rw [e] at hy; cases hy)]; exact hy

theorem ptX_le (h : Le φ φ') {y : Operand} {p : Pl} (hy : ptX φ y = some p) : ptX φ' y = some p := by
  unfold ptX at hy ⊢
  split at hy
  · rename_i t
    rw [h.at (by intro e; rw [e] at hy; cases hy)]
    exact hy
  · cases hy

theorem cellsAt_le (h : Le φ φ') {p : Pl} {n : Nat} {cs : List D} (hy : cellsAt φ p n = some cs) : cellsAt φ' p n = some cs := by
  unfold cellsAt at hy ⊢
  rw [h.at (by intro e; rw [e] at hy; cases hy)]
  exact hy

theorem loadX_le (h : Le φ φ') {t : Nat} {p : Pl} {x : X} (hy : loadX τ φ t p = some x) : loadX τ φ' t p = some x := by
  unfold loadX at hy ⊢
  split at hy
  · rename_i e he
    split at hy
    · rename_i cs hcs
      rw [cellsAt_le h hcs]
      exact hy
    · cases hy
  · cases hy

theorem fieldX_le (h : Le φ φ') {s f : Nat} {p : Pl} {x : X} (hy : fieldX τ φ s p f = some x) : fieldX τ φ' s p f = some x := by
  unfold fieldX at hy ⊢
  split at hy
  · rename_i e he
    split at hy
    · rename_i off hoff
      split at hy
      · rename_i cs hcs
        rw [cellsAt_le h hcs]
        exact hy
      · cases hy
    · cases hy
  · cases hy

theorem indexX_le (h : Le φ φ') {t : Nat} {y : Operand} {i : Int} {x : X} (hy : indexX τ φ t y i = some x) : indexX τ φ' t y i = some x := by
  unfold indexX at hy ⊢
  split at hy
  · cases hy
  · rename_i hi
    rw [if_neg hi]
    split at hy
    · rename_i e he
      split at hy
      · rename_i hel
        split at hy
        · rename_i hop
          rw [opX_le' h hop (by simp)]
          exact hy
        · cases hy
      · rename_i hel
        split at hy
        · rename_i q1 q2
          rw [ptX_le h q2, q1]
          simp only
          split at hy
          · rename_i hlt
            rw [if_pos hlt]
            split at hy
            · rename_i hcs
              rw [cellsAt_le h hcs]
              exact hy
            · cases hy
          · cases hy
        · cases hy
    · cases hy

theorem capSlots_le (h : Le φ φ') : ∀ {l : List Operand} {r : List Nat}, capSlots φ l = some r → capSlots φ' l = some r
  | [], r, hy => hy
  | y :: l, r, hy => by
    unfold capSlots at hy ⊢
    split at hy
    · rename_i heq; cases heq
    · rename_i t xs heq
      cases heq
      split at hy
      · rename_i h1 h2
        rw [h.at (by rw [h1]; simp)]
        simp only [h1, capSlots_le h h2]
        exact hy
      · cases hy
    · cases hy

theorem fill_le {pl : Nat → Option (Nat × Nat)} (h : Le φ φ') {ty : Nat → Nat} : ∀ (ps : List (Nat × Operand)) (cs cs' : List D), fillX pl cs (partsX τ φ ps ty) = some cs' → fillX pl cs (partsX τ φ' ps ty) = some cs'
  | [], cs, cs', hy => hy
  | p :: ps, cs, cs', hy => by
    simp only [partsX, List.map_cons, fillX] at hy ⊢
    split at hy
    · rename_i q1 q2
      rw [q1]
      simp only [cells_le h q2]
      split at hy
      · rename_i hc
        rw [if_pos hc]
        exact fill_le h ps _ _ hy
      · cases hy
    · cases hy

theorem fillRows_le {z : Nat} (h : Le φ φ') {ty : Nat → Nat} : ∀ (ps : List (Nat × Operand)) (rs rs' : List (List D)), fillRows z rs (partsX τ φ ps ty) = some rs' → fillRows z rs (partsX τ φ' ps ty) = some rs'
  | [], cs, cs', hy => hy
  | p :: ps, cs, cs', hy => by
    simp only [partsX, List.map_cons, fillRows] at hy ⊢
    split at hy
    · rename_i q2
      simp only [cells_le h q2]
      split at hy
      · rename_i hc
        rw [if_pos hc]
        exact fillRows_le h ps _ _ hy
      · cases hy
    · cases hy

theorem bound_le (h : Le φ φ') {d n : Nat} {y : Option Operand} (hy : bound d (y.map (opX τ φ 0)) = some n) : bound d (y.map (opX τ φ' 0)) = some n := by
  cases y with
  | none => exact hy
  | some y =>
    simp only [Option.map_some, bound] at hy ⊢
    split at hy
    · rename_i q
      rw [int_le h q]
      exact hy
    · cases hy

/-- An operation's result stays where more is told. -/
theorem pureX_le (h : Le φ φ') {o : Op} {ty : Nat} {x : X} (hy : pureX τ φ o ty = some x) : pureX τ φ' o ty = some x := by
  cases o with
  | move y =>
    simp only [pureX] at hy ⊢
    rw [opX_le h ty y (by intro e; rw [e] at hy; cases hy)]; exact hy
  | assign y =>
    simp only [pureX] at hy ⊢
    rw [opX_le h ty y (by intro e; rw [e] at hy; cases hy)]; exact hy
  | pick c y z =>
    simp only [pureX] at hy ⊢
    split at hy
    · rename_i b hb
      rw [val_le h hb]
      simp only
      split at hy
      · rename_i v hv
        rw [val_le h hv]; exact hy
      · cases hy
    · cases hy
  | alloc t => exact hy
  | box t y =>
    simp only [pureX] at hy ⊢
    have hy0 := hy
    split at hy
    · rename_i q1 q2
      rw [cells_le h q2, ← q2]; exact hy0
    · cases hy
  | load t y =>
    simp only [pureX] at hy ⊢
    split at hy
    · rename_i q
      rw [ptX_le h q]; exact loadX_le h hy
    · cases hy
  | nilCheck y =>
    simp only [pureX] at hy ⊢
    rw [Option.map_eq_some_iff] at hy
    obtain ⟨p, q, rfl⟩ := hy
    rw [ptX_le h q]; rfl
  | binOp op t y z g =>
    simp only [pureX] at hy ⊢
    have h1 : opX τ φ t y ≠ .u := by intro e; rw [e] at hy; simp [binX] at hy
    have h2 : opX τ φ t z ≠ .u := by intro e; rw [e] at hy; unfold binX at hy; split at hy <;> simp_all
    rw [opX_le h t y h1, opX_le h t z h2]; exact hy
  | unOp op t y =>
    simp only [pureX] at hy ⊢
    split at hy
    · rename_i q
      rw [val_le h q]; exact hy
    · cases hy
  | fieldAddr s y f =>
    simp only [pureX] at hy ⊢
    split at hy
    · rename_i q
      rw [ptX_le h q]; exact fieldX_le h hy
    · cases hy
  | indexAddr t y i =>
    simp only [pureX] at hy ⊢
    split at hy
    · rename_i q
      rw [int_le h q]; exact indexX_le h hy
    · cases hy
  | index t y i =>
    simp only [pureX] at hy ⊢
    unfold strIndexX at hy ⊢
    split at hy
    · rename_i q1 q2
      rw [opX_le' h q1 (by simp), int_le h q2]; exact hy
    · cases hy
  | extract y i =>
    cases y with
    | tmp t =>
      simp only [pureX] at hy ⊢
      split at hy
      · rename_i q
        rw [h.at (by rw [q]; simp), q]
        simp only
        split at hy
        · rename_i hc
          rw [if_pos hc]
          rw [h.at (by intro e; rw [e] at hy; cases hy)]; exact hy
        · cases hy
      · cases hy
    | _ => cases hy
  | slice t y lo hi mx =>
    simp only [pureX] at hy ⊢
    unfold sliceX at hy ⊢
    split at hy
    · rename_i q
      rw [opX_le' h q (by simp)]
      simp only
      split at hy
      · rename_i e he
        split at hy
        · rename_i hk
          rw [if_pos hk]
          split at hy
          · rename_i q1 q2 q3
            rw [bound_le h q1, bound_le h q2]
            rw [Option.map_eq_none_iff] at q3
            subst q3
            exact hy
          · cases hy
        · cases hy
      · cases hy
    · rename_i q
      rw [opX_le' h q (by simp)]
      simp only
      split at hy
      · rename_i hk
        rw [if_pos hk]
        split at hy
        · rename_i q1 q2
          rw [bound_le h q1, bound_le h q2]
          simp only
          split at hy
          · rename_i q3
            rw [Option.map_eq_none_iff] at q3
            subst q3
            exact hy
          · rename_i q3
            rw [Option.map_eq_some_iff] at q3
            obtain ⟨m, rfl, rfl⟩ := q3
            split at hy
            · rename_i hc
              simp only [Option.map_some]
              rw [if_pos ⟨by simpa using hc.1, int_le h hc.2.1, hc.2.2⟩]
              exact hy
            · cases hy
        · cases hy
      · cases hy
    · cases hy
  | convert s d y =>
    simp only [pureX] at hy ⊢
    have h1 : opX τ φ s y ≠ .u := by intro e; rw [e] at hy; unfold convX at hy; split at hy <;> simp_all
    rw [opX_le h s y h1]; exact hy
  | makeSlice t n c =>
    simp only [pureX] at hy ⊢
    split at hy
    · rename_i q1 q2
      rw [int_le h q1, int_le h q2]; exact hy
    · cases hy
  | build t ps =>
    simp only [pureX] at hy ⊢
    unfold buildX at hy ⊢
    split at hy
    · rename_i e he
      split at hy
      · rename_i hc
        rw [if_pos hc]
        split at hy
        · split at hy
          · rename_i q
            rw [fill_le h _ _ _ q]; exact hy
          · cases hy
        · split at hy
          · rename_i q
            rw [fill_le h _ _ _ q]; exact hy
          · cases hy
      · cases hy
    · cases hy
  | buildSlice t n ps =>
    simp only [pureX] at hy ⊢
    unfold buildSliceX at hy ⊢
    split at hy
    · split at hy
      · split at hy
        · split at hy
          · rename_i hc
            rw [if_pos hc]
            split at hy
            · rename_i q
              rw [fillRows_le h _ _ _ q]; exact hy
            · cases hy
          · cases hy
        · cases hy
      · cases hy
    · cases hy
  | makeFunc f fs cs =>
    cases f with
    | func f =>
      simp only [pureX] at hy ⊢
      split at hy
      · rename_i hc
        rw [if_pos hc]
        rw [Option.map_eq_some_iff] at hy ⊢
        obtain ⟨l, q, rfl⟩ := hy
        exact ⟨l, capSlots_le h q, rfl⟩
      · cases hy
    | _ => cases hy
  | call c =>
    simp only [pureX] at hy ⊢
    split at hy
    · rename_i y t q1 q2 q3
      have h1 : opX τ φ t y ≠ .u := by intro e; rw [e] at hy; unfold lenX at hy; split at hy <;> simp_all
      rw [opX_le h t y h1]; exact hy
    · rename_i y z t t' q1 q2 q3
      have h1 : opX τ φ t y ≠ .u := by intro e; rw [e] at hy; unfold appX at hy; split at hy <;> (try split at hy) <;> simp_all
      have h2 : opX τ φ t' z ≠ .u := by
        intro e; rw [e] at hy; unfold appX at hy
        repeat' (split at hy)
        all_goals simp_all
      rw [opX_le h t y h1, opX_le h t' z h2]; exact hy
    · rename_i y z q1 q2
      have h1 : opX τ φ 0 y ≠ .u := by intro e; rw [e] at hy; simp [mmX] at hy
      have h2 : opX τ φ 0 z ≠ .u := by intro e; rw [e] at hy; unfold mmX at hy; split at hy <;> simp_all
      rw [opX_le h 0 y h1, opX_le h 0 z h2]; exact hy
    · rename_i y z q1 q2
      have h1 : opX τ φ 0 y ≠ .u := by intro e; rw [e] at hy; simp [mmX] at hy
      have h2 : opX τ φ 0 z ≠ .u := by intro e; rw [e] at hy; unfold mmX at hy; split at hy <;> simp_all
      rw [opX_le h 0 y h1, opX_le h 0 z h2]; exact hy
    · cases hy
  | _ => cases hy

/-- The same of arguments that are read. -/
theorem capsX_le (h : Le φ φ') : ∀ {l : List Nat} {r : List (List D)}, capsX φ l = some r → capsX φ' l = some r
  | [], r, hy => hy
  | s :: l, r, hy => by
    unfold capsX at hy ⊢
    split at hy
    · rename_i h1 h2
      rw [h.at (by rw [h1]; simp), h1, capsX_le h h2]
      exact hy
    · cases hy

theorem argX_le (h : Le φ φ') {y : Operand} {ty : Nat} {x : X} (hy : argX τ φ .val y ty = some x) : argX τ φ' .val y ty = some x := by
  simp only [argX] at hy ⊢
  have h1 : opX τ φ ty y ≠ .u := by intro e; rw [e] at hy; cases hy
  rw [opX_le h ty y h1]
  split at hy
  · exact hy
  · exact hy
  · rw [Option.map_eq_some_iff] at hy
    obtain ⟨r, q2, rfl⟩ := hy
    simp only [capsX_le h q2, Option.map_some]
  · exact hy
  · cases hy

theorem argsX_le (h : Le φ φ') : ∀ {ks : List PK} {ys : List Operand} {tys : List Nat} {xs : List X}, (∀ k ∈ ks, k = .val) → argsX τ φ ks ys tys = some xs → argsX τ φ' ks ys tys = some xs
  | [], [], [], xs, _, hy => hy
  | k :: ks, y :: ys, t :: ts, xs, hk, hy => by
    simp only [argsX] at hy ⊢
    split at hy
    · rename_i q1 q2
      rw [hk k (by simp)] at q1 ⊢
      rw [argX_le h q1, argsX_le h (fun k' hk' => hk k' (by simp [hk'])) q2]
      exact hy
    · cases hy
  | [], _ :: _, _, _, _, hy => by simp [argsX] at hy
  | [], [], _ :: _, _, _, hy => by simp [argsX] at hy
  | _ :: _, [], _, _, _, hy => by simp [argsX] at hy
  | _ :: _, _ :: _, [], _, _, hy => by simp [argsX] at hy
end
end Go.Ev

/- One operation of a list; the tail of a region whose order is drawn. -/
namespace Go.Ev

theorem op_step {V : Env} {A : Start} {n : Nat} {colsP : Pol} {S : Nat → Option (List PK)} {F : Nat → List X → Option (List X × List X)} {Sg : Nat → Option Sig} {ops : Array Oper} {K : Act → World → Prop} {Q : Exit → Act → World → Prop} (hrg : RgOk A) (hks : A.ks = []) (hlo : A.hd.isSome = true → colsP.lo = true) (hn : n ≤ 1000)
    (hSg : ∀ f sg, Sg f = some sg → S f = some (sg.pms.map PM.pk) ∧ Does V f sg (F f)) {o : Oper} {rest : List Oper} {μ μ' : Mu} {φ φ' : Fr} {a : Act} {w : World} (hst : Stands A n φ μ a w) (hx : evOps V.τ S F ops (o :: rest) φ = some φ') (hm : chkOps V.τ Sg colsP n ops (o :: rest) μ = some μ')
    (hK : ∀ φ1 μ1 a w, Stands A n φ1 μ1 a w → evOps V.τ S F ops rest φ1 = some φ' → chkOps V.τ Sg colsP n ops rest μ1 = some μ' → K a w) :
    if Region.wanted o (yielded ops a.tmps) then o.wp V.P a w K Q ∨ (o.asks V.P a w ∧ LetsOut Q) else K (a.put o.dst undef) w := by
  obtain ⟨C, g, h0, hsz, hdf, hpar⟩ := hst
  have h := pre_sound colsP o h0
  simp only [chkOps] at hm
  generalize preM colsP o μ = μ at h hm
  split at hm
  · rename_i hs
    rw [Bool.and_eq_true] at hs
    obtain ⟨hs, hds⟩ := hs
    have hkp := dstOk_keeps hks hlo hds
    simp only [evOps, rmS_none, addS_none, inS_none, Bool.false_eq_true, if_false] at hx
    cases hg : o.guard with
    | none =>
      rw [hg] at hx hm
      simp only at hx hm
      split at hx
      · rename_i φ1 hx1
        split at hm
        · rename_i μ1 hm1
          rw [if_pos (by simp [Region.wanted, hg])]
          exact .inl (op_wp hrg hn hSg hs hsz hdf hpar hkp h hx1 hm1 fun a' w' hst' => hK φ1 μ1 a' w' hst' hx hm)
        · cases hm
      · cases hx
    | some jw =>
      obtain ⟨j, want⟩ := jw
      rw [hg] at hx hm
      simp only at hx hm
      split at hm
      · rename_i d hj
        rw [hj] at hx
        simp only at hx
        split at hm
        · rename_i hc
          simp only [Bool.and_eq_true, Nat.blt_eq] at hc
          split at hm
          · rename_i μ1 hm1
            obtain ⟨hm2, d2, sm, hd2, hput⟩ := guardM_put hm1
            split at hx
            · rename_i b hb
              have hbool := slot_bool h hc.1 hc.2 hb
              have hy : yielded ops a.tmps j = some b := by
                unfold yielded
                rw [hj]
                simp only [Option.bind_some]
                have : a.tmps[d]? = some (.bool b) := by
                  by_cases hlt : d < a.tmps.size
                  · rw [Array.getElem?_eq_getElem hlt]
                    simp [Array.getD, hlt] at hbool
                    rw [hbool]
                  · simp [Array.getD, hlt] at hbool
                    cases hbool
                rw [this]
              split at hx
              · rename_i hbw
                split at hx
                · rename_i φ1 hx1
                  rw [if_pos (by simp [Region.wanted, hg, hy, hbw])]
                  exact .inl (op_wp hrg hn hSg hs hsz hdf hpar hkp h hx1 hm2 fun a' w' hst' => hK φ1 μ1 a' w' hst' hx hm)
                · cases hx
              · rename_i hbw
                rw [if_neg (by simp [Region.wanted, hg, hy, hbw])]
                rw [hd2] at hx ⊢
                simp only [putRes] at hx
                unfold smallO at hs
                simp only [Bool.and_eq_true] at hs
                have hdn := hs.1.2
                rw [hd2] at hdn
                simp only [Nat.blt_eq] at hdn
                obtain ⟨C2, h2⟩ := skip_st (sm := sm) h (Nat.lt_of_lt_of_le hdn hn) (by rw [hsz]; exact hdn)
                have h3 : ∃ C2, St A w μ1 (upd φ d2 .u) (tmO (a.put (some d2) undef).tmps g) C2 := by
                  rcases hput with rfl | hw
                  · exact ⟨C2, h2⟩
                  · exact ⟨C2, h2.weak hw⟩
                obtain ⟨C2, h2⟩ := h3
                exact hK _ _ _ w ⟨C2, g, h2, by rw [put_size]; exact hsz, by rw [put_defers]; exact hdf, hd2 ▸ hpar.put hkp _⟩ hx hm
            · cases hx
          · cases hm
        · cases hm
      · cases hm
  · cases hm

/-- The operations behind the cut, in their one order. -/
theorem tail_wp {V : Env} {A : Start} {n : Nat} {colsP : Pol} {S : Nat → Option (List PK)} {F : Nat → List X → Option (List X × List X)} {Sg : Nat → Option Sig} {ops : Array Oper} {Q : Exit → Act → World → Prop} (hrg : RgOk A) (hks : A.ks = []) (hlo : A.hd.isSome = true → colsP.lo = true) (hn : n ≤ 1000)
    (hSg : ∀ f sg, Sg f = some sg → S f = some (sg.pms.map PM.pk) ∧ Does V f sg (F f)) {φ' : Fr} {μ' : Mu} (hQ : ∀ a w, Stands A n φ' μ' a w → Q .normal a w) {m : Nat}
    (hseq : ∀ i o, ops[i]? = some o → m ≤ i → ∀ j, j < i → ∀ (listed : Array Bool), (∀ k, listed.getD k false = true → ∀ b, b < k → listed.getD b false = true) → i ∈ Region.ready .any ops listed → listed.getD j false = true)
    (hrdy : ∀ i (listed : Array Bool), i < ops.size → listed.getD i true = false → (∀ j, j < i → listed.getD j false = true) → i ∈ Region.ready .any ops listed) :
    ∀ (rest : List Oper) (i : Nat) (fuel : Nat) (listed : Array Bool) (φ : Fr) (μ : Mu) (a : Act) (w : World), m ≤ i → rest = ops.toList.drop i → listed.size = ops.size →
      (∀ j, j < i → listed.getD j false = true) → (∀ j, i ≤ j → j < ops.size → listed.getD j true = false) → rest.length ≤ fuel →
      Stands A n φ μ a w → evOps V.τ S F ops rest φ = some φ' → chkOps V.τ Sg colsP n ops rest μ = some μ' → wpAny V.P .any ops Q fuel listed a w
  | [], i, fuel, listed, φ, μ, a, w, hmi, hr, hls, hl, hu, hf, hst, hx, hm => by
    simp only [evOps, Option.some.injEq] at hx
    simp only [chkOps, Option.some.injEq] at hm
    subst hx; subst hm
    refine wpAny_done ?_ (hQ a w hst) fuel
    have : ops.size ≤ i := by
      have := congrArg List.length hr
      simp at this
      omega
    apply List.eq_nil_iff_forall_not_mem.2
    intro j hj
    obtain ⟨h1, o, h2, _⟩ := mem_ready.1 hj
    have hlt := (Array.getElem?_eq_some_iff.1 h2).1
    have h3 := hl j (by omega)
    rw [Array.getD_eq_getD_getElem?] at h1 h3
    have : j < listed.size := by omega
    simp [this] at h1 h3
    rw [h3] at h1; cases h1
  | o :: rest, i, fuel, listed, φ, μ, a, w, hmi, hr, hls, hl, hu, hf, hst, hx, hm => by
    have hio : ops[i]? = some o := by
      have := congrArg (·[0]?) hr
      simp at this
      exact this.symm
    have hi : i < ops.size := (Array.getElem?_eq_some_iff.1 hio).1
    have hrest : rest = ops.toList.drop (i + 1) := by
      have := congrArg (List.drop 1) hr
      simpa using this
    cases fuel with
    | zero => simp at hf
    | succ fuel =>
      have hi0 : listed.getD i true = false := hu i (Nat.le_refl _) hi
      have hin : i ∈ Region.ready .any ops listed := hrdy i listed hi hi0 hl
      refine ⟨fun e => absurd (e ▸ hin) (by simp), fun j hj => ?_⟩
      have hji : j = i := by
        obtain ⟨h1, oj, h2, _⟩ := mem_ready.1 hj
        have hjs := (Array.getElem?_eq_some_iff.1 h2).1
        rcases Nat.lt_trichotomy j i with h3 | h3 | h3
        · have h4 := hl j h3
          rw [Array.getD_eq_getD_getElem?] at h1 h4
          have : j < listed.size := by omega
          simp [this] at h1 h4
          rw [h4] at h1; cases h1
        · exact h3
        · have h4 := hseq j oj h2 (by omega) i h3 listed (fun k hk b hb => by
            by_cases hki : k < i
            · exact hl b (by omega)
            · by_cases hks : k < ops.size
              · have h5 := hu k (by omega) hks
                rw [Array.getD_eq_getD_getElem?] at hk h5
                have : k < listed.size := by omega
                simp [this] at hk h5
                rw [hk] at h5; cases h5
              · rw [Array.getD_eq_getD_getElem?] at hk
                have : ¬ k < listed.size := by omega
                simp [this] at hk) hj
          have h5 := hi0
          rw [Array.getD_eq_getD_getElem?] at h4 h5
          have : i < listed.size := by omega
          simp [this] at h4 h5
          rw [h4] at h5; cases h5
      subst hji
      unfold wpOp
      rw [hio]
      refine op_step hrg hks hlo hn hSg hst hx hm fun φ1 μ1 a' w' hst' hx' hm' => ?_
      refine tail_wp hrg hks hlo hn hSg hQ hseq hrdy rest (j + 1) fuel _ φ1 μ1 a' w' (by omega) hrest (by simpa using hls) ?_ ?_ (by simpa using hf) hst' hx' hm'
      · intro k hk
        by_cases e : k = j
        · subst e
          have : k < listed.size := by omega
          simp [this]
        · exact getD_set_true (hl k (by omega))
      · intro k hk hks
        rw [getD_set_ne true (by omega)]
        exact hu k (by omega) hks

end Go.Ev

/- Operations that may go in any order: each by itself. -/
namespace Go.Ev

/-- Operations that leave nothing but one result. -/
def pureK (o : Op) : Bool := match o with
  | .store _ _ _ => false
  | .box _ _ => false
  | .call c => match c.callee with
    | .value _ => false
    | .builtin .append => false
    | _ => true
  | _ => true

/-- A copy that is put into a variable: a view. -/
def assignJ (μ : Mu) (x : Operand) : Option SM := match opM μ x with
  | .c m _ => some (.c m .no)
  | .agg ms _ => some (.agg ms .no)
  | _ => none

def pureJ (τ : List TE) (cols : List M) (μ : Mu) (o : Op) : Option SM := match o with
  | .assign x => assignJ μ x
  | o => pureM τ cols μ o

theorem pureJ_eq {τ : List TE} {cols : List M} {μ : Mu} {o : Op} (h : ∀ x, o ≠ .assign x) : pureJ τ cols μ o = pureM τ cols μ o := by
  unfold pureJ
  split
  · rename_i x; exact (h x rfl).elim
  · rfl

/-- The modes of the results of an operation that may go in any order. -/
def judge (τ : List TE) (Sg : Nat → Option Sig) (cols : List M) (o : Oper) (μ : Mu) : Option (List SM) := if pureK o.op then (pureJ τ cols μ o.op).map fun sm => [sm] else match o.op with
  | .call c => match c.callee with
    | .value (.func f) => match Sg f with
      | some sg => if sg.tys = c.argTypes.toList ∧ sg.res.all SM.resOk = true then (match argsQ τ μ sg.pms c.args.toList c.argTypes.toList with
        | some as => some (sg.res.map (SM.map (substQ as)))
        | none => none) else none
      | none => none
    | _ => none
  | _ => none

section
variable {V : Env} {A : Start} {w w' : World} {μ μ' : Mu} {φ φ' : Fr} {C : Cx} {a : Act} {g : Nat → Value} {o : Oper} {x : X}
variable {S : Nat → Option (List PK)} {F : Nat → List X → Option (List X × List X)} {Sg : Nat → Option Sig} {τ : List TE}

theorem assign_pure {y : Operand} {sm : SM} (ho : o.op = .assign y) (h : St A w μ φ (tmO a.tmps g) C) (hs : sm1 y = true) (hx : pureX V.τ φ o.op o.type = some x) (hm : assignJ μ y = some sm) : PureOk V w C φ (tmO a.tmps g) a o x sm := by
  rw [ho] at hx
  simp only [pureX] at hx
  have hrun : (execOp a.eval o).run V.P w = .ok (.value (a.eval y)) w := by simp [execOp, ho]
  have hu : opX V.τ φ o.type y ≠ .u := by intro e; rw [e] at hx; cases hx
  have hxe : x = ownX (opX V.τ φ o.type y) := by
    generalize opX V.τ φ o.type y = q at hx hu
    cases q <;> first | exact (hu rfl).elim | (simp only [Option.some.injEq] at hx; exact hx.symm)
  have hcl := fun s => op_sound (s := s) h hs (τ := V.τ) (ty := o.type) hu
  have hno := opM_noOwn μ y
  unfold assignJ at hm
  refine .inl ⟨a.eval y, hrun, ?_⟩
  split at hm
  · rename_i m og hop
    cases hm
    rw [hop] at hno hcl
    refine ⟨hno, fun s => ?_⟩
    obtain ⟨d, o', e1, e2, _⟩ := hcl s
    rw [hxe, e1]
    exact ⟨d, none, rfl, e2, fun _ => rfl⟩
  · rename_i ms og hop
    cases hm
    rw [hop] at hno hcl
    refine ⟨hno, fun s => ?_⟩
    obtain ⟨ds, o', vs, e1, e2, e3, e4, e5, _⟩ := hcl s
    rw [hxe, e1]
    exact ⟨ds, none, vs, rfl, e2, e3, e4, e5, rfl⟩
  · cases hm

/-- What an operation answers. -/
def Yields (τ : List TE) (S : Nat → Option (List PK)) (F : Nat → List X → Option (List X × List X)) (φ : Fr) (o : Oper) (rs : List X) : Prop :=
  rs.length ≤ 8 ∧ ((pureK o.op = true ∧ ∃ x, pureX τ φ o.op o.type = some x ∧ rs = [x]) ∨
  (∃ c f ks as outs, o.op = .call c ∧ c.callee = .value (.func f) ∧ S f = some ks ∧ (∀ k ∈ ks, k = .val) ∧ argsX τ φ (ks.take c.args.size) c.args.toList c.argTypes.toList = some as ∧ F f as = some (rs, outs)))

theorem Yields.le {rs : List X} (hl : Le φ φ') (h : Yields τ S F φ o rs) : Yields τ S F φ' o rs := by
  refine ⟨h.1, ?_⟩
  rcases h.2 with ⟨h1, x, h2, h3⟩ | ⟨c, f, ks, as, outs, h1, h2, h3, h4, h5, h6⟩
  · exact .inl ⟨h1, x, pureX_le hl h2, h3⟩
  · exact .inr ⟨c, f, ks, as, outs, h1, h2, h3, h4, argsX_le hl (fun k hk => h4 k (List.mem_of_mem_take hk)) h5, h6⟩

theorem evOp_pure (hk : pureK o.op = true) (h : evOp τ S F o φ = some φ') : ∃ x, pureX τ φ o.op o.type = some x ∧ φ' = putRes o.dst [x] φ := by
  have fin : ∀ {q : Option X}, (match q with | some x => some (putRes o.dst [x] φ) | none => none) = some φ' → ∃ x, q = some x ∧ φ' = putRes o.dst [x] φ := by
    intro q hq
    cases q with
    | none => cases hq
    | some x => exact ⟨x, rfl, by simpa using hq.symm⟩
  unfold evOp at h
  cases ho : o.op with
  | store t y z => rw [ho] at hk; cases hk
  | call c =>
    rw [ho] at hk h
    simp only [pureK] at hk
    simp only at h
    split at h
    · rename_i e; rw [e] at hk; cases hk
    · rename_i e; rw [e] at hk; cases hk
    · exact fin h
  | _ => rw [ho] at h; exact fin h

theorem evOp_yields {cols : List M} {ms : List SM} (hSg : ∀ f sg, Sg f = some sg → S f = some (sg.pms.map PM.pk)) (hj : judge τ Sg cols o μ = some ms) (h : evOp τ S F o φ = some φ') : ∃ rs, Yields τ S F φ o rs ∧ φ' = putRes o.dst rs φ := by
  unfold judge at hj
  split at hj
  · rename_i hk
    obtain ⟨x, h1, h2⟩ := evOp_pure hk h
    exact ⟨[x], ⟨by simp, .inl ⟨hk, x, h1, rfl⟩⟩, h2⟩
  · split at hj
    · rename_i c ho
      split at hj
      · rename_i f hc
        split at hj
        · rename_i sg hsg
          split at hj
          · split at hj
            · rename_i as has
              have hS := hSg f sg hsg
              have hval : ∀ k ∈ sg.pms.map PM.pk, k = .val := by
                intro k hk
                rw [List.mem_map] at hk
                obtain ⟨pm, hpm, rfl⟩ := hk
                exact argsQ_val has pm hpm
              unfold evOp at h
              rw [ho] at h
              simp only [hc] at h
              unfold callX at h
              rw [hS] at h
              simp only at h
              split at h
              · rename_i xs hxs
                split at h
                · rename_i rs outs hF
                  rw [List.append_nil] at hF
                  split at h
                  · rename_i h8
                    split at h
                    · rename_i φ1 hback
                      cases h
                      have hφ1 := backs_val (fun k hk => hval k (List.mem_of_mem_take hk)) hback
                      subst hφ1
                      exact ⟨rs, ⟨h8, .inr ⟨c, f, _, xs, outs, ho, hc, hS, hval, hxs, hF⟩⟩, rfl⟩
                    · cases h
                  · cases h
                · cases h
              · cases h
            · cases hj
          · cases hj
        · cases hj
      · cases hj
    · cases hj

theorem argsQ_len {μ : Mu} : ∀ {pms : List PM} {ys : List Operand} {tys : List Nat} {pss : List (List Pv)}, argsQ τ μ pms ys tys = some pss → pms.length = ys.length := by
  intro pms
  induction pms with
  | nil => intro ys tys pss hq; cases ys <;> cases tys <;> simp_all [argsQ]
  | cons pm pms ih =>
    intro ys tys pss hq
    cases ys with
    | nil => simp [argsQ] at hq
    | cons y ys =>
      cases tys with
      | nil => simp [argsQ] at hq
      | cons t tys =>
        simp only [argsQ] at hq
        split at hq
        · rename_i p ps hp hps; simp [ih hps]
        · cases hq

/-- An operation that is judged by less than is known. -/
theorem settle_op {n : Nat} {cols : List M} {ms : List SM} {rs : List X} {μi μD μD' : Mu} {next : Act → World → Prop} {Q : Exit → Act → World → Prop} (hn : n ≤ 1000)
    (hSg : ∀ f sg, Sg f = some sg → S f = some (sg.pms.map PM.pk) ∧ Does V f sg (F f)) (hs : smallO n o = true) (hsz : a.tmps.size = n) (hdf : a.defers = []) (hpar : Par A a) (hkp : Keeps A o) (hi : St A w μi φ (tmO a.tmps g) C) (h : St A w μD φ (tmO a.tmps g) C)
    (hj : judge V.τ Sg cols o μi = some ms) (hy : Yields V.τ S F φ o rs) (hp : putResM o.dst ms μD = some μD') (hK : ∀ a w, Stands A n (putRes o.dst rs φ) μD' a w → next a w) : o.wp V.P a w next Q := by
  have hs' := hs
  unfold smallO at hs'
  simp only [Bool.and_eq_true] at hs'
  obtain ⟨⟨hso, hsd⟩, _⟩ := hs'
  have hdst : ∀ d, o.dst = some d → d < 1000 ∧ d < a.tmps.size := by
    intro d hd
    rw [hd] at hsd
    have : Nat.lt d n := by simpa [Nat.blt_eq] using hsd
    have : @LT.lt Nat _ d n := this
    exact ⟨Nat.lt_of_lt_of_le this hn, by rw [hsz]; exact this⟩
  obtain ⟨h8, hy⟩ := hy
  unfold judge at hj
  rcases hy with ⟨hk, x, hx, rfl⟩ | ⟨c, f, ks, as, outs, ho, hc, hks, hval, has, hF⟩
  · rw [if_pos hk] at hj
    rw [Option.map_eq_some_iff] at hj
    obtain ⟨sm, hsm, rfl⟩ := hj
    have hpo : PureOk V w C φ (tmO a.tmps g) a o x sm := by
      by_cases he : ∃ y, o.op = .assign y
      · obtain ⟨y, he⟩ := he
        rw [he] at hsm
        exact assign_pure he hi (by rw [he] at hso; simpa [Op.operands] using hso) hx hsm
      · rw [pureJ_eq fun y e => he ⟨y, e⟩] at hsm
        exact pure_sound (V := V) hi hso hx hsm
    refine OpOk.wp (n := n) (φ' := putRes o.dst [x] φ) (μ' := μD') (g := g) ?_ hsz hdf hpar hkp hK
    cases hds : o.dst with
    | none =>
      rw [hds] at hp
      simp only [putResM, Option.some.injEq] at hp
      subst hp
      rcases hpo with ⟨v, h1, _⟩ | ⟨v, w', h1, h2, _⟩
      · exact ⟨_, v, w, C, g, h1, .inl rfl, by rw [hds]; exact h⟩
      · exact ⟨_, v, w', C, g, h1, .inl rfl, by rw [hds]; exact h.ext h2⟩
    | some d =>
      obtain ⟨d1, d2⟩ := hdst d hds
      rw [hds] at hp
      simp only [putResM, Option.some.injEq] at hp
      subst hp
      obtain ⟨v, w', C', h1, _, h3⟩ := hpo.st h d1 d2
      exact ⟨_, v, w', C', g, h1, .inl rfl, by rw [hds]; exact h3⟩
  · have hnk : pureK o.op = false := by rw [ho]; simp [pureK, hc]
    rw [hnk] at hj
    simp only [ho, hc, Bool.false_eq_true, if_false] at hj
    split at hj
    · rename_i sg hsg
      obtain ⟨hS, hD⟩ := hSg f sg hsg
      split at hj
      · rename_i hcond
        obtain ⟨hty, hok⟩ := hcond
        split at hj
        · rename_i pss hpss
          cases hj
          rw [hS] at hks
          cases hks
          have hl := argsQ_len hpss
          have hl0 : c.args.toList.length = c.args.size := by simp
          rw [List.take_of_length_le (by rw [List.length_map]; omega)] at has
          have hsa : c.args.toList.all sm1 = true := by
            rw [ho] at hso
            simp only [Op.operands, Call.operands, Array.all_append, Bool.and_eq_true] at hso
            simpa using hso.2
          obtain ⟨l1, l2, l3, harg⟩ := argsQ_sound hi hsa has hpss
          obtain ⟨⟨fn, b, hf, hbd, hname⟩, hD, _⟩ := hD
          have hD := hD (argsQ_quiet hpss)
          have hrun : (execOp a.eval o).run V.P w = .ok (.enter f (c.args.toList.map a.eval).toArray) w := by
            have e1 : c.args.map a.eval = (c.args.toList.map a.eval).toArray := by apply Array.ext'; simp
            simp only [execOp, ho, resolve, hc]
            have e2 : a.eval (.func f) = .func (.func f) #[] #[] := rfl
            simp [e2, Deferred.ofValue, invoke, callFunc, hf, hname, hbd, e1]
          unfold Oper.wp
          rw [hrun, Oper.upon_enter]
          refine (hD w C.G (fun i => okB C (pss.getD i [])) (c.args.toList.map a.eval) as (by simpa using l2) l1 (fun b hb => (h.frz b hb).1) (fun i b hb => h.ok_lt hb) ?_ rs outs hF).mono ?_
          · intro i x v pm ty q1 q2 q3 q4
            rw [List.getElem?_map, Option.map_eq_some_iff] at q2
            obtain ⟨y, hy, rfl⟩ := q2
            exact harg i x y pm ty q1 hy q3 (by rw [← hty]; exact q4)
          · rintro e w' ⟨vs, C', rfl, hdone⟩
            obtain ⟨C2, g', h2⟩ := call_put (o := o) h hdst (fun b hb => hb) (fun i b hb => hb) hdone hok h8 hp
            exact hK _ _ ⟨C2, g', h2, by rw [put_size]; exact hsz, by rw [put_defers]; exact hdf, hpar.put hkp _⟩
        · cases hj
      · cases hj
    · cases hj
end
end Go.Ev

/- Results that may come in any order: the frame behind them. -/
namespace Go.Ev

theorem hit_disj {d d' s : Nat} (h1 : d < 1000) (h2 : d' < 1000) (h : hit d s = true) (h' : hit d' s = true) : d = d' := by
  unfold hit isCix cix at h h'
  simp only [Bool.or_eq_true, beq_iff_eq, Bool.and_eq_true, decide_eq_true_iff] at h h'
  omega

def patch (f : Nat → Option X) (φ : Fr) : Fr := fun s => match f s with
  | some x => x
  | none => φ s

theorem patch_patch (f g : Nat → Option X) (φ : Fr) : patch f (patch g φ) = patch (fun s => match f s with | some x => some x | none => g s) φ := by
  funext s
  cases e : f s <;> simp [patch, e]

theorem upd_patch (t : Nat) (x : X) (φ : Fr) : upd φ t x = patch (fun s => if s = t then some x else none) φ := by
  funext s
  unfold upd patch
  by_cases e : s = t <;> simp [e]

theorem putComps_patch (t : Nat) : ∀ (rs : List X) (i : Nat), ∃ f, (∀ φ, putComps t i rs φ = patch f φ) ∧ ∀ s, f s ≠ none → ∃ k, k < rs.length ∧ s = cix t (i + k)
  | [], i => ⟨fun _ => none, fun φ => rfl, by simp⟩
  | x :: rs, i => by
    obtain ⟨f, h1, h2⟩ := putComps_patch t rs (i + 1)
    refine ⟨_, fun φ => by rw [putComps, h1, upd_patch, patch_patch], ?_⟩
    intro s hs
    split at hs
    · rename_i y hy
      obtain ⟨k, hk, e⟩ := h2 s (by rw [hy]; simp)
      exact ⟨k + 1, by simpa using hk, by rw [e]; congr 1; omega⟩
    · split at hs
      · rename_i e; exact ⟨0, by simp, e⟩
      · exact (hs rfl).elim

theorem putRes_patch (dst : Option Tmp) (rs : List X) (h8 : rs.length ≤ 8) : ∃ f, (∀ φ, putRes dst rs φ = patch f φ) ∧ ∀ s, f s ≠ none → ∃ d, dst = some d ∧ hit d s = true := by
  cases dst with
  | none => exact ⟨fun _ => none, fun φ => rfl, by simp⟩
  | some d =>
    have one : ∀ x : X, ∃ f, (∀ φ, upd φ d x = patch f φ) ∧ ∀ s, f s ≠ none → ∃ d', some d = some d' ∧ hit d' s = true := fun x =>
      ⟨_, fun φ => upd_patch d x φ, fun s hs => by
        by_cases e : s = d
        · exact ⟨d, rfl, by rw [e]; exact hit_self d⟩
        · simp [e] at hs⟩
    match rs with
    | [] => exact one .u
    | [r] => exact one r
    | r1 :: r2 :: rs =>
      obtain ⟨f, h1, h2⟩ := putComps_patch d (r1 :: r2 :: rs) 0
      refine ⟨_, fun φ => by rw [putRes, h1, upd_patch, patch_patch] <;> simp, ?_⟩
      intro s hs
      refine ⟨d, rfl, ?_⟩
      split at hs
      · rename_i y hy
        by_cases e : s = d
        · rw [e]; exact hit_self d
        · simp [e] at hy
      · obtain ⟨k, hk, e⟩ := h2 s hs
        rw [e]
        unfold hit isCix cix
        simp only [Bool.or_eq_true, beq_iff_eq, Bool.and_eq_true, decide_eq_true_iff]
        omega

theorem Le.refl (φ : Fr) : Le φ φ := fun _ => .inr rfl
theorem Le.trans {a b c : Fr} (h : Le a b) (k : Le b c) : Le a c := fun s => by
  rcases h s with h1 | h1
  · exact .inl h1
  · rcases k s with k1 | k1
    · exact .inl (by rw [← h1, k1])
    · exact .inr (by rw [k1, h1])

section
variable {S : Nat → Option (List PK)} {F : Nat → List X → Option (List X × List X)} {τ : List TE} {ops : Array Oper}

/-- What an operation has come to, in the frame behind all. -/
def Come (τ : List TE) (S : Nat → Option (List PK)) (F : Nat → List X → Option (List X × List X)) (ops : Array Oper) (φ : Fr) (o : Oper) : Prop := match o.guard with
  | none => ∃ rs, Yields τ S F φ o rs ∧ putRes o.dst rs φ = φ
  | some (j, want) => ∃ d b, (ops[j]?).bind (·.dst) = some d ∧ (φ d).val = some (.bool b) ∧ (b = want → ∃ rs, Yields τ S F φ o rs ∧ putRes o.dst rs φ = φ) ∧
      (b ≠ want → ∀ d', o.dst = some d' → φ d' = .u)

/-- Each of the operations is one that may go in any order. -/
def AnyOrder (τ : List TE) (S : Nat → Option (List PK)) (F : Nat → List X → Option (List X × List X)) (o : Oper) : Prop := ∀ φ φ', evOp τ S F o φ = some φ' → ∃ rs, Yields τ S F φ o rs ∧ φ' = putRes o.dst rs φ

theorem come_all : ∀ (l : List Oper) (φ0 φF : Fr), evOps τ S F ops l φ0 = some φF → (∀ o ∈ l, AnyOrder τ S F o) → (l.filterMap (·.dst)).Nodup → (∀ d ∈ l.filterMap (·.dst), d < 1000) →
    (∀ d ∈ l.filterMap (·.dst), ∀ s, hit d s = true → φ0 s = .u) → Le φ0 φF ∧ (∀ s, (∀ d ∈ l.filterMap (·.dst), hit d s = false) → φF s = φ0 s) ∧ ∀ o ∈ l, Come τ S F ops φF o
  | [], φ0, φF, h, _, _, _, _ => by
    simp only [evOps, Option.some.injEq] at h
    subst h
    exact ⟨.refl _, fun _ _ => rfl, by simp⟩
  | o :: l, φ0, φF, h, ha, hn, hd, h0 => by
    have hn' : (l.filterMap (·.dst)).Nodup := by
      simp only [List.filterMap_cons] at hn
      split at hn
      · exact hn
      · exact (List.nodup_cons.1 hn).2
    have hsub : ∀ d ∈ l.filterMap (·.dst), d ∈ (o :: l).filterMap (·.dst) := by
      intro d hd
      simp only [List.filterMap_cons]
      split
      · exact hd
      · exact List.mem_cons_of_mem _ hd
    have hown : ∀ d, o.dst = some d → d ∈ (o :: l).filterMap (·.dst) ∧ ∀ d' ∈ l.filterMap (·.dst), ∀ s, hit d s = true → hit d' s = false := by
      intro d e
      have hm : d ∈ (o :: l).filterMap (·.dst) := by simp [List.filterMap_cons, e]
      refine ⟨hm, ?_⟩
      intro d' hd' s hs
      rw [Bool.eq_false_iff]
      intro hs'
      have := hit_disj (hd d hm) (hd d' (hsub d' hd')) hs hs'
      subst this
      simp only [List.filterMap_cons, e, List.nodup_cons] at hn
      exact hn.1 hd'
    -- a step: results are put down
    have step : ∀ rs : List X, rs.length ≤ 8 → evOps τ S F ops l (putRes o.dst rs φ0) = some φF → Le φ0 φF ∧ (∀ s, (∀ d ∈ (o :: l).filterMap (·.dst), hit d s = false) → φF s = φ0 s) ∧ (∀ o ∈ l, Come τ S F ops φF o) ∧ putRes o.dst rs φF = φF := by
      intro rs h8 he
      obtain ⟨f, hf1, hf2⟩ := putRes_patch o.dst rs h8
      have hle0 : Le φ0 (putRes o.dst rs φ0) := by
        intro s
        rw [hf1]
        unfold patch
        split
        · rename_i x hx
          obtain ⟨d, e, hh⟩ := hf2 s (by rw [hx]; simp)
          exact .inl (h0 d (hown d e).1 s hh)
        · exact .inr rfl
      obtain ⟨r1, r2, r3⟩ := come_all l _ φF he (fun o' ho' => ha o' (List.mem_cons_of_mem _ ho')) hn' (fun d hd' => hd d (hsub d hd')) (by
        intro d' hd' s hs
        rw [hf1]
        unfold patch
        split
        · rename_i x hx
          obtain ⟨d, e, hh⟩ := hf2 s (by rw [hx]; simp)
          have := (hown d e).2 d' hd' s hh
          rw [hs] at this; cases this
        · exact h0 d' (hsub d' hd') s hs)
      refine ⟨hle0.trans r1, ?_, r3, ?_⟩
      · intro s hs
        rw [r2 s fun d hd' => hs d (hsub d hd'), hf1]
        unfold patch
        split
        · rename_i x hx
          obtain ⟨d, e, hh⟩ := hf2 s (by rw [hx]; simp)
          have := hs d (hown d e).1
          rw [hh] at this; cases this
        · rfl
      · rw [hf1 φF]
        funext s
        unfold patch
        split
        · rename_i x hx
          obtain ⟨d, e, hh⟩ := hf2 s (by rw [hx]; simp)
          rw [r2 s fun d' hd' => (hown d e).2 d' hd' s hh, hf1]
          simp [patch, hx]
        · rfl
    have doit : ∀ φ1, evOp τ S F o φ0 = some φ1 → evOps τ S F ops l φ1 = some φF → Le φ0 φF ∧ (∀ s, (∀ d ∈ (o :: l).filterMap (·.dst), hit d s = false) → φF s = φ0 s) ∧ (∀ o ∈ l, Come τ S F ops φF o) ∧ ∃ rs, Yields τ S F φF o rs ∧ putRes o.dst rs φF = φF := by
      intro φ1 he hr
      obtain ⟨rs, hy, rfl⟩ := ha o (by simp) φ0 φ1 he
      obtain ⟨q1, q2, q3, q4⟩ := step rs hy.1 hr
      exact ⟨q1, q2, q3, rs, hy.le q1, q4⟩
    simp only [evOps, rmS_none, addS_none, inS_none, Bool.false_eq_true, if_false] at h
    split at h
    · rename_i hg
      split at h
      · rename_i φ1 he
        obtain ⟨q1, q2, q3, q4⟩ := doit φ1 he h
        refine ⟨q1, q2, ?_⟩
        intro o' ho'
        rcases List.mem_cons.1 ho' with rfl | ho'
        · unfold Come; rw [hg]; exact q4
        · exact q3 o' ho'
      · cases h
    · rename_i j want hg
      split at h
      · rename_i d hj
        split at h
        · rename_i b hb
          have hbF : ∀ {ψ : Fr}, Le φ0 ψ → (ψ d).val = some (.bool b) := by
            intro ψ hle
            rw [hle.at (by intro e; rw [e] at hb; cases hb)]; exact hb
          split at h
          · rename_i hbw
            split at h
            · rename_i φ1 he
              obtain ⟨q1, q2, q3, q4⟩ := doit φ1 he h
              refine ⟨q1, q2, ?_⟩
              intro o' ho'
              rcases List.mem_cons.1 ho' with rfl | ho'
              · unfold Come; rw [hg]; exact ⟨d, b, hj, hbF q1, fun _ => q4, fun hne => absurd hbw hne⟩
              · exact q3 o' ho'
            · cases h
          · rename_i hbw
            obtain ⟨q1, q2, q3, q4⟩ := step [] (by simp) h
            refine ⟨q1, q2, ?_⟩
            intro o' ho'
            rcases List.mem_cons.1 ho' with rfl | ho'
            · unfold Come; rw [hg]
              refine ⟨d, b, hj, hbF q1, fun e => absurd e hbw, ?_⟩
              intro _ d' e'
              rw [← q4, e']
              simp [putRes, upd]
            · exact q3 o' ho'
        · cases h
      · cases h

theorem evOps_append : ∀ (l l' : List Oper) (φ φ' : Fr), evOps τ S F ops (l ++ l') φ = some φ' → ∃ φ1, evOps τ S F ops l φ = some φ1 ∧ evOps τ S F ops l' φ1 = some φ'
  | [], l', φ, φ', h => ⟨φ, rfl, h⟩
  | o :: l, l', φ, φ', h => by
    simp only [List.cons_append, evOps, rmS_none, addS_none, inS_none, Bool.false_eq_true, if_false] at h ⊢
    split at h
    · split at h
      · exact evOps_append l l' _ φ' h
      · cases h
    · split at h
      · split at h
        · split at h
          · rename_i hb
            split at h
            · obtain ⟨φ1, h1, h2⟩ := evOps_append l l' _ φ' h
              rename_i he
              exact ⟨φ1, by rw [if_pos hb]; exact h1, h2⟩
            · cases h
          · rename_i hb
            obtain ⟨φ1, h1, h2⟩ := evOps_append l l' _ φ' h
            exact ⟨φ1, by rw [if_neg hb]; exact h1, h2⟩
        · cases h
      · cases h
end
end Go.Ev

/- Results that may come in any order: their modes. -/
namespace Go.Ev

/-- No reference to these slots. -/
def SM.free (p : Nat → Bool) : SM → Bool
  | .c _ (.at s _) => !p s
  | .c _ (.ats s _ _) => !p s
  | .c _ (.vw s) => !p s
  | .agg _ (.at s _) => !p s
  | .agg _ (.ats s _ _) => !p s
  | .agg _ (.vw s) => !p s
  | .pt s _ => !p s
  | .pa s _ _ => !p s
  | .pv _ s => !p s
  | .tup b _ => !p b
  | .clo _ caps => !caps.any p
  | _ => true

theorem SM.free_dropS {p : Nat → Bool} {t : Nat} (hp : ∀ s, hit t s = true → p s = true) {m : SM} (h : m.free p = true) : m.dropS t = m := by
  have key : ∀ s, p s = false → hit t s = false := by
    intro s hs
    rw [Bool.eq_false_iff]
    intro e
    rw [hp s e] at hs; cases hs
  cases m with
  | c m o => cases o <;> simp_all [SM.free, SM.dropS, Og.dropS]
  | agg m o => cases o <;> simp_all [SM.free, SM.dropS, Og.dropS]
  | clo f caps =>
    simp only [SM.free, Bool.not_eq_true'] at h
    have : caps.any (hit t) = false := by
      rw [List.any_eq_false] at h ⊢
      intro c hc
      have := key c (by simpa using h c hc)
      simp [this]
    simp [SM.dropS, this]
  | _ => simp_all [SM.free, SM.dropS]

def seeM (μ0 : Mu) (Es : List Mu) (b : List Nat) : Mu := (b.flatMap fun j => Es.getD j []) ++ μ0

/-- Slots of results that are not surely there where operation i runs. -/
def othersD (dl : List (Option Tmp)) (i : Nat) (b : List Nat) : List Nat := dl.zipIdx.filterMap fun p => if p.2 == i || b.contains p.2 then none else p.1

def guardS (ops : Array Oper) (o : Oper) (μ : Mu) (b : List Nat) (ms : List SM) : Bool := match o.guard with
  | none => true
  | some (j, _) => b.contains j && ms.length == 1 && o.dst.isSome && (match (ops[j]?).bind (·.dst) with
    | some d => Nat.blt d 1000 && rdO μ (.tmp d)
    | none => false)

section
variable (τ : List TE) (Sg : Nat → Option Sig) (colsP : Pol) (n : Nat) (ops : Array Oper) (μ0 : Mu) (dl : List (Option Tmp))

def settleM : Nat → List Oper → List (List Nat) → List Mu → Option (List Mu)
  | _, [], _, Es => some Es
  | _, _ :: _, [], _ => none
  | i, o :: l, b :: bs, Es =>
    let μ := seeM μ0 Es b
    if smallO n o && b.all (fun j => Nat.blt j i) then (match judge τ Sg (colsP.cols o μ) o μ with
      | some ms =>
        let E := entE o.dst ms
        if Nat.ble ms.length 8 && List.all E (fun p => p.2.free (isHit (othersD dl i b))) && guardS ops o μ b ms then settleM (i + 1) l bs (Es ++ [E]) else none
      | none => none) else none

structure JudgedAt (EF : List Mu) (i : Nat) (o : Oper) (b : List Nat) : Prop where
  small : smallO n o = true
  lt : ∀ j ∈ b, j < i
  ex : ∃ cols ms, judge τ Sg cols o (seeM μ0 EF b) = some ms ∧ ms.length ≤ 8 ∧ EF.getD i [] = entE o.dst ms ∧ (∀ p ∈ entE o.dst ms, p.2.free (isHit (othersD dl i b)) = true) ∧ guardS ops o (seeM μ0 EF b) b ms = true
end

section
variable {τ : List TE} {Sg : Nat → Option Sig} {colsP : Pol} {n : Nat} {ops : Array Oper} {μ0 : Mu} {dl : List (Option Tmp)}

theorem seeM_pre {Es Ys : List Mu} {b : List Nat} (h : ∀ j ∈ b, j < Es.length) : seeM μ0 (Es ++ Ys) b = seeM μ0 Es b := by
  unfold seeM
  congr 1
  induction b with
  | nil => rfl
  | cons j b ih =>
    have := h j (by simp)
    simp only [List.flatMap_cons, ih fun k hk => h k (by simp [hk])]
    simp [List.getD_eq_getElem?_getD, List.getElem?_append_left this]

theorem settleM_spec : ∀ (l : List Oper) (i : Nat) (bs : List (List Nat)) (Es EF : List Mu), i = Es.length → settleM τ Sg colsP n ops μ0 dl i l bs Es = some EF →
    ∃ Ys, EF = Es ++ Ys ∧ Ys.length = l.length ∧ ∀ k o b, l[k]? = some o → bs[k]? = some b → JudgedAt τ Sg n ops μ0 dl EF (i + k) o b
  | [], i, bs, Es, EF, hi, h => by
    simp only [settleM, Option.some.injEq] at h
    exact ⟨[], by simp [h], rfl, by simp⟩
  | o :: l, i, [], Es, EF, hi, h => by simp [settleM] at h
  | o :: l, i, b :: bs, Es, EF, hi, h => by
    simp only [settleM] at h
    split at h
    · rename_i hc
      simp only [Bool.and_eq_true, List.all_eq_true, Nat.blt_eq] at hc
      split at h
      · rename_i ms hms
        split at h
        · rename_i hc2
          simp only [Bool.and_eq_true, List.all_eq_true, Nat.ble_eq] at hc2
          obtain ⟨Ys, h1, h2, h3⟩ := settleM_spec l (i + 1) bs _ EF (by simp [hi]) h
          have hpre : seeM μ0 EF b = seeM μ0 Es b := by
            rw [h1, List.append_assoc]
            exact seeM_pre fun j hj => by rw [← hi]; exact hc.2 j hj
          refine ⟨entE o.dst ms :: Ys, by rw [h1]; simp, by simp [h2], ?_⟩
          intro k o' b' hk hb
          cases k with
          | zero =>
            simp only [List.getElem?_cons_zero, Option.some.injEq] at hk hb
            subst hk; subst hb
            refine ⟨hc.1, fun j hj => hc.2 j hj, _, ms, by rw [hpre]; exact hms, hc2.1.1, ?_, fun p hp => hc2.1.2 p hp, by rw [hpre]; exact hc2.2⟩
            rw [h1, hi]
            simp [List.getD_eq_getElem?_getD]
          | succ k =>
            simp only [List.getElem?_cons_succ] at hk hb
            have := h3 k o' b' hk hb
            rw [show i + (k + 1) = i + 1 + k by omega]
            exact this
        · cases h
      · cases h
    · cases h

theorem entE_hit {dst : Option Tmp} {ms : List SM} (h8 : ms.length ≤ 8) {s : Nat} {x : SM} (h : List.lookup s (entE dst ms) = some x) : ∃ d, dst = some d ∧ hit d s = true := by
  unfold entE at h
  split at h
  · simp at h
  · rename_i d
    refine ⟨d, rfl, ?_⟩
    split at h
    · simp at h
    · rw [List.lookup_cons] at h
      split at h
      · rename_i e; simp at e; rw [e]; exact hit_self d
      · simp at h
    · rw [List.lookup_cons] at h
      split at h
      · rename_i e; simp at e; rw [e]; exact hit_self d
      · have := lookup_comps d [] ms 0 s
        simp only [List.append_nil] at this
        rw [this] at h
        split at h
        · rename_i e
          unfold hit isCix
          simp only [Bool.or_eq_true, beq_iff_eq, Bool.and_eq_true, decide_eq_true_iff]
          right
          refine ⟨e.1, ?_⟩
          have := e.2
          unfold cix at this ⊢
          omega
        · simp at h

theorem seeM_get {Es : List Mu} {s : Nat} {x : SM} : ∀ (b : List Nat), List.lookup s (seeM μ0 Es b) = some x → (∃ j ∈ b, List.lookup s (Es.getD j []) = some x) ∨ List.lookup s μ0 = some x
  | [], h => .inr h
  | j :: b, h => by
    unfold seeM at h
    rw [List.flatMap_cons, List.append_assoc, lookup_append'] at h
    split at h
    · rename_i y hy
      cases h
      exact .inl ⟨j, by simp, hy⟩
    · rcases seeM_get b h with ⟨j', h1, h2⟩ | h1
      · exact .inl ⟨j', by simp [h1], h2⟩
      · exact .inr h1

theorem lookup_mem {α : Type} {l : List (Nat × α)} {s : Nat} {x : α} (h : List.lookup s l = some x) : (s, x) ∈ l := by
  induction l with
  | nil => cases h
  | cons a l ih =>
    obtain ⟨k, y⟩ := a
    rw [List.lookup_cons] at h
    split at h
    · rename_i e; simp at e; cases h; simp [e]
    · exact List.mem_cons_of_mem _ (ih h)

end
end Go.Ev

/- A region whose order is drawn. -/
namespace Go.Ev

def nodupB : List Nat → Bool
  | [] => true
  | x :: l => !l.contains x && nodupB l

theorem nodupB_spec : ∀ {l : List Nat}, nodupB l = true → l.Nodup
  | [], _ => .nil
  | x :: l, h => by
    simp only [nodupB, Bool.and_eq_true, Bool.not_eq_true', List.contains_eq_mem, decide_eq_false_iff_not] at h
    exact List.nodup_cons.2 ⟨h.1, nodupB_spec h.2⟩

/-- What is asked of the region's own text. -/
def textOk (ops : Array Oper) (B : List (List Nat)) (m : Nat) : Bool :=
  Nat.ble m ops.size && B.length == ops.size &&
  ((List.range ops.size).all fun i => match ops[i]? with
    | none => false
    | some o => ((B.getD i []).all fun b => o.after.toList.any fun e => Region.binds .any e && (e.on == b || (B.getD e.on []).contains b)) &&
        (o.after.toList.all fun e => !Region.binds .any e || Nat.blt e.on i) &&
        ((B.getD i []).all fun b => Nat.blt b i) &&
        (Nat.blt i m || (List.range i).all (B.getD i []).contains)) &&
  nodupB (dstsOf (ops.toList.take m))

structure TextOk (ops : Array Oper) (B : List (List Nat)) (m : Nat) : Prop where
  le : m ≤ ops.size
  len : B.length = ops.size
  via : ∀ i o, ops[i]? = some o → ∀ b ∈ B.getD i [], ∃ e ∈ o.after, Region.binds .any e = true ∧ (e.on = b ∨ b ∈ B.getD e.on [])
  edge : ∀ i o, ops[i]? = some o → ∀ e ∈ o.after, Region.binds .any e = true → e.on < i
  lt : ∀ i, ∀ b ∈ B.getD i [], b < i
  tail : ∀ i, i < ops.size → m ≤ i → ∀ j, j < i → j ∈ B.getD i []
  dsts : ((ops.toList.take m).filterMap (·.dst)).Nodup

theorem mem_getD {b : Nat} {B : List (List Nat)} {i : Nat} (h : b ∈ B.getD i []) : i < B.length := by
  rw [List.getD_eq_getElem?_getD] at h
  cases e : B[i]? with
  | none => rw [e] at h; simp at h
  | some q => exact (List.getElem?_eq_some_iff.1 e).1

theorem textOk_spec {ops : Array Oper} {B : List (List Nat)} {m : Nat} (h : textOk ops B m = true) : TextOk ops B m := by
  unfold textOk at h
  simp only [Bool.and_eq_true, Nat.ble_eq, beq_iff_eq] at h
  obtain ⟨⟨⟨h1, h2⟩, h3⟩, h4⟩ := h
  rw [List.all_eq_true] at h3
  have k : ∀ i o, ops[i]? = some o → _ := fun i o ho => by
    have hi := (Array.getElem?_eq_some_iff.1 ho).1
    have := h3 i (by simpa using hi)
    rw [ho] at this
    simp only [Bool.and_eq_true] at this
    exact this
  have some_of : ∀ i, i < ops.size → ∃ o, ops[i]? = some o := fun i hi => ⟨ops[i], Array.getElem?_eq_getElem hi⟩
  refine ⟨h1, h2, ?_, ?_, ?_, ?_, nodupB_spec h4⟩
  · intro i o ho b hb
    have := (k i o ho).1.1.1
    rw [List.all_eq_true] at this
    have := this b hb
    rw [List.any_eq_true] at this
    obtain ⟨e, he, h5⟩ := this
    simp only [Bool.and_eq_true, Bool.or_eq_true, beq_iff_eq, List.contains_eq_mem, decide_eq_true_eq] at h5
    exact ⟨e, by simpa using he, h5.1, h5.2⟩
  · intro i o ho e he hb
    have := (k i o ho).1.1.2
    rw [List.all_eq_true] at this
    have := this e (by simpa using he)
    simpa [hb] using this
  · intro i b hb
    have hi := mem_getD hb
    obtain ⟨o, ho⟩ := some_of i (by omega)
    have := (k i o ho).1.2
    rw [List.all_eq_true] at this
    simpa using this b hb
  · intro i hi hm j hj
    obtain ⟨o, ho⟩ := some_of i hi
    have := (k i o ho).2
    simp only [Bool.or_eq_true, Nat.blt_eq, List.all_eq_true] at this
    rcases this with h5 | h5
    · omega
    · simpa using h5 j (by simpa using hj)

theorem arr_getD_flip {l : Array Bool} {k : Nat} (h : k < l.size) : l.getD k true = l.getD k false := by
  simp [Array.getD_eq_getD_getElem?, h]

theorem least_unlisted {l : Array Bool} : ∀ {m : Nat}, (∃ j, j < m ∧ l.getD j false = false) → ∃ j, j < m ∧ l.getD j false = false ∧ ∀ k, k < j → l.getD k false = true
  | 0, h => by obtain ⟨j, h, _⟩ := h; omega
  | m + 1, h => by
    by_cases e : ∃ j, j < m ∧ l.getD j false = false
    · obtain ⟨j, h1, h2, h3⟩ := least_unlisted e
      exact ⟨j, by omega, h2, h3⟩
    · obtain ⟨j, h1, h2⟩ := h
      have hjm : j = m := by
        rcases Nat.lt_or_ge j m with h3 | h3
        · exact (e ⟨j, h3, h2⟩).elim
        · omega
      subst hjm
      refine ⟨j, h1, h2, fun k hk => ?_⟩
      cases e1 : l.getD k false with
      | true => rfl
      | false => exact (e ⟨k, hk, e1⟩).elim

theorem filterMap_inj {α : Type} {f : α → Option Nat} : ∀ {l : List α}, (l.filterMap f).Nodup → ∀ {i j : Nat} {a b : α} {d : Nat}, l[i]? = some a → l[j]? = some b → f a = some d → f b = some d → i = j
  | [], _, i, j, a, b, d, h, _, _, _ => by simp at h
  | c :: l, hn, i, j, a, b, d, h1, h2, h3, h4 => by
    have hn' : (l.filterMap f).Nodup := by
      simp only [List.filterMap_cons] at hn
      split at hn
      · exact hn
      · exact (List.nodup_cons.1 hn).2
    have out : ∀ (x : α) (k : Nat), l[k]? = some x → f x = some d → f c = some d → False := by
      intro x k hk hx hc
      simp only [List.filterMap_cons, hc, List.nodup_cons] at hn
      exact hn.1 (List.mem_filterMap.2 ⟨x, List.mem_of_getElem? hk, hx⟩)
    cases i with
    | zero =>
      cases j with
      | zero => rfl
      | succ j =>
        simp only [List.getElem?_cons_zero, Option.some.injEq] at h1
        simp only [List.getElem?_cons_succ] at h2
        subst h1
        exact (out b j h2 h4 h3).elim
    | succ i =>
      cases j with
      | zero =>
        simp only [List.getElem?_cons_zero, Option.some.injEq] at h2
        simp only [List.getElem?_cons_succ] at h1
        subst h2
        exact (out a i h1 h3 h4).elim
      | succ j =>
        simp only [List.getElem?_cons_succ] at h1 h2
        rw [filterMap_inj hn' h1 h2 h3 h4]

theorem isHit_iff {ds : List Nat} {s : Nat} : isHit ds s = true ↔ ∃ d ∈ ds, hit d s = true := by
  unfold isHit
  rw [List.any_eq_true]
  rfl

theorem mem_others {dl : List (Option Tmp)} {i k d : Nat} {b : List Nat} (h : dl[k]? = some (some d)) (hk : k ≠ i) (hb : k ∉ b) : d ∈ othersD dl i b := by
  unfold othersD
  rw [List.mem_filterMap]
  refine ⟨(some d, k), ?_, ?_⟩
  · rw [List.mem_iff_getElem?]
    exact ⟨k, by simp [List.getElem?_zipIdx, h]⟩
  · simp [hk, hb]

section
variable {V : Env} {A : Start} {n : Nat} {S : Nat → Option (List PK)} {F : Nat → List X → Option (List X × List X)} {Sg : Nat → Option Sig} {ops : Array Oper} {μ0 : Mu}

/-- What the modes say where some are settled. -/
structure SetInv (ops : Array Oper) (m : Nat) (μ0 : Mu) (ds : List Nat) (EF : List Mu) (listed : Array Bool) (μ : Mu) : Prop where
  base : ∀ s, isHit ds s = false → μ.get s = μ0.get s
  done : ∀ j o d s, ops[j]? = some o → j < m → listed.getD j false = true → o.dst = some d → hit d s = true → μ.get s = Mu.get (EF.getD j []) s

theorem St.weakG {w : World} {μ ν : Mu} {φ : Fr} {tm : Nat → Value} {C : Cx} (h : St A w μ φ tm C) (hw : ∀ s, ν.get s = .u ∨ ν.get s = μ.get s) : St A w ν φ tm C := by
  refine { h with slot := ?_ }
  intro s
  rcases h.slot s with h1 | h1
  · exact .inl h1
  · right
    rcases hw s with e | e
    · rw [e]; trivial
    · rw [e]; exact h1

theorem get_of_lookup {μ : Mu} {s : Nat} {x : SM} (h : List.lookup s μ = some x) : μ.get s = x := by
  unfold Mu.get; rw [h]

theorem see_weak {m : Nat} {dl : List (Option Tmp)} {ds : List Nat} {B : List (List Nat)} {EF : List Mu} {listed : Array Bool} {μ : Mu} (hm : m ≤ ops.size) (hJ : ∀ i o, ops[i]? = some o → i < m → JudgedAt V.τ Sg n ops μ0 dl EF i o (B.getD i []))
    (h0 : ∀ s x, List.lookup s μ0 = some x → x.free (isHit ds) = true ∧ isHit ds s = false) (hI : SetInv ops m μ0 ds EF listed μ) {b : List Nat} (hb : ∀ j ∈ b, j < m ∧ listed.getD j false = true) (s : Nat) : (seeM μ0 EF b).get s = .u ∨ (seeM μ0 EF b).get s = μ.get s := by
  cases hl : List.lookup s (seeM μ0 EF b) with
  | none => left; unfold Mu.get; rw [hl]
  | some x =>
    right
    rw [get_of_lookup hl]
    rcases seeM_get b hl with ⟨j, hj, h1⟩ | h1
    · obtain ⟨hjm, hjl⟩ := hb j hj
      have hjs : j < ops.size := by omega
      obtain ⟨cols, ms, _, h8, hE, _, _⟩ := (hJ j _ (Array.getElem?_eq_getElem hjs) hjm).ex
      have h1' := h1
      rw [hE] at h1'
      obtain ⟨d, e, hh⟩ := entE_hit h8 h1'
      rw [hI.done j _ d s (Array.getElem?_eq_getElem hjs) hjm hjl e hh, get_of_lookup h1]
    · rw [hI.base s (h0 s x h1).2, get_of_lookup h1]

theorem drop_same {p : Nat → Bool} {t s : Nat} {μ : Mu} (hp : ∀ s, hit t s = true → p s = true) (h : ∀ x, List.lookup s μ = some x → x.free p = true) : (μ.get s).dropS t = μ.get s := by
  cases hl : List.lookup s μ with
  | none => unfold Mu.get; rw [hl]; rfl
  | some x => rw [get_of_lookup hl]; exact SM.free_dropS hp (h x hl)

/-- One more is settled. -/
theorem SetInv.put {m : Nat} {dl : List (Option Tmp)} {B : List (List Nat)} {EF : List Mu} {listed : Array Bool} {μ μ' : Mu} (hok : TextOk ops B m) (hn : n ≤ 1000) (hdl : dl = (ops.toList.take m).map (·.dst))
    (hJ : ∀ i o, ops[i]? = some o → i < m → JudgedAt V.τ Sg n ops μ0 dl EF i o (B.getD i []))
    (h0 : ∀ s x, List.lookup s μ0 = some x → x.free (isHit (dstsOf (ops.toList.take m))) = true ∧ isHit (dstsOf (ops.toList.take m)) s = false) (hdown : ∀ i, listed.getD i false = true → ∀ b ∈ B.getD i [], listed.getD b false = true)
    (hI : SetInv ops m μ0 (dstsOf (ops.toList.take m)) EF listed μ) {i : Nat} {o : Oper} (ho : ops[i]? = some o) (him : i < m) (hu : listed.getD i false = false) (hg : ∀ s, (∃ d, o.dst = some d ∧ hit d s = true ∧ μ'.get s = Mu.get (EF.getD i []) s) ∨ ((∀ d, o.dst = some d → hit d s = false) ∧ μ'.get s = o.dst.elim (μ.get s) fun d => (μ.get s).dropS d)) :
    SetInv ops m μ0 (dstsOf (ops.toList.take m)) EF (listed.setIfInBounds i true) μ' := by
  have hat : ∀ j oj, ops[j]? = some oj → j < m → (ops.toList.take m)[j]? = some oj := by
    intro j oj h1 h2
    rw [List.getElem?_take, if_pos h2]
    simpa using h1
  have hmem : ∀ j oj d, ops[j]? = some oj → j < m → oj.dst = some d → d ∈ dstsOf (ops.toList.take m) := by
    intro j oj d h1 h2 h3
    exact List.mem_filterMap.2 ⟨oj, List.mem_of_getElem? (hat j oj h1 h2), h3⟩
  have hsm : ∀ j oj d, ops[j]? = some oj → j < m → oj.dst = some d → d < 1000 := by
    intro j oj d h1 h2 h3
    have := (hJ j oj h1 h2).small
    unfold smallO at this
    simp only [Bool.and_eq_true] at this
    have := this.1.2
    rw [h3] at this
    have : Nat.lt d n := by simpa [Nat.blt_eq] using this
    exact Nat.lt_of_lt_of_le this hn
  refine ⟨?_, ?_⟩
  · intro s hs
    rcases hg s with ⟨d, e, hh, _⟩ | ⟨_, h2⟩
    · have : isHit (dstsOf (ops.toList.take m)) s = true := isHit_iff.2 ⟨d, hmem i o d ho him e, hh⟩
      rw [hs] at this; cases this
    · rw [h2]
      cases e : o.dst with
      | none => exact hI.base s hs
      | some d =>
        simp only [Option.elim]
        rw [hI.base s hs]
        exact drop_same (p := isHit (dstsOf (ops.toList.take m))) (fun s' hs' => isHit_iff.2 ⟨d, hmem i o d ho him e, hs'⟩) fun x hx => (h0 s x hx).1
  · intro j oj dj s hj hjm hjl hdj hh
    by_cases e : j = i
    · subst e
      rw [ho] at hj; cases hj
      rcases hg s with ⟨d, e, _, h2⟩ | ⟨h1, _⟩
      · exact h2
      · have := h1 dj hdj
        rw [hh] at this; cases this
    · rw [getD_set_ne false (fun e' => e e'.symm)] at hjl
      have hold := hI.done j oj dj s hj hjm hjl hdj hh
      have hnb : i ∉ B.getD j [] := by
        intro hb
        have := hdown j hjl i hb
        rw [hu] at this; cases this
      rcases hg s with ⟨d, e2, hh2, _⟩ | ⟨h1, h2⟩
      · exfalso
        have : dj = d := hit_disj (hsm j oj dj hj hjm hdj) (hsm i o d ho him e2) hh hh2
        subst this
        exact e (filterMap_inj (f := (·.dst)) hok.dsts (hat j oj hj hjm) (hat i o ho him) hdj e2)
      · rw [h2]
        cases e2 : o.dst with
        | none => exact hold
        | some d =>
          simp only [Option.elim]
          rw [hold]
          obtain ⟨cols, ms, _, h8, hE, hfree, _⟩ := (hJ j oj hj hjm).ex
          refine drop_same (p := isHit (othersD dl j (B.getD j []))) (fun s' hs' => isHit_iff.2 ⟨d, ?_, hs'⟩) fun x hx => ?_
          · refine mem_others (k := i) ?_ (fun e' => e e'.symm) hnb
            rw [hdl, List.getElem?_map, hat i o ho him]
            simp [e2]
          · rw [hE] at hx
            exact hfree _ (lookup_mem hx)
end
end Go.Ev

/- A region whose order is drawn: the settled part in any order, then its tail. -/
namespace Go.Ev
section
variable {V : Env} {A : Start} {n : Nat} {S : Nat → Option (List PK)} {F : Nat → List X → Option (List X × List X)} {Sg : Nat → Option Sig} {ops : Array Oper} {μ0 : Mu} {colsP : Pol}

theorem upd_same {φ : Fr} {d : Nat} {x : X} (h : φ d = x) : upd φ d x = φ := by
  funext s
  unfold upd
  split
  · rename_i e; subst e; exact h.symm
  · rfl

theorem settle_wp {B : List (List Nat)} {m : Nat} {dl : List (Option Tmp)} {EF : List Mu} {φF φ' : Fr} {μ' : Mu} {Q : Exit → Act → World → Prop} (hrg : RgOk A) (hks : A.ks = []) (hlo : A.hd.isSome = true → colsP.lo = true) (hn : n ≤ 1000) (hkp : ∀ (i : Nat) (o : Oper), ops[i]? = some o → Keeps A o)
    (hSg : ∀ f sg, Sg f = some sg → S f = some (sg.pms.map PM.pk) ∧ Does V f sg (F f)) (hQ : ∀ a w, Stands A n φ' μ' a w → Q .normal a w)
    (hok : TextOk ops B m) (hdl : dl = (ops.toList.take m).map (·.dst)) (hJ : ∀ i o, ops[i]? = some o → i < m → JudgedAt V.τ Sg n ops μ0 dl EF i o (B.getD i []))
    (hC : ∀ i o, ops[i]? = some o → i < m → Come V.τ S F ops φF o)
    (h0 : ∀ s x, List.lookup s μ0 = some x → x.free (isHit (dstsOf (ops.toList.take m))) = true ∧ isHit (dstsOf (ops.toList.take m)) s = false)
    (hx : evOps V.τ S F ops (ops.toList.drop m) φF = some φ') (hm : chkOps V.τ Sg colsP n ops (ops.toList.drop m) (seeM μ0 EF (List.range m)) = some μ') :
    ∀ (fuel : Nat) (listed : Array Bool) (μ : Mu) (a : Act) (w : World) (T : List Nat), listed.size = ops.size → T.length + (ops.size - m) ≤ fuel →
      (∀ i, i < m → listed.getD i false = false → i ∈ T) → (∀ i, listed.getD i false = true → ∀ b ∈ B.getD i [], listed.getD b false = true) → (∀ i, m ≤ i → i < ops.size → listed.getD i true = false) →
      SetInv ops m μ0 (dstsOf (ops.toList.take m)) EF listed μ → Stands A n φF μ a w → wpAny V.P .any ops Q fuel listed a w := by
  have hrdy : ∀ i (listed : Array Bool), i < ops.size → listed.getD i true = false → (∀ j, j < i → listed.getD j false = true) → i ∈ Region.ready .any ops listed := by
    intro i listed hi h1 h2
    exact mem_ready.2 ⟨h1, ops[i], Array.getElem?_eq_getElem hi, fun e he hb => h2 _ (hok.edge i _ (Array.getElem?_eq_getElem hi) e he hb)⟩
  have hclose : ∀ i o (listed : Array Bool), ops[i]? = some o → (∀ k, listed.getD k false = true → ∀ b ∈ B.getD k [], listed.getD b false = true) → i ∈ Region.ready .any ops listed → ∀ b ∈ B.getD i [], listed.getD b false = true := by
    intro i o listed ho hd hi b hb
    obtain ⟨_, o', ho', hall⟩ := mem_ready.1 hi
    rw [ho] at ho'; cases ho'
    obtain ⟨e, he, h1, h2⟩ := hok.via i o ho b hb
    have h3 := hall e he h1
    rcases h2 with h2 | h2
    · rw [← h2]; exact h3
    · exact hd _ h3 b h2
  have hend : ∀ (fuel : Nat) (listed : Array Bool) (μ : Mu) (a : Act) (w : World), listed.size = ops.size → ops.size - m ≤ fuel → (∀ j, j < m → listed.getD j false = true) → (∀ i, m ≤ i → i < ops.size → listed.getD i true = false) →
      SetInv ops m μ0 (dstsOf (ops.toList.take m)) EF listed μ → Stands A n φF μ a w → wpAny V.P .any ops Q fuel listed a w := by
    intro fuel listed μ a w hls hf hall hhi hI hst
    obtain ⟨C, g, h, hsz, hdf, hpar⟩ := hst
    refine tail_wp hrg hks hlo hn hSg hQ (m := m) ?_ hrdy _ m fuel listed φF _ a w (Nat.le_refl _) rfl hls hall hhi (by simp; omega) ⟨C, g, h.weakG (see_weak hok.le hJ h0 hI fun j hj => ?_), hsz, hdf, hpar⟩ hx hm
    · intro i o ho hmi j hj l hl hi
      exact hclose i o l ho (fun k hk b hb => hl k hk b (hok.lt k b hb)) hi j (hok.tail i (Array.getElem?_eq_some_iff.1 ho).1 hmi j hj)
    · have hj' : j < m := by simpa using hj
      exact ⟨hj', hall j hj'⟩
  intro fuel
  induction fuel with
  | zero =>
    intro listed μ a w T hls hT hun hdown hhi hI hst
    have hall : ∀ j, j < m → listed.getD j false = true := by
      intro j hj
      cases e : listed.getD j false with
      | true => rfl
      | false => have := hun j hj e; have : T = [] := List.length_eq_zero_iff.1 (by omega); subst this; simp at *
    exact hend 0 listed μ a w hls (by omega) hall hhi hI hst
  | succ fuel ih =>
    intro listed μ a w T hls hT hun hdown hhi hI hst
    by_cases hall : ∀ j, j < m → listed.getD j false = true
    · exact hend (fuel + 1) listed μ a w hls (by omega) hall hhi hI hst
    · have hex : ∃ j, j < m ∧ listed.getD j false = false := by
        apply Classical.byContradiction
        intro hne
        apply hall
        intro j hj
        cases e : listed.getD j false with
        | true => rfl
        | false => exact (hne ⟨j, hj, e⟩).elim
      obtain ⟨j0, hj0, hu0, hlow⟩ := least_unlisted hex
      have hm' := hok.le
      have hr0 : j0 ∈ Region.ready .any ops listed := hrdy j0 listed (by omega) (by rw [arr_getD_flip (by omega)]; exact hu0) hlow
      refine ⟨fun e => absurd (e ▸ hr0) (by simp), fun i hi => ?_⟩
      obtain ⟨hiu, o, ho, _⟩ := mem_ready.1 hi
      have his := (Array.getElem?_eq_some_iff.1 ho).1
      have hcl := hclose i o listed ho hdown hi
      have him : i < m := by
        rcases Nat.lt_or_ge i m with h | h
        · exact h
        · have := hcl j0 (hok.tail i his h j0 (by omega))
          rw [hu0] at this; cases this
      have hiu' : listed.getD i false = false := by rw [← arr_getD_flip (by omega)]; exact hiu
      have hJi := hJ i o ho him
      obtain ⟨cols, ms, hj, h8, hE, hfree, hguard⟩ := hJi.ex
      have hcome := hC i o ho him
      have hsee : ∀ s, (seeM μ0 EF (B.getD i [])).get s = .u ∨ (seeM μ0 EF (B.getD i [])).get s = μ.get s :=
        see_weak hok.le hJ h0 hI fun j hj => ⟨by have := hok.lt i j hj; omega, hcl j hj⟩
      have next : ∀ μ1, (∀ s, (∃ d, o.dst = some d ∧ hit d s = true ∧ μ1.get s = Mu.get (EF.getD i []) s) ∨ ((∀ d, o.dst = some d → hit d s = false) ∧ μ1.get s = o.dst.elim (μ.get s) fun d => (μ.get s).dropS d)) →
          ∀ a w, Stands A n φF μ1 a w → wpAny V.P .any ops Q fuel (listed.setIfInBounds i true) a w := by
        intro μ1 hg a' w' hst'
        have hiT : i ∈ T := hun i him hiu'
        refine ih _ μ1 a' w' (T.erase i) (by simpa using hls) ?_ ?_ ?_ ?_ (hI.put hok hn hdl hJ h0 hdown ho him hiu' hg) hst'
        · rw [List.length_erase_of_mem hiT]
          have := List.length_pos_of_mem hiT
          omega
        · intro k hk hku
          by_cases e : k = i
          · subst e
            have : k < listed.size := by omega
            simp [this] at hku
          · rw [getD_set_ne false (fun e' => e e'.symm)] at hku
            exact (List.mem_erase_of_ne e).2 (hun k hk hku)
        · intro k hk b hb
          by_cases e : k = i
          · subst e; exact getD_set_true (hcl b hb)
          · rw [getD_set_ne false (fun e' => e e'.symm)] at hk
            exact getD_set_true (hdown k hk b hb)
        · intro k hk hks
          rw [getD_set_ne true (by omega)]
          exact hhi k hk hks
      obtain ⟨C, g, h, hsz, hdf, hpar⟩ := hst
      have hko := hkp i o ho
      have hw := h.weakG hsee
      have run : ∀ rs, Yields V.τ S F φF o rs → putRes o.dst rs φF = φF → o.wp V.P a w (wpAny V.P .any ops Q fuel (listed.setIfInBounds i true)) Q := by
        intro rs hy hput
        obtain ⟨μ1, hμ1⟩ : ∃ μ1, putResM o.dst ms μ = some μ1 := by
          unfold putResM
          split
          · exact ⟨_, rfl⟩
          · split
            · exact ⟨_, rfl⟩
            · exact ⟨_, rfl⟩
            · rw [if_pos h8]; exact ⟨_, rfl⟩
        refine settle_op hn hSg hJi.small hsz hdf hpar hko hw h hj hy hμ1 fun a' w' hst' => ?_
        rw [hput] at hst'
        refine next μ1 ?_ a' w' hst'
        intro s
        rcases putResM_get hμ1 s with ⟨d, e1, e2, e3⟩ | h1
        · exact .inl ⟨d, e1, e2, by rw [hE]; exact e3⟩
        · exact .inr h1
      unfold wpOp
      rw [ho]
      unfold Come at hcome
      unfold guardS at hguard
      cases hg : o.guard with
      | none =>
        rw [hg] at hcome
        obtain ⟨rs, hy, hput⟩ := hcome
        simp only
        rw [if_pos (by simp [Region.wanted, hg])]
        exact .inl (run rs hy hput)
      | some jw =>
        obtain ⟨j, want⟩ := jw
        rw [hg] at hcome hguard
        obtain ⟨d, b, hjd, hv, hc1, hc2⟩ := hcome
        simp only [hjd, Bool.and_eq_true, beq_iff_eq, Nat.blt_eq] at hguard
        obtain ⟨⟨⟨hjb, hlen⟩, hsome⟩, hd1, hrd⟩ := hguard
        have hbool := slot_bool hw hd1 hrd hv
        have hy : yielded ops a.tmps j = some b := by
          unfold yielded
          rw [hjd]
          simp only [Option.bind_some]
          have : a.tmps[d]? = some (.bool b) := by
            by_cases hlt : d < a.tmps.size
            · rw [Array.getElem?_eq_getElem hlt]
              simp [Array.getD, hlt] at hbool
              rw [hbool]
            · simp [Array.getD, hlt] at hbool
              cases hbool
          rw [this]
        simp only
        by_cases hbw : b = want
        · rw [if_pos (by simp [Region.wanted, hg, hy, hbw])]
          obtain ⟨rs, h1, h2⟩ := hc1 hbw
          exact .inl (run rs h1 h2)
        · rw [if_neg (by simp [Region.wanted, hg, hy, hbw])]
          obtain ⟨dd, hdd⟩ := Option.isSome_iff_exists.1 hsome
          obtain ⟨sm, hsm⟩ : ∃ sm, ms = [sm] := by
            match ms, hlen with
            | [sm], _ => exact ⟨sm, rfl⟩
          have hs := hJi.small
          unfold smallO at hs
          simp only [Bool.and_eq_true] at hs
          have hdn := hs.1.2
          rw [hdd] at hdn
          simp only [Nat.blt_eq] at hdn
          obtain ⟨C2, h2⟩ := skip_st (sm := sm) h (Nat.lt_of_lt_of_le hdn hn) (by rw [hsz]; exact hdn)
          rw [upd_same (hc2 hbw dd hdd)] at h2
          rw [hdd]
          refine next (μ.put dd sm) ?_ _ _ ⟨C2, g, h2, by rw [put_size]; exact hsz, by rw [put_defers]; exact hdf, hdd ▸ hpar.put hko _⟩
          intro s
          rcases putResM_get (dst := some dd) (ms := [sm]) (μ := μ) (μ' := μ.put dd sm) rfl s with ⟨d', e1, e2, e3⟩ | ⟨h1, h3⟩
          · exact .inl ⟨d', by rw [hdd]; exact e1, e2, by rw [hE, hsm, hdd]; exact e3⟩
          · exact .inr ⟨by rw [hdd]; exact h1, by rw [hdd]; exact h3⟩

/-- The check of a region whose order is drawn. -/
def chkDrawn (τ : List TE) (Sg : Nat → Option Sig) (colsP : Pol) (n : Nat) (ops : Array Oper) (μ : Mu) : Option Mu :=
  let l := ops.toList
  let B := predsL l []
  let m := cutOf l
  let ds := dstsOf (l.take m)
  let μ0 := ds.foldl Mu.clear μ
  if (textOk ops B m && l.all (dstOk colsP.lo)) && List.all μ0 (fun p => p.2.free (isHit ds) && !isHit ds p.1) then (match settleM τ Sg colsP n ops μ0 ((l.take m).map (·.dst)) 0 (l.take m) B [] with
    | some Es => chkOps τ Sg colsP n ops (l.drop m) (seeM μ0 Es (List.range m))
    | none => none) else none

theorem clr_st {w : World} {φF : Fr} : ∀ (ds : List Nat) (φ : Fr) (μ : Mu) (C : Cx) (tm : Nat → Value), (∀ d ∈ ds, d < 1000) → St A w μ φ tm C → (∀ s, isHit ds s = false → φF s = φ s) → ∃ C', St A w (ds.foldl Mu.clear μ) φF tm C'
  | [], φ, μ, C, tm, _, h, hs => by
    have : φF = φ := by funext s; exact hs s rfl
    subst this
    exact ⟨C, h⟩
  | d :: ds, φ, μ, C, tm, hd, h, hs => by
    have h1 := h.putG (hd d (by simp)) (Ext.refl w) (fun _ => none) (by simp) (by simp) (by simp) .none (μ' := μ.clear d) (φ' := fun s => if hit d s then φF s else φ s) (tm' := tm) (fun s hh => by simp [hh]) (fun s _ => rfl)
      (fun s hh => by rw [get_clear, hh]; rfl) (fun s hh => .inr (by rw [get_clear, hh]; trivial))
    refine clr_st ds _ _ _ tm (fun d' hd' => hd d' (by simp [hd'])) h1 ?_
    intro s hh
    cases e : hit d s with
    | true => simp
    | false =>
      simp only [Bool.false_eq_true, if_false]
      refine hs s ?_
      rw [Bool.eq_false_iff]
      intro e2
      obtain ⟨d', hd', h2⟩ := isHit_iff.1 e2
      rcases List.mem_cons.1 hd' with rfl | hd'
      · rw [e] at h2; cases h2
      · have := isHit_iff.2 ⟨d', hd', h2⟩
        rw [hh] at this; cases this

theorem drawn_wp {id : Nat} {φ φ' : Fr} {μ μ' : Mu} {a : Act} {w : World} {Q : Exit → Act → World → Prop} (hrg : RgOk A) (hks : A.ks = []) (hlo : A.hd.isSome = true → colsP.lo = true) (hn : n ≤ 1000)
    (hSg : ∀ f sg, Sg f = some sg → S f = some (sg.pms.map PM.pk) ∧ Does V f sg (F f)) (hst : Stands A n φ μ a w) (hx : evOps V.τ S F ops ops.toList (clrX (dstsOf (ops.toList.take (cutOf ops.toList))) φ) = some φ') (hm : chkDrawn V.τ Sg colsP n ops μ = some μ')
    (hQ : ∀ a w, Stands A n φ' μ' a w → Q .normal a w) : (Code.region id ops true).wp V.P Q a w := by
  unfold chkDrawn at hm
  simp only at hm
  generalize cutOf ops.toList = m at *
  split at hm
  · rename_i hc
    simp only [Bool.and_eq_true, List.all_eq_true, Bool.not_eq_true'] at hc
    have hok := textOk_spec hc.1.1
    have hkp : ∀ (i : Nat) (o : Oper), ops[i]? = some o → Keeps A o := fun i o hi => dstOk_keeps hks hlo (hc.1.2 o (List.mem_iff_getElem?.2 ⟨i, by simpa using hi⟩))
    split at hm
    · rename_i Es hEs
      obtain ⟨Ys, h1, h2, h3⟩ := settleM_spec _ 0 _ [] _ rfl hEs
      simp only [List.nil_append] at h1
      subst h1
      have hBat : ∀ i, i < ops.size → (predsL ops.toList [])[i]? = some ((predsL ops.toList []).getD i []) := by
        intro i hi
        have : i < (predsL ops.toList []).length := by rw [hok.len]; exact hi
        simp [List.getD_eq_getElem?_getD, this]
      have hJ : ∀ i o, ops[i]? = some o → i < m → JudgedAt V.τ Sg n ops ((dstsOf (ops.toList.take m)).foldl Mu.clear μ) ((ops.toList.take m).map (·.dst)) Es i o ((predsL ops.toList []).getD i []) := by
        intro i o ho him
        have hi := (Array.getElem?_eq_some_iff.1 ho).1
        have := h3 i o _ (by rw [List.getElem?_take, if_pos him]; simpa using ho) (hBat i hi)
        simpa using this
      have hsplit : ops.toList = ops.toList.take m ++ ops.toList.drop m := (List.take_append_drop m _).symm
      have hx' := hx
      rw [hsplit] at hx'
      rw [← hsplit] at hx'
      obtain ⟨φF, hx1, hx2⟩ := evOps_append (ops.toList.take m) (ops.toList.drop m) _ φ' (by rw [← hsplit]; exact hx)
      have htk : ∀ o ∈ ops.toList.take m, ∃ i, ops[i]? = some o ∧ i < m := by
        intro o ho
        obtain ⟨i, hi⟩ := List.mem_iff_getElem?.1 ho
        rw [List.getElem?_take] at hi
        split at hi
        · rename_i him; exact ⟨i, by simpa using hi, him⟩
        · cases hi
      have hd1000 : ∀ d ∈ (ops.toList.take m).filterMap (·.dst), d < 1000 := by
        intro d hd
        obtain ⟨o, ho, e⟩ := List.mem_filterMap.1 hd
        obtain ⟨i, hi, him⟩ := htk o ho
        have := (hJ i o hi him).small
        unfold smallO at this
        simp only [Bool.and_eq_true] at this
        have := this.1.2
        rw [e] at this
        have : Nat.lt d n := by simpa [Nat.blt_eq] using this
        exact Nat.lt_of_lt_of_le this hn
      obtain ⟨q1, q2, q3⟩ := come_all (ops.toList.take m) _ φF hx1 (by
        intro o ho
        obtain ⟨i, hi, him⟩ := htk o ho
        obtain ⟨cols, ms, hj, _⟩ := (hJ i o hi him).ex
        intro φ1 φ2 he
        exact evOp_yields (fun f sg hf => (hSg f sg hf).1) hj he) hok.dsts hd1000 (by
        intro d hd s hs
        have h9 : isHit (dstsOf (ops.toList.take m)) s = true := isHit_iff.2 ⟨d, hd, hs⟩
        simp [clrX, h9])
      obtain ⟨C, g, h, hsz, hdf, hpar⟩ := hst
      have he : Ext w { w with drawn := w.drawn + 1 } := ⟨Nat.le_refl _, fun _ _ => rfl, ⟨rfl, rfl, rfl⟩⟩
      obtain ⟨C', h'⟩ := clr_st (φF := φF) (dstsOf (ops.toList.take m)) φ μ C _ hd1000 (h.ext he) (by
        intro s hs
        rw [q2 s fun d hd => ?_]
        · simp [clrX, hs]
        · rw [Bool.eq_false_iff]
          intro e
          have := isHit_iff.2 ⟨d, hd, e⟩
          have h9 : isHit (dstsOf (ops.toList.take m)) s = true := this
          rw [hs] at h9; cases h9)
      refine wp_region_any V.mix ?_
      refine settle_wp hrg hks hlo hn hkp hSg hQ hok rfl hJ (fun i o ho him => q3 o ?_) ?_ hx2 hm ops.size _ _ a _ (List.range m) (by simp) (by simp; have := hok.le; omega) (fun i hi _ => by simpa using hi) ?_ ?_ ?_ ⟨C', g, h', hsz, hdf, hpar⟩
      · refine List.mem_iff_getElem?.2 ⟨i, ?_⟩
        rw [List.getElem?_take, if_pos him]; simpa using ho
      · intro s x hl
        exact hc.2 _ (lookup_mem hl)
      · intro i hi
        rw [Array.getD_eq_getD_getElem?] at hi
        simp [Array.getElem?_replicate] at hi
        split at hi <;> simp at hi
      · intro i _ hi
        rw [Array.getD_eq_getD_getElem?]
        simp [Array.getElem?_replicate, hi]
      · refine ⟨fun s _ => rfl, ?_⟩
        intro j o d s _ _ hj
        rw [Array.getD_eq_getD_getElem?] at hj
        simp [Array.getElem?_replicate] at hj
        split at hj <;> simp at hj
    · cases hm
  · cases hm
end
end Go.Ev

/- Code: what is checked comes to what is evaluated. -/
namespace Go.Ev

def joinK (a b : Mu) : Option Mu :=
  let j := joinMu a b
  if weakS a j && weakS b j then some j else none

def joinOK : Option Mu → Option Mu → Option (Option Mu)
  | some a, some b => match joinK a b with
    | some j => some (some j)
    | none => none
  | some a, none => some (some a)
  | none, b => some b

def mergeK : List (Nat × Mu) → List (Nat × Mu) → Option (List (Nat × Mu))
  | a, [] => some a
  | a, p :: b => match List.lookup p.1 a with
    | some μ => match joinK μ p.2 with
      | some j => mergeK ((p.1, j) :: a.filter (fun q => q.1 != p.1)) b
      | none => none
    | none => mergeK (p :: a) b

def Outs.join (o o' : Outs) : Option Outs := match joinOK o.n o'.n, mergeK o.e o'.e, joinOK o.r o'.r with
  | some n, some e, some r => some { n := n, e := e, r := r }
  | _, _, _ => none

structure Chk where
  τ : List TE
  Sg : Nat → Option Sig
  n : Nat
  cols : Pol

def loopK (body : Mu → Option Outs) : Nat → Mu → Option Outs
  | 0, _ => none
  | k + 1, μ => match body μ with
    | some o => match o.n with
      | some μ' => if weakS μ' μ then some { o with n := none } else (if weakS μ (joinMu μ μ') then loopK body k (joinMu μ μ') else none)
      | none => some { o with n := none }
    | none => none

def smC (n : Nat) : Operand → Bool
  | .tmp t => Nat.blt t n
  | _ => true

def chkC (X : Chk) : Code → Mu → Option Outs
  | .skip, μ => some { n := some μ }
  | .region _ ops dr, μ => match (if dr then chkDrawn X.τ X.Sg X.cols X.n ops μ else chkOps X.τ X.Sg X.cols X.n ops ops.toList μ) with
    | some μ' => some { n := some μ' }
    | none => none
  | .seq a b, μ => match chkC X a μ with
    | some o => match o.n with
      | some μ' => match chkC X b μ' with
        | some o' => Outs.join { o with n := none } o'
        | none => none
      | none => some o
    | none => none
  | .cond c a b, μ => if smC X.n c && rdO μ c then (match chkC X a μ, chkC X b μ with
    | some o, some o' => o.join o'
    | _, _ => none) else none
  | .block id c, μ => match chkC X c μ with
    | some o => match joinOK o.n (List.lookup id o.e) with
      | some n => some { n := n, e := o.e.filter (fun p => p.1 != id), r := o.r }
      | none => none
    | none => none
  | .loop c, μ => loopK (chkC X c) 6 μ
  | .exit id, μ => some { e := [(id, μ)] }
  | .ret, μ => some { r := some μ }
  | _, _ => none

def EE.ex : EE → Exit
  | .normal => .normal
  | .exit id => .exit id
  | .ret => .ret

def Outs.Holds (o : Outs) (e : EE) (P : Mu → Prop) : Prop := match e with
  | .normal => ∃ μ, o.n = some μ ∧ P μ
  | .exit id => ∃ μ, List.lookup id o.e = some μ ∧ P μ
  | .ret => ∃ μ, o.r = some μ ∧ P μ

def Mono (P : Mu → Prop) : Prop := ∀ μ ν, weakS μ ν = true → P μ → P ν

theorem joinK_spec {a b j : Mu} (h : joinK a b = some j) : weakS a j = true ∧ weakS b j = true := by
  unfold joinK at h
  simp only at h
  split at h
  · rename_i hc; cases h; simpa using hc
  · cases h

theorem joinOK_l {a b n : Option Mu} {P : Mu → Prop} (hP : Mono P) (h : joinOK a b = some n) (ha : ∃ μ, a = some μ ∧ P μ) : ∃ μ, n = some μ ∧ P μ := by
  obtain ⟨μ, rfl, hp⟩ := ha
  cases b with
  | none => simp only [joinOK, Option.some.injEq] at h; exact ⟨μ, h.symm, hp⟩
  | some b =>
    simp only [joinOK] at h
    split at h
    · rename_i j hj; cases h; exact ⟨j, rfl, hP _ _ (joinK_spec hj).1 hp⟩
    · cases h

theorem joinOK_r {a b n : Option Mu} {P : Mu → Prop} (hP : Mono P) (h : joinOK a b = some n) (ha : ∃ μ, b = some μ ∧ P μ) : ∃ μ, n = some μ ∧ P μ := by
  obtain ⟨μ, rfl, hp⟩ := ha
  cases a with
  | none => simp only [joinOK, Option.some.injEq] at h; exact ⟨μ, h.symm, hp⟩
  | some b =>
    simp only [joinOK] at h
    split at h
    · rename_i j hj; cases h; exact ⟨j, rfl, hP _ _ (joinK_spec hj).2 hp⟩
    · cases h

theorem mergeK_spec {P : Mu → Prop} (hP : Mono P) (id : Nat) : ∀ (b a r : List (Nat × Mu)), mergeK a b = some r → ((∃ μ, List.lookup id a = some μ ∧ P μ) → ∃ μ, List.lookup id r = some μ ∧ P μ) ∧ ((∃ μ, List.lookup id b = some μ ∧ P μ) → ∃ μ, List.lookup id r = some μ ∧ P μ)
  | [], a, r, h => by
    simp only [mergeK, Option.some.injEq] at h
    subst h
    exact ⟨_root_.id, by rintro ⟨μ, h, _⟩; cases h⟩
  | (k, ν) :: b, a, r, h => by
    simp only [mergeK] at h
    split at h
    · rename_i μ hμ
      split at h
      · rename_i j hj
        obtain ⟨h1, h2⟩ := mergeK_spec hP id b _ r h
        obtain ⟨w1, w2⟩ := joinK_spec hj
        by_cases e : id = k
        · subst e
          refine ⟨?_, ?_⟩
          · rintro ⟨μ', q1, q2⟩
            rw [hμ] at q1; cases q1
            exact h1 ⟨j, by simp [List.lookup_cons], hP _ _ w1 q2⟩
          · rintro ⟨μ', q1, q2⟩
            simp [List.lookup_cons] at q1
            subst q1
            exact h1 ⟨j, by simp [List.lookup_cons], hP _ _ w2 q2⟩
        · have e' : (id == k) = false := by simpa using e
          refine ⟨?_, ?_⟩
          · rintro ⟨μ', q1, q2⟩
            refine h1 ⟨μ', ?_, q2⟩
            rw [List.lookup_cons, e', lookup_filter (fun x => x != k)]
            simp [e, q1]
          · rintro ⟨μ', q1, q2⟩
            rw [List.lookup_cons, e'] at q1
            exact h2 ⟨μ', q1, q2⟩
      · cases h
    · rename_i hμ
      obtain ⟨h1, h2⟩ := mergeK_spec hP id b _ r h
      by_cases e : id = k
      · subst e
        refine ⟨?_, ?_⟩
        · rintro ⟨μ', q1, q2⟩
          rw [hμ] at q1; cases q1
        · rintro ⟨μ', q1, q2⟩
          simp [List.lookup_cons] at q1
          subst q1
          exact h1 ⟨ν, by simp [List.lookup_cons], q2⟩
      · have e' : (id == k) = false := by simpa using e
        refine ⟨?_, ?_⟩
        · rintro ⟨μ', q1, q2⟩
          exact h1 ⟨μ', by rw [List.lookup_cons, e']; exact q1, q2⟩
        · rintro ⟨μ', q1, q2⟩
          rw [List.lookup_cons, e'] at q1
          exact h2 ⟨μ', q1, q2⟩

theorem Outs.join_l {o o' r : Outs} {e : EE} {P : Mu → Prop} (hP : Mono P) (h : o.join o' = some r) (ha : o.Holds e P) : r.Holds e P := by
  unfold Outs.join at h
  split at h
  · rename_i h1 h2 h3
    cases h
    cases e with
    | normal => exact joinOK_l hP h1 ha
    | exit id => exact (mergeK_spec hP id _ _ _ h2).1 ha
    | ret => exact joinOK_l hP h3 ha
  · cases h

theorem Outs.join_r {o o' r : Outs} {e : EE} {P : Mu → Prop} (hP : Mono P) (h : o.join o' = some r) (ha : o'.Holds e P) : r.Holds e P := by
  unfold Outs.join at h
  split at h
  · rename_i h1 h2 h3
    cases h
    cases e with
    | normal => exact joinOK_r hP h1 ha
    | exit id => exact (mergeK_spec hP id _ _ _ h2).2 ha
    | ret => exact joinOK_r hP h3 ha
  · cases h

theorem stands_mono {A : Start} {n : Nat} {φ : Fr} {a : Act} {w : World} : Mono (fun μ => Stands A n φ μ a w) := by
  rintro μ ν hw ⟨C, g, h, h1, h2⟩
  exact ⟨C, g, h.weak hw, h1, h2⟩

section
variable {V : Env} {A : Start} {S : Nat → Option (List PK)} {F : Nat → List X → Option (List X × List X)} {X : Chk}

theorem code_wp (hτ : X.τ = V.τ) (hrg : RgOk A) (hks : A.ks = []) (hlo : A.hd.isSome = true → X.cols.lo = true) (hn : X.n ≤ 1000) (hSg : ∀ f sg, X.Sg f = some sg → S f = some (sg.pms.map PM.pk) ∧ Does V f sg (F f)) (k : Nat) : ∀ (c : Code) (μ : Mu) (o : Outs) (φ φ' : Fr) (e : EE) (a : Act) (w : World) (Q : Exit → Act → World → Prop),
    chkC X c μ = some o → evC V.τ S F k c φ = some (e, φ') → Stands A X.n φ μ a w → (∀ a w, o.Holds e (fun μ' => Stands A X.n φ' μ' a w) → Q e.ex a w) → c.wp V.P Q a w := by
  intro c
  induction c with
  | skip =>
    intro μ o φ φ' e a w Q hm hx hst hQ
    simp only [chkC, Option.some.injEq] at hm
    simp only [evC, Option.some.injEq, Prod.mk.injEq] at hx
    obtain ⟨rfl, rfl⟩ := hx
    subst hm
    exact wp_skip (hQ _ _ ⟨μ, rfl, hst⟩)
  | region id ops draw =>
    intro μ o φ φ' e a w Q hm hx hst hQ
    simp only [evC, Option.map_eq_some_iff, Prod.mk.injEq] at hx
    obtain ⟨φ1, hx, rfl, rfl⟩ := hx
    simp only [chkC] at hm
    split at hm
    · rename_i μ' hμ'
      cases hm
      rw [hτ] at hμ'
      cases draw with
      | false => exact wp_region_list (ops_wp hrg hks hlo hn hSg ops.toList μ μ' φ φ1 a w hst hx hμ' fun a w hst' => hQ a w ⟨μ', rfl, hst'⟩)
      | true => exact drawn_wp hrg hks hlo hn hSg hst hx hμ' fun a w hst' => hQ a w ⟨μ', rfl, hst'⟩
    · cases hm
  | seq x y ihx ihy =>
    intro μ o φ φ' e a w Q hm hx hst hQ
    simp only [chkC] at hm
    simp only [evC] at hx
    split at hm
    · rename_i o1 ho1
      split at hx
      · rename_i φ1 hx1
        refine wp_seq (ihx μ o1 φ φ1 .normal a w _ ho1 hx1 hst ?_)
        rintro a' w' ⟨μ1, h1, h2⟩
        rw [h1] at hm
        simp only at hm
        split at hm
        · rename_i o2 ho2
          exact ihy μ1 o2 φ1 φ' e a' w' Q ho2 hx h2 fun a w hh => hQ a w (Outs.join_r stands_mono hm hh)
        · cases hm
      · rename_i hne
        have hxe : evC V.τ S F k x φ = some (e, φ') := hx
        refine wp_seq (ihx μ o1 φ φ' e a w _ ho1 hxe hst ?_)
        intro a' w' hh
        have hen : e ≠ .normal := by rintro rfl; exact hne φ' hxe
        have hh' : o.Holds e fun μ' => Stands A X.n φ' μ' a' w' := by
          cases hon : o1.n with
          | none =>
            rw [hon] at hm
            simp only [Option.some.injEq] at hm
            rw [← hm]; exact hh
          | some μ1 =>
            rw [hon] at hm
            simp only at hm
            split at hm
            · rename_i o2 ho2
              refine Outs.join_l stands_mono hm ?_
              cases e with
              | normal => exact (hen rfl).elim
              | exit id => exact hh
              | ret => exact hh
            · cases hm
        have := hQ a' w' hh'
        cases e with
        | normal => exact (hen rfl).elim
        | exit id => exact this
        | ret => exact this
    · cases hm
  | cond c x y ihx ihy =>
    intro μ o φ φ' e a w Q hm hx hst hQ
    simp only [chkC] at hm
    split at hm
    · rename_i hc
      simp only [Bool.and_eq_true] at hc
      split at hm
      · rename_i o1 o2 ho1 ho2
        simp only [evC] at hx
        split at hx
        · rename_i t ht
          obtain ⟨C, g, h, hsz, hdf, hpar⟩ := hst
          have hsm : sm1 c = true := by
            cases c with
            | tmp t =>
              have := hc.1
              simp only [smC, Nat.blt_eq] at this
              simp only [sm1, decide_eq_true_eq]
              exact Nat.lt_of_lt_of_le this hn
            | _ => rfl
          have hv := (val_sound (τ := V.τ) (ty := 0) h hsm hc.2 ht).1
          refine wp_cond hv ?_
          cases t with
          | true => exact ihx μ o1 φ φ' e a w Q ho1 hx ⟨C, g, h, hsz, hdf, hpar⟩ fun a w hh => hQ a w (Outs.join_l stands_mono hm hh)
          | false => exact ihy μ o2 φ φ' e a w Q ho2 hx ⟨C, g, h, hsz, hdf, hpar⟩ fun a w hh => hQ a w (Outs.join_r stands_mono hm hh)
        · cases hx
      · cases hm
    · cases hm
  | block id c ih =>
    intro μ o φ φ' e a w Q hm hx hst hQ
    simp only [chkC] at hm
    split at hm
    · rename_i o1 ho1
      split at hm
      · rename_i nn hnn
        cases hm
        simp only [evC] at hx
        split at hx
        · rename_i id' φ1 hx1
          refine wp_block (ih μ o1 φ φ1 (.exit id') a w _ ho1 hx1 hst ?_)
          rintro a' w' ⟨μ1, h1, h2⟩
          simp only [EE.ex, Exit.inBlock]
          split at hx
          · rename_i e0
            cases hx
            subst e0
            rw [if_pos rfl]
            exact hQ _ _ (joinOK_r stands_mono hnn ⟨μ1, h1, h2⟩)
          · rename_i e0
            cases hx
            rw [if_neg e0]
            refine hQ _ _ ⟨μ1, ?_, h2⟩
            rw [lookup_filter (fun x => x != id)]
            simp [e0, h1]
        · rename_i hne
          have hxe : evC V.τ S F k c φ = some (e, φ') := hx
          refine wp_block (ih μ o1 φ φ' e a w _ ho1 hxe hst ?_)
          intro a' w' hh
          cases e with
          | normal =>
            simp only [EE.ex, Exit.inBlock]
            exact hQ _ _ (joinOK_l stands_mono hnn hh)
          | exit id' => exact (hne _ _ hxe).elim
          | ret => exact hQ _ _ hh
      · cases hm
    · cases hm
  | loop c ih =>
    intro μ o φ φ' e a w Q hm hx hst hQ
    simp only [evC] at hx
    simp only [chkC] at hm
    generalize 6 = q at hm
    induction q generalizing μ with
    | zero => cases hm
    | succ q ihq =>
      simp only [loopK] at hm
      split at hm
      · rename_i o1 ho1
        -- the head holds again
        have main : (∀ μ', o1.n = some μ' → weakS μ' μ = true) → o = { o1 with n := none } → (Code.loop c).wp V.P Q a w := by
          intro hback ho
          have key : ∀ j φ a w, Stands A X.n φ μ a w → iter (evC V.τ S F k c) j φ = some (e, φ') → ∀ (b : Go.Frame) (kk : List Item) (cs : List Go.Frame), ∃ e1 a' w', Q e1 a' w' ∧ Arrives V.P (lone (b.at a (.code c :: .inLoop c :: kk)) cs w) b kk cs e1 a' w' := by
            intro j
            induction j with
            | zero => intro φ a w _ h; cases h
            | succ j ihj =>
              intro φ a w hst hit b kk cs
              simp only [iter] at hit
              split at hit
              · rename_i φ1 hb
                have hbody := ih μ o1 φ φ1 .normal a w (Exit.then (fun a' w' => Stands A X.n φ1 μ a' w') Q) ho1 hb hst (by
                  rintro a' w' ⟨μ', h1, h2⟩
                  exact stands_mono _ _ (hback μ' h1) h2)
                obtain ⟨e1, a₁, w₁, hq, harr⟩ := hbody b (.inLoop c :: kk) cs
                cases e1 with
                | normal =>
                  obtain ⟨e₂, a₂, w₂, hq₂, harr₂⟩ := ihj φ1 a₁ w₁ hq hit b kk cs
                  exact ⟨e₂, a₂, w₂, hq₂, .of_steps (Steps.trans harr (.one step_inLoop)) harr₂⟩
                | exit id => exact ⟨_, a₁, w₁, hq, .pass (x := .inLoop c) rfl (fun _ _ => .inl (by simp)) harr⟩
                | goto l => exact ⟨_, a₁, w₁, hq, .pass (x := .inLoop c) rfl (fun _ _ => .inl (by simp)) harr⟩
                | ret => exact ⟨_, a₁, w₁, hq, .pass (x := .inLoop c) rfl (fun _ _ => .inl (by simp)) harr⟩
                | panic ch => exact ⟨_, a₁, w₁, hq, .pass (x := .inLoop c) rfl (fun _ _ => .inl (by simp)) harr⟩
                | outgrown => exact ⟨_, a₁, w₁, hq, .pass (x := .inLoop c) rfl (fun _ _ => .inl (by simp)) harr⟩
              · rename_i hne
                have hit' : evC V.τ S F k c φ = some (e, φ') := hit
                have hen : e ≠ .normal := by rintro rfl; exact hne φ' hit'
                have hbody := ih μ o1 φ φ' e a w (Exit.then (fun _ _ => False) Q) ho1 hit' hst (by
                  intro a' w' hh
                  have : Q e.ex a' w' := hQ a' w' (by
                    rw [ho]
                    cases e with
                    | normal => exact (hen rfl).elim
                    | exit id => exact hh
                    | ret => exact hh)
                  cases e with
                  | normal => exact (hen rfl).elim
                  | exit id => exact this
                  | ret => exact this)
                obtain ⟨e1, a₁, w₁, hq, harr⟩ := hbody b (.inLoop c :: kk) cs
                cases e1 with
                | normal => exact hq.elim
                | exit id => exact ⟨_, a₁, w₁, hq, .pass (x := .inLoop c) rfl (fun _ _ => .inl (by simp)) harr⟩
                | goto l => exact ⟨_, a₁, w₁, hq, .pass (x := .inLoop c) rfl (fun _ _ => .inl (by simp)) harr⟩
                | ret => exact ⟨_, a₁, w₁, hq, .pass (x := .inLoop c) rfl (fun _ _ => .inl (by simp)) harr⟩
                | panic ch => exact ⟨_, a₁, w₁, hq, .pass (x := .inLoop c) rfl (fun _ _ => .inl (by simp)) harr⟩
                | outgrown => exact ⟨_, a₁, w₁, hq, .pass (x := .inLoop c) rfl (fun _ _ => .inl (by simp)) harr⟩
          intro b kk cs
          obtain ⟨e1, a', w', hq, harr⟩ := key k φ a w hst hx b kk cs
          exact ⟨e1, a', w', hq, .of_steps (.one step_loop) harr⟩
        split at hm
        · rename_i μ' hμ'
          split at hm
          · rename_i hw
            cases hm
            exact main (fun μ2 h2 => by rw [hμ'] at h2; cases h2; exact hw) rfl
          · split at hm
            · rename_i hw2
              exact ihq (joinMu μ μ') (stands_mono _ _ hw2 hst) hm
            · cases hm
        · rename_i hno
          cases hm
          exact main (fun μ2 h2 => by rw [hno] at h2; cases h2) rfl
      · cases hm
  | exit id =>
    intro μ o φ φ' e a w Q hm hx hst hQ
    simp only [chkC, Option.some.injEq] at hm
    simp only [evC, Option.some.injEq, Prod.mk.injEq] at hx
    obtain ⟨rfl, rfl⟩ := hx
    subst hm
    exact wp_exit (hQ _ _ ⟨μ, by simp [List.lookup_cons], hst⟩)
  | ret =>
    intro μ o φ φ' e a w Q hm hx hst hQ
    simp only [chkC, Option.some.injEq] at hm
    simp only [evC, Option.some.injEq, Prod.mk.injEq] at hx
    obtain ⟨rfl, rfl⟩ := hx
    subst hm
    exact wp_ret (hQ _ _ ⟨μ, rfl, hst⟩)
  | _ => intro μ o φ φ' e a w Q hm; cases hm
end
end Go.Ev


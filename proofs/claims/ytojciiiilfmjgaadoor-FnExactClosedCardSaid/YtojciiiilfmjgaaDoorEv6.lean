/- What a Go function does, reckoned in plain data, and that it does so: part 6. -/
import Derived.Lib.SliceRun
import Derived.Test.YtojciiiilfmjgaaDoorEv5
set_option linter.all false
/- A region whose order is drawn, with whole boxes that are written in its settled part. -/
set_option linter.unusedVariables false
namespace Go.Ev

def offW (W : List Nat) : Operand → Bool
  | .tmp v => !W.contains v
  | _ => true

/-- The modes of a box that is written. -/
def judgeS (τ : List TE) (W : List Nat) (o : Oper) (μ : Mu) : Option (Nat × List M) := match o.op with
  | .store t (.tmp s) x => match TE.find τ t, cellsV μ x with
    | some e, some ms => if o.guard.isNone && o.dst.isNone && W.contains s && offW W x && ms.length == e.zero.length then some (s, flatL e.zero ms) else none
    | _, _ => none
  | _ => none

theorem judgeS_spec {τ : List TE} {W : List Nat} {o : Oper} {μ : Mu} {s : Nat} {new : List M} (h : judgeS τ W o μ = some (s, new)) : ∃ t x e ms, IsStore W o t s x ∧ TE.find τ t = some e ∧ cellsV μ x = some ms ∧ ms.length = e.zero.length ∧ new = flatL e.zero ms := by
  unfold judgeS at h
  split at h
  · rename_i t s' x ho
    split at h
    · rename_i e ms he hms
      split at h
      · rename_i hc
        cases h
        simp only [Bool.and_eq_true, Option.isNone_iff_eq_none, beq_iff_eq] at hc
        obtain ⟨⟨⟨⟨h1, h2⟩, h3⟩, h4⟩, h5⟩ := hc
        refine ⟨t, x, e, ms, ⟨ho, h1, h2, by simpa using h3, ?_⟩, he, hms, h5, rfl⟩
        rintro v rfl
        have h4' : (!W.contains v) = true := h4
        rw [Bool.not_eq_true', List.contains_eq_mem, decide_eq_false_iff_not] at h4'
        exact h4'
      · cases h
    · cases h
  · cases h

def allocN (τ : List TE) (o : Oper) : Option (Nat × Nat) := match o.op, o.dst with
  | .alloc t, some s => match TE.find τ t with
    | some e => if fits e.zero (e.zero.map ZC.d) then some (s, e.zero.length) else none
    | none => none
  | _, _ => none

def offD (W : List Nat) : Option Tmp → Bool
  | some d => !W.contains d
  | none => true

theorem isAl_spec {W : List Nat} {o : Oper} (h : isAl W o = true) : ∃ t s, IsAlloc W o t s := by
  unfold isAl at h
  split at h
  · rename_i t s h1 h2
    simp only [Bool.and_eq_true, Option.isNone_iff_eq_none] at h
    exact ⟨t, s, h1, h.1, h2, by simpa using h.2⟩
  · cases h

theorem IsAlloc.is {W : List Nat} {o : Oper} {t s : Nat} (h : IsAlloc W o t s) : isAl W o = true := by
  simp [isAl, h.op, h.dst, h.guard, h.mem]

def boxN (μ : Mu) (s : Nat) : Nat := match μ.get s with
  | .box ms => ms.length
  | _ => 0

def calmM (μ : Mu) : Mu := List.map (fun p => (p.1, calm p.2)) μ
theorem calmM_get (μ : Mu) (s : Nat) : (calmM μ).get s = calm (μ.get s) := get_mapG calm rfl μ s
theorem calm_calm (x : SM) : calm (calm x) = calm x := by
  cases x with
  | c m o => cases o <;> rfl
  | agg m o => cases o <;> rfl
  | _ => rfl
section
variable (τ : List TE) (Sg : Nat → Option Sig) (colsP : Pol) (n : Nat) (ops : Array Oper) (μ0 : Mu) (dl : List (Option Tmp)) (W : List Nat) (nW : Nat → Nat)

def settleS : Nat → List Oper → List (List Nat) → List Mu → Option (List Mu)
  | _, [], _, Es => some Es
  | _, _ :: _, [], _ => none
  | i, o :: l, b :: bs, Es =>
    let μ := seeM μ0 Es b
    if smallO n o && b.all (fun j => Nat.blt j i) then (if isSt o then (match judgeS τ W o μ with
      | some (s, new) => if avL W new && new.length == nW s && dl.zipIdx.all (fun p => p.1 != some s || b.contains p.2) then settleS (i + 1) l bs (Es ++ [[(s, .box new)]]) else none
      | none => none)
    else if isAl W o then (match allocN τ o with
      | some (s, k) => if k == nW s then settleS (i + 1) l bs (Es ++ [[]]) else none
      | none => none)
    else (match judge τ Sg (colsP.cols o μ) o μ with
      | some ms => if Nat.ble ms.length 8 && List.all (calmM (entE o.dst ms)) (fun p => p.2.free (isHit (othersD dl i b)) && p.2.av W) && guardS ops o μ b ms && offD W o.dst then settleS (i + 1) l bs (Es ++ [calmM (entE o.dst ms)]) else none
      | none => none)) else none

structure SettledAt (EF : List Mu) (i : Nat) (o : Oper) (b : List Nat) : Prop where
  small : smallO n o = true
  lt : ∀ j ∈ b, j < i
  ex : (isEf W o = false ∧ (∀ d, o.dst = some d → d ∉ W) ∧ ∃ cols ms, judge τ Sg cols o (seeM μ0 EF b) = some ms ∧ ms.length ≤ 8 ∧ EF.getD i [] = calmM (entE o.dst ms) ∧ (∀ p ∈ calmM (entE o.dst ms), p.2.free (isHit (othersD dl i b)) = true ∧ p.2.av W = true) ∧ guardS ops o (seeM μ0 EF b) b ms = true) ∨
    (isSt o = true ∧ ∃ s new, judgeS τ W o (seeM μ0 EF b) = some (s, new) ∧ EF.getD i [] = [(s, .box new)] ∧ avL W new = true ∧ new.length = nW s ∧ ∀ ja, dl[ja]? = some (some s) → ja ∈ b) ∨
    (isSt o = false ∧ isAl W o = true ∧ ∃ t s e, IsAlloc W o t s ∧ TE.find τ t = some e ∧ EF.getD i [] = [] ∧ e.zero.length = nW s ∧ fits e.zero (e.zero.map ZC.d) = true)
end

section
variable {τ : List TE} {Sg : Nat → Option Sig} {colsP : Pol} {n : Nat} {ops : Array Oper} {μ0 : Mu} {dl : List (Option Tmp)} {W : List Nat} {nW : Nat → Nat}

theorem settleS_spec : ∀ (l : List Oper) (i : Nat) (bs : List (List Nat)) (Es EF : List Mu), i = Es.length → settleS τ Sg colsP n ops μ0 dl W nW i l bs Es = some EF →
    ∃ Ys, EF = Es ++ Ys ∧ Ys.length = l.length ∧ ∀ k o b, l[k]? = some o → bs[k]? = some b → SettledAt τ Sg n ops μ0 dl W nW EF (i + k) o b
  | [], i, bs, Es, EF, hi, h => by
    simp only [settleS, Option.some.injEq] at h
    exact ⟨[], by simp [h], rfl, by simp⟩
  | o :: l, i, [], Es, EF, hi, h => by simp [settleS] at h
  | o :: l, i, b :: bs, Es, EF, hi, h => by
    simp only [settleS] at h
    split at h
    · rename_i hc
      simp only [Bool.and_eq_true, List.all_eq_true, Nat.blt_eq] at hc
      have go : ∀ E, settleS τ Sg colsP n ops μ0 dl W nW (i + 1) l bs (Es ++ [E]) = some EF → (EF.getD i [] = E → seeM μ0 EF b = seeM μ0 Es b → SettledAt τ Sg n ops μ0 dl W nW EF i o b) →
          ∃ Ys, EF = Es ++ Ys ∧ Ys.length = (o :: l).length ∧ ∀ k o' b', (o :: l)[k]? = some o' → (b :: bs)[k]? = some b' → SettledAt τ Sg n ops μ0 dl W nW EF (i + k) o' b' := by
        intro E h hat
        obtain ⟨Ys, h1, h2, h3⟩ := settleS_spec l (i + 1) bs _ EF (by simp [hi]) h
        have hpre : seeM μ0 EF b = seeM μ0 Es b := by
          rw [h1, List.append_assoc]
          exact seeM_pre fun j hj => by rw [← hi]; exact hc.2 j hj
        refine ⟨E :: Ys, by rw [h1]; simp, by simp [h2], ?_⟩
        intro k o' b' hk hb
        cases k with
        | zero =>
          simp only [List.getElem?_cons_zero, Option.some.injEq] at hk hb
          subst hk; subst hb
          refine hat ?_ hpre
          rw [h1, hi]
          simp [List.getD_eq_getElem?_getD]
        | succ k =>
          simp only [List.getElem?_cons_succ] at hk hb
          have := h3 k o' b' hk hb
          rw [show i + (k + 1) = i + 1 + k by omega]
          exact this
      split at h
      · rename_i hst
        split at h
        · rename_i s new hj
          split at h
          · rename_i hc2
            simp only [Bool.and_eq_true, beq_iff_eq, List.all_eq_true] at hc2
            refine go _ h fun he hp => ⟨hc.1, fun j hj => hc.2 j hj, .inr (.inl ⟨hst, s, new, by rw [hp]; exact hj, he, hc2.1.1, hc2.1.2, ?_⟩)⟩
            intro ja hja
            have := hc2.2 (some s, ja) (List.mem_iff_getElem?.2 ⟨ja, by simp [List.getElem?_zipIdx, hja]⟩)
            simpa using this
          · cases h
        · cases h
      · rename_i hst
        split at h
        · rename_i hal
          split at h
          · rename_i s k hk
            split at h
            · rename_i hc2
              obtain ⟨t, s', ha⟩ := isAl_spec hal
              unfold allocN at hk
              rw [ha.op, ha.dst] at hk
              simp only at hk
              split at hk
              · rename_i e he
                split at hk
                · rename_i hfz
                  simp only [Option.some.injEq, Prod.mk.injEq] at hk
                  obtain ⟨rfl, rfl⟩ := hk
                  exact go _ h fun hE hp => ⟨hc.1, fun j hj => hc.2 j hj, .inr (.inr ⟨by simpa using hst, hal, t, _, e, ha, he, hE, by simpa using hc2, hfz⟩)⟩
                · cases hk
              · cases hk
            · cases h
          · cases h
        · rename_i hal
          split at h
          · rename_i ms hms
            split at h
            · rename_i hc2
              simp only [Bool.and_eq_true, List.all_eq_true, Nat.ble_eq] at hc2
              refine go _ h fun he hp => ⟨hc.1, fun j hj => hc.2 j hj, .inl ⟨by simp [isEf, hst, hal], ?_, _, ms, by rw [hp]; exact hms, hc2.1.1.1, he, fun p hp => hc2.1.1.2 p hp, by rw [hp]; exact hc2.1.2⟩⟩
              intro d hd
              have h9 := hc2.2
              rw [hd] at h9
              have h9' : (!W.contains d) = true := h9
              rw [Bool.not_eq_true', List.contains_eq_mem, decide_eq_false_iff_not] at h9'
              exact h9'
            · cases h
          · cases h
    · cases h

theorem calmM_lookup {μ : Mu} {s : Nat} {x : SM} (h : List.lookup s (calmM μ) = some x) : ∃ y, List.lookup s μ = some y ∧ x = calm y := by
  unfold calmM at h
  rw [lookup_map calm] at h
  rw [Option.map_eq_some_iff] at h
  obtain ⟨y, h1, h2⟩ := h
  exact ⟨y, h1, h2.symm⟩
end

section
variable {V : Env} {A : Start} {n : Nat} {S : Nat → Option (List PK)} {F : Nat → List X → Option (List X × List X)} {Sg : Nat → Option Sig} {ops : Array Oper} {μ0 : Mu} {colsP : Pol} {W : List Nat} {nW : Nat → Nat} {m : Nat} {dl : List (Option Tmp)} {B : List (List Nat)} {EF : List Mu}

/-- What the modes are where some are settled. -/
structure Canon (ops : Array Oper) (m : Nat) (μ0 : Mu) (W : List Nat) (nW : Nat → Nat) (EF : List Mu) (listed : Array Bool) (μ : Mu) : Prop where
  base : ∀ s, isHit (dstsOf (ops.toList.take m)) s = false → s ∉ W → μ.get s = μ0.get s
  done : ∀ j o d s, ops[j]? = some o → j < m → isEf W o = false → listed.getD j false = true → o.dst = some d → hit d s = true → μ.get s = Mu.get (EF.getD j []) s
  rest : ∀ j o d s, ops[j]? = some o → j < m → isEf W o = false → listed.getD j false = false → o.dst = some d → hit d s = true → μ.get s = .u
  cx : ∀ j o d s, ops[j]? = some o → j < m → isEf W o = true → o.dst = some d → hit d s = true → s ∉ W → μ.get s = .u
  wr1 : ∀ j o s new, ops[j]? = some o → j < m → isSt o = true → EF.getD j [] = [(s, .box new)] → listed.getD j false = true → μ.get s = .box new
  wr2 : ∀ j o s new, ops[j]? = some o → j < m → isSt o = true → EF.getD j [] = [(s, .box new)] → listed.getD j false = false → (∀ ja oa, ops[ja]? = some oa → ja < m → oa.dst = some s → listed.getD ja false = true) → μ.get s = .box (List.replicate (nW s) .u)
  wr3 : ∀ ja oa s, ops[ja]? = some oa → ja < m → oa.dst = some s → s ∈ W → listed.getD ja false = false → μ.get s = .u

/-- What is known of the region's text. -/
structure SetOk (τ : List TE) (Sg : Nat → Option Sig) (n : Nat) (ops : Array Oper) (μ0 : Mu) (dl : List (Option Tmp)) (W : List Nat) (nW : Nat → Nat) (m : Nat) (B : List (List Nat)) (EF : List Mu) : Prop where
  ok : TextOk ops B m
  hn : n ≤ 1000
  dle : dl = (ops.toList.take m).map (·.dst)
  J : ∀ i o, ops[i]? = some o → i < m → SettledAt τ Sg n ops μ0 dl W nW EF i o (B.getD i [])
  zero : ∀ s x, List.lookup s μ0 = some x → x.free (isHit (dstsOf (ops.toList.take m))) = true ∧ isHit (dstsOf (ops.toList.take m)) s = false ∧ s ∉ W ∧ x.av W = true ∧ calm x = x
  w1 : W.Nodup
  w2 : ∀ s ∈ W, s < 1000
  w3 : W = (ops.toList.take m).filterMap stT

theorem hit_small {d s : Nat} (h : hit d s = true) (hs : s < 1000) : s = d := by
  unfold hit isCix cix at h
  simp only [Bool.or_eq_true, beq_iff_eq, Bool.and_eq_true, decide_eq_true_iff] at h
  omega

theorem SetOk.at_ (k : SetOk V.τ Sg n ops μ0 dl W nW m B EF) {j : Nat} {oj : Oper} (h1 : ops[j]? = some oj) (h2 : j < m) : (ops.toList.take m)[j]? = some oj := by
  rw [List.getElem?_take, if_pos h2]
  simpa using h1

theorem SetOk.mem (k : SetOk V.τ Sg n ops μ0 dl W nW m B EF) {j d : Nat} {oj : Oper} (h1 : ops[j]? = some oj) (h2 : j < m) (h3 : oj.dst = some d) : d ∈ dstsOf (ops.toList.take m) :=
  List.mem_filterMap.2 ⟨oj, List.mem_of_getElem? (k.at_ h1 h2), h3⟩

theorem SetOk.sm (k : SetOk V.τ Sg n ops μ0 dl W nW m B EF) {j d : Nat} {oj : Oper} (h1 : ops[j]? = some oj) (h2 : j < m) (h3 : oj.dst = some d) : d < 1000 := by
  have := (k.J j oj h1 h2).small
  unfold smallO at this
  simp only [Bool.and_eq_true] at this
  have := this.1.2
  rw [h3] at this
  have : Nat.lt d n := by simpa [Nat.blt_eq] using this
  exact Nat.lt_of_lt_of_le this k.hn

theorem SetOk.hits (k : SetOk V.τ Sg n ops μ0 dl W nW m B EF) {s : Nat} (h : isHit (dstsOf (ops.toList.take m)) s = true) : ∃ j o d, ops[j]? = some o ∧ j < m ∧ o.dst = some d ∧ hit d s = true := by
  obtain ⟨d, hd, hh⟩ := isHit_iff.1 h
  obtain ⟨o, ho, e⟩ := List.mem_filterMap.1 hd
  obtain ⟨j, hj⟩ := List.mem_iff_getElem?.1 ho
  rw [List.getElem?_take] at hj
  split at hj
  · rename_i hjm; exact ⟨j, o, d, by simpa using hj, hjm, e, hh⟩
  · cases hj

theorem st_of {o : Oper} {s : Nat} (e : stT o = some s) : isSt o = true := by
  unfold stT at e
  split at e
  · rename_i q; simp [isSt, q]
  · cases e

/-- What is known of a store. -/
theorem SetOk.store (k : SetOk V.τ Sg n ops μ0 dl W nW m B EF) {j : Nat} {o : Oper} (h1 : ops[j]? = some o) (h2 : j < m) (h3 : isSt o = true) : ∃ s new t x e ms, EF.getD j [] = [(s, .box new)] ∧ IsStore W o t s x ∧ TE.find V.τ t = some e ∧ cellsV (seeM μ0 EF (B.getD j [])) x = some ms ∧ ms.length = e.zero.length ∧ new = flatL e.zero ms ∧ avL W new = true ∧ new.length = nW s ∧ ∀ ja oa, ops[ja]? = some oa → ja < m → oa.dst = some s → ja ∈ B.getD j [] := by
  rcases (k.J j o h1 h2).ex with ⟨h4, _⟩ | ⟨_, s', new, h4, h5, h6, h7, h8⟩ | ⟨h4, _⟩
  · simp [isEf, h3] at h4
  · obtain ⟨t, x, e', ms, g1, g2, g3, g4, g5⟩ := judgeS_spec h4
    refine ⟨s', new, t, x, e', ms, h5, g1, g2, g3, g4, g5, h6, h7, fun ja oa q1 q2 q3 => h8 ja ?_⟩
    rw [k.dle, List.getElem?_map, k.at_ q1 q2]
    simp [q3]
  · rw [h3] at h4; cases h4

theorem SetOk.writes (k : SetOk V.τ Sg n ops μ0 dl W nW m B EF) {s : Nat} (h : s ∈ W) : ∃ j o new, ops[j]? = some o ∧ j < m ∧ isSt o = true ∧ EF.getD j [] = [(s, .box new)] ∧ avL W new = true := by
  rw [k.w3] at h
  obtain ⟨o, ho, e⟩ := List.mem_filterMap.1 h
  obtain ⟨j, hj⟩ := List.mem_iff_getElem?.1 ho
  rw [List.getElem?_take] at hj
  split at hj
  · rename_i hjm
    have hj' : ops[j]? = some o := by simpa using hj
    have hst := st_of e
    obtain ⟨s', new, t, x, e', ms, g1, g2, _, _, _, _, g3, _⟩ := k.store hj' hjm hst
    have := g2.stT
    rw [this] at e
    cases e
    exact ⟨j, o, new, hj', hjm, hst, g1, g3⟩
  · cases hj

/-- What is known of a box that is made. -/
theorem SetOk.alloc (k : SetOk V.τ Sg n ops μ0 dl W nW m B EF) {j d : Nat} {o : Oper} (h1 : ops[j]? = some o) (h2 : j < m) (h3 : o.dst = some d) (h4 : isEf W o = true) : ∃ t e, IsAlloc W o t d ∧ TE.find V.τ t = some e ∧ EF.getD j [] = [] ∧ e.zero.length = nW d := by
  rcases (k.J j o h1 h2).ex with ⟨h5, _⟩ | ⟨h5, _⟩ | ⟨_, _, t, s', e, g1, g2, g3, g4, _⟩
  · rw [h4] at h5; cases h5
  · obtain ⟨s', new, t, x, e', ms, _, g2, _⟩ := k.store h1 h2 h5
    rw [g2.dst] at h3; cases h3
  · have := g1.dst
    rw [h3] at this; cases this
    exact ⟨t, e, g1, g2, g3, g4⟩

/-- What is known of what leaves but results. -/
theorem SetOk.pure (k : SetOk V.τ Sg n ops μ0 dl W nW m B EF) {j : Nat} {o : Oper} (h1 : ops[j]? = some o) (h2 : j < m) (h3 : isEf W o = false) : (∀ d, o.dst = some d → d ∉ W) ∧ ∃ cols ms, judge V.τ Sg cols o (seeM μ0 EF (B.getD j [])) = some ms ∧ ms.length ≤ 8 ∧ EF.getD j [] = calmM (entE o.dst ms) ∧ (∀ p ∈ calmM (entE o.dst ms), p.2.free (isHit (othersD dl j (B.getD j []))) = true ∧ p.2.av W = true) ∧ guardS ops o (seeM μ0 EF (B.getD j [])) (B.getD j []) ms = true := by
  rcases (k.J j o h1 h2).ex with ⟨_, h4⟩ | ⟨h4, _⟩ | ⟨_, h4, _⟩
  · exact h4
  · simp [isEf, h4] at h3
  · simp [isEf, h4] at h3

theorem SetOk.away (k : SetOk V.τ Sg n ops μ0 dl W nW m B EF) {j d s : Nat} {o : Oper} (h1 : ops[j]? = some o) (h2 : j < m) (h3 : isEf W o = false) (h4 : o.dst = some d) (h5 : hit d s = true) : s ∉ W := by
  intro hs
  have := hit_small h5 (k.w2 s hs)
  subst this
  exact (k.pure h1 h2 h3).1 _ h4 hs

theorem SetOk.same (k : SetOk V.τ Sg n ops μ0 dl W nW m B EF) {i j d d' s : Nat} {o o' : Oper} (h1 : ops[i]? = some o) (h2 : i < m) (h3 : o.dst = some d) (h4 : hit d s = true) (k1 : ops[j]? = some o') (k2 : j < m) (k3 : o'.dst = some d') (k4 : hit d' s = true) : i = j := by
  have : d = d' := hit_disj (k.sm h1 h2 h3) (k.sm k1 k2 k3) h4 k4
  subst this
  exact filterMap_inj (f := (·.dst)) k.ok.dsts (k.at_ h1 h2) (k.at_ k1 k2) h3 k3

theorem avR (W : List Nat) : ∀ n : Nat, avL W (List.replicate n .u) = true
  | 0 => rfl
  | n + 1 => by simp only [List.replicate_succ, avL, M.av, Bool.true_and]; exact avR W n

/-- What stands at a slot: a box that is written; nothing; what a result is; what was. -/
theorem Canon.cases {listed : Array Bool} {μ : Mu} (k : SetOk V.τ Sg n ops μ0 dl W nW m B EF) (hI : Canon ops m μ0 W nW EF listed μ) (s : Nat) :
    (s ∈ W ∧ ((∃ ms, μ.get s = .box ms ∧ avL W ms = true) ∨ μ.get s = .u)) ∨ μ.get s = .u ∨
    (∃ j o d, ops[j]? = some o ∧ j < m ∧ isEf W o = false ∧ listed.getD j false = true ∧ o.dst = some d ∧ hit d s = true ∧ μ.get s = Mu.get (EF.getD j []) s) ∨
    (isHit (dstsOf (ops.toList.take m)) s = false ∧ s ∉ W ∧ μ.get s = μ0.get s) := by
  by_cases hw : s ∈ W
  · refine .inl ⟨hw, ?_⟩
    obtain ⟨j, o, new, h1, h2, h3, h4, h5⟩ := k.writes hw
    cases hl : listed.getD j false with
    | true => exact .inl ⟨new, hI.wr1 j o s new h1 h2 h3 h4 hl, h5⟩
    | false =>
      by_cases ha : ∀ ja oa, ops[ja]? = some oa → ja < m → oa.dst = some s → listed.getD ja false = true
      · exact .inl ⟨_, hI.wr2 j o s new h1 h2 h3 h4 hl ha, avR W _⟩
      · right
        simp only [Classical.not_forall, Bool.not_eq_true] at ha
        obtain ⟨ja, oa, q1, q2, q3, q4⟩ := ha
        exact hI.wr3 ja oa s q1 q2 q3 hw q4
  · right
    by_cases hh : isHit (dstsOf (ops.toList.take m)) s = true
    · obtain ⟨j, o, d, h1, h2, h3, h4⟩ := k.hits hh
      cases he : isEf W o with
      | true => exact .inl (hI.cx j o d s h1 h2 he h3 h4 hw)
      | false =>
        cases hl : listed.getD j false with
        | true => exact .inr (.inl ⟨j, o, d, h1, h2, he, hl, h3, h4, hI.done j o d s h1 h2 he hl h3 h4⟩)
        | false => exact .inl (hI.rest j o d s h1 h2 he hl h3 h4)
    · exact .inr (.inr ⟨by simpa using hh, hw, hI.base s (by simpa using hh) hw⟩)

/-- What stands at a slot speaks of no box that is written, and is calm. -/
theorem Canon.av {listed : Array Bool} {μ : Mu} (k : SetOk V.τ Sg n ops μ0 dl W nW m B EF) (hI : Canon ops m μ0 W nW EF listed μ) (s : Nat) : (μ.get s).av W = true ∧ calm (μ.get s) = μ.get s := by
  rcases hI.cases k s with ⟨_, ⟨ms, e, h⟩ | e⟩ | e | ⟨j, o, d, h1, h2, h3, h4, h5, h6, e⟩ | ⟨h1, h2, e⟩
  · rw [e]; exact ⟨h, rfl⟩
  · rw [e]; exact ⟨rfl, rfl⟩
  · rw [e]; exact ⟨rfl, rfl⟩
  · rw [e]
    obtain ⟨_, cols, ms, _, _, hE, hav, _⟩ := k.pure h1 h2 h3
    rw [hE]
    refine ⟨?_, by rw [calmM_get, calm_calm]⟩
    cases hq : List.lookup s (calmM (entE o.dst ms)) with
    | none => unfold Mu.get; rw [hq]; rfl
    | some x => rw [get_of_lookup hq]; exact (hav _ (lookup_mem hq)).2
  · rw [e]
    cases hq : List.lookup s μ0 with
    | none => unfold Mu.get; rw [hq]; exact ⟨rfl, rfl⟩
    | some x => rw [get_of_lookup hq]; exact ⟨(k.zero s x hq).2.2.2.1, (k.zero s x hq).2.2.2.2⟩

/-- What is seen is so. -/
theorem Canon.see {listed : Array Bool} {μ : Mu} (k : SetOk V.τ Sg n ops μ0 dl W nW m B EF) (hI : Canon ops m μ0 W nW EF listed μ) {b : List Nat} (hb : ∀ j ∈ b, j < m ∧ listed.getD j false = true) (s : Nat) : (seeM μ0 EF b).get s = .u ∨ (seeM μ0 EF b).get s = μ.get s := by
  cases hl : List.lookup s (seeM μ0 EF b) with
  | none => left; unfold Mu.get; rw [hl]
  | some x =>
    right
    rw [get_of_lookup hl]
    rcases seeM_get b hl with ⟨j, hj, h1⟩ | h1
    · obtain ⟨hjm, hjl⟩ := hb j hj
      have hjs : j < ops.size := by have := k.ok.le; omega
      have ho : ops[j]? = some ops[j] := Array.getElem?_eq_getElem hjs
      rcases (k.J j _ ho hjm).ex with ⟨hef, _, cols, ms, _, h8, hE, _, _⟩ | ⟨hst, s', new, _, hE, _⟩ | ⟨_, _, t, s', e, _, _, hE, _⟩
      · have h1' := h1
        rw [hE] at h1'
        obtain ⟨y, hy, _⟩ := calmM_lookup h1'
        obtain ⟨d, e, hh⟩ := entE_hit h8 hy
        rw [hI.done j _ d s ho hjm hef hjl e hh, get_of_lookup h1]
      · have hE' := hE
        rw [hE] at h1
        rw [List.lookup_cons] at h1
        split at h1
        · rename_i e
          cases h1
          have e' : s = s' := by simpa using e
          subst e'
          rw [hI.wr1 j _ s new ho hjm hst hE' hjl]
        · simp at h1
      · rw [hE] at h1; simp at h1
    · obtain ⟨_, z2, z3, _⟩ := k.zero s x h1
      rw [hI.base s z2 z3, get_of_lookup h1]

/-- A slot that is put elsewhere changes nothing. -/
theorem Canon.drop {listed : Array Bool} {μ : Mu} (k : SetOk V.τ Sg n ops μ0 dl W nW m B EF) (hdown : ∀ i, listed.getD i false = true → ∀ b ∈ B.getD i [], listed.getD b false = true) (hI : Canon ops m μ0 W nW EF listed μ) {i d : Nat} {o : Oper} (ho : ops[i]? = some o) (him : i < m) (hu : listed.getD i false = false) (hd : o.dst = some d) (s : Nat) : calm ((μ.get s).dropS d) = μ.get s := by
  have hc := (hI.av k s).2
  have : (μ.get s).dropS d = μ.get s := by
    rcases hI.cases k s with ⟨_, ⟨ms, e, h⟩ | e⟩ | e | ⟨j, oj, dj, h1, h2, h3, h4, h5, h6, e⟩ | ⟨h1, h2, e⟩
    · rw [e]; rfl
    · rw [e]; rfl
    · rw [e]; rfl
    · rw [e]
      have hnb : i ∉ B.getD j [] := by
        intro hb
        have := hdown j h4 i hb
        rw [hu] at this; cases this
      have hij : i ≠ j := by rintro rfl; rw [hu] at h4; cases h4
      obtain ⟨_, cols, ms, _, h8, hE, hfree, _⟩ := k.pure h1 h2 h3
      refine drop_same (p := isHit (othersD dl j (B.getD j []))) (fun s' hs' => isHit_iff.2 ⟨d, ?_, hs'⟩) fun x hx => ?_
      · refine mem_others (k := i) ?_ hij hnb
        rw [k.dle, List.getElem?_map, k.at_ ho him]
        simp [hd]
      · rw [hE] at hx
        exact (hfree _ (lookup_mem hx)).1
    · rw [e]
      exact drop_same (p := isHit (dstsOf (ops.toList.take m))) (fun s' hs' => isHit_iff.2 ⟨d, k.mem ho him hd, hs'⟩) fun x hx => (k.zero s x hx).1
  rw [this]; exact hc

/-- One more is settled: a result. -/
theorem Canon.put {listed : Array Bool} {μ μ' : Mu} (k : SetOk V.τ Sg n ops μ0 dl W nW m B EF) (hdown : ∀ i, listed.getD i false = true → ∀ b ∈ B.getD i [], listed.getD b false = true) (hls : listed.size = ops.size)
    (hI : Canon ops m μ0 W nW EF listed μ) {i : Nat} {o : Oper} (ho : ops[i]? = some o) (him : i < m) (hp : isEf W o = false) (hu : listed.getD i false = false) (hg : ∀ s, (∃ d, o.dst = some d ∧ hit d s = true ∧ μ'.get s = Mu.get (EF.getD i []) s) ∨ ((∀ d, o.dst = some d → hit d s = false) ∧ μ'.get s = calm (o.dst.elim (μ.get s) fun d => (μ.get s).dropS d))) :
    Canon ops m μ0 W nW EF (listed.setIfInBounds i true) μ' := by
  have hi : i < listed.size := by rw [hls]; exact (Array.getElem?_eq_some_iff.1 ho).1
  have key : ∀ s, (∀ d, o.dst = some d → hit d s = false) → μ'.get s = μ.get s := by
    intro s hs
    rcases hg s with ⟨d, e, hh, _⟩ | ⟨_, h2⟩
    · rw [hs d e] at hh; cases hh
    · rw [h2]
      cases e : o.dst with
      | none => exact (hI.av k s).2
      | some d => exact hI.drop k hdown ho him hu e s
  have away : ∀ s, s ∈ W → ∀ d, o.dst = some d → hit d s = false := by
    intro s hs d e
    rw [Bool.eq_false_iff]
    intro hh
    exact k.away ho him hp e hh hs
  have other : ∀ j oj dj s, ops[j]? = some oj → j < m → j ≠ i → oj.dst = some dj → hit dj s = true → ∀ d, o.dst = some d → hit d s = false := by
    intro j oj dj s h1 h2 hne h3 h4 d e
    rw [Bool.eq_false_iff]
    intro hh
    exact hne (k.same h1 h2 h3 h4 ho him e hh)
  refine ⟨?_, ?_, ?_, ?_, ?_, ?_, ?_⟩
  · intro s hs hw
    rw [key s ?_]
    · exact hI.base s hs hw
    · intro d e
      rw [Bool.eq_false_iff]
      intro hh
      have := isHit_iff.2 ⟨d, k.mem ho him e, hh⟩
      rw [hs] at this; cases this
  · intro j oj dj s hj hjm hef hjl hdj hh
    by_cases e : j = i
    · subst e
      rw [ho] at hj; cases hj
      rcases hg s with ⟨d, e, _, h2⟩ | ⟨h1, _⟩
      · exact h2
      · have := h1 dj hdj
        rw [hh] at this; cases this
    · rw [getD_set_ne false (fun e' => e e'.symm)] at hjl
      rw [key s (other j oj dj s hj hjm e hdj hh)]
      exact hI.done j oj dj s hj hjm hef hjl hdj hh
  · intro j oj dj s hj hjm hef hjl hdj hh
    by_cases e : j = i
    · subst e
      simp [hi] at hjl
    · rw [getD_set_ne false (fun e' => e e'.symm)] at hjl
      rw [key s (other j oj dj s hj hjm e hdj hh)]
      exact hI.rest j oj dj s hj hjm hef hjl hdj hh
  · intro j oj dj s hj hjm hef hdj hh hw
    have e : j ≠ i := by rintro rfl; rw [ho] at hj; cases hj; rw [hp] at hef; cases hef
    rw [key s (other j oj dj s hj hjm e hdj hh)]
    exact hI.cx j oj dj s hj hjm hef hdj hh hw
  · intro j oj s new hj hjm hst hE hjl
    have e : j ≠ i := by rintro rfl; rw [ho] at hj; cases hj; simp [isEf, hst] at hp
    obtain ⟨s', new', t, x, e', ms, g1, g2, _⟩ := k.store hj hjm hst
    rw [hE] at g1; cases g1
    rw [getD_set_ne false (fun e' => e e'.symm)] at hjl
    rw [key s (away s g2.mem)]
    exact hI.wr1 j oj s new hj hjm hst hE hjl
  · intro j oj s new hj hjm hst hE hjl hall
    have e : j ≠ i := by rintro rfl; rw [ho] at hj; cases hj; simp [isEf, hst] at hp
    obtain ⟨s', new', t, x, e', ms, g1, g2, _⟩ := k.store hj hjm hst
    rw [hE] at g1; cases g1
    rw [getD_set_ne false (fun e' => e e'.symm)] at hjl
    rw [key s (away s g2.mem)]
    refine hI.wr2 j oj s new hj hjm hst hE hjl fun ja oa q1 q2 q3 => ?_
    have := hall ja oa q1 q2 q3
    rwa [getD_set_ne false] at this
    rintro rfl
    rw [ho] at q1; cases q1
    exact (k.pure ho him hp).1 _ q3 g2.mem
  · intro ja oa s q1 q2 q3 hw hl
    rw [key s (away s hw)]
    have e : ja ≠ i := by rintro rfl; rw [ho] at q1; cases q1; exact (k.pure ho him hp).1 _ q3 hw
    rw [getD_set_ne false (fun e' => e e'.symm)] at hl
    exact hI.wr3 ja oa s q1 q2 q3 hw hl

/-- One more is settled: a box. -/
theorem Canon.wrote {listed : Array Bool} {μ μ' : Mu} (k : SetOk V.τ Sg n ops μ0 dl W nW m B EF) (hls : listed.size = ops.size)
    (hI : Canon ops m μ0 W nW EF listed μ) {i : Nat} {o : Oper} {s : Nat} {new : List M} (ho : ops[i]? = some o) (him : i < m) (hcl : ∀ b ∈ B.getD i [], listed.getD b false = true) (hp : isSt o = true) (hE : EF.getD i [] = [(s, .box new)]) (h1 : μ'.get s = .box new) (h2 : ∀ s', s' ≠ s → μ'.get s' = μ.get s') :
    Canon ops m μ0 W nW EF (listed.setIfInBounds i true) μ' := by
  have hi : i < listed.size := by rw [hls]; exact (Array.getElem?_eq_some_iff.1 ho).1
  obtain ⟨s0, new0, t0, x0, e0, ms0, f1, f2, _, _, _, _, _, _, f3⟩ := k.store ho him hp
  rw [hE] at f1; cases f1
  have hsW := f2.mem
  refine ⟨?_, ?_, ?_, ?_, ?_, ?_, ?_⟩
  · intro s' hs hw
    rw [h2 s' (by rintro rfl; exact hw hsW)]
    exact hI.base s' hs hw
  · intro j oj dj s' hj hjm hef hjl hdj hh
    have e : j ≠ i := by rintro rfl; rw [ho] at hj; cases hj; simp [isEf, hp] at hef
    rw [getD_set_ne false (fun e' => e e'.symm)] at hjl
    rw [h2 s' (by rintro rfl; exact k.away hj hjm hef hdj hh hsW)]
    exact hI.done j oj dj s' hj hjm hef hjl hdj hh
  · intro j oj dj s' hj hjm hef hjl hdj hh
    have e : j ≠ i := by rintro rfl; rw [ho] at hj; cases hj; simp [isEf, hp] at hef
    rw [getD_set_ne false (fun e' => e e'.symm)] at hjl
    rw [h2 s' (by rintro rfl; exact k.away hj hjm hef hdj hh hsW)]
    exact hI.rest j oj dj s' hj hjm hef hjl hdj hh
  · intro j oj dj s' hj hjm hef hdj hh hw
    rw [h2 s' (by rintro rfl; exact hw hsW)]
    exact hI.cx j oj dj s' hj hjm hef hdj hh hw
  · intro j oj s' new' hj hjm hst hE' hjl
    by_cases e : j = i
    · subst e
      rw [hE] at hE'
      cases hE'
      exact h1
    · rw [getD_set_ne false (fun e' => e e'.symm)] at hjl
      have hne : s' ≠ s := by
        rintro rfl
        obtain ⟨s2, new2, t2, x2, e2, ms2, g1, g2, _⟩ := k.store hj hjm hst
        rw [hE'] at g1; cases g1
        have hnd := k.w1
        rw [k.w3] at hnd
        exact e (filterMap_inj (f := stT) hnd (k.at_ hj hjm) (k.at_ ho him) g2.stT f2.stT)
      rw [h2 s' hne]
      exact hI.wr1 j oj s' new' hj hjm hst hE' hjl
  · intro j oj s' new' hj hjm hst hE' hjl hall
    have e : j ≠ i := by rintro rfl; simp [hi] at hjl
    rw [getD_set_ne false (fun e' => e e'.symm)] at hjl
    have hne : s' ≠ s := by
      rintro rfl
      obtain ⟨s2, new2, t2, x2, e2, ms2, g1, g2, _⟩ := k.store hj hjm hst
      rw [hE'] at g1; cases g1
      have hnd := k.w1
      rw [k.w3] at hnd
      exact e (filterMap_inj (f := stT) hnd (k.at_ hj hjm) (k.at_ ho him) g2.stT f2.stT)
    rw [h2 s' hne]
    refine hI.wr2 j oj s' new' hj hjm hst hE' hjl fun ja oa q1 q2 q3 => ?_
    have := hall ja oa q1 q2 q3
    rwa [getD_set_ne false] at this
    rintro rfl
    rw [ho] at q1; cases q1
    rw [f2.dst] at q3; cases q3
  · intro ja oa s' q1 q2 q3 hw hl
    have e : ja ≠ i := by rintro rfl; rw [ho] at q1; cases q1; rw [f2.dst] at q3; cases q3
    rw [getD_set_ne false (fun e' => e e'.symm)] at hl
    have hne : s' ≠ s := by
      rintro rfl
      have := hcl ja (f3 ja oa q1 q2 q3)
      rw [hl] at this; cases this
    rw [h2 s' hne]
    exact hI.wr3 ja oa s' q1 q2 q3 hw hl

/-- One more is settled: a box that is made. -/
theorem Canon.made {listed : Array Bool} {μ μ' : Mu} (k : SetOk V.τ Sg n ops μ0 dl W nW m B EF) (hdown : ∀ i, listed.getD i false = true → ∀ b ∈ B.getD i [], listed.getD b false = true) (hls : listed.size = ops.size)
    (hI : Canon ops m μ0 W nW EF listed μ) {i t s : Nat} {o : Oper} (ho : ops[i]? = some o) (him : i < m) (hu : listed.getD i false = false) (ha : IsAlloc W o t s) (h1 : μ'.get s = .box (List.replicate (nW s) .u)) (h2 : ∀ s', s' ≠ s → μ'.get s' = μ.get s') :
    Canon ops m μ0 W nW EF (listed.setIfInBounds i true) μ' := by
  have hi : i < listed.size := by rw [hls]; exact (Array.getElem?_eq_some_iff.1 ho).1
  have hsW := ha.mem
  have hef0 : isEf W o = true := by simp [isEf, ha.is]
  refine ⟨?_, ?_, ?_, ?_, ?_, ?_, ?_⟩
  · intro s' hs hw
    rw [h2 s' (by rintro rfl; exact hw hsW)]
    exact hI.base s' hs hw
  · intro j oj dj s' hj hjm hef hjl hdj hh
    have e : j ≠ i := by rintro rfl; rw [ho] at hj; cases hj; rw [hef0] at hef; cases hef
    rw [getD_set_ne false (fun e' => e e'.symm)] at hjl
    rw [h2 s' (by rintro rfl; exact k.away hj hjm hef hdj hh hsW)]
    exact hI.done j oj dj s' hj hjm hef hjl hdj hh
  · intro j oj dj s' hj hjm hef hjl hdj hh
    have e : j ≠ i := by rintro rfl; rw [ho] at hj; cases hj; rw [hef0] at hef; cases hef
    rw [getD_set_ne false (fun e' => e e'.symm)] at hjl
    rw [h2 s' (by rintro rfl; exact k.away hj hjm hef hdj hh hsW)]
    exact hI.rest j oj dj s' hj hjm hef hjl hdj hh
  · intro j oj dj s' hj hjm hef hdj hh hw
    rw [h2 s' (by rintro rfl; exact hw hsW)]
    exact hI.cx j oj dj s' hj hjm hef hdj hh hw
  · intro j oj s' new' hj hjm hst hE' hjl
    have e : j ≠ i := by rintro rfl; rw [ho] at hj; cases hj; simp [isSt, ha.op] at hst
    rw [getD_set_ne false (fun e' => e e'.symm)] at hjl
    obtain ⟨s2, new2, t2, x2, e2, ms2, g1, g2, _, _, _, _, _, _, g3⟩ := k.store hj hjm hst
    rw [hE'] at g1; cases g1
    have hne : s' ≠ s := by
      rintro rfl
      have := hdown j hjl i (g3 i o ho him ha.dst)
      rw [hu] at this; cases this
    rw [h2 s' hne]
    exact hI.wr1 j oj s' new' hj hjm hst hE' hjl
  · intro j oj s' new' hj hjm hst hE' hjl hall
    have e : j ≠ i := by rintro rfl; simp [hi] at hjl
    rw [getD_set_ne false (fun e' => e e'.symm)] at hjl
    by_cases hne : s' = s
    · subst hne; exact h1
    · rw [h2 s' hne]
      refine hI.wr2 j oj s' new' hj hjm hst hE' hjl fun ja oa q1 q2 q3 => ?_
      have := hall ja oa q1 q2 q3
      rwa [getD_set_ne false] at this
      rintro rfl
      rw [ho] at q1; cases q1
      rw [ha.dst] at q3; cases q3
      exact hne rfl
  · intro ja oa s' q1 q2 q3 hw hl
    have e : ja ≠ i := by rintro rfl; simp [hi] at hl
    rw [getD_set_ne false (fun e' => e e'.symm)] at hl
    have hne : s' ≠ s := by
      rintro rfl
      exact e (k.same q1 q2 q3 (hit_self _) ho him ha.dst (hit_self _))
    rw [h2 s' hne]
    exact hI.wr3 ja oa s' q1 q2 q3 hw hl
end
end Go.Ev

/- A region whose order is drawn, with whole boxes that are written in its settled part: it comes to what is evaluated. -/
set_option linter.unusedVariables false
namespace Go.Ev
section
variable {V : Env} {A : Start} {n : Nat} {S : Nat → Option (List PK)} {F : Nat → List X → Option (List X × List X)} {Sg : Nat → Option Sig} {ops : Array Oper} {μ0 : Mu} {colsP : Pol} {W : List Nat} {nW : Nat → Nat} {m : Nat} {dl : List (Option Tmp)} {B : List (List Nat)} {EF : List Mu}

/-- What a store has come to, in the frame behind all. -/
def Wrote (τ : List TE) (W : List Nat) (φ : Fr) (o : Oper) : Prop := ∀ t s x, IsStore W o t s x → ∃ e cs, TE.find τ t = some e ∧ (opX τ φ t x).cells = some cs ∧ fits e.zero cs = true ∧ φ s = .box cs

theorem settleS_wp {φF φ' : Fr} {μ' : Mu} {Q : Exit → Act → World → Prop} (hrg : RgOk A) (hks : A.ks = []) (hlo : A.hd.isSome = true → colsP.lo = true) (hkp : ∀ (i : Nat) (o : Oper), ops[i]? = some o → Keeps A o)
    (hSg : ∀ f sg, Sg f = some sg → S f = some (sg.pms.map PM.pk) ∧ DoesR (Abv A) V f sg (F f)) (hQ : ∀ a w, Stands A n φ' μ' a w → Q .normal a w) (hg0 : μ0.get gam = .u)
    (hk : SetOk V.τ Sg n ops μ0 dl W nW m B EF) (hC : ∀ i o, ops[i]? = some o → i < m → isEf W o = false → Come V.τ S F ops φF o) (hC3 : ∀ i o t s, ops[i]? = some o → i < m → IsAlloc W o t s → ∃ cs, φF s = .box cs ∧ cs.length = nW s) (hC2 : ∀ i o, ops[i]? = some o → i < m → isSt o = true → Wrote V.τ W φF o)
    (hx : evOps V.τ S F ops (ops.toList.drop m) φF = some φ') (hm : chkOps V.τ Sg colsP n ops (ops.toList.drop m) (seeM μ0 EF (List.range m)) = some μ') :
    ∀ (fuel : Nat) (listed : Array Bool) (μ : Mu) (a : Act) (w : World) (T : List Nat), listed.size = ops.size → T.length + (ops.size - m) ≤ fuel →
      (∀ i, i < m → listed.getD i false = false → i ∈ T) → (∀ i, listed.getD i false = true → ∀ b ∈ B.getD i [], listed.getD b false = true) → (∀ i, m ≤ i → i < ops.size → listed.getD i true = false) →
      Canon ops m μ0 W nW EF listed μ → Stands A n φF μ a w → wpAny V.P .any ops Q fuel listed a w := by
  have hok := hk.ok
  have hn := hk.hn
  have hrdy : ∀ i (listed : Array Bool), i < ops.size → listed.getD i true = false → (∀ j, j < i → listed.getD j false = true) → i ∈ Region.ready .any ops listed := by
    intro i listed hi h1 h2
    exact mem_ready.2 ⟨h1, ops[i], Array.getElem?_eq_getElem hi, fun e he hb => h2 _ (hok.edge i _ (Array.getElem?_eq_getElem hi) e he hb)⟩
  have hclose : ∀ i o (listed : Array Bool), ops[i]? = some o → (∀ k, listed.getD k false = true → ∀ b ∈ B.getD k [], listed.getD b false = true) → i ∈ Region.ready .any ops listed → ∀ b ∈ B.getD i [], listed.getD b false = true := by
    intro i o listed ho hd hi b hb
    obtain ⟨_, o', ho', hall⟩ := mem_ready.1 hi
    rw [ho] at ho'; cases ho'
    obtain ⟨e, he, h1, h2⟩ := hok.via i o ho b hb
    have h3 := hall e he h1
    rcases h2 with h2 | h2
    · rw [← h2]; exact h3
    · exact hd _ h3 b h2
  have hend : ∀ (fuel : Nat) (listed : Array Bool) (μ : Mu) (a : Act) (w : World), listed.size = ops.size → ops.size - m ≤ fuel → (∀ j, j < m → listed.getD j false = true) → (∀ i, m ≤ i → i < ops.size → listed.getD i true = false) →
      Canon ops m μ0 W nW EF listed μ → Stands A n φF μ a w → wpAny V.P .any ops Q fuel listed a w := by
    intro fuel listed μ a w hls hf hall hhi hI hst
    obtain ⟨C, g, h, hsz, hdf, hpar⟩ := hst
    refine tail_wp hrg hks hlo hn hSg hQ (m := m) ?_ hrdy _ m fuel listed φF _ a w (Nat.le_refl _) rfl hls hall hhi (by simp; omega) ⟨C, g, h.weakG (hI.see hk fun j hj => ?_), hsz, hdf, hpar⟩ hx hm
    · intro i o ho hmi j hj l hl hi
      exact hclose i o l ho (fun k hk' b hb => hl k hk' b (hok.lt k b hb)) hi j (hok.tail i (Array.getElem?_eq_some_iff.1 ho).1 hmi j hj)
    · have hj' : j < m := by simpa using hj
      exact ⟨hj', hall j hj'⟩
  intro fuel
  induction fuel with
  | zero =>
    intro listed μ a w T hls hT hun hdown hhi hI hst
    have hall : ∀ j, j < m → listed.getD j false = true := by
      intro j hj
      cases e : listed.getD j false with
      | true => rfl
      | false => have := hun j hj e; have : T = [] := List.length_eq_zero_iff.1 (by omega); subst this; simp at *
    exact hend 0 listed μ a w hls (by omega) hall hhi hI hst
  | succ fuel ih =>
    intro listed μ a w T hls hT hun hdown hhi hI hst
    by_cases hall : ∀ j, j < m → listed.getD j false = true
    · exact hend (fuel + 1) listed μ a w hls (by omega) hall hhi hI hst
    · have hex : ∃ j, j < m ∧ listed.getD j false = false := by
        apply Classical.byContradiction
        intro hne
        apply hall
        intro j hj
        cases e : listed.getD j false with
        | true => rfl
        | false => exact (hne ⟨j, hj, e⟩).elim
      obtain ⟨j0, hj0, hu0, hlow⟩ := least_unlisted hex
      have hm' := hok.le
      have hr0 : j0 ∈ Region.ready .any ops listed := hrdy j0 listed (by omega) (by rw [arr_getD_flip (by omega)]; exact hu0) hlow
      refine ⟨fun e => absurd (e ▸ hr0) (by simp), fun i hi => ?_⟩
      obtain ⟨hiu, o, ho, _⟩ := mem_ready.1 hi
      have his := (Array.getElem?_eq_some_iff.1 ho).1
      have hcl := hclose i o listed ho hdown hi
      have him : i < m := by
        rcases Nat.lt_or_ge i m with h | h
        · exact h
        · have := hcl j0 (hok.tail i his h j0 (by omega))
          rw [hu0] at this; cases this
      have hiu' : listed.getD i false = false := by rw [← arr_getD_flip (by omega)]; exact hiu
      have hJi := hk.J i o ho him
      have hsee : ∀ s, (seeM μ0 EF (B.getD i [])).get s = .u ∨ (seeM μ0 EF (B.getD i [])).get s = μ.get s :=
        hI.see hk fun j hj => ⟨by have := hok.lt i j hj; omega, hcl j hj⟩
      have next0 : ∀ μ1, Canon ops m μ0 W nW EF (listed.setIfInBounds i true) μ1 →
          ∀ a w, Stands A n φF μ1 a w → wpAny V.P .any ops Q fuel (listed.setIfInBounds i true) a w := by
        intro μ1 hI' a' w' hst'
        have hiT : i ∈ T := hun i him hiu'
        refine ih _ μ1 a' w' (T.erase i) (by simpa using hls) ?_ ?_ ?_ ?_ hI' hst'
        · rw [List.length_erase_of_mem hiT]
          have := List.length_pos_of_mem hiT
          omega
        · intro k hk' hku
          by_cases e : k = i
          · subst e
            have : k < listed.size := by omega
            simp [this] at hku
          · rw [getD_set_ne false (fun e' => e e'.symm)] at hku
            exact (List.mem_erase_of_ne e).2 (hun k hk' hku)
        · intro k hk' b hb
          by_cases e : k = i
          · subst e; exact getD_set_true (hcl b hb)
          · rw [getD_set_ne false (fun e' => e e'.symm)] at hk'
            exact getD_set_true (hdown k hk' b hb)
        · intro k hk' hks
          rw [getD_set_ne true (by omega)]
          exact hhi k hk' hks
      obtain ⟨C, g, h, hsz, hdf, hpar⟩ := hst
      have hko := hkp i o ho
      have hw := h.weakG hsee
      rcases hJi.ex with ⟨hp, _, cols, ms, hj, h8, hE, hfree, hguard⟩ | ⟨hp, s, new, hj, hE, hav, hlen, hdl⟩ | ⟨hp, hal, t, s, e, ha, he, hE, hlen, hfz⟩
      · have hcome := hC i o ho him hp
        have next : ∀ μ1, (∀ s, (∃ d, o.dst = some d ∧ hit d s = true ∧ μ1.get s = Mu.get (entE o.dst ms) s) ∨ ((∀ d, o.dst = some d → hit d s = false) ∧ μ1.get s = o.dst.elim (μ.get s) fun d => (μ.get s).dropS d)) →
            ∀ a w, Stands A n φF μ1 a w → wpAny V.P .any ops Q fuel (listed.setIfInBounds i true) a w := by
          intro μ1 hg a' w' hst'
          obtain ⟨C2, g2, h2, h3⟩ := hst'
          refine next0 (calmM μ1) (Canon.put hk hdown hls hI ho him hp hiu' ?_) a' w' ⟨C2, g2, h2.imp (fun s x v hc => by rw [calmM_get]; exact calm_claim hc), h3⟩
          intro s
          rw [calmM_get]
          rcases hg s with ⟨d, e1, e2, e3⟩ | ⟨e1, e2⟩
          · exact .inl ⟨d, e1, e2, by rw [e3, hE, calmM_get]⟩
          · exact .inr ⟨e1, by rw [e2]⟩
        have run : ∀ rs, Yields V.τ S F φF o rs → putRes o.dst rs φF = φF → o.wp V.P a w (wpAny V.P .any ops Q fuel (listed.setIfInBounds i true)) Q := by
          intro rs hy hput
          obtain ⟨μ1, hμ1⟩ : ∃ μ1, putResM o.dst ms μ = some μ1 := by
            unfold putResM
            split
            · exact ⟨_, rfl⟩
            · split
              · exact ⟨_, rfl⟩
              · exact ⟨_, rfl⟩
              · rw [if_pos h8]; exact ⟨_, rfl⟩
          refine settle_op hn hSg hJi.small hsz hdf hpar hko hw h hj hy hμ1 fun a' w' hst' => ?_
          rw [hput] at hst'
          exact next μ1 (fun s => putResM_get hμ1 s) a' w' hst'
        unfold wpOp
        rw [ho]
        unfold Come at hcome
        unfold guardS at hguard
        cases hg : o.guard with
        | none =>
          rw [hg] at hcome
          obtain ⟨rs, hy, hput⟩ := hcome
          simp only
          rw [if_pos (by simp [Region.wanted, hg])]
          exact .inl (run rs hy hput)
        | some jw =>
          obtain ⟨j, want⟩ := jw
          rw [hg] at hcome hguard
          obtain ⟨d, b, hjd, hv, hc1, hc2⟩ := hcome
          simp only [hjd, Bool.and_eq_true, beq_iff_eq, Nat.blt_eq] at hguard
          obtain ⟨⟨⟨hjb, hlen⟩, hsome⟩, hd1, hrd⟩ := hguard
          have hbool := slot_bool hw hd1 hrd hv
          have hy : yielded ops a.tmps j = some b := by
            unfold yielded
            rw [hjd]
            simp only [Option.bind_some]
            have : a.tmps[d]? = some (.bool b) := by
              by_cases hlt : d < a.tmps.size
              · rw [Array.getElem?_eq_getElem hlt]
                simp [Array.getD, hlt] at hbool
                rw [hbool]
              · simp [Array.getD, hlt] at hbool
                cases hbool
            rw [this]
          simp only
          by_cases hbw : b = want
          · rw [if_pos (by simp [Region.wanted, hg, hy, hbw])]
            obtain ⟨rs, h1, h2⟩ := hc1 hbw
            exact .inl (run rs h1 h2)
          · rw [if_neg (by simp [Region.wanted, hg, hy, hbw])]
            obtain ⟨dd, hdd⟩ := Option.isSome_iff_exists.1 hsome
            obtain ⟨sm, hsm⟩ : ∃ sm, ms = [sm] := by
              match ms, hlen with
              | [sm], _ => exact ⟨sm, rfl⟩
            have hs := hJi.small
            unfold smallO at hs
            simp only [Bool.and_eq_true] at hs
            have hdn := hs.1.2
            rw [hdd] at hdn
            simp only [Nat.blt_eq] at hdn
            obtain ⟨C2, h2⟩ := skip_st (sm := sm) h (Nat.lt_of_lt_of_le hdn hn) (by rw [hsz]; exact hdn)
            rw [upd_same (hc2 hbw dd hdd)] at h2
            rw [hdd]
            refine next (μ.put dd sm) ?_ _ _ ⟨C2, g, h2, by rw [put_size]; exact hsz, by rw [put_defers]; exact hdf, hdd ▸ hpar.put hko _⟩
            intro s
            rcases putResM_get (dst := some dd) (ms := [sm]) (μ := μ) (μ' := μ.put dd sm) rfl s with ⟨d', e1, e2, e3⟩ | ⟨h1, h3⟩
            · exact .inl ⟨d', by rw [hdd]; exact e1, e2, by rw [hsm, hdd]; exact e3⟩
            · exact .inr ⟨by rw [hdd]; exact h1, by rw [hdd]; exact h3⟩
      · obtain ⟨t, x, e, ms, his', he, hms, hml, rfl⟩ := judgeS_spec hj
        obtain ⟨e', cs, he', hcs, hfit, hF⟩ := hC2 i o ho him hp t s x his'
        rw [he] at he'; cases he'
        have hold := hI.wr2 i o s _ ho him hp hE hiu' fun ja oa q1 q2 q3 => hcl ja (hdl ja (by
          rw [hk.dle, List.getElem?_map, hk.at_ q1 q2]
          simp [q3]))
        have hs1000 := hk.w2 s his'.mem
        have hsm := hJi.small
        unfold smallO at hsm
        simp only [Bool.and_eq_true] at hsm
        have hzx : sm1 x = true := by
          have := hsm.1.1
          rw [his'.op] at this
          simp only [Op.operands] at this
          simp at this
          exact this.2
        have hgm : μ.get gam = .u := by
          have hng : isHit (dstsOf (ops.toList.take m)) gam = false := by
            rw [Bool.eq_false_iff]
            intro hh
            obtain ⟨j, oj, d, h1, h2, h3, h4⟩ := hk.hits hh
            have := hk.sm h1 h2 h3
            unfold hit isCix cix gam at h4
            simp only [Bool.or_eq_true, beq_iff_eq, Bool.and_eq_true, decide_eq_true_iff] at h4
            omega
          have hnw : gam ∉ W := by
            intro hh
            have := hk.w2 gam hh
            unfold gam at this; omega
          rw [hI.base gam hng hnw]; exact hg0
        have hop : OpOk V A w a g o φF ((μ.fin [s] 0 ms.length).set s (.box (flatL e.zero ms))) := by
          refine store_step hrg his'.op his'.dst hs1000 hzx h hw he hcs hfit hF hms hold ?_ hgm (fun s' => av_noG (hI.av hk s').1) ?_ ?_
          · rw [List.length_replicate]; rw [flatL_len (by omega)] at hlen; omega
          · intro s' hs'
            rw [get_set, if_neg hs', fin_get]
          · rw [get_set, if_pos rfl, avL_map his'.mem _ hav]
        have hnext : Canon ops m μ0 W nW EF (listed.setIfInBounds i true) ((μ.fin [s] 0 ms.length).set s (.box (flatL e.zero ms))) := by
          refine Canon.wrote hk hls hI ho him hcl hp hE (by rw [get_set, if_pos rfl]) fun s' hs' => ?_
          rw [get_set, if_neg hs', fin_get]
          exact av_fin his'.mem (hI.av hk s').1
        unfold wpOp
        rw [ho]
        simp only
        rw [if_pos (by simp [Region.wanted, his'.guard])]
        exact .inl (hop.wp hsz hdf hpar hko fun a' w' hst' => next0 _ hnext a' w' hst')
      · obtain ⟨cs, hcs, hcl9⟩ := hC3 i o t s ho him ha
        have hsm := hJi.small
        have hsm' := hsm
        unfold smallO at hsm'
        simp only [Bool.and_eq_true] at hsm'
        have hdn : s < n := by
          have := hsm'.1.2
          rw [ha.dst] at this
          simpa [Nat.blt_eq] using this
        have hpx : pureX V.τ φF o.op o.type = some (.box (e.zero.map ZC.d)) := by
          rw [ha.op]
          simp only [pureX, he]
          rw [if_pos hfz]
        have hpo : PureOk V w C φF (tmO a.tmps g) a o (.box (e.zero.map ZC.d)) (.box (e.zero.map zeroM)) := pure_sound (V := V) (cols := []) h hsm'.1.1 hpx (by rw [ha.op]; simp only [pureM, he])
        obtain ⟨v, w', C', hr, _, h3⟩ := hpo.st h (d := s) (Nat.lt_of_lt_of_le hdn hn) (by rw [hsz]; exact hdn)
        have hdrop := fun s' => hI.drop hk hdown ho him hiu' ha.dst s'
        have h4 := h3.imp (ν := calmM (μ.put s (.box (e.zero.map zeroM)))) fun s x v hc => by rw [calmM_get]; exact calm_claim hc
        have hcx : ∀ s', s' ≠ s → hit s s' = true → μ.get s' = .u := by
          intro s' hne hh
          refine hI.cx i o s s' ho him (by simp [isEf, hal]) ha.dst hh ?_
          intro hw'
          exact hne (hit_small hh (hk.w2 s' hw'))
        have hget : ∀ s', s' ≠ s → (calmM (μ.put s (.box (e.zero.map zeroM)))).get s' = μ.get s' := by
          intro s' hne
          rw [calmM_get, get_put, if_neg hne]
          cases hh : hit s s' with
          | true => simp only [if_true]; rw [hcx s' hne hh]; rfl
          | false => simp only [Bool.false_eq_true, if_false]; exact hdrop s'
        have h5 := h4.reframe (W := [s]) (φF := φF) (ν := (calmM (μ.put s (.box (e.zero.map zeroM)))).set s (.box (List.replicate (nW s) .u))) (by
            intro s' hs'
            simp only [List.mem_singleton] at hs'
            simp [upd, hs']) (by
            intro s' hs'
            simp only [List.mem_singleton] at hs'
            subst hs'
            exact ⟨_, cs, by simp [upd]; rfl, hcs, by rw [List.length_map]; omega⟩) (by
            intro s' hs'
            simp only [List.mem_singleton] at hs'
            right
            rw [get_set, if_neg hs']
            refine ⟨rfl, ?_⟩
            rw [hget s' hs']
            exact av_sub (by intro q hq; simp only [List.mem_singleton] at hq; rw [hq]; exact ha.mem) (hI.av hk s').1) (by
            intro s' hs'
            simp only [List.mem_singleton] at hs'
            subst hs'
            refine ⟨e.zero.map zeroM, ?_, ?_⟩
            · rw [calmM_get, get_put, if_pos rfl]; rfl
            · rw [get_set, if_pos rfl, ← hlen]
              congr 1
              rw [show (List.map (fun _ => M.u) (List.map zeroM e.zero)) = List.replicate (List.map zeroM e.zero).length M.u from List.map_const' .., List.length_map])
        have hnext : Canon ops m μ0 W nW EF (listed.setIfInBounds i true) ((calmM (μ.put s (.box (e.zero.map zeroM)))).set s (.box (List.replicate (nW s) .u))) := by
          refine Canon.made hk hdown hls hI ho him hiu' ha (by rw [get_set, if_pos rfl]) fun s' hs' => ?_
          rw [get_set, if_neg hs']
          exact hget s' hs'
        have hop : OpOk V A w a g o φF ((calmM (μ.put s (.box (e.zero.map zeroM)))).set s (.box (List.replicate (nW s) .u))) := ⟨_, v, w', C', g, hr, .inl rfl, by rw [ha.dst]; exact h5⟩
        unfold wpOp
        rw [ho]
        simp only
        rw [if_pos (by simp [Region.wanted, ha.guard])]
        exact .inl (hop.wp hsz hdf hpar hko fun a' w' hst' => next0 _ hnext a' w' hst')
end
end Go.Ev

/- The check of a region whose order is drawn, with whole boxes that are written in its settled part. -/
set_option linter.unusedVariables false
namespace Go.Ev

def isNo : SM → Bool
  | .u => true
  | _ => false
theorem isNo_spec {x : SM} (h : isNo x = true) : x = .u := by cases x <;> first | rfl | cases h

def isBox : SM → Bool
  | .box _ => true
  | _ => false

/-- What stays known where boxes are about to be written. -/
def keepS (W ds : List Nat) (x : SM) : SM := if (calm x).av W && (calm x).free (isHit ds) then calm x else .u

def zeroS (W ds : List Nat) (μ : Mu) : Mu := List.filter (fun p => !isHit ds p.1 && !W.contains p.1) (List.map (fun p => (p.1, keepS W ds p.2)) μ)

theorem keepS_cases (W ds : List Nat) (x : SM) : keepS W ds x = .u ∨ (keepS W ds x = calm x ∧ (calm x).av W = true ∧ (calm x).free (isHit ds) = true) := by
  unfold keepS
  split
  · rename_i h
    simp only [Bool.and_eq_true] at h
    exact .inr ⟨rfl, h.1, h.2⟩
  · exact .inl rfl

theorem zeroS_lookup {W ds : List Nat} {μ : Mu} {s : Nat} {x : SM} (h : List.lookup s (zeroS W ds μ) = some x) : isHit ds s = false ∧ s ∉ W ∧ ∃ y, List.lookup s μ = some y ∧ x = keepS W ds y := by
  unfold zeroS at h
  rw [lookup_filter (fun k => !isHit ds k && !W.contains k)] at h
  split at h
  · rename_i hc
    simp only [Bool.and_eq_true, Bool.not_eq_true'] at hc
    rw [lookup_map (keepS W ds), Option.map_eq_some_iff] at h
    obtain ⟨y, h1, h2⟩ := h
    exact ⟨hc.1, by simpa using hc.2, y, h1, h2.symm⟩
  · cases h

theorem zeroS_get {W ds : List Nat} {μ : Mu} {s : Nat} : (zeroS W ds μ).get s = .u ∨ ((zeroS W ds μ).get s = (calmM μ).get s ∧ ((calmM μ).get s).av W = true) := by
  cases hl : List.lookup s (zeroS W ds μ) with
  | none => left; unfold Mu.get; rw [hl]
  | some x =>
    obtain ⟨_, _, y, h1, rfl⟩ := zeroS_lookup hl
    rw [get_of_lookup hl, calmM_get, get_of_lookup h1]
    rcases keepS_cases W ds y with e | ⟨e1, e2, _⟩
    · exact .inl e
    · exact .inr ⟨e1, e2⟩

/-- How many cells a box that is written has. -/
def cellsN (τ : List TE) (l : List Oper) (μ1 : Mu) (s : Nat) : Nat := if (dstsOf l).contains s then (l.findSome? fun o => if o.dst == some s then (allocN τ o).map (·.2) else none).getD 0 else boxN μ1 s

/-- The check of a region whose order is drawn, with boxes that are written in its settled part. -/
def chkDrawnS (τ : List TE) (Sg : Nat → Option Sig) (colsP : Pol) (n : Nat) (ops : Array Oper) (μ : Mu) : Option Mu :=
  let l := ops.toList
  let B := predsL l []
  let m := cutOf l
  let ds := dstsOf (l.take m)
  let W := (l.take m).filterMap stT
  let μ1 := ds.foldl Mu.clear μ
  let μ0 := zeroS W ds μ1
  if textOk ops B m && l.all (dstOk colsP.lo) && nodupB W && W.all (fun s => Nat.blt s 1000 && (ds.contains s || isBox (μ1.get s))) && Nat.ble n 1000 && !isHit ds gam then (match settleS τ Sg colsP n ops μ0 ((l.take m).map (·.dst)) W (cellsN τ (l.take m) μ1) 0 (l.take m) B [] with
    | some Es => if isNo (μ0.get gam) then chkOps τ Sg colsP n ops (l.drop m) (seeM μ0 Es (List.range m)) else none
    | none => none) else none

theorem filter_st (W : List Nat) (l : List Oper) : (l.filter (isEf W)).filterMap stT = l.filterMap stT := by
  induction l with
  | nil => rfl
  | cons o l ih =>
    cases h : isEf W o with
    | true => rw [List.filter_cons_of_pos h, List.filterMap_cons, List.filterMap_cons, ih]
    | false =>
      have : stT o = none := by
        unfold stT
        split
        · rename_i q; simp [isEf, isSt, q] at h
        · rfl
      simp [List.filter_cons, h, ih, this]

theorem filter_sub {p : Oper → Bool} : ∀ {l : List Oper}, (l.filterMap (·.dst)).Nodup → ((l.filter p).filterMap (·.dst)).Nodup
  | [], h => by simp
  | o :: l, h => by
    have h' : (l.filterMap (·.dst)).Nodup := by
      simp only [List.filterMap_cons] at h
      split at h
      · exact h
      · exact (List.nodup_cons.1 h).2
    have ih := filter_sub (p := p) h'
    rw [List.filter_cons]
    split
    · rw [List.filterMap_cons]
      split
      · exact ih
      · rename_i d hd
        refine List.nodup_cons.2 ⟨?_, ih⟩
        intro hm
        simp only [List.filterMap_cons, hd, List.nodup_cons] at h
        refine h.1 ?_
        obtain ⟨o', ho', e⟩ := List.mem_filterMap.1 hm
        exact List.mem_filterMap.2 ⟨o', (List.mem_filter.1 ho').1, e⟩
    · exact ih

section
variable {V : Env} {A : Start} {n : Nat} {S : Nat → Option (List PK)} {F : Nat → List X → Option (List X × List X)} {Sg : Nat → Option Sig} {ops : Array Oper} {colsP : Pol}

theorem Come.more {τ : List TE} {φ ψ : Fr} {o : Oper} {W : List Nat} (h : Come τ S F ops φ o) (hle : Le φ ψ) (hW : ∀ d, o.dst = some d → ∀ s, hit d s = true → ψ s = φ s) : Come τ S F ops ψ o := by
  have put : ∀ rs, rs.length ≤ 8 → putRes o.dst rs φ = φ → putRes o.dst rs ψ = ψ := by
    intro rs h8 hp
    obtain ⟨f, hf1, hf2⟩ := putRes_patch o.dst rs h8
    rw [hf1] at hp ⊢
    funext s
    have h1 := congrFun hp s
    unfold patch at h1 ⊢
    cases e : f s with
    | none => rfl
    | some x =>
      rw [e] at h1
      simp only at h1 ⊢
      obtain ⟨d, e1, e2⟩ := hf2 s (by rw [e]; simp)
      rw [hW d e1 s e2]; exact h1
  unfold Come at h ⊢
  cases hg : o.guard with
  | none =>
    rw [hg] at h
    obtain ⟨rs, h1, h2⟩ := h
    exact ⟨rs, h1.le hle, put rs h1.1 h2⟩
  | some jw =>
    obtain ⟨j, want⟩ := jw
    rw [hg] at h
    obtain ⟨d, b, h1, h2, h3, h4⟩ := h
    refine ⟨d, b, h1, ?_, ?_, ?_⟩
    · rw [hle.at (by intro e; rw [e] at h2; cases h2)]; exact h2
    · intro e
      obtain ⟨rs, q1, q2⟩ := h3 e
      exact ⟨rs, q1.le hle, put rs q1.1 q2⟩
    · intro e d' hd'
      rw [hW d' hd' d' (hit_self d')]
      exact h4 e d' hd'

theorem drawnS_wp {id : Nat} {φ φ' : Fr} {μ μ' : Mu} {a : Act} {w : World} {Q : Exit → Act → World → Prop} (hrg : RgOk A) (hks : A.ks = []) (hlo : A.hd.isSome = true → colsP.lo = true) (hn : n ≤ 1000)
    (hSg : ∀ f sg, Sg f = some sg → S f = some (sg.pms.map PM.pk) ∧ DoesR (Abv A) V f sg (F f)) (hst : Stands A n φ μ a w) (hW : ((ops.toList.take (cutOf ops.toList)).filterMap stT).isEmpty = false) (hx : evD V.τ S F ops φ = some φ') (hm : chkDrawnS V.τ Sg colsP n ops μ = some μ')
    (hQ : ∀ a w, Stands A n φ' μ' a w → Q .normal a w) : (Code.region id ops true).wp V.P Q a w := by
  unfold chkDrawnS at hm
  simp only at hm
  unfold evD at hx
  rw [hW] at hx
  simp only [Bool.false_eq_true, if_false] at hx
  generalize cutOf ops.toList = m at *
  generalize hl : ops.toList.take m = l at *
  generalize hWd : l.filterMap stT = W at *
  split at hm
  · rename_i hc
    simp only [Bool.and_eq_true, List.all_eq_true, Bool.not_eq_true', Nat.blt_eq, Nat.ble_eq] at hc
    obtain ⟨⟨⟨⟨⟨c1, c2⟩, c3⟩, c4⟩, c5⟩, c6⟩ := hc
    have hok := textOk_spec c1
    have hkp : ∀ (i : Nat) (o : Oper), ops[i]? = some o → Keeps A o := fun i o hi => dstOk_keeps hks hlo (c2 o (List.mem_iff_getElem?.2 ⟨i, by simpa using hi⟩))
    split at hm
    · rename_i Es hEs
      split at hm
      · rename_i hgam0
        obtain ⟨Ys, h1, h2, h3⟩ := settleS_spec _ 0 _ [] _ rfl hEs
        simp only [List.nil_append] at h1
        subst h1
        have hBat : ∀ i, i < ops.size → (predsL ops.toList [])[i]? = some ((predsL ops.toList []).getD i []) := by
          intro i hi
          have : i < (predsL ops.toList []).length := by rw [hok.len]; exact hi
          simp [List.getD_eq_getElem?_getD, this]
        have hat : ∀ i o, ops[i]? = some o → i < m → l[i]? = some o := by
          intro i o ho him
          rw [← hl, List.getElem?_take, if_pos him]; simpa using ho
        have hat' : ∀ i o, l[i]? = some o → ops[i]? = some o ∧ i < m := by
          intro i o hi
          rw [← hl, List.getElem?_take] at hi
          split at hi
          · rename_i him; exact ⟨by simpa using hi, him⟩
          · cases hi
        have hof : ∀ o ∈ l, ∃ i, ops[i]? = some o ∧ i < m := by
          intro o ho
          obtain ⟨i, hi⟩ := List.mem_iff_getElem?.1 ho
          exact ⟨i, hat' i o hi⟩
        generalize hμ1 : (dstsOf l).foldl Mu.clear μ = μ1 at *
        generalize hnW : cellsN V.τ l μ1 = nW at *
        have hk : SetOk V.τ Sg n ops (zeroS W (dstsOf l) μ1) (l.map (·.dst)) W nW m (predsL ops.toList []) Es := by
          refine ⟨hok, hn, by rw [hl], ?_, ?_, nodupB_spec c3, fun s hs => (c4 s hs).1, by rw [hl, hWd]⟩
          · intro i o ho him
            have hi := (Array.getElem?_eq_some_iff.1 ho).1
            have := h3 i o _ (hat i o ho him) (hBat i hi)
            simpa using this
          · intro s x hx
            rw [hl]
            obtain ⟨g1, g2, y, g3, rfl⟩ := zeroS_lookup hx
            rcases keepS_cases W (dstsOf l) y with e | ⟨e1, e2, e3⟩
            · rw [e]; exact ⟨rfl, g1, g2, rfl, rfl⟩
            · rw [e1]; exact ⟨e3, g1, g2, e2, calm_calm y⟩
        have hhit : ∀ s ∈ W, isHit (dstsOf l) s = true → s ∈ dstsOf l := by
          intro s hs hh
          obtain ⟨d, hd, h9⟩ := isHit_iff.1 hh
          rw [hit_small h9 (hk.w2 s hs)]; exact hd
        split at hx
        · rename_i φ1 hx1
          split at hx
          · rename_i φF hx2
            have hd1000 : ∀ d ∈ dstsOf l, d < 1000 := by
              intro d hd
              obtain ⟨o, ho, e⟩ := List.mem_filterMap.1 hd
              obtain ⟨i, hi, him⟩ := hof o ho
              exact hk.sm hi him e
            have hsub : ∀ d ∈ ((l.filter fun o => !isEf W o).filterMap (·.dst)), d ∈ dstsOf l ∧ ∀ s ∈ W, hit d s = false := by
              intro d hd
              obtain ⟨o, ho, e⟩ := List.mem_filterMap.1 hd
              obtain ⟨ho1, ho2⟩ := List.mem_filter.1 ho
              refine ⟨List.mem_filterMap.2 ⟨o, ho1, e⟩, fun s hs => ?_⟩
              obtain ⟨i, hi, him⟩ := hof o ho1
              rw [Bool.eq_false_iff]
              intro hh
              exact hk.away hi him (by simpa using ho2) e hh hs
            obtain ⟨q1, q2, q3⟩ := come_all (l.filter fun o => !isEf W o) _ φ1 hx1 (by
              intro o ho
              obtain ⟨ho1, ho2⟩ := List.mem_filter.1 ho
              obtain ⟨i, hi, him⟩ := hof o ho1
              obtain ⟨_, cols, ms, hj, _⟩ := hk.pure hi him (by simpa using ho2)
              intro φ1 φ2 he
              exact evOp_yields (fun f sg hf => (hSg f sg hf).1) hj he) (filter_sub (by have := hok.dsts; rw [hl] at this; exact this)) (fun d hd => hd1000 d (hsub d hd).1) (by
              intro d hd s hs
              have h9 : isHit (dstsOf l) s = true := isHit_iff.2 ⟨d, (hsub d hd).1, hs⟩
              simp [clrX, h9])
            obtain ⟨C, g, h, hsz, hdf, hpar⟩ := hst
            have he : Ext w { w with drawn := w.drawn + 1 } := ⟨Nat.le_refl _, fun _ _ => rfl, ⟨rfl, rfl, rfl⟩⟩
            have hclr := fun ψ hψ => clr_st (A := A) (w := { w with drawn := w.drawn + 1 }) (φF := ψ) (dstsOf l) φ μ C _ hd1000 (h.ext he) hψ
            rw [hμ1] at hclr
            have hnWe : ∀ s, s ∉ dstsOf l → nW s = boxN μ1 s := by
              intro s hs
              rw [← hnW]
              unfold cellsN
              rw [if_neg (by simpa using hs)]
            have hbox : ∀ s ∈ W, s ∉ dstsOf l → φ s = .u ∨ ∃ old, φ s = .box old ∧ old.length = nW s := by
              intro s hs hnd
              obtain ⟨C1, h1⟩ := hclr φ (fun _ _ => rfl)
              rcases h1.slot s with e | hc
              · exact .inl e
              · right
                unfold Claim at hc
                rw [hnWe s hnd]
                unfold boxN
                have hb := (c4 s hs).2
                rw [Bool.or_eq_true] at hb
                have hb := hb.resolve_left (by simpa using hnd)
                cases hms : μ1.get s with
                | box ms =>
                  rw [hms] at hc
                  obtain ⟨ds, b, off, arr, e1, e2, e3⟩ := hc
                  exact ⟨ds, e1, e3.len 0 ds rfl⟩
                | _ => rw [hms] at hb; cases hb
            have hIs : ∀ o ∈ l.filter (isEf W), (∃ t s x, IsStore W o t s x) ∨ ∃ t s, IsAlloc W o t s := by
              intro o ho
              obtain ⟨ho1, ho2⟩ := List.mem_filter.1 ho
              obtain ⟨i, hi, him⟩ := hof o ho1
              cases hst : isSt o with
              | true =>
                obtain ⟨s, new, t, x, e, ms, _, g2, _⟩ := hk.store hi him hst
                exact .inl ⟨t, s, x, g2⟩
              | false =>
                simp only [isEf, hst, Bool.false_or] at ho2
                obtain ⟨t, s, ha⟩ := isAl_spec ho2
                exact .inr ⟨t, s, ha⟩
            have hU : ∀ s ∈ W, φ1 s = .u := by
              intro s hs
              rw [q2 s fun d hd => (hsub d hd).2 s hs]
              simp only [clrX, hideX]
              split
              · rfl
              · rw [if_pos (by simpa using hs)]
            have hψ0 : ∀ s, s ∈ W → s ∉ dstsOf l → rstX (W.filter fun s => !(dstsOf l).contains s) φ φ1 s = φ s := by
              intro s hs hnd
              unfold rstX
              rw [if_pos]
              simp [hs, hnd]
            have hψ1 : ∀ s, s ∉ W ∨ s ∈ dstsOf l → rstX (W.filter fun s => !(dstsOf l).contains s) φ φ1 s = φ1 s := by
              intro s hs
              unfold rstX
              rw [if_neg]
              simp only [List.contains_eq_mem, List.mem_filter, Bool.not_eq_true', decide_eq_false_iff_not, decide_eq_true_eq]
              rintro ⟨h8, h9⟩
              rcases hs with hs | hs
              · exact hs h8
              · exact h9 hs
            obtain ⟨r0, r1, r2⟩ := stores_ev (W := W) _ _ φF hx2 hIs (by rw [filter_st, hWd]; exact hk.w1) (by
              refine List.Pairwise.filter _ ?_
              rw [List.pairwise_iff_getElem]
              intro i j hi hj hij s hs hd
              obtain ⟨g1, g2⟩ := hat' i _ (List.getElem?_eq_getElem hi)
              obtain ⟨g3, g4⟩ := hat' j _ (List.getElem?_eq_getElem hj)
              obtain ⟨s', new, t, x, e, ms, _, k2, _, _, _, _, _, _, k3⟩ := hk.store g1 g2 (st_of hs)
              have := k2.stT
              rw [this] at hs; cases hs
              have := hok.lt i j (k3 j _ g3 g4 hd)
              omega) (by
              intro s hs
              by_cases hnd : s ∈ dstsOf l
              · left; rw [hψ1 s (.inr hnd)]; exact hU s hs
              · rw [hψ0 s hs hnd]
                rcases hbox s hs hnd with e | ⟨old, e, _⟩
                · exact .inl e
                · exact .inr ⟨old, e⟩)
            have hF1 : ∀ s, s ∉ W → φF s = φ1 s := by
              intro s hs
              rw [r0 s hs, hψ1 s (.inl hs)]
            have hF2 : ∀ s, s ∉ W → isHit (dstsOf l) s = false → φF s = φ s := by
              intro s hs hh
              rw [hF1 s hs, q2 s fun d hd => ?_]
              · simp [clrX, hh, hideX, hs]
              · rw [Bool.eq_false_iff]
                intro e
                have := isHit_iff.2 ⟨d, (hsub d hd).1, e⟩
                rw [hh] at this; cases this
            have hle : Le φ1 φF := by
              intro s
              by_cases hs : s ∈ W
              · exact .inl (hU s hs)
              · exact .inr (hF1 s hs)
            have hwr : ∀ i o, ops[i]? = some o → i < m → isSt o = true → ∀ t s x, IsStore W o t s x → ∃ e cs, TE.find V.τ t = some e ∧ (opX V.τ φF t x).cells = some cs ∧ fits e.zero cs = true ∧ φF s = .box cs ∧ cs.length = nW s ∧ (s ∉ dstsOf l → ∃ old, φ s = .box old ∧ old.length = nW s) := by
              intro i o ho him hp t s x his
              obtain ⟨e, cs, old, g1, g2, g3, g4, g5, g6⟩ := r2 o (List.mem_filter.2 ⟨List.mem_of_getElem? (hat i o ho him), by simp [isEf, hp]⟩) t s x his
              have hcl : cs.length = nW s := by
                obtain ⟨s', new, t', x', e', ms, _, k2, k3, _, k5, rfl, _, k8, _⟩ := hk.store ho him hp
                have e8 := his.op.symm.trans k2.op
                cases e8
                rw [g1] at k3; cases k3
                rw [flatL_len (by omega)] at k8
                have := fits_len g3
                omega
              have hol : old.length = nW s ∧ (s ∉ dstsOf l → φ s = .box old) := by
                rcases g4 with g4 | ⟨oa, hoa, ta, ea, ha, hea, rfl⟩
                · have hnd : s ∉ dstsOf l := by
                    intro hnd
                    rw [hψ1 s (.inr hnd), hU s his.mem] at g4; cases g4
                  rw [hψ0 s his.mem hnd] at g4
                  rcases hbox s his.mem hnd with e9 | ⟨old', e9, hlen⟩
                  · rw [e9] at g4; cases g4
                  · rw [g4] at e9; cases e9; exact ⟨hlen, fun _ => g4⟩
                · have hin : s ∈ dstsOf l := List.mem_filterMap.2 ⟨oa, (List.mem_filter.1 hoa).1, ha.dst⟩
                  obtain ⟨j, hj, hjm⟩ := hof oa (List.mem_filter.1 hoa).1
                  obtain ⟨t9, e9, k1, k2, _, k4⟩ := hk.alloc hj hjm ha.dst (by simp [isEf, ha.is])
                  have := ha.op.symm.trans k1.op
                  cases this
                  rw [hea] at k2; cases k2
                  exact ⟨by rw [List.length_map]; exact k4, fun h9 => (h9 hin).elim⟩
              refine ⟨e, cs, g1, g2, g3, ?_, hcl, fun h9 => ⟨old, hol.2 h9, hol.1⟩⟩
              rw [g6, List.drop_of_length_le (by omega), List.append_nil]
            have hnWs : ∀ s ∈ W, (∃ cs, φF s = .box cs ∧ cs.length = nW s) ∧ (s ∉ dstsOf l → ∃ old, φ s = .box old ∧ old.length = nW s) := by
              intro s hs
              obtain ⟨j, o, new, h1, h2, h3, h4, _⟩ := hk.writes hs
              obtain ⟨s', new', t, x, e, ms, k1, k2, _⟩ := hk.store h1 h2 h3
              rw [h4] at k1; cases k1
              obtain ⟨e', cs, _, _, _, g4, g5, g6⟩ := hwr j o h1 h2 h3 t s x k2
              exact ⟨⟨cs, g4, g5⟩, g6⟩
            -- the beginning
            obtain ⟨C', h'⟩ := hclr (fun s => if isHit (dstsOf l) s then φF s else φ s) (fun s hs => by simp [hs])
            have h4 := h'.imp (ν := calmM μ1) fun s x v hc => by rw [calmM_get]; exact calm_claim hc
            have hlk : ∀ s, Mu.get (((W.filter fun s => !(dstsOf l).contains s).map fun s => (s, SM.box (List.replicate (nW s) .u))) ++ zeroS W (dstsOf l) μ1) s = if s ∈ W.filter (fun s => !(dstsOf l).contains s) then .box (List.replicate (nW s) .u) else (zeroS W (dstsOf l) μ1).get s := by
              intro s
              have aux : ∀ (f : Nat → SM) (ν : Mu) (L : List Nat), Mu.get ((L.map fun s => (s, f s)) ++ ν) s = if s ∈ L then f s else ν.get s := by
                intro f ν L
                induction L with
                | nil => simp
                | cons k L ih =>
                  unfold Mu.get at ih ⊢
                  rw [List.map_cons, List.cons_append, List.lookup_cons]
                  by_cases e : s = k
                  · subst e; simp
                  · have e' : (s == k) = false := by simpa using e
                    rw [e']
                    simp only [List.mem_cons, e, false_or]
                    exact ih
              exact aux (fun s => .box (List.replicate (nW s) .u)) _ _
            have hWf : ∀ s, s ∈ W.filter (fun s => !(dstsOf l).contains s) ↔ s ∈ W ∧ s ∉ dstsOf l := by
              intro s; simp
            have h5 := h4.reframe (W := W.filter fun s => !(dstsOf l).contains s) (φF := φF) (ν := ((W.filter fun s => !(dstsOf l).contains s).map fun s => (s, SM.box (List.replicate (nW s) .u))) ++ zeroS W (dstsOf l) μ1) (by
                intro s hs
                by_cases hh : isHit (dstsOf l) s = true
                · simp [hh]
                · simp only [hh, if_false, Bool.false_eq_true]
                  refine hF2 s (fun hsW => hs ((hWf s).2 ⟨hsW, fun hnd => hh (isHit_iff.2 ⟨s, hnd, hit_self s⟩)⟩)) (by simpa using hh)) (by
                intro s hs
                obtain ⟨hsW, hnd⟩ := (hWf s).1 hs
                obtain ⟨⟨cs, g1, g2⟩, g3⟩ := hnWs s hsW
                obtain ⟨old, g4, g5⟩ := g3 hnd
                have hnh : isHit (dstsOf l) s = false := by
                  rw [Bool.eq_false_iff]; exact fun hh => hnd (hhit s hsW hh)
                exact ⟨old, cs, by simp [hnh, g4], g1, by omega⟩) (by
                intro s hs
                rw [hlk, if_neg hs]
                rcases zeroS_get (W := W) (ds := dstsOf l) (μ := μ1) (s := s) with e | ⟨e1, e2⟩
                · exact .inl e
                · exact .inr ⟨e1, av_sub (fun q hq => ((hWf q).1 hq).1) e2⟩) (by
                intro s hs
                obtain ⟨hsW, hnd⟩ := (hWf s).1 hs
                have hb := (c4 s hsW).2
                rw [Bool.or_eq_true] at hb
                have hb := hb.resolve_left (by simpa using hnd)
                rw [hlk, if_pos hs, calmM_get, hnWe s hnd]
                unfold boxN
                cases hms : μ1.get s with
                | box ms => exact ⟨ms, rfl, by simp [List.map_const']⟩
                | _ => rw [hms] at hb; cases hb)
            refine wp_region_any V.mix ?_
            have hg0 : (zeroS W (dstsOf l) μ1).get gam = .u := isNo_spec hgam0
            have hlist : ∀ j, (Array.replicate ops.size false).getD j false = false := by
              intro j
              rw [Array.getD_eq_getD_getElem?]
              simp [Array.getElem?_replicate]
              split <;> simp
            have hhid : ∀ s, isHit (dstsOf l) s = true → Mu.get (((W.filter fun s => !(dstsOf l).contains s).map fun s => (s, SM.box (List.replicate (nW s) .u))) ++ zeroS W (dstsOf l) μ1) s = .u := by
              intro s hh
              have hs : s ∉ W.filter (fun s => !(dstsOf l).contains s) := by
                intro hs
                obtain ⟨hsW, hnd⟩ := (hWf s).1 hs
                exact hnd (hhit s hsW hh)
              rw [hlk, if_neg hs]
              cases hq : List.lookup s (zeroS W (dstsOf l) μ1) with
              | none => unfold Mu.get; rw [hq]
              | some x => rw [(zeroS_lookup hq).1] at hh; cases hh
            refine settleS_wp hrg hks hlo hkp hSg hQ hg0 hk ?_ ?_ ?_ hx hm ops.size _ _ a _ (List.range m) (by simp) (by simp; have := hok.le; omega) (fun i hi _ => by simpa using hi) ?_ ?_ ?_ ⟨C', g, h5, hsz, hdf, hpar⟩
            · intro i o ho him hp
              have ho' := q3 o (List.mem_filter.2 ⟨List.mem_of_getElem? (hat i o ho him), by simp [hp]⟩)
              refine Come.more (W := W) ho' hle fun d hd s hs => hF1 s ?_
              exact hk.away ho him hp hd hs
            · intro i o t s ho him ha
              obtain ⟨cs, g1, g2⟩ := (hnWs s ha.mem).1
              exact ⟨cs, g1, g2⟩
            · intro i o ho him hp t s x his
              obtain ⟨e, cs, g1, g2, g3, g5, _⟩ := hwr i o ho him hp t s x his
              exact ⟨e, cs, g1, g2, g3, g5⟩
            · intro i hi
              rw [hlist i] at hi; cases hi
            · intro i _ hi
              rw [Array.getD_eq_getD_getElem?]
              simp [hi]
            · refine ⟨?_, ?_, ?_, ?_, ?_, ?_, ?_⟩
              · intro s _ hs
                rw [hlk, if_neg (fun h9 => hs ((hWf s).1 h9).1)]
              · intro j o d s _ _ _ hj
                rw [hlist j] at hj; cases hj
              · intro j o d s hj hjm _ _ hd hh
                exact hhid s (isHit_iff.2 ⟨d, List.mem_filterMap.2 ⟨o, List.mem_of_getElem? (hat j o hj hjm), hd⟩, hh⟩)
              · intro j o d s hj hjm _ hd hh _
                exact hhid s (isHit_iff.2 ⟨d, List.mem_filterMap.2 ⟨o, List.mem_of_getElem? (hat j o hj hjm), hd⟩, hh⟩)
              · intro j o s new hj hjm hst hE hl9
                rw [hlist j] at hl9; cases hl9
              · intro j o s new hj hjm hst hE _ hall
                obtain ⟨s', new', t, x, e, ms, k1, k2, _⟩ := hk.store hj hjm hst
                rw [hE] at k1; cases k1
                have hnd : s ∉ dstsOf l := by
                  intro hnd
                  obtain ⟨o', ho', e'⟩ := List.mem_filterMap.1 hnd
                  obtain ⟨ja, hja, hjam⟩ := hof o' ho'
                  have := hall ja o' hja hjam e'
                  rw [hlist ja] at this; cases this
                rw [hlk, if_pos ((hWf s).2 ⟨k2.mem, hnd⟩)]
              · intro ja oa s hj hjm hd hw _
                exact hhid s (isHit_iff.2 ⟨s, List.mem_filterMap.2 ⟨oa, List.mem_of_getElem? (hat ja oa hj hjm), hd⟩, hit_self s⟩)
          · cases hx
        · cases hx
      · cases hm
    · cases hm
  · cases hm

/-- The check of a region whose order is drawn. -/
def chkDr (τ : List TE) (Sg : Nat → Option Sig) (colsP : Pol) (n : Nat) (ops : Array Oper) (μ : Mu) : Option Mu :=
  if ((ops.toList.take (cutOf ops.toList)).filterMap stT).isEmpty then chkDrawn τ Sg colsP n ops μ else chkDrawnS τ Sg colsP n ops μ

theorem dr_wp {id : Nat} {φ φ' : Fr} {μ μ' : Mu} {a : Act} {w : World} {Q : Exit → Act → World → Prop} (hrg : RgOk A) (hks : A.ks = []) (hlo : A.hd.isSome = true → colsP.lo = true) (hn : n ≤ 1000)
    (hSg : ∀ f sg, Sg f = some sg → S f = some (sg.pms.map PM.pk) ∧ DoesR (Abv A) V f sg (F f)) (hst : Stands A n φ μ a w) (hx : evD V.τ S F ops φ = some φ') (hm : chkDr V.τ Sg colsP n ops μ = some μ')
    (hQ : ∀ a w, Stands A n φ' μ' a w → Q .normal a w) : (Code.region id ops true).wp V.P Q a w := by
  unfold chkDr at hm
  split at hm
  · rename_i hW
    unfold evD at hx
    rw [hW] at hx
    simp only [if_true] at hx
    exact drawn_wpS hrg hks hlo hn hSg hst hx hm hQ
  · rename_i hW
    exact drawnS_wp hrg hks hlo hn hSg hst (by simpa using hW) hx hm hQ
end
end Go.Ev

/- Code: what is checked comes to what is evaluated. -/
namespace Go.Ev

def joinK (a b : Mu) : Option Mu :=
  let j := joinMu a b
  if weakS a j && weakS b j then some j else none

def joinOK : Option Mu → Option Mu → Option (Option Mu)
  | some a, some b => match joinK a b with
    | some j => some (some j)
    | none => none
  | some a, none => some (some a)
  | none, b => some b

def mergeK : List (Nat × Mu) → List (Nat × Mu) → Option (List (Nat × Mu))
  | a, [] => some a
  | a, p :: b => match List.lookup p.1 a with
    | some μ => match joinK μ p.2 with
      | some j => mergeK ((p.1, j) :: a.filter (fun q => q.1 != p.1)) b
      | none => none
    | none => mergeK (p :: a) b

def Outs.join (o o' : Outs) : Option Outs := match joinOK o.n o'.n, mergeK o.e o'.e, joinOK o.r o'.r with
  | some n, some e, some r => some { n := n, e := e, r := r }
  | _, _, _ => none

structure Chk where
  τ : List TE
  Sg : Nat → Option Sig
  n : Nat
  cols : Pol

def loopK (body : Mu → Option Outs) : Nat → Mu → Option Outs
  | 0, _ => none
  | k + 1, μ => match body μ with
    | some o => match o.n with
      | some μ' => if weakS μ' μ then some { o with n := none } else (if weakS μ (joinMu μ μ') then loopK body k (joinMu μ μ') else none)
      | none => some { o with n := none }
    | none => none

def smC (n : Nat) : Operand → Bool
  | .tmp t => Nat.blt t n
  | _ => true

def chkC (X : Chk) : Code → Mu → Option Outs
  | .skip, μ => some { n := some μ }
  | .region _ ops dr, μ => match (if dr then chkDr X.τ X.Sg X.cols X.n ops μ else chkOps X.τ X.Sg X.cols X.n ops ops.toList μ) with
    | some μ' => some { n := some μ' }
    | none => none
  | .seq a b, μ => match chkC X a μ with
    | some o => match o.n with
      | some μ' => match chkC X b μ' with
        | some o' => Outs.join { o with n := none } o'
        | none => none
      | none => some o
    | none => none
  | .cond c a b, μ => if smC X.n c && rdO μ c then (match chkC X a μ, chkC X b μ with
    | some o, some o' => o.join o'
    | _, _ => none) else none
  | .block id c, μ => match chkC X c μ with
    | some o => match joinOK o.n (List.lookup id o.e) with
      | some n => some { n := n, e := o.e.filter (fun p => p.1 != id), r := o.r }
      | none => none
    | none => none
  | .loop c, μ => loopK (chkC X c) 6 μ
  | .exit id, μ => some { e := [(id, μ)] }
  | .ret, μ => some { r := some μ }
  | _, _ => none

def EE.ex : EE → Exit
  | .normal => .normal
  | .exit id => .exit id
  | .ret => .ret

def Outs.Holds (o : Outs) (e : EE) (P : Mu → Prop) : Prop := match e with
  | .normal => ∃ μ, o.n = some μ ∧ P μ
  | .exit id => ∃ μ, List.lookup id o.e = some μ ∧ P μ
  | .ret => ∃ μ, o.r = some μ ∧ P μ

def Mono (P : Mu → Prop) : Prop := ∀ μ ν, weakS μ ν = true → P μ → P ν

theorem joinK_spec {a b j : Mu} (h : joinK a b = some j) : weakS a j = true ∧ weakS b j = true := by
  unfold joinK at h
  simp only at h
  split at h
  · rename_i hc; cases h; simpa using hc
  · cases h

theorem joinOK_l {a b n : Option Mu} {P : Mu → Prop} (hP : Mono P) (h : joinOK a b = some n) (ha : ∃ μ, a = some μ ∧ P μ) : ∃ μ, n = some μ ∧ P μ := by
  obtain ⟨μ, rfl, hp⟩ := ha
  cases b with
  | none => simp only [joinOK, Option.some.injEq] at h; exact ⟨μ, h.symm, hp⟩
  | some b =>
    simp only [joinOK] at h
    split at h
    · rename_i j hj; cases h; exact ⟨j, rfl, hP _ _ (joinK_spec hj).1 hp⟩
    · cases h

theorem joinOK_r {a b n : Option Mu} {P : Mu → Prop} (hP : Mono P) (h : joinOK a b = some n) (ha : ∃ μ, b = some μ ∧ P μ) : ∃ μ, n = some μ ∧ P μ := by
  obtain ⟨μ, rfl, hp⟩ := ha
  cases a with
  | none => simp only [joinOK, Option.some.injEq] at h; exact ⟨μ, h.symm, hp⟩
  | some b =>
    simp only [joinOK] at h
    split at h
    · rename_i j hj; cases h; exact ⟨j, rfl, hP _ _ (joinK_spec hj).2 hp⟩
    · cases h

theorem mergeK_spec {P : Mu → Prop} (hP : Mono P) (id : Nat) : ∀ (b a r : List (Nat × Mu)), mergeK a b = some r → ((∃ μ, List.lookup id a = some μ ∧ P μ) → ∃ μ, List.lookup id r = some μ ∧ P μ) ∧ ((∃ μ, List.lookup id b = some μ ∧ P μ) → ∃ μ, List.lookup id r = some μ ∧ P μ)
  | [], a, r, h => by
    simp only [mergeK, Option.some.injEq] at h
    subst h
    exact ⟨_root_.id, by rintro ⟨μ, h, _⟩; cases h⟩
  | (k, ν) :: b, a, r, h => by
    simp only [mergeK] at h
    split at h
    · rename_i μ hμ
      split at h
      · rename_i j hj
        obtain ⟨h1, h2⟩ := mergeK_spec hP id b _ r h
        obtain ⟨w1, w2⟩ := joinK_spec hj
        by_cases e : id = k
        · subst e
          refine ⟨?_, ?_⟩
          · rintro ⟨μ', q1, q2⟩
            rw [hμ] at q1; cases q1
            exact h1 ⟨j, by simp [List.lookup_cons], hP _ _ w1 q2⟩
          · rintro ⟨μ', q1, q2⟩
            simp [List.lookup_cons] at q1
            subst q1
            exact h1 ⟨j, by simp [List.lookup_cons], hP _ _ w2 q2⟩
        · have e' : (id == k) = false := by simpa using e
          refine ⟨?_, ?_⟩
          · rintro ⟨μ', q1, q2⟩
            refine h1 ⟨μ', ?_, q2⟩
            rw [List.lookup_cons, e', lookup_filter (fun x => x != k)]
            simp [e, q1]
          · rintro ⟨μ', q1, q2⟩
            rw [List.lookup_cons, e'] at q1
            exact h2 ⟨μ', q1, q2⟩
      · cases h
    · rename_i hμ
      obtain ⟨h1, h2⟩ := mergeK_spec hP id b _ r h
      by_cases e : id = k
      · subst e
        refine ⟨?_, ?_⟩
        · rintro ⟨μ', q1, q2⟩
          rw [hμ] at q1; cases q1
        · rintro ⟨μ', q1, q2⟩
          simp [List.lookup_cons] at q1
          subst q1
          exact h1 ⟨ν, by simp [List.lookup_cons], q2⟩
      · have e' : (id == k) = false := by simpa using e
        refine ⟨?_, ?_⟩
        · rintro ⟨μ', q1, q2⟩
          exact h1 ⟨μ', by rw [List.lookup_cons, e']; exact q1, q2⟩
        · rintro ⟨μ', q1, q2⟩
          rw [List.lookup_cons, e'] at q1
          exact h2 ⟨μ', q1, q2⟩

theorem Outs.join_l {o o' r : Outs} {e : EE} {P : Mu → Prop} (hP : Mono P) (h : o.join o' = some r) (ha : o.Holds e P) : r.Holds e P := by
  unfold Outs.join at h
  split at h
  · rename_i h1 h2 h3
    cases h
    cases e with
    | normal => exact joinOK_l hP h1 ha
    | exit id => exact (mergeK_spec hP id _ _ _ h2).1 ha
    | ret => exact joinOK_l hP h3 ha
  · cases h

theorem Outs.join_r {o o' r : Outs} {e : EE} {P : Mu → Prop} (hP : Mono P) (h : o.join o' = some r) (ha : o'.Holds e P) : r.Holds e P := by
  unfold Outs.join at h
  split at h
  · rename_i h1 h2 h3
    cases h
    cases e with
    | normal => exact joinOK_r hP h1 ha
    | exit id => exact (mergeK_spec hP id _ _ _ h2).2 ha
    | ret => exact joinOK_r hP h3 ha
  · cases h

theorem stands_mono {A : Start} {n : Nat} {φ : Fr} {a : Act} {w : World} : Mono (fun μ => Stands A n φ μ a w) := by
  rintro μ ν hw ⟨C, g, h, h1, h2⟩
  exact ⟨C, g, h.weak hw, h1, h2⟩

section
variable {V : Env} {A : Start} {S : Nat → Option (List PK)} {F : Nat → List X → Option (List X × List X)} {X : Chk}

theorem code_wp (hτ : X.τ = V.τ) (hrg : RgOk A) (hks : A.ks = []) (hlo : A.hd.isSome = true → X.cols.lo = true) (hn : X.n ≤ 1000) (hSg : ∀ f sg, X.Sg f = some sg → S f = some (sg.pms.map PM.pk) ∧ DoesR (Abv A) V f sg (F f)) (k : Nat) : ∀ (c : Code) (μ : Mu) (o : Outs) (φ φ' : Fr) (e : EE) (a : Act) (w : World) (Q : Exit → Act → World → Prop),
    chkC X c μ = some o → evC V.τ S F k c φ = some (e, φ') → Stands A X.n φ μ a w → (∀ a w, o.Holds e (fun μ' => Stands A X.n φ' μ' a w) → Q e.ex a w) → c.wp V.P Q a w := by
  intro c
  induction c with
  | skip =>
    intro μ o φ φ' e a w Q hm hx hst hQ
    simp only [chkC, Option.some.injEq] at hm
    simp only [evC, Option.some.injEq, Prod.mk.injEq] at hx
    obtain ⟨rfl, rfl⟩ := hx
    subst hm
    exact wp_skip (hQ _ _ ⟨μ, rfl, hst⟩)
  | region id ops draw =>
    intro μ o φ φ' e a w Q hm hx hst hQ
    simp only [evC, Option.map_eq_some_iff, Prod.mk.injEq] at hx
    obtain ⟨φ1, hx, rfl, rfl⟩ := hx
    simp only [chkC] at hm
    split at hm
    · rename_i μ' hμ'
      cases hm
      rw [hτ] at hμ'
      cases draw with
      | false => exact wp_region_list (ops_wp hrg hks hlo hn hSg ops.toList μ μ' φ φ1 a w hst hx hμ' fun a w hst' => hQ a w ⟨μ', rfl, hst'⟩)
      | true => exact dr_wp hrg hks hlo hn hSg hst hx hμ' fun a w hst' => hQ a w ⟨μ', rfl, hst'⟩
    · cases hm
  | seq x y ihx ihy =>
    intro μ o φ φ' e a w Q hm hx hst hQ
    simp only [chkC] at hm
    simp only [evC] at hx
    split at hm
    · rename_i o1 ho1
      split at hx
      · rename_i φ1 hx1
        refine wp_seq (ihx μ o1 φ φ1 .normal a w _ ho1 hx1 hst ?_)
        rintro a' w' ⟨μ1, h1, h2⟩
        rw [h1] at hm
        simp only at hm
        split at hm
        · rename_i o2 ho2
          exact ihy μ1 o2 φ1 φ' e a' w' Q ho2 hx h2 fun a w hh => hQ a w (Outs.join_r stands_mono hm hh)
        · cases hm
      · rename_i hne
        have hxe : evC V.τ S F k x φ = some (e, φ') := hx
        refine wp_seq (ihx μ o1 φ φ' e a w _ ho1 hxe hst ?_)
        intro a' w' hh
        have hen : e ≠ .normal := by rintro rfl; exact hne φ' hxe
        have hh' : o.Holds e fun μ' => Stands A X.n φ' μ' a' w' := by
          cases hon : o1.n with
          | none =>
            rw [hon] at hm
            simp only [Option.some.injEq] at hm
            rw [← hm]; exact hh
          | some μ1 =>
            rw [hon] at hm
            simp only at hm
            split at hm
            · rename_i o2 ho2
              refine Outs.join_l stands_mono hm ?_
              cases e with
              | normal => exact (hen rfl).elim
              | exit id => exact hh
              | ret => exact hh
            · cases hm
        have := hQ a' w' hh'
        cases e with
        | normal => exact (hen rfl).elim
        | exit id => exact this
        | ret => exact this
    · cases hm
  | cond c x y ihx ihy =>
    intro μ o φ φ' e a w Q hm hx hst hQ
    simp only [chkC] at hm
    split at hm
    · rename_i hc
      simp only [Bool.and_eq_true] at hc
      split at hm
      · rename_i o1 o2 ho1 ho2
        simp only [evC] at hx
        split at hx
        · rename_i t ht
          obtain ⟨C, g, h, hsz, hdf, hpar⟩ := hst
          have hsm : sm1 c = true := by
            cases c with
            | tmp t =>
              have := hc.1
              simp only [smC, Nat.blt_eq] at this
              simp only [sm1, decide_eq_true_eq]
              exact Nat.lt_of_lt_of_le this hn
            | _ => rfl
          have hv := (val_sound (τ := V.τ) (ty := 0) h hsm hc.2 ht).1
          refine wp_cond hv ?_
          cases t with
          | true => exact ihx μ o1 φ φ' e a w Q ho1 hx ⟨C, g, h, hsz, hdf, hpar⟩ fun a w hh => hQ a w (Outs.join_l stands_mono hm hh)
          | false => exact ihy μ o2 φ φ' e a w Q ho2 hx ⟨C, g, h, hsz, hdf, hpar⟩ fun a w hh => hQ a w (Outs.join_r stands_mono hm hh)
        · cases hx
      · cases hm
    · cases hm
  | block id c ih =>
    intro μ o φ φ' e a w Q hm hx hst hQ
    simp only [chkC] at hm
    split at hm
    · rename_i o1 ho1
      split at hm
      · rename_i nn hnn
        cases hm
        simp only [evC] at hx
        split at hx
        · rename_i id' φ1 hx1
          refine wp_block (ih μ o1 φ φ1 (.exit id') a w _ ho1 hx1 hst ?_)
          rintro a' w' ⟨μ1, h1, h2⟩
          simp only [EE.ex, Exit.inBlock]
          split at hx
          · rename_i e0
            cases hx
            subst e0
            rw [if_pos rfl]
            exact hQ _ _ (joinOK_r stands_mono hnn ⟨μ1, h1, h2⟩)
          · rename_i e0
            cases hx
            rw [if_neg e0]
            refine hQ _ _ ⟨μ1, ?_, h2⟩
            rw [lookup_filter (fun x => x != id)]
            simp [e0, h1]
        · rename_i hne
          have hxe : evC V.τ S F k c φ = some (e, φ') := hx
          refine wp_block (ih μ o1 φ φ' e a w _ ho1 hxe hst ?_)
          intro a' w' hh
          cases e with
          | normal =>
            simp only [EE.ex, Exit.inBlock]
            exact hQ _ _ (joinOK_l stands_mono hnn hh)
          | exit id' => exact (hne _ _ hxe).elim
          | ret => exact hQ _ _ hh
      · cases hm
    · cases hm
  | loop c ih =>
    intro μ o φ φ' e a w Q hm hx hst hQ
    simp only [evC] at hx
    simp only [chkC] at hm
    generalize 6 = q at hm
    induction q generalizing μ with
    | zero => cases hm
    | succ q ihq =>
      simp only [loopK] at hm
      split at hm
      · rename_i o1 ho1
        -- the head holds again
        have main : (∀ μ', o1.n = some μ' → weakS μ' μ = true) → o = { o1 with n := none } → (Code.loop c).wp V.P Q a w := by
          intro hback ho
          have key : ∀ j φ a w, Stands A X.n φ μ a w → iter (evC V.τ S F k c) j φ = some (e, φ') → ∀ (b : Go.Frame) (kk : List Item) (cs : List Go.Frame), ∃ e1 a' w', Q e1 a' w' ∧ Arrives V.P (lone (b.at a (.code c :: .inLoop c :: kk)) cs w) b kk cs e1 a' w' := by
            intro j
            induction j with
            | zero => intro φ a w _ h; cases h
            | succ j ihj =>
              intro φ a w hst hit b kk cs
              simp only [iter] at hit
              split at hit
              · rename_i φ1 hb
                have hbody := ih μ o1 φ φ1 .normal a w (Exit.then (fun a' w' => Stands A X.n φ1 μ a' w') Q) ho1 hb hst (by
                  rintro a' w' ⟨μ', h1, h2⟩
                  exact stands_mono _ _ (hback μ' h1) h2)
                obtain ⟨e1, a₁, w₁, hq, harr⟩ := hbody b (.inLoop c :: kk) cs
                cases e1 with
                | normal =>
                  obtain ⟨e₂, a₂, w₂, hq₂, harr₂⟩ := ihj φ1 a₁ w₁ hq hit b kk cs
                  exact ⟨e₂, a₂, w₂, hq₂, .of_steps (Steps.trans harr (.one step_inLoop)) harr₂⟩
                | exit id => exact ⟨_, a₁, w₁, hq, .pass (x := .inLoop c) rfl (fun _ _ => .inl (by simp)) harr⟩
                | goto l => exact ⟨_, a₁, w₁, hq, .pass (x := .inLoop c) rfl (fun _ _ => .inl (by simp)) harr⟩
                | ret => exact ⟨_, a₁, w₁, hq, .pass (x := .inLoop c) rfl (fun _ _ => .inl (by simp)) harr⟩
                | panic ch => exact ⟨_, a₁, w₁, hq, .pass (x := .inLoop c) rfl (fun _ _ => .inl (by simp)) harr⟩
                | outgrown => exact ⟨_, a₁, w₁, hq, .pass (x := .inLoop c) rfl (fun _ _ => .inl (by simp)) harr⟩
              · rename_i hne
                have hit' : evC V.τ S F k c φ = some (e, φ') := hit
                have hen : e ≠ .normal := by rintro rfl; exact hne φ' hit'
                have hbody := ih μ o1 φ φ' e a w (Exit.then (fun _ _ => False) Q) ho1 hit' hst (by
                  intro a' w' hh
                  have : Q e.ex a' w' := hQ a' w' (by
                    rw [ho]
                    cases e with
                    | normal => exact (hen rfl).elim
                    | exit id => exact hh
                    | ret => exact hh)
                  cases e with
                  | normal => exact (hen rfl).elim
                  | exit id => exact this
                  | ret => exact this)
                obtain ⟨e1, a₁, w₁, hq, harr⟩ := hbody b (.inLoop c :: kk) cs
                cases e1 with
                | normal => exact hq.elim
                | exit id => exact ⟨_, a₁, w₁, hq, .pass (x := .inLoop c) rfl (fun _ _ => .inl (by simp)) harr⟩
                | goto l => exact ⟨_, a₁, w₁, hq, .pass (x := .inLoop c) rfl (fun _ _ => .inl (by simp)) harr⟩
                | ret => exact ⟨_, a₁, w₁, hq, .pass (x := .inLoop c) rfl (fun _ _ => .inl (by simp)) harr⟩
                | panic ch => exact ⟨_, a₁, w₁, hq, .pass (x := .inLoop c) rfl (fun _ _ => .inl (by simp)) harr⟩
                | outgrown => exact ⟨_, a₁, w₁, hq, .pass (x := .inLoop c) rfl (fun _ _ => .inl (by simp)) harr⟩
          intro b kk cs
          obtain ⟨e1, a', w', hq, harr⟩ := key k φ a w hst hx b kk cs
          exact ⟨e1, a', w', hq, .of_steps (.one step_loop) harr⟩
        split at hm
        · rename_i μ' hμ'
          split at hm
          · rename_i hw
            cases hm
            exact main (fun μ2 h2 => by rw [hμ'] at h2; cases h2; exact hw) rfl
          · split at hm
            · rename_i hw2
              exact ihq (joinMu μ μ') (stands_mono _ _ hw2 hst) hm
            · cases hm
        · rename_i hno
          cases hm
          exact main (fun μ2 h2 => by rw [hno] at h2; cases h2) rfl
      · cases hm
  | exit id =>
    intro μ o φ φ' e a w Q hm hx hst hQ
    simp only [chkC, Option.some.injEq] at hm
    simp only [evC, Option.some.injEq, Prod.mk.injEq] at hx
    obtain ⟨rfl, rfl⟩ := hx
    subst hm
    exact wp_exit (hQ _ _ ⟨μ, by simp [List.lookup_cons], hst⟩)
  | ret =>
    intro μ o φ φ' e a w Q hm hx hst hQ
    simp only [chkC, Option.some.injEq] at hm
    simp only [evC, Option.some.injEq, Prod.mk.injEq] at hx
    obtain ⟨rfl, rfl⟩ := hx
    subst hm
    exact wp_ret (hQ _ _ ⟨μ, rfl, hst⟩)
  | _ => intro μ o φ φ' e a w Q hm; cases hm
end
end Go.Ev

/- Results: what a function hands out. -/
namespace Go.Ev

/-- The slot whose blocks a result takes along. -/
def srcS (μ : Mu) : ResultVar → Option Nat
  | .tmp t => match μ.get t with
    | .pt s [0] => some s
    | _ => some t
  | .cell t _ => match μ.get t with
    | .box ms => if ms.length == 1 then none else some t
    | _ => none

def idxS : List (Option Nat) → Nat → Nat → Option Nat
  | [], _, _ => none
  | x :: l, s, k => if x == some s then some k else idxS l s (k + 1)

/-- What is viewed in a result: with arguments, or frozen. -/
def exF (l : List (Option Nat)) : PF := fun ps => if ps.any (fun p => match p with
  | .lab (s :: _) => (idxS l s 0).isSome
  | .lab [] => true
  | .arg _ => false) then none else some (ps.filter fun p => match p with
  | .arg _ => true
  | .lab _ => false)

def exitR (τ : List TE) (μ : Mu) (r : ResultVar) : SM := match r with
  | .tmp t => match μ.get t with
    | .c m _ => .c m .no
    | .agg ms _ => .agg ms .no
    | .box ms => .box ms
    | .pt s [0] => match μ.get s with
      | .box ms => .box ms
      | _ => .u
    | _ => .u
  | .cell t ty => match μ.get t, TE.find τ ty with
    | .box ms, some e => if e.agg && ms.length != 1 && ms.length == e.zero.length && ms.all M.readable then .agg (flatL e.zero ms) .no else (match loadM τ μ ty (.pt t [0]) with
      | some (.c m _) => .c m .no
      | some (.agg ms _) => .agg ms .no
      | _ => .u)
    | _, _ => .u

def exitC (C : Cx) (l : List (Option Nat)) (PA : Nat → Nat → Prop) : Cx where
  own b := match C.own b with
    | some o => match idxS l o.p.s 0 with
      | some k => some ⟨⟨k, o.p.st⟩, o.off, o.cap, o.z⟩
      | none => none
    | none => none
  G b := C.G b ∨ ∃ o, C.own b = some o ∧ idxS l o.p.s 0 = none
  PA := PA

theorem exit_own {w : World} {C : Cx} {l : List (Option Nat)} {PA : Nat → Nat → Prop} (h : OwnOk w C.own) : OwnOk w (exitC C l PA).own := by
  intro b o ho
  simp only [exitC] at ho
  split at ho
  · rename_i o1 ho1
    split at ho
    · cases ho; have := h b o1 ho1; exact this
    · cases ho
  · cases ho

theorem idxS_ge : ∀ (l : List (Option Nat)) (s k r : Nat), idxS l s k = some r → k ≤ r ∧ l[r - k]? = some (some s)
  | [], s, k, r, h => by cases h
  | x :: l, s, k, r, h => by
    simp only [idxS] at h
    split at h
    · rename_i e
      cases h
      simp at e
      simp [e]
    · obtain ⟨h1, h2⟩ := idxS_ge l s (k + 1) r h
      refine ⟨by omega, ?_⟩
      rw [show r - k = (r - (k + 1)) + 1 by omega]
      simpa using h2

theorem idxS_at : ∀ (l : List (Option Nat)) (s k j : Nat), (l.filterMap _root_.id).Nodup → l[j]? = some (some s) → idxS l s k = some (k + j)
  | [], s, k, j, _, h => by simp at h
  | x :: l, s, k, j, hn, h => by
    simp only [idxS]
    cases j with
    | zero => simp only [List.getElem?_cons_zero, Option.some.injEq] at h; subst h; simp
    | succ j =>
      simp only [List.getElem?_cons_succ] at h
      have hn' : (l.filterMap _root_.id).Nodup := by
        cases x with
        | none => simpa using hn
        | some x => simp at hn; exact hn.2
      have hne : x ≠ some s := by
        rintro rfl
        simp only [List.filterMap_cons, _root_.id] at hn
        exact (List.nodup_cons.1 hn).1 (List.mem_filterMap.2 ⟨some s, List.mem_of_getElem? h, rfl⟩)
      rw [if_neg (by simpa using hne), idxS_at l s (k + 1) j hn' h]
      congr 1; omega

def resRun (tmps : Array Value) : ResultVar → Sem Value
  | .tmp t => pure (tmps.getD t Go.undef)
  | .cell a t => do loadVar t (← asAddr (tmps.getD a Go.undef))

theorem results_run {P : Program} {w : World} {tmps : Array Value} {fn : Func} {vs : List Value} (h : (fn.results.toList.mapM (resRun tmps)).run P w = .ok vs w) : (results fn tmps).run P w = .ok (packV vs) w := by
  have e0 : results fn tmps = (do let vs ← fn.results.mapM (resRun tmps); pure (if h : vs.size = 1 then vs[0] else .tuple vs)) := by
    unfold results
    congr
  have e : fn.results.mapM (resRun tmps) = List.toArray <$> fn.results.toList.mapM (resRun tmps) := by
    rw [Array.mapM_eq_mapM_toList]
  rw [e0, Sem.run_bind]
  have e2 : (fn.results.mapM (resRun tmps)).run P w = .ok vs.toArray w := by
    rw [e, Sem.run_map, h]; rfl
  rw [e2]
  simp only [Result.andThen_ok]
  cases vs with
  | nil => rfl
  | cons v vs =>
    cases vs with
    | nil => rfl
    | cons v' vs => simp [packV]

section
variable {V : Env} {A : Start} {w : World} {μ : Mu} {φ : Fr} {C : Cx} {a : Act} {g : Nat → Value} {x : X} {l : List (Option Nat)} {PA : Nat → Nat → Prop}

theorem exF_ok (hPA : ∀ i b, C.PA i b → PA i b) {ps ps' : List Pv} (hf : exF l ps = some ps') {b : Nat} (hb : okB C ps b) : okB (exitC C l PA) ps' b := by
  unfold exF at hf
  split at hf
  · cases hf
  · rename_i hn
    cases hf
    rcases hb with hb | ⟨p, hp, hb⟩
    · exact .inl (.inl hb)
    · cases p with
      | arg i => exact .inr ⟨.arg i, by simp [hp], hPA i b hb⟩
      | lab q =>
        obtain ⟨o, ho, hq⟩ := hb
        refine .inl (.inr ⟨o, ho, ?_⟩)
        cases q with
        | nil => exfalso; apply hn; rw [List.any_eq_true]; exact ⟨.lab [], hp, rfl⟩
        | cons s q =>
          have hs : o.p.s = s := by
            obtain ⟨t, ht⟩ := hq
            unfold Pl.lab at ht
            simp at ht
            exact ht.1.symm
          cases e : idxS l o.p.s 0 with
          | none => rfl
          | some k =>
            exfalso; apply hn
            rw [List.any_eq_true]
            exact ⟨.lab (s :: q), hp, by simp [← hs, e]⟩

theorem exitC_own {b k s off c z : Nat} {q : List (Nat × Nat)} (hi : idxS l s 0 = some k) (h : C.own b = some ⟨⟨s, q⟩, off, c, z⟩) : (exitC C l PA).own b = some ⟨⟨k, q⟩, off, c, z⟩ := by
  simp [exitC, h, hi]

theorem exit_claim (hPA : ∀ i b, C.PA i b → PA i b) {s k : Nat} {v : Value} {sm : SM} {φ : Fr} {tm : Nat → Value} (h : ClaimX w C φ tm s x v sm) (hr : sm.resOk = true) (hs : sm.noOwn = true ∨ idxS l s 0 = some k) :
    ClaimX w (exitC C l PA) (fun _ => .u) (fun _ => undef) k x v (sm.map (exF l)) := by
  refine h.keepG (exF l) ?_ (fun ps ps' hf b hb => ⟨exF_ok hPA hf hb, rfl⟩) (fun i b hb => ⟨hPA i b hb, rfl⟩) (fun b hb => ⟨.inl hb, rfl⟩) ?_
  · rcases hs with hs | hs
    · exact .inl hs
    · exact .inr fun b q off c z hb => ⟨exitC_own hs hb, rfl⟩
  · cases sm with
    | c m og => cases og <;> first | trivial | cases hr
    | agg m og => cases og <;> first | trivial | cases hr
    | box m => trivial
    | _ => cases hr

theorem u_res {k : Nat} {v : Value} : ClaimX w (exitC C l PA) (fun _ => .u) (fun _ => undef) k x v (SM.map (exF l) .u) := trivial

/-- One result. -/
theorem result_one (hPA : ∀ i b, C.PA i b → PA i b) (hn : (l.filterMap _root_.id).Nodup) (h : St A w μ φ (tmO a.tmps g) C) {r : ResultVar} (hsm : (match r with | .tmp t => Nat.blt t 1000 | .cell t _ => Nat.blt t 1000) = true) (hx : resX V.τ φ r = some x) {k : Nat} (hk : l[k]? = some (srcS μ r))
    (hu : (match exitR V.τ μ r with | .u => false | _ => true) = true) :
    ∃ v, (resRun a.tmps r).run V.P w = .ok v w ∧ ClaimX w (exitC C l PA) (fun _ => .u) (fun _ => undef) k x v ((exitR V.τ μ r).map (exF l)) := by
  cases r with
  | tmp t =>
    simp only [Nat.blt_eq] at hsm
    have htm : tmO a.tmps g t = a.tmps.getD t undef := by simp [tmO, hsm]
    refine ⟨a.tmps.getD t undef, rfl, ?_⟩
    have hcl := (h.slot t).resolve_left (by intro e; simp [resX, e] at hx)
    unfold Claim at hcl
    rw [htm] at hcl
    simp only [exitR] at hu ⊢
    simp only [srcS] at hk
    generalize hmt : μ.get t = mt at hcl hk hu
    cases mt with
    | c m og =>
      have hi := idxS_at l t 0 k hn hk
      rw [Nat.zero_add] at hi
      obtain ⟨d, o, e1, e2, _⟩ := hcl
      simp only [resX, e1, Option.some.injEq] at hx
      subst hx
      exact exit_claim (sm := .c m .no) (φ := φ) (tm := tmO a.tmps g) hPA ⟨d, none, rfl, e2, fun _ => rfl⟩ rfl (.inr hi)
    | agg ms og =>
      have hi := idxS_at l t 0 k hn hk
      rw [Nat.zero_add] at hi
      obtain ⟨ds, o, vs, e1, e2, e3, e4, e5, _⟩ := hcl
      simp only [resX, e1, Option.some.injEq] at hx
      subst hx
      exact exit_claim (sm := .agg ms .no) (φ := φ) (tm := tmO a.tmps g) hPA ⟨ds, none, vs, rfl, e2, e3, e4, e5, rfl⟩ rfl (.inr hi)
    | box ms =>
      have hi := idxS_at l t 0 k hn hk
      rw [Nat.zero_add] at hi
      have hcl' := hcl
      obtain ⟨ds, b, off, arr, e1, _⟩ := hcl
      simp only [resX, e1, Option.some.injEq] at hx
      subst hx
      rw [e1] at hcl'
      exact exit_claim (sm := .box ms) (φ := φ) (tm := tmO a.tmps g) hPA hcl' rfl (.inr hi)
    | pt s cs =>
      match cs, hk, hu with
      | [0], hk, hu =>
        have hi := idxS_at l s 0 k hn hk
        rw [Nat.zero_add] at hi
        obtain ⟨p, e1, e2, e3, e4⟩ := hcl
        simp only [resX, e1] at hx
        split at hx
        · rename_i hq; cases hq
        · rename_i hq; cases hq
        · rename_i s' hq
          cases hq
          simp only at e2
          subst e2
          split at hx
          · rename_i ds hds
            cases hx
            simp only at hu ⊢
            have hbox := (h.slot s').resolve_left (by rw [hds]; simp)
            unfold Claim at hbox
            generalize hms : μ.get s' = sm' at hbox hu
            cases sm' with
            | box ms =>
              have hbox' := hbox
              obtain ⟨ds', b, off, arr, q1, q2, q3⟩ := hbox
              obtain ⟨st, i, c, b', off', cap', z', p1, p2, p3⟩ := e4
              have hst : st = [] ∧ i = 0 ∧ c = 0 := by
                cases st with
                | nil => simp at p1; exact ⟨rfl, p1.1.symm, p1.2.symm⟩
                | cons y ys => simp at p1
              obtain ⟨rfl, rfl, rfl⟩ := hst
              have hbb := h.inj b' b _ _ p2 q3.own rfl
              subst hbb
              rw [q3.own] at p2
              simp only [Option.some.injEq, Ow.mk.injEq] at p2
              have hv : a.tmps.getD t undef = tmO a.tmps g s' := by
                rw [p3, q2]; simp [p2.2.1]
              rw [hv]
              rw [hds] at hbox'
              exact exit_claim (sm := .box ms) (φ := φ) (tm := tmO a.tmps g) hPA hbox' rfl (.inr hi)
            | _ => cases hu
          · cases hx
        · rename_i hq; cases hq
        · cases hx
    | _ => cases hu
  | cell t ty =>
    simp only [Nat.blt_eq] at hsm
    have htm : tmO a.tmps g t = a.tmps.getD t undef := by simp [tmO, hsm]
    have hcl := (h.slot t).resolve_left (by intro e; simp [resX, e] at hx)
    unfold Claim at hcl
    rw [htm] at hcl
    simp only [exitR] at hu ⊢
    generalize hmt : μ.get t = mt at hcl hu
    cases mt with
    | box ms =>
      obtain ⟨ds, b, off, arr, e1, e2, e3⟩ := hcl
      simp only [resX, e1] at hx
      split at hx
      · rename_i ds' e hds he
        cases hds
        split at hx
        · rename_i hfit
          simp only [he] at hu ⊢
          have hsize := Env.zero_size (V := V) (t := ty) he
          have hl := fits_len hfit
          have hld : loadX V.τ φ ty ⟨t, [(0, 0)]⟩ = mkX e.agg ds (some ⟨t, [(0, 0)]⟩) := by
            unfold loadX
            rw [he]
            simp only [cellsAt, e1, rowsX, cellsIn, List.getElem?_cons_zero, Nat.zero_add, List.drop_zero]
            rw [if_pos (by omega)]
            simp only
            rw [List.take_of_length_le (by omega), if_pos hfit]
          obtain ⟨x', hx', hxx⟩ : ∃ x', mkX e.agg ds (some ⟨t, [(0, 0)]⟩) = some x' ∧ ((∃ d o, x' = .d d o ∧ x = .d d none) ∨ (∃ xs o, x' = .agg xs o ∧ x = .agg xs none)) := by
            unfold mkX at hx ⊢
            split at hx
            · rename_i ha; rw [if_pos ha]; cases hx; exact ⟨_, rfl, .inr ⟨_, _, rfl, rfl⟩⟩
            · rename_i ha
              rw [if_neg ha]
              split at hx
              · cases hx; exact ⟨_, rfl, .inl ⟨_, _, rfl, rfl⟩⟩
              · rename_i d hne
                cases hx
                cases d with
                | v y => exact (hne y rfl).elim
                | sl z rows => exact ⟨_, rfl, .inl ⟨_, _, rfl, rfl⟩⟩
              · cases hx
          by_cases hcond : (e.agg && ms.length != 1 && ms.length == e.zero.length && ms.all M.readable) = true
          · rw [if_pos hcond] at hu ⊢
            simp only [Bool.and_eq_true, beq_iff_eq, bne_iff_ne, ne_eq] at hcond
            obtain ⟨⟨⟨hag, h1⟩, hml⟩, hread⟩ := hcond
            have hi : idxS l t 0 = some k := by
              have h9 : l[k]? = some (some t) := by
                rw [hk]
                simp only [srcS, hmt]
                rw [if_neg (by simpa using h1)]
              have := idxS_at l t 0 k hn h9
              rwa [Nat.zero_add] at this
            rw [hag] at hx
            simp only [mkX, if_true, Option.some.injEq] at hx
            subst hx
            obtain ⟨tyb, hb⟩ := e3.heap
            have hsz0 := e3.size 0 ds rfl
            have hrun := load_agg (V := V) (w := w) he hag hb (off := off) (by omega)
            refine ⟨_, by simp only [resRun, e2, asAddr, Sem.run_bind, Sem.run_pure, Result.andThen_ok]; exact hrun, ?_⟩
            refine exit_claim (s := t) (φ := φ) (tm := tmO a.tmps g) hPA ?_ rfl (.inr hi)
            refine ⟨ds, none, _, rfl, rfl, ?_, ?_, ?_, rfl⟩
            · simp only [List.size_toArray, List.length_take, List.length_drop, Array.length_toList]; omega
            · rw [flatL_len (by omega)]; omega
            · intro i j row d m g1 g2 g3
              cases i with
              | succ i => simp at g1
              | zero =>
                simp only [List.getElem?_cons_zero, Option.some.injEq] at g1
                subst g1
                obtain ⟨zc, m0, k1, k2, rfl⟩ := flatL_get g3
                have hj := (List.getElem?_eq_some_iff.1 g2).1
                have hr := e3.kids 0 j ds d m0 rfl g2 k2
                have hv : arr.getD (off + 0 * 0 + j) undef = (((arr.toList.drop off).take e.size).toArray).getD j undef := by
                  simp only [Array.getD_eq_getD_getElem?, List.getElem?_toArray, List.getElem?_take, List.getElem?_drop, Array.getElem?_toList]
                  rw [if_pos (by omega)]
                  simp
                simp only at hr
                rw [hv] at hr
                exact flat_rep (fits_at hfit k1 g2) hr (fun h => h) hr
          rw [if_neg hcond] at hu ⊢
          have hpt : PtOk C ⟨t, [(0, 0)]⟩ (a.tmps.getD t undef) := ⟨[], 0, 0, b, off, 0, 0, rfl, e3.own, by rw [e2]; simp⟩
          have fin : ∀ sm, loadM V.τ μ ty (.pt t [0]) = some sm → ∃ u, (resRun a.tmps (.cell t ty)).run V.P w = .ok u w ∧ sm.noOwn = true ∧ ∀ s, ClaimX w C φ (tmO a.tmps g) s x' u sm := by
            intro sm hsm'
            obtain ⟨ad, u, h1, h2, h3, h4⟩ := load_pt h he hpt (by rw [hld]; exact hx') hsm'
            refine ⟨u, ?_, h3, h4⟩
            simp only [resRun, h1, asAddr, Sem.run_bind, Sem.run_pure, Result.andThen_ok, h2]
          generalize hlm : loadM V.τ μ ty (.pt t [0]) = lm at hu fin
          cases lm with
          | none => cases hu
          | some sm =>
            obtain ⟨u, h1, h2, h3⟩ := fin sm rfl
            cases sm with
            | c m og =>
              refine ⟨u, h1, ?_⟩
              obtain ⟨d, o, q1, q2, _⟩ := h3 0
              rcases hxx with ⟨d', o', r1, r2⟩ | ⟨xs, o', r1, r2⟩
              · rw [r1] at q1; cases q1
                exact exit_claim (s := 0) (sm := .c m .no) (φ := φ) (tm := tmO a.tmps g) hPA ⟨_, none, r2, q2, fun _ => rfl⟩ rfl (.inl h2)
              · rw [r1] at q1; cases q1
            | agg ms og =>
              refine ⟨u, h1, ?_⟩
              obtain ⟨ds', o, vs, q1, q2, q3, q4, q5, _⟩ := h3 0
              rcases hxx with ⟨d', o', r1, r2⟩ | ⟨xs, o', r1, r2⟩
              · rw [r1] at q1; cases q1
              · rw [r1] at q1; cases q1
                exact exit_claim (s := 0) (sm := .agg ms .no) (φ := φ) (tm := tmO a.tmps g) hPA ⟨_, none, vs, r2, q2, q3, q4, q5, rfl⟩ rfl (.inl h2)
            | _ => cases hu
        · cases hx
      · cases hx
    | _ => cases hu
end
end Go.Ev

/- A function that is checked does what is evaluated. -/
namespace Go.Ev

def nonU : SM → Bool
  | .u => false
  | _ => true

def okRes (τ : List TE) (μ : Mu) (l : List (Option Nat)) : List ResultVar → List SM → Bool
  | [], [] => true
  | r :: rs, sm :: sms => (match r with | .tmp t => Nat.blt t 1000 | .cell t _ => Nat.blt t 1000) && (match exitR τ μ r with | .u => false | _ => true) && leSX ((exitR τ μ r).map (exF l)) sm && okRes τ μ l rs sms
  | _, _ => false

def outB (τ : List TE) (rs : List ResultVar) (res : List SM) (μ : Mu) : Bool := nodupB ((rs.map (srcS μ)).filterMap _root_.id) && okRes τ μ (rs.map (srcS μ)) rs res

def allO (p : Mu → Bool) : Option Mu → Bool
  | none => true
  | some μ => p μ

/-- The check of a function. -/
def chkF (X : Chk) (fn : Func) (c : Code) (sg : Sig) : Bool :=
  sg.pms.all quietB && sg.tys.length == sg.pms.length && Nat.ble sg.pms.length X.n && fn.ntmps == X.n && Nat.ble X.n 1000 &&
  (match chkC X c (entry X.τ sg.pms sg.tys) with
  | some o => allO (outB X.τ fn.results.toList sg.res) o.n && allO (outB X.τ fn.results.toList sg.res) o.r
  | none => false)

def outM (m : M) (rs : List ResultVar) (μ : Mu) : Bool := (match μ.get 0 with
  | .c m' _ => leS (m'.map (exF [some 0])) m
  | _ => false) && (match rs with
  | [.tmp t] => Nat.blt t 1000 && (match μ.get t with
    | .c mr _ => mr.noOwn && leS (mr.map (exF [some 0])) (.view [])
    | _ => false)
  | _ => false)

/-- The check of a function that writes what lies behind its first argument. -/
def chkFM (X : Chk) (fn : Func) (c : Code) (sg : Sig) : Bool := match mutOk sg with
  | some m => sg.tys.length == sg.pms.length && Nat.ble sg.pms.length X.n && fn.ntmps == X.n && Nat.ble X.n 1000 && X.cols.lo &&
    (match chkC X c (entry X.τ sg.pms sg.tys) with
    | some o => allO (outM m fn.results.toList) o.n && allO (outM m fn.results.toList) o.r
    | none => false)
  | none => false

def outP (τ : List TE) (ms' : List M) (rs : List ResultVar) (res : List SM) (μ : Mu) : Bool :=
  nodupB ((some 0 :: rs.map (srcS μ)).filterMap _root_.id) && okRes τ μ (some 0 :: rs.map (srcS μ)) rs res && (match μ.get 0 with
  | .box ms => leSL (mapL (exF (some 0 :: rs.map (srcS μ))) ms) ms'
  | _ => false)

/-- The check of a function that writes what its first argument points to. -/
def chkFP (X : Chk) (fn : Func) (c : Code) (sg : Sig) : Bool := match ioOk sg with
  | some (_, .box ms', _) => sg.tys.length == sg.pms.length && Nat.ble sg.pms.length X.n && fn.ntmps == X.n && Nat.ble X.n 1000 && X.cols.lo &&
    (match chkC X c (entry X.τ sg.pms sg.tys) with
    | some o => allO (outP X.τ ms' fn.results.toList sg.res) o.n && allO (outP X.τ ms' fn.results.toList sg.res) o.r
    | none => false)
  | _ => false

section
variable {V : Env} {A : Start} {w : World} {μ : Mu} {φ : Fr} {C : Cx} {a : Act} {g : Nat → Value}

theorem results_all {l : List (Option Nat)} {PA : Nat → Nat → Prop} (hPA : ∀ i b, C.PA i b → PA i b) (hn : (l.filterMap _root_.id).Nodup) (h : St A w μ φ (tmO a.tmps g) C) : ∀ (rs : List ResultVar) (sms : List SM) (xs : List X) (k : Nat), resesX V.τ φ rs = some xs → okRes V.τ μ l rs sms = true →
    (∀ j r, rs[j]? = some r → l[k + j]? = some (srcS μ r)) → ∃ vs, (rs.mapM (resRun a.tmps)).run V.P w = .ok vs w ∧ vs.length = xs.length ∧ sms.length = xs.length ∧
      ∀ (j : Nat) (x : X) (v : Value) (sm : SM), xs[j]? = some x → vs[j]? = some v → sms[j]? = some sm → ClaimX w (exitC C l PA) (fun _ => .u) (fun _ => undef) (k + j) x v sm
  | [], [], xs, k, hx, _, _ => by
    simp only [resesX, Option.some.injEq] at hx
    subst hx
    exact ⟨[], by simp, rfl, rfl, by simp⟩
  | [], _ :: _, _, _, _, h, _ => by cases h
  | _ :: _, [], _, _, _, h, _ => by cases h
  | r :: rs, sm :: sms, xs, k, hx, hok, hl => by
    simp only [resesX] at hx
    split at hx
    · rename_i x xs' hx1 hx2
      cases hx
      simp only [okRes, Bool.and_eq_true] at hok
      obtain ⟨⟨⟨h1, h2⟩, h3⟩, h4⟩ := hok
      obtain ⟨v, hv1, hv2⟩ := result_one (x := x) hPA hn h h1 hx1 (k := k) (hl 0 r rfl) h2
      obtain ⟨vs, p1, p2, p3, p4⟩ := results_all hPA hn h rs sms xs' (k + 1) hx2 h4 (fun j r' hr => by
        have := hl (j + 1) r' hr
        rw [show k + 1 + j = k + (j + 1) by omega]; exact this)
      refine ⟨v :: vs, ?_, by simp [p2], by simp [p3], ?_⟩
      · rw [List.mapM_cons, Sem.run_bind, hv1, Result.andThen_ok, Sem.run_bind, p1]; rfl
      · intro j x' v' sm' q1 q2 q3
        cases j with
        | zero =>
          simp only [List.getElem?_cons_zero, Option.some.injEq] at q1 q2 q3
          subst q1; subst q2; subst q3
          exact hv2.weak h3
        | succ j =>
          simp only [List.getElem?_cons_succ] at q1 q2 q3
          have := p4 j x' v' sm' q1 q2 q3
          rw [show k + (j + 1) = k + 1 + j by omega]; exact this
    · cases hx

theorem entry_get (τ : List TE) : ∀ (pms : List PM) (tys : List Nat) (k s : Nat), Mu.get (((pms.zip tys).zipIdx k).map fun p => (p.2, entryM τ p.2 p.1.1 p.1.2)) s = if k ≤ s then (match pms[s - k]?, tys[s - k]? with
    | some pm, some ty => entryM τ s pm ty
    | _, _ => .u) else .u
  | [], tys, k, s => by simp [Mu.get]
  | pm :: pms, [], k, s => by
    simp only [List.zip_nil_right, List.zipIdx_nil, List.map_nil, Mu.get, List.lookup_nil, List.getElem?_nil]
    split
    · cases (pm :: pms)[s - k]? <;> rfl
    · rfl
  | pm :: pms, ty :: tys, k, s => by
    have ih := entry_get τ pms tys (k + 1) s
    simp only [List.zip_cons_cons, List.zipIdx_cons, List.map_cons]
    unfold Mu.get at ih ⊢
    rw [List.lookup_cons]
    by_cases e : s = k
    · subst e; simp
    · have e' : (s == k) = false := by simpa using e
      rw [e']
      simp only
      rw [ih]
      by_cases hlt : k ≤ s
      · rw [if_pos hlt, if_pos (by omega)]
        rw [show s - k = (s - (k + 1)) + 1 by omega]
        simp
      · rw [if_neg hlt, if_neg (by omega)]

/-- An argument, as the function sees it. -/
theorem entry_claim0 {G : Nat → Prop} {PA : Nat → Nat → Prop} {pm : PM} {ty i : Nat} {x : X} {v : Value} {φ : Fr} {tm : Nat → Value} {N : Nat → Option Ow} (hq : pm = .rd ∨ pm = .frz) (h : ArgOk V w (pm.okOf G (PA i)) ty x v) :
    ClaimX w ⟨N, G, PA⟩ φ tm i x v (entryM V.τ i pm ty) := by
  obtain ⟨e, he, hc⟩ := h
  have he' : TE.find V.τ ty = some e := he
  have hz := Env.zero_size he
  have flat : ∀ (zc : ZC) (d : D) (u : Value) (p : Pl) (m : M), zc.fit d = true → Rd w (pm.okOf G (PA i)) d u → Rep w ⟨N, G, PA⟩ p (.view m.prov.toList.flatten) d u → Rep w ⟨N, G, PA⟩ p (flatM zc (.view m.prov.toList.flatten)) d u := by
    intro zc d u p m hf hr hrep
    unfold flatM
    simp only
    split
    · rename_i hfl
      obtain ⟨y, rfl, hy⟩ := fit_flat hf hfl
      cases hr with
      | v h => exact .view (.v h)
    · exact hrep
  have rdv : ∀ (d : D) (u : Value) (p : Pl), pm = .rd → Rd w (pm.okOf G (PA i)) d u → Rep w ⟨N, G, PA⟩ p (.view [.arg i]) d u := by
    rintro d u p rfl hr
    refine .view (hr.mono fun b hb => ⟨?_, rfl⟩)
    rcases hb with hb | hb
    · exact .inl hb
    · exact .inr ⟨.arg i, by simp, hb⟩
  have fz : ∀ (d : D) (u : Value) (p : Pl), pm = .frz → Rd w (pm.okOf G (PA i)) d u → Rep w ⟨N, G, PA⟩ p (.view []) d u := by
    rintro d u p rfl hr
    exact .view (hr.mono fun b hb => ⟨.inl hb, rfl⟩)
  cases pm with
  | rd =>
    rcases hc with ⟨ha, d, rfl, hf, hr⟩ | ⟨ha, ds, vs, rfl, rfl, hsz, hf, hr⟩
    · have hl := fits_len hf
      obtain ⟨zc, hzc⟩ : ∃ zc, e.zero = [zc] := by
        match hq : e.zero, hl with
        | [zc], _ => exact ⟨zc, rfl⟩
      simp only [entryM, he', ha, Bool.false_eq_true, if_false, hzc]
      refine ⟨d, none, rfl, ?_, fun _ => rfl⟩
      exact flat zc d v _ (.view [.arg i]) (fits_at hf (j := 0) (by rw [hzc]; rfl) rfl) hr (rdv d v _ rfl hr)
    · simp only [entryM, he', ha, if_true]
      have hl := fits_len hf
      refine ⟨ds, none, vs, rfl, rfl, hsz, by rw [List.length_map]; exact hl, ?_, rfl⟩
      intro r j row d m q1 q2 q3
      cases r with
      | zero =>
        simp only [List.getElem?_cons_zero, Option.some.injEq] at q1
        subst q1
        rw [List.getElem?_map, Option.map_eq_some_iff] at q3
        obtain ⟨zc, hzc, rfl⟩ := q3
        exact flat zc d _ _ (.view [.arg i]) (fits_at hf hzc q2) (hr j d q2) (rdv d _ _ rfl (hr j d q2))
      | succ r => simp at q1
  | frz =>
    rcases hc with ⟨ha, d, rfl, hf, hr⟩ | ⟨ha, ds, vs, rfl, rfl, hsz, hf, hr⟩
    · simp only [entryM, he', ha, Bool.false_eq_true, if_false]
      exact ⟨d, none, rfl, fz d v _ rfl hr, fun _ => rfl⟩
    · simp only [entryM, he', ha, if_true]
      have hl := fits_len hf
      refine ⟨ds, none, vs, rfl, rfl, hsz, by rw [List.length_map]; exact hl, ?_, rfl⟩
      intro r j row d m q1 q2 q3
      cases r with
      | zero =>
        simp only [List.getElem?_cons_zero, Option.some.injEq] at q1
        subst q1
        rw [List.getElem?_map, Option.map_eq_some_iff] at q3
        obtain ⟨zc, hzc, rfl⟩ := q3
        exact fz d _ _ rfl (hr j d q2)
      | succ r => simp at q1
  | _ => rcases hq with h | h <;> cases h

theorem entry_claim {G : Nat → Prop} {PA : Nat → Nat → Prop} {pm : PM} {ty i : Nat} {x : X} {v : Value} {φ : Fr} {tm : Nat → Value} {N : Nat → Option Ow} (hq : quietB pm = true) (h : ArgP V w G (PA i) pm ty x v) :
    ClaimX w ⟨N, G, PA⟩ φ tm i x v (entryM V.τ i pm ty) := by
  cases pm with
  | rptr n =>
    obtain ⟨ds, rfl, hl, hr⟩ := h
    refine ⟨ds, rfl, hl, hr.mono fun b hb => ⟨?_, rfl⟩⟩
    rcases hb with hb | hb
    · exact .inl hb
    · exact .inr ⟨.arg i, by simp, hb⟩
  | fn fs =>
    obtain ⟨f, caps, vs, rfl, h1, h2, h3, h4⟩ := h
    refine ⟨f, caps, vs, rfl, h1, h2, h3, fun j ds hj => (h4 j ds hj).mono fun b hb => ⟨?_, rfl⟩⟩
    rcases hb with hb | hb
    · exact .inl hb
    · exact .inr ⟨.arg i, by simp, hb⟩
  | rd => exact entry_claim0 (.inl rfl) h
  | frz => exact entry_claim0 (.inr rfl) h
  | _ => cases hq
end

theorem does_mut {V : Env} {E : Prog} {Sg : Nat → Option Sig} (hτ : E.τ = V.τ) {k f : Nat} {sg : Sig} {fn : Func} {c : Code} {cols : Pol} (hpk : E.pks f = some (sg.pms.map PM.pk)) (h1 : V.P.funcs[f]? = some fn) (h2 : fn.body = some c)
    (hp : E.prims f = none) (hfn : E.funcs f = some fn) (hchk : chkFM ⟨V.τ, Sg, fn.ntmps, cols⟩ fn c sg = true) (ih : ∀ f sg, Sg f = some sg → E.pks f = some (sg.pms.map PM.pk) ∧ Does V f sg (evF E k f)) {m : M} (hm : mutOk sg = some m) :
    DoesM V f sg m (evF E (k + 1) f) := by
  intro w N0 G PA vals xs hT hvl hxl hG hPA hN hNi hNk hargs d0 v0 hx0 hv0 hrep0 rs outs hF
  obtain ⟨ps, cols0, hpms, hres0, hqu, hprov, hmo⟩ := mutOk_spec hm
  simp only [evF, hp, hfn, hpk, h2] at hF
  rw [if_pos (by rw [List.length_map]; exact hxl)] at hF
  unfold chkFM at hchk
  rw [hm] at hchk
  simp only [Bool.and_eq_true, beq_iff_eq, Nat.ble_eq] at hchk
  obtain ⟨⟨⟨⟨⟨c2, c3⟩, _⟩, c5⟩, clo⟩, c6⟩ := hchk
  split at c6
  · rename_i o ho
    simp only [Bool.and_eq_true] at c6
    obtain ⟨hon, hor⟩ := c6
    rw [hτ] at hF
    have hends : ∃ e φ', evC V.τ E.pks (evF E k) k c (args0 xs) = some (e, φ') ∧ (e = .normal ∨ e = .ret) ∧ resesX V.τ φ' fn.results.toList = some rs ∧ outsX φ' 0 (sg.pms.map PM.pk) = some outs := by
      split at hF
      · cases hF
      · rename_i e φ' hne heq
        split at hF
        · rename_i rs' os' q1 q2
          cases hF
          refine ⟨e, φ', heq, ?_, q1, q2⟩
          cases e with
          | normal => exact .inl rfl
          | ret => exact .inr rfl
          | exit id => exact (hne id rfl).elim
        · cases hF
      · cases hF
    obtain ⟨e, φ', hev, hee, hres, houts⟩ := hends
    refine calls_of_wp h1 h2 ?_
    let A : Start := { w := w, own0 := fun b => N0 b ≠ none, G := G, PA := PA, rg := [], hd := some v0 }
    let C0 : Cx := ⟨N0, G, PA⟩
    have hsz : (vals.toArray ++ Array.replicate (fn.ntmps - vals.toArray.size) undef).size = fn.ntmps := by
      simp
      have := c3
      omega
    have hval : ∀ i u, vals[i]? = some u → (vals.toArray ++ Array.replicate (fn.ntmps - vals.toArray.size) undef).getD i undef = u := by
      intro i u hu
      obtain ⟨hlt, e⟩ := List.getElem?_eq_some_iff.1 hu
      simp only [Array.getD]
      rw [dif_pos (by simp; omega)]
      show (vals.toArray ++ Array.replicate (fn.ntmps - vals.toArray.size) undef)[i]'(by simp; omega) = u
      rw [Array.getElem_append_left (by simpa using hlt)]
      simpa using e
    have hst : St A w (entry V.τ sg.pms sg.tys) (args0 xs) (tmO (vals.toArray ++ Array.replicate (fn.ntmps - vals.toArray.size) undef) fun _ => undef) C0 := by
      refine ⟨?_, hNi, ?_, fun b hb => ⟨hG b hb, .inl hb⟩, ?_, ?_, fun _ _ _ => rfl, Nat.le_refl _, .refl _, by simp [A], hNk⟩
      · intro s
        cases hx : xs[s]? with
        | none => left; simp [args0, List.getD_eq_getElem?_getD, hx]
        | some x =>
          right
          have hs : s < xs.length := (List.getElem?_eq_some_iff.1 hx).1
          have hv : vals[s]? = some vals[s] := List.getElem?_eq_getElem (by omega)
          have hpm : sg.pms[s]? = some sg.pms[s] := List.getElem?_eq_getElem (by omega)
          have hty : sg.tys[s]? = some sg.tys[s] := List.getElem?_eq_getElem (by omega)
          unfold Claim
          have e1 : args0 xs s = x := by simp [args0, List.getD_eq_getElem?_getD, hx]
          have e2 : tmO (vals.toArray ++ Array.replicate (fn.ntmps - vals.toArray.size) undef) (fun _ => undef) s = vals[s] := by
            have hn : fn.ntmps ≤ 1000 := c5
            have hc3 : sg.pms.length ≤ fn.ntmps := c3
            unfold tmO
            rw [if_pos (by omega)]
            exact hval s _ hv
          have e3 : (entry V.τ sg.pms sg.tys).get s = entryM V.τ s sg.pms[s] sg.tys[s] := by
            unfold entry
            rw [entry_get V.τ sg.pms sg.tys 0 s]
            simp [hpm, hty]
          rw [e1, e2, e3]
          cases s with
          | zero =>
            rw [hx0] at hx
            cases hx
            have hp0 : sg.pms[0]'(by omega) = .mut m := by
              have : sg.pms[0]? = some (.mut m) := by rw [hpms]; rfl
              rw [hpm] at this
              exact Option.some.inj this
            have hv00 : vals[0]'(by omega) = v0 := by
              rw [hv] at hv0
              exact Option.some.inj hv0
            rw [hp0, hv00]
            exact ⟨d0, none, rfl, hrep0, fun _ => rfl⟩
          | succ i =>
            have harg := hargs i x _ _ _ hx hv hpm hty
            refine entry_claim ?_ harg
            have : sg.pms[i + 1]? = ps[i]? := by rw [hpms]; rfl
            rw [hpm] at this
            rw [List.all_eq_true] at hqu
            exact hqu _ (List.mem_of_getElem? this.symm)
      · intro b o hb
        obtain ⟨g1, g2, g3, _⟩ := hN b o hb
        exact ⟨g1, g2, g3, .inl (by show N0 b ≠ none; rw [show N0 b = some o from hb]; simp)⟩
      · intro b hb
        refine ⟨hb, hG b hb, ?_⟩
        intro hn
        cases hq : N0 b with
        | none => exact hn hq
        | some o => exact (hN b o hq).2.1 hb
      · intro i b hb
        refine ⟨hPA i b hb, ?_, hb⟩
        intro hn
        cases hq : N0 b with
        | none => exact hn hq
        | some o => exact (hN b o hq).2.2.1 i hb
    have hpar0 : Par A ⟨vals.toArray ++ Array.replicate (fn.ntmps - vals.toArray.size) undef, []⟩ := by
      refine ⟨fun u hu => ?_, by simp [A]⟩
      simp only [A, Option.some.injEq] at hu
      subst hu
      exact hval 0 _ hv0
    have hfinal : ∀ a w', o.Holds e (fun μ' => Stands A fn.ntmps φ' μ' a w') → bodyPost V.P fn (fun e w' => ∃ r vr d' C', rs = [r] ∧ outs.head? = some (.d d' none) ∧ e = .returned (packV [vr]) ∧ DoneM w w' N0 G PA m v0 d' r vr C') e.ex a w' := by
      intro a w' hh
      have hout : ∃ μ', outM m fn.results.toList μ' = true ∧ Stands A fn.ntmps φ' μ' a w' := by
        rcases hee with rfl | rfl
        · obtain ⟨μ', q1, q2⟩ := hh
          rw [q1] at hon
          exact ⟨μ', hon, q2⟩
        · obtain ⟨μ', q1, q2⟩ := hh
          rw [q1] at hor
          exact ⟨μ', hor, q2⟩
      obtain ⟨μ', hout, C, g, h, hsz', hdf, hpar⟩ := hout
      unfold outM at hout
      rw [Bool.and_eq_true] at hout
      obtain ⟨ho1, ho2⟩ := hout
      have hv : a.tmps.getD 0 undef = v0 := hpar.1 v0 rfl
      have hCPA : ∀ i b, C.PA i b → PA i b := fun i b hb => (h.pa i b hb).2.2
      have hidx : ∀ s k, idxS [some 0] s 0 = some k → s = 0 := by
        intro s k hk
        simp only [idxS] at hk
        split at hk
        · rename_i e; simp at e; exact e.symm
        · cases hk
      -- what is owned behind the first argument
      rw [hpms] at houts
      simp only [List.map_cons, PM.pk, outsX, outX] at houts
      split at houts
      · rename_i x0 os0 q1 q2
        cases houts
        split at q1
        · rename_i dd oo hphi
          cases q1
          split at ho1
          · rename_i m1 og1 hmu
            have hcl := (h.slot 0).resolve_left (by rw [hphi]; simp)
            unfold Claim at hcl
            rw [hmu, hphi] at hcl
            obtain ⟨d1, o1, e1, e2, _⟩ := hcl
            cases e1
            have htm0 : tmO a.tmps g 0 = v0 := by
              unfold tmO
              rw [if_pos (by omega)]
              exact hv
            rw [htm0] at e2
            have hrepo : Rep w' (exitC C [some 0] PA) ⟨0, []⟩ m dd v0 := by
              refine (e2.move ⟨0, []⟩ (exF [some 0]) ?_ (fun ps ps' hf b hb => ⟨exF_ok hCPA hf hb, rfl⟩)).leS ho1
              intro b q off c z hb
              have h5 := exitC_own (C := C) (l := [some 0]) (PA := PA) (k := 0) (s := 0) (q := q) (by simp [idxS]) (by simpa [Pl.ext] using hb)
              exact ⟨by simpa [Pl.ext] using h5, rfl⟩
            split at ho2
            · rename_i t hrl
              rw [Bool.and_eq_true] at ho2
              obtain ⟨ht, ho2⟩ := ho2
              split at ho2
              · rename_i mr ogr hmr
                rw [Bool.and_eq_true] at ho2
                rw [hrl] at hres
                simp only [resesX] at hres
                split at hres
                · rename_i r rs' hr hrs'
                  cases hrs'
                  cases hres
                  have htu : φ' t ≠ .u := by intro e; simp [resX, e] at hr
                  have hcl2 := (h.slot t).resolve_left htu
                  unfold Claim at hcl2
                  rw [hmr] at hcl2
                  obtain ⟨d2, o2, f1, f2, _⟩ := hcl2
                  rw [resX, f1] at hr
                  simp only [Option.some.injEq] at hr
                  subst hr
                  have htmt : tmO a.tmps g t = a.tmps.getD t undef := by
                    have : t < 1000 := by simpa [Nat.blt_eq] using ht
                    simp [tmO, this]
                  rw [htmt] at f2
                  have hresc : ClaimX w' (exitC C [some 0] PA) (fun _ => .u) (fun _ => undef) 1 (.d d2 none) (a.tmps.getD t undef) (.c (.view []) .no) := by
                    refine ⟨d2, none, rfl, ?_, fun _ => rfl⟩
                    exact ((f2.moveV (w' := w') (C' := exitC C [some 0] PA) (p' := ⟨1, []⟩) ho2.1 (exF [some 0]) (fun ps ps' hf b hb => ⟨exF_ok hCPA hf hb, rfl⟩)).leS ho2.2)
                  have hrun := results_run (P := V.P) (w := w') (tmps := a.tmps) (fn := fn) (vs := [a.tmps.getD t undef]) (by rw [hrl]; rfl)
                  have hdone : DoneM w w' N0 G PA m v0 dd (.d d2 none) (a.tmps.getD t undef) (exitC C [some 0] PA) := by
                    refine ⟨h.size, fun b hb hn => h.old b hb (fun hq => hq hn), h.calm, ?_, ?_, ?_, fun b hb => .inl (h.ag b hb).1, exit_own h.oko, hresc, hrepo⟩
                    · intro b o' ho'
                      simp only [exitC] at ho'
                      split at ho'
                      · rename_i o1 ho1'
                        split at ho'
                        · rename_i kk hkk
                          cases ho'
                          obtain ⟨p1, p2, p3, p4⟩ := h.own b o1 ho1'
                          obtain ⟨_, hat⟩ := idxS_ge _ _ _ _ hkk
                          refine ⟨p4, p1, ?_, ?_⟩
                          · rintro (hg | ⟨o2, ho2', hi2⟩)
                            · exact p2 hg
                            · rw [ho1'] at ho2'; cases ho2'; rw [hkk] at hi2; cases hi2
                          · have := (List.getElem?_eq_some_iff.1 hat).1
                            simp only [List.length_cons, List.length_nil] at this
                            simp only
                            omega
                        · cases ho'
                      · cases ho'
                    · intro b b' o1 o2 q1 q2 e
                      simp only [exitC] at q1 q2
                      split at q1
                      · rename_i p1 hp1
                        split at q1
                        · rename_i k1 hk1
                          cases q1
                          split at q2
                          · rename_i p2 hp2
                            split at q2
                            · rename_i k2 hk2
                              cases q2
                              simp only [Pl.mk.injEq] at e
                              refine h.inj b b' p1 p2 hp1 hp2 ?_
                              have s1 := hidx _ _ hk1
                              have s2 := hidx _ _ hk2
                              cases hq1 : p1.p; cases hq2 : p2.p
                              rw [hq1] at s1 e; rw [hq2] at s2 e
                              simp only at s1 s2 e
                              rw [s1, s2, e.2]
                            · cases q2
                          · cases q2
                        · cases q1
                      · cases q1
                    · rintro b (hg | ⟨o1, ho1', _⟩)
                      · obtain ⟨p1, p2⟩ := h.frz b hg
                        rcases p2 with p2 | p2 | p2
                        · exact .inl p2
                        · exact .inr ⟨.inl p2, p1⟩
                        · exact .inr ⟨.inr p2, p1⟩
                      · obtain ⟨p1, p2, p3, p4⟩ := h.own b o1 ho1'
                        exact .inr ⟨p4, p1⟩
                  have hp : ∃ v, (results fn a.tmps).run V.P w' = .ok v w' ∧ ∃ r vr d' C', [X.d d2 none] = [r] ∧ (X.d dd none :: os0).head? = some (.d d' none) ∧ (Ending.returned v) = .returned (packV [vr]) ∧ DoneM w w' N0 G PA m v0 d' r vr C' :=
                    ⟨_, hrun, _, _, _, _, rfl, rfl, rfl, hdone⟩
                  rcases hee with rfl | rfl
                  · exact ⟨hdf, hp⟩
                  · exact ⟨hdf, hp⟩
                · cases hres
              · cases ho2
            · cases ho2
          · cases ho1
        · cases q1
      · cases houts
    exact code_wp (X := ⟨V.τ, Sg, fn.ntmps, cols⟩) (A := A) (S := E.pks) (F := evF E k) rfl (RgOk.nil rfl) rfl (fun _ => clo) c5 (fun f' sg' hf' => ⟨(ih f' sg' hf').1, (ih f' sg' hf').2.mono fun _ _ => tab_abv hT⟩) k c (entry V.τ sg.pms sg.tys) o (args0 xs) φ' e _ w _ ho hev ⟨C0, _, hst, hsz, rfl, hpar0⟩ hfinal
  · cases c6

theorem ioOk_spec {sg : Sig} {ms' : List M} {smi : SM} {n : Nat} (h : ioOk sg = some (smi, .box ms', n)) : ∃ ms ps, sg.pms = .ptr ms ms' :: ps ∧ smi = .box ms ∧ n = ms.length ∧ ps.all quietB = true ∧ sg.res.all SM.resOk = true ∧ ms.length = ms'.length ∧ 0 < ms.length := by
  cases hp : sg.pms with
  | nil => unfold ioOk at h; rw [hp] at h; cases h
  | cons p ps =>
    cases p with
    | ptr ms ms9 =>
      obtain ⟨h1, h2⟩ := ioOk_ptr hp h
      simp only [Prod.mk.injEq, SM.box.injEq] at h1
      obtain ⟨rfl, rfl, rfl⟩ := h1
      exact ⟨ms, ps, rfl, rfl, rfl, h2⟩
    | magg b ms =>
      obtain ⟨h1, _⟩ := ioOk_agg hp h
      simp at h1
    | _ => unfold ioOk at h; rw [hp] at h; cases h

/-- What such a signature looks like. -/
theorem ioOk_pms {sg : Sig} {q : SM × SM × Nat} (h : ioOk sg = some q) : (∃ ms ms' ps, sg.pms = .ptr ms ms' :: ps) ∨ ∃ b ms ps, sg.pms = .magg b ms :: ps := by
  cases hp : sg.pms with
  | nil => unfold ioOk at h; rw [hp] at h; cases h
  | cons p ps =>
    cases p with
    | ptr ms ms9 => exact .inl ⟨ms, ms9, ps, rfl⟩
    | magg b ms => exact .inr ⟨b, ms, ps, rfl⟩
    | _ => unfold ioOk at h; rw [hp] at h; cases h

theorem does_ptr {V : Env} {E : Prog} {Sg : Nat → Option Sig} (hτ : E.τ = V.τ) {k f : Nat} {sg : Sig} {fn : Func} {c : Code} {cols : Pol} (hpk : E.pks f = some (sg.pms.map PM.pk)) (h1 : V.P.funcs[f]? = some fn) (h2 : fn.body = some c)
    (hp : E.prims f = none) (hfn : E.funcs f = some fn) (hchk : chkFP ⟨V.τ, Sg, fn.ntmps, cols⟩ fn c sg = true) (ih : ∀ f sg, Sg f = some sg → E.pks f = some (sg.pms.map PM.pk) ∧ Does V f sg (evF E k f)) {smi smo : SM} {n : Nat} (hm : ioOk sg = some (smi, smo, n)) :
    DoesP V f sg smi smo n (evF E (k + 1) f) := by
  obtain ⟨ms', rfl⟩ : ∃ ms', smo = .box ms' := by
    unfold chkFP at hchk
    rw [hm] at hchk
    split at hchk
    · rename_i e; simp only [Option.some.injEq, Prod.mk.injEq] at e; exact ⟨_, e.2.1⟩
    · cases hchk
  obtain ⟨ms, ps, hpms, rfl, rfl, hqu, hres0, hlen, hn0⟩ := ioOk_spec hm
  intro w N0 G PA vals xs hT hvl hxl hG hPA hN hNi hNk hargs x0 v0 hx0 hv0 hcl0 rs outs hF
  simp only [evF, hp, hfn, hpk, h2] at hF
  rw [if_pos (by rw [List.length_map]; exact hxl)] at hF
  unfold chkFP at hchk
  rw [hm] at hchk
  simp only [Bool.and_eq_true, beq_iff_eq, Nat.ble_eq] at hchk
  obtain ⟨⟨⟨⟨⟨c2, c3⟩, _⟩, c5⟩, clo⟩, c6⟩ := hchk
  split at c6
  · rename_i o ho
    simp only [Bool.and_eq_true] at c6
    obtain ⟨hon, hor⟩ := c6
    rw [hτ] at hF
    have hends : ∃ e φ', evC V.τ E.pks (evF E k) k c (args0 xs) = some (e, φ') ∧ (e = .normal ∨ e = .ret) ∧ resesX V.τ φ' fn.results.toList = some rs ∧ outsX φ' 0 (sg.pms.map PM.pk) = some outs := by
      split at hF
      · cases hF
      · rename_i e φ' hne heq
        split at hF
        · rename_i rs' os' q1 q2
          cases hF
          refine ⟨e, φ', heq, ?_, q1, q2⟩
          cases e with
          | normal => exact .inl rfl
          | ret => exact .inr rfl
          | exit id => exact (hne id rfl).elim
        · cases hF
      · cases hF
    obtain ⟨e, φ', hev, hee, hres, houts⟩ := hends
    refine calls_of_wp h1 h2 ?_
    have hcl0' := hcl0
    obtain ⟨ds0, b0, off0, arr0, rfl, rfl, hnode0⟩ := hcl0
    obtain ⟨ty0, hty0⟩ := hnode0.heap
    have hdl0 := hnode0.len 0 ds0 rfl
    have hroom0 := hnode0.size 0 ds0 rfl
    let A : Start := { w := w, own0 := fun b => N0 b ≠ none, G := G, PA := PA, rg := [⟨0, b0, off0, ms.length⟩], hd := some (.pointer (some ⟨b0, off0, none⟩)) }
    have hrg : RgOk A := by
      intro r hr
      simp only [A, List.mem_singleton] at hr
      subst hr
      exact ⟨rfl, rfl⟩
    let C0 : Cx := ⟨N0, G, PA⟩
    have hsz : (vals.toArray ++ Array.replicate (fn.ntmps - vals.toArray.size) undef).size = fn.ntmps := by
      simp
      have := c3
      omega
    have hval : ∀ i u, vals[i]? = some u → (vals.toArray ++ Array.replicate (fn.ntmps - vals.toArray.size) undef).getD i undef = u := by
      intro i u hu
      obtain ⟨hlt, e⟩ := List.getElem?_eq_some_iff.1 hu
      simp only [Array.getD]
      rw [dif_pos (by simp; omega)]
      show (vals.toArray ++ Array.replicate (fn.ntmps - vals.toArray.size) undef)[i]'(by simp; omega) = u
      rw [Array.getElem_append_left (by simpa using hlt)]
      simpa using e
    have hst : St A w (entry V.τ sg.pms sg.tys) (args0 xs) (tmO (vals.toArray ++ Array.replicate (fn.ntmps - vals.toArray.size) undef) fun _ => undef) C0 := by
      refine ⟨?_, hNi, ?_, fun b hb => ⟨hG b hb, .inl hb⟩, ?_, ?_, fun _ _ _ => rfl, Nat.le_refl _, .refl _, ?_, hNk⟩
      · intro s
        cases hx : xs[s]? with
        | none => left; simp [args0, List.getD_eq_getElem?_getD, hx]
        | some x =>
          right
          have hs : s < xs.length := (List.getElem?_eq_some_iff.1 hx).1
          have hv : vals[s]? = some vals[s] := List.getElem?_eq_getElem (by omega)
          have hpm : sg.pms[s]? = some sg.pms[s] := List.getElem?_eq_getElem (by omega)
          have hty : sg.tys[s]? = some sg.tys[s] := List.getElem?_eq_getElem (by omega)
          unfold Claim
          have e1 : args0 xs s = x := by simp [args0, List.getD_eq_getElem?_getD, hx]
          have e2 : tmO (vals.toArray ++ Array.replicate (fn.ntmps - vals.toArray.size) undef) (fun _ => undef) s = vals[s] := by
            have hn : fn.ntmps ≤ 1000 := c5
            have hc3 : sg.pms.length ≤ fn.ntmps := c3
            unfold tmO
            rw [if_pos (by omega)]
            exact hval s _ hv
          have e3 : (entry V.τ sg.pms sg.tys).get s = entryM V.τ s sg.pms[s] sg.tys[s] := by
            unfold entry
            rw [entry_get V.τ sg.pms sg.tys 0 s]
            simp [hpm, hty]
          rw [e1, e2, e3]
          cases s with
          | zero =>
            rw [hx0] at hx
            cases hx
            have hp0 : sg.pms[0]'(by omega) = .ptr ms ms' := by
              have : sg.pms[0]? = some (.ptr ms ms') := by rw [hpms]; rfl
              rw [hpm] at this
              exact Option.some.inj this
            have hv00 : vals[0]'(by omega) = .pointer (some ⟨b0, off0, none⟩) := by
              rw [hv] at hv0
              exact Option.some.inj hv0
            rw [hp0, hv00]
            exact hcl0'
          | succ i =>
            have harg := hargs i x _ _ _ hx hv hpm hty
            refine entry_claim ?_ harg
            have : sg.pms[i + 1]? = ps[i]? := by rw [hpms]; rfl
            rw [hpm] at this
            rw [List.all_eq_true] at hqu
            exact hqu _ (List.mem_of_getElem? this.symm)
      · intro b o hb
        obtain ⟨g1, g2, g3, _⟩ := hN b o hb
        exact ⟨g1, g2, g3, .inl (by show N0 b ≠ none; rw [show N0 b = some o from hb]; simp)⟩
      · intro b hb
        refine ⟨hb, hG b hb, ?_⟩
        intro hn
        cases hq : N0 b with
        | none => exact hn hq
        | some o => exact (hN b o hq).2.1 hb
      · intro i b hb
        refine ⟨hPA i b hb, ?_, hb⟩
        intro hn
        cases hq : N0 b with
        | none => exact hn hq
        | some o => exact (hN b o hq).2.2.1 i hb
      · intro r hr
        simp only [A, List.mem_singleton] at hr
        subst hr
        refine ⟨⟨arr0, ty0, arr0, hty0, hty0, rfl, fun _ _ => rfl⟩, fun o ho => ?_⟩
        have := hnode0.own
        rw [show C0.own = N0 from rfl] at ho
        rw [show (⟨N0, G, PA⟩ : Cx).own = N0 from rfl] at this
        rw [this] at ho
        cases ho
        exact ⟨rfl, ds0, by simp [args0, List.getD_eq_getElem?_getD, hx0], hdl0⟩
    have hpar0 : Par A ⟨vals.toArray ++ Array.replicate (fn.ntmps - vals.toArray.size) undef, []⟩ := by
      refine ⟨fun u hu => ?_, by simp [A]⟩
      simp only [A, Option.some.injEq] at hu
      subst hu
      exact hval 0 _ hv0
    have hfinal : ∀ a w', o.Holds e (fun μ' => Stands A fn.ntmps φ' μ' a w') → bodyPost V.P fn (fun e w' => ∃ vs xo C', outs.head? = some xo ∧ e = .returned (packV vs) ∧ DoneP w w' N0 G PA sg.res (.box ms') ms.length (.pointer (some ⟨b0, off0, none⟩)) xo rs vs C') e.ex a w' := by
      intro a w' hh
      have hout : ∃ μ', outP V.τ ms' fn.results.toList sg.res μ' = true ∧ Stands A fn.ntmps φ' μ' a w' := by
        rcases hee with rfl | rfl
        · obtain ⟨μ', q1, q2⟩ := hh
          rw [q1] at hon
          exact ⟨μ', hon, q2⟩
        · obtain ⟨μ', q1, q2⟩ := hh
          rw [q1] at hor
          exact ⟨μ', hor, q2⟩
      obtain ⟨μ', hout, C, g, h, hsz', hdf, hpar⟩ := hout
      unfold outP at hout
      simp only [Bool.and_eq_true] at hout
      obtain ⟨⟨hnd0, hokr⟩, ho1⟩ := hout
      have hnd := nodupB_spec hnd0
      have hv : a.tmps.getD 0 undef = .pointer (some ⟨b0, off0, none⟩) := hpar.1 _ rfl
      have hCPA : ∀ i b, C.PA i b → PA i b := fun i b hb => (h.pa i b hb).2.2
      obtain ⟨vs, r1, r2, r3, r4⟩ := results_all (PA := PA) hCPA hnd h fn.results.toList sg.res rs 1 hres hokr (by
        intro j r hr
        rw [show 1 + j = j + 1 by omega, List.getElem?_cons_succ, List.getElem?_map, hr]; rfl)
      have hlen2 : rs.length = fn.results.toList.length := by
        have key : ∀ (l : List ResultVar) (xs : List X), resesX V.τ φ' l = some xs → xs.length = l.length := by
          intro l
          induction l with
          | nil => intro xs h; simp only [resesX, Option.some.injEq] at h; subst h; rfl
          | cons r l ih =>
            intro xs h
            simp only [resesX] at h
            split at h
            · rename_i q1 q2; cases h; simp [ih _ q2]
            · cases h
        exact key _ _ hres
      have hrun := results_run r1
      rw [hpms] at houts
      simp only [List.map_cons, PM.pk, outsX, outX] at houts
      split at houts
      · rename_i xo os0 q1 q2
        cases houts
        split at q1
        · rename_i dd hphi
          cases q1
          split at ho1
          · rename_i m1 hmu
            have hcl := (h.slot 0).resolve_left (by rw [hphi]; simp)
            unfold Claim at hcl
            rw [hmu, hphi] at hcl
            have htm0 : tmO a.tmps g 0 = .pointer (some ⟨b0, off0, none⟩) := by
              unfold tmO
              rw [if_pos (by omega)]
              exact hv
            rw [htm0] at hcl
            have hcl2 := exit_claim (l := some 0 :: fn.results.toList.map (srcS μ')) (PA := PA) (s := 0) (k := 0) hCPA hcl rfl (.inr (by simp [idxS]))
            have hcl3 := hcl2.weak (b := .box ms') (by simpa [SM.map, leSX] using ho1)
            have hlbox := hcl3
            have hidx : ∀ s k, idxS (some 0 :: fn.results.toList.map (srcS μ')) s 0 = some k → k ≤ rs.length := by
              intro s k hk
              obtain ⟨_, hat⟩ := idxS_ge _ _ _ _ hk
              have := (List.getElem?_eq_some_iff.1 hat).1
              simp only [List.length_cons, List.length_map, Nat.sub_zero] at this
              omega
            have hdone : DoneP w w' N0 G PA sg.res (.box ms') ms.length (.pointer (some ⟨b0, off0, none⟩)) (.box dd) rs vs (exitC C (some 0 :: fn.results.toList.map (srcS μ')) PA) := by
              refine ⟨h.size, fun b hb hn => h.old b hb (fun hq => hq hn), h.calm, ?_, ?_, ?_, ?_, fun b hb => .inl (h.ag b hb).1, rfl, exit_own h.oko, r2, r3, ?_, hcl3⟩
              · intro b off e
                simp only [Value.pointer.injEq, Option.some.injEq, Addr.mk.injEq, and_true] at e
                obtain ⟨rfl, rfl⟩ := e
                exact (h.rng ⟨0, b0, off0, ms.length⟩ (by simp [A])).1
              · intro b o' ho'
                simp only [exitC] at ho'
                split at ho'
                · rename_i o1 ho1'
                  split at ho'
                  · rename_i kk hkk
                    cases ho'
                    obtain ⟨p1, p2, p3, p4⟩ := h.own b o1 ho1'
                    refine ⟨p4, p1, ?_, hidx _ _ hkk⟩
                    rintro (hg | ⟨o2, ho2', hi2⟩)
                    · exact p2 hg
                    · rw [ho1'] at ho2'; cases ho2'; rw [hkk] at hi2; cases hi2
                  · cases ho'
                · cases ho'
              · intro b b' o1 o2 q1 q2 e
                simp only [exitC] at q1 q2
                split at q1
                · rename_i p1 hp1
                  split at q1
                  · rename_i k1 hk1
                    cases q1
                    split at q2
                    · rename_i p2 hp2
                      split at q2
                      · rename_i k2 hk2
                        cases q2
                        simp only [Pl.mk.injEq] at e
                        obtain ⟨rfl, est⟩ := e
                        obtain ⟨_, a1⟩ := idxS_ge _ _ _ _ hk1
                        obtain ⟨_, a2⟩ := idxS_ge _ _ _ _ hk2
                        rw [a1] at a2
                        simp only [Option.some.injEq] at a2
                        refine h.inj b b' p1 p2 hp1 hp2 ?_
                        cases hq1 : p1.p; cases hq2 : p2.p
                        rw [hq1] at est a2; rw [hq2] at est a2
                        simp only at est a2
                        rw [est, a2]
                      · cases q2
                    · cases q2
                  · cases q1
                · cases q1
              · rintro b (hg | ⟨o1, ho1', _⟩)
                · obtain ⟨p1, p2⟩ := h.frz b hg
                  rcases p2 with p2 | p2 | p2
                  · exact .inl p2
                  · exact .inr ⟨.inl p2, p1⟩
                  · exact .inr ⟨.inr p2, p1⟩
                · obtain ⟨p1, p2, p3, p4⟩ := h.own b o1 ho1'
                  exact .inr ⟨p4, p1⟩
              · intro j x v sm q1 q2 q3
                have := r4 j x v sm q1 q2 q3
                rwa [show 1 + j = j + 1 by omega] at this
            have hp : ∃ v, (results fn a.tmps).run V.P w' = .ok v w' ∧ ∃ vs xo C', (X.box dd :: os0).head? = some xo ∧ (Ending.returned v) = .returned (packV vs) ∧ DoneP w w' N0 G PA sg.res (.box ms') ms.length (.pointer (some ⟨b0, off0, none⟩)) xo rs vs C' :=
              ⟨_, hrun, vs, _, _, rfl, rfl, hdone⟩
            rcases hee with rfl | rfl
            · exact ⟨hdf, hp⟩
            · exact ⟨hdf, hp⟩
          · cases ho1
        · cases q1
      · cases houts
    exact code_wp (X := ⟨V.τ, Sg, fn.ntmps, cols⟩) (A := A) (S := E.pks) (F := evF E k) rfl hrg rfl (fun _ => clo) c5 (fun f' sg' hf' => ⟨(ih f' sg' hf').1, (ih f' sg' hf').2.mono fun _ _ => tab_abv hT⟩) k c (entry V.τ sg.pms sg.tys) o (args0 xs) φ' e _ w _ ho hev ⟨C0, _, hst, hsz, rfl, hpar0⟩ hfinal
  · cases c6
end Go.Ev

/- Functions that are gone through by hand: how they end; a copy of a slice that may be nil. -/
namespace Go.Ev

theorem quiet_final {V : Env} {w w' : World} {G : Nat → Prop} {PA : Nat → Nat → Prop} {fn : Func} {sg : Sig} {φ' : Fr} {μ' : Mu} {a : Act} {rs : List X} (hout : outB V.τ fn.results.toList sg.res μ' = true)
    (hst : Stands ⟨w, fun _ => False, G, PA, [], none, []⟩ fn.ntmps φ' μ' a w') (hres : resesX V.τ φ' fn.results.toList = some rs) :
    a.defers = [] ∧ ∃ v, (results fn a.tmps).run V.P w' = .ok v w' ∧ ∃ vs C', (Ending.returned v) = .returned (packV vs) ∧ Done w w' G PA sg rs vs C' := by
  obtain ⟨C, g, h, hsz', hdf, _⟩ := hst
  unfold outB at hout
  simp only [Bool.and_eq_true] at hout
  have hnd := nodupB_spec hout.1
  have hCPA : ∀ i b, C.PA i b → PA i b := fun i b hb => (h.pa i b hb).2.2
  obtain ⟨vs, r1, r2, r3, r4⟩ := results_all (PA := PA) hCPA hnd h fn.results.toList sg.res rs 0 hres hout.2 (by
    intro j r hr
    rw [Nat.zero_add, List.getElem?_map, hr]; rfl)
  have hlen : rs.length = fn.results.toList.length := by
    have key : ∀ (l : List ResultVar) (xs : List X), resesX V.τ φ' l = some xs → xs.length = l.length := by
      intro l
      induction l with
      | nil => intro xs h; simp only [resesX, Option.some.injEq] at h; subst h; rfl
      | cons r l ih =>
        intro xs h
        simp only [resesX] at h
        split at h
        · rename_i q1 q2; cases h; simp [ih _ q2]
        · cases h
    exact key _ _ hres
  have hrun := results_run r1
  have hdone : Done w w' G PA sg rs vs (exitC C (fn.results.toList.map (srcS μ')) PA) := by
    refine ⟨⟨h.size, fun b hb => h.old b hb (fun h => h), h.calm⟩, ?_, ?_, ?_, ?_, rfl, exit_own h.oko, r2, r3, ?_⟩
    · intro b o' ho'
      simp only [exitC] at ho'
      split at ho'
      · rename_i o1 ho1
        split at ho'
        · rename_i kk hkk
          cases ho'
          obtain ⟨p1, p2, p3, p4⟩ := h.own b o1 ho1
          obtain ⟨_, hat⟩ := idxS_ge _ _ _ _ hkk
          refine ⟨p4.resolve_left (fun h => h), p1, ?_, ?_⟩
          · rintro (hg | ⟨o2, ho2, hi2⟩)
            · exact p2 hg
            · rw [ho1] at ho2; cases ho2; rw [hkk] at hi2; cases hi2
          · have := (List.getElem?_eq_some_iff.1 hat).1
            simp only [List.length_map, Nat.sub_zero] at this
            simp only
            omega
        · cases ho'
      · cases ho'
    · intro b b' o1 o2 q1 q2 e
      simp only [exitC] at q1 q2
      split at q1
      · rename_i p1 hp1
        split at q1
        · rename_i k1 hk1
          cases q1
          split at q2
          · rename_i p2 hp2
            split at q2
            · rename_i k2 hk2
              cases q2
              simp only [Pl.mk.injEq] at e
              obtain ⟨rfl, est⟩ := e
              obtain ⟨_, a1⟩ := idxS_ge _ _ _ _ hk1
              obtain ⟨_, a2⟩ := idxS_ge _ _ _ _ hk2
              rw [a1] at a2
              simp only [Option.some.injEq] at a2
              refine h.inj b b' p1 p2 hp1 hp2 ?_
              cases hq1 : p1.p; cases hq2 : p2.p
              rw [hq1] at est a2; rw [hq2] at est a2
              simp only at est a2
              rw [est, a2]
            · cases q2
          · cases q2
        · cases q1
      · cases q1
    · rintro b (hg | ⟨o1, ho1, _⟩)
      · obtain ⟨p1, p2⟩ := h.frz b hg
        rcases p2 with p2 | p2 | p2
        · exact .inl p2
        · exact p2.elim
        · exact .inr ⟨p2, p1⟩
      · obtain ⟨p1, p2, p3, p4⟩ := h.own b o1 ho1
        exact .inr ⟨p4.resolve_left (fun h => h), p1⟩
    · intro b hb
      exact .inl (h.ag b hb).1
    · intro j x v sm q1 q2 q3
      have := r4 j x v sm q1 q2 q3
      rwa [Nat.zero_add] at this
  have hp : ∃ v, (results fn a.tmps).run V.P w' = .ok v w' ∧ ∃ vs C', (Ending.returned v) = .returned (packV vs) ∧ Done w w' G PA sg rs vs C' := ⟨_, hrun, vs, _, rfl, hdone⟩
  exact ⟨hdf, hp⟩

/-- What a copy of a slice answers. -/
def cloneF (z yb : Nat) (zc : List ZC) (xs : List X) : Option (List X × List X) := match xs with
  | [.d (.sl z' rows) none] => if z' = z ∧ rows.length * yb ≤ memRoom ∧ rows.length ≤ strRoom ∧ rows.all (fits zc) = true then some ([.d (.sl z rows) none], [.u]) else none
  | _ => none

def cloneX (z : Nat) (rows : List (List D)) : Fr := fun s => if s = 0 then .d (.sl z rows) none else .u
def cloneM : Mu := [(0, .c (.view [.arg 0]) .no)]

theorem list_value {P : Program} {ops : Array Oper} {Q : Exit → Act → World → Prop} {o : Oper} {rest : List Oper} {a : Act} {w : World} {v : Value} (hr : (execOp a.eval o).run P w = .ok (.value v) w) (hg : o.guard = none) (hK : wpList P ops Q rest (a.put o.dst v) w) : wpList P ops Q (o :: rest) a w := by
  unfold wpList
  rw [if_pos (by simp [Region.wanted, hg])]
  left
  unfold Oper.wp
  rw [hr, Oper.upon_value]
  exact hK

theorem does_clone {V : Env} {f : Nat} {fn : Func} {i0 i1 i2 : Nat} {o0 o1 o2 o3 : Oper} {REST : Code} {ty et : Nat} {e : TE} {z yb : Nat} {zc : List ZC} {cols : List M} {X : Chk} (h1 : V.P.funcs[f]? = some fn)
    (h2 : fn.body = some (.seq (.region i0 #[o0] false) (.seq (.seq (.region i1 #[o1, o2] false) (.cond (.tmp 4) (.seq (.region i2 #[o3] false) .ret) .skip)) REST))) (hname : fn.name ≠ "runtime.NumGoroutine")
    (q0 : o0.op = .assign (.const (.slice none 0 0)) ∧ o0.dst = some 2 ∧ o0.guard = none) (q1 : o1.op = .move (.tmp 0) ∧ o1.dst = some 3 ∧ o1.guard = none)
    (q2 : (∃ t', o2.op = .binOp .eql ty (.tmp 3) (.const (.slice none 0 0)) t') ∧ o2.dst = some 4 ∧ o2.guard = none) (q3 : o3.op = .assign (.const (.slice none 0 0)) ∧ o3.dst = some 2 ∧ o3.guard = none)
    (hn : fn.ntmps = 8) (hres : fn.results = #[.tmp 2]) (he : V.get ty = some e) (hagg : e.agg = false) (hz : e.zero = [.zl z]) (hund : V.P.underlying ty = some (.slice et))
    (hτ : X.τ = V.τ) (hXn : X.n = 8) (hXs : ∀ f, X.Sg f = none) (hchk : (match chkC X REST cloneM with | some o => allO (outB V.τ [.tmp 2] [.c (.own cols) .no]) o.r | none => false) = true)
    (hev : ∀ rows, rows.length * yb ≤ memRoom ∧ rows.length ≤ strRoom ∧ rows.all (fits zc) = true → ∃ S F k φ', evC V.τ S F k REST (cloneX z rows) = some (.ret, φ') ∧ resesX V.τ φ' [.tmp 2] = some [.d (.sl z rows) none]) :
    Does V f { pms := [.rd], tys := [ty], res := [.c (.own cols) .no] } (cloneF z yb zc) := by
  refine ⟨⟨fn, _, h1, h2, hname⟩, fun _ => ?_, fun m hm => by simp [mutOk] at hm, fun smi smo n hm => by simp [ioOk] at hm⟩
  obtain ⟨oR, hchk, hout⟩ : ∃ oR, chkC X REST cloneM = some oR ∧ allO (outB V.τ [.tmp 2] [.c (.own cols) .no]) oR.r = true := by
    split at hchk
    · rename_i o ho; exact ⟨o, ho, hchk⟩
    · cases hchk
  intro w G PA vals xs hT hvl hxl hG hPA hargs rs outs hF
  -- the argument
  obtain ⟨rows, rfl, hroom, rfl, rfl⟩ : ∃ rows, xs = [.d (.sl z rows) none] ∧ (rows.length * yb ≤ memRoom ∧ rows.length ≤ strRoom ∧ rows.all (fits zc) = true) ∧ rs = [.d (.sl z rows) none] ∧ outs = [.u] := by
    unfold cloneF at hF
    split at hF
    · rename_i z' rows
      split at hF
      · rename_i hc
        obtain ⟨rfl, hc1, hc2⟩ := hc
        simp only [Option.some.injEq, Prod.mk.injEq] at hF
        exact ⟨rows, rfl, ⟨hc1, hc2⟩, hF.1.symm, hF.2.symm⟩
      · cases hF
    · cases hF
  obtain ⟨v, rfl⟩ : ∃ v, vals = [v] := by
    match vals, hvl with
    | [v], _ => exact ⟨v, rfl⟩
  have harg := hargs 0 _ v .rd ty rfl rfl rfl rfl
  obtain ⟨e', he', hcase⟩ := harg
  rw [he] at he'
  cases he'
  have hrd : Rd w (fun b => G b ∨ PA 0 b) (.sl z rows) v := by
    rcases hcase with ⟨_, d, hx, _, hr⟩ | ⟨hag, _⟩
    · cases hx; exact hr
    · rw [hagg] at hag; cases hag
  obtain ⟨ad, len, cap, hv⟩ : ∃ ad len cap, v = .slice ad len cap := by
    cases hrd with
    | nil => exact ⟨_, _, _, rfl⟩
    | sl => exact ⟨_, _, _, rfl⟩
  refine calls_of_wp h1 h2 ?_
  have hsz0 : ([v].toArray ++ Array.replicate (fn.ntmps - [v].toArray.size) undef) = #[v, undef, undef, undef, undef, undef, undef, undef] := by
    rw [hn]; rfl
  rw [hsz0]
  let A : Start := ⟨w, fun _ => False, G, PA, [], none, []⟩
  -- the first operations
  refine wp_seq (wp_region_list (list_value (v := .slice none 0 0) ?_ q0.2.2 ?_))
  · simp [execOp, q0.1]
    rfl
  rw [q0.2.1]
  show Exit.then _ _ .normal _ _
  refine wp_seq (wp_seq (wp_region_list (list_value (v := v) ?_ q1.2.2 (list_value (v := .bool ad.isNone) ?_ q2.2.2 ?_))))
  · simp [execOp, q1.1]
    rfl
  · obtain ⟨t', hop⟩ := q2.1
    rw [q1.2.1]
    have h5 := Lib.run_eql_slice_nil (P := V.P) w ty et ad len cap 0 0 hund
    simp only [execOp, hop]
    refine exec_value ?_
    have e3 : ∀ tm : Array Value, (Act.eval { tmps := tm, defers := [] } (.tmp 3)) = tm.getD 3 undef := fun _ => rfl
    rw [hv]
    simp only [Act.put]
    show (do eqGuard .eql ty (.tmp 3) (.const (.slice none 0 0)) (.slice ad len cap) (.slice none 0 0); binOp .eql ty (.slice ad len cap) (.slice none 0 0) : Sem Value).run V.P w = _
    rw [Sem.run_bind]
    have hg : (eqGuard .eql ty (.tmp 3) (.const (.slice none 0 0)) (.slice ad len cap) (.slice none 0 0)).run V.P w = .ok () w := by
      simp [eqGuard]
    rw [hg]
    exact h5
  rw [q1.2.1, q2.2.1]
  show Exit.then _ _ .normal _ _
  have hC0 : ∀ tm : Array Value, tm.size = 8 → tm.getD 0 undef = v → Stands A fn.ntmps (cloneX z rows) cloneM { tmps := tm, defers := [] } w := by
    intro tm hsz h0
    refine ⟨⟨fun _ => none, G, PA⟩, fun _ => undef, ?_, by rw [hn]; exact hsz, rfl, ⟨fun u hu => by (simp [A] at hu), by simp [A]⟩⟩
    refine ⟨?_, (by intro b b' o o' h; cases h), (by intro b o h; cases h), fun b hb => ⟨hG b hb, .inl hb⟩, fun b hb => ⟨hb, hG b hb, fun h => h⟩, fun i b hb => ⟨hPA i b hb, fun h => h, hb⟩, fun _ _ _ => rfl, Nat.le_refl _, .refl _, by simp [A], .none⟩
    intro s
    by_cases e0 : s = 0
    · subst e0
      right
      unfold Claim
      have e1 : cloneX z rows 0 = .d (.sl z rows) none := rfl
      have e2 : tmO tm (fun _ => undef) 0 = v := by simp [tmO, h0]
      rw [e1, e2]
      refine ⟨.sl z rows, none, rfl, .view (hrd.mono fun b hb => ⟨?_, rfl⟩), fun _ => rfl⟩
      rcases hb with hb | hb
      · exact .inl hb
      · exact .inr ⟨.arg 0, by simp, hb⟩
    · left
      simp [cloneX, e0]
  have hfinal : ∀ φ' a w' (e : EE), e = .ret → resesX V.τ φ' [.tmp 2] = some [.d (.sl z rows) none] → oR.Holds e (fun μ' => Stands A fn.ntmps φ' μ' a w') → bodyPost V.P fn (fun e w' => ∃ vs C', e = .returned (packV vs) ∧ Done w w' G PA { pms := [.rd], tys := [ty], res := [.c (.own cols) .no] } [.d (.sl z rows) none] vs C') e.ex a w' := by
    rintro φ' a w' e rfl hr hh
    obtain ⟨μ', k1, k2⟩ := hh
    rw [k1] at hout
    have hrl : fn.results.toList = [.tmp 2] := by rw [hres]
    exact quiet_final (sg := { pms := [.rd], tys := [ty], res := [.c (.own cols) .no] }) (by rw [hrl]; exact hout) k2 (by rw [hrl]; exact hr)
  cases hb : ad.isNone with
  | true =>
    refine wp_cond_true (by rfl) ?_
    refine wp_seq (wp_region_list (list_value (v := .slice none 0 0) ?_ q3.2.2 ?_))
    · simp [execOp, q3.1]
      rfl
    rw [q3.2.1]
    show Exit.then _ _ .normal _ _
    refine wp_ret ?_
    simp only [Exit.then]
    have hrows : rows = [] := by
      cases ad with
      | some a => cases hb
      | none =>
        rw [hv] at hrd
        cases hrd
        rfl
    subst hrows
    refine ⟨rfl, .slice none 0 0, ?_, [.slice none 0 0], ⟨fun _ => none, G, PA⟩, rfl, ⟨.refl w, (by intro b o h; cases h), (by intro b b' o o' h; cases h), fun b hb => .inl hb, fun b hb => hb, rfl, .none, rfl, rfl, ?_⟩⟩
    · exact results_run (vs := [.slice none 0 0]) (by rw [hres]; rfl)
    · intro k r v sm p1 p2 p3
      cases k with
      | zero =>
        simp only [List.getElem?_cons_zero, Option.some.injEq] at p1 p2 p3
        subst p1; subst p2; subst p3
        exact ⟨.sl z [], none, rfl, .nil, fun _ => rfl⟩
      | succ k => simp at p1
  | false =>
    refine wp_cond_false (by rfl) (wp_skip ?_)
    show REST.wp _ _ _ _
    obtain ⟨S, F, k, φ', e1, e2⟩ := hev rows hroom
    refine code_wp (X := X) (A := A) (S := S) (F := F) hτ (RgOk.nil rfl) rfl (fun hq => by cases hq) (by rw [hXn]; decide) (fun f sg hf => by rw [hXs] at hf; cases hf) k REST cloneM oR (cloneX z rows) φ' .ret _ w _ hchk e1 ?_ (fun a w' hh => hfinal φ' a w' .ret rfl e2 (by rw [hXn, ← hn] at hh; exact hh))
    rw [hXn, ← hn]
    exact hC0 _ rfl rfl
end Go.Ev

/- Functions that hand the slices of a struct, their first argument, to functions that write them. -/
namespace Go.Ev

/-- What holds from step to step. -/
structure AggAt (A : Start) (PA : Nat → Nat → Prop) (ms : List M) (vs : Array Value) (b2 : Nat) (w : World) (C : Cx) (ds : List D) : Prop where
  st : St A w [] (fun _ => .u) (fun _ => undef) C
  kids : Kids w C ⟨0, []⟩ ms [ds] (fun _ j => vs.getD j undef)
  len : ms.length = ds.length
  zero : ∀ b o, C.own b = some o → o.p.s = 0
  pa : C.PA = PA
  free : C.own b2 = none
  box : ∃ ty fz, w.heap[b2]? = some (.cells vs ty fz)
  blt : b2 < w.heap.size
  vsz : vs.size = ms.length

section
variable {V : Env} {A : Start} {w : World} {C : Cx} {PA : Nat → Nat → Prop} {ms : List M} {vs : Array Value} {b2 : Nat} {ds : List D}

theorem agg_call (h : AggAt A PA ms vs b2 w C ds) (hrg : A.rg = []) (hp : provL ms = some []) {off z : Nat} {cols : List M} {rows : List (List D)} (hms : ms[off]? = some (.own cols)) (hds : ds[off]? = some (.sl z rows))
    {g : Nat} {sgg : Sig} {F : List X → Option (List X × List X)} {ty' tk : Nat} (hD : DoesR (Abv A) V g sgg F) (hmut : mutOk sgg = some (.own cols)) (hpm : sgg.pms = [.mut (.own cols), .rd]) (hty : sgg.tys = [ty', tk])
    {ek : TE} (hek : V.get tk = some ek) (hea : ek.agg = false) {d1 : D} {kv : Value} (hfit : fits ek.zero [d1] = true) (hkd : Rd w C.G d1 kv) {rs outs : List X} (hF : F [.d (.sl z rows) none, .d d1 none] = some (rs, outs)) :
    Calls V.P g [vs.getD off undef, kv].toArray w fun e w' => ∃ dr o vr d' C2, rs = [.d dr o] ∧ outs.head? = some (.d d' none) ∧ e = .returned vr ∧ Rd w' C2.G dr vr ∧ AggAt A PA ms vs b2 w' C2 (ds.set off d') := by
  obtain ⟨_, _, hDM, _⟩ := hD
  have hDM := hDM _ hmut
  have hst := h.st
  have hol := (List.getElem?_eq_some_iff.1 hms).1
  have hpc : (⟨0, []⟩ : Pl).cell 0 off = ⟨0, [(0, off)]⟩ := rfl
  let p : Pl := ⟨0, [(0, off)]⟩
  have hm0 : (M.own cols).prov = some [] := by
    obtain ⟨rs1, g1, g2⟩ := provL_mem hp hms
    cases rs1 with
    | nil => exact g1
    | cons x xs => exact absurd (g2 x (by simp)) (by simp)
  have hrep : Rep w C p (.own cols) (.sl z rows) (vs.getD off undef) := h.kids 0 off ds _ _ rfl hds hms
  have hGmove : ∀ ps ps', nilF ps = some ps' → ∀ b, okB C ps b → okB ⟨lentN C p, C.G, fun _ _ => False⟩ ps' b ∧ w.heap[b]? = w.heap[b]? := by
    intro ps ps' hf b hb
    obtain ⟨rfl, rfl⟩ := nilF_some hf
    refine ⟨?_, rfl⟩
    rcases hb with hb | ⟨_, hp, _⟩
    · exact .inl hb
    · simp at hp
  refine (hDM w (lentN C p) C.G (fun _ _ => False) [vs.getD off undef, kv] [.d (.sl z rows) none, .d d1 none] hst.abv (by rw [hpm]; rfl) (by rw [hpm]; rfl) (fun b hb => (hst.frz b hb).1) (fun _ _ hb => hb.elim) ?_ ?_ ?_ ?_ (.sl z rows) (vs.getD off undef) rfl rfl ?_ rs outs hF).mono ?_
  · intro b o hb
    obtain ⟨o0, q, k1, k2, rfl⟩ := lentN_some hb
    obtain ⟨g1, g2, _⟩ := hst.own b o0 k1
    exact ⟨g1, g2, fun _ hi => hi, rfl⟩
  · intro b b' o o' h1 h2 e
    obtain ⟨o1, q1, k1, k2, rfl⟩ := lentN_some h1
    obtain ⟨o2, q2, j1, j2, rfl⟩ := lentN_some h2
    simp only [Pl.mk.injEq, true_and] at e
    exact hst.inj b b' o1 o2 k1 j1 (by rw [k2, j2, e])
  · intro b o hb
    obtain ⟨o0, q, k1, k2, rfl⟩ := lentN_some hb
    exact hst.oko b o0 k1
  · intro i x v pm ty q1 q2 q3 q4
    rw [hpm] at q3
    rw [hty] at q4
    cases i with
    | succ i => simp at q1
    | zero =>
      simp only [List.getElem?_cons_succ, List.getElem?_cons_zero, Option.some.injEq] at q1 q2 q3 q4
      subst q1; subst q2; subst q3; subst q4
      exact ⟨ek, hek, .inl ⟨hea, d1, rfl, hfit, hkd.mono fun b hb => ⟨.inl hb, rfl⟩⟩⟩
  · have := hrep.move (w' := w) (C' := ⟨lentN C p, C.G, fun _ _ => False⟩) ⟨0, []⟩ nilF (fun b q off' c z hb => ⟨by rw [show (⟨0, []⟩ : Pl).ext q = ⟨0, q⟩ by simp [Pl.ext]]; exact lentN_of hb, rfl⟩) hGmove
    rwa [map_prov nilF rfl _ hm0] at this
  · rintro e w' ⟨r, vr, d', C', rfl, hout, rfl, hdone⟩
    have hsub := sub_back hst hdone
    obtain ⟨dr, o, rfl, hres, _⟩ := hdone.res
    let C2 := C.back C' p w.heap.size
    have hst2 : St A w' [] (fun _ => .u) (fun _ => undef) C2 := hst.subG (by rw [hrg]; intro r hr; cases hr) hsub (fun _ => .inl rfl)
    have hnl : ∀ b, C.own b = none → lentN C p b = none := by
      intro b hb
      unfold lentN
      rw [hb]; rfl
    refine ⟨dr, o, vr, d', C2, rfl, hout, rfl, ?_, hst2, ?_, by rw [List.length_set]; exact h.len, ?_, h.pa, ?_, ?_, Nat.lt_of_lt_of_le h.blt hdone.size, h.vsz⟩
    · cases hres with
      | view h => exact h.mono fun b hb => ⟨by
          rcases hb with hb | ⟨_, hp, _⟩
          · exact hb
          · simp at hp, rfl⟩
    · intro i j row d m q1 q2 q3
      cases i with
      | succ i => simp at q1
      | zero =>
        simp only [List.getElem?_cons_zero, Option.some.injEq] at q1
        subst q1
        by_cases hj : j = off
        · subst hj
          rw [hms] at q3
          cases q3
          rw [List.getElem?_set_self (by rw [← h.len]; exact hol)] at q2
          cases q2
          exact rep_back hst hm0 hdone
        · rw [List.getElem?_set_ne (fun e => hj e.symm)] at q2
          have hm1 : m.prov = some [] := by
            obtain ⟨rs1, g1, g2⟩ := provL_mem hp q3
            cases rs1 with
            | nil => exact g1
            | cons x xs => exact absurd (g2 x (by simp)) (by simp)
          have hr := h.kids 0 j ds d m rfl q2 q3
          have := hr.move (w' := w') (C' := C2) ((⟨0, []⟩ : Pl).cell 0 j) nilF ?_ ?_
          · rwa [map_prov nilF rfl _ hm1] at this
          · intro b q off' c z9 hb
            have hn : ¬ (lentN C p b).isSome = true := by
              intro hl
              obtain ⟨o1, ho1⟩ := Option.isSome_iff_exists.1 hl
              obtain ⟨o0, q', k1, k2, _⟩ := lentN_some ho1
              rw [hb] at k1
              cases k1
              simp only [Pl.ext, Pl.cell, List.nil_append, List.cons_append, Pl.mk.injEq, List.cons.injEq, Prod.mk.injEq, true_and, p] at k2
              exact hj k2.1
            exact ⟨hsub.keep b _ hb hn, hsub.same b (hst.own b _ hb).1 hn⟩
          · intro ps ps' hf b hb
            obtain ⟨rfl, rfl⟩ := nilF_some hf
            have hg : C.G b := by
              rcases hb with hb | ⟨_, hp, _⟩
              · exact hb
              · simp at hp
            refine ⟨.inl (hsub.keepG b hg), hsub.same b (hst.frz b hg).1 ?_⟩
            intro hl
            obtain ⟨o1, ho1⟩ := Option.isSome_iff_exists.1 hl
            obtain ⟨o0, q', k1, _⟩ := lentN_some ho1
            exact (hst.own b o0 k1).2.1 hg
    · intro b o ho
      rcases hsub.own b o ho with ⟨h1, _⟩ | _
      · exact h.zero b o h1
      · simp only [C2, Cx.back] at ho
        split at ho
        · rw [Option.map_eq_some_iff] at ho
          obtain ⟨o1, _, rfl⟩ := ho
          simp [p, Pl.ext]
        · exact h.zero b o ho
    · show C2.own b2 = none
      simp only [C2, Cx.back]
      rw [if_neg]
      · exact h.free
      · rw [hnl b2 h.free]
        have := h.blt
        simp
        omega
    · obtain ⟨ty, fz, hb⟩ := h.box
      refine ⟨ty, fz, ?_⟩
      rw [hsub.same b2 h.blt (by rw [hnl b2 h.free]; simp)]
      exact hb
end
end Go.Ev

/- Such functions, region by region. -/
namespace Go.Ev

theorem put_getD (a : Act) {d : Nat} (s : Nat) (v : Value) (hd : d < a.tmps.size) : (a.put (some d) v).tmps.getD s undef = if s = d then v else a.tmps.getD s undef := by
  simp only [Act.put]
  by_cases hs : s = d
  · subst hs
    simp [Array.getD_eq_getD_getElem?, hd]
  · rw [if_neg hs]
    simp only [Array.getD_eq_getD_getElem?, Array.getElem?_setIfInBounds]
    rw [if_neg (fun e => hs e.symm)]

/-- One step: a field's slice is handed on, with the count. -/
structure StepA (τ : List TE) (Sg : Nat → Option Sig) (n b : Nat) (ms : List M) (o1 o2 o3 o4 o5 : Oper) where
  {t5 t6 t7 t8 ty f off ty' tk g : Nat}
  {e e' : TE}
  {cols : List M}
  {sgg : Sig}
  {c : Call}
  p1 : o1.op = .fieldAddr ty (.tmp b) f ∧ o1.dst = some t5 ∧ o1.guard = none
  p2 : o2.op = .load ty' (.tmp t5) ∧ o2.dst = some t6 ∧ o2.guard = none
  p3 : o3.op = .move (.tmp 1) ∧ o3.dst = some t7 ∧ o3.guard = none
  p4 : o4.op = .call c ∧ o4.dst = some t8 ∧ o4.guard = none
  pc : c.callee = .value (.func g) ∧ c.args.toList = [.tmp t6, .tmp t7] ∧ c.argTypes.toList = [ty', tk]
  p5 : o5.op = .assign (.tmp t8) ∧ o5.dst = some 1 ∧ o5.guard = none
  h1 : TE.find τ ty = some e ∧ e.flds[f]? = some off
  h2 : TE.find τ ty' = some e' ∧ e'.agg = false
  h3 : ms[off]? = some (.own cols)
  h4 : Sg g = some sgg ∧ mutOk sgg = some (.own cols) ∧ sgg.pms = [.mut (.own cols), .rd] ∧ sgg.tys = [ty', tk]
  ne : (decide (t5 < n) && decide (t6 < n) && decide (t7 < n) && decide (t8 < n) && decide (1 < n) && decide (b < n) && decide (n ≤ 1000) && decide (b ≠ 1) && decide (t5 ≠ b) && decide (t5 ≠ 1) && decide (t6 ≠ b) && decide (t6 ≠ 1) && decide (t6 ≠ t7) && decide (t7 ≠ b) && decide (t7 ≠ 1) && decide (t8 ≠ b) && decide (t8 ≠ 1)) = true

section
variable {V : Env} {A : Start} {w : World} {C : Cx} {PA : Nat → Nat → Prop} {ms : List M} {vs : Array Value} {b2 : Nat} {ds : List D}
variable {n b : Nat} {o1 o2 o3 o4 o5 : Oper} {S : Nat → Option (List PK)} {F : Nat → List X → Option (List X × List X)} {Sg : Nat → Option Sig} {ops : Array Oper} {φ φ' : Fr}

/-- What such a step comes to, in data. -/
theorem step_ev (s : StepA V.τ Sg n b ms o1 o2 o3 o4 o5) (hS : S s.g = some [.mut, .val]) (hb : φ b = .box ds) {d1 : D} (h1 : φ 1 = .d d1 none) (hev : evOps V.τ S F ops [o1, o2, o3, o4, o5] φ (some []) = some φ') :
    ∃ z rows rs outs ek, ds[s.off]? = some (.sl z rows) ∧ F s.g [.d (.sl z rows) none, .d d1 none] = some (rs, outs) ∧ TE.find V.τ s.tk = some ek ∧ ek.agg = false ∧ fits ek.zero [d1] = true ∧
      ∀ dr o d', rs = [.d dr o] → outs.head? = some (.d d' none) → φ' b = .box (ds.set s.off d') ∧ φ' 1 = .d dr none := by
  obtain ⟨p1, p2, p3, p4, pc, p5, h1', h2', h3', h4', ne⟩ := s
  rename_i t5 t6 t7 t8 ty f off ty' tk g e e' cols sgg c
  simp only [Bool.and_eq_true, decide_eq_true_eq] at ne
  simp only at hS ⊢
  have u : ∀ (o : Oper) rest φ sk, o.guard = none → evOps V.τ S F ops (o :: rest) φ sk = (match evOp V.τ S F o φ with | some φ' => evOps V.τ S F ops rest φ' (rmS o.dst sk) | none => none) := by
    intro o rest φ sk h
    rw [evOps]
    simp only [h]
    rfl
  rw [u _ _ _ _ p1.2.2] at hev
  split at hev
  · rename_i φ1 e1
    rw [u _ _ _ _ p2.2.2] at hev
    split at hev
    · rename_i φ2 e2
      rw [u _ _ _ _ p3.2.2] at hev
      split at hev
      · rename_i φ3 e3
        rw [u _ _ _ _ p4.2.2] at hev
        split at hev
        · rename_i φ4 e4
          rw [u _ _ _ _ p5.2.2] at hev
          split at hev
          · rename_i φ5 e5
            simp only [evOps, Option.some.injEq] at hev
            subst hev
            -- the field
            have hφ1 : φ1 = upd φ t5 (.pt ⟨b, [(0, off)]⟩) := by
              unfold evOp at e1
              rw [p1.1] at e1
              simp only [pureX, ptX, hb, fieldX, h1'.1, h1'.2, addLast, p1.2.1, putRes, Nat.zero_add] at e1
              split at e1
              · rename_i x hx
                split at hx
                · cases hx; exact (Option.some.inj e1).symm
                · cases hx
              · cases e1
            have hb1 : φ1 b = .box ds := by rw [hφ1]; simp only [upd]; rw [if_neg (by omega)]; exact hb
            have h51 : φ1 t5 = .pt ⟨b, [(0, off)]⟩ := by rw [hφ1]; simp [upd]
            have h11 : φ1 1 = .d d1 none := by rw [hφ1]; simp only [upd]; rw [if_neg (by omega)]; exact h1
            -- the slice
            have hφ2 : ∃ d oo, ds[off]? = some d ∧ φ2 = upd φ1 t6 (.d d oo) ∧ ∀ z r, d = .sl z r → oo = some ⟨b, [(0, off)]⟩ := by
              unfold evOp at e2
              rw [p2.1] at e2
              simp only [pureX, ptX, h51, loadX, h2'.1, p2.2.1, putRes] at e2
              split at e2
              · rename_i x hx
                cases e2
                split at hx
                · rename_i cs hcs
                  split at hx
                  · rename_i hf
                    unfold mkX at hx
                    rw [h2'.2] at hx
                    simp only [Bool.false_eq_true, if_false] at hx
                    simp only [cellsAt, hb1, rowsX, cellsIn, List.getElem?_cons_zero] at hcs
                    split at hcs
                    · have hcs' := Option.some.inj hcs
                      have key : ∀ d, cs = [d] → ds[off]? = some d := by
                        intro d hd
                        rw [hd] at hcs'
                        have := congrArg (fun l => l[0]?) hcs'
                        simp only [List.getElem?_cons_zero, List.getElem?_take, List.getElem?_drop, Nat.add_zero] at this
                        split at this
                        · exact this
                        · cases this
                      split at hx
                      · cases hx
                        exact ⟨_, none, key _ rfl, rfl, fun z r h => by cases h⟩
                      · cases hx
                        exact ⟨_, _, key _ rfl, rfl, fun z r h => rfl⟩
                      · cases hx
                    · cases hcs
                  · cases hx
                · cases hx
              · cases e2
            obtain ⟨d, oo, hdo, hφ2, hoo⟩ := hφ2
            have hb2 : φ2 b = .box ds := by rw [hφ2]; simp only [upd]; rw [if_neg (by omega)]; exact hb1
            have h12 : φ2 1 = .d d1 none := by rw [hφ2]; simp only [upd]; rw [if_neg (by omega)]; exact h11
            have h62 : φ2 t6 = .d d oo := by rw [hφ2]; simp [upd]
            -- the count
            have hφ3 : ∃ o3', φ3 = upd φ2 t7 (.d d1 o3') := by
              unfold evOp at e3
              rw [p3.1] at e3
              simp only [pureX, opX, h12, p3.2.1, putRes] at e3
              cases d1 with
              | v x => simp only [cpX] at e3; exact ⟨_, (Option.some.inj e3).symm⟩
              | sl z r => simp only [cpX] at e3; exact ⟨_, (Option.some.inj e3).symm⟩
            obtain ⟨o3', hφ3⟩ := hφ3
            have hb3 : φ3 b = .box ds := by rw [hφ3]; simp only [upd]; rw [if_neg (by omega)]; exact hb2
            have h63 : φ3 t6 = .d d oo := by rw [hφ3]; simp only [upd]; rw [if_neg (by omega)]; exact h62
            have h73 : φ3 t7 = .d d1 o3' := by rw [hφ3]; simp [upd]
            -- the call
            unfold evOp at e4
            rw [p4.1] at e4
            simp only [pc.1, callX, hS] at e4
            have hsz : c.args.size = 2 := by rw [← Array.length_toList, pc.2.1]; rfl
            rw [hsz] at e4
            simp only [List.take_succ_cons, List.take_zero, pc.2.1, pc.2.2, argsX] at e4
            have hop6 : ∀ ty, opX V.τ φ3 ty (.tmp t6) = cpX t6 (.d d oo) := fun _ => by simp only [opX, h63]
            have hop7 : ∀ ty, opX V.τ φ3 ty (.tmp t7) = cpX t7 (.d d1 o3') := fun _ => by simp only [opX, h73]
            split at e4
            · rename_i as has
              split at has
              · rename_i x6 r7 ha6 har
                cases has
                split at har
                · rename_i x7 r8 ha7 hr8
                  cases har
                  cases hr8
                  simp only [argX, hop6] at ha6
                  obtain ⟨z, rows, rfl⟩ : ∃ z rows, d = .sl z rows := by
                    cases d with
                    | v x => simp [cpX] at ha6
                    | sl z r => exact ⟨z, r, rfl⟩
                  have hoo1 := hoo z rows rfl
                  subst hoo1
                  simp only [cpX, Option.getD_some] at ha6 hop6
                  have hx6 : x6 = .d (.sl z rows) none := by
                    split at ha6
                    · split at ha6
                      · exact (Option.some.inj ha6).symm
                      · cases ha6
                    · cases ha6
                  subst hx6
                  have hx7 : x7 = .d d1 none ∧ ∃ ek, TE.find V.τ tk = some ek ∧ ek.agg = false ∧ fits ek.zero [d1] = true := by
                    have hcp : ∃ o9, cpX t7 (.d d1 o3') = .d d1 o9 := by
                      cases d1 with
                      | v x => exact ⟨_, rfl⟩
                      | sl z r => exact ⟨_, rfl⟩
                    obtain ⟨o9, hcp⟩ := hcp
                    simp only [argX, hop7, hcp] at ha7
                    split at ha7
                    · rename_i ek hek
                      split at ha7
                      · rename_i hc
                        simp only [Bool.and_eq_true, Bool.not_eq_true'] at hc
                        exact ⟨(Option.some.inj ha7).symm, ek, hek, hc.1, hc.2⟩
                      · cases ha7
                    · cases ha7
                  obtain ⟨rfl, ek, hek, hea, hfit⟩ := hx7
                  split at e4
                  · rename_i rs outs hF
                    simp only [List.append_nil] at hF
                    split at e4
                    · split at e4
                      · rename_i φ9 hbk
                        have hφ4 := Option.some.inj e4
                        refine ⟨z, rows, rs, outs, ek, hdo, hF, hek, hea, hfit, ?_⟩
                        rintro dr o d' rfl hout
                        cases outs with
                        | nil => cases hout
                        | cons x0 os =>
                          simp only [List.head?_cons, Option.some.injEq] at hout
                          subst hout
                          simp only [backsX] at hbk
                          split at hbk
                          · rename_i φ8 hb8
                            cases os with
                            | nil => cases hbk
                            | cons x1 os =>
                              simp only [backsX, backX] at hbk
                              have h98 := Option.some.inj hbk
                              subst h98
                              simp only [backX, hop6] at hb8
                              have hd' : ∃ rows', d' = .sl z rows' ∧ setAt φ3 ⟨b, [(0, off)]⟩ (.sl z rows') = some φ8 := by
                                cases d' with
                                | v x => cases hb8
                                | sl z' r' =>
                                  simp only at hb8
                                  split at hb8
                                  · rename_i hzz
                                    subst hzz
                                    exact ⟨r', rfl, hb8⟩
                                  · cases hb8
                              obtain ⟨rows', rfl, hset⟩ := hd'
                              have h8b : φ8 = upd φ3 b (.box (ds.set off (.sl z rows'))) := by
                                simp only [setAt, putAt, hb3, putX, putIn, List.getElem?_cons_zero] at hset
                                have hlt := (List.getElem?_eq_some_iff.1 hdo).1
                                rw [if_pos (by simp; omega)] at hset
                                simp only [List.set_cons_zero] at hset
                                rw [← Option.some.inj hset]
                                congr 2
                                rw [List.set_eq_take_append_cons_drop]
                                simp [hlt]
                              have hp4 : φ4 = upd φ8 t8 (.d dr o) := by rw [← hφ4, p4.2.1]; rfl
                              unfold evOp at e5
                              rw [p5.1] at e5
                              have h84 : φ4 t8 = .d dr o := by rw [hp4]; simp [upd]
                              have hcp8 : ∃ o9, cpX t8 (.d dr o) = .d dr o9 := by
                                cases dr with
                                | v x => exact ⟨_, rfl⟩
                                | sl z r => exact ⟨_, rfl⟩
                              obtain ⟨o9, hcp8⟩ := hcp8
                              simp only [pureX, opX, h84, hcp8, ownX, p5.2.1, putRes] at e5
                              rw [← Option.some.inj e5]
                              refine ⟨?_, by simp [upd]⟩
                              simp only [upd]
                              rw [if_neg (by omega), hp4]
                              simp only [upd]
                              rw [if_neg (by omega), h8b]
                              simp [upd]
                          · cases hbk
                      · cases e4
                    · cases e4
                  · cases e4
                · cases har
              · cases has
            · cases e4
          · cases hev
        · cases hev
      · cases hev
    · cases hev
  · cases hev

/-- Such a function's code behind its first region. -/
inductive MA (τ : List TE) (Sg : Nat → Option Sig) (n b : Nat) (ms : List M) (k : Nat) : Code → Prop
  | fin {i : Nat} {o1 o2 : Oper} {t9 : Nat} : (o1.op = .move (.tmp 1) ∧ o1.dst = some t9 ∧ o1.guard = none) → (o2.op = .assign (.tmp t9) ∧ o2.dst = some k ∧ o2.guard = none) →
      (decide (t9 < n) && decide (k < n) && decide (1 < n) && decide (t9 ≠ b) && decide (k ≠ b)) = true → MA τ Sg n b ms k (.seq (.region i #[o1, o2] false) .ret)
  | step {i : Nat} {o1 o2 o3 o4 o5 : Oper} {rest : Code} : StepA τ Sg n b ms o1 o2 o3 o4 o5 → MA τ Sg n b ms k rest → MA τ Sg n b ms k (.seq (.region i #[o1, o2, o3, o4, o5] false) rest)

theorem list_call {P : Program} {ops : Array Oper} {Q : Exit → Act → World → Prop} {o : Oper} {rest : List Oper} {a : Act} {w : World} {f : Nat} {args : Array Value} (hr : (execOp a.eval o).run P w = .ok (.enter f args) w) (hg : o.guard = none)
    (hK : Calls P f args w fun e w' => ∃ v, e = .returned v ∧ wpList P ops Q rest (a.put o.dst v) w') : wpList P ops Q (o :: rest) a w := by
  unfold wpList
  rw [if_pos (by simp [Region.wanted, hg])]
  left
  unfold Oper.wp
  rw [hr, Oper.upon_enter]
  refine hK.mono ?_
  rintro e w' ⟨v, rfl, h⟩
  exact h

theorem agg_body (hrg : A.rg = []) (hp : provL ms = some []) (hDo : ∀ f sg, Sg f = some sg → S f = some (sg.pms.map PM.pk) ∧ DoesR (Abv A) V f sg (F f)) {k kk : Nat} {Q : Exit → Act → World → Prop} {e : EE} {φ' : Fr}
    (hQ : ∀ a' w' C' ds' d' v', AggAt A PA ms vs b2 w' C' ds' → a'.defers = [] → φ' b = .box ds' → φ' k = .d d' none → a'.tmps.getD k undef = v' → Rd w' C'.G d' v' → e = .ret → Q .ret a' w') {code : Code} (hma : MA V.τ Sg n b ms k code) :
    ∀ (a : Act) (w : World) (C : Cx) (ds : List D) (d1 : D) (kv : Value) (φ : Fr), AggAt A PA ms vs b2 w C ds → a.tmps.size = n → a.defers = [] → a.tmps.getD b undef = .pointer (some ⟨b2, 0, none⟩) → a.tmps.getD 1 undef = kv → φ b = .box ds → φ 1 = .d d1 none → Rd w C.G d1 kv →
      evC V.τ S F kk code φ = some (e, φ') → code.wp V.P Q a w := by
  induction hma with
  | @fin i o1 o2 t9 p1 p2 ne =>
    intro a w C ds d1 kv φ hat hsz hdf hvb hv1 hb h1 hrd hev
    simp only [Bool.and_eq_true, decide_eq_true_eq] at ne
    have hφ : ∃ o9, e = .ret ∧ φ' = upd (upd φ t9 (.d d1 o9)) k (.d d1 none) := by
      simp only [evC, Bool.false_eq_true, if_false, evOps, p1.2.2, p2.2.2] at hev
      have e1 : ∃ o9, evOp V.τ S F o1 φ = some (upd φ t9 (.d d1 o9)) := by
        unfold evOp
        rw [p1.1]
        simp only [pureX, opX, h1, p1.2.1, putRes]
        cases d1 with
        | v x => exact ⟨_, rfl⟩
        | sl z r => exact ⟨_, rfl⟩
      obtain ⟨o9, e1⟩ := e1
      rw [e1] at hev
      have e2 : evOp V.τ S F o2 (upd φ t9 (.d d1 o9)) = some (upd (upd φ t9 (.d d1 o9)) k (.d d1 none)) := by
        unfold evOp
        rw [p2.1]
        have : (upd φ t9 (.d d1 o9)) t9 = .d d1 o9 := by simp [upd]
        simp only [pureX, opX, this, p2.2.1, putRes]
        cases d1 with
        | v x => rfl
        | sl z r => rfl
      simp only [e2, Option.map_some, Option.some.injEq, Prod.mk.injEq] at hev
      exact ⟨o9, hev.1.symm, hev.2.symm⟩
    obtain ⟨o9, he, hφ⟩ := hφ
    refine wp_seq (wp_region_list (list_value (v := kv) ?_ p1.2.2 (list_value (v := kv) ?_ p2.2.2 ?_)))
    · simp only [execOp, p1.1, Act.eval, hv1]
      rfl
    · have : (a.put o1.dst kv).tmps.getD t9 undef = kv := by rw [p1.2.1, put_getD _ _ _ (by omega)]; simp
      simp only [execOp, p2.1, Act.eval, this]
      rfl
    show Exit.then _ _ .normal _ _
    refine wp_ret ?_
    show Q .ret _ _
    refine hQ _ w C ds d1 kv hat (by rw [put_defers, put_defers]; exact hdf) ?_ ?_ ?_ hrd he
    · rw [hφ]; simp only [upd]; rw [if_neg (by omega), if_neg (by omega)]; exact hb
    · rw [hφ]; simp [upd]
    · rw [p2.2.1, put_getD _ _ _ (by rw [put_size]; omega)]; simp
  | @step i o1 o2 o3 o4 o5 rest s hrest ih =>
    intro a w C ds d1 kv φ hat hsz hdf hvb hv1 hb h1 hrd hev
    obtain ⟨hSg, hDg⟩ := hDo s.g s.sgg s.h4.1
    have hS : S s.g = some [.mut, .val] := by rw [hSg, s.h4.2.2.1]; rfl
    simp only [evC, Bool.false_eq_true, if_false] at hev
    split at hev
    · rename_i φ9 hmap
      rw [Option.map_eq_some_iff] at hmap
      obtain ⟨φ5, hops, hmap⟩ := hmap
      cases hmap
      obtain ⟨z, rows, rs, outs, ek, q1, q2, q3, q4, q5, q6⟩ := step_ev s hS hb h1 hops
      have hcall := agg_call hat hrg hp s.h3 q1 hDg s.h4.2.1 s.h4.2.2.1 s.h4.2.2.2 q3 q4 q5 hrd q2
      have ne := s.ne
      simp only [Bool.and_eq_true, decide_eq_true_eq] at ne
      have hoff : s.off < vs.size := by
        have := (List.getElem?_eq_some_iff.1 s.h3).1
        have := hat.vsz
        omega
      have hvs : vs[s.off]? = some (vs.getD s.off undef) := by simp [Array.getD_eq_getD_getElem?, hoff]
      obtain ⟨tyb, fz, hbox⟩ := hat.box
      obtain ⟨⟨fn, bd, hf, hbd, hname⟩, _⟩ := hDg
      refine wp_seq (wp_region_list (list_value (v := .pointer (some ⟨b2, s.off, none⟩)) ?_ s.p1.2.2 (list_value (v := vs.getD s.off undef) ?_ s.p2.2.2 (list_value (v := kv) ?_ s.p3.2.2 (list_call (f := s.g) (args := [vs.getD s.off undef, kv].toArray) ?_ s.p4.2.2 (hcall.mono ?_))))))
      · simp only [execOp, s.p1.1, Act.eval, hvb]
        have := field_run (V := V) (w := w) (b := b2) (o' := 0) s.h1.1 s.h1.2
        rw [Nat.zero_add] at this
        exact exec_value this
      · have e5 : (a.put o1.dst (.pointer (some ⟨b2, s.off, none⟩))).tmps.getD s.t5 undef = .pointer (some ⟨b2, s.off, none⟩) := by rw [s.p1.2.1, put_getD _ _ _ (by omega)]; simp
        simp only [execOp, s.p2.1, Act.eval, e5]
        refine exec_value ?_
        simp [Instr.loadAt, Instr.sureAddr, load_one s.h2.1 s.h2.2 hbox hvs]
      · have e1 : ((a.put o1.dst (.pointer (some ⟨b2, s.off, none⟩))).put o2.dst (vs.getD s.off undef)).tmps.getD 1 undef = kv := by
          rw [s.p2.2.1, put_getD _ _ _ (by rw [put_size]; omega), if_neg (by omega), s.p1.2.1, put_getD _ _ _ (by omega), if_neg (by omega), hv1]
        simp only [execOp, s.p3.1, Act.eval, e1]
        rfl
      · have e6 : (((a.put o1.dst (.pointer (some ⟨b2, s.off, none⟩))).put o2.dst (vs.getD s.off undef)).put o3.dst kv).tmps.getD s.t6 undef = vs.getD s.off undef := by
          rw [s.p3.2.1, put_getD _ _ _ (by rw [put_size, put_size]; omega), if_neg (by omega), s.p2.2.1, put_getD _ _ _ (by rw [put_size]; omega), if_pos rfl]
        have e7 : (((a.put o1.dst (.pointer (some ⟨b2, s.off, none⟩))).put o2.dst (vs.getD s.off undef)).put o3.dst kv).tmps.getD s.t7 undef = kv := by
          rw [s.p3.2.1, put_getD _ _ _ (by rw [put_size, put_size]; omega), if_pos rfl]
        generalize ((a.put o1.dst (.pointer (some ⟨b2, s.off, none⟩))).put o2.dst (vs.getD s.off undef)).put o3.dst kv = a3 at e6 e7
        have e1 : s.c.args.map a3.eval = [vs.getD s.off undef, kv].toArray := by
          apply Array.ext'
          rw [Array.toList_map, s.pc.2.1]
          simp only [List.map_cons, List.map_nil, Act.eval, e6, e7]
        simp only [execOp, s.p4.1, resolve, s.pc.1]
        have e2 : a3.eval (.func s.g) = .func (.func s.g) #[] #[] := rfl
        simp [e2, Deferred.ofValue, invoke, callFunc, hf, hname, hbd, e1]
      · rintro e9 w' ⟨dr, o9, vr, d', C2, rfl, hout, rfl, hrd2, hat2⟩
        refine ⟨vr, rfl, list_value (v := vr) ?_ s.p5.2.2 ?_⟩
        · have e8 : ((((a.put o1.dst (.pointer (some ⟨b2, s.off, none⟩))).put o2.dst (vs.getD s.off undef)).put o3.dst kv).put o4.dst vr).tmps.getD s.t8 undef = vr := by
            rw [s.p4.2.1, put_getD _ _ _ (by rw [put_size, put_size, put_size]; omega), if_pos rfl]
          simp only [execOp, s.p5.1, Act.eval, e8]
          rfl
        · show Exit.then _ _ .normal _ _
          obtain ⟨r1, r2⟩ := q6 dr o9 d' rfl hout
          refine ih _ w' C2 _ dr vr φ9 hat2 ?_ ?_ ?_ ?_ r1 r2 hrd2 hev
          · simp only [put_size]; exact hsz
          · simp only [put_defers]; exact hdf
          · rw [s.p5.2.1, put_getD _ _ _ (by simp only [put_size]; omega), if_neg (by omega), s.p4.2.1, put_getD _ _ _ (by simp only [put_size]; omega), if_neg (by omega), s.p3.2.1, put_getD _ _ _ (by simp only [put_size]; omega), if_neg (by omega), s.p2.2.1, put_getD _ _ _ (by simp only [put_size]; omega), if_neg (by omega), s.p1.2.1, put_getD _ _ _ (by omega), if_neg (by omega)]
            exact hvb
          · rw [s.p5.2.1, put_getD _ _ _ (by simp only [put_size]; omega), if_pos rfl]
    · rename_i hne
      exfalso
      cases hq : evOps V.τ S F #[o1, o2, o3, o4, o5] [o1, o2, o3, o4, o5] φ (some []) with
      | none => rw [hq] at hev; cases hev
      | some φ5 => exact hne φ5 (by rw [hq]; rfl)
end
end Go.Ev


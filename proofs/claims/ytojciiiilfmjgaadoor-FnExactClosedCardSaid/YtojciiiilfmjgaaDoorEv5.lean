/- What a Go function does, reckoned in plain data, and that it does so: part 5. -/
import Derived.Orders
import Derived.Test.YtojciiiilfmjgaaDoorEv4
set_option linter.all false
/- Operations in their order. -/
namespace Go.Ev

/-- What stands whether an operation ran or not. -/
def weakG (o : Oper) (μ : Mu) : Option Mu → Option Mu
  | some μ1 => match o.dst with
    | some d => if weakS (μ.put d (μ1.get d)) μ1 then some μ1 else none
    | none => none
  | none => none

theorem weakG_spec {o : Oper} {μ μ' : Mu} {q : Option Mu} (h : weakG o μ q = some μ') : q = some μ' ∧ ∃ d sm, o.dst = some d ∧ weakS (μ.put d sm) μ' = true := by
  unfold weakG at h
  split at h
  · split at h
    · rename_i d hd
      split at h
      · rename_i hw
        cases h
        exact ⟨rfl, d, _, hd, hw⟩
      · cases h
    · cases h
  · cases h

/-- What comes before a guard that is not met leaves the slot empty. -/
def guardM (τ : List TE) (Sg : Nat → Option Sig) (cols : List M) (o : Oper) (μ : Mu) : Option Mu := match o.dst with
  | some _ => match o.op with
    | .call c => match c.callee with
      | .value (.func f) => match Sg f with
        | some sg => if sg.res.length = 1 ∧ (mutOk sg).isNone = true ∧ (ioOk sg).isNone = true then chkOp τ Sg cols o μ else if sg.res.length = 1 ∧ (ioOk sg).isSome = true then weakG o μ (chkOp τ Sg cols o μ) else none
        | none => none
      | .builtin .append => none
      | .builtin _ => chkOp τ Sg cols o μ
      | _ => none
    | .assign _ | .box _ _ | .store _ _ _ => none
    | .move _ => if cols.isEmpty then chkOp τ Sg cols o μ else none
    | .load _ _ => if cols.isEmpty then chkOp τ Sg cols o μ else none
    | .extract _ _ => if cols.isEmpty then chkOp τ Sg cols o μ else none
    | _ => chkOp τ Sg cols o μ
  | none => none

theorem putM_put {dst : Option Tmp} {d : Nat} {sm : SM} {μ μ' : Mu} (hd : dst = some d) (h : putM dst sm μ = some μ') : ∃ sm, μ' = μ.put d sm := by
  subst hd
  refine ⟨sm, ?_⟩
  cases sm <;> simp [putM] at h <;> exact h.symm

theorem guardM_put {τ : List TE} {Sg : Nat → Option Sig} {cols : List M} {o : Oper} {μ μ' : Mu} (h : guardM τ Sg cols o μ = some μ') : chkOp τ Sg cols o μ = some μ' ∧ ∃ d sm, o.dst = some d ∧ (μ' = μ.put d sm ∨ weakS (μ.put d sm) μ' = true) := by
  have pure : ∀ d, o.dst = some d → pureC τ cols o μ = some μ' → ∃ d sm, o.dst = some d ∧ (μ' = μ.put d sm ∨ weakS (μ.put d sm) μ' = true) := by
    intro d hd h
    unfold pureC at h
    split at h
    · obtain ⟨sm, e⟩ := putM_put hd h
      exact ⟨d, sm, hd, .inl e⟩
    · cases h
  unfold guardM at h
  split at h
  · rename_i d hd
    cases ho : o.op with
    | call c =>
      rw [ho] at h
      simp only at h
      split at h
      · rename_i f hc
        split at h
        · rename_i sg hsg
          split at h
          · rename_i hl
            refine ⟨h, ?_⟩
            unfold chkOp at h
            rw [ho] at h
            simp only [hc] at h
            split at h
            · rename_i μ2 hq
              cases h
              unfold callQ at hq
              rw [hsg] at hq
              simp only at hq
              split at hq
              · split at hq
                · rename_i pss _
                  obtain ⟨sm, hr⟩ : ∃ sm, sg.res = [sm] := by
                    match hq : sg.res, hl.1 with
                    | [sm], _ => exact ⟨sm, rfl⟩
                  rw [hr, hd] at hq
                  simp only [putResM, List.map_cons, List.map_nil, Option.some.injEq] at hq
                  exact ⟨d, _, hd, .inl hq.symm⟩
                · cases hq
              · cases hq
            · exfalso
              obtain ⟨_, h0, h1⟩ := hl
              have e1 : callMq τ Sg μ f c o.dst = none := by
                unfold callMq
                rw [hsg]
                simp only
                cases hmu : mutOk sg with
                | none => simp
                | some m => rw [hmu] at h0; cases h0
              have e2 : callPq τ Sg μ f c o.dst = none := by
                unfold callPq
                rw [hsg]
                simp only
                cases hmu : ioOk sg with
                | none => simp
                | some m => rw [hmu] at h1; cases h1
              have e3 : callAq τ Sg μ f c o.dst = none := by
                unfold callAq
                rw [hsg]
                simp only
                cases hmu : ioOk sg with
                | none => simp
                | some m => rw [hmu] at h1; cases h1
              rw [e1] at h
              simp only at h
              rw [e2] at h
              simp only at h
              rw [e3] at h
              cases h
          · split at h
            · obtain ⟨q1, d2, sm, q2, q3⟩ := weakG_spec h
              exact ⟨q1, d2, sm, q2, .inr q3⟩
            · cases h
        · cases h
      · cases h
      · rename_i b hb hc
        refine ⟨h, pure d hd ?_⟩
        unfold chkOp at h
        rw [ho] at h
        simp only [hc] at h
        cases b <;> first | exact h | exact (hb rfl).elim
      · cases h
    | assign y => rw [ho] at h; cases h
    | box t y => rw [ho] at h; cases h
    | store t y z => rw [ho] at h; cases h
    | move y =>
      rw [ho] at h
      simp only at h
      split at h
      · rename_i hcl
        refine ⟨h, pure d hd ?_⟩
        unfold chkOp at h
        rw [ho] at h
        simp only [hcl, if_true] at h
        exact h
      · cases h
    | extract y i =>
      rw [ho] at h
      simp only at h
      split at h
      · rename_i hcl
        refine ⟨h, pure d hd ?_⟩
        unfold chkOp at h
        rw [ho] at h
        simp only [hcl, if_true] at h
        exact h
      · cases h
    | load t y =>
      rw [ho] at h
      simp only at h
      split at h
      · rename_i hcl
        refine ⟨h, pure d hd ?_⟩
        unfold chkOp at h
        rw [ho] at h
        simp only [hcl, if_true] at h
        exact h
      · cases h
    | _ =>
      rw [ho] at h
      simp only at h
      refine ⟨h, pure d hd ?_⟩
      unfold chkOp at h
      rw [ho] at h
      exact h
  · cases h

section
variable {V : Env} {A : Start} {w w' : World} {μ μ' : Mu} {φ φ' : Fr} {C : Cx} {a : Act} {g : Nat → Value} {o : Oper} {x : X}

theorem skip_st {d : Nat} {sm : SM} (h : St A w μ φ (tmO a.tmps g) C) (hd1 : d < 1000) (hsz : d < a.tmps.size) : ∃ C2, St A w (μ.put d sm) (upd φ d .u) (tmO (a.put (some d) undef).tmps g) C2 := by
  refine ⟨_, h.putG hd1 (Ext.refl w) (fun _ => none) (by simp) (by simp) (by simp) .none ?_ ?_ ?_ ?_⟩
  · intro s hs
    have : s ≠ d := by rintro rfl; rw [hit_self] at hs; cases hs
    simp [upd, this]
  · intro s hs
    have : s ≠ d := by rintro rfl; rw [hit_self] at hs; cases hs
    rw [tm_put hd1 hsz]
    simp [this]
  · intro s hs
    have : s ≠ d := by rintro rfl; rw [hit_self] at hs; cases hs
    rw [get_put, if_neg this, hs]; rfl
  · intro s hs
    rw [get_put]
    by_cases e : s = d
    · subst e; exact .inl (by simp [upd])
    · rw [if_neg e, hs]; exact .inr trivial

/-- A condition's slot. -/
theorem slot_bool {d : Nat} {b : Bool} (h : St A w μ φ (tmO a.tmps g) C) (hd : d < 1000) (hr : rdO μ (.tmp d) = true) (hv : (φ d).val = some (.bool b)) : a.tmps.getD d undef = .bool b := by
  have hv' : (opX ([] : List TE) φ 0 (.tmp d)).val = some (.bool b) := by
    simp only [opX]
    generalize φ d = q at hv
    unfold X.val at hv
    split at hv
    · cases hv; rfl
    · cases hv
  have := (val_sound (τ := []) (ty := 0) h (by simpa [sm1] using hd) hr hv').1
  exact this
end

def dstOk (lo : Bool) (o : Oper) : Bool := !lo || o.dst != some 0

theorem dstOk_keeps {A : Start} {lo : Bool} {o : Oper} (hks : A.ks = []) (hlo : A.hd.isSome = true → lo = true) (h : dstOk lo o = true) : Keeps A o := by
  refine ⟨?_, by rw [hks]; simp⟩
  intro h1
  have h2 := hlo h1
  subst h2
  simpa [dstOk] using h

/-- The check of operations in their order; the columns are told by a policy. -/
def chkOps (τ : List TE) (Sg : Nat → Option Sig) (colsP : Pol) (n : Nat) (ops : Array Oper) : List Oper → Mu → Option Mu
  | [], μ => some μ
  | o :: rest, μ0 =>
    let μ := preM colsP o μ0
    if smallO n o && dstOk colsP.lo o then (match o.guard with
    | none => match chkOp τ Sg (colsP.cols o μ) o μ with
      | some μ' => chkOps τ Sg colsP n ops rest μ'
      | none => none
    | some (j, _) => match (ops[j]?).bind (·.dst) with
      | some d => if Nat.blt d 1000 && rdO μ (.tmp d) then (match guardM τ Sg (colsP.cols o μ) o μ with
        | some μ' => chkOps τ Sg colsP n ops rest μ'
        | none => none) else none
      | none => none) else none

/-- Slots that were passed over hold nothing. -/
def Start.k (A : Start) (l : List Nat) : Start := { A with ks := l }

theorem St.ks {A : Start} {l : List Nat} {w : World} {μ : Mu} {φ : Fr} {tm : Nat → Value} {C : Cx} (h : St A w μ φ tm C) : St (A.k l) w μ φ tm C := ⟨h.slot, h.inj, h.own, h.frz, h.ag, h.pa, h.old, h.size, h.calm, h.rng, h.oko⟩
theorem St.unks {A : Start} {l : List Nat} {w : World} {μ : Mu} {φ : Fr} {tm : Nat → Value} {C : Cx} (h : St (A.k l) w μ φ tm C) : St A w μ φ tm C := ⟨h.slot, h.inj, h.own, h.frz, h.ag, h.pa, h.old, h.size, h.calm, h.rng, h.oko⟩

theorem Stands.ks0 {A : Start} {n : Nat} {φ : Fr} {μ : Mu} {a : Act} {w : World} {l : List Nat} (hks : A.ks = []) (h : Stands (A.k l) n φ μ a w) : Stands A n φ μ a w := by
  obtain ⟨C, g, h1, h2, h3, h4⟩ := h
  exact ⟨C, g, h1.unks, h2, h3, h4.1, by rw [hks]; simp⟩
theorem Stands.ks1 {A : Start} {n : Nat} {φ : Fr} {μ : Mu} {a : Act} {w : World} (h : Stands A n φ μ a w) : Stands (A.k []) n φ μ a w := by
  obtain ⟨C, g, h1, h2, h3, h4⟩ := h
  exact ⟨C, g, h1.ks, h2, h3, h4.1, by simp [Start.k]⟩
theorem Stands.sub {A : Start} {n : Nat} {φ : Fr} {μ : Mu} {a : Act} {w : World} {l l' : List Nat} (hs : ∀ d ∈ l', d ∈ l) (h : Stands (A.k l) n φ μ a w) : Stands (A.k l') n φ μ a w := by
  obtain ⟨C, g, h1, h2, h3, h4⟩ := h
  exact ⟨C, g, h1.unks.ks, h2, h3, h4.1, fun d hd => h4.2 d (hs d hd)⟩

/-- Operations in their order, some of them passed over. -/
theorem ops_wpK {V : Env} {A : Start} {n : Nat} {colsP : Pol} {S : Nat → Option (List PK)} {F : Nat → List X → Option (List X × List X)} {Sg : Nat → Option Sig} {ops : Array Oper} {Q : Exit → Act → World → Prop} (hrg : RgOk A) (hks : A.ks = []) (hlo : A.hd.isSome = true → colsP.lo = true) (hn : n ≤ 1000)
    (hSg : ∀ f sg, Sg f = some sg → S f = some (sg.pms.map PM.pk) ∧ DoesR (Abv A) V f sg (F f)) : ∀ (l : List Oper) (sk : List Nat) (μ μ' : Mu) (φ φ' : Fr) (a : Act) (w : World), Stands (A.k sk) n φ μ a w → evOps V.τ S F ops l φ (some sk) = some φ' → chkOps V.τ Sg colsP n ops l μ = some μ' →
      (∀ a w, Stands A n φ' μ' a w → Q .normal a w) → wpList V.P ops Q l a w
  | [], sk, μ, μ', φ, φ', a, w, hst, hx, hm, hQ => by
    simp only [evOps, Option.some.injEq] at hx
    simp only [chkOps, Option.some.injEq] at hm
    subst hx; subst hm
    exact hQ a w (hst.ks0 hks)
  | o :: rest, sk, μ, μ', φ, φ', a, w, hst, hx, hm, hQ => by
    simp only [chkOps] at hm
    have hkeep : ∀ sk1 : List Nat, dstOk colsP.lo o = true → (∀ d ∈ sk1, o.dst ≠ some d) → Keeps (A.k sk1) o := by
      intro sk1 hds h1
      exact ⟨(dstOk_keeps hks hlo hds).1, h1⟩
    -- what stands when it is put
    have hrm : ∃ sk1, rmS o.dst (some sk) = some sk1 ∧ (∀ d ∈ sk1, d ∈ sk) ∧ ∀ d ∈ sk1, o.dst ≠ some d := by
      cases hd : o.dst with
      | none => exact ⟨sk, rfl, fun d h => h, fun d _ => by simp⟩
      | some d =>
        refine ⟨sk.filter (· != d), rfl, fun d' h => (List.mem_filter.1 h).1, fun d' h e => ?_⟩
        cases e
        simpa using (List.mem_filter.1 h).2
    obtain ⟨sk1, hsk1, hsub, hne⟩ := hrm
    have hst1 := hst.sub hsub
    obtain ⟨C, g, h0, hsz, hdf, hpar⟩ := hst1
    have h := pre_sound colsP o h0
    generalize preM colsP o μ = μ at h hm
    split at hm
    · rename_i hs
      rw [Bool.and_eq_true] at hs
      obtain ⟨hs, hds⟩ := hs
      have hkp := hkeep sk1 hds hne
      have hrg1 : RgOk (A.k sk1) := hrg
      simp only [evOps] at hx
      unfold wpList
      have skip : ∀ (μ1 : Mu) d2 sm, o.dst = some d2 → (μ1 = μ.put d2 sm ∨ weakS (μ.put d2 sm) μ1 = true) → chkOps V.τ Sg colsP n ops rest μ1 = some μ' → evOps V.τ S F ops rest (putRes o.dst [] φ) (addS o.dst (some sk)) = some φ' → wpList V.P ops Q rest (a.put o.dst undef) w := by
        intro μ1 d2 sm hd2 hput hm hx
        rw [hd2] at hx ⊢
        simp only [putRes] at hx
        unfold smallO at hs
        simp only [Bool.and_eq_true] at hs
        have hdn := hs.1.2
        rw [hd2] at hdn
        simp only [Nat.blt_eq] at hdn
        obtain ⟨C2, h2⟩ := skip_st (sm := sm) h (Nat.lt_of_lt_of_le hdn hn) (by rw [hsz]; exact hdn)
        have h3 : ∃ C2, St (A.k sk1) w μ1 (upd φ d2 .u) (tmO (a.put (some d2) undef).tmps g) C2 := by
          rcases hput with rfl | hw
          · exact ⟨C2, h2⟩
          · exact ⟨C2, h2.weak hw⟩
        obtain ⟨C2, h2⟩ := h3
        refine ops_wpK hrg hks hlo hn hSg rest (d2 :: sk) _ μ' _ φ' _ w ⟨C2, g, h2.unks.ks, by rw [put_size]; exact hsz, by rw [put_defers]; exact hdf, ?_⟩ hx hm hQ
        obtain ⟨C', g', k1, k2, k3, k4⟩ := hst
        have hp := hd2 ▸ hpar.put hkp undef
        refine ⟨hp.1, fun d hd => ?_⟩
        rcases List.mem_cons.1 hd with rfl | hd
        · simp [Act.put, Array.getD_eq_getD_getElem?, Array.getElem?_setIfInBounds]
          split <;> simp_all
        · by_cases e : d = d2
          · subst e
            simp [Act.put, Array.getD_eq_getD_getElem?, Array.getElem?_setIfInBounds]
            split <;> simp_all
          · simp only [Act.put, Array.getD_eq_getD_getElem?]
            rw [Array.getElem?_setIfInBounds_ne (fun h => e h.symm)]
            have := k4.2 d hd
            simpa [Array.getD_eq_getD_getElem?] using this
      cases hg : o.guard with
      | none =>
        rw [hg] at hx hm
        simp only at hx hm
        split at hx
        · rename_i φ1 hx1
          rw [hsk1] at hx
          split at hm
          · rename_i μ1 hm1
            rw [if_pos (by simp [Region.wanted, hg])]
            exact .inl (op_wp hrg1 hn hSg hs hsz hdf hpar hkp h hx1 hm1 fun a' w' hst' => ops_wpK hrg hks hlo hn hSg rest sk1 μ1 μ' φ1 φ' a' w' hst' hx hm hQ)
          · cases hm
        · cases hx
      | some jw =>
        obtain ⟨j, want⟩ := jw
        rw [hg] at hx hm
        simp only at hx hm
        split at hm
        · rename_i d hj
          rw [hj] at hx
          simp only at hx
          split at hm
          · rename_i hc
            simp only [Bool.and_eq_true, Nat.blt_eq] at hc
            split at hm
            · rename_i μ1 hm1
              obtain ⟨hm2, d2, sm, hd2, hput⟩ := guardM_put hm1
              split at hx
              · rename_i hin
                have hu : a.tmps.getD d undef = undef := by
                  obtain ⟨C', g', k1, k2, k3, k4⟩ := hst
                  exact k4.2 d (show d ∈ sk from by simpa [inS] using hin)
                have hy : yielded ops a.tmps j = none := by
                  unfold yielded
                  rw [hj]
                  simp only [Option.bind_some]
                  cases hq : a.tmps[d]? with
                  | none => rfl
                  | some v =>
                    simp only [Array.getD_eq_getD_getElem?, hq, Option.getD_some] at hu
                    subst hu
                    rfl
                rw [if_neg (by simp [Region.wanted, hg, hy])]
                exact skip μ1 d2 sm hd2 hput hm hx
              · split at hx
                · rename_i b hb
                  have hbool := slot_bool h hc.1 hc.2 hb
                  have hy : yielded ops a.tmps j = some b := by
                    unfold yielded
                    rw [hj]
                    simp only [Option.bind_some]
                    have : a.tmps[d]? = some (.bool b) := by
                      by_cases hlt : d < a.tmps.size
                      · rw [Array.getElem?_eq_getElem hlt]
                        simp [Array.getD, hlt] at hbool
                        rw [hbool]
                      · simp [Array.getD, hlt] at hbool
                        cases hbool
                    rw [this]
                  split at hx
                  · rename_i hbw
                    split at hx
                    · rename_i φ1 hx1
                      rw [hsk1] at hx
                      rw [if_pos (by simp [Region.wanted, hg, hy, hbw])]
                      exact .inl (op_wp hrg1 hn hSg hs hsz hdf hpar hkp h hx1 hm2 fun a' w' hst' => ops_wpK hrg hks hlo hn hSg rest sk1 μ1 μ' φ1 φ' a' w' hst' hx hm hQ)
                    · cases hx
                  · rename_i hbw
                    rw [if_neg (by simp [Region.wanted, hg, hy, hbw])]
                    exact skip μ1 d2 sm hd2 hput hm hx
                · cases hx
            · cases hm
          · cases hm
        · cases hm
    · cases hm

theorem ops_wp {V : Env} {A : Start} {n : Nat} {colsP : Pol} {S : Nat → Option (List PK)} {F : Nat → List X → Option (List X × List X)} {Sg : Nat → Option Sig} {ops : Array Oper} {Q : Exit → Act → World → Prop} (hrg : RgOk A) (hks : A.ks = []) (hlo : A.hd.isSome = true → colsP.lo = true) (hn : n ≤ 1000)
    (hSg : ∀ f sg, Sg f = some sg → S f = some (sg.pms.map PM.pk) ∧ DoesR (Abv A) V f sg (F f)) (l : List Oper) (μ μ' : Mu) (φ φ' : Fr) (a : Act) (w : World) (hst : Stands A n φ μ a w) (hx : evOps V.τ S F ops l φ (some []) = some φ') (hm : chkOps V.τ Sg colsP n ops l μ = some μ')
    (hQ : ∀ a w, Stands A n φ' μ' a w → Q .normal a w) : wpList V.P ops Q l a w := ops_wpK hrg hks hlo hn hSg l [] μ μ' φ φ' a w hst.ks1 hx hm hQ
end Go.Ev

/- Operations in their order, with what is forgotten ahead of them. -/

/- What an operation answers hangs on what it reads alone. -/
namespace Go.Ev

/-- More is told. -/
def Le (φ φ' : Fr) : Prop := ∀ s, φ s = .u ∨ φ' s = φ s

section
variable {τ : List TE} {φ φ' : Fr}

theorem cpX_u {t : Nat} {x : X} (h : cpX t x ≠ .u) : x ≠ .u := by rintro rfl; exact h rfl

theorem Le.at (h : Le φ φ') {s : Nat} (hs : φ s ≠ .u) : φ' s = φ s := (h s).resolve_left hs

theorem opX_le (h : Le φ φ') (ty : Nat) (y : Operand) (hy : opX τ φ ty y ≠ .u) : opX τ φ' ty y = opX τ φ ty y := by
  unfold opX at hy ⊢
  split
  · rename_i t
    rw [h.at (cpX_u hy)]
  · rfl
  · rfl
  · rfl
  · rfl

theorem opX_le' (h : Le φ φ') {ty : Nat} {y : Operand} {x : X} (hy : opX τ φ ty y = x) (hx : x ≠ .u) : opX τ φ' ty y = x := by
  rw [opX_le h ty y (by rw [hy]; exact hx), hy]

theorem val_le (h : Le φ φ') {ty : Nat} {y : Operand} {v : Value} (hy : (opX τ φ ty y).val = some v) : (opX τ φ' ty y).val = some v := by
  rw [opX_le h ty y (by intro e; rw [e] at hy; cases hy)]; exact hy

theorem int_le (h : Le φ φ') {ty : Nat} {y : Operand} {v : Int} (hy : (opX τ φ ty y).int = some v) : (opX τ φ' ty y).int = some v := by
  rw [opX_le h ty y (by intro e; rw [e] at hy; cases hy)]; exact hy

theorem cells_le (h : Le φ φ') {ty : Nat} {y : Operand} {cs : List D} (hy : (opX τ φ ty y).cells = some cs) : (opX τ φ' ty y).cells = some cs := by
  rw [opX_le h ty y (by intro e; rw [e] at hy; cases hy)]; exact hy

theorem ptX_le (h : Le φ φ') {y : Operand} {p : Pl} (hy : ptX φ y = some p) : ptX φ' y = some p := by
  unfold ptX at hy ⊢
  split at hy
  · rename_i t
    rw [h.at (by intro e; rw [e] at hy; cases hy)]
    exact hy
  · cases hy

theorem cellsAt_le (h : Le φ φ') {p : Pl} {n : Nat} {cs : List D} (hy : cellsAt φ p n = some cs) : cellsAt φ' p n = some cs := by
  unfold cellsAt at hy ⊢
  rw [h.at (by intro e; rw [e] at hy; cases hy)]
  exact hy

theorem loadX_le (h : Le φ φ') {t : Nat} {p : Pl} {x : X} (hy : loadX τ φ t p = some x) : loadX τ φ' t p = some x := by
  unfold loadX at hy ⊢
  split at hy
  · rename_i e he
    split at hy
    · rename_i cs hcs
      rw [cellsAt_le h hcs]
      exact hy
    · cases hy
  · cases hy

theorem fieldX_le (h : Le φ φ') {s f : Nat} {p : Pl} {x : X} (hy : fieldX τ φ s p f = some x) : fieldX τ φ' s p f = some x := by
  unfold fieldX at hy ⊢
  split at hy
  · rename_i e he
    split at hy
    · rename_i off hoff
      split at hy
      · rename_i cs hcs
        rw [cellsAt_le h hcs]
        exact hy
      · cases hy
    · cases hy
  · cases hy

theorem indexX_le (h : Le φ φ') {t : Nat} {y : Operand} {i : Int} {x : X} (hy : indexX τ φ t y i = some x) : indexX τ φ' t y i = some x := by
  unfold indexX at hy ⊢
  split at hy
  · cases hy
  · rename_i hi
    rw [if_neg hi]
    split at hy
    · rename_i e he
      split at hy
      · rename_i hel
        split at hy
        · rename_i hop
          rw [opX_le' h hop (by simp)]
          exact hy
        · cases hy
      · rename_i hel
        split at hy
        · rename_i q1 q2
          rw [ptX_le h q2, q1]
          simp only
          split at hy
          · rename_i hlt
            rw [if_pos hlt]
            split at hy
            · rename_i hcs
              rw [cellsAt_le h hcs]
              exact hy
            · cases hy
          · cases hy
        · cases hy
    · cases hy

theorem capSlots_le (h : Le φ φ') : ∀ {l : List Operand} {r : List Nat}, capSlots φ l = some r → capSlots φ' l = some r
  | [], r, hy => hy
  | y :: l, r, hy => by
    unfold capSlots at hy ⊢
    split at hy
    · rename_i heq; cases heq
    · rename_i t xs heq
      cases heq
      split at hy
      · rename_i h1 h2
        rw [h.at (by rw [h1]; simp)]
        simp only [h1, capSlots_le h h2]
        exact hy
      · cases hy
    · cases hy

theorem fill_le {pl : Nat → Option (Nat × Nat)} (h : Le φ φ') {ty : Nat → Nat} : ∀ (ps : List (Nat × Operand)) (cs cs' : List D), fillX pl cs (partsX τ φ ps ty) = some cs' → fillX pl cs (partsX τ φ' ps ty) = some cs'
  | [], cs, cs', hy => hy
  | p :: ps, cs, cs', hy => by
    simp only [partsX, List.map_cons, fillX] at hy ⊢
    split at hy
    · rename_i q1 q2
      rw [q1]
      simp only [cells_le h q2]
      split at hy
      · rename_i hc
        rw [if_pos hc]
        exact fill_le h ps _ _ hy
      · cases hy
    · cases hy

theorem fillRows_le {z : Nat} (h : Le φ φ') {ty : Nat → Nat} : ∀ (ps : List (Nat × Operand)) (rs rs' : List (List D)), fillRows z rs (partsX τ φ ps ty) = some rs' → fillRows z rs (partsX τ φ' ps ty) = some rs'
  | [], cs, cs', hy => hy
  | p :: ps, cs, cs', hy => by
    simp only [partsX, List.map_cons, fillRows] at hy ⊢
    split at hy
    · rename_i q2
      simp only [cells_le h q2]
      split at hy
      · rename_i hc
        rw [if_pos hc]
        exact fillRows_le h ps _ _ hy
      · cases hy
    · cases hy

theorem bound_le (h : Le φ φ') {d n : Nat} {y : Option Operand} (hy : bound d (y.map (opX τ φ 0)) = some n) : bound d (y.map (opX τ φ' 0)) = some n := by
  cases y with
  | none => exact hy
  | some y =>
    simp only [Option.map_some, bound] at hy ⊢
    split at hy
    · rename_i q
      rw [int_le h q]
      exact hy
    · cases hy

/-- An operation's result stays where more is told. -/
theorem pureX_le (h : Le φ φ') {o : Op} {ty : Nat} {x : X} (hy : pureX τ φ o ty = some x) : pureX τ φ' o ty = some x := by
  cases o with
  | move y =>
    simp only [pureX] at hy ⊢
    rw [opX_le h ty y (by intro e; rw [e] at hy; cases hy)]; exact hy
  | assign y =>
    simp only [pureX] at hy ⊢
    rw [opX_le h ty y (by intro e; rw [e] at hy; cases hy)]; exact hy
  | pick c y z =>
    simp only [pureX] at hy ⊢
    split at hy
    · rename_i b hb
      rw [val_le h hb]
      simp only
      split at hy
      · rename_i v hv
        rw [val_le h hv]; exact hy
      · cases hy
    · cases hy
  | alloc t => exact hy
  | box t y =>
    simp only [pureX] at hy ⊢
    have hy0 := hy
    split at hy
    · rename_i q1 q2
      rw [cells_le h q2, ← q2]; exact hy0
    · cases hy
  | load t y =>
    simp only [pureX] at hy ⊢
    split at hy
    · rename_i q
      rw [ptX_le h q]; exact loadX_le h hy
    · cases hy
  | nilCheck y =>
    simp only [pureX] at hy ⊢
    rw [Option.map_eq_some_iff] at hy
    obtain ⟨p, q, rfl⟩ := hy
    rw [ptX_le h q]; rfl
  | binOp op t y z g =>
    simp only [pureX] at hy ⊢
    by_cases hn : isNil z = true
    · rw [if_pos hn] at hy ⊢
      have h1 : opX τ φ t y ≠ .u := by intro e; rw [e] at hy; simp [nilX] at hy
      rw [opX_le h t y h1]; exact hy
    rw [if_neg hn] at hy ⊢
    have h1 : opX τ φ t y ≠ .u := by intro e; rw [e] at hy; simp [binX] at hy
    have h2 : opX τ φ t z ≠ .u := by intro e; rw [e] at hy; unfold binX at hy; split at hy <;> simp_all
    rw [opX_le h t y h1, opX_le h t z h2]; exact hy
  | unOp op t y =>
    simp only [pureX] at hy ⊢
    split at hy
    · rename_i q
      rw [val_le h q]; exact hy
    · cases hy
  | fieldAddr s y f =>
    simp only [pureX] at hy ⊢
    split at hy
    · rename_i q
      rw [ptX_le h q]; exact fieldX_le h hy
    · cases hy
  | indexAddr t y i =>
    simp only [pureX] at hy ⊢
    split at hy
    · rename_i q
      rw [int_le h q]; exact indexX_le h hy
    · cases hy
  | index t y i =>
    simp only [pureX] at hy ⊢
    unfold strIndexX at hy ⊢
    split at hy
    · rename_i q1 q2
      rw [opX_le' h q1 (by simp), int_le h q2]; exact hy
    · cases hy
  | extract y i =>
    cases y with
    | tmp t =>
      simp only [pureX] at hy ⊢
      split at hy
      · rename_i q
        rw [h.at (by rw [q]; simp), q]
        simp only
        split at hy
        · rename_i hc
          rw [if_pos hc]
          rw [h.at (by intro e; rw [e] at hy; cases hy)]; exact hy
        · cases hy
      · cases hy
    | _ => cases hy
  | slice t y lo hi mx =>
    simp only [pureX] at hy ⊢
    unfold sliceX at hy ⊢
    split at hy
    · rename_i q
      rw [opX_le' h q (by simp)]
      simp only
      split at hy
      · rename_i e he
        split at hy
        · rename_i hk
          rw [if_pos hk]
          split at hy
          · rename_i q1 q2 q3
            rw [bound_le h q1, bound_le h q2]
            rw [Option.map_eq_none_iff] at q3
            subst q3
            exact hy
          · cases hy
        · cases hy
      · cases hy
    · rename_i q
      rw [opX_le' h q (by simp)]
      simp only
      split at hy
      · rename_i hk
        rw [if_pos hk]
        split at hy
        · rename_i q1 q2
          rw [bound_le h q1, bound_le h q2]
          simp only
          split at hy
          · rename_i q3
            rw [Option.map_eq_none_iff] at q3
            subst q3
            exact hy
          · rename_i q3
            rw [Option.map_eq_some_iff] at q3
            obtain ⟨m, rfl, rfl⟩ := q3
            split at hy
            · rename_i hc
              simp only [Option.map_some]
              rw [if_pos ⟨by simpa using hc.1, int_le h hc.2.1, hc.2.2⟩]
              exact hy
            · cases hy
        · cases hy
      · cases hy
    · cases hy
  | convert s d y =>
    simp only [pureX] at hy ⊢
    have h1 : opX τ φ s y ≠ .u := by intro e; rw [e] at hy; unfold convX at hy; split at hy <;> simp_all
    rw [opX_le h s y h1]; exact hy
  | makeSlice t n c =>
    simp only [pureX] at hy ⊢
    split at hy
    · rename_i q1 q2
      rw [int_le h q1, int_le h q2]; exact hy
    · cases hy
  | build t ps =>
    simp only [pureX] at hy ⊢
    unfold buildX at hy ⊢
    split at hy
    · rename_i e he
      split at hy
      · rename_i hc
        rw [if_pos hc]
        split at hy
        · split at hy
          · rename_i q
            rw [fill_le h _ _ _ q]; exact hy
          · cases hy
        · split at hy
          · rename_i q
            rw [fill_le h _ _ _ q]; exact hy
          · cases hy
      · cases hy
    · cases hy
  | buildSlice t n ps =>
    simp only [pureX] at hy ⊢
    unfold buildSliceX at hy ⊢
    split at hy
    · split at hy
      · split at hy
        · split at hy
          · rename_i hc
            rw [if_pos hc]
            split at hy
            · rename_i q
              rw [fillRows_le h _ _ _ q]; exact hy
            · cases hy
          · cases hy
        · cases hy
      · cases hy
    · cases hy
  | makeFunc f fs cs =>
    cases f with
    | func f =>
      simp only [pureX] at hy ⊢
      split at hy
      · rename_i hc
        rw [if_pos hc]
        rw [Option.map_eq_some_iff] at hy ⊢
        obtain ⟨l, q, rfl⟩ := hy
        exact ⟨l, capSlots_le h q, rfl⟩
      · cases hy
    | _ => cases hy
  | call c =>
    simp only [pureX] at hy ⊢
    split at hy
    · rename_i y t q1 q2 q3
      have h1 : opX τ φ t y ≠ .u := by intro e; rw [e] at hy; unfold lenX at hy; split at hy <;> simp_all
      rw [opX_le h t y h1]; exact hy
    · rename_i y z t t' q1 q2 q3
      have h1 : opX τ φ t y ≠ .u := by intro e; rw [e] at hy; unfold appX at hy; split at hy <;> (try split at hy) <;> simp_all
      have h2 : opX τ φ t' z ≠ .u := by
        intro e; rw [e] at hy; unfold appX at hy
        repeat' (split at hy)
        all_goals simp_all
      rw [opX_le h t y h1, opX_le h t' z h2]; exact hy
    · rename_i y z q1 q2
      have h1 : opX τ φ 0 y ≠ .u := by intro e; rw [e] at hy; simp [mmX] at hy
      have h2 : opX τ φ 0 z ≠ .u := by intro e; rw [e] at hy; unfold mmX at hy; split at hy <;> simp_all
      rw [opX_le h 0 y h1, opX_le h 0 z h2]; exact hy
    · rename_i y z q1 q2
      have h1 : opX τ φ 0 y ≠ .u := by intro e; rw [e] at hy; simp [mmX] at hy
      have h2 : opX τ φ 0 z ≠ .u := by intro e; rw [e] at hy; unfold mmX at hy; split at hy <;> simp_all
      rw [opX_le h 0 y h1, opX_le h 0 z h2]; exact hy
    · cases hy
  | _ => cases hy

/-- The same of arguments that are read. -/
theorem capsX_le (h : Le φ φ') : ∀ {l : List Nat} {r : List (List D)}, capsX φ l = some r → capsX φ' l = some r
  | [], r, hy => hy
  | s :: l, r, hy => by
    unfold capsX at hy ⊢
    split at hy
    · rename_i h1 h2
      rw [h.at (by rw [h1]; simp), h1, capsX_le h h2]
      exact hy
    · cases hy

theorem argX_le0 (h : Le φ φ') {y : Operand} {ty : Nat} {x : X} (hy : argX τ φ .val y ty = some x) : argX τ φ' .val y ty = some x := by
  simp only [argX] at hy ⊢
  have h1 : opX τ φ ty y ≠ .u := by intro e; rw [e] at hy; cases hy
  rw [opX_le h ty y h1]
  split at hy
  · exact hy
  · exact hy
  · rw [Option.map_eq_some_iff] at hy
    obtain ⟨r, q2, rfl⟩ := hy
    simp only [capsX_le h q2, Option.map_some]
  · exact hy
  · cases hy

theorem argX_le (h : Le φ φ') {k : PK} {y : Operand} {ty : Nat} {x : X} (hk : k.q = true) (hy : argX τ φ k y ty = some x) : argX τ φ' k y ty = some x := by
  cases k with
  | val => exact argX_le0 h hy
  | rptr n =>
    simp only [argX] at hy ⊢
    split at hy
    · rename_i p q
      rw [ptX_le h q]
      rw [Option.map_eq_some_iff] at hy
      obtain ⟨cs, q2, rfl⟩ := hy
      simp only [cellsAt_le h q2, Option.map_some]
    · cases hy
  | _ => cases hk

theorem argsX_le (h : Le φ φ') : ∀ {ks : List PK} {ys : List Operand} {tys : List Nat} {xs : List X}, (∀ k ∈ ks, k.q = true) → argsX τ φ ks ys tys = some xs → argsX τ φ' ks ys tys = some xs
  | [], [], [], xs, _, hy => hy
  | k :: ks, y :: ys, t :: ts, xs, hk, hy => by
    simp only [argsX] at hy ⊢
    split at hy
    · rename_i q1 q2
      rw [argX_le h (hk k (by simp)) q1, argsX_le h (fun k' hk' => hk k' (by simp [hk'])) q2]
      exact hy
    · cases hy
  | [], _ :: _, _, _, _, hy => by simp [argsX] at hy
  | [], [], _ :: _, _, _, hy => by simp [argsX] at hy
  | _ :: _, [], _, _, _, hy => by simp [argsX] at hy
  | _ :: _, _ :: _, [], _, _, hy => by simp [argsX] at hy
end
end Go.Ev

/- One operation of a list; the tail of a region whose order is drawn. -/
namespace Go.Ev

theorem op_step {V : Env} {A : Start} {n : Nat} {colsP : Pol} {S : Nat → Option (List PK)} {F : Nat → List X → Option (List X × List X)} {Sg : Nat → Option Sig} {ops : Array Oper} {K : Act → World → Prop} {Q : Exit → Act → World → Prop} (hrg : RgOk A) (hks : A.ks = []) (hlo : A.hd.isSome = true → colsP.lo = true) (hn : n ≤ 1000)
    (hSg : ∀ f sg, Sg f = some sg → S f = some (sg.pms.map PM.pk) ∧ DoesR (Abv A) V f sg (F f)) {o : Oper} {rest : List Oper} {μ μ' : Mu} {φ φ' : Fr} {a : Act} {w : World} (hst : Stands A n φ μ a w) (hx : evOps V.τ S F ops (o :: rest) φ = some φ') (hm : chkOps V.τ Sg colsP n ops (o :: rest) μ = some μ')
    (hK : ∀ φ1 μ1 a w, Stands A n φ1 μ1 a w → evOps V.τ S F ops rest φ1 = some φ' → chkOps V.τ Sg colsP n ops rest μ1 = some μ' → K a w) :
    if Region.wanted o (yielded ops a.tmps) then o.wp V.P a w K Q ∨ (o.asks V.P a w ∧ LetsOut Q) else K (a.put o.dst undef) w := by
  obtain ⟨C, g, h0, hsz, hdf, hpar⟩ := hst
  have h := pre_sound colsP o h0
  simp only [chkOps] at hm
  generalize preM colsP o μ = μ at h hm
  split at hm
  · rename_i hs
    rw [Bool.and_eq_true] at hs
    obtain ⟨hs, hds⟩ := hs
    have hkp := dstOk_keeps hks hlo hds
    simp only [evOps, rmS_none, addS_none, inS_none, Bool.false_eq_true, if_false] at hx
    cases hg : o.guard with
    | none =>
      rw [hg] at hx hm
      simp only at hx hm
      split at hx
      · rename_i φ1 hx1
        split at hm
        · rename_i μ1 hm1
          rw [if_pos (by simp [Region.wanted, hg])]
          exact .inl (op_wp hrg hn hSg hs hsz hdf hpar hkp h hx1 hm1 fun a' w' hst' => hK φ1 μ1 a' w' hst' hx hm)
        · cases hm
      · cases hx
    | some jw =>
      obtain ⟨j, want⟩ := jw
      rw [hg] at hx hm
      simp only at hx hm
      split at hm
      · rename_i d hj
        rw [hj] at hx
        simp only at hx
        split at hm
        · rename_i hc
          simp only [Bool.and_eq_true, Nat.blt_eq] at hc
          split at hm
          · rename_i μ1 hm1
            obtain ⟨hm2, d2, sm, hd2, hput⟩ := guardM_put hm1
            split at hx
            · rename_i b hb
              have hbool := slot_bool h hc.1 hc.2 hb
              have hy : yielded ops a.tmps j = some b := by
                unfold yielded
                rw [hj]
                simp only [Option.bind_some]
                have : a.tmps[d]? = some (.bool b) := by
                  by_cases hlt : d < a.tmps.size
                  · rw [Array.getElem?_eq_getElem hlt]
                    simp [Array.getD, hlt] at hbool
                    rw [hbool]
                  · simp [Array.getD, hlt] at hbool
                    cases hbool
                rw [this]
              split at hx
              · rename_i hbw
                split at hx
                · rename_i φ1 hx1
                  rw [if_pos (by simp [Region.wanted, hg, hy, hbw])]
                  exact .inl (op_wp hrg hn hSg hs hsz hdf hpar hkp h hx1 hm2 fun a' w' hst' => hK φ1 μ1 a' w' hst' hx hm)
                · cases hx
              · rename_i hbw
                rw [if_neg (by simp [Region.wanted, hg, hy, hbw])]
                rw [hd2] at hx ⊢
                simp only [putRes] at hx
                unfold smallO at hs
                simp only [Bool.and_eq_true] at hs
                have hdn := hs.1.2
                rw [hd2] at hdn
                simp only [Nat.blt_eq] at hdn
                obtain ⟨C2, h2⟩ := skip_st (sm := sm) h (Nat.lt_of_lt_of_le hdn hn) (by rw [hsz]; exact hdn)
                have h3 : ∃ C2, St A w μ1 (upd φ d2 .u) (tmO (a.put (some d2) undef).tmps g) C2 := by
                  rcases hput with rfl | hw
                  · exact ⟨C2, h2⟩
                  · exact ⟨C2, h2.weak hw⟩
                obtain ⟨C2, h2⟩ := h3
                exact hK _ _ _ w ⟨C2, g, h2, by rw [put_size]; exact hsz, by rw [put_defers]; exact hdf, hd2 ▸ hpar.put hkp _⟩ hx hm
            · cases hx
          · cases hm
        · cases hm
      · cases hm
  · cases hm

/-- The operations behind the cut, in their one order. -/
theorem tail_wp {V : Env} {A : Start} {n : Nat} {colsP : Pol} {S : Nat → Option (List PK)} {F : Nat → List X → Option (List X × List X)} {Sg : Nat → Option Sig} {ops : Array Oper} {Q : Exit → Act → World → Prop} (hrg : RgOk A) (hks : A.ks = []) (hlo : A.hd.isSome = true → colsP.lo = true) (hn : n ≤ 1000)
    (hSg : ∀ f sg, Sg f = some sg → S f = some (sg.pms.map PM.pk) ∧ DoesR (Abv A) V f sg (F f)) {φ' : Fr} {μ' : Mu} (hQ : ∀ a w, Stands A n φ' μ' a w → Q .normal a w) {m : Nat}
    (hseq : ∀ i o, ops[i]? = some o → m ≤ i → ∀ j, j < i → ∀ (listed : Array Bool), (∀ k, listed.getD k false = true → ∀ b, b < k → listed.getD b false = true) → i ∈ Region.ready .any ops listed → listed.getD j false = true)
    (hrdy : ∀ i (listed : Array Bool), i < ops.size → listed.getD i true = false → (∀ j, j < i → listed.getD j false = true) → i ∈ Region.ready .any ops listed) :
    ∀ (rest : List Oper) (i : Nat) (fuel : Nat) (listed : Array Bool) (φ : Fr) (μ : Mu) (a : Act) (w : World), m ≤ i → rest = ops.toList.drop i → listed.size = ops.size →
      (∀ j, j < i → listed.getD j false = true) → (∀ j, i ≤ j → j < ops.size → listed.getD j true = false) → rest.length ≤ fuel →
      Stands A n φ μ a w → evOps V.τ S F ops rest φ = some φ' → chkOps V.τ Sg colsP n ops rest μ = some μ' → wpAny V.P .any ops Q fuel listed a w
  | [], i, fuel, listed, φ, μ, a, w, hmi, hr, hls, hl, hu, hf, hst, hx, hm => by
    simp only [evOps, Option.some.injEq] at hx
    simp only [chkOps, Option.some.injEq] at hm
    subst hx; subst hm
    refine wpAny_done ?_ (hQ a w hst) fuel
    have : ops.size ≤ i := by
      have := congrArg List.length hr
      simp at this
      omega
    apply List.eq_nil_iff_forall_not_mem.2
    intro j hj
    obtain ⟨h1, o, h2, _⟩ := mem_ready.1 hj
    have hlt := (Array.getElem?_eq_some_iff.1 h2).1
    have h3 := hl j (by omega)
    rw [Array.getD_eq_getD_getElem?] at h1 h3
    have : j < listed.size := by omega
    simp [this] at h1 h3
    rw [h3] at h1; cases h1
  | o :: rest, i, fuel, listed, φ, μ, a, w, hmi, hr, hls, hl, hu, hf, hst, hx, hm => by
    have hio : ops[i]? = some o := by
      have := congrArg (·[0]?) hr
      simp at this
      exact this.symm
    have hi : i < ops.size := (Array.getElem?_eq_some_iff.1 hio).1
    have hrest : rest = ops.toList.drop (i + 1) := by
      have := congrArg (List.drop 1) hr
      simpa using this
    cases fuel with
    | zero => simp at hf
    | succ fuel =>
      have hi0 : listed.getD i true = false := hu i (Nat.le_refl _) hi
      have hin : i ∈ Region.ready .any ops listed := hrdy i listed hi hi0 hl
      refine ⟨fun e => absurd (e ▸ hin) (by simp), fun j hj => ?_⟩
      have hji : j = i := by
        obtain ⟨h1, oj, h2, _⟩ := mem_ready.1 hj
        have hjs := (Array.getElem?_eq_some_iff.1 h2).1
        rcases Nat.lt_trichotomy j i with h3 | h3 | h3
        · have h4 := hl j h3
          rw [Array.getD_eq_getD_getElem?] at h1 h4
          have : j < listed.size := by omega
          simp [this] at h1 h4
          rw [h4] at h1; cases h1
        · exact h3
        · have h4 := hseq j oj h2 (by omega) i h3 listed (fun k hk b hb => by
            by_cases hki : k < i
            · exact hl b (by omega)
            · by_cases hks : k < ops.size
              · have h5 := hu k (by omega) hks
                rw [Array.getD_eq_getD_getElem?] at hk h5
                have : k < listed.size := by omega
                simp [this] at hk h5
                rw [hk] at h5; cases h5
              · rw [Array.getD_eq_getD_getElem?] at hk
                have : ¬ k < listed.size := by omega
                simp [this] at hk) hj
          have h5 := hi0
          rw [Array.getD_eq_getD_getElem?] at h4 h5
          have : i < listed.size := by omega
          simp [this] at h4 h5
          rw [h4] at h5; cases h5
      subst hji
      unfold wpOp
      rw [hio]
      refine op_step hrg hks hlo hn hSg hst hx hm fun φ1 μ1 a' w' hst' hx' hm' => ?_
      refine tail_wp hrg hks hlo hn hSg hQ hseq hrdy rest (j + 1) fuel _ φ1 μ1 a' w' (by omega) hrest (by simpa using hls) ?_ ?_ (by simpa using hf) hst' hx' hm'
      · intro k hk
        by_cases e : k = j
        · subst e
          have : k < listed.size := by omega
          simp [this]
        · exact getD_set_true (hl k (by omega))
      · intro k hk hks
        rw [getD_set_ne true (by omega)]
        exact hu k (by omega) hks

end Go.Ev

/- Operations that may go in any order: each by itself. -/
namespace Go.Ev

/-- Operations that leave nothing but one result. -/
def pureK (o : Op) : Bool := match o with
  | .store _ _ _ => false
  | .box _ _ => false
  | .call c => match c.callee with
    | .value _ => false
    | .builtin .append => false
    | _ => true
  | _ => true

/-- A copy that is put into a variable: a view. -/
def assignJ (μ : Mu) (x : Operand) : Option SM := match opM μ x with
  | .c m _ => some (.c m .no)
  | .agg ms _ => some (.agg ms .no)
  | _ => none

def pureJ (τ : List TE) (cols : List M) (μ : Mu) (o : Op) : Option SM := match o with
  | .assign x => assignJ μ x
  | o => pureM τ cols μ o

theorem pureJ_eq {τ : List TE} {cols : List M} {μ : Mu} {o : Op} (h : ∀ x, o ≠ .assign x) : pureJ τ cols μ o = pureM τ cols μ o := by
  unfold pureJ
  split
  · rename_i x; exact (h x rfl).elim
  · rfl

/-- The modes of the results of an operation that may go in any order. -/
def judge (τ : List TE) (Sg : Nat → Option Sig) (cols : List M) (o : Oper) (μ : Mu) : Option (List SM) := if pureK o.op then (pureJ τ cols μ o.op).map fun sm => [sm] else match o.op with
  | .call c => match c.callee with
    | .value (.func f) => match Sg f with
      | some sg => if sg.tys = c.argTypes.toList ∧ sg.res.all SM.resOk = true then (match argsQ τ μ sg.pms c.args.toList c.argTypes.toList with
        | some as => some (sg.res.map (SM.map (substQ as)))
        | none => none) else none
      | none => none
    | _ => none
  | _ => none

section
variable {V : Env} {A : Start} {w w' : World} {μ μ' : Mu} {φ φ' : Fr} {C : Cx} {a : Act} {g : Nat → Value} {o : Oper} {x : X}
variable {S : Nat → Option (List PK)} {F : Nat → List X → Option (List X × List X)} {Sg : Nat → Option Sig} {τ : List TE}

theorem assign_pure {y : Operand} {sm : SM} (ho : o.op = .assign y) (h : St A w μ φ (tmO a.tmps g) C) (hs : sm1 y = true) (hx : pureX V.τ φ o.op o.type = some x) (hm : assignJ μ y = some sm) : PureOk V w C φ (tmO a.tmps g) a o x sm := by
  rw [ho] at hx
  simp only [pureX] at hx
  have hrun : (execOp a.eval o).run V.P w = .ok (.value (a.eval y)) w := by simp [execOp, ho]
  have hu : opX V.τ φ o.type y ≠ .u := by intro e; rw [e] at hx; cases hx
  have hxe : x = ownX (opX V.τ φ o.type y) := by
    generalize opX V.τ φ o.type y = q at hx hu
    cases q <;> first | exact (hu rfl).elim | (simp only [Option.some.injEq] at hx; exact hx.symm)
  have hcl := fun s => op_sound (s := s) h hs (τ := V.τ) (ty := o.type) hu
  have hno := opM_noOwn μ y
  unfold assignJ at hm
  refine .inl ⟨a.eval y, hrun, ?_⟩
  split at hm
  · rename_i m og hop
    cases hm
    rw [hop] at hno hcl
    refine ⟨hno, fun s => ?_⟩
    obtain ⟨d, o', e1, e2, _⟩ := hcl s
    rw [hxe, e1]
    exact ⟨d, none, rfl, e2, fun _ => rfl⟩
  · rename_i ms og hop
    cases hm
    rw [hop] at hno hcl
    refine ⟨hno, fun s => ?_⟩
    obtain ⟨ds, o', vs, e1, e2, e3, e4, e5, _⟩ := hcl s
    rw [hxe, e1]
    exact ⟨ds, none, vs, rfl, e2, e3, e4, e5, rfl⟩
  · cases hm

/-- What an operation answers. -/
def Yields (τ : List TE) (S : Nat → Option (List PK)) (F : Nat → List X → Option (List X × List X)) (φ : Fr) (o : Oper) (rs : List X) : Prop :=
  rs.length ≤ 8 ∧ ((pureK o.op = true ∧ ∃ x, pureX τ φ o.op o.type = some x ∧ rs = [x]) ∨
  (∃ c f ks as outs, o.op = .call c ∧ c.callee = .value (.func f) ∧ S f = some ks ∧ (∀ k ∈ ks, k.q = true) ∧ argsX τ φ (ks.take c.args.size) c.args.toList c.argTypes.toList = some as ∧ F f as = some (rs, outs)))

theorem Yields.le {rs : List X} (hl : Le φ φ') (h : Yields τ S F φ o rs) : Yields τ S F φ' o rs := by
  refine ⟨h.1, ?_⟩
  rcases h.2 with ⟨h1, x, h2, h3⟩ | ⟨c, f, ks, as, outs, h1, h2, h3, h4, h5, h6⟩
  · exact .inl ⟨h1, x, pureX_le hl h2, h3⟩
  · exact .inr ⟨c, f, ks, as, outs, h1, h2, h3, h4, argsX_le hl (fun k hk => h4 k (List.mem_of_mem_take hk)) h5, h6⟩

theorem evOp_pure (hk : pureK o.op = true) (h : evOp τ S F o φ = some φ') : ∃ x, pureX τ φ o.op o.type = some x ∧ φ' = putRes o.dst [x] φ := by
  have fin : ∀ {q : Option X}, (match q with | some x => some (putRes o.dst [x] φ) | none => none) = some φ' → ∃ x, q = some x ∧ φ' = putRes o.dst [x] φ := by
    intro q hq
    cases q with
    | none => cases hq
    | some x => exact ⟨x, rfl, by simpa using hq.symm⟩
  unfold evOp at h
  cases ho : o.op with
  | store t y z => rw [ho] at hk; cases hk
  | call c =>
    rw [ho] at hk h
    simp only [pureK] at hk
    simp only at h
    split at h
    · rename_i e; rw [e] at hk; cases hk
    · rename_i e; rw [e] at hk; cases hk
    · exact fin h
  | _ => rw [ho] at h; exact fin h

theorem evOp_yields {cols : List M} {ms : List SM} (hSg : ∀ f sg, Sg f = some sg → S f = some (sg.pms.map PM.pk)) (hj : judge τ Sg cols o μ = some ms) (h : evOp τ S F o φ = some φ') : ∃ rs, Yields τ S F φ o rs ∧ φ' = putRes o.dst rs φ := by
  unfold judge at hj
  split at hj
  · rename_i hk
    obtain ⟨x, h1, h2⟩ := evOp_pure hk h
    exact ⟨[x], ⟨by simp, .inl ⟨hk, x, h1, rfl⟩⟩, h2⟩
  · split at hj
    · rename_i c ho
      split at hj
      · rename_i f hc
        split at hj
        · rename_i sg hsg
          split at hj
          · split at hj
            · rename_i as has
              have hS := hSg f sg hsg
              have hval : ∀ k ∈ sg.pms.map PM.pk, k.q = true := by
                intro k hk
                rw [List.mem_map] at hk
                obtain ⟨pm, hpm, rfl⟩ := hk
                exact argsQ_val has pm hpm
              unfold evOp at h
              rw [ho] at h
              simp only [hc] at h
              unfold callX at h
              rw [hS] at h
              simp only at h
              split at h
              · rename_i xs hxs
                split at h
                · rename_i rs outs hF
                  rw [List.append_nil] at hF
                  split at h
                  · rename_i h8
                    split at h
                    · rename_i φ1 hback
                      cases h
                      have hφ1 := backs_val (fun k hk => hval k (List.mem_of_mem_take hk)) hback
                      subst hφ1
                      exact ⟨rs, ⟨h8, .inr ⟨c, f, _, xs, outs, ho, hc, hS, hval, hxs, hF⟩⟩, rfl⟩
                    · cases h
                  · cases h
                · cases h
              · cases h
            · cases hj
          · cases hj
        · cases hj
      · cases hj
    · cases hj

theorem argsQ_len {μ : Mu} : ∀ {pms : List PM} {ys : List Operand} {tys : List Nat} {pss : List (List Pv)}, argsQ τ μ pms ys tys = some pss → pms.length = ys.length := by
  intro pms
  induction pms with
  | nil => intro ys tys pss hq; cases ys <;> cases tys <;> simp_all [argsQ]
  | cons pm pms ih =>
    intro ys tys pss hq
    cases ys with
    | nil => simp [argsQ] at hq
    | cons y ys =>
      cases tys with
      | nil => simp [argsQ] at hq
      | cons t tys =>
        simp only [argsQ] at hq
        split at hq
        · rename_i p ps hp hps; simp [ih hps]
        · cases hq

/-- An operation that is judged by less than is known. -/
theorem settle_op {n : Nat} {cols : List M} {ms : List SM} {rs : List X} {μi μD μD' : Mu} {next : Act → World → Prop} {Q : Exit → Act → World → Prop} (hn : n ≤ 1000)
    (hSg : ∀ f sg, Sg f = some sg → S f = some (sg.pms.map PM.pk) ∧ DoesR (Abv A) V f sg (F f)) (hs : smallO n o = true) (hsz : a.tmps.size = n) (hdf : a.defers = []) (hpar : Par A a) (hkp : Keeps A o) (hi : St A w μi φ (tmO a.tmps g) C) (h : St A w μD φ (tmO a.tmps g) C)
    (hj : judge V.τ Sg cols o μi = some ms) (hy : Yields V.τ S F φ o rs) (hp : putResM o.dst ms μD = some μD') (hK : ∀ a w, Stands A n (putRes o.dst rs φ) μD' a w → next a w) : o.wp V.P a w next Q := by
  have hs' := hs
  unfold smallO at hs'
  simp only [Bool.and_eq_true] at hs'
  obtain ⟨⟨hso, hsd⟩, _⟩ := hs'
  have hdst : ∀ d, o.dst = some d → d < 1000 ∧ d < a.tmps.size := by
    intro d hd
    rw [hd] at hsd
    have : Nat.lt d n := by simpa [Nat.blt_eq] using hsd
    have : @LT.lt Nat _ d n := this
    exact ⟨Nat.lt_of_lt_of_le this hn, by rw [hsz]; exact this⟩
  obtain ⟨h8, hy⟩ := hy
  unfold judge at hj
  rcases hy with ⟨hk, x, hx, rfl⟩ | ⟨c, f, ks, as, outs, ho, hc, hks, hval, has, hF⟩
  · rw [if_pos hk] at hj
    rw [Option.map_eq_some_iff] at hj
    obtain ⟨sm, hsm, rfl⟩ := hj
    have hpo : PureOk V w C φ (tmO a.tmps g) a o x sm := by
      by_cases he : ∃ y, o.op = .assign y
      · obtain ⟨y, he⟩ := he
        rw [he] at hsm
        exact assign_pure he hi (by rw [he] at hso; simpa [Op.operands] using hso) hx hsm
      · rw [pureJ_eq fun y e => he ⟨y, e⟩] at hsm
        exact pure_sound (V := V) hi hso hx hsm
    refine OpOk.wp (n := n) (φ' := putRes o.dst [x] φ) (μ' := μD') (g := g) ?_ hsz hdf hpar hkp hK
    cases hds : o.dst with
    | none =>
      rw [hds] at hp
      simp only [putResM, Option.some.injEq] at hp
      subst hp
      rcases hpo with ⟨v, h1, _⟩ | ⟨v, w', h1, h2, _⟩
      · exact ⟨_, v, w, C, g, h1, .inl rfl, by rw [hds]; exact h⟩
      · exact ⟨_, v, w', C, g, h1, .inl rfl, by rw [hds]; exact h.ext h2⟩
    | some d =>
      obtain ⟨d1, d2⟩ := hdst d hds
      rw [hds] at hp
      simp only [putResM, Option.some.injEq] at hp
      subst hp
      obtain ⟨v, w', C', h1, _, h3⟩ := hpo.st h d1 d2
      exact ⟨_, v, w', C', g, h1, .inl rfl, by rw [hds]; exact h3⟩
  · have hnk : pureK o.op = false := by rw [ho]; simp [pureK, hc]
    rw [hnk] at hj
    simp only [ho, hc, Bool.false_eq_true, if_false] at hj
    split at hj
    · rename_i sg hsg
      obtain ⟨hS, hD⟩ := hSg f sg hsg
      split at hj
      · rename_i hcond
        obtain ⟨hty, hok⟩ := hcond
        split at hj
        · rename_i pss hpss
          cases hj
          rw [hS] at hks
          cases hks
          have hl := argsQ_len hpss
          have hl0 : c.args.toList.length = c.args.size := by simp
          rw [List.take_of_length_le (by rw [List.length_map]; omega)] at has
          have hsa : c.args.toList.all sm1 = true := by
            rw [ho] at hso
            simp only [Op.operands, Call.operands, Array.all_append, Bool.and_eq_true] at hso
            simpa using hso.2
          obtain ⟨l1, l2, l3, harg⟩ := argsQ_sound hi hsa has hpss
          obtain ⟨⟨fn, b, hf, hbd, hname⟩, hD, _⟩ := hD
          have hD := hD (argsQ_quiet hpss)
          have hrun : (execOp a.eval o).run V.P w = .ok (.enter f (c.args.toList.map a.eval).toArray) w := by
            have e1 : c.args.map a.eval = (c.args.toList.map a.eval).toArray := by apply Array.ext'; simp
            simp only [execOp, ho, resolve, hc]
            have e2 : a.eval (.func f) = .func (.func f) #[] #[] := rfl
            simp [e2, Deferred.ofValue, invoke, callFunc, hf, hname, hbd, e1]
          unfold Oper.wp
          rw [hrun, Oper.upon_enter]
          refine (hD w C.G (fun i => okB C (pss.getD i [])) (c.args.toList.map a.eval) as h.abv (by simpa using l2) l1 (fun b hb => (h.frz b hb).1) (fun i b hb => h.ok_lt hb) ?_ rs outs hF).mono ?_
          · intro i x v pm ty q1 q2 q3 q4
            rw [List.getElem?_map, Option.map_eq_some_iff] at q2
            obtain ⟨y, hy, rfl⟩ := q2
            exact harg i x y pm ty q1 hy q3 (by rw [← hty]; exact q4)
          · rintro e w' ⟨vs, C', rfl, hdone⟩
            obtain ⟨C2, g', h2⟩ := call_put (o := o) h hdst (fun b hb => hb) (fun i b hb => hb) hdone hok h8 hp
            exact hK _ _ ⟨C2, g', h2, by rw [put_size]; exact hsz, by rw [put_defers]; exact hdf, hpar.put hkp _⟩
        · cases hj
      · cases hj
    · cases hj
end
end Go.Ev

/- Results that may come in any order: the frame behind them. -/
namespace Go.Ev

theorem hit_disj {d d' s : Nat} (h1 : d < 1000) (h2 : d' < 1000) (h : hit d s = true) (h' : hit d' s = true) : d = d' := by
  unfold hit isCix cix at h h'
  simp only [Bool.or_eq_true, beq_iff_eq, Bool.and_eq_true, decide_eq_true_iff] at h h'
  omega

def patch (f : Nat → Option X) (φ : Fr) : Fr := fun s => match f s with
  | some x => x
  | none => φ s

theorem patch_patch (f g : Nat → Option X) (φ : Fr) : patch f (patch g φ) = patch (fun s => match f s with | some x => some x | none => g s) φ := by
  funext s
  cases e : f s <;> simp [patch, e]

theorem upd_patch (t : Nat) (x : X) (φ : Fr) : upd φ t x = patch (fun s => if s = t then some x else none) φ := by
  funext s
  unfold upd patch
  by_cases e : s = t <;> simp [e]

theorem putComps_patch (t : Nat) : ∀ (rs : List X) (i : Nat), ∃ f, (∀ φ, putComps t i rs φ = patch f φ) ∧ ∀ s, f s ≠ none → ∃ k, k < rs.length ∧ s = cix t (i + k)
  | [], i => ⟨fun _ => none, fun φ => rfl, by simp⟩
  | x :: rs, i => by
    obtain ⟨f, h1, h2⟩ := putComps_patch t rs (i + 1)
    refine ⟨_, fun φ => by rw [putComps, h1, upd_patch, patch_patch], ?_⟩
    intro s hs
    split at hs
    · rename_i y hy
      obtain ⟨k, hk, e⟩ := h2 s (by rw [hy]; simp)
      exact ⟨k + 1, by simpa using hk, by rw [e]; congr 1; omega⟩
    · split at hs
      · rename_i e; exact ⟨0, by simp, e⟩
      · exact (hs rfl).elim

theorem putRes_patch (dst : Option Tmp) (rs : List X) (h8 : rs.length ≤ 8) : ∃ f, (∀ φ, putRes dst rs φ = patch f φ) ∧ ∀ s, f s ≠ none → ∃ d, dst = some d ∧ hit d s = true := by
  cases dst with
  | none => exact ⟨fun _ => none, fun φ => rfl, by simp⟩
  | some d =>
    have one : ∀ x : X, ∃ f, (∀ φ, upd φ d x = patch f φ) ∧ ∀ s, f s ≠ none → ∃ d', some d = some d' ∧ hit d' s = true := fun x =>
      ⟨_, fun φ => upd_patch d x φ, fun s hs => by
        by_cases e : s = d
        · exact ⟨d, rfl, by rw [e]; exact hit_self d⟩
        · simp [e] at hs⟩
    match rs with
    | [] => exact one .u
    | [r] => exact one r
    | r1 :: r2 :: rs =>
      obtain ⟨f, h1, h2⟩ := putComps_patch d (r1 :: r2 :: rs) 0
      refine ⟨_, fun φ => by rw [putRes, h1, upd_patch, patch_patch] <;> simp, ?_⟩
      intro s hs
      refine ⟨d, rfl, ?_⟩
      split at hs
      · rename_i y hy
        by_cases e : s = d
        · rw [e]; exact hit_self d
        · simp [e] at hy
      · obtain ⟨k, hk, e⟩ := h2 s hs
        rw [e]
        unfold hit isCix cix
        simp only [Bool.or_eq_true, beq_iff_eq, Bool.and_eq_true, decide_eq_true_iff]
        omega

theorem Le.refl (φ : Fr) : Le φ φ := fun _ => .inr rfl
theorem Le.trans {a b c : Fr} (h : Le a b) (k : Le b c) : Le a c := fun s => by
  rcases h s with h1 | h1
  · exact .inl h1
  · rcases k s with k1 | k1
    · exact .inl (by rw [← h1, k1])
    · exact .inr (by rw [k1, h1])

section
variable {S : Nat → Option (List PK)} {F : Nat → List X → Option (List X × List X)} {τ : List TE} {ops : Array Oper}

/-- What an operation has come to, in the frame behind all. -/
def Come (τ : List TE) (S : Nat → Option (List PK)) (F : Nat → List X → Option (List X × List X)) (ops : Array Oper) (φ : Fr) (o : Oper) : Prop := match o.guard with
  | none => ∃ rs, Yields τ S F φ o rs ∧ putRes o.dst rs φ = φ
  | some (j, want) => ∃ d b, (ops[j]?).bind (·.dst) = some d ∧ (φ d).val = some (.bool b) ∧ (b = want → ∃ rs, Yields τ S F φ o rs ∧ putRes o.dst rs φ = φ) ∧
      (b ≠ want → ∀ d', o.dst = some d' → φ d' = .u)

/-- Each of the operations is one that may go in any order. -/
def AnyOrder (τ : List TE) (S : Nat → Option (List PK)) (F : Nat → List X → Option (List X × List X)) (o : Oper) : Prop := ∀ φ φ', evOp τ S F o φ = some φ' → ∃ rs, Yields τ S F φ o rs ∧ φ' = putRes o.dst rs φ

theorem come_all : ∀ (l : List Oper) (φ0 φF : Fr), evOps τ S F ops l φ0 = some φF → (∀ o ∈ l, AnyOrder τ S F o) → (l.filterMap (·.dst)).Nodup → (∀ d ∈ l.filterMap (·.dst), d < 1000) →
    (∀ d ∈ l.filterMap (·.dst), ∀ s, hit d s = true → φ0 s = .u) → Le φ0 φF ∧ (∀ s, (∀ d ∈ l.filterMap (·.dst), hit d s = false) → φF s = φ0 s) ∧ ∀ o ∈ l, Come τ S F ops φF o
  | [], φ0, φF, h, _, _, _, _ => by
    simp only [evOps, Option.some.injEq] at h
    subst h
    exact ⟨.refl _, fun _ _ => rfl, by simp⟩
  | o :: l, φ0, φF, h, ha, hn, hd, h0 => by
    have hn' : (l.filterMap (·.dst)).Nodup := by
      simp only [List.filterMap_cons] at hn
      split at hn
      · exact hn
      · exact (List.nodup_cons.1 hn).2
    have hsub : ∀ d ∈ l.filterMap (·.dst), d ∈ (o :: l).filterMap (·.dst) := by
      intro d hd
      simp only [List.filterMap_cons]
      split
      · exact hd
      · exact List.mem_cons_of_mem _ hd
    have hown : ∀ d, o.dst = some d → d ∈ (o :: l).filterMap (·.dst) ∧ ∀ d' ∈ l.filterMap (·.dst), ∀ s, hit d s = true → hit d' s = false := by
      intro d e
      have hm : d ∈ (o :: l).filterMap (·.dst) := by simp [List.filterMap_cons, e]
      refine ⟨hm, ?_⟩
      intro d' hd' s hs
      rw [Bool.eq_false_iff]
      intro hs'
      have := hit_disj (hd d hm) (hd d' (hsub d' hd')) hs hs'
      subst this
      simp only [List.filterMap_cons, e, List.nodup_cons] at hn
      exact hn.1 hd'
    -- a step: results are put down
    have step : ∀ rs : List X, rs.length ≤ 8 → evOps τ S F ops l (putRes o.dst rs φ0) = some φF → Le φ0 φF ∧ (∀ s, (∀ d ∈ (o :: l).filterMap (·.dst), hit d s = false) → φF s = φ0 s) ∧ (∀ o ∈ l, Come τ S F ops φF o) ∧ putRes o.dst rs φF = φF := by
      intro rs h8 he
      obtain ⟨f, hf1, hf2⟩ := putRes_patch o.dst rs h8
      have hle0 : Le φ0 (putRes o.dst rs φ0) := by
        intro s
        rw [hf1]
        unfold patch
        split
        · rename_i x hx
          obtain ⟨d, e, hh⟩ := hf2 s (by rw [hx]; simp)
          exact .inl (h0 d (hown d e).1 s hh)
        · exact .inr rfl
      obtain ⟨r1, r2, r3⟩ := come_all l _ φF he (fun o' ho' => ha o' (List.mem_cons_of_mem _ ho')) hn' (fun d hd' => hd d (hsub d hd')) (by
        intro d' hd' s hs
        rw [hf1]
        unfold patch
        split
        · rename_i x hx
          obtain ⟨d, e, hh⟩ := hf2 s (by rw [hx]; simp)
          have := (hown d e).2 d' hd' s hh
          rw [hs] at this; cases this
        · exact h0 d' (hsub d' hd') s hs)
      refine ⟨hle0.trans r1, ?_, r3, ?_⟩
      · intro s hs
        rw [r2 s fun d hd' => hs d (hsub d hd'), hf1]
        unfold patch
        split
        · rename_i x hx
          obtain ⟨d, e, hh⟩ := hf2 s (by rw [hx]; simp)
          have := hs d (hown d e).1
          rw [hh] at this; cases this
        · rfl
      · rw [hf1 φF]
        funext s
        unfold patch
        split
        · rename_i x hx
          obtain ⟨d, e, hh⟩ := hf2 s (by rw [hx]; simp)
          rw [r2 s fun d' hd' => (hown d e).2 d' hd' s hh, hf1]
          simp [patch, hx]
        · rfl
    have doit : ∀ φ1, evOp τ S F o φ0 = some φ1 → evOps τ S F ops l φ1 = some φF → Le φ0 φF ∧ (∀ s, (∀ d ∈ (o :: l).filterMap (·.dst), hit d s = false) → φF s = φ0 s) ∧ (∀ o ∈ l, Come τ S F ops φF o) ∧ ∃ rs, Yields τ S F φF o rs ∧ putRes o.dst rs φF = φF := by
      intro φ1 he hr
      obtain ⟨rs, hy, rfl⟩ := ha o (by simp) φ0 φ1 he
      obtain ⟨q1, q2, q3, q4⟩ := step rs hy.1 hr
      exact ⟨q1, q2, q3, rs, hy.le q1, q4⟩
    simp only [evOps, rmS_none, addS_none, inS_none, Bool.false_eq_true, if_false] at h
    split at h
    · rename_i hg
      split at h
      · rename_i φ1 he
        obtain ⟨q1, q2, q3, q4⟩ := doit φ1 he h
        refine ⟨q1, q2, ?_⟩
        intro o' ho'
        rcases List.mem_cons.1 ho' with rfl | ho'
        · unfold Come; rw [hg]; exact q4
        · exact q3 o' ho'
      · cases h
    · rename_i j want hg
      split at h
      · rename_i d hj
        split at h
        · rename_i b hb
          have hbF : ∀ {ψ : Fr}, Le φ0 ψ → (ψ d).val = some (.bool b) := by
            intro ψ hle
            rw [hle.at (by intro e; rw [e] at hb; cases hb)]; exact hb
          split at h
          · rename_i hbw
            split at h
            · rename_i φ1 he
              obtain ⟨q1, q2, q3, q4⟩ := doit φ1 he h
              refine ⟨q1, q2, ?_⟩
              intro o' ho'
              rcases List.mem_cons.1 ho' with rfl | ho'
              · unfold Come; rw [hg]; exact ⟨d, b, hj, hbF q1, fun _ => q4, fun hne => absurd hbw hne⟩
              · exact q3 o' ho'
            · cases h
          · rename_i hbw
            obtain ⟨q1, q2, q3, q4⟩ := step [] (by simp) h
            refine ⟨q1, q2, ?_⟩
            intro o' ho'
            rcases List.mem_cons.1 ho' with rfl | ho'
            · unfold Come; rw [hg]
              refine ⟨d, b, hj, hbF q1, fun e => absurd e hbw, ?_⟩
              intro _ d' e'
              rw [← q4, e']
              simp [putRes, upd]
            · exact q3 o' ho'
        · cases h
      · cases h

theorem evOps_append : ∀ (l l' : List Oper) (φ φ' : Fr), evOps τ S F ops (l ++ l') φ = some φ' → ∃ φ1, evOps τ S F ops l φ = some φ1 ∧ evOps τ S F ops l' φ1 = some φ'
  | [], l', φ, φ', h => ⟨φ, rfl, h⟩
  | o :: l, l', φ, φ', h => by
    simp only [List.cons_append, evOps, rmS_none, addS_none, inS_none, Bool.false_eq_true, if_false] at h ⊢
    split at h
    · split at h
      · exact evOps_append l l' _ φ' h
      · cases h
    · split at h
      · split at h
        · split at h
          · rename_i hb
            split at h
            · obtain ⟨φ1, h1, h2⟩ := evOps_append l l' _ φ' h
              rename_i he
              exact ⟨φ1, by rw [if_pos hb]; exact h1, h2⟩
            · cases h
          · rename_i hb
            obtain ⟨φ1, h1, h2⟩ := evOps_append l l' _ φ' h
            exact ⟨φ1, by rw [if_neg hb]; exact h1, h2⟩
        · cases h
      · cases h
end
end Go.Ev

/- Results that may come in any order: their modes. -/
namespace Go.Ev

/-- No reference to these slots. -/
def SM.free (p : Nat → Bool) : SM → Bool
  | .c _ (.at s _) => !p s
  | .c _ (.ats s _ _) => !p s
  | .c _ (.vw s) => !p s
  | .agg _ (.at s _) => !p s
  | .agg _ (.ats s _ _) => !p s
  | .agg _ (.vw s) => !p s
  | .pt s _ => !p s
  | .pa s _ _ => !p s
  | .pv _ s => !p s
  | .tup b _ => !p b
  | .clo _ caps => !caps.any p
  | _ => true

theorem SM.free_dropS {p : Nat → Bool} {t : Nat} (hp : ∀ s, hit t s = true → p s = true) {m : SM} (h : m.free p = true) : m.dropS t = m := by
  have key : ∀ s, p s = false → hit t s = false := by
    intro s hs
    rw [Bool.eq_false_iff]
    intro e
    rw [hp s e] at hs; cases hs
  cases m with
  | c m o => cases o <;> simp_all [SM.free, SM.dropS, Og.dropS]
  | agg m o => cases o <;> simp_all [SM.free, SM.dropS, Og.dropS]
  | clo f caps =>
    simp only [SM.free, Bool.not_eq_true'] at h
    have : caps.any (hit t) = false := by
      rw [List.any_eq_false] at h ⊢
      intro c hc
      have := key c (by simpa using h c hc)
      simp [this]
    simp [SM.dropS, this]
  | _ => simp_all [SM.free, SM.dropS]

def seeM (μ0 : Mu) (Es : List Mu) (b : List Nat) : Mu := (b.flatMap fun j => Es.getD j []) ++ μ0

/-- Slots of results that are not surely there where operation i runs. -/
def othersD (dl : List (Option Tmp)) (i : Nat) (b : List Nat) : List Nat := dl.zipIdx.filterMap fun p => if p.2 == i || b.contains p.2 then none else p.1

def guardS (ops : Array Oper) (o : Oper) (μ : Mu) (b : List Nat) (ms : List SM) : Bool := match o.guard with
  | none => true
  | some (j, _) => b.contains j && ms.length == 1 && o.dst.isSome && (match (ops[j]?).bind (·.dst) with
    | some d => Nat.blt d 1000 && rdO μ (.tmp d)
    | none => false)

section
variable (τ : List TE) (Sg : Nat → Option Sig) (colsP : Pol) (n : Nat) (ops : Array Oper) (μ0 : Mu) (dl : List (Option Tmp))

def settleM : Nat → List Oper → List (List Nat) → List Mu → Option (List Mu)
  | _, [], _, Es => some Es
  | _, _ :: _, [], _ => none
  | i, o :: l, b :: bs, Es =>
    let μ := seeM μ0 Es b
    if smallO n o && b.all (fun j => Nat.blt j i) then (match judge τ Sg (colsP.cols o μ) o μ with
      | some ms =>
        let E := entE o.dst ms
        if Nat.ble ms.length 8 && List.all E (fun p => p.2.free (isHit (othersD dl i b))) && guardS ops o μ b ms then settleM (i + 1) l bs (Es ++ [E]) else none
      | none => none) else none

structure JudgedAt (EF : List Mu) (i : Nat) (o : Oper) (b : List Nat) : Prop where
  small : smallO n o = true
  lt : ∀ j ∈ b, j < i
  ex : ∃ cols ms, judge τ Sg cols o (seeM μ0 EF b) = some ms ∧ ms.length ≤ 8 ∧ EF.getD i [] = entE o.dst ms ∧ (∀ p ∈ entE o.dst ms, p.2.free (isHit (othersD dl i b)) = true) ∧ guardS ops o (seeM μ0 EF b) b ms = true
end

section
variable {τ : List TE} {Sg : Nat → Option Sig} {colsP : Pol} {n : Nat} {ops : Array Oper} {μ0 : Mu} {dl : List (Option Tmp)}

theorem seeM_pre {Es Ys : List Mu} {b : List Nat} (h : ∀ j ∈ b, j < Es.length) : seeM μ0 (Es ++ Ys) b = seeM μ0 Es b := by
  unfold seeM
  congr 1
  induction b with
  | nil => rfl
  | cons j b ih =>
    have := h j (by simp)
    simp only [List.flatMap_cons, ih fun k hk => h k (by simp [hk])]
    simp [List.getD_eq_getElem?_getD, List.getElem?_append_left this]

theorem settleM_spec : ∀ (l : List Oper) (i : Nat) (bs : List (List Nat)) (Es EF : List Mu), i = Es.length → settleM τ Sg colsP n ops μ0 dl i l bs Es = some EF →
    ∃ Ys, EF = Es ++ Ys ∧ Ys.length = l.length ∧ ∀ k o b, l[k]? = some o → bs[k]? = some b → JudgedAt τ Sg n ops μ0 dl EF (i + k) o b
  | [], i, bs, Es, EF, hi, h => by
    simp only [settleM, Option.some.injEq] at h
    exact ⟨[], by simp [h], rfl, by simp⟩
  | o :: l, i, [], Es, EF, hi, h => by simp [settleM] at h
  | o :: l, i, b :: bs, Es, EF, hi, h => by
    simp only [settleM] at h
    split at h
    · rename_i hc
      simp only [Bool.and_eq_true, List.all_eq_true, Nat.blt_eq] at hc
      split at h
      · rename_i ms hms
        split at h
        · rename_i hc2
          simp only [Bool.and_eq_true, List.all_eq_true, Nat.ble_eq] at hc2
          obtain ⟨Ys, h1, h2, h3⟩ := settleM_spec l (i + 1) bs _ EF (by simp [hi]) h
          have hpre : seeM μ0 EF b = seeM μ0 Es b := by
            rw [h1, List.append_assoc]
            exact seeM_pre fun j hj => by rw [← hi]; exact hc.2 j hj
          refine ⟨entE o.dst ms :: Ys, by rw [h1]; simp, by simp [h2], ?_⟩
          intro k o' b' hk hb
          cases k with
          | zero =>
            simp only [List.getElem?_cons_zero, Option.some.injEq] at hk hb
            subst hk; subst hb
            refine ⟨hc.1, fun j hj => hc.2 j hj, _, ms, by rw [hpre]; exact hms, hc2.1.1, ?_, fun p hp => hc2.1.2 p hp, by rw [hpre]; exact hc2.2⟩
            rw [h1, hi]
            simp [List.getD_eq_getElem?_getD]
          | succ k =>
            simp only [List.getElem?_cons_succ] at hk hb
            have := h3 k o' b' hk hb
            rw [show i + (k + 1) = i + 1 + k by omega]
            exact this
        · cases h
      · cases h
    · cases h

theorem entE_hit {dst : Option Tmp} {ms : List SM} (h8 : ms.length ≤ 8) {s : Nat} {x : SM} (h : List.lookup s (entE dst ms) = some x) : ∃ d, dst = some d ∧ hit d s = true := by
  unfold entE at h
  split at h
  · simp at h
  · rename_i d
    refine ⟨d, rfl, ?_⟩
    split at h
    · simp at h
    · rw [List.lookup_cons] at h
      split at h
      · rename_i e; simp at e; rw [e]; exact hit_self d
      · simp at h
    · rw [List.lookup_cons] at h
      split at h
      · rename_i e; simp at e; rw [e]; exact hit_self d
      · have := lookup_comps d [] ms 0 s
        simp only [List.append_nil] at this
        rw [this] at h
        split at h
        · rename_i e
          unfold hit isCix
          simp only [Bool.or_eq_true, beq_iff_eq, Bool.and_eq_true, decide_eq_true_iff]
          right
          refine ⟨e.1, ?_⟩
          have := e.2
          unfold cix at this ⊢
          omega
        · simp at h

theorem seeM_get {Es : List Mu} {s : Nat} {x : SM} : ∀ (b : List Nat), List.lookup s (seeM μ0 Es b) = some x → (∃ j ∈ b, List.lookup s (Es.getD j []) = some x) ∨ List.lookup s μ0 = some x
  | [], h => .inr h
  | j :: b, h => by
    unfold seeM at h
    rw [List.flatMap_cons, List.append_assoc, lookup_append'] at h
    split at h
    · rename_i y hy
      cases h
      exact .inl ⟨j, by simp, hy⟩
    · rcases seeM_get b h with ⟨j', h1, h2⟩ | h1
      · exact .inl ⟨j', by simp [h1], h2⟩
      · exact .inr h1

theorem lookup_mem {α : Type} {l : List (Nat × α)} {s : Nat} {x : α} (h : List.lookup s l = some x) : (s, x) ∈ l := by
  induction l with
  | nil => cases h
  | cons a l ih =>
    obtain ⟨k, y⟩ := a
    rw [List.lookup_cons] at h
    split at h
    · rename_i e; simp at e; cases h; simp [e]
    · exact List.mem_cons_of_mem _ (ih h)

end
end Go.Ev

/- A region whose order is drawn. -/
namespace Go.Ev

def nodupB : List Nat → Bool
  | [] => true
  | x :: l => !l.contains x && nodupB l

theorem nodupB_spec : ∀ {l : List Nat}, nodupB l = true → l.Nodup
  | [], _ => .nil
  | x :: l, h => by
    simp only [nodupB, Bool.and_eq_true, Bool.not_eq_true', List.contains_eq_mem, decide_eq_false_iff_not] at h
    exact List.nodup_cons.2 ⟨h.1, nodupB_spec h.2⟩

/-- What is asked of the region's own text. -/
def textOk (ops : Array Oper) (B : List (List Nat)) (m : Nat) : Bool :=
  Nat.ble m ops.size && B.length == ops.size &&
  ((List.range ops.size).all fun i => match ops[i]? with
    | none => false
    | some o => ((B.getD i []).all fun b => o.after.toList.any fun e => Region.binds .any e && (e.on == b || (B.getD e.on []).contains b)) &&
        (o.after.toList.all fun e => !Region.binds .any e || Nat.blt e.on i) &&
        ((B.getD i []).all fun b => Nat.blt b i) &&
        (Nat.blt i m || (List.range i).all (B.getD i []).contains)) &&
  nodupB (dstsOf (ops.toList.take m))

structure TextOk (ops : Array Oper) (B : List (List Nat)) (m : Nat) : Prop where
  le : m ≤ ops.size
  len : B.length = ops.size
  via : ∀ i o, ops[i]? = some o → ∀ b ∈ B.getD i [], ∃ e ∈ o.after, Region.binds .any e = true ∧ (e.on = b ∨ b ∈ B.getD e.on [])
  edge : ∀ i o, ops[i]? = some o → ∀ e ∈ o.after, Region.binds .any e = true → e.on < i
  lt : ∀ i, ∀ b ∈ B.getD i [], b < i
  tail : ∀ i, i < ops.size → m ≤ i → ∀ j, j < i → j ∈ B.getD i []
  dsts : ((ops.toList.take m).filterMap (·.dst)).Nodup

theorem mem_getD {b : Nat} {B : List (List Nat)} {i : Nat} (h : b ∈ B.getD i []) : i < B.length := by
  rw [List.getD_eq_getElem?_getD] at h
  cases e : B[i]? with
  | none => rw [e] at h; simp at h
  | some q => exact (List.getElem?_eq_some_iff.1 e).1

theorem textOk_spec {ops : Array Oper} {B : List (List Nat)} {m : Nat} (h : textOk ops B m = true) : TextOk ops B m := by
  unfold textOk at h
  simp only [Bool.and_eq_true, Nat.ble_eq, beq_iff_eq] at h
  obtain ⟨⟨⟨h1, h2⟩, h3⟩, h4⟩ := h
  rw [List.all_eq_true] at h3
  have k : ∀ i o, ops[i]? = some o → _ := fun i o ho => by
    have hi := (Array.getElem?_eq_some_iff.1 ho).1
    have := h3 i (by simpa using hi)
    rw [ho] at this
    simp only [Bool.and_eq_true] at this
    exact this
  have some_of : ∀ i, i < ops.size → ∃ o, ops[i]? = some o := fun i hi => ⟨ops[i], Array.getElem?_eq_getElem hi⟩
  refine ⟨h1, h2, ?_, ?_, ?_, ?_, nodupB_spec h4⟩
  · intro i o ho b hb
    have := (k i o ho).1.1.1
    rw [List.all_eq_true] at this
    have := this b hb
    rw [List.any_eq_true] at this
    obtain ⟨e, he, h5⟩ := this
    simp only [Bool.and_eq_true, Bool.or_eq_true, beq_iff_eq, List.contains_eq_mem, decide_eq_true_eq] at h5
    exact ⟨e, by simpa using he, h5.1, h5.2⟩
  · intro i o ho e he hb
    have := (k i o ho).1.1.2
    rw [List.all_eq_true] at this
    have := this e (by simpa using he)
    simpa [hb] using this
  · intro i b hb
    have hi := mem_getD hb
    obtain ⟨o, ho⟩ := some_of i (by omega)
    have := (k i o ho).1.2
    rw [List.all_eq_true] at this
    simpa using this b hb
  · intro i hi hm j hj
    obtain ⟨o, ho⟩ := some_of i hi
    have := (k i o ho).2
    simp only [Bool.or_eq_true, Nat.blt_eq, List.all_eq_true] at this
    rcases this with h5 | h5
    · omega
    · simpa using h5 j (by simpa using hj)

theorem arr_getD_flip {l : Array Bool} {k : Nat} (h : k < l.size) : l.getD k true = l.getD k false := by
  simp [Array.getD_eq_getD_getElem?, h]

theorem least_unlisted {l : Array Bool} : ∀ {m : Nat}, (∃ j, j < m ∧ l.getD j false = false) → ∃ j, j < m ∧ l.getD j false = false ∧ ∀ k, k < j → l.getD k false = true
  | 0, h => by obtain ⟨j, h, _⟩ := h; omega
  | m + 1, h => by
    by_cases e : ∃ j, j < m ∧ l.getD j false = false
    · obtain ⟨j, h1, h2, h3⟩ := least_unlisted e
      exact ⟨j, by omega, h2, h3⟩
    · obtain ⟨j, h1, h2⟩ := h
      have hjm : j = m := by
        rcases Nat.lt_or_ge j m with h3 | h3
        · exact (e ⟨j, h3, h2⟩).elim
        · omega
      subst hjm
      refine ⟨j, h1, h2, fun k hk => ?_⟩
      cases e1 : l.getD k false with
      | true => rfl
      | false => exact (e ⟨k, hk, e1⟩).elim

theorem filterMap_inj {α : Type} {f : α → Option Nat} : ∀ {l : List α}, (l.filterMap f).Nodup → ∀ {i j : Nat} {a b : α} {d : Nat}, l[i]? = some a → l[j]? = some b → f a = some d → f b = some d → i = j
  | [], _, i, j, a, b, d, h, _, _, _ => by simp at h
  | c :: l, hn, i, j, a, b, d, h1, h2, h3, h4 => by
    have hn' : (l.filterMap f).Nodup := by
      simp only [List.filterMap_cons] at hn
      split at hn
      · exact hn
      · exact (List.nodup_cons.1 hn).2
    have out : ∀ (x : α) (k : Nat), l[k]? = some x → f x = some d → f c = some d → False := by
      intro x k hk hx hc
      simp only [List.filterMap_cons, hc, List.nodup_cons] at hn
      exact hn.1 (List.mem_filterMap.2 ⟨x, List.mem_of_getElem? hk, hx⟩)
    cases i with
    | zero =>
      cases j with
      | zero => rfl
      | succ j =>
        simp only [List.getElem?_cons_zero, Option.some.injEq] at h1
        simp only [List.getElem?_cons_succ] at h2
        subst h1
        exact (out b j h2 h4 h3).elim
    | succ i =>
      cases j with
      | zero =>
        simp only [List.getElem?_cons_zero, Option.some.injEq] at h2
        simp only [List.getElem?_cons_succ] at h1
        subst h2
        exact (out a i h1 h3 h4).elim
      | succ j =>
        simp only [List.getElem?_cons_succ] at h1 h2
        rw [filterMap_inj hn' h1 h2 h3 h4]

theorem isHit_iff {ds : List Nat} {s : Nat} : isHit ds s = true ↔ ∃ d ∈ ds, hit d s = true := by
  unfold isHit
  rw [List.any_eq_true]
  rfl

theorem mem_others {dl : List (Option Tmp)} {i k d : Nat} {b : List Nat} (h : dl[k]? = some (some d)) (hk : k ≠ i) (hb : k ∉ b) : d ∈ othersD dl i b := by
  unfold othersD
  rw [List.mem_filterMap]
  refine ⟨(some d, k), ?_, ?_⟩
  · rw [List.mem_iff_getElem?]
    exact ⟨k, by simp [List.getElem?_zipIdx, h]⟩
  · simp [hk, hb]

section
variable {V : Env} {A : Start} {n : Nat} {S : Nat → Option (List PK)} {F : Nat → List X → Option (List X × List X)} {Sg : Nat → Option Sig} {ops : Array Oper} {μ0 : Mu}

/-- What the modes say where some are settled. -/
structure SetInv (ops : Array Oper) (m : Nat) (μ0 : Mu) (ds : List Nat) (EF : List Mu) (listed : Array Bool) (μ : Mu) : Prop where
  base : ∀ s, isHit ds s = false → μ.get s = μ0.get s
  done : ∀ j o d s, ops[j]? = some o → j < m → listed.getD j false = true → o.dst = some d → hit d s = true → μ.get s = Mu.get (EF.getD j []) s

theorem St.weakG {w : World} {μ ν : Mu} {φ : Fr} {tm : Nat → Value} {C : Cx} (h : St A w μ φ tm C) (hw : ∀ s, ν.get s = .u ∨ ν.get s = μ.get s) : St A w ν φ tm C := by
  refine { h with slot := ?_ }
  intro s
  rcases h.slot s with h1 | h1
  · exact .inl h1
  · right
    rcases hw s with e | e
    · rw [e]; trivial
    · rw [e]; exact h1

theorem get_of_lookup {μ : Mu} {s : Nat} {x : SM} (h : List.lookup s μ = some x) : μ.get s = x := by
  unfold Mu.get; rw [h]

theorem see_weak {m : Nat} {dl : List (Option Tmp)} {ds : List Nat} {B : List (List Nat)} {EF : List Mu} {listed : Array Bool} {μ : Mu} (hm : m ≤ ops.size) (hJ : ∀ i o, ops[i]? = some o → i < m → JudgedAt V.τ Sg n ops μ0 dl EF i o (B.getD i []))
    (h0 : ∀ s x, List.lookup s μ0 = some x → x.free (isHit ds) = true ∧ isHit ds s = false) (hI : SetInv ops m μ0 ds EF listed μ) {b : List Nat} (hb : ∀ j ∈ b, j < m ∧ listed.getD j false = true) (s : Nat) : (seeM μ0 EF b).get s = .u ∨ (seeM μ0 EF b).get s = μ.get s := by
  cases hl : List.lookup s (seeM μ0 EF b) with
  | none => left; unfold Mu.get; rw [hl]
  | some x =>
    right
    rw [get_of_lookup hl]
    rcases seeM_get b hl with ⟨j, hj, h1⟩ | h1
    · obtain ⟨hjm, hjl⟩ := hb j hj
      have hjs : j < ops.size := by omega
      obtain ⟨cols, ms, _, h8, hE, _, _⟩ := (hJ j _ (Array.getElem?_eq_getElem hjs) hjm).ex
      have h1' := h1
      rw [hE] at h1'
      obtain ⟨d, e, hh⟩ := entE_hit h8 h1'
      rw [hI.done j _ d s (Array.getElem?_eq_getElem hjs) hjm hjl e hh, get_of_lookup h1]
    · rw [hI.base s (h0 s x h1).2, get_of_lookup h1]

theorem drop_same {p : Nat → Bool} {t s : Nat} {μ : Mu} (hp : ∀ s, hit t s = true → p s = true) (h : ∀ x, List.lookup s μ = some x → x.free p = true) : (μ.get s).dropS t = μ.get s := by
  cases hl : List.lookup s μ with
  | none => unfold Mu.get; rw [hl]; rfl
  | some x => rw [get_of_lookup hl]; exact SM.free_dropS hp (h x hl)

/-- One more is settled. -/
theorem SetInv.put {m : Nat} {dl : List (Option Tmp)} {B : List (List Nat)} {EF : List Mu} {listed : Array Bool} {μ μ' : Mu} (hok : TextOk ops B m) (hn : n ≤ 1000) (hdl : dl = (ops.toList.take m).map (·.dst))
    (hJ : ∀ i o, ops[i]? = some o → i < m → JudgedAt V.τ Sg n ops μ0 dl EF i o (B.getD i []))
    (h0 : ∀ s x, List.lookup s μ0 = some x → x.free (isHit (dstsOf (ops.toList.take m))) = true ∧ isHit (dstsOf (ops.toList.take m)) s = false) (hdown : ∀ i, listed.getD i false = true → ∀ b ∈ B.getD i [], listed.getD b false = true)
    (hI : SetInv ops m μ0 (dstsOf (ops.toList.take m)) EF listed μ) {i : Nat} {o : Oper} (ho : ops[i]? = some o) (him : i < m) (hu : listed.getD i false = false) (hg : ∀ s, (∃ d, o.dst = some d ∧ hit d s = true ∧ μ'.get s = Mu.get (EF.getD i []) s) ∨ ((∀ d, o.dst = some d → hit d s = false) ∧ μ'.get s = o.dst.elim (μ.get s) fun d => (μ.get s).dropS d)) :
    SetInv ops m μ0 (dstsOf (ops.toList.take m)) EF (listed.setIfInBounds i true) μ' := by
  have hat : ∀ j oj, ops[j]? = some oj → j < m → (ops.toList.take m)[j]? = some oj := by
    intro j oj h1 h2
    rw [List.getElem?_take, if_pos h2]
    simpa using h1
  have hmem : ∀ j oj d, ops[j]? = some oj → j < m → oj.dst = some d → d ∈ dstsOf (ops.toList.take m) := by
    intro j oj d h1 h2 h3
    exact List.mem_filterMap.2 ⟨oj, List.mem_of_getElem? (hat j oj h1 h2), h3⟩
  have hsm : ∀ j oj d, ops[j]? = some oj → j < m → oj.dst = some d → d < 1000 := by
    intro j oj d h1 h2 h3
    have := (hJ j oj h1 h2).small
    unfold smallO at this
    simp only [Bool.and_eq_true] at this
    have := this.1.2
    rw [h3] at this
    have : Nat.lt d n := by simpa [Nat.blt_eq] using this
    exact Nat.lt_of_lt_of_le this hn
  refine ⟨?_, ?_⟩
  · intro s hs
    rcases hg s with ⟨d, e, hh, _⟩ | ⟨_, h2⟩
    · have : isHit (dstsOf (ops.toList.take m)) s = true := isHit_iff.2 ⟨d, hmem i o d ho him e, hh⟩
      rw [hs] at this; cases this
    · rw [h2]
      cases e : o.dst with
      | none => exact hI.base s hs
      | some d =>
        simp only [Option.elim]
        rw [hI.base s hs]
        exact drop_same (p := isHit (dstsOf (ops.toList.take m))) (fun s' hs' => isHit_iff.2 ⟨d, hmem i o d ho him e, hs'⟩) fun x hx => (h0 s x hx).1
  · intro j oj dj s hj hjm hjl hdj hh
    by_cases e : j = i
    · subst e
      rw [ho] at hj; cases hj
      rcases hg s with ⟨d, e, _, h2⟩ | ⟨h1, _⟩
      · exact h2
      · have := h1 dj hdj
        rw [hh] at this; cases this
    · rw [getD_set_ne false (fun e' => e e'.symm)] at hjl
      have hold := hI.done j oj dj s hj hjm hjl hdj hh
      have hnb : i ∉ B.getD j [] := by
        intro hb
        have := hdown j hjl i hb
        rw [hu] at this; cases this
      rcases hg s with ⟨d, e2, hh2, _⟩ | ⟨h1, h2⟩
      · exfalso
        have : dj = d := hit_disj (hsm j oj dj hj hjm hdj) (hsm i o d ho him e2) hh hh2
        subst this
        exact e (filterMap_inj (f := (·.dst)) hok.dsts (hat j oj hj hjm) (hat i o ho him) hdj e2)
      · rw [h2]
        cases e2 : o.dst with
        | none => exact hold
        | some d =>
          simp only [Option.elim]
          rw [hold]
          obtain ⟨cols, ms, _, h8, hE, hfree, _⟩ := (hJ j oj hj hjm).ex
          refine drop_same (p := isHit (othersD dl j (B.getD j []))) (fun s' hs' => isHit_iff.2 ⟨d, ?_, hs'⟩) fun x hx => ?_
          · refine mem_others (k := i) ?_ (fun e' => e e'.symm) hnb
            rw [hdl, List.getElem?_map, hat i o ho him]
            simp [e2]
          · rw [hE] at hx
            exact hfree _ (lookup_mem hx)
end
end Go.Ev

/- A region whose order is drawn: the settled part in any order, then its tail. -/
namespace Go.Ev
section
variable {V : Env} {A : Start} {n : Nat} {S : Nat → Option (List PK)} {F : Nat → List X → Option (List X × List X)} {Sg : Nat → Option Sig} {ops : Array Oper} {μ0 : Mu} {colsP : Pol}

theorem upd_same {φ : Fr} {d : Nat} {x : X} (h : φ d = x) : upd φ d x = φ := by
  funext s
  unfold upd
  split
  · rename_i e; subst e; exact h.symm
  · rfl

theorem settle_wp {B : List (List Nat)} {m : Nat} {dl : List (Option Tmp)} {EF : List Mu} {φF φ' : Fr} {μ' : Mu} {Q : Exit → Act → World → Prop} (hrg : RgOk A) (hks : A.ks = []) (hlo : A.hd.isSome = true → colsP.lo = true) (hn : n ≤ 1000) (hkp : ∀ (i : Nat) (o : Oper), ops[i]? = some o → Keeps A o)
    (hSg : ∀ f sg, Sg f = some sg → S f = some (sg.pms.map PM.pk) ∧ DoesR (Abv A) V f sg (F f)) (hQ : ∀ a w, Stands A n φ' μ' a w → Q .normal a w)
    (hok : TextOk ops B m) (hdl : dl = (ops.toList.take m).map (·.dst)) (hJ : ∀ i o, ops[i]? = some o → i < m → JudgedAt V.τ Sg n ops μ0 dl EF i o (B.getD i []))
    (hC : ∀ i o, ops[i]? = some o → i < m → Come V.τ S F ops φF o)
    (h0 : ∀ s x, List.lookup s μ0 = some x → x.free (isHit (dstsOf (ops.toList.take m))) = true ∧ isHit (dstsOf (ops.toList.take m)) s = false)
    (hx : evOps V.τ S F ops (ops.toList.drop m) φF = some φ') (hm : chkOps V.τ Sg colsP n ops (ops.toList.drop m) (seeM μ0 EF (List.range m)) = some μ') :
    ∀ (fuel : Nat) (listed : Array Bool) (μ : Mu) (a : Act) (w : World) (T : List Nat), listed.size = ops.size → T.length + (ops.size - m) ≤ fuel →
      (∀ i, i < m → listed.getD i false = false → i ∈ T) → (∀ i, listed.getD i false = true → ∀ b ∈ B.getD i [], listed.getD b false = true) → (∀ i, m ≤ i → i < ops.size → listed.getD i true = false) →
      SetInv ops m μ0 (dstsOf (ops.toList.take m)) EF listed μ → Stands A n φF μ a w → wpAny V.P .any ops Q fuel listed a w := by
  have hrdy : ∀ i (listed : Array Bool), i < ops.size → listed.getD i true = false → (∀ j, j < i → listed.getD j false = true) → i ∈ Region.ready .any ops listed := by
    intro i listed hi h1 h2
    exact mem_ready.2 ⟨h1, ops[i], Array.getElem?_eq_getElem hi, fun e he hb => h2 _ (hok.edge i _ (Array.getElem?_eq_getElem hi) e he hb)⟩
  have hclose : ∀ i o (listed : Array Bool), ops[i]? = some o → (∀ k, listed.getD k false = true → ∀ b ∈ B.getD k [], listed.getD b false = true) → i ∈ Region.ready .any ops listed → ∀ b ∈ B.getD i [], listed.getD b false = true := by
    intro i o listed ho hd hi b hb
    obtain ⟨_, o', ho', hall⟩ := mem_ready.1 hi
    rw [ho] at ho'; cases ho'
    obtain ⟨e, he, h1, h2⟩ := hok.via i o ho b hb
    have h3 := hall e he h1
    rcases h2 with h2 | h2
    · rw [← h2]; exact h3
    · exact hd _ h3 b h2
  have hend : ∀ (fuel : Nat) (listed : Array Bool) (μ : Mu) (a : Act) (w : World), listed.size = ops.size → ops.size - m ≤ fuel → (∀ j, j < m → listed.getD j false = true) → (∀ i, m ≤ i → i < ops.size → listed.getD i true = false) →
      SetInv ops m μ0 (dstsOf (ops.toList.take m)) EF listed μ → Stands A n φF μ a w → wpAny V.P .any ops Q fuel listed a w := by
    intro fuel listed μ a w hls hf hall hhi hI hst
    obtain ⟨C, g, h, hsz, hdf, hpar⟩ := hst
    refine tail_wp hrg hks hlo hn hSg hQ (m := m) ?_ hrdy _ m fuel listed φF _ a w (Nat.le_refl _) rfl hls hall hhi (by simp; omega) ⟨C, g, h.weakG (see_weak hok.le hJ h0 hI fun j hj => ?_), hsz, hdf, hpar⟩ hx hm
    · intro i o ho hmi j hj l hl hi
      exact hclose i o l ho (fun k hk b hb => hl k hk b (hok.lt k b hb)) hi j (hok.tail i (Array.getElem?_eq_some_iff.1 ho).1 hmi j hj)
    · have hj' : j < m := by simpa using hj
      exact ⟨hj', hall j hj'⟩
  intro fuel
  induction fuel with
  | zero =>
    intro listed μ a w T hls hT hun hdown hhi hI hst
    have hall : ∀ j, j < m → listed.getD j false = true := by
      intro j hj
      cases e : listed.getD j false with
      | true => rfl
      | false => have := hun j hj e; have : T = [] := List.length_eq_zero_iff.1 (by omega); subst this; simp at *
    exact hend 0 listed μ a w hls (by omega) hall hhi hI hst
  | succ fuel ih =>
    intro listed μ a w T hls hT hun hdown hhi hI hst
    by_cases hall : ∀ j, j < m → listed.getD j false = true
    · exact hend (fuel + 1) listed μ a w hls (by omega) hall hhi hI hst
    · have hex : ∃ j, j < m ∧ listed.getD j false = false := by
        apply Classical.byContradiction
        intro hne
        apply hall
        intro j hj
        cases e : listed.getD j false with
        | true => rfl
        | false => exact (hne ⟨j, hj, e⟩).elim
      obtain ⟨j0, hj0, hu0, hlow⟩ := least_unlisted hex
      have hm' := hok.le
      have hr0 : j0 ∈ Region.ready .any ops listed := hrdy j0 listed (by omega) (by rw [arr_getD_flip (by omega)]; exact hu0) hlow
      refine ⟨fun e => absurd (e ▸ hr0) (by simp), fun i hi => ?_⟩
      obtain ⟨hiu, o, ho, _⟩ := mem_ready.1 hi
      have his := (Array.getElem?_eq_some_iff.1 ho).1
      have hcl := hclose i o listed ho hdown hi
      have him : i < m := by
        rcases Nat.lt_or_ge i m with h | h
        · exact h
        · have := hcl j0 (hok.tail i his h j0 (by omega))
          rw [hu0] at this; cases this
      have hiu' : listed.getD i false = false := by rw [← arr_getD_flip (by omega)]; exact hiu
      have hJi := hJ i o ho him
      obtain ⟨cols, ms, hj, h8, hE, hfree, hguard⟩ := hJi.ex
      have hcome := hC i o ho him
      have hsee : ∀ s, (seeM μ0 EF (B.getD i [])).get s = .u ∨ (seeM μ0 EF (B.getD i [])).get s = μ.get s :=
        see_weak hok.le hJ h0 hI fun j hj => ⟨by have := hok.lt i j hj; omega, hcl j hj⟩
      have next : ∀ μ1, (∀ s, (∃ d, o.dst = some d ∧ hit d s = true ∧ μ1.get s = Mu.get (EF.getD i []) s) ∨ ((∀ d, o.dst = some d → hit d s = false) ∧ μ1.get s = o.dst.elim (μ.get s) fun d => (μ.get s).dropS d)) →
          ∀ a w, Stands A n φF μ1 a w → wpAny V.P .any ops Q fuel (listed.setIfInBounds i true) a w := by
        intro μ1 hg a' w' hst'
        have hiT : i ∈ T := hun i him hiu'
        refine ih _ μ1 a' w' (T.erase i) (by simpa using hls) ?_ ?_ ?_ ?_ (hI.put hok hn hdl hJ h0 hdown ho him hiu' hg) hst'
        · rw [List.length_erase_of_mem hiT]
          have := List.length_pos_of_mem hiT
          omega
        · intro k hk hku
          by_cases e : k = i
          · subst e
            have : k < listed.size := by omega
            simp [this] at hku
          · rw [getD_set_ne false (fun e' => e e'.symm)] at hku
            exact (List.mem_erase_of_ne e).2 (hun k hk hku)
        · intro k hk b hb
          by_cases e : k = i
          · subst e; exact getD_set_true (hcl b hb)
          · rw [getD_set_ne false (fun e' => e e'.symm)] at hk
            exact getD_set_true (hdown k hk b hb)
        · intro k hk hks
          rw [getD_set_ne true (by omega)]
          exact hhi k hk hks
      obtain ⟨C, g, h, hsz, hdf, hpar⟩ := hst
      have hko := hkp i o ho
      have hw := h.weakG hsee
      have run : ∀ rs, Yields V.τ S F φF o rs → putRes o.dst rs φF = φF → o.wp V.P a w (wpAny V.P .any ops Q fuel (listed.setIfInBounds i true)) Q := by
        intro rs hy hput
        obtain ⟨μ1, hμ1⟩ : ∃ μ1, putResM o.dst ms μ = some μ1 := by
          unfold putResM
          split
          · exact ⟨_, rfl⟩
          · split
            · exact ⟨_, rfl⟩
            · exact ⟨_, rfl⟩
            · rw [if_pos h8]; exact ⟨_, rfl⟩
        refine settle_op hn hSg hJi.small hsz hdf hpar hko hw h hj hy hμ1 fun a' w' hst' => ?_
        rw [hput] at hst'
        refine next μ1 ?_ a' w' hst'
        intro s
        rcases putResM_get hμ1 s with ⟨d, e1, e2, e3⟩ | h1
        · exact .inl ⟨d, e1, e2, by rw [hE]; exact e3⟩
        · exact .inr h1
      unfold wpOp
      rw [ho]
      unfold Come at hcome
      unfold guardS at hguard
      cases hg : o.guard with
      | none =>
        rw [hg] at hcome
        obtain ⟨rs, hy, hput⟩ := hcome
        simp only
        rw [if_pos (by simp [Region.wanted, hg])]
        exact .inl (run rs hy hput)
      | some jw =>
        obtain ⟨j, want⟩ := jw
        rw [hg] at hcome hguard
        obtain ⟨d, b, hjd, hv, hc1, hc2⟩ := hcome
        simp only [hjd, Bool.and_eq_true, beq_iff_eq, Nat.blt_eq] at hguard
        obtain ⟨⟨⟨hjb, hlen⟩, hsome⟩, hd1, hrd⟩ := hguard
        have hbool := slot_bool hw hd1 hrd hv
        have hy : yielded ops a.tmps j = some b := by
          unfold yielded
          rw [hjd]
          simp only [Option.bind_some]
          have : a.tmps[d]? = some (.bool b) := by
            by_cases hlt : d < a.tmps.size
            · rw [Array.getElem?_eq_getElem hlt]
              simp [Array.getD, hlt] at hbool
              rw [hbool]
            · simp [Array.getD, hlt] at hbool
              cases hbool
          rw [this]
        simp only
        by_cases hbw : b = want
        · rw [if_pos (by simp [Region.wanted, hg, hy, hbw])]
          obtain ⟨rs, h1, h2⟩ := hc1 hbw
          exact .inl (run rs h1 h2)
        · rw [if_neg (by simp [Region.wanted, hg, hy, hbw])]
          obtain ⟨dd, hdd⟩ := Option.isSome_iff_exists.1 hsome
          obtain ⟨sm, hsm⟩ : ∃ sm, ms = [sm] := by
            match ms, hlen with
            | [sm], _ => exact ⟨sm, rfl⟩
          have hs := hJi.small
          unfold smallO at hs
          simp only [Bool.and_eq_true] at hs
          have hdn := hs.1.2
          rw [hdd] at hdn
          simp only [Nat.blt_eq] at hdn
          obtain ⟨C2, h2⟩ := skip_st (sm := sm) h (Nat.lt_of_lt_of_le hdn hn) (by rw [hsz]; exact hdn)
          rw [upd_same (hc2 hbw dd hdd)] at h2
          rw [hdd]
          refine next (μ.put dd sm) ?_ _ _ ⟨C2, g, h2, by rw [put_size]; exact hsz, by rw [put_defers]; exact hdf, hdd ▸ hpar.put hko _⟩
          intro s
          rcases putResM_get (dst := some dd) (ms := [sm]) (μ := μ) (μ' := μ.put dd sm) rfl s with ⟨d', e1, e2, e3⟩ | ⟨h1, h3⟩
          · exact .inl ⟨d', by rw [hdd]; exact e1, e2, by rw [hE, hsm, hdd]; exact e3⟩
          · exact .inr ⟨by rw [hdd]; exact h1, by rw [hdd]; exact h3⟩

/-- The check of a region whose order is drawn. -/
def chkDrawn (τ : List TE) (Sg : Nat → Option Sig) (colsP : Pol) (n : Nat) (ops : Array Oper) (μ : Mu) : Option Mu :=
  let l := ops.toList
  let B := predsL l []
  let m := cutOf l
  let ds := dstsOf (l.take m)
  let μ0 := ds.foldl Mu.clear μ
  if (textOk ops B m && l.all (dstOk colsP.lo)) && List.all μ0 (fun p => p.2.free (isHit ds) && !isHit ds p.1) then (match settleM τ Sg colsP n ops μ0 ((l.take m).map (·.dst)) 0 (l.take m) B [] with
    | some Es => chkOps τ Sg colsP n ops (l.drop m) (seeM μ0 Es (List.range m))
    | none => none) else none

theorem clr_st {w : World} {φF : Fr} : ∀ (ds : List Nat) (φ : Fr) (μ : Mu) (C : Cx) (tm : Nat → Value), (∀ d ∈ ds, d < 1000) → St A w μ φ tm C → (∀ s, isHit ds s = false → φF s = φ s) → ∃ C', St A w (ds.foldl Mu.clear μ) φF tm C'
  | [], φ, μ, C, tm, _, h, hs => by
    have : φF = φ := by funext s; exact hs s rfl
    subst this
    exact ⟨C, h⟩
  | d :: ds, φ, μ, C, tm, hd, h, hs => by
    have h1 := h.putG (hd d (by simp)) (Ext.refl w) (fun _ => none) (by simp) (by simp) (by simp) .none (μ' := μ.clear d) (φ' := fun s => if hit d s then φF s else φ s) (tm' := tm) (fun s hh => by simp [hh]) (fun s _ => rfl)
      (fun s hh => by rw [get_clear, hh]; rfl) (fun s hh => .inr (by rw [get_clear, hh]; trivial))
    refine clr_st ds _ _ _ tm (fun d' hd' => hd d' (by simp [hd'])) h1 ?_
    intro s hh
    cases e : hit d s with
    | true => simp
    | false =>
      simp only [Bool.false_eq_true, if_false]
      refine hs s ?_
      rw [Bool.eq_false_iff]
      intro e2
      obtain ⟨d', hd', h2⟩ := isHit_iff.1 e2
      rcases List.mem_cons.1 hd' with rfl | hd'
      · rw [e] at h2; cases h2
      · have := isHit_iff.2 ⟨d', hd', h2⟩
        rw [hh] at this; cases this

theorem drawn_wp {id : Nat} {φ φ' : Fr} {μ μ' : Mu} {a : Act} {w : World} {Q : Exit → Act → World → Prop} (hrg : RgOk A) (hks : A.ks = []) (hlo : A.hd.isSome = true → colsP.lo = true) (hn : n ≤ 1000)
    (hSg : ∀ f sg, Sg f = some sg → S f = some (sg.pms.map PM.pk) ∧ DoesR (Abv A) V f sg (F f)) (hst : Stands A n φ μ a w) (hx : evOps V.τ S F ops ops.toList (clrX (dstsOf (ops.toList.take (cutOf ops.toList))) φ) = some φ') (hm : chkDrawn V.τ Sg colsP n ops μ = some μ')
    (hQ : ∀ a w, Stands A n φ' μ' a w → Q .normal a w) : (Code.region id ops true).wp V.P Q a w := by
  unfold chkDrawn at hm
  simp only at hm
  generalize cutOf ops.toList = m at *
  split at hm
  · rename_i hc
    simp only [Bool.and_eq_true, List.all_eq_true, Bool.not_eq_true'] at hc
    have hok := textOk_spec hc.1.1
    have hkp : ∀ (i : Nat) (o : Oper), ops[i]? = some o → Keeps A o := fun i o hi => dstOk_keeps hks hlo (hc.1.2 o (List.mem_iff_getElem?.2 ⟨i, by simpa using hi⟩))
    split at hm
    · rename_i Es hEs
      obtain ⟨Ys, h1, h2, h3⟩ := settleM_spec _ 0 _ [] _ rfl hEs
      simp only [List.nil_append] at h1
      subst h1
      have hBat : ∀ i, i < ops.size → (predsL ops.toList [])[i]? = some ((predsL ops.toList []).getD i []) := by
        intro i hi
        have : i < (predsL ops.toList []).length := by rw [hok.len]; exact hi
        simp [List.getD_eq_getElem?_getD, this]
      have hJ : ∀ i o, ops[i]? = some o → i < m → JudgedAt V.τ Sg n ops ((dstsOf (ops.toList.take m)).foldl Mu.clear μ) ((ops.toList.take m).map (·.dst)) Es i o ((predsL ops.toList []).getD i []) := by
        intro i o ho him
        have hi := (Array.getElem?_eq_some_iff.1 ho).1
        have := h3 i o _ (by rw [List.getElem?_take, if_pos him]; simpa using ho) (hBat i hi)
        simpa using this
      have hsplit : ops.toList = ops.toList.take m ++ ops.toList.drop m := (List.take_append_drop m _).symm
      have hx' := hx
      rw [hsplit] at hx'
      rw [← hsplit] at hx'
      obtain ⟨φF, hx1, hx2⟩ := evOps_append (ops.toList.take m) (ops.toList.drop m) _ φ' (by rw [← hsplit]; exact hx)
      have htk : ∀ o ∈ ops.toList.take m, ∃ i, ops[i]? = some o ∧ i < m := by
        intro o ho
        obtain ⟨i, hi⟩ := List.mem_iff_getElem?.1 ho
        rw [List.getElem?_take] at hi
        split at hi
        · rename_i him; exact ⟨i, by simpa using hi, him⟩
        · cases hi
      have hd1000 : ∀ d ∈ (ops.toList.take m).filterMap (·.dst), d < 1000 := by
        intro d hd
        obtain ⟨o, ho, e⟩ := List.mem_filterMap.1 hd
        obtain ⟨i, hi, him⟩ := htk o ho
        have := (hJ i o hi him).small
        unfold smallO at this
        simp only [Bool.and_eq_true] at this
        have := this.1.2
        rw [e] at this
        have : Nat.lt d n := by simpa [Nat.blt_eq] using this
        exact Nat.lt_of_lt_of_le this hn
      obtain ⟨q1, q2, q3⟩ := come_all (ops.toList.take m) _ φF hx1 (by
        intro o ho
        obtain ⟨i, hi, him⟩ := htk o ho
        obtain ⟨cols, ms, hj, _⟩ := (hJ i o hi him).ex
        intro φ1 φ2 he
        exact evOp_yields (fun f sg hf => (hSg f sg hf).1) hj he) hok.dsts hd1000 (by
        intro d hd s hs
        have h9 : isHit (dstsOf (ops.toList.take m)) s = true := isHit_iff.2 ⟨d, hd, hs⟩
        simp [clrX, h9])
      obtain ⟨C, g, h, hsz, hdf, hpar⟩ := hst
      have he : Ext w { w with drawn := w.drawn + 1 } := ⟨Nat.le_refl _, fun _ _ => rfl, ⟨rfl, rfl, rfl⟩⟩
      obtain ⟨C', h'⟩ := clr_st (φF := φF) (dstsOf (ops.toList.take m)) φ μ C _ hd1000 (h.ext he) (by
        intro s hs
        rw [q2 s fun d hd => ?_]
        · simp [clrX, hs]
        · rw [Bool.eq_false_iff]
          intro e
          have := isHit_iff.2 ⟨d, hd, e⟩
          have h9 : isHit (dstsOf (ops.toList.take m)) s = true := this
          rw [hs] at h9; cases h9)
      refine wp_region_any V.mix ?_
      refine settle_wp hrg hks hlo hn hkp hSg hQ hok rfl hJ (fun i o ho him => q3 o ?_) ?_ hx2 hm ops.size _ _ a _ (List.range m) (by simp) (by simp; have := hok.le; omega) (fun i hi _ => by simpa using hi) ?_ ?_ ?_ ⟨C', g, h', hsz, hdf, hpar⟩
      · refine List.mem_iff_getElem?.2 ⟨i, ?_⟩
        rw [List.getElem?_take, if_pos him]; simpa using ho
      · intro s x hl
        exact hc.2 _ (lookup_mem hl)
      · intro i hi
        rw [Array.getD_eq_getD_getElem?] at hi
        simp [Array.getElem?_replicate] at hi
        split at hi <;> simp at hi
      · intro i _ hi
        rw [Array.getD_eq_getD_getElem?]
        simp [Array.getElem?_replicate, hi]
      · refine ⟨fun s _ => rfl, ?_⟩
        intro j o d s _ _ hj
        rw [Array.getD_eq_getD_getElem?] at hj
        simp [Array.getElem?_replicate] at hj
        split at hj <;> simp at hj
    · cases hm
  · cases hm
end
end Go.Ev

/- A region whose order is drawn, where what was passed over passes others over. -/
namespace Go.Ev

def rmL (dst : Option Tmp) (sk : List Nat) : List Nat := match dst with
  | none => sk
  | some d => sk.filter (· != d)
def addL (dst : Option Tmp) (sk : List Nat) : List Nat := match dst with
  | none => sk
  | some d => d :: sk
theorem rmS_L (dst : Option Tmp) (sk : List Nat) : rmS dst (some sk) = some (rmL dst sk) := by cases dst <;> rfl
theorem addS_L (dst : Option Tmp) (sk : List Nat) : addS dst (some sk) = some (addL dst sk) := by cases dst <;> rfl

section
variable {S : Nat → Option (List PK)} {F : Nat → List X → Option (List X × List X)} {τ : List TE} {ops : Array Oper}

/-- The same, with what was passed over. -/
def evOps2 (τ : List TE) (S : Nat → Option (List PK)) (F : Nat → List X → Option (List X × List X)) (ops : Array Oper) : List Oper → Fr → List Nat → Option (Fr × List Nat)
  | [], φ, sk => some (φ, sk)
  | o :: rest, φ, sk => match o.guard with
    | none => match evOp τ S F o φ with
      | some φ' => evOps2 τ S F ops rest φ' (rmL o.dst sk)
      | none => none
    | some (j, want) => match (ops[j]?).bind (·.dst) with
      | some d => if sk.contains d = true then evOps2 τ S F ops rest (putRes o.dst [] φ) (addL o.dst sk) else match (φ d).val with
        | some (.bool b) => if b = want then (match evOp τ S F o φ with
            | some φ' => evOps2 τ S F ops rest φ' (rmL o.dst sk)
            | none => none) else evOps2 τ S F ops rest (putRes o.dst [] φ) (addL o.dst sk)
        | _ => none
      | none => none

theorem evOps_append2 : ∀ (l l' : List Oper) (φ φ' : Fr) (sk : List Nat), evOps τ S F ops (l ++ l') φ (some sk) = some φ' → ∃ φ1 sk1, evOps2 τ S F ops l φ sk = some (φ1, sk1) ∧ evOps τ S F ops l' φ1 (some sk1) = some φ'
  | [], l', φ, φ', sk, h => ⟨φ, sk, rfl, h⟩
  | o :: l, l', φ, φ', sk, h => by
    simp only [List.cons_append, evOps, evOps2, rmS_L, addS_L, inS] at h ⊢
    cases hg : o.guard with
    | none =>
      rw [hg] at h
      simp only at h ⊢
      cases he : evOp τ S F o φ with
      | none => rw [he] at h; cases h
      | some φ1 => rw [he] at h; exact evOps_append2 l l' _ φ' _ h
    | some jw =>
      obtain ⟨j, want⟩ := jw
      rw [hg] at h
      simp only at h ⊢
      cases hj : (ops[j]?).bind (·.dst) with
      | none => rw [hj] at h; cases h
      | some d =>
        rw [hj] at h
        simp only at h ⊢
        by_cases hc : sk.contains d = true
        · rw [if_pos hc] at h ⊢
          exact evOps_append2 l l' _ φ' _ h
        · rw [if_neg hc] at h ⊢
          split at h
          · rename_i b hb
            rw [hb]
            simp only
            by_cases hbw : b = want
            · rw [if_pos hbw] at h ⊢
              cases he : evOp τ S F o φ with
              | none => rw [he] at h; cases h
              | some φ1 => rw [he] at h; exact evOps_append2 l l' _ φ' _ h
            · rw [if_neg hbw] at h ⊢
              exact evOps_append2 l l' _ φ' _ h
          · cases h

/-- What an operation has come to, in the frame behind all; SK: what was passed over. -/
def Come2 (τ : List TE) (S : Nat → Option (List PK)) (F : Nat → List X → Option (List X × List X)) (ops : Array Oper) (φ : Fr) (SK : List Nat) (o : Oper) : Prop := match o.guard with
  | none => (∃ rs, Yields τ S F φ o rs ∧ putRes o.dst rs φ = φ) ∧ ∀ d, o.dst = some d → d ∉ SK
  | some (j, want) => ∃ d, (ops[j]?).bind (·.dst) = some d ∧ ((d ∈ SK ∧ ∀ d', o.dst = some d' → φ d' = .u ∧ d' ∈ SK) ∨
      (∃ b, (φ d).val = some (.bool b) ∧ (b = want → (∃ rs, Yields τ S F φ o rs ∧ putRes o.dst rs φ = φ) ∧ ∀ d, o.dst = some d → d ∉ SK) ∧ (b ≠ want → ∀ d', o.dst = some d' → φ d' = .u ∧ d' ∈ SK)))

theorem come_all2 : ∀ (l : List Oper) (φ0 φF : Fr) (sk skF : List Nat), evOps2 τ S F ops l φ0 sk = some (φF, skF) → (∀ d ∈ l.filterMap (·.dst), d ∉ sk) → (∀ o ∈ l, AnyOrder τ S F o) → (l.filterMap (·.dst)).Nodup → (∀ d ∈ l.filterMap (·.dst), d < 1000) →
    (∀ d ∈ l.filterMap (·.dst), ∀ s, hit d s = true → φ0 s = .u) → Le φ0 φF ∧ (∀ s, (∀ d ∈ l.filterMap (·.dst), hit d s = false) → φF s = φ0 s) ∧ (∀ d, d ∈ sk → (∀ d' ∈ l.filterMap (·.dst), d' ≠ d) → d ∈ skF) ∧ (∀ d ∈ skF, d ∈ sk ∨ d ∈ l.filterMap (·.dst)) ∧ ∀ o ∈ l, Come2 τ S F ops φF skF o
  | [], φ0, φF, sk, skF, h, _, _, _, _, _ => by
    simp only [evOps2, Option.some.injEq, Prod.mk.injEq] at h
    obtain ⟨rfl, rfl⟩ := h
    exact ⟨.refl _, fun _ _ => rfl, fun d h _ => h, fun d h => .inl h, by simp⟩
  | o :: l, φ0, φF, sk, skF, h, hsk, ha, hn, hd, h0 => by
    have hn' : (l.filterMap (·.dst)).Nodup := by
      simp only [List.filterMap_cons] at hn
      split at hn
      · exact hn
      · exact (List.nodup_cons.1 hn).2
    have hsub : ∀ d ∈ l.filterMap (·.dst), d ∈ (o :: l).filterMap (·.dst) := by
      intro d hd
      simp only [List.filterMap_cons]
      split
      · exact hd
      · exact List.mem_cons_of_mem _ hd
    have hown : ∀ d, o.dst = some d → d ∈ (o :: l).filterMap (·.dst) ∧ ∀ d' ∈ l.filterMap (·.dst), ∀ s, hit d s = true → hit d' s = false := by
      intro d e
      have hm : d ∈ (o :: l).filterMap (·.dst) := by simp [List.filterMap_cons, e]
      refine ⟨hm, ?_⟩
      intro d' hd' s hs
      rw [Bool.eq_false_iff]
      intro hs'
      have := hit_disj (hd d hm) (hd d' (hsub d' hd')) hs hs'
      subst this
      simp only [List.filterMap_cons, e, List.nodup_cons] at hn
      exact hn.1 hd'
    have hne : ∀ d, o.dst = some d → ∀ d' ∈ l.filterMap (·.dst), d' ≠ d := by
      rintro d e d' hd' rfl
      simp only [List.filterMap_cons, e, List.nodup_cons] at hn
      exact hn.1 hd'
    have hmem : ∀ d, d ∈ (o :: l).filterMap (·.dst) ↔ o.dst = some d ∨ d ∈ l.filterMap (·.dst) := by
      intro d
      simp only [List.filterMap_cons]
      cases e : o.dst with
      | none => simp
      | some d0 => simp only [List.mem_cons, Option.some.injEq]; constructor <;> (rintro (h | h) <;> simp_all)
    -- a step: results are put down
    have step : ∀ (rs : List X) (sk' : List Nat), rs.length ≤ 8 → (∀ d ∈ l.filterMap (·.dst), d ∉ sk') → evOps2 τ S F ops l (putRes o.dst rs φ0) sk' = some (φF, skF) → Le φ0 φF ∧ (∀ s, (∀ d ∈ (o :: l).filterMap (·.dst), hit d s = false) → φF s = φ0 s) ∧
        (∀ d, d ∈ sk' → (∀ d' ∈ l.filterMap (·.dst), d' ≠ d) → d ∈ skF) ∧ (∀ d ∈ skF, d ∈ sk' ∨ d ∈ l.filterMap (·.dst)) ∧ (∀ o ∈ l, Come2 τ S F ops φF skF o) ∧ putRes o.dst rs φF = φF := by
      intro rs sk' h8 hs' he
      obtain ⟨f, hf1, hf2⟩ := putRes_patch o.dst rs h8
      have hle0 : Le φ0 (putRes o.dst rs φ0) := by
        intro s
        rw [hf1]
        unfold patch
        split
        · rename_i x hx
          obtain ⟨d, e, hh⟩ := hf2 s (by rw [hx]; simp)
          exact .inl (h0 d (hown d e).1 s hh)
        · exact .inr rfl
      obtain ⟨r1, r2, r4, r5, r3⟩ := come_all2 l _ φF sk' skF he hs' (fun o' ho' => ha o' (List.mem_cons_of_mem _ ho')) hn' (fun d hd' => hd d (hsub d hd')) (by
        intro d' hd' s hs
        rw [hf1]
        unfold patch
        split
        · rename_i x hx
          obtain ⟨d, e, hh⟩ := hf2 s (by rw [hx]; simp)
          have := (hown d e).2 d' hd' s hh
          rw [hs] at this; cases this
        · exact h0 d' (hsub d' hd') s hs)
      refine ⟨hle0.trans r1, ?_, r4, r5, r3, ?_⟩
      · intro s hs
        rw [r2 s fun d hd' => hs d (hsub d hd'), hf1]
        unfold patch
        split
        · rename_i x hx
          obtain ⟨d, e, hh⟩ := hf2 s (by rw [hx]; simp)
          have := hs d (hown d e).1
          rw [hh] at this; cases this
        · rfl
      · rw [hf1 φF]
        funext s
        unfold patch
        split
        · rename_i x hx
          obtain ⟨d, e, hh⟩ := hf2 s (by rw [hx]; simp)
          rw [r2 s fun d' hd' => (hown d e).2 d' hd' s hh, hf1]
          simp [patch, hx]
        · rfl
    have hrm : ∀ d, d ∈ rmL o.dst sk → d ∈ sk ∧ o.dst ≠ some d := by
      intro d hd'
      unfold rmL at hd'
      split at hd'
      · rename_i e; exact ⟨hd', by rw [e]; simp⟩
      · rename_i d0 e
        have := List.mem_filter.1 hd'
        refine ⟨this.1, ?_⟩
        rw [e]
        intro e2; cases e2
        simpa using this.2
    have hrm2 : ∀ d, d ∈ sk → o.dst ≠ some d → d ∈ rmL o.dst sk := by
      intro d h1 h2
      unfold rmL
      split
      · exact h1
      · rename_i d0 e
        refine List.mem_filter.2 ⟨h1, ?_⟩
        have : d ≠ d0 := by rintro rfl; exact h2 e
        simpa using this
    have had : ∀ d, d ∈ addL o.dst sk ↔ o.dst = some d ∨ d ∈ sk := by
      intro d
      unfold addL
      split
      · rename_i e; simp [e]
      · rename_i d0 e; rw [e]; simp only [List.mem_cons, Option.some.injEq]; constructor <;> (rintro (h | h) <;> simp_all)
    -- what is all said
    have doit : ∀ φ1, evOp τ S F o φ0 = some φ1 → evOps2 τ S F ops l φ1 (rmL o.dst sk) = some (φF, skF) → Le φ0 φF ∧ (∀ s, (∀ d ∈ (o :: l).filterMap (·.dst), hit d s = false) → φF s = φ0 s) ∧ (∀ d, d ∈ sk → (∀ d' ∈ (o :: l).filterMap (·.dst), d' ≠ d) → d ∈ skF) ∧ (∀ d ∈ skF, d ∈ sk ∨ d ∈ (o :: l).filterMap (·.dst)) ∧
        (∀ o ∈ l, Come2 τ S F ops φF skF o) ∧ (∃ rs, Yields τ S F φF o rs ∧ putRes o.dst rs φF = φF) ∧ ∀ d, o.dst = some d → d ∉ skF := by
      intro φ1 he hr
      obtain ⟨rs, hy, rfl⟩ := ha o (by simp) φ0 φ1 he
      obtain ⟨q1, q2, q5, q6, q3, q4⟩ := step rs _ hy.1 (fun d hd' hc => hsk d (hsub d hd') (hrm d hc).1) hr
      refine ⟨q1, q2, fun d h1 h2 => q5 d (hrm2 d h1 fun e => h2 d ((hmem d).2 (.inl e)) rfl) fun d' hd' => h2 d' (hsub d' hd'), fun d h1 => ?_, q3, ⟨rs, hy.le q1, q4⟩, fun d e hc => ?_⟩
      · rcases q6 d h1 with h2 | h2
        · exact .inl (hrm d h2).1
        · exact .inr (hsub d h2)
      · rcases q6 d hc with h2 | h2
        · exact (hrm d h2).2 e
        · exact hne d e d h2 rfl
    have pass : evOps2 τ S F ops l (putRes o.dst [] φ0) (addL o.dst sk) = some (φF, skF) → Le φ0 φF ∧ (∀ s, (∀ d ∈ (o :: l).filterMap (·.dst), hit d s = false) → φF s = φ0 s) ∧ (∀ d, d ∈ sk → (∀ d' ∈ (o :: l).filterMap (·.dst), d' ≠ d) → d ∈ skF) ∧ (∀ d ∈ skF, d ∈ sk ∨ d ∈ (o :: l).filterMap (·.dst)) ∧
        (∀ o ∈ l, Come2 τ S F ops φF skF o) ∧ ∀ d', o.dst = some d' → φF d' = .u ∧ d' ∈ skF := by
      intro hr
      obtain ⟨q1, q2, q5, q6, q3, q4⟩ := step [] _ (by simp) (fun d hd' hc => by
        rcases (had d).1 hc with e | h2
        · exact hne d e d hd' rfl
        · exact hsk d (hsub d hd') h2) hr
      refine ⟨q1, q2, fun d h1 h2 => q5 d ((had d).2 (.inr h1)) fun d' hd' => h2 d' (hsub d' hd'), fun d h1 => ?_, q3, fun d' e => ⟨?_, ?_⟩⟩
      · rcases q6 d h1 with h2 | h2
        · rcases (had d).1 h2 with e | h3
          · exact .inr ((hmem d).2 (.inl e))
          · exact .inl h3
        · exact .inr (hsub d h2)
      · rw [← q4, e]
        simp [putRes, upd]
      · exact q5 d' ((had d').2 (.inl e)) (hne d' e)
    simp only [evOps2] at h
    split at h
    · rename_i hg
      split at h
      · rename_i φ1 he
        obtain ⟨q1, q2, q5, q6, q3, q4, q7⟩ := doit φ1 he h
        refine ⟨q1, q2, q5, q6, ?_⟩
        intro o' ho'
        rcases List.mem_cons.1 ho' with rfl | ho'
        · unfold Come2; rw [hg]; exact ⟨q4, q7⟩
        · exact q3 o' ho'
      · cases h
    · rename_i j want hg
      split at h
      · rename_i d hj
        split at h
        · rename_i hc
          obtain ⟨q1, q2, q5, q6, q3, q4⟩ := pass h
          refine ⟨q1, q2, q5, q6, ?_⟩
          intro o' ho'
          rcases List.mem_cons.1 ho' with rfl | ho'
          · unfold Come2; rw [hg]
            have hdsk : d ∈ sk := by simpa using hc
            exact ⟨d, hj, .inl ⟨q5 d hdsk fun d' hd' e => hsk d' hd' (e ▸ hdsk), q4⟩⟩
          · exact q3 o' ho'
        · split at h
          · rename_i b hb
            have hbF : ∀ {ψ : Fr}, Le φ0 ψ → (ψ d).val = some (.bool b) := by
              intro ψ hle
              rw [hle.at (by intro e; rw [e] at hb; cases hb)]; exact hb
            split at h
            · rename_i hbw
              split at h
              · rename_i φ1 he
                obtain ⟨q1, q2, q5, q6, q3, q4, q7⟩ := doit φ1 he h
                refine ⟨q1, q2, q5, q6, ?_⟩
                intro o' ho'
                rcases List.mem_cons.1 ho' with rfl | ho'
                · unfold Come2; rw [hg]; exact ⟨d, hj, .inr ⟨b, hbF q1, fun _ => ⟨q4, q7⟩, fun hne => absurd hbw hne⟩⟩
                · exact q3 o' ho'
              · cases h
            · rename_i hbw
              obtain ⟨q1, q2, q5, q6, q3, q4⟩ := pass h
              refine ⟨q1, q2, q5, q6, ?_⟩
              intro o' ho'
              rcases List.mem_cons.1 ho' with rfl | ho'
              · unfold Come2; rw [hg]
                exact ⟨d, hj, .inr ⟨b, hbF q1, fun e => absurd e hbw, fun _ => q4⟩⟩
              · exact q3 o' ho'
          · cases h
      · cases h
end

theorem op_stepS {V : Env} {A : Start} {n : Nat} {colsP : Pol} {S : Nat → Option (List PK)} {F : Nat → List X → Option (List X × List X)} {Sg : Nat → Option Sig} {ops : Array Oper} {K : Act → World → Prop} {Q : Exit → Act → World → Prop} (hrg : RgOk A) (hks : A.ks = []) (hlo : A.hd.isSome = true → colsP.lo = true) (hn : n ≤ 1000)
    (hSg : ∀ f sg, Sg f = some sg → S f = some (sg.pms.map PM.pk) ∧ DoesR (Abv A) V f sg (F f)) {o : Oper} {rest : List Oper} {μ μ' : Mu} {φ φ' : Fr} {a : Act} {w : World} {sk : List Nat} (hst : Stands (A.k sk) n φ μ a w) (hx : evOps V.τ S F ops (o :: rest) φ (some sk) = some φ') (hm : chkOps V.τ Sg colsP n ops (o :: rest) μ = some μ')
    (hK : ∀ φ1 μ1 a w sk1, Stands (A.k sk1) n φ1 μ1 a w → evOps V.τ S F ops rest φ1 (some sk1) = some φ' → chkOps V.τ Sg colsP n ops rest μ1 = some μ' → K a w) :
    if Region.wanted o (yielded ops a.tmps) then o.wp V.P a w K Q ∨ (o.asks V.P a w ∧ LetsOut Q) else K (a.put o.dst undef) w := by
  simp only [chkOps] at hm
  have hkeep : ∀ sk1 : List Nat, dstOk colsP.lo o = true → (∀ d ∈ sk1, o.dst ≠ some d) → Keeps (A.k sk1) o := by
    intro sk1 hds h1
    exact ⟨(dstOk_keeps hks hlo hds).1, h1⟩
  -- what stands when it is put
  have hrm : ∃ sk1, rmS o.dst (some sk) = some sk1 ∧ (∀ d ∈ sk1, d ∈ sk) ∧ ∀ d ∈ sk1, o.dst ≠ some d := by
    cases hd : o.dst with
    | none => exact ⟨sk, rfl, fun d h => h, fun d _ => by simp⟩
    | some d =>
      refine ⟨sk.filter (· != d), rfl, fun d' h => (List.mem_filter.1 h).1, fun d' h e => ?_⟩
      cases e
      simpa using (List.mem_filter.1 h).2
  obtain ⟨sk1, hsk1, hsub, hne⟩ := hrm
  have hst1 := hst.sub hsub
  obtain ⟨C, g, h0, hsz, hdf, hpar⟩ := hst1
  have h := pre_sound colsP o h0
  generalize preM colsP o μ = μ at h hm
  split at hm
  · rename_i hs
    rw [Bool.and_eq_true] at hs
    obtain ⟨hs, hds⟩ := hs
    have hkp := hkeep sk1 hds hne
    have hrg1 : RgOk (A.k sk1) := hrg
    simp only [evOps] at hx
    have skip : ∀ (μ1 : Mu) d2 sm, o.dst = some d2 → (μ1 = μ.put d2 sm ∨ weakS (μ.put d2 sm) μ1 = true) → chkOps V.τ Sg colsP n ops rest μ1 = some μ' → evOps V.τ S F ops rest (putRes o.dst [] φ) (addS o.dst (some sk)) = some φ' → K (a.put o.dst undef) w := by
      intro μ1 d2 sm hd2 hput hm hx
      rw [hd2] at hx ⊢
      simp only [putRes] at hx
      unfold smallO at hs
      simp only [Bool.and_eq_true] at hs
      have hdn := hs.1.2
      rw [hd2] at hdn
      simp only [Nat.blt_eq] at hdn
      obtain ⟨C2, h2⟩ := skip_st (sm := sm) h (Nat.lt_of_lt_of_le hdn hn) (by rw [hsz]; exact hdn)
      have h3 : ∃ C2, St (A.k sk1) w μ1 (upd φ d2 .u) (tmO (a.put (some d2) undef).tmps g) C2 := by
        rcases hput with rfl | hw
        · exact ⟨C2, h2⟩
        · exact ⟨C2, h2.weak hw⟩
      obtain ⟨C2, h2⟩ := h3
      refine hK _ _ _ _ (d2 :: sk) ⟨C2, g, h2.unks.ks, by rw [put_size]; exact hsz, by rw [put_defers]; exact hdf, ?_⟩ hx hm
      obtain ⟨C', g', k1, k2, k3, k4⟩ := hst
      have hp := hd2 ▸ hpar.put hkp undef
      refine ⟨hp.1, fun d hd => ?_⟩
      rcases List.mem_cons.1 hd with rfl | hd
      · simp [Act.put, Array.getD_eq_getD_getElem?, Array.getElem?_setIfInBounds]
        split <;> simp_all
      · by_cases e : d = d2
        · subst e
          simp [Act.put, Array.getD_eq_getD_getElem?, Array.getElem?_setIfInBounds]
          split <;> simp_all
        · simp only [Act.put, Array.getD_eq_getD_getElem?]
          rw [Array.getElem?_setIfInBounds_ne (fun h => e h.symm)]
          have := k4.2 d hd
          simpa [Array.getD_eq_getD_getElem?] using this
    cases hg : o.guard with
    | none =>
      rw [hg] at hx hm
      simp only at hx hm
      split at hx
      · rename_i φ1 hx1
        rw [hsk1] at hx
        split at hm
        · rename_i μ1 hm1
          rw [if_pos (by simp [Region.wanted, hg])]
          exact .inl (op_wp hrg1 hn hSg hs hsz hdf hpar hkp h hx1 hm1 fun a' w' hst' => hK φ1 μ1 a' w' sk1 hst' hx hm)
        · cases hm
      · cases hx
    | some jw =>
      obtain ⟨j, want⟩ := jw
      rw [hg] at hx hm
      simp only at hx hm
      split at hm
      · rename_i d hj
        rw [hj] at hx
        simp only at hx
        split at hm
        · rename_i hc
          simp only [Bool.and_eq_true, Nat.blt_eq] at hc
          split at hm
          · rename_i μ1 hm1
            obtain ⟨hm2, d2, sm, hd2, hput⟩ := guardM_put hm1
            split at hx
            · rename_i hin
              have hu : a.tmps.getD d undef = undef := by
                obtain ⟨C', g', k1, k2, k3, k4⟩ := hst
                exact k4.2 d (show d ∈ sk from by simpa [inS] using hin)
              have hy : yielded ops a.tmps j = none := by
                unfold yielded
                rw [hj]
                simp only [Option.bind_some]
                cases hq : a.tmps[d]? with
                | none => rfl
                | some v =>
                  simp only [Array.getD_eq_getD_getElem?, hq, Option.getD_some] at hu
                  subst hu
                  rfl
              rw [if_neg (by simp [Region.wanted, hg, hy])]
              exact skip μ1 d2 sm hd2 hput hm hx
            · split at hx
              · rename_i b hb
                have hbool := slot_bool h hc.1 hc.2 hb
                have hy : yielded ops a.tmps j = some b := by
                  unfold yielded
                  rw [hj]
                  simp only [Option.bind_some]
                  have : a.tmps[d]? = some (.bool b) := by
                    by_cases hlt : d < a.tmps.size
                    · rw [Array.getElem?_eq_getElem hlt]
                      simp [Array.getD, hlt] at hbool
                      rw [hbool]
                    · simp [Array.getD, hlt] at hbool
                      cases hbool
                  rw [this]
                split at hx
                · rename_i hbw
                  split at hx
                  · rename_i φ1 hx1
                    rw [hsk1] at hx
                    rw [if_pos (by simp [Region.wanted, hg, hy, hbw])]
                    exact .inl (op_wp hrg1 hn hSg hs hsz hdf hpar hkp h hx1 hm2 fun a' w' hst' => hK φ1 μ1 a' w' sk1 hst' hx hm)
                  · cases hx
                · rename_i hbw
                  rw [if_neg (by simp [Region.wanted, hg, hy, hbw])]
                  exact skip μ1 d2 sm hd2 hput hm hx
              · cases hx
          · cases hm
        · cases hm
      · cases hm
  · cases hm


/-- The operations behind the cut, in their one order. -/
theorem tail_wpS {V : Env} {A : Start} {n : Nat} {colsP : Pol} {S : Nat → Option (List PK)} {F : Nat → List X → Option (List X × List X)} {Sg : Nat → Option Sig} {ops : Array Oper} {Q : Exit → Act → World → Prop} (hrg : RgOk A) (hks : A.ks = []) (hlo : A.hd.isSome = true → colsP.lo = true) (hn : n ≤ 1000)
    (hSg : ∀ f sg, Sg f = some sg → S f = some (sg.pms.map PM.pk) ∧ DoesR (Abv A) V f sg (F f)) {φ' : Fr} {μ' : Mu} (hQ : ∀ a w, Stands A n φ' μ' a w → Q .normal a w) {m : Nat}
    (hseq : ∀ i o, ops[i]? = some o → m ≤ i → ∀ j, j < i → ∀ (listed : Array Bool), (∀ k, listed.getD k false = true → ∀ b, b < k → listed.getD b false = true) → i ∈ Region.ready .any ops listed → listed.getD j false = true)
    (hrdy : ∀ i (listed : Array Bool), i < ops.size → listed.getD i true = false → (∀ j, j < i → listed.getD j false = true) → i ∈ Region.ready .any ops listed) :
    ∀ (rest : List Oper) (i : Nat) (fuel : Nat) (listed : Array Bool) (φ : Fr) (μ : Mu) (a : Act) (w : World) (sk : List Nat), m ≤ i → rest = ops.toList.drop i → listed.size = ops.size →
      (∀ j, j < i → listed.getD j false = true) → (∀ j, i ≤ j → j < ops.size → listed.getD j true = false) → rest.length ≤ fuel →
      Stands (A.k sk) n φ μ a w → evOps V.τ S F ops rest φ (some sk) = some φ' → chkOps V.τ Sg colsP n ops rest μ = some μ' → wpAny V.P .any ops Q fuel listed a w
  | [], i, fuel, listed, φ, μ, a, w, sk, hmi, hr, hls, hl, hu, hf, hst, hx, hm => by
    simp only [evOps, Option.some.injEq] at hx
    simp only [chkOps, Option.some.injEq] at hm
    subst hx; subst hm
    refine wpAny_done ?_ (hQ a w (hst.ks0 hks)) fuel
    have : ops.size ≤ i := by
      have := congrArg List.length hr
      simp at this
      omega
    apply List.eq_nil_iff_forall_not_mem.2
    intro j hj
    obtain ⟨h1, o, h2, _⟩ := mem_ready.1 hj
    have hlt := (Array.getElem?_eq_some_iff.1 h2).1
    have h3 := hl j (by omega)
    rw [Array.getD_eq_getD_getElem?] at h1 h3
    have : j < listed.size := by omega
    simp [this] at h1 h3
    rw [h3] at h1; cases h1
  | o :: rest, i, fuel, listed, φ, μ, a, w, sk, hmi, hr, hls, hl, hu, hf, hst, hx, hm => by
    have hio : ops[i]? = some o := by
      have := congrArg (·[0]?) hr
      simp at this
      exact this.symm
    have hi : i < ops.size := (Array.getElem?_eq_some_iff.1 hio).1
    have hrest : rest = ops.toList.drop (i + 1) := by
      have := congrArg (List.drop 1) hr
      simpa using this
    cases fuel with
    | zero => simp at hf
    | succ fuel =>
      have hi0 : listed.getD i true = false := hu i (Nat.le_refl _) hi
      have hin : i ∈ Region.ready .any ops listed := hrdy i listed hi hi0 hl
      refine ⟨fun e => absurd (e ▸ hin) (by simp), fun j hj => ?_⟩
      have hji : j = i := by
        obtain ⟨h1, oj, h2, _⟩ := mem_ready.1 hj
        have hjs := (Array.getElem?_eq_some_iff.1 h2).1
        rcases Nat.lt_trichotomy j i with h3 | h3 | h3
        · have h4 := hl j h3
          rw [Array.getD_eq_getD_getElem?] at h1 h4
          have : j < listed.size := by omega
          simp [this] at h1 h4
          rw [h4] at h1; cases h1
        · exact h3
        · have h4 := hseq j oj h2 (by omega) i h3 listed (fun k hk b hb => by
            by_cases hki : k < i
            · exact hl b (by omega)
            · by_cases hks : k < ops.size
              · have h5 := hu k (by omega) hks
                rw [Array.getD_eq_getD_getElem?] at hk h5
                have : k < listed.size := by omega
                simp [this] at hk h5
                rw [hk] at h5; cases h5
              · rw [Array.getD_eq_getD_getElem?] at hk
                have : ¬ k < listed.size := by omega
                simp [this] at hk) hj
          have h5 := hi0
          rw [Array.getD_eq_getD_getElem?] at h4 h5
          have : i < listed.size := by omega
          simp [this] at h4 h5
          rw [h4] at h5; cases h5
      subst hji
      unfold wpOp
      rw [hio]
      refine op_stepS hrg hks hlo hn hSg hst hx hm fun φ1 μ1 a' w' sk1 hst' hx' hm' => ?_
      refine tail_wpS hrg hks hlo hn hSg hQ hseq hrdy rest (j + 1) fuel _ φ1 μ1 a' w' sk1 (by omega) hrest (by simpa using hls) ?_ ?_ (by simpa using hf) hst' hx' hm'
      · intro k hk
        by_cases e : k = j
        · subst e
          have : k < listed.size := by omega
          simp [this]
        · exact getD_set_true (hl k (by omega))
      · intro k hk hks
        rw [getD_set_ne true (by omega)]
        exact hu k (by omega) hks


section
variable {V : Env} {A : Start} {n : Nat} {S : Nat → Option (List PK)} {F : Nat → List X → Option (List X × List X)} {Sg : Nat → Option Sig} {ops : Array Oper} {μ0 : Mu} {colsP : Pol}

theorem settle_wpS {B : List (List Nat)} {m : Nat} {dl : List (Option Tmp)} {EF : List Mu} {φF φ' : Fr} {μ' : Mu} {Q : Exit → Act → World → Prop} (hrg : RgOk A) (hks : A.ks = []) (hlo : A.hd.isSome = true → colsP.lo = true) (hn : n ≤ 1000) (hkp : ∀ (i : Nat) (o : Oper), ops[i]? = some o → Keeps A o)
    (hSg : ∀ f sg, Sg f = some sg → S f = some (sg.pms.map PM.pk) ∧ DoesR (Abv A) V f sg (F f)) (hQ : ∀ a w, Stands A n φ' μ' a w → Q .normal a w)
    (hok : TextOk ops B m) (hdl : dl = (ops.toList.take m).map (·.dst)) (hJ : ∀ i o, ops[i]? = some o → i < m → JudgedAt V.τ Sg n ops μ0 dl EF i o (B.getD i []))
    {SK : List Nat} (hC : ∀ i o, ops[i]? = some o → i < m → Come2 V.τ S F ops φF SK o) (hSK : ∀ d ∈ SK, ∃ i o, ops[i]? = some o ∧ i < m ∧ o.dst = some d)
    (h0 : ∀ s x, List.lookup s μ0 = some x → x.free (isHit (dstsOf (ops.toList.take m))) = true ∧ isHit (dstsOf (ops.toList.take m)) s = false)
    (hx : evOps V.τ S F ops (ops.toList.drop m) φF (some SK) = some φ') (hm : chkOps V.τ Sg colsP n ops (ops.toList.drop m) (seeM μ0 EF (List.range m)) = some μ') :
    ∀ (fuel : Nat) (listed : Array Bool) (μ : Mu) (a : Act) (w : World) (T L : List Nat), (∀ i o d, ops[i]? = some o → i < m → listed.getD i false = true → o.dst = some d → d ∈ SK → d ∈ L) → (∀ d ∈ L, ∃ i o, ops[i]? = some o ∧ i < m ∧ listed.getD i false = true ∧ o.dst = some d) → listed.size = ops.size → T.length + (ops.size - m) ≤ fuel →
      (∀ i, i < m → listed.getD i false = false → i ∈ T) → (∀ i, listed.getD i false = true → ∀ b ∈ B.getD i [], listed.getD b false = true) → (∀ i, m ≤ i → i < ops.size → listed.getD i true = false) →
      SetInv ops m μ0 (dstsOf (ops.toList.take m)) EF listed μ → Stands (A.k L) n φF μ a w → wpAny V.P .any ops Q fuel listed a w := by
  have hrdy : ∀ i (listed : Array Bool), i < ops.size → listed.getD i true = false → (∀ j, j < i → listed.getD j false = true) → i ∈ Region.ready .any ops listed := by
    intro i listed hi h1 h2
    exact mem_ready.2 ⟨h1, ops[i], Array.getElem?_eq_getElem hi, fun e he hb => h2 _ (hok.edge i _ (Array.getElem?_eq_getElem hi) e he hb)⟩
  have hclose : ∀ i o (listed : Array Bool), ops[i]? = some o → (∀ k, listed.getD k false = true → ∀ b ∈ B.getD k [], listed.getD b false = true) → i ∈ Region.ready .any ops listed → ∀ b ∈ B.getD i [], listed.getD b false = true := by
    intro i o listed ho hd hi b hb
    obtain ⟨_, o', ho', hall⟩ := mem_ready.1 hi
    rw [ho] at ho'; cases ho'
    obtain ⟨e, he, h1, h2⟩ := hok.via i o ho b hb
    have h3 := hall e he h1
    rcases h2 with h2 | h2
    · rw [← h2]; exact h3
    · exact hd _ h3 b h2
  have hend : ∀ (fuel : Nat) (listed : Array Bool) (μ : Mu) (a : Act) (w : World) (L : List Nat), (∀ i o d, ops[i]? = some o → i < m → listed.getD i false = true → o.dst = some d → d ∈ SK → d ∈ L) → listed.size = ops.size → ops.size - m ≤ fuel → (∀ j, j < m → listed.getD j false = true) → (∀ i, m ≤ i → i < ops.size → listed.getD i true = false) →
      SetInv ops m μ0 (dstsOf (ops.toList.take m)) EF listed μ → Stands (A.k L) n φF μ a w → wpAny V.P .any ops Q fuel listed a w := by
    intro fuel listed μ a w L hL1 hls hf hall hhi hI hst
    have hst := hst.sub (l' := SK) fun d hd => by
      obtain ⟨i, o, h1, h2, h3⟩ := hSK d hd
      exact hL1 i o d h1 h2 (hall i h2) h3 hd
    obtain ⟨C, g, h, hsz, hdf, hpar⟩ := hst
    refine tail_wpS hrg hks hlo hn hSg hQ (m := m) ?_ hrdy _ m fuel listed φF _ a w SK (Nat.le_refl _) rfl hls hall hhi (by simp; omega) ⟨C, g, h.weakG (see_weak hok.le hJ h0 hI fun j hj => ?_), hsz, hdf, hpar⟩ hx hm
    · intro i o ho hmi j hj l hl hi
      exact hclose i o l ho (fun k hk b hb => hl k hk b (hok.lt k b hb)) hi j (hok.tail i (Array.getElem?_eq_some_iff.1 ho).1 hmi j hj)
    · have hj' : j < m := by simpa using hj
      exact ⟨hj', hall j hj'⟩
  intro fuel
  induction fuel with
  | zero =>
    intro listed μ a w T L hL1 hL2 hls hT hun hdown hhi hI hst
    have hall : ∀ j, j < m → listed.getD j false = true := by
      intro j hj
      cases e : listed.getD j false with
      | true => rfl
      | false => have := hun j hj e; have : T = [] := List.length_eq_zero_iff.1 (by omega); subst this; simp at *
    exact hend 0 listed μ a w L hL1 hls (by omega) hall hhi hI hst
  | succ fuel ih =>
    intro listed μ a w T L hL1 hL2 hls hT hun hdown hhi hI hst
    by_cases hall : ∀ j, j < m → listed.getD j false = true
    · exact hend (fuel + 1) listed μ a w L hL1 hls (by omega) hall hhi hI hst
    · have hex : ∃ j, j < m ∧ listed.getD j false = false := by
        apply Classical.byContradiction
        intro hne
        apply hall
        intro j hj
        cases e : listed.getD j false with
        | true => rfl
        | false => exact (hne ⟨j, hj, e⟩).elim
      obtain ⟨j0, hj0, hu0, hlow⟩ := least_unlisted hex
      have hm' := hok.le
      have hr0 : j0 ∈ Region.ready .any ops listed := hrdy j0 listed (by omega) (by rw [arr_getD_flip (by omega)]; exact hu0) hlow
      refine ⟨fun e => absurd (e ▸ hr0) (by simp), fun i hi => ?_⟩
      obtain ⟨hiu, o, ho, _⟩ := mem_ready.1 hi
      have his := (Array.getElem?_eq_some_iff.1 ho).1
      have hcl := hclose i o listed ho hdown hi
      have him : i < m := by
        rcases Nat.lt_or_ge i m with h | h
        · exact h
        · have := hcl j0 (hok.tail i his h j0 (by omega))
          rw [hu0] at this; cases this
      have hiu' : listed.getD i false = false := by rw [← arr_getD_flip (by omega)]; exact hiu
      have hJi := hJ i o ho him
      obtain ⟨cols, ms, hj, h8, hE, hfree, hguard⟩ := hJi.ex
      have hcome := hC i o ho him
      have hsee : ∀ s, (seeM μ0 EF (B.getD i [])).get s = .u ∨ (seeM μ0 EF (B.getD i [])).get s = μ.get s :=
        see_weak hok.le hJ h0 hI fun j hj => ⟨by have := hok.lt i j hj; omega, hcl j hj⟩
      have next : ∀ μ1, (∀ s, (∃ d, o.dst = some d ∧ hit d s = true ∧ μ1.get s = Mu.get (EF.getD i []) s) ∨ ((∀ d, o.dst = some d → hit d s = false) ∧ μ1.get s = o.dst.elim (μ.get s) fun d => (μ.get s).dropS d)) →
          ∀ a w (L' : List Nat), (∀ d ∈ L, d ∈ L') → (∀ d ∈ L', d ∈ L ∨ o.dst = some d) → (∀ d, o.dst = some d → d ∈ SK → d ∈ L') → Stands (A.k L') n φF μ1 a w → wpAny V.P .any ops Q fuel (listed.setIfInBounds i true) a w := by
        intro μ1 hg a' w' L' hl1 hl2 hl3 hst'
        have hiT : i ∈ T := hun i him hiu'
        refine ih _ μ1 a' w' (T.erase i) L' ?_ ?_ (by simpa using hls) ?_ ?_ ?_ ?_ (hI.put hok hn hdl hJ h0 hdown ho him hiu' hg) hst'
        · intro k ok dk h1 h2 h3 h4 h5
          by_cases e : k = i
          · subst e
            rw [ho] at h1; cases h1
            exact hl3 dk h4 h5
          · rw [getD_set_ne false (fun e' => e e'.symm)] at h3
            exact hl1 dk (hL1 k ok dk h1 h2 h3 h4 h5)
        · intro d hd
          rcases hl2 d hd with h1 | h1
          · obtain ⟨k, ok, q1, q2, q3, q4⟩ := hL2 d h1
            exact ⟨k, ok, q1, q2, getD_set_true q3, q4⟩
          · refine ⟨i, o, ho, him, ?_, h1⟩
            have : i < listed.size := by omega
            simp [this]
        · rw [List.length_erase_of_mem hiT]
          have := List.length_pos_of_mem hiT
          omega
        · intro k hk hku
          by_cases e : k = i
          · subst e
            have : k < listed.size := by omega
            simp [this] at hku
          · rw [getD_set_ne false (fun e' => e e'.symm)] at hku
            exact (List.mem_erase_of_ne e).2 (hun k hk hku)
        · intro k hk b hb
          by_cases e : k = i
          · subst e; exact getD_set_true (hcl b hb)
          · rw [getD_set_ne false (fun e' => e e'.symm)] at hk
            exact getD_set_true (hdown k hk b hb)
        · intro k hk hks
          rw [getD_set_ne true (by omega)]
          exact hhi k hk hks
      obtain ⟨C, g, h, hsz, hdf, hpar⟩ := hst
      have hko : Keeps (A.k L) o := ⟨(hkp i o ho).1, fun d hd e => by
        obtain ⟨k, ok, q1, q2, q3, q4⟩ := hL2 d hd
        have hat : ∀ j oj, ops[j]? = some oj → j < m → (ops.toList.take m)[j]? = some oj := by
          intro j oj h1 h2
          rw [List.getElem?_take, if_pos h2]
          simpa using h1
        have := filterMap_inj (f := (·.dst)) hok.dsts (hat k ok q1 q2) (hat i o ho him) q4 e
        subst this
        rw [hiu'] at q3; cases q3⟩
      have hw := h.weakG hsee
      have run : (∀ d, o.dst = some d → d ∉ SK) → ∀ rs, Yields V.τ S F φF o rs → putRes o.dst rs φF = φF → o.wp V.P a w (wpAny V.P .any ops Q fuel (listed.setIfInBounds i true)) Q := by
        intro hno rs hy hput
        obtain ⟨μ1, hμ1⟩ : ∃ μ1, putResM o.dst ms μ = some μ1 := by
          unfold putResM
          split
          · exact ⟨_, rfl⟩
          · split
            · exact ⟨_, rfl⟩
            · exact ⟨_, rfl⟩
            · rw [if_pos h8]; exact ⟨_, rfl⟩
        refine settle_op (A := A.k L) hn hSg hJi.small hsz hdf hpar hko hw h hj hy hμ1 fun a' w' hst' => ?_
        rw [hput] at hst'
        refine next μ1 ?_ a' w' L (fun _ h => h) (fun _ h => .inl h) (fun d e hd => absurd hd (hno d e)) hst'
        intro s
        rcases putResM_get hμ1 s with ⟨d, e1, e2, e3⟩ | h1
        · exact .inl ⟨d, e1, e2, by rw [hE]; exact e3⟩
        · exact .inr h1
      unfold wpOp
      rw [ho]
      unfold Come2 at hcome
      unfold guardS at hguard
      cases hg : o.guard with
      | none =>
        rw [hg] at hcome
        obtain ⟨⟨rs, hy, hput⟩, hno⟩ := hcome
        simp only
        rw [if_pos (by simp [Region.wanted, hg])]
        exact .inl (run hno rs hy hput)
      | some jw =>
        obtain ⟨j, want⟩ := jw
        rw [hg] at hcome hguard
        obtain ⟨d, hjd, hcome⟩ := hcome
        simp only [hjd, Bool.and_eq_true, beq_iff_eq, Nat.blt_eq] at hguard
        obtain ⟨⟨⟨hjb, hlen⟩, hsome⟩, hd1, hrd⟩ := hguard
        have pass : (∀ d', o.dst = some d' → φF d' = .u ∧ d' ∈ SK) → wpAny V.P .any ops Q fuel (listed.setIfInBounds i true) (a.put o.dst undef) w := by
          intro hc2
          obtain ⟨dd, hdd⟩ := Option.isSome_iff_exists.1 hsome
          obtain ⟨sm, hsm⟩ : ∃ sm, ms = [sm] := by
            match ms, hlen with
            | [sm], _ => exact ⟨sm, rfl⟩
          have hs := hJi.small
          unfold smallO at hs
          simp only [Bool.and_eq_true] at hs
          have hdn := hs.1.2
          rw [hdd] at hdn
          simp only [Nat.blt_eq] at hdn
          obtain ⟨C2, h2⟩ := skip_st (sm := sm) h (Nat.lt_of_lt_of_le hdn hn) (by rw [hsz]; exact hdn)
          rw [upd_same (hc2 dd hdd).1] at h2
          rw [hdd]
          have hp := hdd ▸ hpar.put hko undef
          refine next (μ.put dd sm) ?_ _ _ (dd :: L) (fun _ h => List.mem_cons_of_mem _ h) (fun d h => by
            rcases List.mem_cons.1 h with rfl | h
            · exact .inr hdd
            · exact .inl h) (fun d e _ => by rw [hdd] at e; cases e; exact List.mem_cons_self ..) ⟨C2, g, h2.unks.ks, by rw [put_size]; exact hsz, by rw [put_defers]; exact hdf, hp.1, fun d hd => ?_⟩
          · intro s
            rcases putResM_get (dst := some dd) (ms := [sm]) (μ := μ) (μ' := μ.put dd sm) rfl s with ⟨d', e1, e2, e3⟩ | ⟨h1, h3⟩
            · exact .inl ⟨d', by rw [hdd]; exact e1, e2, by rw [hE, hsm, hdd]; exact e3⟩
            · exact .inr ⟨by rw [hdd]; exact h1, by rw [hdd]; exact h3⟩
          · rcases List.mem_cons.1 hd with rfl | hd
            · simp [Act.put, Array.getD_eq_getD_getElem?, Array.getElem?_setIfInBounds]
              split <;> simp_all
            · exact hp.2 d hd
        rcases hcome with ⟨hdS, hc2⟩ | ⟨b, hv, hc1, hc2⟩
        · have hdL : d ∈ L := by
            cases hoj : ops[j]? with
            | none => rw [hoj] at hjd; cases hjd
            | some oj =>
              rw [hoj] at hjd
              have hjb' : j ∈ B.getD i [] := by simpa using hjb
              exact hL1 j oj d hoj (by have := hok.lt i j hjb'; omega) (hcl j hjb') hjd hdS
          have hu : a.tmps.getD d undef = undef := hpar.2 d hdL
          have hy : yielded ops a.tmps j = none := by
            unfold yielded
            rw [hjd]
            simp only [Option.bind_some]
            cases hq : a.tmps[d]? with
            | none => rfl
            | some v =>
              simp only [Array.getD_eq_getD_getElem?, hq, Option.getD_some] at hu
              subst hu
              rfl
          simp only
          rw [if_neg (by simp [Region.wanted, hg, hy])]
          exact pass hc2
        · have hbool := slot_bool hw hd1 hrd hv
          have hy : yielded ops a.tmps j = some b := by
            unfold yielded
            rw [hjd]
            simp only [Option.bind_some]
            have : a.tmps[d]? = some (.bool b) := by
              by_cases hlt : d < a.tmps.size
              · rw [Array.getElem?_eq_getElem hlt]
                simp [Array.getD, hlt] at hbool
                rw [hbool]
              · simp [Array.getD, hlt] at hbool
                cases hbool
            rw [this]
          simp only
          by_cases hbw : b = want
          · rw [if_pos (by simp [Region.wanted, hg, hy, hbw])]
            obtain ⟨⟨rs, h1, h2⟩, hno⟩ := hc1 hbw
            exact .inl (run hno rs h1 h2)
          · rw [if_neg (by simp [Region.wanted, hg, hy, hbw])]
            exact pass (hc2 hbw)

theorem drawn_wpS {id : Nat} {φ φ' : Fr} {μ μ' : Mu} {a : Act} {w : World} {Q : Exit → Act → World → Prop} (hrg : RgOk A) (hks : A.ks = []) (hlo : A.hd.isSome = true → colsP.lo = true) (hn : n ≤ 1000)
    (hSg : ∀ f sg, Sg f = some sg → S f = some (sg.pms.map PM.pk) ∧ DoesR (Abv A) V f sg (F f)) (hst : Stands A n φ μ a w) (hx : evOps V.τ S F ops ops.toList (clrX (dstsOf (ops.toList.take (cutOf ops.toList))) φ) (some []) = some φ') (hm : chkDrawn V.τ Sg colsP n ops μ = some μ')
    (hQ : ∀ a w, Stands A n φ' μ' a w → Q .normal a w) : (Code.region id ops true).wp V.P Q a w := by
  unfold chkDrawn at hm
  simp only at hm
  generalize cutOf ops.toList = m at *
  split at hm
  · rename_i hc
    simp only [Bool.and_eq_true, List.all_eq_true, Bool.not_eq_true'] at hc
    have hok := textOk_spec hc.1.1
    have hkp : ∀ (i : Nat) (o : Oper), ops[i]? = some o → Keeps A o := fun i o hi => dstOk_keeps hks hlo (hc.1.2 o (List.mem_iff_getElem?.2 ⟨i, by simpa using hi⟩))
    split at hm
    · rename_i Es hEs
      obtain ⟨Ys, h1, h2, h3⟩ := settleM_spec _ 0 _ [] _ rfl hEs
      simp only [List.nil_append] at h1
      subst h1
      have hBat : ∀ i, i < ops.size → (predsL ops.toList [])[i]? = some ((predsL ops.toList []).getD i []) := by
        intro i hi
        have : i < (predsL ops.toList []).length := by rw [hok.len]; exact hi
        simp [List.getD_eq_getElem?_getD, this]
      have hJ : ∀ i o, ops[i]? = some o → i < m → JudgedAt V.τ Sg n ops ((dstsOf (ops.toList.take m)).foldl Mu.clear μ) ((ops.toList.take m).map (·.dst)) Es i o ((predsL ops.toList []).getD i []) := by
        intro i o ho him
        have hi := (Array.getElem?_eq_some_iff.1 ho).1
        have := h3 i o _ (by rw [List.getElem?_take, if_pos him]; simpa using ho) (hBat i hi)
        simpa using this
      have hsplit : ops.toList = ops.toList.take m ++ ops.toList.drop m := (List.take_append_drop m _).symm
      have hx' := hx
      rw [hsplit] at hx'
      rw [← hsplit] at hx'
      obtain ⟨φF, SK, hx1, hx2⟩ := evOps_append2 (ops.toList.take m) (ops.toList.drop m) _ φ' [] (by rw [← hsplit]; exact hx)
      have htk : ∀ o ∈ ops.toList.take m, ∃ i, ops[i]? = some o ∧ i < m := by
        intro o ho
        obtain ⟨i, hi⟩ := List.mem_iff_getElem?.1 ho
        rw [List.getElem?_take] at hi
        split at hi
        · rename_i him; exact ⟨i, by simpa using hi, him⟩
        · cases hi
      have hd1000 : ∀ d ∈ (ops.toList.take m).filterMap (·.dst), d < 1000 := by
        intro d hd
        obtain ⟨o, ho, e⟩ := List.mem_filterMap.1 hd
        obtain ⟨i, hi, him⟩ := htk o ho
        have := (hJ i o hi him).small
        unfold smallO at this
        simp only [Bool.and_eq_true] at this
        have := this.1.2
        rw [e] at this
        have : Nat.lt d n := by simpa [Nat.blt_eq] using this
        exact Nat.lt_of_lt_of_le this hn
      obtain ⟨q1, q2, _, q4, q3⟩ := come_all2 (ops.toList.take m) _ φF [] SK hx1 (by simp) (by
        intro o ho
        obtain ⟨i, hi, him⟩ := htk o ho
        obtain ⟨cols, ms, hj, _⟩ := (hJ i o hi him).ex
        intro φ1 φ2 he
        exact evOp_yields (fun f sg hf => (hSg f sg hf).1) hj he) hok.dsts hd1000 (by
        intro d hd s hs
        have h9 : isHit (dstsOf (ops.toList.take m)) s = true := isHit_iff.2 ⟨d, hd, hs⟩
        simp [clrX, h9])
      obtain ⟨C, g, h, hsz, hdf, hpar⟩ := hst
      have he : Ext w { w with drawn := w.drawn + 1 } := ⟨Nat.le_refl _, fun _ _ => rfl, ⟨rfl, rfl, rfl⟩⟩
      obtain ⟨C', h'⟩ := clr_st (φF := φF) (dstsOf (ops.toList.take m)) φ μ C _ hd1000 (h.ext he) (by
        intro s hs
        rw [q2 s fun d hd => ?_]
        · simp [clrX, hs]
        · rw [Bool.eq_false_iff]
          intro e
          have := isHit_iff.2 ⟨d, hd, e⟩
          have h9 : isHit (dstsOf (ops.toList.take m)) s = true := this
          rw [hs] at h9; cases h9)
      refine wp_region_any V.mix ?_
      refine settle_wpS hrg hks hlo hn hkp hSg hQ hok rfl hJ (fun i o ho him => q3 o ?_) ?_ ?_ hx2 hm ops.size _ _ a _ (List.range m) [] ?_ (by simp) (by simp) (by simp; have := hok.le; omega) (fun i hi _ => by simpa using hi) ?_ ?_ ?_ ⟨C', g, h'.ks, hsz, hdf, hpar.1, by simp [Start.k]⟩
      · refine List.mem_iff_getElem?.2 ⟨i, ?_⟩
        rw [List.getElem?_take, if_pos him]; simpa using ho
      · intro d hd
        rcases q4 d hd with h | h
        · simp at h
        · obtain ⟨o, ho, e⟩ := List.mem_filterMap.1 h
          obtain ⟨i, hi, him⟩ := htk o ho
          exact ⟨i, o, hi, him, e⟩
      · intro s x hl
        exact hc.2 _ (lookup_mem hl)
      · intro i o d _ _ hj
        rw [Array.getD_eq_getD_getElem?] at hj
        simp [Array.getElem?_replicate] at hj
        split at hj <;> simp at hj
      · intro i hi
        rw [Array.getD_eq_getD_getElem?] at hi
        simp [Array.getElem?_replicate] at hi
        split at hi <;> simp at hi
      · intro i _ hi
        rw [Array.getD_eq_getD_getElem?]
        simp [Array.getElem?_replicate, hi]
      · refine ⟨fun s _ => rfl, ?_⟩
        intro j o d s _ _ hj
        rw [Array.getD_eq_getD_getElem?] at hj
        simp [Array.getElem?_replicate] at hj
        split at hj <;> simp at hj
    · cases hm
  · cases hm
end
end Go.Ev

/- A region whose order is drawn, with whole boxes that are written in its settled part: modes that do not speak of these boxes; frames. -/
namespace Go.Ev

def okS (W : List Nat) (s : Nat) : Bool := !W.contains s && s != gam
def avP (W : List Nat) : Pv → Bool
  | .arg _ => true
  | .lab [] => false
  | .lab (a :: _) => okS W a
mutual
def M.av (W : List Nat) : M → Bool
  | .u => true
  | .emp => true
  | .own cs => avL W cs
  | .view ps => ps.all (avP W)
def avL (W : List Nat) : List M → Bool
  | [] => true
  | m :: ms => m.av W && avL W ms
end

/-- No word of these slots. -/
def SM.av (W : List Nat) : SM → Bool
  | .u => true
  | .c m o => m.av W && (match o with
    | .no => true
    | .dead => true
    | .at s _ => okS W s
    | .vw s => okS W s
    | .ats _ _ _ => false)
  | .agg ms o => avL W ms && (match o with
    | .no => true
    | .dead => true
    | .ats s _ _ => okS W s
    | _ => false)
  | .box ms => avL W ms
  | .vbox ps _ => ps.all (avP W)
  | .pt s _ => okS W s
  | .pa s _ _ => okS W s
  | .pv ps s => ps.all (avP W) && okS W s
  | .tup _ _ => true
  | .clo _ caps => caps.all (okS W)
  | .fv _ _ => true

/-- What says nothing is left away. -/
def calm : SM → SM
  | .c m (.ats _ _ _) => .c m .dead
  | .agg ms (.at _ _) => .agg ms .dead
  | .agg ms (.vw _) => .agg ms .dead
  | x => x

theorem calm_claim {w : World} {C : Cx} {φ : Fr} {tm : Nat → Value} {s : Nat} {x : X} {v : Value} {sm : SM} (h : ClaimX w C φ tm s x v sm) : ClaimX w C φ tm s x v (calm sm) := by
  cases sm with
  | c m o =>
    cases o with
    | ats a b c => obtain ⟨d, o, e1, e2, _⟩ := h; exact ⟨d, o, e1, e2, fun _ => trivial⟩
    | _ => exact h
  | agg ms o =>
    cases o with
    | «at» a b => obtain ⟨ds, o, vs, e1, e2, e3, e4, e5, _⟩ := h; exact ⟨ds, o, vs, e1, e2, e3, e4, e5, trivial⟩
    | vw a => obtain ⟨ds, o, vs, e1, e2, e3, e4, e5, _⟩ := h; exact ⟨ds, o, vs, e1, e2, e3, e4, e5, trivial⟩
    | _ => exact h
  | _ => exact h

theorem okS_spec {W : List Nat} {s : Nat} (h : okS W s = true) : s ∉ W ∧ s ≠ gam := by
  simp only [okS, Bool.and_eq_true, Bool.not_eq_true', bne_iff_ne, ne_eq] at h
  exact ⟨by simpa using h.1, h.2⟩

section
variable {W : List Nat} {s0 : Nat} {c n : Nat}

theorem av_land (hs : s0 ∈ W) : ∀ {ps : List Pv}, ps.all (avP W) = true → landF [s0] c ps = some ps := by
  intro ps h
  have h1 : ps.mapM (landP [s0] c) = some ps := by
    induction ps with
    | nil => rfl
    | cons p ps ih =>
      simp only [List.all_cons, Bool.and_eq_true] at h
      have hp : landP [s0] c p = some p := by
        cases p with
        | arg i => rfl
        | lab l =>
          cases l with
          | nil => rfl
          | cons a r =>
            have := (okS_spec (by simpa [avP] using h.1)).2
            cases r with
            | nil => simp [landP, this]
            | cons k r => simp [landP, this]
      rw [List.mapM_cons, hp, ih h.2]; rfl
  unfold landF
  rw [h1]
  simp only [Option.bind_some, killF]
  rw [if_neg]
  rw [Bool.not_eq_true, List.any_eq_false]
  intro p hp
  have h2 := List.all_eq_true.1 h p hp
  cases p with
  | arg i => simp
  | lab l =>
    cases l with
    | nil => simp [avP] at h2
    | cons a r =>
      have := (okS_spec (by simpa [avP] using h2)).1
      simp only [Bool.not_eq_true]
      rw [Bool.eq_false_iff]
      intro e
      have := isPre_iff.1 e
      obtain ⟨t, ht⟩ := this
      simp only [List.cons_append, List.cons.injEq] at ht
      rw [ht.1] at this
      exact this hs

mutual
theorem av_map (hs : s0 ∈ W) : ∀ (m : M), m.av W = true → m.map (landF [s0] c) = m
  | .u, _ => rfl
  | .emp, _ => rfl
  | .view ps, h => by simp only [M.map]; rw [av_land hs (by simpa [M.av] using h)]
  | .own cs, h => by simp only [M.map]; rw [avL_map hs cs (by simpa [M.av] using h)]
theorem avL_map (hs : s0 ∈ W) : ∀ (ms : List M), avL W ms = true → mapL (landF [s0] c) ms = ms
  | [], _ => rfl
  | m :: ms, h => by
    simp only [avL, Bool.and_eq_true] at h
    simp only [mapL]
    rw [av_map hs m h.1, avL_map hs ms h.2]
end

theorem pre_ne {a b : Nat} {r : List Nat} (h : a ≠ b) : isPre (a :: r) [b] = false := by
  rw [Bool.eq_false_iff]
  intro e
  obtain ⟨t, ht⟩ := isPre_iff.1 e
  simp only [List.cons_append, List.cons.injEq] at ht
  exact h ht.1

theorem under_ne {a : Nat} {r : List Nat} (h : a ≠ s0) : under [s0] c n (a :: r) = false := by
  unfold under
  rw [List.any_eq_false]
  intro k _
  rw [Bool.not_eq_true, Bool.eq_false_iff]
  intro e
  obtain ⟨t, ht⟩ := isPre_iff.1 e
  simp only [List.cons_append, List.nil_append, List.cons.injEq] at ht
  exact h ht.1.symm

theorem av_fin (hs : s0 ∈ W) {sm : SM} (h : sm.av W = true) : finSM [s0] c n (sm.map (landF [s0] c)) = sm := by
  have key : ∀ s, okS W s = true → s ≠ s0 := by
    intro s h1 e
    subst e
    exact (okS_spec h1).1 hs
  cases sm with
  | u => rfl
  | c m o =>
    simp only [SM.av, Bool.and_eq_true] at h
    simp only [SM.map, av_map hs m h.1]
    cases o with
    | no => rfl
    | dead => rfl
    | ats a b c => cases h.2
    | «at» s cs =>
      have := key s h.2
      simp [finSM, pre_ne this, under_ne this]
    | vw s =>
      have := key s h.2
      simp [finSM]
      exact fun e => this e.symm
  | agg ms o =>
    simp only [SM.av, Bool.and_eq_true] at h
    simp only [SM.map, avL_map hs ms h.1]
    cases o with
    | no => rfl
    | dead => rfl
    | ats s cs js =>
      have := key s h.2
      have h2 : js.any (fun j => isPre (s :: addc cs j) [s0] || under [s0] c n (s :: addc cs j)) = false := by
        rw [List.any_eq_false]
        intro j _
        simp [pre_ne this, under_ne this]
      simp only [finSM, h2, Bool.false_eq_true, if_false]
    | «at» s cs => cases h.2
    | vw s => cases h.2
  | box ms =>
    simp only [SM.av] at h
    simp only [SM.map, avL_map hs ms h, finSM]
  | vbox ps k =>
    simp only [SM.av] at h
    simp only [SM.map, av_land hs h, finSM]
  | pt s cs =>
    have := key s h
    simp [SM.map, finSM, under_ne this]
  | pa s cs k =>
    have := key s h
    simp [SM.map, finSM, under_ne this]
  | pv ps s =>
    simp only [SM.av, Bool.and_eq_true] at h
    have := key s h.2
    simp [SM.map, av_land hs h.1, finSM]
    exact fun e => this e.symm
  | tup b k => rfl
  | clo f cs => rfl
  | fv f i => rfl

theorem av_noG {sm : SM} (h : sm.av W = true) : sm.noG = true := by
  have key : ∀ s, okS W s = true → (s != gam) = true := fun s h => by simpa using (okS_spec h).2
  cases sm with
  | c m o => simp only [SM.av, Bool.and_eq_true] at h; cases o <;> first | rfl | exact key _ h.2
  | agg ms o => simp only [SM.av, Bool.and_eq_true] at h; cases o <;> first | rfl | exact key _ h.2
  | pt s cs => exact key _ h
  | pa s cs k => exact key _ h
  | _ => rfl
end

theorem okS_sub {W W' : List Nat} (h : ∀ s ∈ W', s ∈ W) {s : Nat} (hs : okS W s = true) : okS W' s = true := by
  obtain ⟨h1, h2⟩ := okS_spec hs
  simp only [okS, Bool.and_eq_true, Bool.not_eq_true', bne_iff_ne, ne_eq]
  exact ⟨by simpa using fun h3 => h1 (h s h3), h2⟩

theorem avP_sub {W W' : List Nat} (h : ∀ s ∈ W', s ∈ W) {ps : List Pv} (hs : ps.all (avP W) = true) : ps.all (avP W') = true := by
  rw [List.all_eq_true] at hs ⊢
  intro p hp
  have := hs p hp
  cases p with
  | arg i => rfl
  | lab l => cases l with
    | nil => exact this
    | cons a r => exact okS_sub h this

mutual
theorem avM_sub {W W' : List Nat} (h : ∀ s ∈ W', s ∈ W) : ∀ (m : M), m.av W = true → m.av W' = true
  | .u, _ => rfl
  | .emp, _ => rfl
  | .view ps, hs => avP_sub h hs
  | .own cs, hs => avL_sub h cs hs
theorem avL_sub {W W' : List Nat} (h : ∀ s ∈ W', s ∈ W) : ∀ (ms : List M), avL W ms = true → avL W' ms = true
  | [], _ => rfl
  | m :: ms, hs => by
    simp only [avL, Bool.and_eq_true] at hs ⊢
    exact ⟨avM_sub h m hs.1, avL_sub h ms hs.2⟩
end

theorem av_sub {W W' : List Nat} (h : ∀ s ∈ W', s ∈ W) {sm : SM} (hs : sm.av W = true) : sm.av W' = true := by
  cases sm with
  | c m o =>
    simp only [SM.av, Bool.and_eq_true] at hs ⊢
    refine ⟨avM_sub h m hs.1, ?_⟩
    cases o <;> first | rfl | exact okS_sub h hs.2 | exact hs.2
  | agg ms o =>
    simp only [SM.av, Bool.and_eq_true] at hs ⊢
    refine ⟨avL_sub h ms hs.1, ?_⟩
    cases o <;> first | rfl | exact okS_sub h hs.2 | exact hs.2
  | box ms => exact avL_sub h ms hs
  | vbox ps n => exact avP_sub h hs
  | pt s cs => exact okS_sub h hs
  | pa s cs n => exact okS_sub h hs
  | pv ps s =>
    simp only [SM.av, Bool.and_eq_true] at hs ⊢
    exact ⟨avP_sub h hs.1, okS_sub h hs.2⟩
  | clo f caps =>
    simp only [SM.av, List.all_eq_true] at hs ⊢
    exact fun c hc => okS_sub h (hs c hc)
  | _ => rfl

section
variable {A : Start} {w : World} {μ ν : Mu} {φ φF : Fr} {tm : Nat → Value} {C : Cx}

theorem St.imp (h : St A w μ φ tm C) (hw : ∀ s x v, ClaimX w C φ tm s x v (μ.get s) → ClaimX w C φ tm s x v (ν.get s)) : St A w ν φ tm C := by
  refine { h with slot := ?_ }
  intro s
  exact (h.slot s).imp id (hw s _ _)

/-- The frame is another one at boxes that nothing is told of. -/
theorem St.reframe {W : List Nat} (h : St A w μ φ tm C) (hφ : ∀ s, s ∉ W → φF s = φ s) (hW : ∀ s ∈ W, ∃ old new, φ s = .box old ∧ φF s = .box new ∧ new.length = old.length)
    (hν : ∀ s, s ∉ W → ν.get s = .u ∨ (ν.get s = μ.get s ∧ (μ.get s).av W = true)) (hνW : ∀ s ∈ W, ∃ ms : List M, μ.get s = .box ms ∧ ν.get s = .box (ms.map fun _ => .u)) : St A w ν φF tm C := by
  refine { h with slot := ?_, rng := ?_ }
  · intro s
    by_cases hs : s ∈ W
    · right
      obtain ⟨old, new, e1, e2, e3⟩ := hW s hs
      obtain ⟨ms, g1, g2⟩ := hνW s hs
      have hc := (h.slot s).resolve_left (by rw [e1]; simp)
      unfold Claim at hc ⊢
      rw [e1, g1] at hc
      obtain ⟨ds, b, off, arr, q1, q2, q3⟩ := hc
      cases q1
      rw [e2, g2]
      refine ⟨new, b, off, arr, rfl, q2, q3.own, q3.heap, ?_, ?_, .inl (by simp), ?_⟩
      · intro i row hi
        cases i with
        | zero =>
          simp only [List.getElem?_cons_zero, Option.some.injEq] at hi
          subst hi
          have := q3.size 0 old rfl
          omega
        | succ i => simp at hi
      · intro i row hi
        cases i with
        | zero =>
          simp only [List.getElem?_cons_zero, Option.some.injEq] at hi
          subst hi
          have := q3.len 0 old rfl
          rw [List.length_map]; omega
        | succ i => simp at hi
      · intro i j row d m _ _ hm
        rw [List.getElem?_map, Option.map_eq_some_iff] at hm
        obtain ⟨_, _, rfl⟩ := hm
        exact .u
    · rcases h.slot s with h1 | h1
      · left; rw [hφ s hs]; exact h1
      · right
        rcases hν s hs with e | ⟨e, hav⟩
        · unfold Claim; rw [e]; trivial
        · have h2 : Claim w C φF tm s ((μ.get s).map idF) := by
            refine Claim.keep h1 idF (hφ s hs) rfl (fun b q off c z hb => ⟨hb, rfl⟩) (fun ps ps' e b hb => ?_) (fun i b hb => ⟨hb, rfl⟩) (fun b hb => ⟨hb, rfl⟩) ?_
            · simp only [idF, Option.some.injEq] at e; subst e; exact ⟨hb, rfl⟩
            · have ds : ∀ (q : Nat) (p : Pl), okS W q = true → p.s = q → dataAt φF p = dataAt φ p := by
                intro q p hq hp
                subst hp
                exact dataAt_same (hφ _ (okS_spec hq).1)
              have hd : ∀ (q : Nat) (p : Pl) d v, okS W q = true → p.s = q → HdOk C φ p d v → HdOk C φF p d v := by
                intro q p d v hq hp hh
                rcases hh with ⟨k1, z, k0, k2⟩ | ⟨b, off, c, z, rows0, rows, k0, k01, k1, k2, k3⟩
                · exact .inl ⟨k1, z, k0, by rw [ds q p hq hp]; exact k2⟩
                · exact .inr ⟨b, off, c, z, rows0, rows, k0, k01, k1, k2, by rw [ds q p hq hp]; exact k3⟩
              generalize μ.get s = sm at hav
              cases sm with
              | c m o =>
                simp only [SM.av, Bool.and_eq_true] at hav
                cases o with
                | «at» q cs => exact ⟨fun p hp _ => ⟨fun d v => hd q p d v hav.2 hp, fun _ => ds q p hav.2 hp⟩, fun _ => rfl⟩
                | vw q => exact fun p hp _ => ds q p hav.2 hp
                | ats a b c => cases hav.2
                | _ => trivial
              | agg m o =>
                simp only [SM.av, Bool.and_eq_true] at hav
                cases o with
                | ats q cs js => exact fun p hp _ j _ => ⟨fun d v => hd q (p.addc j) d v hav.2 hp, fun _ => ds q (p.addc j) hav.2 hp⟩
                | _ => trivial
              | pt q cs => exact fun b st off cap z hb _ => hb
              | pa q cs k => exact fun b st off cap z hb _ => hb
              | pv ps q =>
                simp only [SM.av, Bool.and_eq_true] at hav
                refine ⟨fun e => by rw [hφ _ (okS_spec hav.2).1]; exact e, fun p k hp => ?_⟩
                subst hp
                exact cellsAt_same (hφ _ (okS_spec hav.2).1)
              | tup b k => exact fun i _ => rfl
              | clo f caps => exact fun c _ => rfl
              | _ => trivial
          rw [smap_id] at h2
          rw [e]; exact h2
  · intro r hr
    obtain ⟨k1, k2⟩ := h.rng r hr
    refine ⟨k1, fun o ho => ?_⟩
    obtain ⟨k3, ds, k4, k5⟩ := k2 o ho
    refine ⟨k3, ?_⟩
    by_cases hs : r.i ∈ W
    · obtain ⟨old, new, e1, e2, e3⟩ := hW _ hs
      rw [e1] at k4
      cases k4
      exact ⟨new, e2, by omega⟩
    · exact ⟨ds, by rw [hφ _ hs]; exact k4, k5⟩
end
end Go.Ev

/- Whole boxes that are written in the settled part: what is evaluated; the store itself. -/
namespace Go.Ev

/-- A store into a whole box. -/
structure IsStore (W : List Nat) (o : Oper) (t s : Nat) (x : Operand) : Prop where
  op : o.op = .store t (.tmp s) x
  guard : o.guard = none
  dst : o.dst = none
  mem : s ∈ W
  val : ∀ v, x = .tmp v → v ∉ W

theorem IsStore.stT {W : List Nat} {o : Oper} {t s : Nat} {x : Operand} (h : IsStore W o t s x) : stT o = some s := by simp [Ev.stT, h.op]

section
variable {S : Nat → Option (List PK)} {F : Nat → List X → Option (List X × List X)} {τ : List TE} {ops : Array Oper} {W : List Nat}

theorem opX_off {φ ψ : Fr} (h : ∀ s, s ∉ W → ψ s = φ s) {x : Operand} (hx : ∀ v, x = .tmp v → v ∉ W) (ty : Nat) : opX τ ψ ty x = opX τ φ ty x := by
  cases x with
  | tmp v => simp only [opX]; rw [h v (hx v rfl)]
  | const c =>
    unfold opX
    split
    · rename_i e; cases e
    · rfl
    · rfl
    · rename_i e; cases e
    · rename_i e; cases e
  | func f => rfl
  | «global» g => rfl

theorem putX_box {old cs : List D} {y : X} (h : putX (.box old) [(0, 0)] cs = some y) : cs.length ≤ old.length ∧ y = .box (cs ++ old.drop cs.length) := by
  simp only [putX, putIn, List.getElem?_cons_zero, Nat.zero_add] at h
  by_cases hl : cs.length ≤ old.length
  · rw [if_pos hl] at h
    simp at h
    exact ⟨hl, h.symm⟩
  · rw [if_neg hl] at h; cases h

/-- A box that is made. -/
structure IsAlloc (W : List Nat) (o : Oper) (t s : Nat) : Prop where
  op : o.op = .alloc t
  guard : o.guard = none
  dst : o.dst = some s
  mem : s ∈ W

theorem IsAlloc.stT {W : List Nat} {o : Oper} {t s : Nat} (h : IsAlloc W o t s) : stT o = none := by simp [Ev.stT, h.op]

/-- What a box held ahead of its store. -/
def OldOk (τ : List TE) (W : List Nat) (l : List Oper) (ψ0 : Fr) (s : Nat) (old : List D) : Prop := ψ0 s = .box old ∨ ∃ o ∈ l, ∃ t e, IsAlloc W o t s ∧ TE.find τ t = some e ∧ old = e.zero.map ZC.d

theorem stores_ev : ∀ (l : List Oper) (ψ0 ψF : Fr), evOps τ S F ops l ψ0 = some ψF → (∀ o ∈ l, (∃ t s x, IsStore W o t s x) ∨ ∃ t s, IsAlloc W o t s) → (l.filterMap stT).Nodup → l.Pairwise (fun o o' => ∀ s, stT o = some s → o'.dst ≠ some s) → (∀ s ∈ W, ψ0 s = .u ∨ ∃ old, ψ0 s = .box old) →
    (∀ s, s ∉ W → ψF s = ψ0 s) ∧ (∀ s, s ∉ l.filterMap stT → (∀ o ∈ l, o.dst ≠ some s) → ψF s = ψ0 s) ∧ ∀ o ∈ l, ∀ t s x, IsStore W o t s x → ∃ e cs old, TE.find τ t = some e ∧ (opX τ ψF t x).cells = some cs ∧ fits e.zero cs = true ∧ OldOk τ W l ψ0 s old ∧ cs.length ≤ old.length ∧ ψF s = .box (cs ++ old.drop cs.length)
  | [], ψ0, ψF, h, _, _, _, _ => by
    simp only [evOps, Option.some.injEq] at h
    subst h
    exact ⟨fun _ _ => rfl, fun _ _ _ => rfl, by simp⟩
  | o :: l, ψ0, ψF, h, hS, hN, hP, hW => by
    have hP' := List.pairwise_cons.1 hP
    have hS' : ∀ o ∈ l, (∃ t s x, IsStore W o t s x) ∨ ∃ t s, IsAlloc W o t s := fun o' ho' => hS o' (by simp [ho'])
    rcases hS o (by simp) with ⟨t, s, x, hs⟩ | ⟨t, s, hs⟩
    · simp only [evOps, hs.guard, rmS_none] at h
      split at h
      · rename_i ψ1 he
        have hfm : (o :: l).filterMap stT = s :: l.filterMap stT := by simp [hs.stT]
        rw [hfm] at hN
        have hN' := List.nodup_cons.1 hN
        unfold evOp at he
        rw [hs.op] at he
        simp only at he
        rcases hW s hs.mem with hu | ⟨old, hold⟩
        · simp [ptX, hu] at he
        · have hp : ptX ψ0 (.tmp s) = some ⟨s, [(0, 0)]⟩ := by simp [ptX, hold]
          rw [hp] at he
          simp only at he
          unfold storeX at he
          split at he
          · rename_i e cs hte hcs
            split at he
            · rename_i hfit
              unfold putAt at he
              rw [hold] at he
              split at he
              · rename_i y hy
                cases he
                obtain ⟨hl, rfl⟩ := putX_box hy
                obtain ⟨r0, r1, r2⟩ := stores_ev l _ ψF h hS' hN'.2 hP'.2 (by
                  intro s' hs'
                  by_cases e' : s' = s
                  · subst e'; right; exact ⟨_, by simp [upd]; rfl⟩
                  · have := hW s' hs'
                    simpa [upd, e'] using this)
                have hoff : ∀ s', s' ∉ W → ψF s' = ψ0 s' := by
                  intro s' hs'
                  rw [r0 s' hs']
                  have : s' ≠ s := by rintro rfl; exact hs' hs.mem
                  simp [upd, this]
                refine ⟨hoff, ?_, ?_⟩
                · intro s' hs' hd'
                  rw [hfm] at hs'
                  simp only [List.mem_cons, not_or] at hs'
                  rw [r1 s' hs'.2 fun o' ho' => hd' o' (by simp [ho'])]
                  simp [upd, hs'.1]
                · intro o' ho' t' s' x' h'
                  rcases List.mem_cons.1 ho' with rfl | ho'
                  · have e1 := hs.op.symm.trans h'.op
                    cases e1
                    exact ⟨e, cs, old, hte, by rw [opX_off hoff hs.val]; exact hcs, hfit, .inl hold, hl, by rw [r1 s hN'.1 fun o' ho' => hP'.1 o' ho' s hs.stT]; simp [upd]⟩
                  · obtain ⟨e2, cs2, old2, q1, q2, q3, q4, q5, q6⟩ := r2 o' ho' t' s' x' h'
                    have hne : s' ≠ s := by
                      rintro rfl
                      exact hN'.1 (List.mem_filterMap.2 ⟨o', ho', h'.stT⟩)
                    refine ⟨e2, cs2, old2, q1, q2, q3, ?_, q5, q6⟩
                    rcases q4 with q4 | ⟨o2, ho2, q4⟩
                    · exact .inl (by simpa [upd, hne] using q4)
                    · exact .inr ⟨o2, by simp [ho2], q4⟩
              · cases he
            · cases he
          · cases he
      · cases h
    · simp only [evOps, hs.guard, rmS_none] at h
      split at h
      · rename_i ψ1 he
        have hfm : (o :: l).filterMap stT = l.filterMap stT := by simp [hs.stT]
        rw [hfm] at hN
        have hbox : ∃ e, TE.find τ t = some e ∧ ψ1 = upd ψ0 s (.box (e.zero.map ZC.d)) := by
          unfold evOp at he
          rw [hs.op] at he
          simp only [pureX, hs.dst] at he
          split at he
          · rename_i x hx
            split at hx
            · rename_i e hte
              split at hx
              · cases hx; cases he; exact ⟨e, hte, rfl⟩
              · cases hx
            · cases hx
          · cases he
        obtain ⟨e, hte, rfl⟩ := hbox
        obtain ⟨r0, r1, r2⟩ := stores_ev l _ ψF h hS' hN hP'.2 (by
          intro s' hs'
          by_cases e' : s' = s
          · subst e'; right; exact ⟨_, by simp [upd]; rfl⟩
          · have := hW s' hs'
            simpa [upd, e'] using this)
        refine ⟨?_, ?_, ?_⟩
        · intro s' hs'
          rw [r0 s' hs']
          have : s' ≠ s := by rintro rfl; exact hs' hs.mem
          simp [upd, this]
        · intro s' hs' hd'
          rw [hfm] at hs'
          rw [r1 s' hs' fun o' ho' => hd' o' (by simp [ho'])]
          have : s' ≠ s := by rintro rfl; exact hd' o (by simp) hs.dst
          simp [upd, this]
        · intro o' ho' t' s' x' h'
          rcases List.mem_cons.1 ho' with rfl | ho'
          · have e1 := hs.op.symm.trans h'.op
            cases e1
          · obtain ⟨e2, cs2, old2, q1, q2, q3, q4, q5, q6⟩ := r2 o' ho' t' s' x' h'
            refine ⟨e2, cs2, old2, q1, q2, q3, ?_, q5, q6⟩
            rcases q4 with q4 | ⟨o2, ho2, q4⟩
            · by_cases hne : s' = s
              · subst hne
                right
                refine ⟨o, by simp, t, e, hs, hte, ?_⟩
                simp only [upd, if_true, X.box.injEq] at q4
                exact q4.symm
              · exact .inl (by simpa [upd, hne] using q4)
            · exact .inr ⟨o2, by simp [ho2], q4⟩
      · cases h
end

/-- The modes of what is stored. -/
def cellsV (μ : Mu) (x : Operand) : Option (List M) := match opM μ x with
  | .c m _ => if m.readable then some [m] else none
  | .agg ms _ => if ms.all M.readable then some ms else none
  | _ => none

section
variable {V : Env} {A : Start} {w : World} {μ μx μ' : Mu} {φ : Fr} {C : Cx} {a : Act} {g : Nat → Value} {o : Oper}

theorem cells_rep {x : Operand} {ty : Nat} {cs : List D} {ms : List M} (h : St A w μx φ (tmO a.tmps g) C) (hz : sm1 x = true) (hcs : (opX V.τ φ ty x).cells = some cs) (hm : cellsV μx x = some ms) :
    ∃ vs : List Value, (a.eval x).cells = vs.toArray ∧ vs.length = cs.length ∧ ms.length = cs.length ∧ (∀ v ∈ vs, v.isCell = true) ∧
      ∀ (p : Nat → Pl) (k : Nat) (m : M) (d : D) (u : Value), ms[k]? = some m → cs[k]? = some d → vs[k]? = some u → Rep w C (p k) m d u := by
  have hu : opX V.τ φ ty x ≠ .u := by intro e; rw [e] at hcs; cases hcs
  have hcl := op_sound (τ := V.τ) (ty := ty) (s := 0) h hz hu
  have hno := opM_noOwn μx x
  unfold cellsV at hm
  split at hm
  · rename_i m og hop
    rw [hop] at hcl hno
    split at hm
    · rename_i hr
      cases hm
      obtain ⟨d, o', e1, e2, _⟩ := hcl
      rw [e1] at hcs
      simp only [X.cells, Option.some.injEq] at hcs
      subst hcs
      have hc := e2.cell hr
      refine ⟨[a.eval x], cell_cells hc, rfl, rfl, by simpa using hc, ?_⟩
      intro p k m' d' u q1 q2 q3
      cases k with
      | zero =>
        simp only [List.getElem?_cons_zero, Option.some.injEq] at q1 q2 q3
        subst q1; subst q2; subst q3
        have := e2.moveV (p' := p 0) hno idF (w' := w) (C' := C) (fun ps ps' e b hb => by simp only [idF, Option.some.injEq] at e; subst e; exact ⟨hb, rfl⟩)
        rwa [map_id] at this
      | succ k => simp at q1
    · cases hm
  · rename_i ms0 og hop
    rw [hop] at hcl hno
    split at hm
    · rename_i hr
      simp only [Option.some.injEq] at hm
      subst hm
      obtain ⟨ds, o', vs, e1, e2, e3, e4, e5, _⟩ := hcl
      rw [e1] at hcs
      simp only [X.cells, Option.some.injEq] at hcs
      subst hcs
      have hrep : ∀ (k : Nat) (m : M) (d : D) (u : Value), ms0[k]? = some m → ds[k]? = some d → vs.toList[k]? = some u → Rep w C ((⟨0, []⟩ : Pl).cell 0 k) m d u := by
        intro k m d u q1 q2 q3
        have := e5 0 k ds d m rfl q2 q1
        have hk := (List.getElem?_eq_some_iff.1 q2).1
        have hv : vs.getD k undef = u := by
          simp only [Array.getElem?_toList] at q3
          simp [Array.getD_eq_getD_getElem?, q3]
        simp only [hv] at this
        exact this
      refine ⟨vs.toList, by rw [e2]; simp [Value.cells], by simpa using e3, by simpa using e4, ?_, ?_⟩
      · intro v hv
        obtain ⟨k, hk⟩ := List.mem_iff_getElem?.1 hv
        have hkl := (List.getElem?_eq_some_iff.1 hk).1
        simp only [Array.length_toList] at hkl
        have h1 : ds[k]? = some ds[k] := List.getElem?_eq_getElem (by omega)
        have h2 : ms0[k]? = some ms0[k] := List.getElem?_eq_getElem (by omega)
        exact (hrep k _ _ _ h2 h1 hk).cell (List.all_eq_true.1 hr _ (List.mem_of_getElem? h2))
      · intro p k m d u q1 q2 q3
        have hn : m.noOwn = true := by
          simp only [SM.noOwn, List.all_eq_true] at hno
          exact hno m (List.mem_of_getElem? q1)
        have := (hrep k m d u q1 q2 q3).moveV (p' := p k) hn idF (w' := w) (C' := C) (fun ps ps' e b hb => by simp only [idF, Option.some.injEq] at e; subst e; exact ⟨hb, rfl⟩)
        rwa [map_id] at this
    · cases hm
  · cases hm

/-- A whole box is written: the frame holds it so already. -/
theorem store_step {t s : Nat} {x : Operand} {e : TE} {cs : List D} {ms old : List M} (hrg : RgOk A) (ho : o.op = .store t (.tmp s) x) (hd : o.dst = none) (hs : s < 1000) (hz : sm1 x = true) (h : St A w μ φ (tmO a.tmps g) C) (hx : St A w μx φ (tmO a.tmps g) C)
    (he : TE.find V.τ t = some e) (hcs : (opX V.τ φ t x).cells = some cs) (hfit : fits e.zero cs = true) (hF : φ s = .box cs) (hms : cellsV μx x = some ms) (hold : μ.get s = .box old) (hol : old.length = e.zero.length)
    (hg : μ.get gam = .u) (hn : ∀ s, (μ.get s).noG = true) (hμ : ∀ s', s' ≠ s → μ'.get s' = finSM [s] 0 ms.length ((μ.get s').map (landF [s] 0))) (hself : μ'.get s = .box (mapL (landF [s] 0) (flatL e.zero ms))) : OpOk V A w a g o φ μ' := by
  obtain ⟨vs, hv1, hvl, hml, hcell, hrep⟩ := cells_rep hx hz hcs hms
  have hl := fits_len hfit
  let S : Spot := ⟨s, [], 0, 0, ms.length⟩
  have hsg : s ≠ gam := by unfold gam; omega
  have htm : tmO a.tmps g s = a.eval (.tmp s) := tmO_eval hs
  have hcl := (h.slot s).resolve_left (by rw [hF]; simp)
  unfold Claim at hcl
  rw [hF, hold] at hcl
  obtain ⟨ds, b, off, arr, q1, q2, q3⟩ := hcl
  cases q1
  have hpt : PtOk C ⟨S.s, S.st ++ [(S.i, S.c)]⟩ (a.eval (.tmp s)) := ⟨[], 0, 0, b, off, 0, 0, rfl, q3.own, by rw [← htm, q2]; simp⟩
  have hput : putAt φ ⟨S.s, S.st ++ [(S.i, S.c)]⟩ cs = some φ := by
    show putAt φ ⟨s, [(0, 0)]⟩ cs = some φ
    simp only [putAt, hF, putX, putIn, List.getElem?_cons_zero, Nat.zero_add]
    rw [if_pos (Nat.le_refl _)]
    simp
    funext s'
    unfold upd
    by_cases e' : s' = s
    · subst e'; rw [if_pos rfl, hF]
    · rw [if_neg e']
  have hfl : (flatL e.zero ms).length = ms.length := flatL_len (by omega)
  obtain ⟨b1, off1, arr1, ty1, hv, hb, hsz, hst'⟩ := h.land (S := S) (ms := flatL e.zero ms) (μ' := μ') (new := cs) (vs := vs) hrg hsg hpt (cols := old) (by show nodeC (μ.get s) [] = some old; rw [hold]; rfl) (by show cs.length = ms.length; omega) (by show vs.length = ms.length; omega) hfl
    (by
      intro k m d u k1 k2 k3
      obtain ⟨zc, m0, l1, l2, rfl⟩ := flatL_get k1
      exact flat_rep (fits_at hfit l1 k2) (hrep (fun k => src k) k m0 d u l2 k2 k3) (fun h => h) (hrep (fun k => src k) k m0 d u l2 k2 k3)) hput hg hn (by intro s' hs'; exact hμ s' hs')
    (.inl ⟨rfl, old, hold, by show 0 + ms.length ≤ old.length; omega, by
      rw [hself]
      congr 1
      show _ = spliceM (mapL (landF [s] 0) old) 0 (mapL (landF [s] 0) (flatL e.zero ms))
      unfold spliceM
      rw [List.take_zero, List.nil_append, mapL_len, hfl, List.drop_of_length_le (by rw [mapL_len]; omega), List.append_nil]⟩)
  have hrun := store_run (V := V) (w := w) (off := off1) he hv1 (by have := Env.zero_size (V := V) he; omega) hb (by have : S.n = ms.length := rfl; omega) hcell
  refine ⟨.skip, undef, w.setRow b1 (arr1.toList.take off1 ++ vs ++ arr1.toList.drop (off1 + vs.length)).toArray, C.land S, g, ?_, .inr ⟨rfl, rfl⟩, ?_⟩
  · simp only [execOp, ho, hv]
    simp only [Instr.storeAt, Instr.sureAddr, Sem.run_bind, Sem.run_pure, Result.andThen_ok, hrun]
  · rw [hd]; exact hst'
end
end Go.Ev


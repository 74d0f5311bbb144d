/- What a Go function does, reckoned in plain data, and that it does so: part 4. -/
import Derived.Orders
import Derived.Test.YtfgaikcoodagiaaEv3
set_option linter.all false
/- What is known may be forgotten, or told of another place: nothing runs here. -/
namespace Go.Ev

def leSX : SM → SM → Bool
  | _, .u => true
  | .c m o, .c m' o' => leS m m' && leOg o o'
  | .agg ms o, .agg ms' o' => leSL ms ms' && leOg o o'
  | .box ms, .box ms' => leSL ms ms'
  | .vbox ps n, .vbox ps' n' => ps == ps' && n == n'
  | .pt s cs, .pt s' cs' => s == s' && cs == cs'
  | .pa s cs n, .pa s' cs' n' => s == s' && cs == cs' && n == n'
  | .pv ps s, .pv ps' s' => ps.all ps'.contains && s == s'
  | .tup b n, .tup b' n' => b == b' && n == n'
  | .clo f cs, .clo f' cs' => f == f' && cs == cs'
  | .fv f i, .fv f' i' => f == f' && i == i'
  | _, _ => false

def weakS (μ ν : Mu) : Bool := List.all ν fun p => leSX (μ.get p.1) (ν.get p.1)

theorem leOg_spec {a b : Og} (h : leOg a b = true) : b = .dead ∨ a = b := by
  cases b <;> simp_all [leOg]

theorem leS_readable {a b : M} (h : leS a b = true) (hb : b.readable = true) : a.readable = true := by
  cases a <;> cases b <;> simp_all [leS, M.readable]

section
variable {A : Start} {w : World} {μ ν : Mu} {φ : Fr} {tm : Nat → Value} {C : Cx}

theorem ClaimX.weak {s : Nat} {x : X} {v : Value} {a b : SM} (h : ClaimX w C φ tm s x v a) (hl : leSX a b = true) : ClaimX w C φ tm s x v b := by
  cases b with
  | u => trivial
  | c m' og' =>
    cases a <;> simp only [leSX, Bool.false_eq_true] at hl
    rename_i m og
    simp only [Bool.and_eq_true] at hl
    obtain ⟨d, o, e1, e2, e3⟩ := h
    refine ⟨d, o, e1, e2.leS hl.1, fun hsl => ?_⟩
    rcases leOg_spec hl.2 with rfl | rfl
    · trivial
    · have e3 := e3 hsl
      cases og with
      | no => exact e3
      | dead => trivial
      | ats q cs js => trivial
      | vw q =>
        obtain ⟨p, q1, q2, q3⟩ := e3
        exact ⟨p, q1, q2, fun hm => q3 (leS_readable hl.1 hm)⟩
      | «at» q cs =>
        obtain ⟨p, q1, q2, q3, q4, q5, q6⟩ := e3
        exact ⟨p, q1, q2, q3, q4, fun hm => q5 (leS_readable hl.1 hm), q6⟩
  | agg ms' og' =>
    cases a <;> simp only [leSX, Bool.false_eq_true] at hl
    rename_i ms og
    simp only [Bool.and_eq_true] at hl
    obtain ⟨ds, o, vs, e1, e2, e3, e4, e5, e6⟩ := h
    have hlen := leSL_len hl.1
    refine ⟨ds, o, vs, e1, e2, e3, by omega, ?_, ?_⟩
    · intro i j row d m q1 q2 q3
      obtain ⟨m0, hm0, hle⟩ := leSL_at hl.1 q3
      exact (e5 i j row d m0 q1 q2 hm0).leS hle
    · rcases leOg_spec hl.2 with rfl | rfl
      · trivial
      · cases og with
        | ats q cs js =>
          obtain ⟨p, q1, q2, q3, q4, q5⟩ := e6
          refine ⟨p, q1, q2, q3, q4, fun j hj => ?_⟩
          obtain ⟨d, g1, g2, g3⟩ := q5 j hj
          refine ⟨d, g1, g2, fun hm => g3 ?_⟩
          cases hq : ms'[j]? with
          | none => rw [hq] at hm; cases hm
          | some m' =>
            rw [hq] at hm
            obtain ⟨m0, hm0, hle⟩ := leSL_at hl.1 hq
            rw [hm0]; exact leS_readable hle hm
        | no => exact e6
        | _ => trivial
  | box ms' =>
    cases a <;> simp only [leSX, Bool.false_eq_true] at hl
    obtain ⟨ds, b, off, arr, e1, e2, e3⟩ := h
    have hlen := leSL_len hl
    refine ⟨ds, b, off, arr, e1, e2, e3.own, e3.heap, e3.size, fun i row hi => by rw [← hlen]; exact e3.len i row hi, .inl (by simp), ?_⟩
    intro i j row d m q1 q2 q3
    obtain ⟨m0, hm0, hle⟩ := leSL_at hl q3
    exact (e3.kids i j row d m0 q1 q2 hm0).leS hle
  | pv ps' s' =>
    cases a <;> simp only [leSX, Bool.false_eq_true] at hl
    simp only [Bool.and_eq_true, List.all_eq_true, beq_iff_eq] at hl
    obtain ⟨hl, rfl⟩ := hl
    obtain ⟨p, e1, e2, e3, e4, e5⟩ := h
    exact ⟨p, e1, e2, e3, e4, fun n ds h1 h2 => (e5 n ds h1 h2).mono fun b hb => ⟨okB_mono (fun q hq => by simpa using hl q hq) hb, rfl⟩⟩
  | _ =>
    cases a <;> simp only [leSX, Bool.false_eq_true] at hl
    simp only [Bool.and_eq_true, beq_iff_eq] at hl
    first
      | (obtain ⟨rfl, rfl⟩ := hl; exact h)
      | (obtain ⟨⟨rfl, rfl⟩, rfl⟩ := hl; exact h)

theorem St.weak (h : St A w μ φ tm C) (hw : weakS μ ν = true) : St A w ν φ tm C := by
  refine { h with slot := ?_ }
  intro s
  rcases h.slot s with h1 | h1
  · exact .inl h1
  · right
    have : leSX (μ.get s) (ν.get s) = true := by
      unfold weakS at hw
      rw [List.all_eq_true] at hw
      by_cases e : ∃ m, (s, m) ∈ ν
      · obtain ⟨m, hm⟩ := e
        exact hw _ hm
      · have : ν.get s = .u := by
          unfold Mu.get
          cases hl : List.lookup s ν with
          | none => rfl
          | some m =>
            exfalso
            apply e
            refine ⟨m, ?_⟩
            clear h hw h1 e
            induction ν with
            | nil => cases hl
            | cons a l ih =>
              obtain ⟨k, y⟩ := a
              rw [List.lookup_cons] at hl
              by_cases e : s = k
              · subst e
                simp only [beq_self_eq_true, Option.some.injEq] at hl
                subst hl
                simp
              · have e' : (s == k) = false := by simpa using e
                rw [e'] at hl
                exact List.mem_cons_of_mem _ (ih hl)
        rw [this]
        cases μ.get s <;> rfl
    exact ClaimX.weak h1 this
end

/-- What a policy tells ahead of an operation: a state that is known to hold as well, and the columns. -/
structure Pol where
  /-- Whether the first slot is never put anew. -/
  lo : Bool := false
  pre : Oper → Mu → Option Mu
  cols : Oper → Mu → List M

def preM (P : Pol) (o : Oper) (μ : Mu) : Mu := match P.pre o μ with
  | some ν => if weakS μ ν then ν else μ
  | none => μ

theorem pre_sound {A : Start} {w : World} {μ : Mu} {φ : Fr} {tm : Nat → Value} {C : Cx} (P : Pol) (o : Oper) (h : St A w μ φ tm C) : St A w (preM P o μ) φ tm C := by
  unfold preM
  split
  · split
    · rename_i hw; exact h.weak hw
    · exact h
  · exact h
end Go.Ev

/- Operations in their order. -/
namespace Go.Ev

/-- What comes before a guard that is not met leaves the slot empty. -/
def guardM (τ : List TE) (Sg : Nat → Option Sig) (cols : List M) (o : Oper) (μ : Mu) : Option Mu := match o.dst with
  | some _ => match o.op with
    | .call c => match c.callee with
      | .value (.func f) => match Sg f with
        | some sg => if sg.res.length = 1 ∧ (mutOk sg).isNone = true then chkOp τ Sg cols o μ else none
        | none => none
      | .builtin .append => none
      | .builtin _ => chkOp τ Sg cols o μ
      | _ => none
    | .assign _ | .box _ _ | .store _ _ _ => none
    | .move _ => if cols.isEmpty then chkOp τ Sg cols o μ else none
    | .load _ _ => if cols.isEmpty then chkOp τ Sg cols o μ else none
    | _ => chkOp τ Sg cols o μ
  | none => none

theorem putM_put {dst : Option Tmp} {d : Nat} {sm : SM} {μ μ' : Mu} (hd : dst = some d) (h : putM dst sm μ = some μ') : ∃ sm, μ' = μ.put d sm := by
  subst hd
  refine ⟨sm, ?_⟩
  cases sm <;> simp [putM] at h <;> exact h.symm

theorem guardM_put {τ : List TE} {Sg : Nat → Option Sig} {cols : List M} {o : Oper} {μ μ' : Mu} (h : guardM τ Sg cols o μ = some μ') : chkOp τ Sg cols o μ = some μ' ∧ ∃ d sm, o.dst = some d ∧ μ' = μ.put d sm := by
  have pure : ∀ d, o.dst = some d → pureC τ cols o μ = some μ' → ∃ d sm, o.dst = some d ∧ μ' = μ.put d sm := by
    intro d hd h
    unfold pureC at h
    split at h
    · obtain ⟨sm, e⟩ := putM_put hd h
      exact ⟨d, sm, hd, e⟩
    · cases h
  unfold guardM at h
  split at h
  · rename_i d hd
    cases ho : o.op with
    | call c =>
      rw [ho] at h
      simp only at h
      split at h
      · rename_i f hc
        split at h
        · rename_i sg hsg
          split at h
          · rename_i hl
            refine ⟨h, ?_⟩
            unfold chkOp at h
            rw [ho] at h
            simp only [hc] at h
            split at h
            · rename_i μ2 hq
              cases h
              unfold callQ at hq
              rw [hsg] at hq
              simp only at hq
              split at hq
              · split at hq
                · rename_i pss _
                  obtain ⟨sm, hr⟩ : ∃ sm, sg.res = [sm] := by
                    match hq : sg.res, hl.1 with
                    | [sm], _ => exact ⟨sm, rfl⟩
                  rw [hr, hd] at hq
                  simp only [putResM, List.map_cons, List.map_nil, Option.some.injEq] at hq
                  exact ⟨d, _, hd, hq.symm⟩
                · cases hq
              · cases hq
            · exfalso
              have h0 := hl.2
              unfold callMq at h
              rw [hsg] at h
              simp only at h
              cases hmu : mutOk sg with
              | none => rw [hmu] at h; simp at h
              | some m => rw [hmu] at h0; cases h0
          · cases h
        · cases h
      · cases h
      · rename_i b hb hc
        refine ⟨h, pure d hd ?_⟩
        unfold chkOp at h
        rw [ho] at h
        simp only [hc] at h
        cases b <;> first | exact h | exact (hb rfl).elim
      · cases h
    | assign y => rw [ho] at h; cases h
    | box t y => rw [ho] at h; cases h
    | store t y z => rw [ho] at h; cases h
    | move y =>
      rw [ho] at h
      simp only at h
      split at h
      · rename_i hcl
        refine ⟨h, pure d hd ?_⟩
        unfold chkOp at h
        rw [ho] at h
        simp only [hcl, if_true] at h
        exact h
      · cases h
    | load t y =>
      rw [ho] at h
      simp only at h
      split at h
      · rename_i hcl
        refine ⟨h, pure d hd ?_⟩
        unfold chkOp at h
        rw [ho] at h
        simp only [hcl, if_true] at h
        exact h
      · cases h
    | _ =>
      rw [ho] at h
      simp only at h
      refine ⟨h, pure d hd ?_⟩
      unfold chkOp at h
      rw [ho] at h
      exact h
  · cases h

section
variable {V : Env} {A : Start} {w w' : World} {μ μ' : Mu} {φ φ' : Fr} {C : Cx} {a : Act} {g : Nat → Value} {o : Oper} {x : X}

theorem skip_st {d : Nat} {sm : SM} (h : St A w μ φ (tmO a.tmps g) C) (hd1 : d < 1000) (hsz : d < a.tmps.size) : ∃ C2, St A w (μ.put d sm) (upd φ d .u) (tmO (a.put (some d) undef).tmps g) C2 := by
  refine ⟨_, h.putG hd1 (Ext.refl w) (fun _ => none) (by simp) (by simp) (by simp) .none ?_ ?_ ?_ ?_⟩
  · intro s hs
    have : s ≠ d := by rintro rfl; rw [hit_self] at hs; cases hs
    simp [upd, this]
  · intro s hs
    have : s ≠ d := by rintro rfl; rw [hit_self] at hs; cases hs
    rw [tm_put hd1 hsz]
    simp [this]
  · intro s hs
    have : s ≠ d := by rintro rfl; rw [hit_self] at hs; cases hs
    rw [get_put, if_neg this, hs]; rfl
  · intro s hs
    rw [get_put]
    by_cases e : s = d
    · subst e; exact .inl (by simp [upd])
    · rw [if_neg e, hs]; exact .inr trivial

/-- A condition's slot. -/
theorem slot_bool {d : Nat} {b : Bool} (h : St A w μ φ (tmO a.tmps g) C) (hd : d < 1000) (hr : rdO μ (.tmp d) = true) (hv : (φ d).val = some (.bool b)) : a.tmps.getD d undef = .bool b := by
  have hv' : (opX ([] : List TE) φ 0 (.tmp d)).val = some (.bool b) := by
    simp only [opX]
    generalize φ d = q at hv
    unfold X.val at hv
    split at hv
    · cases hv; rfl
    · cases hv
  have := (val_sound (τ := []) (ty := 0) h (by simpa [sm1] using hd) hr hv').1
  exact this
end

def dstOk (lo : Bool) (o : Oper) : Bool := !lo || o.dst != some 0

theorem dstOk_keeps {A : Start} {lo : Bool} {o : Oper} (hlo : A.hd.isSome = true → lo = true) (h : dstOk lo o = true) : Keeps A o := by
  intro h1
  have h2 := hlo h1
  subst h2
  simpa [dstOk] using h

/-- The check of operations in their order; the columns are told by a policy. -/
def chkOps (τ : List TE) (Sg : Nat → Option Sig) (colsP : Pol) (n : Nat) (ops : Array Oper) : List Oper → Mu → Option Mu
  | [], μ => some μ
  | o :: rest, μ0 =>
    let μ := preM colsP o μ0
    if smallO n o && dstOk colsP.lo o then (match o.guard with
    | none => match chkOp τ Sg (colsP.cols o μ) o μ with
      | some μ' => chkOps τ Sg colsP n ops rest μ'
      | none => none
    | some (j, _) => match (ops[j]?).bind (·.dst) with
      | some d => if Nat.blt d 1000 && rdO μ (.tmp d) then (match guardM τ Sg (colsP.cols o μ) o μ with
        | some μ' => chkOps τ Sg colsP n ops rest μ'
        | none => none) else none
      | none => none) else none

theorem ops_wp {V : Env} {A : Start} {n : Nat} {colsP : Pol} {S : Nat → Option (List PK)} {F : Nat → List X → Option (List X × List X)} {Sg : Nat → Option Sig} {ops : Array Oper} {Q : Exit → Act → World → Prop} (hrg : A.rg = []) (hlo : A.hd.isSome = true → colsP.lo = true) (hn : n ≤ 1000)
    (hSg : ∀ f sg, Sg f = some sg → S f = some (sg.pms.map PM.pk) ∧ Does V f sg (F f)) : ∀ (l : List Oper) (μ μ' : Mu) (φ φ' : Fr) (a : Act) (w : World), Stands A n φ μ a w → evOps V.τ S F ops l φ = some φ' → chkOps V.τ Sg colsP n ops l μ = some μ' →
      (∀ a w, Stands A n φ' μ' a w → Q .normal a w) → wpList V.P ops Q l a w
  | [], μ, μ', φ, φ', a, w, hst, hx, hm, hQ => by
    simp only [evOps, Option.some.injEq] at hx
    simp only [chkOps, Option.some.injEq] at hm
    subst hx; subst hm
    exact hQ a w hst
  | o :: rest, μ, μ', φ, φ', a, w, hst, hx, hm, hQ => by
    obtain ⟨C, g, h0, hsz, hdf, hpar⟩ := hst
    have h := pre_sound colsP o h0
    simp only [chkOps] at hm
    generalize preM colsP o μ = μ at h hm
    split at hm
    · rename_i hs
      rw [Bool.and_eq_true] at hs
      obtain ⟨hs, hds⟩ := hs
      have hkp := dstOk_keeps hlo hds
      simp only [evOps] at hx
      unfold wpList
      cases hg : o.guard with
      | none =>
        rw [hg] at hx hm
        simp only at hx hm
        split at hx
        · rename_i φ1 hx1
          split at hm
          · rename_i μ1 hm1
            rw [if_pos (by simp [Region.wanted, hg])]
            exact .inl (op_wp hrg hn hSg hs hsz hdf hpar hkp h hx1 hm1 fun a' w' hst' => ops_wp hrg hlo hn hSg rest μ1 μ' φ1 φ' a' w' hst' hx hm hQ)
          · cases hm
        · cases hx
      | some jw =>
        obtain ⟨j, want⟩ := jw
        rw [hg] at hx hm
        simp only at hx hm
        split at hm
        · rename_i d hj
          rw [hj] at hx
          simp only at hx
          split at hm
          · rename_i hc
            simp only [Bool.and_eq_true, Nat.blt_eq] at hc
            split at hm
            · rename_i μ1 hm1
              obtain ⟨hm2, d2, sm, hd2, hput⟩ := guardM_put hm1
              split at hx
              · rename_i b hb
                have hbool := slot_bool h hc.1 hc.2 hb
                have hy : yielded ops a.tmps j = some b := by
                  unfold yielded
                  rw [hj]
                  simp only [Option.bind_some]
                  have : a.tmps[d]? = some (.bool b) := by
                    by_cases hlt : d < a.tmps.size
                    · rw [Array.getElem?_eq_getElem hlt]
                      simp [Array.getD, hlt] at hbool
                      rw [hbool]
                    · simp [Array.getD, hlt] at hbool
                      cases hbool
                  rw [this]
                split at hx
                · rename_i hbw
                  split at hx
                  · rename_i φ1 hx1
                    rw [if_pos (by simp [Region.wanted, hg, hy, hbw])]
                    exact .inl (op_wp hrg hn hSg hs hsz hdf hpar hkp h hx1 hm2 fun a' w' hst' => ops_wp hrg hlo hn hSg rest μ1 μ' φ1 φ' a' w' hst' hx hm hQ)
                  · cases hx
                · rename_i hbw
                  rw [if_neg (by simp [Region.wanted, hg, hy, hbw])]
                  rw [hd2] at hx ⊢
                  simp only [putRes] at hx
                  unfold smallO at hs
                  simp only [Bool.and_eq_true] at hs
                  have hdn := hs.1.2
                  rw [hd2] at hdn
                  simp only [Nat.blt_eq] at hdn
                  obtain ⟨C2, h2⟩ := skip_st (sm := sm) h (Nat.lt_of_lt_of_le hdn hn) (by rw [hsz]; exact hdn)
                  rw [hput] at hm
                  exact ops_wp hrg hlo hn hSg rest _ μ' _ φ' _ w ⟨C2, g, h2, by rw [put_size]; exact hsz, by rw [put_defers]; exact hdf, hd2 ▸ hpar.put hkp _⟩ hx hm hQ
              · cases hx
            · cases hm
          · cases hm
        · cases hm
    · cases hm
end Go.Ev

/- Operations in their order, with what is forgotten ahead of them. -/

/- What an operation answers hangs on what it reads alone. -/
namespace Go.Ev

/-- More is told. -/
def Le (φ φ' : Fr) : Prop := ∀ s, φ s = .u ∨ φ' s = φ s

section
variable {τ : List TE} {φ φ' : Fr}

theorem cpX_u {t : Nat} {x : X} (h : cpX t x ≠ .u) : x ≠ .u := by rintro rfl; exact h rfl

theorem Le.at (h : Le φ φ') {s : Nat} (hs : φ s ≠ .u) : φ' s = φ s := (h s).resolve_left hs

theorem opX_le (h : Le φ φ') (ty : Nat) (y : Operand) (hy : opX τ φ ty y ≠ .u) : opX τ φ' ty y = opX τ φ ty y := by
  unfold opX at hy ⊢
  split
  · rename_i t
    rw [h.at (cpX_u hy)]
  · rfl
  · rfl
  · rfl
  · rfl

theorem opX_le' (h : Le φ φ') {ty : Nat} {y : Operand} {x : X} (hy : opX τ φ ty y = x) (hx : x ≠ .u) : opX τ φ' ty y = x := by
  rw [opX_le h ty y (by rw [hy]; exact hx), hy]

theorem val_le (h : Le φ φ') {ty : Nat} {y : Operand} {v : Value} (hy : (opX τ φ ty y).val = some v) : (opX τ φ' ty y).val = some v := by
  rw [opX_le h ty y (by intro e; rw [e] at hy; cases hy)]; exact hy

theorem int_le (h : Le φ φ') {ty : Nat} {y : Operand} {v : Int} (hy : (opX τ φ ty y).int = some v) : (opX τ φ' ty y).int = some v := by
  rw [opX_le h ty y (by intro e; rw [e] at hy; cases hy)]; exact hy

theorem cells_le (h : Le φ φ') {ty : Nat} {y : Operand} {cs : List D} (hy : (opX τ φ ty y).cells = some cs) : (opX τ φ' ty y).cells = some cs := by
  rw [opX_le h ty y (by intro e; rw [e] at hy; cases hy)]; exact hy

theorem ptX_le (h : Le φ φ') {y : Operand} {p : Pl} (hy : ptX φ y = some p) : ptX φ' y = some p := by
  unfold ptX at hy ⊢
  split at hy
  · rename_i t
    rw [h.at (by intro e; rw [e] at hy; cases hy)]
    exact hy
  · cases hy

theorem cellsAt_le (h : Le φ φ') {p : Pl} {n : Nat} {cs : List D} (hy : cellsAt φ p n = some cs) : cellsAt φ' p n = some cs := by
  unfold cellsAt at hy ⊢
  rw [h.at (by intro e; rw [e] at hy; cases hy)]
  exact hy

theorem loadX_le (h : Le φ φ') {t : Nat} {p : Pl} {x : X} (hy : loadX τ φ t p = some x) : loadX τ φ' t p = some x := by
  unfold loadX at hy ⊢
  split at hy
  · rename_i e he
    split at hy
    · rename_i cs hcs
      rw [cellsAt_le h hcs]
      exact hy
    · cases hy
  · cases hy

theorem fieldX_le (h : Le φ φ') {s f : Nat} {p : Pl} {x : X} (hy : fieldX τ φ s p f = some x) : fieldX τ φ' s p f = some x := by
  unfold fieldX at hy ⊢
  split at hy
  · rename_i e he
    split at hy
    · rename_i off hoff
      split at hy
      · rename_i cs hcs
        rw [cellsAt_le h hcs]
        exact hy
      · cases hy
    · cases hy
  · cases hy

theorem indexX_le (h : Le φ φ') {t : Nat} {y : Operand} {i : Int} {x : X} (hy : indexX τ φ t y i = some x) : indexX τ φ' t y i = some x := by
  unfold indexX at hy ⊢
  split at hy
  · cases hy
  · rename_i hi
    rw [if_neg hi]
    split at hy
    · rename_i e he
      split at hy
      · rename_i hel
        split at hy
        · rename_i hop
          rw [opX_le' h hop (by simp)]
          exact hy
        · cases hy
      · rename_i hel
        split at hy
        · rename_i q1 q2
          rw [ptX_le h q2, q1]
          simp only
          split at hy
          · rename_i hlt
            rw [if_pos hlt]
            split at hy
            · rename_i hcs
              rw [cellsAt_le h hcs]
              exact hy
            · cases hy
          · cases hy
        · cases hy
    · cases hy

theorem capSlots_le (h : Le φ φ') : ∀ {l : List Operand} {r : List Nat}, capSlots φ l = some r → capSlots φ' l = some r
  | [], r, hy => hy
  | y :: l, r, hy => by
    unfold capSlots at hy ⊢
    split at hy
    · rename_i heq; cases heq
    · rename_i t xs heq
      cases heq
      split at hy
      · rename_i h1 h2
        rw [h.at (by rw [h1]; simp)]
        simp only [h1, capSlots_le h h2]
        exact hy
      · cases hy
    · cases hy

theorem fill_le {pl : Nat → Option (Nat × Nat)} (h : Le φ φ') {ty : Nat → Nat} : ∀ (ps : List (Nat × Operand)) (cs cs' : List D), fillX pl cs (partsX τ φ ps ty) = some cs' → fillX pl cs (partsX τ φ' ps ty) = some cs'
  | [], cs, cs', hy => hy
  | p :: ps, cs, cs', hy => by
    simp only [partsX, List.map_cons, fillX] at hy ⊢
    split at hy
    · rename_i q1 q2
      rw [q1]
      simp only [cells_le h q2]
      split at hy
      · rename_i hc
        rw [if_pos hc]
        exact fill_le h ps _ _ hy
      · cases hy
    · cases hy

theorem fillRows_le {z : Nat} (h : Le φ φ') {ty : Nat → Nat} : ∀ (ps : List (Nat × Operand)) (rs rs' : List (List D)), fillRows z rs (partsX τ φ ps ty) = some rs' → fillRows z rs (partsX τ φ' ps ty) = some rs'
  | [], cs, cs', hy => hy
  | p :: ps, cs, cs', hy => by
    simp only [partsX, List.map_cons, fillRows] at hy ⊢
    split at hy
    · rename_i q2
      simp only [cells_le h q2]
      split at hy
      · rename_i hc
        rw [if_pos hc]
        exact fillRows_le h ps _ _ hy
      · cases hy
    · cases hy

theorem bound_le (h : Le φ φ') {d n : Nat} {y : Option Operand} (hy : bound d (y.map (opX τ φ 0)) = some n) : bound d (y.map (opX τ φ' 0)) = some n := by
  cases y with
  | none => exact hy
  | some y =>
    simp only [Option.map_some, bound] at hy ⊢
    split at hy
    · rename_i q
      rw [int_le h q]
      exact hy
    · cases hy

/-- An operation's result stays where more is told. -/
theorem pureX_le (h : Le φ φ') {o : Op} {ty : Nat} {x : X} (hy : pureX τ φ o ty = some x) : pureX τ φ' o ty = some x := by
  cases o with
  | move y =>
    simp only [pureX] at hy ⊢
    rw [opX_le h ty y (by intro e; rw [e] at hy; cases hy)]; exact hy
  | assign y =>
    simp only [pureX] at hy ⊢
    rw [opX_le h ty y (by intro e; rw [e] at hy; cases hy)]; exact hy
  | pick c y z =>
    simp only [pureX] at hy ⊢
    split at hy
    · rename_i b hb
      rw [val_le h hb]
      simp only
      split at hy
      · rename_i v hv
        rw [val_le h hv]; exact hy
      · cases hy
    · cases hy
  | alloc t => exact hy
  | box t y =>
    simp only [pureX] at hy ⊢
    have hy0 := hy
    split at hy
    · rename_i q1 q2
      rw [cells_le h q2, ← q2]; exact hy0
    · cases hy
  | load t y =>
    simp only [pureX] at hy ⊢
    split at hy
    · rename_i q
      rw [ptX_le h q]; exact loadX_le h hy
    · cases hy
  | nilCheck y =>
    simp only [pureX] at hy ⊢
    rw [Option.map_eq_some_iff] at hy
    obtain ⟨p, q, rfl⟩ := hy
    rw [ptX_le h q]; rfl
  | binOp op t y z g =>
    simp only [pureX] at hy ⊢
    have h1 : opX τ φ t y ≠ .u := by intro e; rw [e] at hy; simp [binX] at hy
    have h2 : opX τ φ t z ≠ .u := by intro e; rw [e] at hy; unfold binX at hy; split at hy <;> simp_all
    rw [opX_le h t y h1, opX_le h t z h2]; exact hy
  | unOp op t y =>
    simp only [pureX] at hy ⊢
    split at hy
    · rename_i q
      rw [val_le h q]; exact hy
    · cases hy
  | fieldAddr s y f =>
    simp only [pureX] at hy ⊢
    split at hy
    · rename_i q
      rw [ptX_le h q]; exact fieldX_le h hy
    · cases hy
  | indexAddr t y i =>
    simp only [pureX] at hy ⊢
    split at hy
    · rename_i q
      rw [int_le h q]; exact indexX_le h hy
    · cases hy
  | index t y i =>
    simp only [pureX] at hy ⊢
    unfold strIndexX at hy ⊢
    split at hy
    · rename_i q1 q2
      rw [opX_le' h q1 (by simp), int_le h q2]; exact hy
    · cases hy
  | extract y i =>
    cases y with
    | tmp t =>
      simp only [pureX] at hy ⊢
      split at hy
      · rename_i q
        rw [h.at (by rw [q]; simp), q]
        simp only
        split at hy
        · rename_i hc
          rw [if_pos hc]
          rw [h.at (by intro e; rw [e] at hy; cases hy)]; exact hy
        · cases hy
      · cases hy
    | _ => cases hy
  | slice t y lo hi mx =>
    simp only [pureX] at hy ⊢
    unfold sliceX at hy ⊢
    split at hy
    · rename_i q
      rw [opX_le' h q (by simp)]
      simp only
      split at hy
      · rename_i e he
        split at hy
        · rename_i hk
          rw [if_pos hk]
          split at hy
          · rename_i q1 q2 q3
            rw [bound_le h q1, bound_le h q2]
            rw [Option.map_eq_none_iff] at q3
            subst q3
            exact hy
          · cases hy
        · cases hy
      · cases hy
    · rename_i q
      rw [opX_le' h q (by simp)]
      simp only
      split at hy
      · rename_i hk
        rw [if_pos hk]
        split at hy
        · rename_i q1 q2
          rw [bound_le h q1, bound_le h q2]
          simp only
          split at hy
          · rename_i q3
            rw [Option.map_eq_none_iff] at q3
            subst q3
            exact hy
          · rename_i q3
            rw [Option.map_eq_some_iff] at q3
            obtain ⟨m, rfl, rfl⟩ := q3
            split at hy
            · rename_i hc
              simp only [Option.map_some]
              rw [if_pos ⟨by simpa using hc.1, int_le h hc.2.1, hc.2.2⟩]
              exact hy
            · cases hy
        · cases hy
      · cases hy
    · cases hy
  | convert s d y =>
    simp only [pureX] at hy ⊢
    have h1 : opX τ φ s y ≠ .u := by intro e; rw [e] at hy; unfold convX at hy; split at hy <;> simp_all
    rw [opX_le h s y h1]; exact hy
  | makeSlice t n c =>
    simp only [pureX] at hy ⊢
    split at hy
    · rename_i q1 q2
      rw [int_le h q1, int_le h q2]; exact hy
    · cases hy
  | build t ps =>
    simp only [pureX] at hy ⊢
    unfold buildX at hy ⊢
    split at hy
    · rename_i e he
      split at hy
      · rename_i hc
        rw [if_pos hc]
        split at hy
        · split at hy
          · rename_i q
            rw [fill_le h _ _ _ q]; exact hy
          · cases hy
        · split at hy
          · rename_i q
            rw [fill_le h _ _ _ q]; exact hy
          · cases hy
      · cases hy
    · cases hy
  | buildSlice t n ps =>
    simp only [pureX] at hy ⊢
    unfold buildSliceX at hy ⊢
    split at hy
    · split at hy
      · split at hy
        · split at hy
          · rename_i hc
            rw [if_pos hc]
            split at hy
            · rename_i q
              rw [fillRows_le h _ _ _ q]; exact hy
            · cases hy
          · cases hy
        · cases hy
      · cases hy
    · cases hy
  | makeFunc f fs cs =>
    cases f with
    | func f =>
      simp only [pureX] at hy ⊢
      split at hy
      · rename_i hc
        rw [if_pos hc]
        rw [Option.map_eq_some_iff] at hy ⊢
        obtain ⟨l, q, rfl⟩ := hy
        exact ⟨l, capSlots_le h q, rfl⟩
      · cases hy
    | _ => cases hy
  | call c =>
    simp only [pureX] at hy ⊢
    split at hy
    · rename_i y t q1 q2 q3
      have h1 : opX τ φ t y ≠ .u := by intro e; rw [e] at hy; unfold lenX at hy; split at hy <;> simp_all
      rw [opX_le h t y h1]; exact hy
    · rename_i y z t t' q1 q2 q3
      have h1 : opX τ φ t y ≠ .u := by intro e; rw [e] at hy; unfold appX at hy; split at hy <;> (try split at hy) <;> simp_all
      have h2 : opX τ φ t' z ≠ .u := by
        intro e; rw [e] at hy; unfold appX at hy
        repeat' (split at hy)
        all_goals simp_all
      rw [opX_le h t y h1, opX_le h t' z h2]; exact hy
    · rename_i y z q1 q2
      have h1 : opX τ φ 0 y ≠ .u := by intro e; rw [e] at hy; simp [mmX] at hy
      have h2 : opX τ φ 0 z ≠ .u := by intro e; rw [e] at hy; unfold mmX at hy; split at hy <;> simp_all
      rw [opX_le h 0 y h1, opX_le h 0 z h2]; exact hy
    · rename_i y z q1 q2
      have h1 : opX τ φ 0 y ≠ .u := by intro e; rw [e] at hy; simp [mmX] at hy
      have h2 : opX τ φ 0 z ≠ .u := by intro e; rw [e] at hy; unfold mmX at hy; split at hy <;> simp_all
      rw [opX_le h 0 y h1, opX_le h 0 z h2]; exact hy
    · cases hy
  | _ => cases hy

/-- The same of arguments that are read. -/
theorem capsX_le (h : Le φ φ') : ∀ {l : List Nat} {r : List (List D)}, capsX φ l = some r → capsX φ' l = some r
  | [], r, hy => hy
  | s :: l, r, hy => by
    unfold capsX at hy ⊢
    split at hy
    · rename_i h1 h2
      rw [h.at (by rw [h1]; simp), h1, capsX_le h h2]
      exact hy
    · cases hy

theorem argX_le (h : Le φ φ') {y : Operand} {ty : Nat} {x : X} (hy : argX τ φ .val y ty = some x) : argX τ φ' .val y ty = some x := by
  simp only [argX] at hy ⊢
  have h1 : opX τ φ ty y ≠ .u := by intro e; rw [e] at hy; cases hy
  rw [opX_le h ty y h1]
  split at hy
  · exact hy
  · exact hy
  · rw [Option.map_eq_some_iff] at hy
    obtain ⟨r, q2, rfl⟩ := hy
    simp only [capsX_le h q2, Option.map_some]
  · exact hy
  · cases hy

theorem argsX_le (h : Le φ φ') : ∀ {ks : List PK} {ys : List Operand} {tys : List Nat} {xs : List X}, (∀ k ∈ ks, k = .val) → argsX τ φ ks ys tys = some xs → argsX τ φ' ks ys tys = some xs
  | [], [], [], xs, _, hy => hy
  | k :: ks, y :: ys, t :: ts, xs, hk, hy => by
    simp only [argsX] at hy ⊢
    split at hy
    · rename_i q1 q2
      rw [hk k (by simp)] at q1 ⊢
      rw [argX_le h q1, argsX_le h (fun k' hk' => hk k' (by simp [hk'])) q2]
      exact hy
    · cases hy
  | [], _ :: _, _, _, _, hy => by simp [argsX] at hy
  | [], [], _ :: _, _, _, hy => by simp [argsX] at hy
  | _ :: _, [], _, _, _, hy => by simp [argsX] at hy
  | _ :: _, _ :: _, [], _, _, hy => by simp [argsX] at hy
end
end Go.Ev

/- One operation of a list; the tail of a region whose order is drawn. -/
namespace Go.Ev

theorem op_step {V : Env} {A : Start} {n : Nat} {colsP : Pol} {S : Nat → Option (List PK)} {F : Nat → List X → Option (List X × List X)} {Sg : Nat → Option Sig} {ops : Array Oper} {K : Act → World → Prop} {Q : Exit → Act → World → Prop} (hrg : A.rg = []) (hlo : A.hd.isSome = true → colsP.lo = true) (hn : n ≤ 1000)
    (hSg : ∀ f sg, Sg f = some sg → S f = some (sg.pms.map PM.pk) ∧ Does V f sg (F f)) {o : Oper} {rest : List Oper} {μ μ' : Mu} {φ φ' : Fr} {a : Act} {w : World} (hst : Stands A n φ μ a w) (hx : evOps V.τ S F ops (o :: rest) φ = some φ') (hm : chkOps V.τ Sg colsP n ops (o :: rest) μ = some μ')
    (hK : ∀ φ1 μ1 a w, Stands A n φ1 μ1 a w → evOps V.τ S F ops rest φ1 = some φ' → chkOps V.τ Sg colsP n ops rest μ1 = some μ' → K a w) :
    if Region.wanted o (yielded ops a.tmps) then o.wp V.P a w K Q ∨ (o.asks V.P a w ∧ LetsOut Q) else K (a.put o.dst undef) w := by
  obtain ⟨C, g, h0, hsz, hdf, hpar⟩ := hst
  have h := pre_sound colsP o h0
  simp only [chkOps] at hm
  generalize preM colsP o μ = μ at h hm
  split at hm
  · rename_i hs
    rw [Bool.and_eq_true] at hs
    obtain ⟨hs, hds⟩ := hs
    have hkp := dstOk_keeps hlo hds
    simp only [evOps] at hx
    cases hg : o.guard with
    | none =>
      rw [hg] at hx hm
      simp only at hx hm
      split at hx
      · rename_i φ1 hx1
        split at hm
        · rename_i μ1 hm1
          rw [if_pos (by simp [Region.wanted, hg])]
          exact .inl (op_wp hrg hn hSg hs hsz hdf hpar hkp h hx1 hm1 fun a' w' hst' => hK φ1 μ1 a' w' hst' hx hm)
        · cases hm
      · cases hx
    | some jw =>
      obtain ⟨j, want⟩ := jw
      rw [hg] at hx hm
      simp only at hx hm
      split at hm
      · rename_i d hj
        rw [hj] at hx
        simp only at hx
        split at hm
        · rename_i hc
          simp only [Bool.and_eq_true, Nat.blt_eq] at hc
          split at hm
          · rename_i μ1 hm1
            obtain ⟨hm2, d2, sm, hd2, hput⟩ := guardM_put hm1
            split at hx
            · rename_i b hb
              have hbool := slot_bool h hc.1 hc.2 hb
              have hy : yielded ops a.tmps j = some b := by
                unfold yielded
                rw [hj]
                simp only [Option.bind_some]
                have : a.tmps[d]? = some (.bool b) := by
                  by_cases hlt : d < a.tmps.size
                  · rw [Array.getElem?_eq_getElem hlt]
                    simp [Array.getD, hlt] at hbool
                    rw [hbool]
                  · simp [Array.getD, hlt] at hbool
                    cases hbool
                rw [this]
              split at hx
              · rename_i hbw
                split at hx
                · rename_i φ1 hx1
                  rw [if_pos (by simp [Region.wanted, hg, hy, hbw])]
                  exact .inl (op_wp hrg hn hSg hs hsz hdf hpar hkp h hx1 hm2 fun a' w' hst' => hK φ1 μ1 a' w' hst' hx hm)
                · cases hx
              · rename_i hbw
                rw [if_neg (by simp [Region.wanted, hg, hy, hbw])]
                rw [hd2] at hx ⊢
                simp only [putRes] at hx
                unfold smallO at hs
                simp only [Bool.and_eq_true] at hs
                have hdn := hs.1.2
                rw [hd2] at hdn
                simp only [Nat.blt_eq] at hdn
                obtain ⟨C2, h2⟩ := skip_st (sm := sm) h (Nat.lt_of_lt_of_le hdn hn) (by rw [hsz]; exact hdn)
                rw [hput] at hm
                exact hK _ _ _ w ⟨C2, g, h2, by rw [put_size]; exact hsz, by rw [put_defers]; exact hdf, hd2 ▸ hpar.put hkp _⟩ hx hm
            · cases hx
          · cases hm
        · cases hm
      · cases hm
  · cases hm

/-- The operations behind the cut, in their one order. -/
theorem tail_wp {V : Env} {A : Start} {n : Nat} {colsP : Pol} {S : Nat → Option (List PK)} {F : Nat → List X → Option (List X × List X)} {Sg : Nat → Option Sig} {ops : Array Oper} {Q : Exit → Act → World → Prop} (hrg : A.rg = []) (hlo : A.hd.isSome = true → colsP.lo = true) (hn : n ≤ 1000)
    (hSg : ∀ f sg, Sg f = some sg → S f = some (sg.pms.map PM.pk) ∧ Does V f sg (F f)) {φ' : Fr} {μ' : Mu} (hQ : ∀ a w, Stands A n φ' μ' a w → Q .normal a w) {m : Nat}
    (hseq : ∀ i o, ops[i]? = some o → m ≤ i → ∀ j, j < i → ∀ (listed : Array Bool), (∀ k, listed.getD k false = true → ∀ b, b < k → listed.getD b false = true) → i ∈ Region.ready .any ops listed → listed.getD j false = true)
    (hrdy : ∀ i (listed : Array Bool), i < ops.size → listed.getD i true = false → (∀ j, j < i → listed.getD j false = true) → i ∈ Region.ready .any ops listed) :
    ∀ (rest : List Oper) (i : Nat) (fuel : Nat) (listed : Array Bool) (φ : Fr) (μ : Mu) (a : Act) (w : World), m ≤ i → rest = ops.toList.drop i → listed.size = ops.size →
      (∀ j, j < i → listed.getD j false = true) → (∀ j, i ≤ j → j < ops.size → listed.getD j true = false) → rest.length ≤ fuel →
      Stands A n φ μ a w → evOps V.τ S F ops rest φ = some φ' → chkOps V.τ Sg colsP n ops rest μ = some μ' → wpAny V.P .any ops Q fuel listed a w
  | [], i, fuel, listed, φ, μ, a, w, hmi, hr, hls, hl, hu, hf, hst, hx, hm => by
    simp only [evOps, Option.some.injEq] at hx
    simp only [chkOps, Option.some.injEq] at hm
    subst hx; subst hm
    refine wpAny_done ?_ (hQ a w hst) fuel
    have : ops.size ≤ i := by
      have := congrArg List.length hr
      simp at this
      omega
    apply List.eq_nil_iff_forall_not_mem.2
    intro j hj
    obtain ⟨h1, o, h2, _⟩ := mem_ready.1 hj
    have hlt := (Array.getElem?_eq_some_iff.1 h2).1
    have h3 := hl j (by omega)
    rw [Array.getD_eq_getD_getElem?] at h1 h3
    have : j < listed.size := by omega
    simp [this] at h1 h3
    rw [h3] at h1; cases h1
  | o :: rest, i, fuel, listed, φ, μ, a, w, hmi, hr, hls, hl, hu, hf, hst, hx, hm => by
    have hio : ops[i]? = some o := by
      have := congrArg (·[0]?) hr
      simp at this
      exact this.symm
    have hi : i < ops.size := (Array.getElem?_eq_some_iff.1 hio).1
    have hrest : rest = ops.toList.drop (i + 1) := by
      have := congrArg (List.drop 1) hr
      simpa using this
    cases fuel with
    | zero => simp at hf
    | succ fuel =>
      have hi0 : listed.getD i true = false := hu i (Nat.le_refl _) hi
      have hin : i ∈ Region.ready .any ops listed := hrdy i listed hi hi0 hl
      refine ⟨fun e => absurd (e ▸ hin) (by simp), fun j hj => ?_⟩
      have hji : j = i := by
        obtain ⟨h1, oj, h2, _⟩ := mem_ready.1 hj
        have hjs := (Array.getElem?_eq_some_iff.1 h2).1
        rcases Nat.lt_trichotomy j i with h3 | h3 | h3
        · have h4 := hl j h3
          rw [Array.getD_eq_getD_getElem?] at h1 h4
          have : j < listed.size := by omega
          simp [this] at h1 h4
          rw [h4] at h1; cases h1
        · exact h3
        · have h4 := hseq j oj h2 (by omega) i h3 listed (fun k hk b hb => by
            by_cases hki : k < i
            · exact hl b (by omega)
            · by_cases hks : k < ops.size
              · have h5 := hu k (by omega) hks
                rw [Array.getD_eq_getD_getElem?] at hk h5
                have : k < listed.size := by omega
                simp [this] at hk h5
                rw [hk] at h5; cases h5
              · rw [Array.getD_eq_getD_getElem?] at hk
                have : ¬ k < listed.size := by omega
                simp [this] at hk) hj
          have h5 := hi0
          rw [Array.getD_eq_getD_getElem?] at h4 h5
          have : i < listed.size := by omega
          simp [this] at h4 h5
          rw [h4] at h5; cases h5
      subst hji
      unfold wpOp
      rw [hio]
      refine op_step hrg hlo hn hSg hst hx hm fun φ1 μ1 a' w' hst' hx' hm' => ?_
      refine tail_wp hrg hlo hn hSg hQ hseq hrdy rest (j + 1) fuel _ φ1 μ1 a' w' (by omega) hrest (by simpa using hls) ?_ ?_ (by simpa using hf) hst' hx' hm'
      · intro k hk
        by_cases e : k = j
        · subst e
          have : k < listed.size := by omega
          simp [this]
        · exact getD_set_true (hl k (by omega))
      · intro k hk hks
        rw [getD_set_ne true (by omega)]
        exact hu k (by omega) hks

end Go.Ev

/- Operations that may go in any order: each by itself. -/
namespace Go.Ev

/-- Operations that leave nothing but one result. -/
def pureK (o : Op) : Bool := match o with
  | .store _ _ _ => false
  | .box _ _ => false
  | .call c => match c.callee with
    | .value _ => false
    | .builtin .append => false
    | _ => true
  | _ => true

/-- A copy that is put into a variable: a view. -/
def assignJ (μ : Mu) (x : Operand) : Option SM := match opM μ x with
  | .c m _ => some (.c m .no)
  | .agg ms _ => some (.agg ms .no)
  | _ => none

def pureJ (τ : List TE) (cols : List M) (μ : Mu) (o : Op) : Option SM := match o with
  | .assign x => assignJ μ x
  | o => pureM τ cols μ o

theorem pureJ_eq {τ : List TE} {cols : List M} {μ : Mu} {o : Op} (h : ∀ x, o ≠ .assign x) : pureJ τ cols μ o = pureM τ cols μ o := by
  unfold pureJ
  split
  · rename_i x; exact (h x rfl).elim
  · rfl

/-- The modes of the results of an operation that may go in any order. -/
def judge (τ : List TE) (Sg : Nat → Option Sig) (cols : List M) (o : Oper) (μ : Mu) : Option (List SM) := if pureK o.op then (pureJ τ cols μ o.op).map fun sm => [sm] else match o.op with
  | .call c => match c.callee with
    | .value (.func f) => match Sg f with
      | some sg => if sg.tys = c.argTypes.toList ∧ sg.res.all SM.resOk = true then (match argsQ τ μ sg.pms c.args.toList c.argTypes.toList with
        | some as => some (sg.res.map (SM.map (substQ as)))
        | none => none) else none
      | none => none
    | _ => none
  | _ => none

section
variable {V : Env} {A : Start} {w w' : World} {μ μ' : Mu} {φ φ' : Fr} {C : Cx} {a : Act} {g : Nat → Value} {o : Oper} {x : X}
variable {S : Nat → Option (List PK)} {F : Nat → List X → Option (List X × List X)} {Sg : Nat → Option Sig} {τ : List TE}

theorem assign_pure {y : Operand} {sm : SM} (ho : o.op = .assign y) (h : St A w μ φ (tmO a.tmps g) C) (hs : sm1 y = true) (hx : pureX V.τ φ o.op o.type = some x) (hm : assignJ μ y = some sm) : PureOk V w C φ (tmO a.tmps g) a o x sm := by
  rw [ho] at hx
  simp only [pureX] at hx
  have hrun : (execOp a.eval o).run V.P w = .ok (.value (a.eval y)) w := by simp [execOp, ho]
  have hu : opX V.τ φ o.type y ≠ .u := by intro e; rw [e] at hx; cases hx
  have hxe : x = ownX (opX V.τ φ o.type y) := by
    generalize opX V.τ φ o.type y = q at hx hu
    cases q <;> first | exact (hu rfl).elim | (simp only [Option.some.injEq] at hx; exact hx.symm)
  have hcl := fun s => op_sound (s := s) h hs (τ := V.τ) (ty := o.type) hu
  have hno := opM_noOwn μ y
  unfold assignJ at hm
  refine .inl ⟨a.eval y, hrun, ?_⟩
  split at hm
  · rename_i m og hop
    cases hm
    rw [hop] at hno hcl
    refine ⟨hno, fun s => ?_⟩
    obtain ⟨d, o', e1, e2, _⟩ := hcl s
    rw [hxe, e1]
    exact ⟨d, none, rfl, e2, fun _ => rfl⟩
  · rename_i ms og hop
    cases hm
    rw [hop] at hno hcl
    refine ⟨hno, fun s => ?_⟩
    obtain ⟨ds, o', vs, e1, e2, e3, e4, e5, _⟩ := hcl s
    rw [hxe, e1]
    exact ⟨ds, none, vs, rfl, e2, e3, e4, e5, rfl⟩
  · cases hm

/-- What an operation answers. -/
def Yields (τ : List TE) (S : Nat → Option (List PK)) (F : Nat → List X → Option (List X × List X)) (φ : Fr) (o : Oper) (rs : List X) : Prop :=
  rs.length ≤ 8 ∧ ((pureK o.op = true ∧ ∃ x, pureX τ φ o.op o.type = some x ∧ rs = [x]) ∨
  (∃ c f ks as outs, o.op = .call c ∧ c.callee = .value (.func f) ∧ S f = some ks ∧ (∀ k ∈ ks, k = .val) ∧ argsX τ φ (ks.take c.args.size) c.args.toList c.argTypes.toList = some as ∧ F f as = some (rs, outs)))

theorem Yields.le {rs : List X} (hl : Le φ φ') (h : Yields τ S F φ o rs) : Yields τ S F φ' o rs := by
  refine ⟨h.1, ?_⟩
  rcases h.2 with ⟨h1, x, h2, h3⟩ | ⟨c, f, ks, as, outs, h1, h2, h3, h4, h5, h6⟩
  · exact .inl ⟨h1, x, pureX_le hl h2, h3⟩
  · exact .inr ⟨c, f, ks, as, outs, h1, h2, h3, h4, argsX_le hl (fun k hk => h4 k (List.mem_of_mem_take hk)) h5, h6⟩

theorem evOp_pure (hk : pureK o.op = true) (h : evOp τ S F o φ = some φ') : ∃ x, pureX τ φ o.op o.type = some x ∧ φ' = putRes o.dst [x] φ := by
  have fin : ∀ {q : Option X}, (match q with | some x => some (putRes o.dst [x] φ) | none => none) = some φ' → ∃ x, q = some x ∧ φ' = putRes o.dst [x] φ := by
    intro q hq
    cases q with
    | none => cases hq
    | some x => exact ⟨x, rfl, by simpa using hq.symm⟩
  unfold evOp at h
  cases ho : o.op with
  | store t y z => rw [ho] at hk; cases hk
  | call c =>
    rw [ho] at hk h
    simp only [pureK] at hk
    simp only at h
    split at h
    · rename_i e; rw [e] at hk; cases hk
    · rename_i e; rw [e] at hk; cases hk
    · exact fin h
  | _ => rw [ho] at h; exact fin h

theorem evOp_yields {cols : List M} {ms : List SM} (hSg : ∀ f sg, Sg f = some sg → S f = some (sg.pms.map PM.pk)) (hj : judge τ Sg cols o μ = some ms) (h : evOp τ S F o φ = some φ') : ∃ rs, Yields τ S F φ o rs ∧ φ' = putRes o.dst rs φ := by
  unfold judge at hj
  split at hj
  · rename_i hk
    obtain ⟨x, h1, h2⟩ := evOp_pure hk h
    exact ⟨[x], ⟨by simp, .inl ⟨hk, x, h1, rfl⟩⟩, h2⟩
  · split at hj
    · rename_i c ho
      split at hj
      · rename_i f hc
        split at hj
        · rename_i sg hsg
          split at hj
          · split at hj
            · rename_i as has
              have hS := hSg f sg hsg
              have hval : ∀ k ∈ sg.pms.map PM.pk, k = .val := by
                intro k hk
                rw [List.mem_map] at hk
                obtain ⟨pm, hpm, rfl⟩ := hk
                exact argsQ_val has pm hpm
              unfold evOp at h
              rw [ho] at h
              simp only [hc] at h
              unfold callX at h
              rw [hS] at h
              simp only at h
              split at h
              · rename_i xs hxs
                split at h
                · rename_i rs outs hF
                  rw [List.append_nil] at hF
                  split at h
                  · rename_i h8
                    split at h
                    · rename_i φ1 hback
                      cases h
                      have hφ1 := backs_val (fun k hk => hval k (List.mem_of_mem_take hk)) hback
                      subst hφ1
                      exact ⟨rs, ⟨h8, .inr ⟨c, f, _, xs, outs, ho, hc, hS, hval, hxs, hF⟩⟩, rfl⟩
                    · cases h
                  · cases h
                · cases h
              · cases h
            · cases hj
          · cases hj
        · cases hj
      · cases hj
    · cases hj

theorem argsQ_len {μ : Mu} : ∀ {pms : List PM} {ys : List Operand} {tys : List Nat} {pss : List (List Pv)}, argsQ τ μ pms ys tys = some pss → pms.length = ys.length := by
  intro pms
  induction pms with
  | nil => intro ys tys pss hq; cases ys <;> cases tys <;> simp_all [argsQ]
  | cons pm pms ih =>
    intro ys tys pss hq
    cases ys with
    | nil => simp [argsQ] at hq
    | cons y ys =>
      cases tys with
      | nil => simp [argsQ] at hq
      | cons t tys =>
        simp only [argsQ] at hq
        split at hq
        · rename_i p ps hp hps; simp [ih hps]
        · cases hq

/-- An operation that is judged by less than is known. -/
theorem settle_op {n : Nat} {cols : List M} {ms : List SM} {rs : List X} {μi μD μD' : Mu} {next : Act → World → Prop} {Q : Exit → Act → World → Prop} (hn : n ≤ 1000)
    (hSg : ∀ f sg, Sg f = some sg → S f = some (sg.pms.map PM.pk) ∧ Does V f sg (F f)) (hs : smallO n o = true) (hsz : a.tmps.size = n) (hdf : a.defers = []) (hpar : Par A a) (hkp : Keeps A o) (hi : St A w μi φ (tmO a.tmps g) C) (h : St A w μD φ (tmO a.tmps g) C)
    (hj : judge V.τ Sg cols o μi = some ms) (hy : Yields V.τ S F φ o rs) (hp : putResM o.dst ms μD = some μD') (hK : ∀ a w, Stands A n (putRes o.dst rs φ) μD' a w → next a w) : o.wp V.P a w next Q := by
  have hs' := hs
  unfold smallO at hs'
  simp only [Bool.and_eq_true] at hs'
  obtain ⟨⟨hso, hsd⟩, _⟩ := hs'
  have hdst : ∀ d, o.dst = some d → d < 1000 ∧ d < a.tmps.size := by
    intro d hd
    rw [hd] at hsd
    have : Nat.lt d n := by simpa [Nat.blt_eq] using hsd
    have : @LT.lt Nat _ d n := this
    exact ⟨Nat.lt_of_lt_of_le this hn, by rw [hsz]; exact this⟩
  obtain ⟨h8, hy⟩ := hy
  unfold judge at hj
  rcases hy with ⟨hk, x, hx, rfl⟩ | ⟨c, f, ks, as, outs, ho, hc, hks, hval, has, hF⟩
  · rw [if_pos hk] at hj
    rw [Option.map_eq_some_iff] at hj
    obtain ⟨sm, hsm, rfl⟩ := hj
    have hpo : PureOk V w C φ (tmO a.tmps g) a o x sm := by
      by_cases he : ∃ y, o.op = .assign y
      · obtain ⟨y, he⟩ := he
        rw [he] at hsm
        exact assign_pure he hi (by rw [he] at hso; simpa [Op.operands] using hso) hx hsm
      · rw [pureJ_eq fun y e => he ⟨y, e⟩] at hsm
        exact pure_sound (V := V) hi hso hx hsm
    refine OpOk.wp (n := n) (φ' := putRes o.dst [x] φ) (μ' := μD') (g := g) ?_ hsz hdf hpar hkp hK
    cases hds : o.dst with
    | none =>
      rw [hds] at hp
      simp only [putResM, Option.some.injEq] at hp
      subst hp
      rcases hpo with ⟨v, h1, _⟩ | ⟨v, w', h1, h2, _⟩
      · exact ⟨_, v, w, C, g, h1, .inl rfl, by rw [hds]; exact h⟩
      · exact ⟨_, v, w', C, g, h1, .inl rfl, by rw [hds]; exact h.ext h2⟩
    | some d =>
      obtain ⟨d1, d2⟩ := hdst d hds
      rw [hds] at hp
      simp only [putResM, Option.some.injEq] at hp
      subst hp
      obtain ⟨v, w', C', h1, _, h3⟩ := hpo.st h d1 d2
      exact ⟨_, v, w', C', g, h1, .inl rfl, by rw [hds]; exact h3⟩
  · have hnk : pureK o.op = false := by rw [ho]; simp [pureK, hc]
    rw [hnk] at hj
    simp only [ho, hc, Bool.false_eq_true, if_false] at hj
    split at hj
    · rename_i sg hsg
      obtain ⟨hS, hD⟩ := hSg f sg hsg
      split at hj
      · rename_i hcond
        obtain ⟨hty, hok⟩ := hcond
        split at hj
        · rename_i pss hpss
          cases hj
          rw [hS] at hks
          cases hks
          have hl := argsQ_len hpss
          have hl0 : c.args.toList.length = c.args.size := by simp
          rw [List.take_of_length_le (by rw [List.length_map]; omega)] at has
          have hsa : c.args.toList.all sm1 = true := by
            rw [ho] at hso
            simp only [Op.operands, Call.operands, Array.all_append, Bool.and_eq_true] at hso
            simpa using hso.2
          obtain ⟨l1, l2, l3, harg⟩ := argsQ_sound hi hsa has hpss
          obtain ⟨⟨fn, b, hf, hbd, hname⟩, hD, _⟩ := hD
          have hD := hD (argsQ_quiet hpss)
          have hrun : (execOp a.eval o).run V.P w = .ok (.enter f (c.args.toList.map a.eval).toArray) w := by
            have e1 : c.args.map a.eval = (c.args.toList.map a.eval).toArray := by apply Array.ext'; simp
            simp only [execOp, ho, resolve, hc]
            have e2 : a.eval (.func f) = .func (.func f) #[] #[] := rfl
            simp [e2, Deferred.ofValue, invoke, callFunc, hf, hname, hbd, e1]
          unfold Oper.wp
          rw [hrun, Oper.upon_enter]
          refine (hD w C.G (fun i => okB C (pss.getD i [])) (c.args.toList.map a.eval) as (by simpa using l2) l1 (fun b hb => (h.frz b hb).1) (fun i b hb => h.ok_lt hb) ?_ rs outs hF).mono ?_
          · intro i x v pm ty q1 q2 q3 q4
            rw [List.getElem?_map, Option.map_eq_some_iff] at q2
            obtain ⟨y, hy, rfl⟩ := q2
            exact harg i x y pm ty q1 hy q3 (by rw [← hty]; exact q4)
          · rintro e w' ⟨vs, C', rfl, hdone⟩
            obtain ⟨C2, g', h2⟩ := call_put (o := o) h hdst (fun b hb => hb) (fun i b hb => hb) hdone hok h8 hp
            exact hK _ _ ⟨C2, g', h2, by rw [put_size]; exact hsz, by rw [put_defers]; exact hdf, hpar.put hkp _⟩
        · cases hj
      · cases hj
    · cases hj
end
end Go.Ev

/- Results that may come in any order: the frame behind them. -/
namespace Go.Ev

theorem hit_disj {d d' s : Nat} (h1 : d < 1000) (h2 : d' < 1000) (h : hit d s = true) (h' : hit d' s = true) : d = d' := by
  unfold hit isCix cix at h h'
  simp only [Bool.or_eq_true, beq_iff_eq, Bool.and_eq_true, decide_eq_true_iff] at h h'
  omega

def patch (f : Nat → Option X) (φ : Fr) : Fr := fun s => match f s with
  | some x => x
  | none => φ s

theorem patch_patch (f g : Nat → Option X) (φ : Fr) : patch f (patch g φ) = patch (fun s => match f s with | some x => some x | none => g s) φ := by
  funext s
  cases e : f s <;> simp [patch, e]

theorem upd_patch (t : Nat) (x : X) (φ : Fr) : upd φ t x = patch (fun s => if s = t then some x else none) φ := by
  funext s
  unfold upd patch
  by_cases e : s = t <;> simp [e]

theorem putComps_patch (t : Nat) : ∀ (rs : List X) (i : Nat), ∃ f, (∀ φ, putComps t i rs φ = patch f φ) ∧ ∀ s, f s ≠ none → ∃ k, k < rs.length ∧ s = cix t (i + k)
  | [], i => ⟨fun _ => none, fun φ => rfl, by simp⟩
  | x :: rs, i => by
    obtain ⟨f, h1, h2⟩ := putComps_patch t rs (i + 1)
    refine ⟨_, fun φ => by rw [putComps, h1, upd_patch, patch_patch], ?_⟩
    intro s hs
    split at hs
    · rename_i y hy
      obtain ⟨k, hk, e⟩ := h2 s (by rw [hy]; simp)
      exact ⟨k + 1, by simpa using hk, by rw [e]; congr 1; omega⟩
    · split at hs
      · rename_i e; exact ⟨0, by simp, e⟩
      · exact (hs rfl).elim

theorem putRes_patch (dst : Option Tmp) (rs : List X) (h8 : rs.length ≤ 8) : ∃ f, (∀ φ, putRes dst rs φ = patch f φ) ∧ ∀ s, f s ≠ none → ∃ d, dst = some d ∧ hit d s = true := by
  cases dst with
  | none => exact ⟨fun _ => none, fun φ => rfl, by simp⟩
  | some d =>
    have one : ∀ x : X, ∃ f, (∀ φ, upd φ d x = patch f φ) ∧ ∀ s, f s ≠ none → ∃ d', some d = some d' ∧ hit d' s = true := fun x =>
      ⟨_, fun φ => upd_patch d x φ, fun s hs => by
        by_cases e : s = d
        · exact ⟨d, rfl, by rw [e]; exact hit_self d⟩
        · simp [e] at hs⟩
    match rs with
    | [] => exact one .u
    | [r] => exact one r
    | r1 :: r2 :: rs =>
      obtain ⟨f, h1, h2⟩ := putComps_patch d (r1 :: r2 :: rs) 0
      refine ⟨_, fun φ => by rw [putRes, h1, upd_patch, patch_patch] <;> simp, ?_⟩
      intro s hs
      refine ⟨d, rfl, ?_⟩
      split at hs
      · rename_i y hy
        by_cases e : s = d
        · rw [e]; exact hit_self d
        · simp [e] at hy
      · obtain ⟨k, hk, e⟩ := h2 s hs
        rw [e]
        unfold hit isCix cix
        simp only [Bool.or_eq_true, beq_iff_eq, Bool.and_eq_true, decide_eq_true_iff]
        omega

theorem Le.refl (φ : Fr) : Le φ φ := fun _ => .inr rfl
theorem Le.trans {a b c : Fr} (h : Le a b) (k : Le b c) : Le a c := fun s => by
  rcases h s with h1 | h1
  · exact .inl h1
  · rcases k s with k1 | k1
    · exact .inl (by rw [← h1, k1])
    · exact .inr (by rw [k1, h1])

section
variable {S : Nat → Option (List PK)} {F : Nat → List X → Option (List X × List X)} {τ : List TE} {ops : Array Oper}

/-- What an operation has come to, in the frame behind all. -/
def Come (τ : List TE) (S : Nat → Option (List PK)) (F : Nat → List X → Option (List X × List X)) (ops : Array Oper) (φ : Fr) (o : Oper) : Prop := match o.guard with
  | none => ∃ rs, Yields τ S F φ o rs ∧ putRes o.dst rs φ = φ
  | some (j, want) => ∃ d b, (ops[j]?).bind (·.dst) = some d ∧ (φ d).val = some (.bool b) ∧ (b = want → ∃ rs, Yields τ S F φ o rs ∧ putRes o.dst rs φ = φ) ∧
      (b ≠ want → ∀ d', o.dst = some d' → φ d' = .u)

/-- Each of the operations is one that may go in any order. -/
def AnyOrder (τ : List TE) (S : Nat → Option (List PK)) (F : Nat → List X → Option (List X × List X)) (o : Oper) : Prop := ∀ φ φ', evOp τ S F o φ = some φ' → ∃ rs, Yields τ S F φ o rs ∧ φ' = putRes o.dst rs φ

theorem come_all : ∀ (l : List Oper) (φ0 φF : Fr), evOps τ S F ops l φ0 = some φF → (∀ o ∈ l, AnyOrder τ S F o) → (l.filterMap (·.dst)).Nodup → (∀ d ∈ l.filterMap (·.dst), d < 1000) →
    (∀ d ∈ l.filterMap (·.dst), ∀ s, hit d s = true → φ0 s = .u) → Le φ0 φF ∧ (∀ s, (∀ d ∈ l.filterMap (·.dst), hit d s = false) → φF s = φ0 s) ∧ ∀ o ∈ l, Come τ S F ops φF o
  | [], φ0, φF, h, _, _, _, _ => by
    simp only [evOps, Option.some.injEq] at h
    subst h
    exact ⟨.refl _, fun _ _ => rfl, by simp⟩
  | o :: l, φ0, φF, h, ha, hn, hd, h0 => by
    have hn' : (l.filterMap (·.dst)).Nodup := by
      simp only [List.filterMap_cons] at hn
      split at hn
      · exact hn
      · exact (List.nodup_cons.1 hn).2
    have hsub : ∀ d ∈ l.filterMap (·.dst), d ∈ (o :: l).filterMap (·.dst) := by
      intro d hd
      simp only [List.filterMap_cons]
      split
      · exact hd
      · exact List.mem_cons_of_mem _ hd
    have hown : ∀ d, o.dst = some d → d ∈ (o :: l).filterMap (·.dst) ∧ ∀ d' ∈ l.filterMap (·.dst), ∀ s, hit d s = true → hit d' s = false := by
      intro d e
      have hm : d ∈ (o :: l).filterMap (·.dst) := by simp [List.filterMap_cons, e]
      refine ⟨hm, ?_⟩
      intro d' hd' s hs
      rw [Bool.eq_false_iff]
      intro hs'
      have := hit_disj (hd d hm) (hd d' (hsub d' hd')) hs hs'
      subst this
      simp only [List.filterMap_cons, e, List.nodup_cons] at hn
      exact hn.1 hd'
    -- a step: results are put down
    have step : ∀ rs : List X, rs.length ≤ 8 → evOps τ S F ops l (putRes o.dst rs φ0) = some φF → Le φ0 φF ∧ (∀ s, (∀ d ∈ (o :: l).filterMap (·.dst), hit d s = false) → φF s = φ0 s) ∧ (∀ o ∈ l, Come τ S F ops φF o) ∧ putRes o.dst rs φF = φF := by
      intro rs h8 he
      obtain ⟨f, hf1, hf2⟩ := putRes_patch o.dst rs h8
      have hle0 : Le φ0 (putRes o.dst rs φ0) := by
        intro s
        rw [hf1]
        unfold patch
        split
        · rename_i x hx
          obtain ⟨d, e, hh⟩ := hf2 s (by rw [hx]; simp)
          exact .inl (h0 d (hown d e).1 s hh)
        · exact .inr rfl
      obtain ⟨r1, r2, r3⟩ := come_all l _ φF he (fun o' ho' => ha o' (List.mem_cons_of_mem _ ho')) hn' (fun d hd' => hd d (hsub d hd')) (by
        intro d' hd' s hs
        rw [hf1]
        unfold patch
        split
        · rename_i x hx
          obtain ⟨d, e, hh⟩ := hf2 s (by rw [hx]; simp)
          have := (hown d e).2 d' hd' s hh
          rw [hs] at this; cases this
        · exact h0 d' (hsub d' hd') s hs)
      refine ⟨hle0.trans r1, ?_, r3, ?_⟩
      · intro s hs
        rw [r2 s fun d hd' => hs d (hsub d hd'), hf1]
        unfold patch
        split
        · rename_i x hx
          obtain ⟨d, e, hh⟩ := hf2 s (by rw [hx]; simp)
          have := hs d (hown d e).1
          rw [hh] at this; cases this
        · rfl
      · rw [hf1 φF]
        funext s
        unfold patch
        split
        · rename_i x hx
          obtain ⟨d, e, hh⟩ := hf2 s (by rw [hx]; simp)
          rw [r2 s fun d' hd' => (hown d e).2 d' hd' s hh, hf1]
          simp [patch, hx]
        · rfl
    have doit : ∀ φ1, evOp τ S F o φ0 = some φ1 → evOps τ S F ops l φ1 = some φF → Le φ0 φF ∧ (∀ s, (∀ d ∈ (o :: l).filterMap (·.dst), hit d s = false) → φF s = φ0 s) ∧ (∀ o ∈ l, Come τ S F ops φF o) ∧ ∃ rs, Yields τ S F φF o rs ∧ putRes o.dst rs φF = φF := by
      intro φ1 he hr
      obtain ⟨rs, hy, rfl⟩ := ha o (by simp) φ0 φ1 he
      obtain ⟨q1, q2, q3, q4⟩ := step rs hy.1 hr
      exact ⟨q1, q2, q3, rs, hy.le q1, q4⟩
    simp only [evOps] at h
    split at h
    · rename_i hg
      split at h
      · rename_i φ1 he
        obtain ⟨q1, q2, q3, q4⟩ := doit φ1 he h
        refine ⟨q1, q2, ?_⟩
        intro o' ho'
        rcases List.mem_cons.1 ho' with rfl | ho'
        · unfold Come; rw [hg]; exact q4
        · exact q3 o' ho'
      · cases h
    · rename_i j want hg
      split at h
      · rename_i d hj
        split at h
        · rename_i b hb
          have hbF : ∀ {ψ : Fr}, Le φ0 ψ → (ψ d).val = some (.bool b) := by
            intro ψ hle
            rw [hle.at (by intro e; rw [e] at hb; cases hb)]; exact hb
          split at h
          · rename_i hbw
            split at h
            · rename_i φ1 he
              obtain ⟨q1, q2, q3, q4⟩ := doit φ1 he h
              refine ⟨q1, q2, ?_⟩
              intro o' ho'
              rcases List.mem_cons.1 ho' with rfl | ho'
              · unfold Come; rw [hg]; exact ⟨d, b, hj, hbF q1, fun _ => q4, fun hne => absurd hbw hne⟩
              · exact q3 o' ho'
            · cases h
          · rename_i hbw
            obtain ⟨q1, q2, q3, q4⟩ := step [] (by simp) h
            refine ⟨q1, q2, ?_⟩
            intro o' ho'
            rcases List.mem_cons.1 ho' with rfl | ho'
            · unfold Come; rw [hg]
              refine ⟨d, b, hj, hbF q1, fun e => absurd e hbw, ?_⟩
              intro _ d' e'
              rw [← q4, e']
              simp [putRes, upd]
            · exact q3 o' ho'
        · cases h
      · cases h

theorem evOps_append : ∀ (l l' : List Oper) (φ φ' : Fr), evOps τ S F ops (l ++ l') φ = some φ' → ∃ φ1, evOps τ S F ops l φ = some φ1 ∧ evOps τ S F ops l' φ1 = some φ'
  | [], l', φ, φ', h => ⟨φ, rfl, h⟩
  | o :: l, l', φ, φ', h => by
    simp only [List.cons_append, evOps] at h ⊢
    split at h
    · split at h
      · exact evOps_append l l' _ φ' h
      · cases h
    · split at h
      · split at h
        · split at h
          · rename_i hb
            split at h
            · obtain ⟨φ1, h1, h2⟩ := evOps_append l l' _ φ' h
              rename_i he
              exact ⟨φ1, by rw [if_pos hb]; exact h1, h2⟩
            · cases h
          · rename_i hb
            obtain ⟨φ1, h1, h2⟩ := evOps_append l l' _ φ' h
            exact ⟨φ1, by rw [if_neg hb]; exact h1, h2⟩
        · cases h
      · cases h
end
end Go.Ev

/- Results that may come in any order: their modes. -/
namespace Go.Ev

/-- No reference to these slots. -/
def SM.free (p : Nat → Bool) : SM → Bool
  | .c _ (.at s _) => !p s
  | .c _ (.ats s _ _) => !p s
  | .c _ (.vw s) => !p s
  | .agg _ (.at s _) => !p s
  | .agg _ (.ats s _ _) => !p s
  | .agg _ (.vw s) => !p s
  | .pt s _ => !p s
  | .pa s _ _ => !p s
  | .pv _ s => !p s
  | .tup b _ => !p b
  | .clo _ caps => !caps.any p
  | _ => true

theorem SM.free_dropS {p : Nat → Bool} {t : Nat} (hp : ∀ s, hit t s = true → p s = true) {m : SM} (h : m.free p = true) : m.dropS t = m := by
  have key : ∀ s, p s = false → hit t s = false := by
    intro s hs
    rw [Bool.eq_false_iff]
    intro e
    rw [hp s e] at hs; cases hs
  cases m with
  | c m o => cases o <;> simp_all [SM.free, SM.dropS, Og.dropS]
  | agg m o => cases o <;> simp_all [SM.free, SM.dropS, Og.dropS]
  | clo f caps =>
    simp only [SM.free, Bool.not_eq_true'] at h
    have : caps.any (hit t) = false := by
      rw [List.any_eq_false] at h ⊢
      intro c hc
      have := key c (by simpa using h c hc)
      simp [this]
    simp [SM.dropS, this]
  | _ => simp_all [SM.free, SM.dropS]

/-- What a result brings. -/
def entE (dst : Option Tmp) (ms : List SM) : Mu := match dst with
  | none => []
  | some d => match ms with
    | [] => []
    | [m] => [(d, m.dropS d)]
    | ms => (d, .tup d ms.length) :: (ms.zipIdx.map fun p => (cix d p.2, p.1))

def seeM (μ0 : Mu) (Es : List Mu) (b : List Nat) : Mu := (b.flatMap fun j => Es.getD j []) ++ μ0

/-- Slots of results that are not surely there where operation i runs. -/
def othersD (dl : List (Option Tmp)) (i : Nat) (b : List Nat) : List Nat := dl.zipIdx.filterMap fun p => if p.2 == i || b.contains p.2 then none else p.1

def guardS (ops : Array Oper) (o : Oper) (μ : Mu) (b : List Nat) (ms : List SM) : Bool := match o.guard with
  | none => true
  | some (j, _) => b.contains j && ms.length == 1 && o.dst.isSome && (match (ops[j]?).bind (·.dst) with
    | some d => Nat.blt d 1000 && rdO μ (.tmp d)
    | none => false)

section
variable (τ : List TE) (Sg : Nat → Option Sig) (colsP : Pol) (n : Nat) (ops : Array Oper) (μ0 : Mu) (dl : List (Option Tmp))

def settleM : Nat → List Oper → List (List Nat) → List Mu → Option (List Mu)
  | _, [], _, Es => some Es
  | _, _ :: _, [], _ => none
  | i, o :: l, b :: bs, Es =>
    let μ := seeM μ0 Es b
    if smallO n o && b.all (fun j => Nat.blt j i) then (match judge τ Sg (colsP.cols o μ) o μ with
      | some ms =>
        let E := entE o.dst ms
        if Nat.ble ms.length 8 && List.all E (fun p => p.2.free (isHit (othersD dl i b))) && guardS ops o μ b ms then settleM (i + 1) l bs (Es ++ [E]) else none
      | none => none) else none

structure JudgedAt (EF : List Mu) (i : Nat) (o : Oper) (b : List Nat) : Prop where
  small : smallO n o = true
  lt : ∀ j ∈ b, j < i
  ex : ∃ cols ms, judge τ Sg cols o (seeM μ0 EF b) = some ms ∧ ms.length ≤ 8 ∧ EF.getD i [] = entE o.dst ms ∧ (∀ p ∈ entE o.dst ms, p.2.free (isHit (othersD dl i b)) = true) ∧ guardS ops o (seeM μ0 EF b) b ms = true
end

section
variable {τ : List TE} {Sg : Nat → Option Sig} {colsP : Pol} {n : Nat} {ops : Array Oper} {μ0 : Mu} {dl : List (Option Tmp)}

theorem seeM_pre {Es Ys : List Mu} {b : List Nat} (h : ∀ j ∈ b, j < Es.length) : seeM μ0 (Es ++ Ys) b = seeM μ0 Es b := by
  unfold seeM
  congr 1
  induction b with
  | nil => rfl
  | cons j b ih =>
    have := h j (by simp)
    simp only [List.flatMap_cons, ih fun k hk => h k (by simp [hk])]
    simp [List.getD_eq_getElem?_getD, List.getElem?_append_left this]

theorem settleM_spec : ∀ (l : List Oper) (i : Nat) (bs : List (List Nat)) (Es EF : List Mu), i = Es.length → settleM τ Sg colsP n ops μ0 dl i l bs Es = some EF →
    ∃ Ys, EF = Es ++ Ys ∧ Ys.length = l.length ∧ ∀ k o b, l[k]? = some o → bs[k]? = some b → JudgedAt τ Sg n ops μ0 dl EF (i + k) o b
  | [], i, bs, Es, EF, hi, h => by
    simp only [settleM, Option.some.injEq] at h
    exact ⟨[], by simp [h], rfl, by simp⟩
  | o :: l, i, [], Es, EF, hi, h => by simp [settleM] at h
  | o :: l, i, b :: bs, Es, EF, hi, h => by
    simp only [settleM] at h
    split at h
    · rename_i hc
      simp only [Bool.and_eq_true, List.all_eq_true, Nat.blt_eq] at hc
      split at h
      · rename_i ms hms
        split at h
        · rename_i hc2
          simp only [Bool.and_eq_true, List.all_eq_true, Nat.ble_eq] at hc2
          obtain ⟨Ys, h1, h2, h3⟩ := settleM_spec l (i + 1) bs _ EF (by simp [hi]) h
          have hpre : seeM μ0 EF b = seeM μ0 Es b := by
            rw [h1, List.append_assoc]
            exact seeM_pre fun j hj => by rw [← hi]; exact hc.2 j hj
          refine ⟨entE o.dst ms :: Ys, by rw [h1]; simp, by simp [h2], ?_⟩
          intro k o' b' hk hb
          cases k with
          | zero =>
            simp only [List.getElem?_cons_zero, Option.some.injEq] at hk hb
            subst hk; subst hb
            refine ⟨hc.1, fun j hj => hc.2 j hj, _, ms, by rw [hpre]; exact hms, hc2.1.1, ?_, fun p hp => hc2.1.2 p hp, by rw [hpre]; exact hc2.2⟩
            rw [h1, hi]
            simp [List.getD_eq_getElem?_getD]
          | succ k =>
            simp only [List.getElem?_cons_succ] at hk hb
            have := h3 k o' b' hk hb
            rw [show i + (k + 1) = i + 1 + k by omega]
            exact this
        · cases h
      · cases h
    · cases h

theorem entE_hit {dst : Option Tmp} {ms : List SM} (h8 : ms.length ≤ 8) {s : Nat} {x : SM} (h : List.lookup s (entE dst ms) = some x) : ∃ d, dst = some d ∧ hit d s = true := by
  unfold entE at h
  split at h
  · simp at h
  · rename_i d
    refine ⟨d, rfl, ?_⟩
    split at h
    · simp at h
    · rw [List.lookup_cons] at h
      split at h
      · rename_i e; simp at e; rw [e]; exact hit_self d
      · simp at h
    · rw [List.lookup_cons] at h
      split at h
      · rename_i e; simp at e; rw [e]; exact hit_self d
      · have := lookup_comps d [] ms 0 s
        simp only [List.append_nil] at this
        rw [this] at h
        split at h
        · rename_i e
          unfold hit isCix
          simp only [Bool.or_eq_true, beq_iff_eq, Bool.and_eq_true, decide_eq_true_iff]
          right
          refine ⟨e.1, ?_⟩
          have := e.2
          unfold cix at this ⊢
          omega
        · simp at h

theorem lookup_append' {α : Type} (s : Nat) : ∀ (a b : List (Nat × α)), List.lookup s (a ++ b) = match List.lookup s a with
    | some x => some x
    | none => List.lookup s b
  | [], b => rfl
  | (k, x) :: a, b => by
    simp only [List.cons_append, List.lookup_cons]
    split
    · rfl
    · exact lookup_append' s a b

theorem seeM_get {Es : List Mu} {s : Nat} {x : SM} : ∀ (b : List Nat), List.lookup s (seeM μ0 Es b) = some x → (∃ j ∈ b, List.lookup s (Es.getD j []) = some x) ∨ List.lookup s μ0 = some x
  | [], h => .inr h
  | j :: b, h => by
    unfold seeM at h
    rw [List.flatMap_cons, List.append_assoc, lookup_append'] at h
    split at h
    · rename_i y hy
      cases h
      exact .inl ⟨j, by simp, hy⟩
    · rcases seeM_get b h with ⟨j', h1, h2⟩ | h1
      · exact .inl ⟨j', by simp [h1], h2⟩
      · exact .inr h1

theorem lookup_mem {α : Type} {l : List (Nat × α)} {s : Nat} {x : α} (h : List.lookup s l = some x) : (s, x) ∈ l := by
  induction l with
  | nil => cases h
  | cons a l ih =>
    obtain ⟨k, y⟩ := a
    rw [List.lookup_cons] at h
    split at h
    · rename_i e; simp at e; cases h; simp [e]
    · exact List.mem_cons_of_mem _ (ih h)

/-- Results are put down: what their slots say. -/
theorem putResM_get {dst : Option Tmp} {ms : List SM} {μ μ' : Mu} (h : putResM dst ms μ = some μ') (s : Nat) :
    (∃ d, dst = some d ∧ hit d s = true ∧ μ'.get s = Mu.get (entE dst ms) s) ∨ ((∀ d, dst = some d → hit d s = false) ∧ μ'.get s = dst.elim (μ.get s) fun d => (μ.get s).dropS d) := by
  cases dst with
  | none =>
    cases h
    exact .inr ⟨by simp, rfl⟩
  | some d =>
    unfold putResM at h
    simp only at h
    split at h
    · cases h
      cases hs : hit d s with
      | true => exact .inl ⟨d, rfl, hs, by rw [get_clear, hs]; rfl⟩
      | false => exact .inr ⟨by rintro d' e; cases e; exact hs, by rw [get_clear, hs]; rfl⟩
    · rename_i r
      cases h
      cases hs : hit d s with
      | true =>
        refine .inl ⟨d, rfl, hs, ?_⟩
        rw [get_put, hs]
        simp only [entE, Mu.get, List.lookup_cons, List.lookup_nil]
        by_cases e : s = d
        · subst e; simp
        · have e' : (s == d) = false := by simpa using e
          simp [e, e']
      | false =>
        refine .inr ⟨by rintro d' e; cases e; exact hs, ?_⟩
        rw [get_put, hs, if_neg (by rintro rfl; rw [hit_self] at hs; cases hs)]
        rfl
    · rename_i hne1 hne2
      split at h
      · rename_i h8
        cases h
        cases hs : hit d s with
        | true =>
          refine .inl ⟨d, rfl, hs, ?_⟩
          have e : entE (some d) ms = (d, .tup d ms.length) :: (ms.zipIdx.map fun p => (cix d p.2, p.1)) := by
            unfold entE
            cases ms with
            | nil => exact (hne1 rfl).elim
            | cons m ms => cases ms with
              | nil => exact (hne2 m rfl).elim
              | cons m' ms => rfl
          rw [e]
          unfold Mu.get
          simp only [List.lookup_cons]
          cases hsd : (s == d) with
          | true => rfl
          | false =>
            simp only [lookup_append']
            cases hl : List.lookup s (ms.zipIdx.map fun p => (cix d p.2, p.1)) with
            | some y => rfl
            | none =>
              have := get_clear μ d s
              rw [hs] at this
              unfold Mu.get at this
              simpa using this
        | false =>
          refine .inr ⟨by rintro d' e; cases e; exact hs, ?_⟩
          have hne : s ≠ d := by rintro rfl; rw [hit_self] at hs; cases hs
          have e' : (s == d) = false := by simpa using hne
          have hc : List.lookup s (ms.zipIdx.map fun p => (cix d p.2, p.1)) = none := by
            have := lookup_comps d [] ms 0 s
            simp only [List.append_nil, List.lookup_nil] at this
            rw [this]
            rw [if_neg]
            rintro ⟨h1, h2⟩
            unfold hit isCix at hs
            simp only [Bool.or_eq_false_iff, Bool.and_eq_false_iff, decide_eq_false_iff_not] at hs
            unfold cix at h1 h2 hs
            omega
          have := get_clear μ d s
          rw [hs] at this
          unfold Mu.get at this ⊢
          simp only [List.lookup_cons, e', lookup_append', hc]
          simpa using this
      · cases h
end
end Go.Ev

/- A region whose order is drawn. -/
namespace Go.Ev

def nodupB : List Nat → Bool
  | [] => true
  | x :: l => !l.contains x && nodupB l

theorem nodupB_spec : ∀ {l : List Nat}, nodupB l = true → l.Nodup
  | [], _ => .nil
  | x :: l, h => by
    simp only [nodupB, Bool.and_eq_true, Bool.not_eq_true', List.contains_eq_mem, decide_eq_false_iff_not] at h
    exact List.nodup_cons.2 ⟨h.1, nodupB_spec h.2⟩

/-- What is asked of the region's own text. -/
def textOk (ops : Array Oper) (B : List (List Nat)) (m : Nat) : Bool :=
  Nat.ble m ops.size && B.length == ops.size &&
  ((List.range ops.size).all fun i => match ops[i]? with
    | none => false
    | some o => ((B.getD i []).all fun b => o.after.toList.any fun e => Region.binds .any e && (e.on == b || (B.getD e.on []).contains b)) &&
        (o.after.toList.all fun e => !Region.binds .any e || Nat.blt e.on i) &&
        ((B.getD i []).all fun b => Nat.blt b i) &&
        (Nat.blt i m || (List.range i).all (B.getD i []).contains)) &&
  nodupB (dstsOf (ops.toList.take m))

structure TextOk (ops : Array Oper) (B : List (List Nat)) (m : Nat) : Prop where
  le : m ≤ ops.size
  len : B.length = ops.size
  via : ∀ i o, ops[i]? = some o → ∀ b ∈ B.getD i [], ∃ e ∈ o.after, Region.binds .any e = true ∧ (e.on = b ∨ b ∈ B.getD e.on [])
  edge : ∀ i o, ops[i]? = some o → ∀ e ∈ o.after, Region.binds .any e = true → e.on < i
  lt : ∀ i, ∀ b ∈ B.getD i [], b < i
  tail : ∀ i, i < ops.size → m ≤ i → ∀ j, j < i → j ∈ B.getD i []
  dsts : ((ops.toList.take m).filterMap (·.dst)).Nodup

theorem mem_getD {b : Nat} {B : List (List Nat)} {i : Nat} (h : b ∈ B.getD i []) : i < B.length := by
  rw [List.getD_eq_getElem?_getD] at h
  cases e : B[i]? with
  | none => rw [e] at h; simp at h
  | some q => exact (List.getElem?_eq_some_iff.1 e).1

theorem textOk_spec {ops : Array Oper} {B : List (List Nat)} {m : Nat} (h : textOk ops B m = true) : TextOk ops B m := by
  unfold textOk at h
  simp only [Bool.and_eq_true, Nat.ble_eq, beq_iff_eq] at h
  obtain ⟨⟨⟨h1, h2⟩, h3⟩, h4⟩ := h
  rw [List.all_eq_true] at h3
  have k : ∀ i o, ops[i]? = some o → _ := fun i o ho => by
    have hi := (Array.getElem?_eq_some_iff.1 ho).1
    have := h3 i (by simpa using hi)
    rw [ho] at this
    simp only [Bool.and_eq_true] at this
    exact this
  have some_of : ∀ i, i < ops.size → ∃ o, ops[i]? = some o := fun i hi => ⟨ops[i], Array.getElem?_eq_getElem hi⟩
  refine ⟨h1, h2, ?_, ?_, ?_, ?_, nodupB_spec h4⟩
  · intro i o ho b hb
    have := (k i o ho).1.1.1
    rw [List.all_eq_true] at this
    have := this b hb
    rw [List.any_eq_true] at this
    obtain ⟨e, he, h5⟩ := this
    simp only [Bool.and_eq_true, Bool.or_eq_true, beq_iff_eq, List.contains_eq_mem, decide_eq_true_eq] at h5
    exact ⟨e, by simpa using he, h5.1, h5.2⟩
  · intro i o ho e he hb
    have := (k i o ho).1.1.2
    rw [List.all_eq_true] at this
    have := this e (by simpa using he)
    simpa [hb] using this
  · intro i b hb
    have hi := mem_getD hb
    obtain ⟨o, ho⟩ := some_of i (by omega)
    have := (k i o ho).1.2
    rw [List.all_eq_true] at this
    simpa using this b hb
  · intro i hi hm j hj
    obtain ⟨o, ho⟩ := some_of i hi
    have := (k i o ho).2
    simp only [Bool.or_eq_true, Nat.blt_eq, List.all_eq_true] at this
    rcases this with h5 | h5
    · omega
    · simpa using h5 j (by simpa using hj)

theorem arr_getD_flip {l : Array Bool} {k : Nat} (h : k < l.size) : l.getD k true = l.getD k false := by
  simp [Array.getD_eq_getD_getElem?, h]

theorem least_unlisted {l : Array Bool} : ∀ {m : Nat}, (∃ j, j < m ∧ l.getD j false = false) → ∃ j, j < m ∧ l.getD j false = false ∧ ∀ k, k < j → l.getD k false = true
  | 0, h => by obtain ⟨j, h, _⟩ := h; omega
  | m + 1, h => by
    by_cases e : ∃ j, j < m ∧ l.getD j false = false
    · obtain ⟨j, h1, h2, h3⟩ := least_unlisted e
      exact ⟨j, by omega, h2, h3⟩
    · obtain ⟨j, h1, h2⟩ := h
      have hjm : j = m := by
        rcases Nat.lt_or_ge j m with h3 | h3
        · exact (e ⟨j, h3, h2⟩).elim
        · omega
      subst hjm
      refine ⟨j, h1, h2, fun k hk => ?_⟩
      cases e1 : l.getD k false with
      | true => rfl
      | false => exact (e ⟨k, hk, e1⟩).elim

theorem filterMap_inj {α : Type} {f : α → Option Nat} : ∀ {l : List α}, (l.filterMap f).Nodup → ∀ {i j : Nat} {a b : α} {d : Nat}, l[i]? = some a → l[j]? = some b → f a = some d → f b = some d → i = j
  | [], _, i, j, a, b, d, h, _, _, _ => by simp at h
  | c :: l, hn, i, j, a, b, d, h1, h2, h3, h4 => by
    have hn' : (l.filterMap f).Nodup := by
      simp only [List.filterMap_cons] at hn
      split at hn
      · exact hn
      · exact (List.nodup_cons.1 hn).2
    have out : ∀ (x : α) (k : Nat), l[k]? = some x → f x = some d → f c = some d → False := by
      intro x k hk hx hc
      simp only [List.filterMap_cons, hc, List.nodup_cons] at hn
      exact hn.1 (List.mem_filterMap.2 ⟨x, List.mem_of_getElem? hk, hx⟩)
    cases i with
    | zero =>
      cases j with
      | zero => rfl
      | succ j =>
        simp only [List.getElem?_cons_zero, Option.some.injEq] at h1
        simp only [List.getElem?_cons_succ] at h2
        subst h1
        exact (out b j h2 h4 h3).elim
    | succ i =>
      cases j with
      | zero =>
        simp only [List.getElem?_cons_zero, Option.some.injEq] at h2
        simp only [List.getElem?_cons_succ] at h1
        subst h2
        exact (out a i h1 h3 h4).elim
      | succ j =>
        simp only [List.getElem?_cons_succ] at h1 h2
        rw [filterMap_inj hn' h1 h2 h3 h4]

theorem isHit_iff {ds : List Nat} {s : Nat} : isHit ds s = true ↔ ∃ d ∈ ds, hit d s = true := by
  unfold isHit
  rw [List.any_eq_true]
  rfl

theorem mem_others {dl : List (Option Tmp)} {i k d : Nat} {b : List Nat} (h : dl[k]? = some (some d)) (hk : k ≠ i) (hb : k ∉ b) : d ∈ othersD dl i b := by
  unfold othersD
  rw [List.mem_filterMap]
  refine ⟨(some d, k), ?_, ?_⟩
  · rw [List.mem_iff_getElem?]
    exact ⟨k, by simp [List.getElem?_zipIdx, h]⟩
  · simp [hk, hb]

section
variable {V : Env} {A : Start} {n : Nat} {S : Nat → Option (List PK)} {F : Nat → List X → Option (List X × List X)} {Sg : Nat → Option Sig} {ops : Array Oper} {μ0 : Mu}

/-- What the modes say where some are settled. -/
structure SetInv (ops : Array Oper) (m : Nat) (μ0 : Mu) (ds : List Nat) (EF : List Mu) (listed : Array Bool) (μ : Mu) : Prop where
  base : ∀ s, isHit ds s = false → μ.get s = μ0.get s
  done : ∀ j o d s, ops[j]? = some o → j < m → listed.getD j false = true → o.dst = some d → hit d s = true → μ.get s = Mu.get (EF.getD j []) s

theorem St.weakG {w : World} {μ ν : Mu} {φ : Fr} {tm : Nat → Value} {C : Cx} (h : St A w μ φ tm C) (hw : ∀ s, ν.get s = .u ∨ ν.get s = μ.get s) : St A w ν φ tm C := by
  refine { h with slot := ?_ }
  intro s
  rcases h.slot s with h1 | h1
  · exact .inl h1
  · right
    rcases hw s with e | e
    · rw [e]; trivial
    · rw [e]; exact h1

theorem get_of_lookup {μ : Mu} {s : Nat} {x : SM} (h : List.lookup s μ = some x) : μ.get s = x := by
  unfold Mu.get; rw [h]

theorem see_weak {m : Nat} {dl : List (Option Tmp)} {ds : List Nat} {B : List (List Nat)} {EF : List Mu} {listed : Array Bool} {μ : Mu} (hm : m ≤ ops.size) (hJ : ∀ i o, ops[i]? = some o → i < m → JudgedAt V.τ Sg n ops μ0 dl EF i o (B.getD i []))
    (h0 : ∀ s x, List.lookup s μ0 = some x → x.free (isHit ds) = true ∧ isHit ds s = false) (hI : SetInv ops m μ0 ds EF listed μ) {b : List Nat} (hb : ∀ j ∈ b, j < m ∧ listed.getD j false = true) (s : Nat) : (seeM μ0 EF b).get s = .u ∨ (seeM μ0 EF b).get s = μ.get s := by
  cases hl : List.lookup s (seeM μ0 EF b) with
  | none => left; unfold Mu.get; rw [hl]
  | some x =>
    right
    rw [get_of_lookup hl]
    rcases seeM_get b hl with ⟨j, hj, h1⟩ | h1
    · obtain ⟨hjm, hjl⟩ := hb j hj
      have hjs : j < ops.size := by omega
      obtain ⟨cols, ms, _, h8, hE, _, _⟩ := (hJ j _ (Array.getElem?_eq_getElem hjs) hjm).ex
      have h1' := h1
      rw [hE] at h1'
      obtain ⟨d, e, hh⟩ := entE_hit h8 h1'
      rw [hI.done j _ d s (Array.getElem?_eq_getElem hjs) hjm hjl e hh, get_of_lookup h1]
    · rw [hI.base s (h0 s x h1).2, get_of_lookup h1]

theorem drop_same {p : Nat → Bool} {t s : Nat} {μ : Mu} (hp : ∀ s, hit t s = true → p s = true) (h : ∀ x, List.lookup s μ = some x → x.free p = true) : (μ.get s).dropS t = μ.get s := by
  cases hl : List.lookup s μ with
  | none => unfold Mu.get; rw [hl]; rfl
  | some x => rw [get_of_lookup hl]; exact SM.free_dropS hp (h x hl)

/-- One more is settled. -/
theorem SetInv.put {m : Nat} {dl : List (Option Tmp)} {B : List (List Nat)} {EF : List Mu} {listed : Array Bool} {μ μ' : Mu} (hok : TextOk ops B m) (hn : n ≤ 1000) (hdl : dl = (ops.toList.take m).map (·.dst))
    (hJ : ∀ i o, ops[i]? = some o → i < m → JudgedAt V.τ Sg n ops μ0 dl EF i o (B.getD i []))
    (h0 : ∀ s x, List.lookup s μ0 = some x → x.free (isHit (dstsOf (ops.toList.take m))) = true ∧ isHit (dstsOf (ops.toList.take m)) s = false) (hdown : ∀ i, listed.getD i false = true → ∀ b ∈ B.getD i [], listed.getD b false = true)
    (hI : SetInv ops m μ0 (dstsOf (ops.toList.take m)) EF listed μ) {i : Nat} {o : Oper} (ho : ops[i]? = some o) (him : i < m) (hu : listed.getD i false = false) (hg : ∀ s, (∃ d, o.dst = some d ∧ hit d s = true ∧ μ'.get s = Mu.get (EF.getD i []) s) ∨ ((∀ d, o.dst = some d → hit d s = false) ∧ μ'.get s = o.dst.elim (μ.get s) fun d => (μ.get s).dropS d)) :
    SetInv ops m μ0 (dstsOf (ops.toList.take m)) EF (listed.setIfInBounds i true) μ' := by
  have hat : ∀ j oj, ops[j]? = some oj → j < m → (ops.toList.take m)[j]? = some oj := by
    intro j oj h1 h2
    rw [List.getElem?_take, if_pos h2]
    simpa using h1
  have hmem : ∀ j oj d, ops[j]? = some oj → j < m → oj.dst = some d → d ∈ dstsOf (ops.toList.take m) := by
    intro j oj d h1 h2 h3
    exact List.mem_filterMap.2 ⟨oj, List.mem_of_getElem? (hat j oj h1 h2), h3⟩
  have hsm : ∀ j oj d, ops[j]? = some oj → j < m → oj.dst = some d → d < 1000 := by
    intro j oj d h1 h2 h3
    have := (hJ j oj h1 h2).small
    unfold smallO at this
    simp only [Bool.and_eq_true] at this
    have := this.1.2
    rw [h3] at this
    have : Nat.lt d n := by simpa [Nat.blt_eq] using this
    exact Nat.lt_of_lt_of_le this hn
  refine ⟨?_, ?_⟩
  · intro s hs
    rcases hg s with ⟨d, e, hh, _⟩ | ⟨_, h2⟩
    · have : isHit (dstsOf (ops.toList.take m)) s = true := isHit_iff.2 ⟨d, hmem i o d ho him e, hh⟩
      rw [hs] at this; cases this
    · rw [h2]
      cases e : o.dst with
      | none => exact hI.base s hs
      | some d =>
        simp only [Option.elim]
        rw [hI.base s hs]
        exact drop_same (p := isHit (dstsOf (ops.toList.take m))) (fun s' hs' => isHit_iff.2 ⟨d, hmem i o d ho him e, hs'⟩) fun x hx => (h0 s x hx).1
  · intro j oj dj s hj hjm hjl hdj hh
    by_cases e : j = i
    · subst e
      rw [ho] at hj; cases hj
      rcases hg s with ⟨d, e, _, h2⟩ | ⟨h1, _⟩
      · exact h2
      · have := h1 dj hdj
        rw [hh] at this; cases this
    · rw [getD_set_ne false (fun e' => e e'.symm)] at hjl
      have hold := hI.done j oj dj s hj hjm hjl hdj hh
      have hnb : i ∉ B.getD j [] := by
        intro hb
        have := hdown j hjl i hb
        rw [hu] at this; cases this
      rcases hg s with ⟨d, e2, hh2, _⟩ | ⟨h1, h2⟩
      · exfalso
        have : dj = d := hit_disj (hsm j oj dj hj hjm hdj) (hsm i o d ho him e2) hh hh2
        subst this
        exact e (filterMap_inj (f := (·.dst)) hok.dsts (hat j oj hj hjm) (hat i o ho him) hdj e2)
      · rw [h2]
        cases e2 : o.dst with
        | none => exact hold
        | some d =>
          simp only [Option.elim]
          rw [hold]
          obtain ⟨cols, ms, _, h8, hE, hfree, _⟩ := (hJ j oj hj hjm).ex
          refine drop_same (p := isHit (othersD dl j (B.getD j []))) (fun s' hs' => isHit_iff.2 ⟨d, ?_, hs'⟩) fun x hx => ?_
          · refine mem_others (k := i) ?_ (fun e' => e e'.symm) hnb
            rw [hdl, List.getElem?_map, hat i o ho him]
            simp [e2]
          · rw [hE] at hx
            exact hfree _ (lookup_mem hx)
end
end Go.Ev

/- A region whose order is drawn: the settled part in any order, then its tail. -/
namespace Go.Ev
section
variable {V : Env} {A : Start} {n : Nat} {S : Nat → Option (List PK)} {F : Nat → List X → Option (List X × List X)} {Sg : Nat → Option Sig} {ops : Array Oper} {μ0 : Mu} {colsP : Pol}

theorem upd_same {φ : Fr} {d : Nat} {x : X} (h : φ d = x) : upd φ d x = φ := by
  funext s
  unfold upd
  split
  · rename_i e; subst e; exact h.symm
  · rfl

theorem settle_wp {B : List (List Nat)} {m : Nat} {dl : List (Option Tmp)} {EF : List Mu} {φF φ' : Fr} {μ' : Mu} {Q : Exit → Act → World → Prop} (hrg : A.rg = []) (hlo : A.hd.isSome = true → colsP.lo = true) (hn : n ≤ 1000) (hkp : ∀ (i : Nat) (o : Oper), ops[i]? = some o → Keeps A o)
    (hSg : ∀ f sg, Sg f = some sg → S f = some (sg.pms.map PM.pk) ∧ Does V f sg (F f)) (hQ : ∀ a w, Stands A n φ' μ' a w → Q .normal a w)
    (hok : TextOk ops B m) (hdl : dl = (ops.toList.take m).map (·.dst)) (hJ : ∀ i o, ops[i]? = some o → i < m → JudgedAt V.τ Sg n ops μ0 dl EF i o (B.getD i []))
    (hC : ∀ i o, ops[i]? = some o → i < m → Come V.τ S F ops φF o)
    (h0 : ∀ s x, List.lookup s μ0 = some x → x.free (isHit (dstsOf (ops.toList.take m))) = true ∧ isHit (dstsOf (ops.toList.take m)) s = false)
    (hx : evOps V.τ S F ops (ops.toList.drop m) φF = some φ') (hm : chkOps V.τ Sg colsP n ops (ops.toList.drop m) (seeM μ0 EF (List.range m)) = some μ') :
    ∀ (fuel : Nat) (listed : Array Bool) (μ : Mu) (a : Act) (w : World) (T : List Nat), listed.size = ops.size → T.length + (ops.size - m) ≤ fuel →
      (∀ i, i < m → listed.getD i false = false → i ∈ T) → (∀ i, listed.getD i false = true → ∀ b ∈ B.getD i [], listed.getD b false = true) → (∀ i, m ≤ i → i < ops.size → listed.getD i true = false) →
      SetInv ops m μ0 (dstsOf (ops.toList.take m)) EF listed μ → Stands A n φF μ a w → wpAny V.P .any ops Q fuel listed a w := by
  have hrdy : ∀ i (listed : Array Bool), i < ops.size → listed.getD i true = false → (∀ j, j < i → listed.getD j false = true) → i ∈ Region.ready .any ops listed := by
    intro i listed hi h1 h2
    exact mem_ready.2 ⟨h1, ops[i], Array.getElem?_eq_getElem hi, fun e he hb => h2 _ (hok.edge i _ (Array.getElem?_eq_getElem hi) e he hb)⟩
  have hclose : ∀ i o (listed : Array Bool), ops[i]? = some o → (∀ k, listed.getD k false = true → ∀ b ∈ B.getD k [], listed.getD b false = true) → i ∈ Region.ready .any ops listed → ∀ b ∈ B.getD i [], listed.getD b false = true := by
    intro i o listed ho hd hi b hb
    obtain ⟨_, o', ho', hall⟩ := mem_ready.1 hi
    rw [ho] at ho'; cases ho'
    obtain ⟨e, he, h1, h2⟩ := hok.via i o ho b hb
    have h3 := hall e he h1
    rcases h2 with h2 | h2
    · rw [← h2]; exact h3
    · exact hd _ h3 b h2
  have hend : ∀ (fuel : Nat) (listed : Array Bool) (μ : Mu) (a : Act) (w : World), listed.size = ops.size → ops.size - m ≤ fuel → (∀ j, j < m → listed.getD j false = true) → (∀ i, m ≤ i → i < ops.size → listed.getD i true = false) →
      SetInv ops m μ0 (dstsOf (ops.toList.take m)) EF listed μ → Stands A n φF μ a w → wpAny V.P .any ops Q fuel listed a w := by
    intro fuel listed μ a w hls hf hall hhi hI hst
    obtain ⟨C, g, h, hsz, hdf, hpar⟩ := hst
    refine tail_wp hrg hlo hn hSg hQ (m := m) ?_ hrdy _ m fuel listed φF _ a w (Nat.le_refl _) rfl hls hall hhi (by simp; omega) ⟨C, g, h.weakG (see_weak hok.le hJ h0 hI fun j hj => ?_), hsz, hdf, hpar⟩ hx hm
    · intro i o ho hmi j hj l hl hi
      exact hclose i o l ho (fun k hk b hb => hl k hk b (hok.lt k b hb)) hi j (hok.tail i (Array.getElem?_eq_some_iff.1 ho).1 hmi j hj)
    · have hj' : j < m := by simpa using hj
      exact ⟨hj', hall j hj'⟩
  intro fuel
  induction fuel with
  | zero =>
    intro listed μ a w T hls hT hun hdown hhi hI hst
    have hall : ∀ j, j < m → listed.getD j false = true := by
      intro j hj
      cases e : listed.getD j false with
      | true => rfl
      | false => have := hun j hj e; have : T = [] := List.length_eq_zero_iff.1 (by omega); subst this; simp at *
    exact hend 0 listed μ a w hls (by omega) hall hhi hI hst
  | succ fuel ih =>
    intro listed μ a w T hls hT hun hdown hhi hI hst
    by_cases hall : ∀ j, j < m → listed.getD j false = true
    · exact hend (fuel + 1) listed μ a w hls (by omega) hall hhi hI hst
    · have hex : ∃ j, j < m ∧ listed.getD j false = false := by
        apply Classical.byContradiction
        intro hne
        apply hall
        intro j hj
        cases e : listed.getD j false with
        | true => rfl
        | false => exact (hne ⟨j, hj, e⟩).elim
      obtain ⟨j0, hj0, hu0, hlow⟩ := least_unlisted hex
      have hm' := hok.le
      have hr0 : j0 ∈ Region.ready .any ops listed := hrdy j0 listed (by omega) (by rw [arr_getD_flip (by omega)]; exact hu0) hlow
      refine ⟨fun e => absurd (e ▸ hr0) (by simp), fun i hi => ?_⟩
      obtain ⟨hiu, o, ho, _⟩ := mem_ready.1 hi
      have his := (Array.getElem?_eq_some_iff.1 ho).1
      have hcl := hclose i o listed ho hdown hi
      have him : i < m := by
        rcases Nat.lt_or_ge i m with h | h
        · exact h
        · have := hcl j0 (hok.tail i his h j0 (by omega))
          rw [hu0] at this; cases this
      have hiu' : listed.getD i false = false := by rw [← arr_getD_flip (by omega)]; exact hiu
      have hJi := hJ i o ho him
      obtain ⟨cols, ms, hj, h8, hE, hfree, hguard⟩ := hJi.ex
      have hcome := hC i o ho him
      have hsee : ∀ s, (seeM μ0 EF (B.getD i [])).get s = .u ∨ (seeM μ0 EF (B.getD i [])).get s = μ.get s :=
        see_weak hok.le hJ h0 hI fun j hj => ⟨by have := hok.lt i j hj; omega, hcl j hj⟩
      have next : ∀ μ1, (∀ s, (∃ d, o.dst = some d ∧ hit d s = true ∧ μ1.get s = Mu.get (EF.getD i []) s) ∨ ((∀ d, o.dst = some d → hit d s = false) ∧ μ1.get s = o.dst.elim (μ.get s) fun d => (μ.get s).dropS d)) →
          ∀ a w, Stands A n φF μ1 a w → wpAny V.P .any ops Q fuel (listed.setIfInBounds i true) a w := by
        intro μ1 hg a' w' hst'
        have hiT : i ∈ T := hun i him hiu'
        refine ih _ μ1 a' w' (T.erase i) (by simpa using hls) ?_ ?_ ?_ ?_ (hI.put hok hn hdl hJ h0 hdown ho him hiu' hg) hst'
        · rw [List.length_erase_of_mem hiT]
          have := List.length_pos_of_mem hiT
          omega
        · intro k hk hku
          by_cases e : k = i
          · subst e
            have : k < listed.size := by omega
            simp [this] at hku
          · rw [getD_set_ne false (fun e' => e e'.symm)] at hku
            exact (List.mem_erase_of_ne e).2 (hun k hk hku)
        · intro k hk b hb
          by_cases e : k = i
          · subst e; exact getD_set_true (hcl b hb)
          · rw [getD_set_ne false (fun e' => e e'.symm)] at hk
            exact getD_set_true (hdown k hk b hb)
        · intro k hk hks
          rw [getD_set_ne true (by omega)]
          exact hhi k hk hks
      obtain ⟨C, g, h, hsz, hdf, hpar⟩ := hst
      have hko := hkp i o ho
      have hw := h.weakG hsee
      have run : ∀ rs, Yields V.τ S F φF o rs → putRes o.dst rs φF = φF → o.wp V.P a w (wpAny V.P .any ops Q fuel (listed.setIfInBounds i true)) Q := by
        intro rs hy hput
        obtain ⟨μ1, hμ1⟩ : ∃ μ1, putResM o.dst ms μ = some μ1 := by
          unfold putResM
          split
          · exact ⟨_, rfl⟩
          · split
            · exact ⟨_, rfl⟩
            · exact ⟨_, rfl⟩
            · rw [if_pos h8]; exact ⟨_, rfl⟩
        refine settle_op hn hSg hJi.small hsz hdf hpar hko hw h hj hy hμ1 fun a' w' hst' => ?_
        rw [hput] at hst'
        refine next μ1 ?_ a' w' hst'
        intro s
        rcases putResM_get hμ1 s with ⟨d, e1, e2, e3⟩ | h1
        · exact .inl ⟨d, e1, e2, by rw [hE]; exact e3⟩
        · exact .inr h1
      unfold wpOp
      rw [ho]
      unfold Come at hcome
      unfold guardS at hguard
      cases hg : o.guard with
      | none =>
        rw [hg] at hcome
        obtain ⟨rs, hy, hput⟩ := hcome
        simp only
        rw [if_pos (by simp [Region.wanted, hg])]
        exact .inl (run rs hy hput)
      | some jw =>
        obtain ⟨j, want⟩ := jw
        rw [hg] at hcome hguard
        obtain ⟨d, b, hjd, hv, hc1, hc2⟩ := hcome
        simp only [hjd, Bool.and_eq_true, beq_iff_eq, Nat.blt_eq] at hguard
        obtain ⟨⟨⟨hjb, hlen⟩, hsome⟩, hd1, hrd⟩ := hguard
        have hbool := slot_bool hw hd1 hrd hv
        have hy : yielded ops a.tmps j = some b := by
          unfold yielded
          rw [hjd]
          simp only [Option.bind_some]
          have : a.tmps[d]? = some (.bool b) := by
            by_cases hlt : d < a.tmps.size
            · rw [Array.getElem?_eq_getElem hlt]
              simp [Array.getD, hlt] at hbool
              rw [hbool]
            · simp [Array.getD, hlt] at hbool
              cases hbool
          rw [this]
        simp only
        by_cases hbw : b = want
        · rw [if_pos (by simp [Region.wanted, hg, hy, hbw])]
          obtain ⟨rs, h1, h2⟩ := hc1 hbw
          exact .inl (run rs h1 h2)
        · rw [if_neg (by simp [Region.wanted, hg, hy, hbw])]
          obtain ⟨dd, hdd⟩ := Option.isSome_iff_exists.1 hsome
          obtain ⟨sm, hsm⟩ : ∃ sm, ms = [sm] := by
            match ms, hlen with
            | [sm], _ => exact ⟨sm, rfl⟩
          have hs := hJi.small
          unfold smallO at hs
          simp only [Bool.and_eq_true] at hs
          have hdn := hs.1.2
          rw [hdd] at hdn
          simp only [Nat.blt_eq] at hdn
          obtain ⟨C2, h2⟩ := skip_st (sm := sm) h (Nat.lt_of_lt_of_le hdn hn) (by rw [hsz]; exact hdn)
          rw [upd_same (hc2 hbw dd hdd)] at h2
          rw [hdd]
          refine next (μ.put dd sm) ?_ _ _ ⟨C2, g, h2, by rw [put_size]; exact hsz, by rw [put_defers]; exact hdf, hdd ▸ hpar.put hko _⟩
          intro s
          rcases putResM_get (dst := some dd) (ms := [sm]) (μ := μ) (μ' := μ.put dd sm) rfl s with ⟨d', e1, e2, e3⟩ | ⟨h1, h3⟩
          · exact .inl ⟨d', by rw [hdd]; exact e1, e2, by rw [hE, hsm, hdd]; exact e3⟩
          · exact .inr ⟨by rw [hdd]; exact h1, by rw [hdd]; exact h3⟩

/-- The check of a region whose order is drawn. -/
def chkDrawn (τ : List TE) (Sg : Nat → Option Sig) (colsP : Pol) (n : Nat) (ops : Array Oper) (μ : Mu) : Option Mu :=
  let l := ops.toList
  let B := predsL l []
  let m := cutOf l
  let ds := dstsOf (l.take m)
  let μ0 := ds.foldl Mu.clear μ
  if (textOk ops B m && l.all (dstOk colsP.lo)) && List.all μ0 (fun p => p.2.free (isHit ds) && !isHit ds p.1) then (match settleM τ Sg colsP n ops μ0 ((l.take m).map (·.dst)) 0 (l.take m) B [] with
    | some Es => chkOps τ Sg colsP n ops (l.drop m) (seeM μ0 Es (List.range m))
    | none => none) else none

theorem clr_st {w : World} {φF : Fr} : ∀ (ds : List Nat) (φ : Fr) (μ : Mu) (C : Cx) (tm : Nat → Value), (∀ d ∈ ds, d < 1000) → St A w μ φ tm C → (∀ s, isHit ds s = false → φF s = φ s) → ∃ C', St A w (ds.foldl Mu.clear μ) φF tm C'
  | [], φ, μ, C, tm, _, h, hs => by
    have : φF = φ := by funext s; exact hs s rfl
    subst this
    exact ⟨C, h⟩
  | d :: ds, φ, μ, C, tm, hd, h, hs => by
    have h1 := h.putG (hd d (by simp)) (Ext.refl w) (fun _ => none) (by simp) (by simp) (by simp) .none (μ' := μ.clear d) (φ' := fun s => if hit d s then φF s else φ s) (tm' := tm) (fun s hh => by simp [hh]) (fun s _ => rfl)
      (fun s hh => by rw [get_clear, hh]; rfl) (fun s hh => .inr (by rw [get_clear, hh]; trivial))
    refine clr_st ds _ _ _ tm (fun d' hd' => hd d' (by simp [hd'])) h1 ?_
    intro s hh
    cases e : hit d s with
    | true => simp
    | false =>
      simp only [Bool.false_eq_true, if_false]
      refine hs s ?_
      rw [Bool.eq_false_iff]
      intro e2
      obtain ⟨d', hd', h2⟩ := isHit_iff.1 e2
      rcases List.mem_cons.1 hd' with rfl | hd'
      · rw [e] at h2; cases h2
      · have := isHit_iff.2 ⟨d', hd', h2⟩
        rw [hh] at this; cases this

theorem drawn_wp {id : Nat} {φ φ' : Fr} {μ μ' : Mu} {a : Act} {w : World} {Q : Exit → Act → World → Prop} (hrg : A.rg = []) (hlo : A.hd.isSome = true → colsP.lo = true) (hn : n ≤ 1000)
    (hSg : ∀ f sg, Sg f = some sg → S f = some (sg.pms.map PM.pk) ∧ Does V f sg (F f)) (hst : Stands A n φ μ a w) (hx : evOps V.τ S F ops ops.toList (clrX (dstsOf (ops.toList.take (cutOf ops.toList))) φ) = some φ') (hm : chkDrawn V.τ Sg colsP n ops μ = some μ')
    (hQ : ∀ a w, Stands A n φ' μ' a w → Q .normal a w) : (Code.region id ops true).wp V.P Q a w := by
  unfold chkDrawn at hm
  simp only at hm
  generalize cutOf ops.toList = m at *
  split at hm
  · rename_i hc
    simp only [Bool.and_eq_true, List.all_eq_true, Bool.not_eq_true'] at hc
    have hok := textOk_spec hc.1.1
    have hkp : ∀ (i : Nat) (o : Oper), ops[i]? = some o → Keeps A o := fun i o hi => dstOk_keeps hlo (hc.1.2 o (List.mem_iff_getElem?.2 ⟨i, by simpa using hi⟩))
    split at hm
    · rename_i Es hEs
      obtain ⟨Ys, h1, h2, h3⟩ := settleM_spec _ 0 _ [] _ rfl hEs
      simp only [List.nil_append] at h1
      subst h1
      have hBat : ∀ i, i < ops.size → (predsL ops.toList [])[i]? = some ((predsL ops.toList []).getD i []) := by
        intro i hi
        have : i < (predsL ops.toList []).length := by rw [hok.len]; exact hi
        simp [List.getD_eq_getElem?_getD, this]
      have hJ : ∀ i o, ops[i]? = some o → i < m → JudgedAt V.τ Sg n ops ((dstsOf (ops.toList.take m)).foldl Mu.clear μ) ((ops.toList.take m).map (·.dst)) Es i o ((predsL ops.toList []).getD i []) := by
        intro i o ho him
        have hi := (Array.getElem?_eq_some_iff.1 ho).1
        have := h3 i o _ (by rw [List.getElem?_take, if_pos him]; simpa using ho) (hBat i hi)
        simpa using this
      have hsplit : ops.toList = ops.toList.take m ++ ops.toList.drop m := (List.take_append_drop m _).symm
      have hx' := hx
      rw [hsplit] at hx'
      rw [← hsplit] at hx'
      obtain ⟨φF, hx1, hx2⟩ := evOps_append (ops.toList.take m) (ops.toList.drop m) _ φ' (by rw [← hsplit]; exact hx)
      have htk : ∀ o ∈ ops.toList.take m, ∃ i, ops[i]? = some o ∧ i < m := by
        intro o ho
        obtain ⟨i, hi⟩ := List.mem_iff_getElem?.1 ho
        rw [List.getElem?_take] at hi
        split at hi
        · rename_i him; exact ⟨i, by simpa using hi, him⟩
        · cases hi
      have hd1000 : ∀ d ∈ (ops.toList.take m).filterMap (·.dst), d < 1000 := by
        intro d hd
        obtain ⟨o, ho, e⟩ := List.mem_filterMap.1 hd
        obtain ⟨i, hi, him⟩ := htk o ho
        have := (hJ i o hi him).small
        unfold smallO at this
        simp only [Bool.and_eq_true] at this
        have := this.1.2
        rw [e] at this
        have : Nat.lt d n := by simpa [Nat.blt_eq] using this
        exact Nat.lt_of_lt_of_le this hn
      obtain ⟨q1, q2, q3⟩ := come_all (ops.toList.take m) _ φF hx1 (by
        intro o ho
        obtain ⟨i, hi, him⟩ := htk o ho
        obtain ⟨cols, ms, hj, _⟩ := (hJ i o hi him).ex
        intro φ1 φ2 he
        exact evOp_yields (fun f sg hf => (hSg f sg hf).1) hj he) hok.dsts hd1000 (by
        intro d hd s hs
        have h9 : isHit (dstsOf (ops.toList.take m)) s = true := isHit_iff.2 ⟨d, hd, hs⟩
        simp [clrX, h9])
      obtain ⟨C, g, h, hsz, hdf, hpar⟩ := hst
      have he : Ext w { w with drawn := w.drawn + 1 } := ⟨Nat.le_refl _, fun _ _ => rfl, ⟨rfl, rfl, rfl⟩⟩
      obtain ⟨C', h'⟩ := clr_st (φF := φF) (dstsOf (ops.toList.take m)) φ μ C _ hd1000 (h.ext he) (by
        intro s hs
        rw [q2 s fun d hd => ?_]
        · simp [clrX, hs]
        · rw [Bool.eq_false_iff]
          intro e
          have := isHit_iff.2 ⟨d, hd, e⟩
          have h9 : isHit (dstsOf (ops.toList.take m)) s = true := this
          rw [hs] at h9; cases h9)
      refine wp_region_any V.mix ?_
      refine settle_wp hrg hlo hn hkp hSg hQ hok rfl hJ (fun i o ho him => q3 o ?_) ?_ hx2 hm ops.size _ _ a _ (List.range m) (by simp) (by simp; have := hok.le; omega) (fun i hi _ => by simpa using hi) ?_ ?_ ?_ ⟨C', g, h', hsz, hdf, hpar⟩
      · refine List.mem_iff_getElem?.2 ⟨i, ?_⟩
        rw [List.getElem?_take, if_pos him]; simpa using ho
      · intro s x hl
        exact hc.2 _ (lookup_mem hl)
      · intro i hi
        rw [Array.getD_eq_getD_getElem?] at hi
        simp [Array.getElem?_replicate] at hi
        split at hi <;> simp at hi
      · intro i _ hi
        rw [Array.getD_eq_getD_getElem?]
        simp [Array.getElem?_replicate, hi]
      · refine ⟨fun s _ => rfl, ?_⟩
        intro j o d s _ _ hj
        rw [Array.getD_eq_getD_getElem?] at hj
        simp [Array.getElem?_replicate] at hj
        split at hj <;> simp at hj
    · cases hm
  · cases hm
end
end Go.Ev

/- Code: what is checked comes to what is evaluated. -/
namespace Go.Ev

def joinK (a b : Mu) : Option Mu :=
  let j := joinMu a b
  if weakS a j && weakS b j then some j else none

def joinOK : Option Mu → Option Mu → Option (Option Mu)
  | some a, some b => match joinK a b with
    | some j => some (some j)
    | none => none
  | some a, none => some (some a)
  | none, b => some b

def mergeK : List (Nat × Mu) → List (Nat × Mu) → Option (List (Nat × Mu))
  | a, [] => some a
  | a, p :: b => match List.lookup p.1 a with
    | some μ => match joinK μ p.2 with
      | some j => mergeK ((p.1, j) :: a.filter (fun q => q.1 != p.1)) b
      | none => none
    | none => mergeK (p :: a) b

def Outs.join (o o' : Outs) : Option Outs := match joinOK o.n o'.n, mergeK o.e o'.e, joinOK o.r o'.r with
  | some n, some e, some r => some { n := n, e := e, r := r }
  | _, _, _ => none

structure Chk where
  τ : List TE
  Sg : Nat → Option Sig
  n : Nat
  cols : Pol

def loopK (body : Mu → Option Outs) : Nat → Mu → Option Outs
  | 0, _ => none
  | k + 1, μ => match body μ with
    | some o => match o.n with
      | some μ' => if weakS μ' μ then some { o with n := none } else (if weakS μ (joinMu μ μ') then loopK body k (joinMu μ μ') else none)
      | none => some { o with n := none }
    | none => none

def smC (n : Nat) : Operand → Bool
  | .tmp t => Nat.blt t n
  | _ => true

def chkC (X : Chk) : Code → Mu → Option Outs
  | .skip, μ => some { n := some μ }
  | .region _ ops dr, μ => match (if dr then chkDrawn X.τ X.Sg X.cols X.n ops μ else chkOps X.τ X.Sg X.cols X.n ops ops.toList μ) with
    | some μ' => some { n := some μ' }
    | none => none
  | .seq a b, μ => match chkC X a μ with
    | some o => match o.n with
      | some μ' => match chkC X b μ' with
        | some o' => Outs.join { o with n := none } o'
        | none => none
      | none => some o
    | none => none
  | .cond c a b, μ => if smC X.n c && rdO μ c then (match chkC X a μ, chkC X b μ with
    | some o, some o' => o.join o'
    | _, _ => none) else none
  | .block id c, μ => match chkC X c μ with
    | some o => match joinOK o.n (List.lookup id o.e) with
      | some n => some { n := n, e := o.e.filter (fun p => p.1 != id), r := o.r }
      | none => none
    | none => none
  | .loop c, μ => loopK (chkC X c) 6 μ
  | .exit id, μ => some { e := [(id, μ)] }
  | .ret, μ => some { r := some μ }
  | _, _ => none

def EE.ex : EE → Exit
  | .normal => .normal
  | .exit id => .exit id
  | .ret => .ret

def Outs.Holds (o : Outs) (e : EE) (P : Mu → Prop) : Prop := match e with
  | .normal => ∃ μ, o.n = some μ ∧ P μ
  | .exit id => ∃ μ, List.lookup id o.e = some μ ∧ P μ
  | .ret => ∃ μ, o.r = some μ ∧ P μ

def Mono (P : Mu → Prop) : Prop := ∀ μ ν, weakS μ ν = true → P μ → P ν

theorem joinK_spec {a b j : Mu} (h : joinK a b = some j) : weakS a j = true ∧ weakS b j = true := by
  unfold joinK at h
  simp only at h
  split at h
  · rename_i hc; cases h; simpa using hc
  · cases h

theorem joinOK_l {a b n : Option Mu} {P : Mu → Prop} (hP : Mono P) (h : joinOK a b = some n) (ha : ∃ μ, a = some μ ∧ P μ) : ∃ μ, n = some μ ∧ P μ := by
  obtain ⟨μ, rfl, hp⟩ := ha
  cases b with
  | none => simp only [joinOK, Option.some.injEq] at h; exact ⟨μ, h.symm, hp⟩
  | some b =>
    simp only [joinOK] at h
    split at h
    · rename_i j hj; cases h; exact ⟨j, rfl, hP _ _ (joinK_spec hj).1 hp⟩
    · cases h

theorem joinOK_r {a b n : Option Mu} {P : Mu → Prop} (hP : Mono P) (h : joinOK a b = some n) (ha : ∃ μ, b = some μ ∧ P μ) : ∃ μ, n = some μ ∧ P μ := by
  obtain ⟨μ, rfl, hp⟩ := ha
  cases a with
  | none => simp only [joinOK, Option.some.injEq] at h; exact ⟨μ, h.symm, hp⟩
  | some b =>
    simp only [joinOK] at h
    split at h
    · rename_i j hj; cases h; exact ⟨j, rfl, hP _ _ (joinK_spec hj).2 hp⟩
    · cases h

theorem mergeK_spec {P : Mu → Prop} (hP : Mono P) (id : Nat) : ∀ (b a r : List (Nat × Mu)), mergeK a b = some r → ((∃ μ, List.lookup id a = some μ ∧ P μ) → ∃ μ, List.lookup id r = some μ ∧ P μ) ∧ ((∃ μ, List.lookup id b = some μ ∧ P μ) → ∃ μ, List.lookup id r = some μ ∧ P μ)
  | [], a, r, h => by
    simp only [mergeK, Option.some.injEq] at h
    subst h
    exact ⟨_root_.id, by rintro ⟨μ, h, _⟩; cases h⟩
  | (k, ν) :: b, a, r, h => by
    simp only [mergeK] at h
    split at h
    · rename_i μ hμ
      split at h
      · rename_i j hj
        obtain ⟨h1, h2⟩ := mergeK_spec hP id b _ r h
        obtain ⟨w1, w2⟩ := joinK_spec hj
        by_cases e : id = k
        · subst e
          refine ⟨?_, ?_⟩
          · rintro ⟨μ', q1, q2⟩
            rw [hμ] at q1; cases q1
            exact h1 ⟨j, by simp [List.lookup_cons], hP _ _ w1 q2⟩
          · rintro ⟨μ', q1, q2⟩
            simp [List.lookup_cons] at q1
            subst q1
            exact h1 ⟨j, by simp [List.lookup_cons], hP _ _ w2 q2⟩
        · have e' : (id == k) = false := by simpa using e
          refine ⟨?_, ?_⟩
          · rintro ⟨μ', q1, q2⟩
            refine h1 ⟨μ', ?_, q2⟩
            rw [List.lookup_cons, e', lookup_filter (fun x => x != k)]
            simp [e, q1]
          · rintro ⟨μ', q1, q2⟩
            rw [List.lookup_cons, e'] at q1
            exact h2 ⟨μ', q1, q2⟩
      · cases h
    · rename_i hμ
      obtain ⟨h1, h2⟩ := mergeK_spec hP id b _ r h
      by_cases e : id = k
      · subst e
        refine ⟨?_, ?_⟩
        · rintro ⟨μ', q1, q2⟩
          rw [hμ] at q1; cases q1
        · rintro ⟨μ', q1, q2⟩
          simp [List.lookup_cons] at q1
          subst q1
          exact h1 ⟨ν, by simp [List.lookup_cons], q2⟩
      · have e' : (id == k) = false := by simpa using e
        refine ⟨?_, ?_⟩
        · rintro ⟨μ', q1, q2⟩
          exact h1 ⟨μ', by rw [List.lookup_cons, e']; exact q1, q2⟩
        · rintro ⟨μ', q1, q2⟩
          rw [List.lookup_cons, e'] at q1
          exact h2 ⟨μ', q1, q2⟩

theorem Outs.join_l {o o' r : Outs} {e : EE} {P : Mu → Prop} (hP : Mono P) (h : o.join o' = some r) (ha : o.Holds e P) : r.Holds e P := by
  unfold Outs.join at h
  split at h
  · rename_i h1 h2 h3
    cases h
    cases e with
    | normal => exact joinOK_l hP h1 ha
    | exit id => exact (mergeK_spec hP id _ _ _ h2).1 ha
    | ret => exact joinOK_l hP h3 ha
  · cases h

theorem Outs.join_r {o o' r : Outs} {e : EE} {P : Mu → Prop} (hP : Mono P) (h : o.join o' = some r) (ha : o'.Holds e P) : r.Holds e P := by
  unfold Outs.join at h
  split at h
  · rename_i h1 h2 h3
    cases h
    cases e with
    | normal => exact joinOK_r hP h1 ha
    | exit id => exact (mergeK_spec hP id _ _ _ h2).2 ha
    | ret => exact joinOK_r hP h3 ha
  · cases h

theorem stands_mono {A : Start} {n : Nat} {φ : Fr} {a : Act} {w : World} : Mono (fun μ => Stands A n φ μ a w) := by
  rintro μ ν hw ⟨C, g, h, h1, h2⟩
  exact ⟨C, g, h.weak hw, h1, h2⟩

section
variable {V : Env} {A : Start} {S : Nat → Option (List PK)} {F : Nat → List X → Option (List X × List X)} {X : Chk}

theorem code_wp (hτ : X.τ = V.τ) (hrg : A.rg = []) (hlo : A.hd.isSome = true → X.cols.lo = true) (hn : X.n ≤ 1000) (hSg : ∀ f sg, X.Sg f = some sg → S f = some (sg.pms.map PM.pk) ∧ Does V f sg (F f)) (k : Nat) : ∀ (c : Code) (μ : Mu) (o : Outs) (φ φ' : Fr) (e : EE) (a : Act) (w : World) (Q : Exit → Act → World → Prop),
    chkC X c μ = some o → evC V.τ S F k c φ = some (e, φ') → Stands A X.n φ μ a w → (∀ a w, o.Holds e (fun μ' => Stands A X.n φ' μ' a w) → Q e.ex a w) → c.wp V.P Q a w := by
  intro c
  induction c with
  | skip =>
    intro μ o φ φ' e a w Q hm hx hst hQ
    simp only [chkC, Option.some.injEq] at hm
    simp only [evC, Option.some.injEq, Prod.mk.injEq] at hx
    obtain ⟨rfl, rfl⟩ := hx
    subst hm
    exact wp_skip (hQ _ _ ⟨μ, rfl, hst⟩)
  | region id ops draw =>
    intro μ o φ φ' e a w Q hm hx hst hQ
    simp only [evC, Option.map_eq_some_iff, Prod.mk.injEq] at hx
    obtain ⟨φ1, hx, rfl, rfl⟩ := hx
    simp only [chkC] at hm
    split at hm
    · rename_i μ' hμ'
      cases hm
      rw [hτ] at hμ'
      cases draw with
      | false => exact wp_region_list (ops_wp hrg hlo hn hSg ops.toList μ μ' φ φ1 a w hst hx hμ' fun a w hst' => hQ a w ⟨μ', rfl, hst'⟩)
      | true => exact drawn_wp hrg hlo hn hSg hst hx hμ' fun a w hst' => hQ a w ⟨μ', rfl, hst'⟩
    · cases hm
  | seq x y ihx ihy =>
    intro μ o φ φ' e a w Q hm hx hst hQ
    simp only [chkC] at hm
    simp only [evC] at hx
    split at hm
    · rename_i o1 ho1
      split at hx
      · rename_i φ1 hx1
        refine wp_seq (ihx μ o1 φ φ1 .normal a w _ ho1 hx1 hst ?_)
        rintro a' w' ⟨μ1, h1, h2⟩
        rw [h1] at hm
        simp only at hm
        split at hm
        · rename_i o2 ho2
          exact ihy μ1 o2 φ1 φ' e a' w' Q ho2 hx h2 fun a w hh => hQ a w (Outs.join_r stands_mono hm hh)
        · cases hm
      · rename_i hne
        have hxe : evC V.τ S F k x φ = some (e, φ') := hx
        refine wp_seq (ihx μ o1 φ φ' e a w _ ho1 hxe hst ?_)
        intro a' w' hh
        have hen : e ≠ .normal := by rintro rfl; exact hne φ' hxe
        have hh' : o.Holds e fun μ' => Stands A X.n φ' μ' a' w' := by
          cases hon : o1.n with
          | none =>
            rw [hon] at hm
            simp only [Option.some.injEq] at hm
            rw [← hm]; exact hh
          | some μ1 =>
            rw [hon] at hm
            simp only at hm
            split at hm
            · rename_i o2 ho2
              refine Outs.join_l stands_mono hm ?_
              cases e with
              | normal => exact (hen rfl).elim
              | exit id => exact hh
              | ret => exact hh
            · cases hm
        have := hQ a' w' hh'
        cases e with
        | normal => exact (hen rfl).elim
        | exit id => exact this
        | ret => exact this
    · cases hm
  | cond c x y ihx ihy =>
    intro μ o φ φ' e a w Q hm hx hst hQ
    simp only [chkC] at hm
    split at hm
    · rename_i hc
      simp only [Bool.and_eq_true] at hc
      split at hm
      · rename_i o1 o2 ho1 ho2
        simp only [evC] at hx
        split at hx
        · rename_i t ht
          obtain ⟨C, g, h, hsz, hdf, hpar⟩ := hst
          have hsm : sm1 c = true := by
            cases c with
            | tmp t =>
              have := hc.1
              simp only [smC, Nat.blt_eq] at this
              simp only [sm1, decide_eq_true_eq]
              exact Nat.lt_of_lt_of_le this hn
            | _ => rfl
          have hv := (val_sound (τ := V.τ) (ty := 0) h hsm hc.2 ht).1
          refine wp_cond hv ?_
          cases t with
          | true => exact ihx μ o1 φ φ' e a w Q ho1 hx ⟨C, g, h, hsz, hdf, hpar⟩ fun a w hh => hQ a w (Outs.join_l stands_mono hm hh)
          | false => exact ihy μ o2 φ φ' e a w Q ho2 hx ⟨C, g, h, hsz, hdf, hpar⟩ fun a w hh => hQ a w (Outs.join_r stands_mono hm hh)
        · cases hx
      · cases hm
    · cases hm
  | block id c ih =>
    intro μ o φ φ' e a w Q hm hx hst hQ
    simp only [chkC] at hm
    split at hm
    · rename_i o1 ho1
      split at hm
      · rename_i nn hnn
        cases hm
        simp only [evC] at hx
        split at hx
        · rename_i id' φ1 hx1
          refine wp_block (ih μ o1 φ φ1 (.exit id') a w _ ho1 hx1 hst ?_)
          rintro a' w' ⟨μ1, h1, h2⟩
          simp only [EE.ex, Exit.inBlock]
          split at hx
          · rename_i e0
            cases hx
            subst e0
            rw [if_pos rfl]
            exact hQ _ _ (joinOK_r stands_mono hnn ⟨μ1, h1, h2⟩)
          · rename_i e0
            cases hx
            rw [if_neg e0]
            refine hQ _ _ ⟨μ1, ?_, h2⟩
            rw [lookup_filter (fun x => x != id)]
            simp [e0, h1]
        · rename_i hne
          have hxe : evC V.τ S F k c φ = some (e, φ') := hx
          refine wp_block (ih μ o1 φ φ' e a w _ ho1 hxe hst ?_)
          intro a' w' hh
          cases e with
          | normal =>
            simp only [EE.ex, Exit.inBlock]
            exact hQ _ _ (joinOK_l stands_mono hnn hh)
          | exit id' => exact (hne _ _ hxe).elim
          | ret => exact hQ _ _ hh
      · cases hm
    · cases hm
  | loop c ih =>
    intro μ o φ φ' e a w Q hm hx hst hQ
    simp only [evC] at hx
    simp only [chkC] at hm
    generalize 6 = q at hm
    induction q generalizing μ with
    | zero => cases hm
    | succ q ihq =>
      simp only [loopK] at hm
      split at hm
      · rename_i o1 ho1
        -- the head holds again
        have main : (∀ μ', o1.n = some μ' → weakS μ' μ = true) → o = { o1 with n := none } → (Code.loop c).wp V.P Q a w := by
          intro hback ho
          have key : ∀ j φ a w, Stands A X.n φ μ a w → iter (evC V.τ S F k c) j φ = some (e, φ') → ∀ (b : Go.Frame) (kk : List Item) (cs : List Go.Frame), ∃ e1 a' w', Q e1 a' w' ∧ Arrives V.P (lone (b.at a (.code c :: .inLoop c :: kk)) cs w) b kk cs e1 a' w' := by
            intro j
            induction j with
            | zero => intro φ a w _ h; cases h
            | succ j ihj =>
              intro φ a w hst hit b kk cs
              simp only [iter] at hit
              split at hit
              · rename_i φ1 hb
                have hbody := ih μ o1 φ φ1 .normal a w (Exit.then (fun a' w' => Stands A X.n φ1 μ a' w') Q) ho1 hb hst (by
                  rintro a' w' ⟨μ', h1, h2⟩
                  exact stands_mono _ _ (hback μ' h1) h2)
                obtain ⟨e1, a₁, w₁, hq, harr⟩ := hbody b (.inLoop c :: kk) cs
                cases e1 with
                | normal =>
                  obtain ⟨e₂, a₂, w₂, hq₂, harr₂⟩ := ihj φ1 a₁ w₁ hq hit b kk cs
                  exact ⟨e₂, a₂, w₂, hq₂, .of_steps (Steps.trans harr (.one step_inLoop)) harr₂⟩
                | exit id => exact ⟨_, a₁, w₁, hq, .pass (x := .inLoop c) rfl (fun _ _ => .inl (by simp)) harr⟩
                | goto l => exact ⟨_, a₁, w₁, hq, .pass (x := .inLoop c) rfl (fun _ _ => .inl (by simp)) harr⟩
                | ret => exact ⟨_, a₁, w₁, hq, .pass (x := .inLoop c) rfl (fun _ _ => .inl (by simp)) harr⟩
                | panic ch => exact ⟨_, a₁, w₁, hq, .pass (x := .inLoop c) rfl (fun _ _ => .inl (by simp)) harr⟩
                | outgrown => exact ⟨_, a₁, w₁, hq, .pass (x := .inLoop c) rfl (fun _ _ => .inl (by simp)) harr⟩
              · rename_i hne
                have hit' : evC V.τ S F k c φ = some (e, φ') := hit
                have hen : e ≠ .normal := by rintro rfl; exact hne φ' hit'
                have hbody := ih μ o1 φ φ' e a w (Exit.then (fun _ _ => False) Q) ho1 hit' hst (by
                  intro a' w' hh
                  have : Q e.ex a' w' := hQ a' w' (by
                    rw [ho]
                    cases e with
                    | normal => exact (hen rfl).elim
                    | exit id => exact hh
                    | ret => exact hh)
                  cases e with
                  | normal => exact (hen rfl).elim
                  | exit id => exact this
                  | ret => exact this)
                obtain ⟨e1, a₁, w₁, hq, harr⟩ := hbody b (.inLoop c :: kk) cs
                cases e1 with
                | normal => exact hq.elim
                | exit id => exact ⟨_, a₁, w₁, hq, .pass (x := .inLoop c) rfl (fun _ _ => .inl (by simp)) harr⟩
                | goto l => exact ⟨_, a₁, w₁, hq, .pass (x := .inLoop c) rfl (fun _ _ => .inl (by simp)) harr⟩
                | ret => exact ⟨_, a₁, w₁, hq, .pass (x := .inLoop c) rfl (fun _ _ => .inl (by simp)) harr⟩
                | panic ch => exact ⟨_, a₁, w₁, hq, .pass (x := .inLoop c) rfl (fun _ _ => .inl (by simp)) harr⟩
                | outgrown => exact ⟨_, a₁, w₁, hq, .pass (x := .inLoop c) rfl (fun _ _ => .inl (by simp)) harr⟩
          intro b kk cs
          obtain ⟨e1, a', w', hq, harr⟩ := key k φ a w hst hx b kk cs
          exact ⟨e1, a', w', hq, .of_steps (.one step_loop) harr⟩
        split at hm
        · rename_i μ' hμ'
          split at hm
          · rename_i hw
            cases hm
            exact main (fun μ2 h2 => by rw [hμ'] at h2; cases h2; exact hw) rfl
          · split at hm
            · rename_i hw2
              exact ihq (joinMu μ μ') (stands_mono _ _ hw2 hst) hm
            · cases hm
        · rename_i hno
          cases hm
          exact main (fun μ2 h2 => by rw [hno] at h2; cases h2) rfl
      · cases hm
  | exit id =>
    intro μ o φ φ' e a w Q hm hx hst hQ
    simp only [chkC, Option.some.injEq] at hm
    simp only [evC, Option.some.injEq, Prod.mk.injEq] at hx
    obtain ⟨rfl, rfl⟩ := hx
    subst hm
    exact wp_exit (hQ _ _ ⟨μ, by simp [List.lookup_cons], hst⟩)
  | ret =>
    intro μ o φ φ' e a w Q hm hx hst hQ
    simp only [chkC, Option.some.injEq] at hm
    simp only [evC, Option.some.injEq, Prod.mk.injEq] at hx
    obtain ⟨rfl, rfl⟩ := hx
    subst hm
    exact wp_ret (hQ _ _ ⟨μ, rfl, hst⟩)
  | _ => intro μ o φ φ' e a w Q hm; cases hm
end
end Go.Ev

/- Results: what a function hands out. -/
namespace Go.Ev

/-- The slot whose blocks a result takes along. -/
def srcS (μ : Mu) : ResultVar → Option Nat
  | .tmp t => match μ.get t with
    | .pt s [0] => some s
    | _ => some t
  | .cell t _ => match μ.get t with
    | .box ms => if ms.length == 1 then none else some t
    | _ => none

def idxS : List (Option Nat) → Nat → Nat → Option Nat
  | [], _, _ => none
  | x :: l, s, k => if x == some s then some k else idxS l s (k + 1)

/-- What is viewed in a result: with arguments, or frozen. -/
def exF (l : List (Option Nat)) : PF := fun ps => if ps.any (fun p => match p with
  | .lab (s :: _) => (idxS l s 0).isSome
  | .lab [] => true
  | .arg _ => false) then none else some (ps.filter fun p => match p with
  | .arg _ => true
  | .lab _ => false)

def exitR (τ : List TE) (μ : Mu) (r : ResultVar) : SM := match r with
  | .tmp t => match μ.get t with
    | .c m _ => .c m .no
    | .agg ms _ => .agg ms .no
    | .box ms => .box ms
    | .pt s [0] => match μ.get s with
      | .box ms => .box ms
      | _ => .u
    | _ => .u
  | .cell t ty => match μ.get t, TE.find τ ty with
    | .box ms, some e => if e.agg && ms.length != 1 && ms.length == e.zero.length && ms.all M.readable then .agg (flatL e.zero ms) .no else (match loadM τ μ ty (.pt t [0]) with
      | some (.c m _) => .c m .no
      | some (.agg ms _) => .agg ms .no
      | _ => .u)
    | _, _ => .u

def exitC (C : Cx) (l : List (Option Nat)) (PA : Nat → Nat → Prop) : Cx where
  own b := match C.own b with
    | some o => match idxS l o.p.s 0 with
      | some k => some ⟨⟨k, o.p.st⟩, o.off, o.cap, o.z⟩
      | none => none
    | none => none
  G b := C.G b ∨ ∃ o, C.own b = some o ∧ idxS l o.p.s 0 = none
  PA := PA

theorem exit_own {w : World} {C : Cx} {l : List (Option Nat)} {PA : Nat → Nat → Prop} (h : OwnOk w C.own) : OwnOk w (exitC C l PA).own := by
  intro b o ho
  simp only [exitC] at ho
  split at ho
  · rename_i o1 ho1
    split at ho
    · cases ho; have := h b o1 ho1; exact this
    · cases ho
  · cases ho

theorem idxS_ge : ∀ (l : List (Option Nat)) (s k r : Nat), idxS l s k = some r → k ≤ r ∧ l[r - k]? = some (some s)
  | [], s, k, r, h => by cases h
  | x :: l, s, k, r, h => by
    simp only [idxS] at h
    split at h
    · rename_i e
      cases h
      simp at e
      simp [e]
    · obtain ⟨h1, h2⟩ := idxS_ge l s (k + 1) r h
      refine ⟨by omega, ?_⟩
      rw [show r - k = (r - (k + 1)) + 1 by omega]
      simpa using h2

theorem idxS_at : ∀ (l : List (Option Nat)) (s k j : Nat), (l.filterMap _root_.id).Nodup → l[j]? = some (some s) → idxS l s k = some (k + j)
  | [], s, k, j, _, h => by simp at h
  | x :: l, s, k, j, hn, h => by
    simp only [idxS]
    cases j with
    | zero => simp only [List.getElem?_cons_zero, Option.some.injEq] at h; subst h; simp
    | succ j =>
      simp only [List.getElem?_cons_succ] at h
      have hn' : (l.filterMap _root_.id).Nodup := by
        cases x with
        | none => simpa using hn
        | some x => simp at hn; exact hn.2
      have hne : x ≠ some s := by
        rintro rfl
        simp only [List.filterMap_cons, _root_.id] at hn
        exact (List.nodup_cons.1 hn).1 (List.mem_filterMap.2 ⟨some s, List.mem_of_getElem? h, rfl⟩)
      rw [if_neg (by simpa using hne), idxS_at l s (k + 1) j hn' h]
      congr 1; omega

def resRun (tmps : Array Value) : ResultVar → Sem Value
  | .tmp t => pure (tmps.getD t Go.undef)
  | .cell a t => do loadVar t (← asAddr (tmps.getD a Go.undef))

theorem results_run {P : Program} {w : World} {tmps : Array Value} {fn : Func} {vs : List Value} (h : (fn.results.toList.mapM (resRun tmps)).run P w = .ok vs w) : (results fn tmps).run P w = .ok (packV vs) w := by
  have e0 : results fn tmps = (do let vs ← fn.results.mapM (resRun tmps); pure (if h : vs.size = 1 then vs[0] else .tuple vs)) := by
    unfold results
    congr
  have e : fn.results.mapM (resRun tmps) = List.toArray <$> fn.results.toList.mapM (resRun tmps) := by
    rw [Array.mapM_eq_mapM_toList]
  rw [e0, Sem.run_bind]
  have e2 : (fn.results.mapM (resRun tmps)).run P w = .ok vs.toArray w := by
    rw [e, Sem.run_map, h]; rfl
  rw [e2]
  simp only [Result.andThen_ok]
  cases vs with
  | nil => rfl
  | cons v vs =>
    cases vs with
    | nil => rfl
    | cons v' vs => simp [packV]

section
variable {V : Env} {A : Start} {w : World} {μ : Mu} {φ : Fr} {C : Cx} {a : Act} {g : Nat → Value} {x : X} {l : List (Option Nat)} {PA : Nat → Nat → Prop}

theorem exF_ok (hPA : ∀ i b, C.PA i b → PA i b) {ps ps' : List Pv} (hf : exF l ps = some ps') {b : Nat} (hb : okB C ps b) : okB (exitC C l PA) ps' b := by
  unfold exF at hf
  split at hf
  · cases hf
  · rename_i hn
    cases hf
    rcases hb with hb | ⟨p, hp, hb⟩
    · exact .inl (.inl hb)
    · cases p with
      | arg i => exact .inr ⟨.arg i, by simp [hp], hPA i b hb⟩
      | lab q =>
        obtain ⟨o, ho, hq⟩ := hb
        refine .inl (.inr ⟨o, ho, ?_⟩)
        cases q with
        | nil => exfalso; apply hn; rw [List.any_eq_true]; exact ⟨.lab [], hp, rfl⟩
        | cons s q =>
          have hs : o.p.s = s := by
            obtain ⟨t, ht⟩ := hq
            unfold Pl.lab at ht
            simp at ht
            exact ht.1.symm
          cases e : idxS l o.p.s 0 with
          | none => rfl
          | some k =>
            exfalso; apply hn
            rw [List.any_eq_true]
            exact ⟨.lab (s :: q), hp, by simp [← hs, e]⟩

theorem exitC_own {b k s off c z : Nat} {q : List (Nat × Nat)} (hi : idxS l s 0 = some k) (h : C.own b = some ⟨⟨s, q⟩, off, c, z⟩) : (exitC C l PA).own b = some ⟨⟨k, q⟩, off, c, z⟩ := by
  simp [exitC, h, hi]

theorem exit_claim (hPA : ∀ i b, C.PA i b → PA i b) {s k : Nat} {v : Value} {sm : SM} {φ : Fr} {tm : Nat → Value} (h : ClaimX w C φ tm s x v sm) (hr : sm.resOk = true) (hs : sm.noOwn = true ∨ idxS l s 0 = some k) :
    ClaimX w (exitC C l PA) (fun _ => .u) (fun _ => undef) k x v (sm.map (exF l)) := by
  refine h.keepG (exF l) ?_ (fun ps ps' hf b hb => ⟨exF_ok hPA hf hb, rfl⟩) (fun i b hb => ⟨hPA i b hb, rfl⟩) (fun b hb => ⟨.inl hb, rfl⟩) ?_
  · rcases hs with hs | hs
    · exact .inl hs
    · exact .inr fun b q off c z hb => ⟨exitC_own hs hb, rfl⟩
  · cases sm with
    | c m og => cases og <;> first | trivial | cases hr
    | agg m og => cases og <;> first | trivial | cases hr
    | box m => trivial
    | _ => cases hr

theorem u_res {k : Nat} {v : Value} : ClaimX w (exitC C l PA) (fun _ => .u) (fun _ => undef) k x v (SM.map (exF l) .u) := trivial

/-- One result. -/
theorem result_one (hPA : ∀ i b, C.PA i b → PA i b) (hn : (l.filterMap _root_.id).Nodup) (h : St A w μ φ (tmO a.tmps g) C) {r : ResultVar} (hsm : (match r with | .tmp t => Nat.blt t 1000 | .cell t _ => Nat.blt t 1000) = true) (hx : resX V.τ φ r = some x) {k : Nat} (hk : l[k]? = some (srcS μ r))
    (hu : (match exitR V.τ μ r with | .u => false | _ => true) = true) :
    ∃ v, (resRun a.tmps r).run V.P w = .ok v w ∧ ClaimX w (exitC C l PA) (fun _ => .u) (fun _ => undef) k x v ((exitR V.τ μ r).map (exF l)) := by
  cases r with
  | tmp t =>
    simp only [Nat.blt_eq] at hsm
    have htm : tmO a.tmps g t = a.tmps.getD t undef := by simp [tmO, hsm]
    refine ⟨a.tmps.getD t undef, rfl, ?_⟩
    have hcl := (h.slot t).resolve_left (by intro e; simp [resX, e] at hx)
    unfold Claim at hcl
    rw [htm] at hcl
    simp only [exitR] at hu ⊢
    simp only [srcS] at hk
    generalize hmt : μ.get t = mt at hcl hk hu
    cases mt with
    | c m og =>
      have hi := idxS_at l t 0 k hn hk
      rw [Nat.zero_add] at hi
      obtain ⟨d, o, e1, e2, _⟩ := hcl
      simp only [resX, e1, Option.some.injEq] at hx
      subst hx
      exact exit_claim (sm := .c m .no) (φ := φ) (tm := tmO a.tmps g) hPA ⟨d, none, rfl, e2, fun _ => rfl⟩ rfl (.inr hi)
    | agg ms og =>
      have hi := idxS_at l t 0 k hn hk
      rw [Nat.zero_add] at hi
      obtain ⟨ds, o, vs, e1, e2, e3, e4, e5, _⟩ := hcl
      simp only [resX, e1, Option.some.injEq] at hx
      subst hx
      exact exit_claim (sm := .agg ms .no) (φ := φ) (tm := tmO a.tmps g) hPA ⟨ds, none, vs, rfl, e2, e3, e4, e5, rfl⟩ rfl (.inr hi)
    | box ms =>
      have hi := idxS_at l t 0 k hn hk
      rw [Nat.zero_add] at hi
      have hcl' := hcl
      obtain ⟨ds, b, off, arr, e1, _⟩ := hcl
      simp only [resX, e1, Option.some.injEq] at hx
      subst hx
      rw [e1] at hcl'
      exact exit_claim (sm := .box ms) (φ := φ) (tm := tmO a.tmps g) hPA hcl' rfl (.inr hi)
    | pt s cs =>
      match cs, hk, hu with
      | [0], hk, hu =>
        have hi := idxS_at l s 0 k hn hk
        rw [Nat.zero_add] at hi
        obtain ⟨p, e1, e2, e3, e4⟩ := hcl
        simp only [resX, e1] at hx
        split at hx
        · rename_i hq; cases hq
        · rename_i hq; cases hq
        · rename_i s' hq
          cases hq
          simp only at e2
          subst e2
          split at hx
          · rename_i ds hds
            cases hx
            simp only at hu ⊢
            have hbox := (h.slot s').resolve_left (by rw [hds]; simp)
            unfold Claim at hbox
            generalize hms : μ.get s' = sm' at hbox hu
            cases sm' with
            | box ms =>
              have hbox' := hbox
              obtain ⟨ds', b, off, arr, q1, q2, q3⟩ := hbox
              obtain ⟨st, i, c, b', off', cap', z', p1, p2, p3⟩ := e4
              have hst : st = [] ∧ i = 0 ∧ c = 0 := by
                cases st with
                | nil => simp at p1; exact ⟨rfl, p1.1.symm, p1.2.symm⟩
                | cons y ys => simp at p1
              obtain ⟨rfl, rfl, rfl⟩ := hst
              have hbb := h.inj b' b _ _ p2 q3.own rfl
              subst hbb
              rw [q3.own] at p2
              simp only [Option.some.injEq, Ow.mk.injEq] at p2
              have hv : a.tmps.getD t undef = tmO a.tmps g s' := by
                rw [p3, q2]; simp [p2.2.1]
              rw [hv]
              rw [hds] at hbox'
              exact exit_claim (sm := .box ms) (φ := φ) (tm := tmO a.tmps g) hPA hbox' rfl (.inr hi)
            | _ => cases hu
          · cases hx
        · rename_i hq; cases hq
        · cases hx
    | _ => cases hu
  | cell t ty =>
    simp only [Nat.blt_eq] at hsm
    have htm : tmO a.tmps g t = a.tmps.getD t undef := by simp [tmO, hsm]
    have hcl := (h.slot t).resolve_left (by intro e; simp [resX, e] at hx)
    unfold Claim at hcl
    rw [htm] at hcl
    simp only [exitR] at hu ⊢
    generalize hmt : μ.get t = mt at hcl hu
    cases mt with
    | box ms =>
      obtain ⟨ds, b, off, arr, e1, e2, e3⟩ := hcl
      simp only [resX, e1] at hx
      split at hx
      · rename_i ds' e hds he
        cases hds
        split at hx
        · rename_i hfit
          simp only [he] at hu ⊢
          have hsize := Env.zero_size (V := V) (t := ty) he
          have hl := fits_len hfit
          have hld : loadX V.τ φ ty ⟨t, [(0, 0)]⟩ = mkX e.agg ds (some ⟨t, [(0, 0)]⟩) := by
            unfold loadX
            rw [he]
            simp only [cellsAt, e1, rowsX, cellsIn, List.getElem?_cons_zero, Nat.zero_add, List.drop_zero]
            rw [if_pos (by omega)]
            simp only
            rw [List.take_of_length_le (by omega), if_pos hfit]
          obtain ⟨x', hx', hxx⟩ : ∃ x', mkX e.agg ds (some ⟨t, [(0, 0)]⟩) = some x' ∧ ((∃ d o, x' = .d d o ∧ x = .d d none) ∨ (∃ xs o, x' = .agg xs o ∧ x = .agg xs none)) := by
            unfold mkX at hx ⊢
            split at hx
            · rename_i ha; rw [if_pos ha]; cases hx; exact ⟨_, rfl, .inr ⟨_, _, rfl, rfl⟩⟩
            · rename_i ha
              rw [if_neg ha]
              split at hx
              · cases hx; exact ⟨_, rfl, .inl ⟨_, _, rfl, rfl⟩⟩
              · rename_i d hne
                cases hx
                cases d with
                | v y => exact (hne y rfl).elim
                | sl z rows => exact ⟨_, rfl, .inl ⟨_, _, rfl, rfl⟩⟩
              · cases hx
          by_cases hcond : (e.agg && ms.length != 1 && ms.length == e.zero.length && ms.all M.readable) = true
          · rw [if_pos hcond] at hu ⊢
            simp only [Bool.and_eq_true, beq_iff_eq, bne_iff_ne, ne_eq] at hcond
            obtain ⟨⟨⟨hag, h1⟩, hml⟩, hread⟩ := hcond
            have hi : idxS l t 0 = some k := by
              have h9 : l[k]? = some (some t) := by
                rw [hk]
                simp only [srcS, hmt]
                rw [if_neg (by simpa using h1)]
              have := idxS_at l t 0 k hn h9
              rwa [Nat.zero_add] at this
            rw [hag] at hx
            simp only [mkX, if_true, Option.some.injEq] at hx
            subst hx
            obtain ⟨tyb, hb⟩ := e3.heap
            have hsz0 := e3.size 0 ds rfl
            have hrun := load_agg (V := V) (w := w) he hag hb (off := off) (by omega)
            refine ⟨_, by simp only [resRun, e2, asAddr, Sem.run_bind, Sem.run_pure, Result.andThen_ok]; exact hrun, ?_⟩
            refine exit_claim (s := t) (φ := φ) (tm := tmO a.tmps g) hPA ?_ rfl (.inr hi)
            refine ⟨ds, none, _, rfl, rfl, ?_, ?_, ?_, rfl⟩
            · simp only [List.size_toArray, List.length_take, List.length_drop, Array.length_toList]; omega
            · rw [flatL_len (by omega)]; omega
            · intro i j row d m g1 g2 g3
              cases i with
              | succ i => simp at g1
              | zero =>
                simp only [List.getElem?_cons_zero, Option.some.injEq] at g1
                subst g1
                obtain ⟨zc, m0, k1, k2, rfl⟩ := flatL_get g3
                have hj := (List.getElem?_eq_some_iff.1 g2).1
                have hr := e3.kids 0 j ds d m0 rfl g2 k2
                have hv : arr.getD (off + 0 * 0 + j) undef = (((arr.toList.drop off).take e.size).toArray).getD j undef := by
                  simp only [Array.getD_eq_getD_getElem?, List.getElem?_toArray, List.getElem?_take, List.getElem?_drop, Array.getElem?_toList]
                  rw [if_pos (by omega)]
                  simp
                simp only at hr
                rw [hv] at hr
                exact flat_rep (fits_at hfit k1 g2) hr (fun h => h) hr
          rw [if_neg hcond] at hu ⊢
          have hpt : PtOk C ⟨t, [(0, 0)]⟩ (a.tmps.getD t undef) := ⟨[], 0, 0, b, off, 0, 0, rfl, e3.own, by rw [e2]; simp⟩
          have fin : ∀ sm, loadM V.τ μ ty (.pt t [0]) = some sm → ∃ u, (resRun a.tmps (.cell t ty)).run V.P w = .ok u w ∧ sm.noOwn = true ∧ ∀ s, ClaimX w C φ (tmO a.tmps g) s x' u sm := by
            intro sm hsm'
            obtain ⟨ad, u, h1, h2, h3, h4⟩ := load_pt h he hpt (by rw [hld]; exact hx') hsm'
            refine ⟨u, ?_, h3, h4⟩
            simp only [resRun, h1, asAddr, Sem.run_bind, Sem.run_pure, Result.andThen_ok, h2]
          generalize hlm : loadM V.τ μ ty (.pt t [0]) = lm at hu fin
          cases lm with
          | none => cases hu
          | some sm =>
            obtain ⟨u, h1, h2, h3⟩ := fin sm rfl
            cases sm with
            | c m og =>
              refine ⟨u, h1, ?_⟩
              obtain ⟨d, o, q1, q2, _⟩ := h3 0
              rcases hxx with ⟨d', o', r1, r2⟩ | ⟨xs, o', r1, r2⟩
              · rw [r1] at q1; cases q1
                exact exit_claim (s := 0) (sm := .c m .no) (φ := φ) (tm := tmO a.tmps g) hPA ⟨_, none, r2, q2, fun _ => rfl⟩ rfl (.inl h2)
              · rw [r1] at q1; cases q1
            | agg ms og =>
              refine ⟨u, h1, ?_⟩
              obtain ⟨ds', o, vs, q1, q2, q3, q4, q5, _⟩ := h3 0
              rcases hxx with ⟨d', o', r1, r2⟩ | ⟨xs, o', r1, r2⟩
              · rw [r1] at q1; cases q1
              · rw [r1] at q1; cases q1
                exact exit_claim (s := 0) (sm := .agg ms .no) (φ := φ) (tm := tmO a.tmps g) hPA ⟨_, none, vs, r2, q2, q3, q4, q5, rfl⟩ rfl (.inl h2)
            | _ => cases hu
        · cases hx
      · cases hx
    | _ => cases hu
end
end Go.Ev

/- A function that is checked does what is evaluated. -/
namespace Go.Ev

def nonU : SM → Bool
  | .u => false
  | _ => true

def okRes (τ : List TE) (μ : Mu) (l : List (Option Nat)) : List ResultVar → List SM → Bool
  | [], [] => true
  | r :: rs, sm :: sms => (match r with | .tmp t => Nat.blt t 1000 | .cell t _ => Nat.blt t 1000) && (match exitR τ μ r with | .u => false | _ => true) && leSX ((exitR τ μ r).map (exF l)) sm && okRes τ μ l rs sms
  | _, _ => false

def outB (τ : List TE) (rs : List ResultVar) (res : List SM) (μ : Mu) : Bool := nodupB ((rs.map (srcS μ)).filterMap _root_.id) && okRes τ μ (rs.map (srcS μ)) rs res

def allO (p : Mu → Bool) : Option Mu → Bool
  | none => true
  | some μ => p μ

/-- The check of a function. -/
def chkF (X : Chk) (fn : Func) (c : Code) (sg : Sig) : Bool :=
  sg.pms.all quietB && sg.tys.length == sg.pms.length && Nat.ble sg.pms.length X.n && fn.ntmps == X.n && Nat.ble X.n 1000 &&
  (match chkC X c (entry X.τ sg.pms sg.tys) with
  | some o => allO (outB X.τ fn.results.toList sg.res) o.n && allO (outB X.τ fn.results.toList sg.res) o.r
  | none => false)

def outM (m : M) (rs : List ResultVar) (μ : Mu) : Bool := (match μ.get 0 with
  | .c m' _ => leS (m'.map (exF [some 0])) m
  | _ => false) && (match rs with
  | [.tmp t] => Nat.blt t 1000 && (match μ.get t with
    | .c mr _ => mr.noOwn && leS (mr.map (exF [some 0])) (.view [])
    | _ => false)
  | _ => false)

/-- The check of a function that writes what lies behind its first argument. -/
def chkFM (X : Chk) (fn : Func) (c : Code) (sg : Sig) : Bool := match mutOk sg with
  | some m => sg.tys.length == sg.pms.length && Nat.ble sg.pms.length X.n && fn.ntmps == X.n && Nat.ble X.n 1000 && X.cols.lo &&
    (match chkC X c (entry X.τ sg.pms sg.tys) with
    | some o => allO (outM m fn.results.toList) o.n && allO (outM m fn.results.toList) o.r
    | none => false)
  | none => false

section
variable {V : Env} {A : Start} {w : World} {μ : Mu} {φ : Fr} {C : Cx} {a : Act} {g : Nat → Value}

theorem results_all {l : List (Option Nat)} {PA : Nat → Nat → Prop} (hPA : ∀ i b, C.PA i b → PA i b) (hn : (l.filterMap _root_.id).Nodup) (h : St A w μ φ (tmO a.tmps g) C) : ∀ (rs : List ResultVar) (sms : List SM) (xs : List X) (k : Nat), resesX V.τ φ rs = some xs → okRes V.τ μ l rs sms = true →
    (∀ j r, rs[j]? = some r → l[k + j]? = some (srcS μ r)) → ∃ vs, (rs.mapM (resRun a.tmps)).run V.P w = .ok vs w ∧ vs.length = xs.length ∧ sms.length = xs.length ∧
      ∀ (j : Nat) (x : X) (v : Value) (sm : SM), xs[j]? = some x → vs[j]? = some v → sms[j]? = some sm → ClaimX w (exitC C l PA) (fun _ => .u) (fun _ => undef) (k + j) x v sm
  | [], [], xs, k, hx, _, _ => by
    simp only [resesX, Option.some.injEq] at hx
    subst hx
    exact ⟨[], by simp, rfl, rfl, by simp⟩
  | [], _ :: _, _, _, _, h, _ => by cases h
  | _ :: _, [], _, _, _, h, _ => by cases h
  | r :: rs, sm :: sms, xs, k, hx, hok, hl => by
    simp only [resesX] at hx
    split at hx
    · rename_i x xs' hx1 hx2
      cases hx
      simp only [okRes, Bool.and_eq_true] at hok
      obtain ⟨⟨⟨h1, h2⟩, h3⟩, h4⟩ := hok
      obtain ⟨v, hv1, hv2⟩ := result_one (x := x) hPA hn h h1 hx1 (k := k) (hl 0 r rfl) h2
      obtain ⟨vs, p1, p2, p3, p4⟩ := results_all hPA hn h rs sms xs' (k + 1) hx2 h4 (fun j r' hr => by
        have := hl (j + 1) r' hr
        rw [show k + 1 + j = k + (j + 1) by omega]; exact this)
      refine ⟨v :: vs, ?_, by simp [p2], by simp [p3], ?_⟩
      · rw [List.mapM_cons, Sem.run_bind, hv1, Result.andThen_ok, Sem.run_bind, p1]; rfl
      · intro j x' v' sm' q1 q2 q3
        cases j with
        | zero =>
          simp only [List.getElem?_cons_zero, Option.some.injEq] at q1 q2 q3
          subst q1; subst q2; subst q3
          exact hv2.weak h3
        | succ j =>
          simp only [List.getElem?_cons_succ] at q1 q2 q3
          have := p4 j x' v' sm' q1 q2 q3
          rw [show k + (j + 1) = k + 1 + j by omega]; exact this
    · cases hx

theorem entry_get (τ : List TE) : ∀ (pms : List PM) (tys : List Nat) (k s : Nat), Mu.get (((pms.zip tys).zipIdx k).map fun p => (p.2, entryM τ p.2 p.1.1 p.1.2)) s = if k ≤ s then (match pms[s - k]?, tys[s - k]? with
    | some pm, some ty => entryM τ s pm ty
    | _, _ => .u) else .u
  | [], tys, k, s => by simp [Mu.get]
  | pm :: pms, [], k, s => by
    simp only [List.zip_nil_right, List.zipIdx_nil, List.map_nil, Mu.get, List.lookup_nil, List.getElem?_nil]
    split
    · cases (pm :: pms)[s - k]? <;> rfl
    · rfl
  | pm :: pms, ty :: tys, k, s => by
    have ih := entry_get τ pms tys (k + 1) s
    simp only [List.zip_cons_cons, List.zipIdx_cons, List.map_cons]
    unfold Mu.get at ih ⊢
    rw [List.lookup_cons]
    by_cases e : s = k
    · subst e; simp
    · have e' : (s == k) = false := by simpa using e
      rw [e']
      simp only
      rw [ih]
      by_cases hlt : k ≤ s
      · rw [if_pos hlt, if_pos (by omega)]
        rw [show s - k = (s - (k + 1)) + 1 by omega]
        simp
      · rw [if_neg hlt, if_neg (by omega)]

/-- An argument, as the function sees it. -/
theorem entry_claim {G : Nat → Prop} {PA : Nat → Nat → Prop} {pm : PM} {ty i : Nat} {x : X} {v : Value} {φ : Fr} {tm : Nat → Value} {N : Nat → Option Ow} (hq : quietB pm = true) (h : ArgOk V w (pm.okOf G (PA i)) ty x v) :
    ClaimX w ⟨N, G, PA⟩ φ tm i x v (entryM V.τ i pm ty) := by
  obtain ⟨e, he, hc⟩ := h
  have he' : TE.find V.τ ty = some e := he
  have hz := Env.zero_size he
  have flat : ∀ (zc : ZC) (d : D) (u : Value) (p : Pl) (m : M), zc.fit d = true → Rd w (pm.okOf G (PA i)) d u → Rep w ⟨N, G, PA⟩ p (.view m.prov.toList.flatten) d u → Rep w ⟨N, G, PA⟩ p (flatM zc (.view m.prov.toList.flatten)) d u := by
    intro zc d u p m hf hr hrep
    unfold flatM
    simp only
    split
    · rename_i hfl
      obtain ⟨y, rfl, hy⟩ := fit_flat hf hfl
      cases hr with
      | v h => exact .view (.v h)
    · exact hrep
  have rdv : ∀ (d : D) (u : Value) (p : Pl), pm = .rd → Rd w (pm.okOf G (PA i)) d u → Rep w ⟨N, G, PA⟩ p (.view [.arg i]) d u := by
    rintro d u p rfl hr
    refine .view (hr.mono fun b hb => ⟨?_, rfl⟩)
    rcases hb with hb | hb
    · exact .inl hb
    · exact .inr ⟨.arg i, by simp, hb⟩
  have fz : ∀ (d : D) (u : Value) (p : Pl), pm = .frz → Rd w (pm.okOf G (PA i)) d u → Rep w ⟨N, G, PA⟩ p (.view []) d u := by
    rintro d u p rfl hr
    exact .view (hr.mono fun b hb => ⟨.inl hb, rfl⟩)
  cases pm with
  | rd =>
    rcases hc with ⟨ha, d, rfl, hf, hr⟩ | ⟨ha, ds, vs, rfl, rfl, hsz, hf, hr⟩
    · have hl := fits_len hf
      obtain ⟨zc, hzc⟩ : ∃ zc, e.zero = [zc] := by
        match hq : e.zero, hl with
        | [zc], _ => exact ⟨zc, rfl⟩
      simp only [entryM, he', ha, Bool.false_eq_true, if_false, hzc]
      refine ⟨d, none, rfl, ?_, fun _ => rfl⟩
      exact flat zc d v _ (.view [.arg i]) (fits_at hf (j := 0) (by rw [hzc]; rfl) rfl) hr (rdv d v _ rfl hr)
    · simp only [entryM, he', ha, if_true]
      have hl := fits_len hf
      refine ⟨ds, none, vs, rfl, rfl, hsz, by rw [List.length_map]; exact hl, ?_, rfl⟩
      intro r j row d m q1 q2 q3
      cases r with
      | zero =>
        simp only [List.getElem?_cons_zero, Option.some.injEq] at q1
        subst q1
        rw [List.getElem?_map, Option.map_eq_some_iff] at q3
        obtain ⟨zc, hzc, rfl⟩ := q3
        exact flat zc d _ _ (.view [.arg i]) (fits_at hf hzc q2) (hr j d q2) (rdv d _ _ rfl (hr j d q2))
      | succ r => simp at q1
  | frz =>
    rcases hc with ⟨ha, d, rfl, hf, hr⟩ | ⟨ha, ds, vs, rfl, rfl, hsz, hf, hr⟩
    · simp only [entryM, he', ha, Bool.false_eq_true, if_false]
      exact ⟨d, none, rfl, fz d v _ rfl hr, fun _ => rfl⟩
    · simp only [entryM, he', ha, if_true]
      have hl := fits_len hf
      refine ⟨ds, none, vs, rfl, rfl, hsz, by rw [List.length_map]; exact hl, ?_, rfl⟩
      intro r j row d m q1 q2 q3
      cases r with
      | zero =>
        simp only [List.getElem?_cons_zero, Option.some.injEq] at q1
        subst q1
        rw [List.getElem?_map, Option.map_eq_some_iff] at q3
        obtain ⟨zc, hzc, rfl⟩ := q3
        exact fz d _ _ rfl (hr j d q2)
      | succ r => simp at q1
  | _ => cases hq
end

theorem does_mut {V : Env} {E : Prog} {Sg : Nat → Option Sig} (hτ : E.τ = V.τ) {k f : Nat} {sg : Sig} {fn : Func} {c : Code} {cols : Pol} (hpk : E.pks f = some (sg.pms.map PM.pk)) (h1 : V.P.funcs[f]? = some fn) (h2 : fn.body = some c)
    (hp : E.prims f = none) (hfn : E.funcs f = some fn) (hchk : chkFM ⟨V.τ, Sg, fn.ntmps, cols⟩ fn c sg = true) (ih : ∀ f sg, Sg f = some sg → E.pks f = some (sg.pms.map PM.pk) ∧ Does V f sg (evF E k f)) {m : M} (hm : mutOk sg = some m) :
    DoesM V f sg m (evF E (k + 1) f) := by
  intro w N0 G PA vals xs hvl hxl hG hPA hN hNi hNk hargs d0 v0 hx0 hv0 hrep0 rs outs hF
  obtain ⟨ps, cols0, hpms, hres0, hqu, hprov, hmo⟩ := mutOk_spec hm
  simp only [evF, hp, hfn, hpk, h2] at hF
  rw [if_pos (by rw [List.length_map]; exact hxl)] at hF
  unfold chkFM at hchk
  rw [hm] at hchk
  simp only [Bool.and_eq_true, beq_iff_eq, Nat.ble_eq] at hchk
  obtain ⟨⟨⟨⟨⟨c2, c3⟩, _⟩, c5⟩, clo⟩, c6⟩ := hchk
  split at c6
  · rename_i o ho
    simp only [Bool.and_eq_true] at c6
    obtain ⟨hon, hor⟩ := c6
    rw [hτ] at hF
    have hends : ∃ e φ', evC V.τ E.pks (evF E k) k c (args0 xs) = some (e, φ') ∧ (e = .normal ∨ e = .ret) ∧ resesX V.τ φ' fn.results.toList = some rs ∧ outsX φ' 0 (sg.pms.map PM.pk) = some outs := by
      split at hF
      · cases hF
      · rename_i e φ' hne heq
        split at hF
        · rename_i rs' os' q1 q2
          cases hF
          refine ⟨e, φ', heq, ?_, q1, q2⟩
          cases e with
          | normal => exact .inl rfl
          | ret => exact .inr rfl
          | exit id => exact (hne id rfl).elim
        · cases hF
      · cases hF
    obtain ⟨e, φ', hev, hee, hres, houts⟩ := hends
    refine calls_of_wp h1 h2 ?_
    let A : Start := { w := w, own0 := fun b => N0 b ≠ none, G := G, PA := PA, rg := [], hd := some v0 }
    let C0 : Cx := ⟨N0, G, PA⟩
    have hsz : (vals.toArray ++ Array.replicate (fn.ntmps - vals.toArray.size) undef).size = fn.ntmps := by
      simp
      have := c3
      omega
    have hval : ∀ i u, vals[i]? = some u → (vals.toArray ++ Array.replicate (fn.ntmps - vals.toArray.size) undef).getD i undef = u := by
      intro i u hu
      obtain ⟨hlt, e⟩ := List.getElem?_eq_some_iff.1 hu
      simp only [Array.getD]
      rw [dif_pos (by simp; omega)]
      show (vals.toArray ++ Array.replicate (fn.ntmps - vals.toArray.size) undef)[i]'(by simp; omega) = u
      rw [Array.getElem_append_left (by simpa using hlt)]
      simpa using e
    have hst : St A w (entry V.τ sg.pms sg.tys) (args0 xs) (tmO (vals.toArray ++ Array.replicate (fn.ntmps - vals.toArray.size) undef) fun _ => undef) C0 := by
      refine ⟨?_, hNi, ?_, fun b hb => ⟨hG b hb, .inl hb⟩, ?_, ?_, fun _ _ _ => rfl, Nat.le_refl _, .refl _, by simp [A], hNk⟩
      · intro s
        cases hx : xs[s]? with
        | none => left; simp [args0, List.getD_eq_getElem?_getD, hx]
        | some x =>
          right
          have hs : s < xs.length := (List.getElem?_eq_some_iff.1 hx).1
          have hv : vals[s]? = some vals[s] := List.getElem?_eq_getElem (by omega)
          have hpm : sg.pms[s]? = some sg.pms[s] := List.getElem?_eq_getElem (by omega)
          have hty : sg.tys[s]? = some sg.tys[s] := List.getElem?_eq_getElem (by omega)
          unfold Claim
          have e1 : args0 xs s = x := by simp [args0, List.getD_eq_getElem?_getD, hx]
          have e2 : tmO (vals.toArray ++ Array.replicate (fn.ntmps - vals.toArray.size) undef) (fun _ => undef) s = vals[s] := by
            have hn : fn.ntmps ≤ 1000 := c5
            have hc3 : sg.pms.length ≤ fn.ntmps := c3
            unfold tmO
            rw [if_pos (by omega)]
            exact hval s _ hv
          have e3 : (entry V.τ sg.pms sg.tys).get s = entryM V.τ s sg.pms[s] sg.tys[s] := by
            unfold entry
            rw [entry_get V.τ sg.pms sg.tys 0 s]
            simp [hpm, hty]
          rw [e1, e2, e3]
          cases s with
          | zero =>
            rw [hx0] at hx
            cases hx
            have hp0 : sg.pms[0]'(by omega) = .mut m := by
              have : sg.pms[0]? = some (.mut m) := by rw [hpms]; rfl
              rw [hpm] at this
              exact Option.some.inj this
            have hv00 : vals[0]'(by omega) = v0 := by
              rw [hv] at hv0
              exact Option.some.inj hv0
            rw [hp0, hv00]
            exact ⟨d0, none, rfl, hrep0, fun _ => rfl⟩
          | succ i =>
            have harg := hargs i x _ _ _ hx hv hpm hty
            refine entry_claim ?_ harg
            have : sg.pms[i + 1]? = ps[i]? := by rw [hpms]; rfl
            rw [hpm] at this
            rw [List.all_eq_true] at hqu
            exact hqu _ (List.mem_of_getElem? this.symm)
      · intro b o hb
        obtain ⟨g1, g2, g3, _⟩ := hN b o hb
        exact ⟨g1, g2, g3, .inl (by show N0 b ≠ none; rw [show N0 b = some o from hb]; simp)⟩
      · intro b hb
        refine ⟨hb, hG b hb, ?_⟩
        intro hn
        cases hq : N0 b with
        | none => exact hn hq
        | some o => exact (hN b o hq).2.1 hb
      · intro i b hb
        refine ⟨hPA i b hb, ?_, hb⟩
        intro hn
        cases hq : N0 b with
        | none => exact hn hq
        | some o => exact (hN b o hq).2.2.1 i hb
    have hpar0 : Par A ⟨vals.toArray ++ Array.replicate (fn.ntmps - vals.toArray.size) undef, []⟩ := by
      intro u hu
      simp only [A, Option.some.injEq] at hu
      subst hu
      exact hval 0 _ hv0
    have hfinal : ∀ a w', o.Holds e (fun μ' => Stands A fn.ntmps φ' μ' a w') → bodyPost V.P fn (fun e w' => ∃ r vr d' C', rs = [r] ∧ outs.head? = some (.d d' none) ∧ e = .returned (packV [vr]) ∧ DoneM w w' N0 G PA m v0 d' r vr C') e.ex a w' := by
      intro a w' hh
      have hout : ∃ μ', outM m fn.results.toList μ' = true ∧ Stands A fn.ntmps φ' μ' a w' := by
        rcases hee with rfl | rfl
        · obtain ⟨μ', q1, q2⟩ := hh
          rw [q1] at hon
          exact ⟨μ', hon, q2⟩
        · obtain ⟨μ', q1, q2⟩ := hh
          rw [q1] at hor
          exact ⟨μ', hor, q2⟩
      obtain ⟨μ', hout, C, g, h, hsz', hdf, hpar⟩ := hout
      unfold outM at hout
      rw [Bool.and_eq_true] at hout
      obtain ⟨ho1, ho2⟩ := hout
      have hv : a.tmps.getD 0 undef = v0 := hpar v0 rfl
      have hCPA : ∀ i b, C.PA i b → PA i b := fun i b hb => (h.pa i b hb).2.2
      have hidx : ∀ s k, idxS [some 0] s 0 = some k → s = 0 := by
        intro s k hk
        simp only [idxS] at hk
        split at hk
        · rename_i e; simp at e; exact e.symm
        · cases hk
      -- what is owned behind the first argument
      rw [hpms] at houts
      simp only [List.map_cons, PM.pk, outsX, outX] at houts
      split at houts
      · rename_i x0 os0 q1 q2
        cases houts
        split at q1
        · rename_i dd oo hphi
          cases q1
          split at ho1
          · rename_i m1 og1 hmu
            have hcl := (h.slot 0).resolve_left (by rw [hphi]; simp)
            unfold Claim at hcl
            rw [hmu, hphi] at hcl
            obtain ⟨d1, o1, e1, e2, _⟩ := hcl
            cases e1
            have htm0 : tmO a.tmps g 0 = v0 := by
              unfold tmO
              rw [if_pos (by omega)]
              exact hv
            rw [htm0] at e2
            have hrepo : Rep w' (exitC C [some 0] PA) ⟨0, []⟩ m dd v0 := by
              refine (e2.move ⟨0, []⟩ (exF [some 0]) ?_ (fun ps ps' hf b hb => ⟨exF_ok hCPA hf hb, rfl⟩)).leS ho1
              intro b q off c z hb
              have h5 := exitC_own (C := C) (l := [some 0]) (PA := PA) (k := 0) (s := 0) (q := q) (by simp [idxS]) (by simpa [Pl.ext] using hb)
              exact ⟨by simpa [Pl.ext] using h5, rfl⟩
            split at ho2
            · rename_i t hrl
              rw [Bool.and_eq_true] at ho2
              obtain ⟨ht, ho2⟩ := ho2
              split at ho2
              · rename_i mr ogr hmr
                rw [Bool.and_eq_true] at ho2
                rw [hrl] at hres
                simp only [resesX] at hres
                split at hres
                · rename_i r rs' hr hrs'
                  cases hrs'
                  cases hres
                  have htu : φ' t ≠ .u := by intro e; simp [resX, e] at hr
                  have hcl2 := (h.slot t).resolve_left htu
                  unfold Claim at hcl2
                  rw [hmr] at hcl2
                  obtain ⟨d2, o2, f1, f2, _⟩ := hcl2
                  rw [resX, f1] at hr
                  simp only [Option.some.injEq] at hr
                  subst hr
                  have htmt : tmO a.tmps g t = a.tmps.getD t undef := by
                    have : t < 1000 := by simpa [Nat.blt_eq] using ht
                    simp [tmO, this]
                  rw [htmt] at f2
                  have hresc : ClaimX w' (exitC C [some 0] PA) (fun _ => .u) (fun _ => undef) 1 (.d d2 none) (a.tmps.getD t undef) (.c (.view []) .no) := by
                    refine ⟨d2, none, rfl, ?_, fun _ => rfl⟩
                    exact ((f2.moveV (w' := w') (C' := exitC C [some 0] PA) (p' := ⟨1, []⟩) ho2.1 (exF [some 0]) (fun ps ps' hf b hb => ⟨exF_ok hCPA hf hb, rfl⟩)).leS ho2.2)
                  have hrun := results_run (P := V.P) (w := w') (tmps := a.tmps) (fn := fn) (vs := [a.tmps.getD t undef]) (by rw [hrl]; rfl)
                  have hdone : DoneM w w' N0 G PA m v0 dd (.d d2 none) (a.tmps.getD t undef) (exitC C [some 0] PA) := by
                    refine ⟨h.size, fun b hb hn => h.old b hb (fun hq => hq hn), h.calm, ?_, ?_, ?_, fun b hb => .inl (h.ag b hb).1, exit_own h.oko, hresc, hrepo⟩
                    · intro b o' ho'
                      simp only [exitC] at ho'
                      split at ho'
                      · rename_i o1 ho1'
                        split at ho'
                        · rename_i kk hkk
                          cases ho'
                          obtain ⟨p1, p2, p3, p4⟩ := h.own b o1 ho1'
                          obtain ⟨_, hat⟩ := idxS_ge _ _ _ _ hkk
                          refine ⟨p4, p1, ?_, ?_⟩
                          · rintro (hg | ⟨o2, ho2', hi2⟩)
                            · exact p2 hg
                            · rw [ho1'] at ho2'; cases ho2'; rw [hkk] at hi2; cases hi2
                          · have := (List.getElem?_eq_some_iff.1 hat).1
                            simp only [List.length_cons, List.length_nil] at this
                            simp only
                            omega
                        · cases ho'
                      · cases ho'
                    · intro b b' o1 o2 q1 q2 e
                      simp only [exitC] at q1 q2
                      split at q1
                      · rename_i p1 hp1
                        split at q1
                        · rename_i k1 hk1
                          cases q1
                          split at q2
                          · rename_i p2 hp2
                            split at q2
                            · rename_i k2 hk2
                              cases q2
                              simp only [Pl.mk.injEq] at e
                              refine h.inj b b' p1 p2 hp1 hp2 ?_
                              have s1 := hidx _ _ hk1
                              have s2 := hidx _ _ hk2
                              cases hq1 : p1.p; cases hq2 : p2.p
                              rw [hq1] at s1 e; rw [hq2] at s2 e
                              simp only at s1 s2 e
                              rw [s1, s2, e.2]
                            · cases q2
                          · cases q2
                        · cases q1
                      · cases q1
                    · rintro b (hg | ⟨o1, ho1', _⟩)
                      · obtain ⟨p1, p2⟩ := h.frz b hg
                        rcases p2 with p2 | p2 | p2
                        · exact .inl p2
                        · exact .inr ⟨.inl p2, p1⟩
                        · exact .inr ⟨.inr p2, p1⟩
                      · obtain ⟨p1, p2, p3, p4⟩ := h.own b o1 ho1'
                        exact .inr ⟨p4, p1⟩
                  have hp : ∃ v, (results fn a.tmps).run V.P w' = .ok v w' ∧ ∃ r vr d' C', [X.d d2 none] = [r] ∧ (X.d dd none :: os0).head? = some (.d d' none) ∧ (Ending.returned v) = .returned (packV [vr]) ∧ DoneM w w' N0 G PA m v0 d' r vr C' :=
                    ⟨_, hrun, _, _, _, _, rfl, rfl, rfl, hdone⟩
                  rcases hee with rfl | rfl
                  · exact ⟨hdf, hp⟩
                  · exact ⟨hdf, hp⟩
                · cases hres
              · cases ho2
            · cases ho2
          · cases ho1
        · cases q1
      · cases houts
    exact code_wp (X := ⟨V.τ, Sg, fn.ntmps, cols⟩) (A := A) (S := E.pks) (F := evF E k) rfl rfl (fun _ => clo) c5 (fun f' sg' hf' => ih f' sg' hf') k c (entry V.τ sg.pms sg.tys) o (args0 xs) φ' e _ w _ ho hev ⟨C0, _, hst, hsz, rfl, hpar0⟩ hfinal
  · cases c6

/-- How a function is known: gone through, or by what it answers. -/
structure Known (V : Env) (E : Prog) (Sg : Nat → Option Sig) (f : Nat) (sg : Sig) : Prop where
  pk : E.pks f = some (sg.pms.map PM.pk)
  body : ∃ fn c, V.P.funcs[f]? = some fn ∧ fn.body = some c ∧ fn.name ≠ "runtime.NumGoroutine" ∧
    ((∃ p, E.prims f = some p ∧ Does V f sg p) ∨ (E.prims f = none ∧ E.funcs f = some fn ∧ ∃ cols, chkF ⟨V.τ, Sg, fn.ntmps, cols⟩ fn c sg = true ∨ chkFM ⟨V.τ, Sg, fn.ntmps, cols⟩ fn c sg = true))

theorem does_all {V : Env} {E : Prog} {Sg : Nat → Option Sig} (hτ : E.τ = V.τ) (hK : ∀ f sg, Sg f = some sg → Known V E Sg f sg) : ∀ (k f : Nat) (sg : Sig), Sg f = some sg → Does V f sg (evF E k f) := by
  intro k
  induction k with
  | zero =>
    intro f sg hf
    obtain ⟨_, fn, c, h1, h2, h3, _⟩ := hK f sg hf
    exact ⟨⟨fn, c, h1, h2, h3⟩, fun _ w G PA vals xs _ _ _ _ _ rs outs h => by (cases h), fun m _ w N0 G PA vals xs _ _ _ _ _ _ _ _ d v _ _ _ rs outs h => by (cases h)⟩
  | succ k ih =>
    intro f sg hf
    obtain ⟨hpk, fn, c, h1, h2, h3, h4⟩ := hK f sg hf
    rcases h4 with ⟨p, hp, hd⟩ | ⟨hp, hfn, cols, hchk⟩
    · have : evF E (k + 1) f = p := by funext as; simp [evF, hp]
      rw [this]; exact hd
    · rcases hchk with hchk | hchk
      rotate_left
      · refine ⟨⟨fn, c, h1, h2, h3⟩, fun hall => ?_, fun m hm => does_mut hτ hpk h1 h2 hp hfn hchk (fun f' sg' hf' => ⟨(hK f' sg' hf').pk, ih f' sg' hf'⟩) hm⟩
        exfalso
        unfold chkFM at hchk
        split at hchk
        · rename_i m hm
          obtain ⟨ps, _, hpms, _⟩ := mutOk_spec hm
          rw [hpms] at hall
          simp [quietB] at hall
        · cases hchk
      refine ⟨⟨fn, c, h1, h2, h3⟩, fun _ => ?_, fun m hm => ?_⟩
      rotate_left
      · exfalso
        obtain ⟨ps, _, hpms, _⟩ := mutOk_spec hm
        unfold chkF at hchk
        rw [hpms] at hchk
        simp [quietB] at hchk
      intro w G PA vals xs hvl hxl hG hPA hargs rs outs hF
      simp only [evF, hp, hfn, hpk, h2] at hF
      rw [if_pos (by rw [List.length_map]; exact hxl)] at hF
      unfold chkF at hchk
      simp only [Bool.and_eq_true, beq_iff_eq, Nat.ble_eq, List.all_eq_true] at hchk
      obtain ⟨⟨⟨⟨⟨c1, c2⟩, c3⟩, _⟩, c5⟩, c6⟩ := hchk
      split at c6
      · rename_i o ho
        simp only [Bool.and_eq_true] at c6
        obtain ⟨hon, hor⟩ := c6
        rw [hτ] at hF
        -- how it ends
        have hends : ∃ e φ', evC V.τ E.pks (evF E k) k c (args0 xs) = some (e, φ') ∧ (e = .normal ∨ e = .ret) ∧ resesX V.τ φ' fn.results.toList = some rs := by
          split at hF
          · cases hF
          · rename_i e φ' hne heq
            split at hF
            · rename_i rs' os' q1 q2
              cases hF
              refine ⟨e, φ', heq, ?_, q1⟩
              cases e with
              | normal => exact .inl rfl
              | ret => exact .inr rfl
              | exit id => exact (hne id rfl).elim
            · cases hF
          · cases hF
        obtain ⟨e, φ', hev, hee, hres⟩ := hends
        refine calls_of_wp h1 h2 ?_
        let A : Start := ⟨w, fun _ => False, G, PA, [], none⟩
        let C0 : Cx := ⟨fun _ => none, G, PA⟩
        have hsz : (vals.toArray ++ Array.replicate (fn.ntmps - vals.toArray.size) undef).size = fn.ntmps := by
          simp
          have := c3
          omega
        have hval : ∀ i u, vals[i]? = some u → (vals.toArray ++ Array.replicate (fn.ntmps - vals.toArray.size) undef).getD i undef = u := by
          intro i u hu
          obtain ⟨hlt, e⟩ := List.getElem?_eq_some_iff.1 hu
          simp only [Array.getD]
          rw [dif_pos (by simp; omega)]
          show (vals.toArray ++ Array.replicate (fn.ntmps - vals.toArray.size) undef)[i]'(by simp; omega) = u
          rw [Array.getElem_append_left (by simpa using hlt)]
          simpa using e
        have hst : St A w (entry V.τ sg.pms sg.tys) (args0 xs) (tmO (vals.toArray ++ Array.replicate (fn.ntmps - vals.toArray.size) undef) fun _ => undef) C0 := by
          refine ⟨?_, (by intro b b' o o' h; cases h), (by intro b o h; cases h), fun b hb => ⟨hG b hb, .inl hb⟩, fun b hb => ⟨hb, hG b hb, fun h => h⟩, fun i b hb => ⟨hPA i b hb, fun h => h, hb⟩, fun _ _ _ => rfl, Nat.le_refl _, .refl _, by simp [A], .none⟩
          intro s
          cases hx : xs[s]? with
          | none => left; simp [args0, List.getD_eq_getElem?_getD, hx]
          | some x =>
            right
            have hs : s < xs.length := (List.getElem?_eq_some_iff.1 hx).1
            have hv : vals[s]? = some vals[s] := List.getElem?_eq_getElem (by omega)
            have hpm : sg.pms[s]? = some sg.pms[s] := List.getElem?_eq_getElem (by omega)
            have hty : sg.tys[s]? = some sg.tys[s] := List.getElem?_eq_getElem (by omega)
            have harg := hargs s x _ _ _ hx hv hpm hty
            unfold Claim
            have e1 : args0 xs s = x := by simp [args0, List.getD_eq_getElem?_getD, hx]
            have e2 : tmO (vals.toArray ++ Array.replicate (fn.ntmps - vals.toArray.size) undef) (fun _ => undef) s = vals[s] := by
              have hn : fn.ntmps ≤ 1000 := c5
              have hc3 : sg.pms.length ≤ fn.ntmps := c3
              unfold tmO
              rw [if_pos (by omega)]
              exact hval s _ hv
            have e3 : (entry V.τ sg.pms sg.tys).get s = entryM V.τ s sg.pms[s] sg.tys[s] := by
              unfold entry
              rw [entry_get V.τ sg.pms sg.tys 0 s]
              simp [hpm, hty]
            rw [e1, e2, e3]
            exact entry_claim (c1 _ (List.mem_of_getElem? hpm)) harg
        have hfinal : ∀ a w', o.Holds e (fun μ' => Stands A fn.ntmps φ' μ' a w') → bodyPost V.P fn (fun e w' => ∃ vs C', e = .returned (packV vs) ∧ Done w w' G PA sg rs vs C') e.ex a w' := by
          intro a w' hh
          have hout : ∃ μ', outB V.τ fn.results.toList sg.res μ' = true ∧ Stands A fn.ntmps φ' μ' a w' := by
            rcases hee with rfl | rfl
            · obtain ⟨μ', q1, q2⟩ := hh
              rw [q1] at hon
              exact ⟨μ', hon, q2⟩
            · obtain ⟨μ', q1, q2⟩ := hh
              rw [q1] at hor
              exact ⟨μ', hor, q2⟩
          obtain ⟨μ', hout, C, g, h, hsz', hdf, _⟩ := hout
          unfold outB at hout
          simp only [Bool.and_eq_true] at hout
          have hnd := nodupB_spec hout.1
          have hCPA : ∀ i b, C.PA i b → PA i b := fun i b hb => (h.pa i b hb).2.2
          obtain ⟨vs, r1, r2, r3, r4⟩ := results_all (PA := PA) hCPA hnd h fn.results.toList sg.res rs 0 hres hout.2 (by
            intro j r hr
            rw [Nat.zero_add, List.getElem?_map, hr]; rfl)
          have hlen : rs.length = fn.results.toList.length := by
            have key : ∀ (l : List ResultVar) (xs : List X), resesX V.τ φ' l = some xs → xs.length = l.length := by
              intro l
              induction l with
              | nil => intro xs h; simp only [resesX, Option.some.injEq] at h; subst h; rfl
              | cons r l ih =>
                intro xs h
                simp only [resesX] at h
                split at h
                · rename_i q1 q2; cases h; simp [ih _ q2]
                · cases h
            exact key _ _ hres
          have hrun := results_run r1
          have hdone : Done w w' G PA sg rs vs (exitC C (fn.results.toList.map (srcS μ')) PA) := by
            refine ⟨⟨h.size, fun b hb => h.old b hb (fun h => h), h.calm⟩, ?_, ?_, ?_, ?_, rfl, exit_own h.oko, r2, r3, ?_⟩
            · intro b o' ho'
              simp only [exitC] at ho'
              split at ho'
              · rename_i o1 ho1
                split at ho'
                · rename_i kk hkk
                  cases ho'
                  obtain ⟨p1, p2, p3, p4⟩ := h.own b o1 ho1
                  obtain ⟨_, hat⟩ := idxS_ge _ _ _ _ hkk
                  refine ⟨p4.resolve_left (fun h => h), p1, ?_, ?_⟩
                  · rintro (hg | ⟨o2, ho2, hi2⟩)
                    · exact p2 hg
                    · rw [ho1] at ho2; cases ho2; rw [hkk] at hi2; cases hi2
                  · have := (List.getElem?_eq_some_iff.1 hat).1
                    simp only [List.length_map, Nat.sub_zero] at this
                    simp only
                    omega
                · cases ho'
              · cases ho'
            · intro b b' o1 o2 q1 q2 e
              simp only [exitC] at q1 q2
              split at q1
              · rename_i p1 hp1
                split at q1
                · rename_i k1 hk1
                  cases q1
                  split at q2
                  · rename_i p2 hp2
                    split at q2
                    · rename_i k2 hk2
                      cases q2
                      simp only [Pl.mk.injEq] at e
                      obtain ⟨rfl, est⟩ := e
                      obtain ⟨_, a1⟩ := idxS_ge _ _ _ _ hk1
                      obtain ⟨_, a2⟩ := idxS_ge _ _ _ _ hk2
                      rw [a1] at a2
                      simp only [Option.some.injEq] at a2
                      refine h.inj b b' p1 p2 hp1 hp2 ?_
                      cases hq1 : p1.p; cases hq2 : p2.p
                      rw [hq1] at est a2; rw [hq2] at est a2
                      simp only at est a2
                      rw [est, a2]
                    · cases q2
                  · cases q2
                · cases q1
              · cases q1
            · rintro b (hg | ⟨o1, ho1, _⟩)
              · obtain ⟨p1, p2⟩ := h.frz b hg
                rcases p2 with p2 | p2 | p2
                · exact .inl p2
                · exact p2.elim
                · exact .inr ⟨p2, p1⟩
              · obtain ⟨p1, p2, p3, p4⟩ := h.own b o1 ho1
                exact .inr ⟨p4.resolve_left (fun h => h), p1⟩
            · intro b hb
              exact .inl (h.ag b hb).1
            · intro j x v sm q1 q2 q3
              have := r4 j x v sm q1 q2 q3
              rwa [Nat.zero_add] at this
          have hp : ∃ v, (results fn a.tmps).run V.P w' = .ok v w' ∧ ∃ vs C', (Ending.returned v) = .returned (packV vs) ∧ Done w w' G PA sg rs vs C' := ⟨_, hrun, vs, _, rfl, hdone⟩
          rcases hee with rfl | rfl
          · exact ⟨hdf, hp⟩
          · exact ⟨hdf, hp⟩
        exact code_wp (X := ⟨V.τ, Sg, fn.ntmps, cols⟩) (A := A) (S := E.pks) (F := evF E k) rfl rfl (fun hq => by cases hq) c5 (fun f' sg' hf' => ⟨(hK f' sg' hf').pk, ih f' sg' hf'⟩) k c (entry V.τ sg.pms sg.tys) o (args0 xs) φ' e _ w _ ho hev ⟨C0, _, hst, hsz, rfl, fun u hu => by cases hu⟩ hfinal
      · cases c6
end Go.Ev

/- A policy for the check: nothing hangs on it. -/
namespace Go.Ev

def updM : List Nat → (List M → List M) → M → M
  | [], f, .own cols => .own (f cols)
  | k :: r, f, .own cols => .own (cols.set k (updM r f ((cols[k]?).getD .u)))
  | _, _, m => m

def updSM (cs : List Nat) (f : List M → List M) : SM → SM
  | .box ms => match cs with
    | k :: r => .box (ms.set k (updM r f ((ms[k]?).getD .u)))
    | [] => .box ms
  | .c m og => .c (updM cs f m) og
  | x => x

/-- Columns that a store asks for. -/
def preG (τ : List TE) (o : Oper) (μ : Mu) : Option Mu := match o.op with
  | .store t x y => match TE.find τ t, give μ y (fun k => [gam, k]) with
    | some e, some (ms, μ1) => match opM μ1 x with
      | .pt s cs =>
        let row := cs.dropLast
        let c := cs.getLastD 0
        if row.isEmpty && (match μ.get s with | .box _ => true | _ => false) then none else
        let new := mapL (landF (s :: row) c) (flatL e.zero ms)
        some (μ.set s (updSM row (fun cols => cols.take c ++ joinL ((cols.drop c).take new.length) new ++ cols.drop (c + new.length)) (μ.get s)))
      | _ => none
    | _, _ => none
  | _ => none

def firstApp (o : Oper) : List Nat := match o.op with
  | .call c => match c.callee, c.args.toList with
    | .builtin .append, .tmp t :: _ => [t]
    | _, _ => []
  | _ => []

def firstAsg (o : Oper) : List Nat := match o.op with
  | .assign (.tmp t) => [t]
  | .store _ _ (.tmp t) => [t]
  | .box _ (.tmp t) => [t]
  | _ => []

def slotsC (f : Oper → List Nat) : Code → List Nat
  | .seq a b => slotsC f a ++ slotsC f b
  | .cond _ a b => slotsC f a ++ slotsC f b
  | .block _ c => slotsC f c
  | .loop c => slotsC f c
  | .region _ ops _ => ops.toList.flatMap f
  | _ => []

def resSlots (rs : List ResultVar) : List Nat := rs.filterMap fun r => match r with
  | .tmp t => some t
  | .cell _ _ => none

def polG (τ : List TE) (tk : List Nat) (lo : Bool := false) : Pol where
  lo := lo
  pre := preG τ
  cols o μ := match o.op with
    | .move _ => match o.dst with
      | some d => if tk.contains d then [.u] else []
      | none => []
    | .load t x => match o.dst with
      | some d => if tk.contains d && (loadT τ μ t x d).isSome then [.u] else []
      | none => []
    | _ => colsG τ o μ

/-- Slots that take along. -/
def tkF (mode : Nat) (fn : Func) : List Nat := match fn.body with
  | some c => match mode with
    | 0 => slotsC firstApp c ++ resSlots fn.results.toList
    | 1 => slotsC firstApp c ++ slotsC firstAsg c ++ resSlots fn.results.toList
    | _ => []
  | none => []

/-- The check of a function as it is loaded. -/
def chkB (X : Chk) (fn : Func) (sg : Sig) : Bool := match fn.body with
  | some c => !(fn.name == "runtime.NumGoroutine") && (match mutOk sg with
    | some _ => chkFM X fn c sg
    | none => chkF X fn c sg)
  | none => false

theorem known_of {V : Env} {E : Prog} {Sg : Nat → Option Sig} {f : Nat} {sg : Sig} {fn : Func} (mode : Nat) (h1 : V.P.funcs[f]? = some fn) (h2 : E.pks f = some (sg.pms.map PM.pk)) (h3 : E.prims f = none) (h4 : E.funcs f = some fn)
    (hc : chkB ⟨V.τ, Sg, fn.ntmps, polG V.τ (tkF mode fn) (mutOk sg).isSome⟩ fn sg = true) : Known V E Sg f sg := by
  unfold chkB at hc
  split at hc
  · rename_i c hb
    simp only [Bool.and_eq_true, Bool.not_eq_true', beq_eq_false_iff_ne] at hc
    obtain ⟨hc1, hc2⟩ := hc
    split at hc2
    · exact ⟨h2, fn, c, h1, hb, hc1, .inr ⟨h3, h4, _, .inr hc2⟩⟩
    · exact ⟨h2, fn, c, h1, hb, hc1, .inr ⟨h3, h4, _, .inl hc2⟩⟩
  · cases hc

/-- All functions that were checked. -/
def sgOf (l : List (Nat × Sig)) (f : Nat) : Option Sig := List.lookup f l

theorem known_all {V : Env} {E : Prog} {Sg : Nat → Option Sig} : ∀ (l : List (Nat × Sig)), (∀ p ∈ l, Known V E Sg p.1 p.2) → ∀ f sg, sgOf l f = some sg → Known V E Sg f sg := by
  intro l h f sg hf
  exact h (f, sg) (lookup_mem hf)
end Go.Ev

/- A walk in plain data: what is asked of code, as a proposition over frames that tell a part. -/
namespace Go.Ev

/-- A function comes to this, whatever the fuel from some point on. -/
def Runs (E : Prog) (f : Nat) (xs rs outs : List X) : Prop := ∃ k0, ∀ k, k0 ≤ k → evF E k f xs = some (rs, outs)

theorem Runs.det {E : Prog} {f : Nat} {xs rs outs rs' outs' : List X} (h : Runs E f xs rs outs) (h' : Runs E f xs rs' outs') : rs = rs' ∧ outs = outs' := by
  obtain ⟨k, h⟩ := h
  obtain ⟨k', h'⟩ := h'
  have h1 := h (max k k') (Nat.le_max_left _ _)
  have h2 := h' (max k k') (Nat.le_max_right _ _)
  rw [h1] at h2
  simpa using h2

/-- A call of a function. -/
def callK (E : Prog) (f : Nat) (as : List X) (K : List X → List X → Prop) : Prop := ∃ rs outs, Runs E f as rs outs ∧ K rs outs

theorem callK_of {E : Prog} {f : Nat} {as rs outs : List X} {K : List X → List X → Prop} (h : Runs E f as rs outs) : callK E f as K = K rs outs := by
  apply propext
  constructor
  · rintro ⟨rs', outs', h1, h2⟩
    obtain ⟨rfl, rfl⟩ := h.det h1
    exact h2
  · intro h2; exact ⟨rs, outs, h, h2⟩

def someK {α : Type} (r : Option α) (K : α → Prop) : Prop := ∃ x, r = some x ∧ K x

def callP (E : Prog) (f : Nat) (c : Call) (dst : Option Tmp) (φ : Fr) (K : Fr → Prop) : Prop := someK (E.pks f) fun ks => someK (argsX E.τ φ (ks.take c.args.size) c.args.toList c.argTypes.toList) fun as =>
  callK E f as fun rs outs => rs.length ≤ 8 ∧ someK (backsX E.τ φ (ks.take c.args.size) c.args.toList outs φ) fun φ' => K (putRes dst rs φ')

def opP (E : Prog) (o : Oper) (φ : Fr) (K : Fr → Prop) : Prop := match o.op with
  | .store t x y => someK (ptX φ x) fun p => someK (storeX E.τ φ t p (opX E.τ φ t y)) K
  | .call c => match c.callee with
    | .value (.func f) => callP E f c o.dst φ K
    | .value _ => False
    | _ => someK (pureX E.τ φ o.op o.type) fun x => K (putRes o.dst [x] φ)
  | _ => someK (pureX E.τ φ o.op o.type) fun x => K (putRes o.dst [x] φ)

def opsP (E : Prog) (ops : Array Oper) : List Oper → Fr → (Fr → Prop) → Prop
  | [], φ, K => K φ
  | o :: rest, φ, K => match o.guard with
    | none => opP E o φ fun φ' => opsP E ops rest φ' K
    | some (j, want) => someK ((ops[j]?).bind (·.dst)) fun d => someK (φ d).val fun v => ∃ b, v = .bool b ∧ (b = want → opP E o φ fun φ' => opsP E ops rest φ' K) ∧ (b ≠ want → opsP E ops rest (putRes o.dst [] φ) K)

def clrDs (ops : Array Oper) : List Nat := dstsOf (ops.toList.take (cutOf ops.toList))

/-- A loop: what its head holds, with a number that falls. -/
def LoopP (body : Fr → (EE → Fr → Prop) → Prop) (φ : Fr) (Q : EE → Fr → Prop) : Prop :=
  ∃ (I : Nat → Fr → Prop) (n : Nat) (φ0 : Fr), Le φ0 φ ∧ I n φ0 ∧ ∀ n ψ, I n ψ → body ψ fun e ψ' => match e with
    | .normal => ∃ m ψ0, m < n ∧ Le ψ0 ψ' ∧ I m ψ0
    | e => Q e ψ'

def codeP (E : Prog) (Dr : Nat → List Nat) : Code → Fr → (EE → Fr → Prop) → Prop
  | .skip, φ, Q => Q .normal φ
  | .region _ ops false, φ, Q => opsP E ops ops.toList φ (Q .normal)
  | .region id ops true, φ, Q => opsP E ops ops.toList (clrX (Dr id) φ) (Q .normal)
  | .seq a b, φ, Q => codeP E Dr a φ fun e ψ => match e with
    | .normal => codeP E Dr b ψ Q
    | e => Q e ψ
  | .cond c a b, φ, Q => someK (opX E.τ φ 0 c).val fun v => ∃ t, v = .bool t ∧ (t = true → codeP E Dr a φ Q) ∧ (t = false → codeP E Dr b φ Q)
  | .block id c, φ, Q => codeP E Dr c φ fun e ψ => if e = .exit id then Q .normal ψ else Q e ψ
  | .loop c, φ, Q => LoopP (codeP E Dr c) φ Q
  | .exit id, φ, Q => Q (.exit id) φ
  | .ret, φ, Q => Q .ret φ
  | _, _, _ => False

/-- The slots that are told to be emptied, at the least. -/
def drOk (Dr : Nat → List Nat) : Code → Bool
  | .region id ops true => (clrDs ops).all (Dr id).contains
  | .seq a b => drOk Dr a && drOk Dr b
  | .cond _ a b => drOk Dr a && drOk Dr b
  | .block _ c => drOk Dr c
  | .loop c => drOk Dr c
  | _ => true

theorem clr_more {ds ds' : List Nat} (h : ds.all ds'.contains = true) (φ : Fr) : Le (clrX ds' φ) (clrX ds φ) := by
  intro s
  unfold clrX
  by_cases e : isHit ds' s = true
  · rw [if_pos e]; exact .inl rfl
  · rw [if_neg e, if_neg]
    · exact .inr rfl
    · intro h1
      apply e
      unfold isHit at h1 ⊢
      rw [List.any_eq_true] at h1 ⊢
      obtain ⟨d, hd, hs⟩ := h1
      rw [List.all_eq_true] at h
      exact ⟨d, by simpa using h d hd, hs⟩

/-! ## More told, no less done -/

section
variable {τ : List TE} {φ φ1 ψ : Fr}

theorem Le.upd (h : Le φ φ1) (t : Nat) (x : X) : Le (upd φ t x) (upd φ1 t x) := by
  intro s
  unfold Go.Ev.upd
  split
  · exact .inr rfl
  · exact h s

theorem Le.patch (h : Le φ φ1) (f : Nat → Option X) : Le (patch f φ) (patch f φ1) := by
  intro s
  unfold Go.Ev.patch
  split
  · exact .inr rfl
  · exact h s

theorem Le.putRes (h : Le φ φ1) (dst : Option Tmp) {rs : List X} (h8 : rs.length ≤ 8) : Le (putRes dst rs φ) (putRes dst rs φ1) := by
  obtain ⟨f, hf, _⟩ := putRes_patch dst rs h8
  rw [hf, hf]; exact h.patch f

theorem Le.clrX (h : Le φ φ1) (ds : List Nat) : Le (clrX ds φ) (clrX ds φ1) := by
  intro s
  unfold Go.Ev.clrX
  split
  · exact .inl rfl
  · exact h s

theorem putAt_le (h : Le φ φ1) {p : Pl} {new : List D} (hp : putAt φ p new = some ψ) : ∃ ψ1, putAt φ1 p new = some ψ1 ∧ Le ψ ψ1 := by
  unfold putAt at hp ⊢
  split at hp
  · rename_i x hx
    rw [h.at (by intro e; rw [e] at hx; cases hx), hx]
    cases hp
    exact ⟨_, rfl, h.upd _ _⟩
  · cases hp

theorem setAt_le (h : Le φ φ1) {p : Pl} {d : D} (hp : setAt φ p d = some ψ) : ∃ ψ1, setAt φ1 p d = some ψ1 ∧ Le ψ ψ1 := by
  unfold setAt at hp ⊢
  split at hp
  · split at hp
    · rename_i q
      rw [h.at (by rw [q]; simp), q]
      cases hp
      exact ⟨_, rfl, h.upd _ _⟩
    · cases hp
  · exact putAt_le h hp

theorem storeX_le (h : Le φ φ1) {t : Nat} {p : Pl} {x : X} (hp : storeX τ φ t p x = some ψ) : ∃ ψ1, storeX τ φ1 t p x = some ψ1 ∧ Le ψ ψ1 := by
  unfold storeX at hp ⊢
  split at hp
  · split at hp
    · rename_i hf
      rw [if_pos hf]; exact putAt_le h hp
    · cases hp
  · cases hp

theorem argX_leA (h : Le φ φ1) {k : PK} {y : Operand} {ty : Nat} {x : X} (hy : argX τ φ k y ty = some x) : argX τ φ1 k y ty = some x := by
  cases k with
  | val => exact argX_le h hy
  | ptr n =>
    simp only [argX] at hy ⊢
    split at hy
    · rename_i p q
      rw [ptX_le h q]
      rw [Option.map_eq_some_iff] at hy
      obtain ⟨cs, q2, rfl⟩ := hy
      simp only [cellsAt_le h q2, Option.map_some]
    · cases hy
  | rptr n =>
    simp only [argX] at hy ⊢
    split at hy
    · rename_i p q
      rw [ptX_le h q]
      rw [Option.map_eq_some_iff] at hy
      obtain ⟨cs, q2, rfl⟩ := hy
      simp only [cellsAt_le h q2, Option.map_some]
    · cases hy
  | «mut» =>
    simp only [argX] at hy ⊢
    rw [opX_le h ty y (by intro e; rw [e] at hy; cases hy)]; exact hy
  | magg b =>
    simp only [argX] at hy ⊢
    rw [opX_le h ty y (by intro e; rw [e] at hy; cases hy)]; exact hy

theorem argsX_leA (h : Le φ φ1) : ∀ {ks : List PK} {ys : List Operand} {tys : List Nat} {xs : List X}, argsX τ φ ks ys tys = some xs → argsX τ φ1 ks ys tys = some xs
  | [], [], [], xs, hy => hy
  | k :: ks, y :: ys, t :: ts, xs, hy => by
    simp only [argsX] at hy ⊢
    split at hy
    · rename_i q1 q2
      rw [argX_leA h q1, argsX_leA h q2]
      exact hy
    · cases hy
  | [], _ :: _, _, _, hy => by simp [argsX] at hy
  | [], [], _ :: _, _, hy => by simp [argsX] at hy
  | _ :: _, [], _, _, hy => by simp [argsX] at hy
  | _ :: _, _ :: _, [], _, hy => by simp [argsX] at hy

theorem backX_le (h : Le φ φ1) {ψ0 ψ1 : Fr} (h0 : Le ψ0 ψ1) {k : PK} {y : Operand} {out : X} (hb : backX τ φ k y out ψ0 = some ψ) : ∃ ψ', backX τ φ1 k y out ψ1 = some ψ' ∧ Le ψ ψ' := by
  cases k with
  | ptr n =>
    simp only [backX] at hb ⊢
    split at hb
    · rename_i q
      rw [ptX_le h q]
      exact putAt_le h0 hb
    · cases hb
  | «mut» =>
    simp only [backX] at hb ⊢
    split at hb
    · rename_i q
      rw [opX_le' h q (by simp)]
      split at hb
      · rename_i hz
        simp only
        rw [if_pos hz]
        exact setAt_le h0 hb
      · cases hb
    · cases hb
  | magg b =>
    simp only [backX] at hb ⊢
    split at hb
    · rename_i q
      rw [opX_le' h q (by simp)]
      exact putAt_le h0 hb
    · cases hb
  | val => simp only [backX, Option.some.injEq] at hb ⊢; subst hb; exact ⟨_, rfl, h0⟩
  | rptr n => simp only [backX, Option.some.injEq] at hb ⊢; subst hb; exact ⟨_, rfl, h0⟩

theorem backsX_le (h : Le φ φ1) : ∀ {ks : List PK} {ys : List Operand} {os : List X} {ψ0 ψ1 : Fr}, Le ψ0 ψ1 → backsX τ φ ks ys os ψ0 = some ψ → ∃ ψ', backsX τ φ1 ks ys os ψ1 = some ψ' ∧ Le ψ ψ'
  | [], _, _, ψ0, ψ1, h0, hb => by
    simp only [backsX, Option.some.injEq] at hb ⊢
    subst hb; exact ⟨_, rfl, h0⟩
  | k :: ks, [], _, _, _, _, hb => by simp [backsX] at hb
  | k :: ks, _ :: _, [], _, _, _, hb => by simp [backsX] at hb
  | k :: ks, y :: ys, o :: os, ψ0, ψ1, h0, hb => by
    simp only [backsX] at hb ⊢
    split at hb
    · rename_i φ' q
      obtain ⟨φ'', q1, q2⟩ := backX_le h h0 q
      rw [q1]
      exact backsX_le h q2 hb
    · cases hb

theorem resX_le (h : Le φ φ1) {r : ResultVar} {x : X} (hy : resX τ φ r = some x) : resX τ φ1 r = some x := by
  cases r with
  | tmp t =>
    simp only [resX] at hy ⊢
    rw [h.at (by intro e; rw [e] at hy; cases hy)]
    split at hy
    · exact hy
    · exact hy
    · split at hy
      · rename_i q
        rw [h.at (by rw [q]; simp), q]; exact hy
      · cases hy
    · exact hy
    · cases hy
  | cell t ty =>
    simp only [resX] at hy ⊢
    rw [h.at (by intro e; rw [e] at hy; cases hy)]; exact hy

theorem resesX_le (h : Le φ φ1) : ∀ {l : List ResultVar} {xs : List X}, resesX τ φ l = some xs → resesX τ φ1 l = some xs
  | [], _, hy => hy
  | r :: l, xs, hy => by
    simp only [resesX] at hy ⊢
    split at hy
    · rename_i q1 q2
      rw [resX_le h q1, resesX_le h q2]; exact hy
    · cases hy

theorem outX_le (h : Le φ φ1) {i : Nat} {k : PK} {x : X} (hy : outX φ i k = some x) : outX φ1 i k = some x := by
  cases k with
  | ptr n => simp only [outX] at hy ⊢; rw [h.at (by intro e; rw [e] at hy; cases hy)]; exact hy
  | «mut» => simp only [outX] at hy ⊢; rw [h.at (by intro e; rw [e] at hy; cases hy)]; exact hy
  | magg b => simp only [outX] at hy ⊢; rw [h.at (by intro e; rw [e] at hy; cases hy)]; exact hy
  | _ => exact hy

theorem outsX_le (h : Le φ φ1) : ∀ {ks : List PK} {i : Nat} {xs : List X}, outsX φ i ks = some xs → outsX φ1 i ks = some xs
  | [], _, _, hy => hy
  | k :: ks, i, xs, hy => by
    simp only [outsX] at hy ⊢
    split at hy
    · rename_i q1 q2
      rw [outX_le h q1, outsX_le h q2]; exact hy
    · cases hy
end

/-! ## What the walk says, is so -/

section
variable {E : Prog}

/-- From some fuel on, and wherever more is told. -/
def OpsOk (E : Prog) (ops : Array Oper) (l : List Oper) (φ ψ : Fr) : Prop := ∃ k0, ∀ k, k0 ≤ k → ∀ φ1, Le φ φ1 → ∃ ψ1, Le ψ ψ1 ∧ evOps E.τ E.pks (evF E k) ops l φ1 = some ψ1
def OpOk1 (E : Prog) (o : Oper) (φ ψ : Fr) : Prop := ∃ k0, ∀ k, k0 ≤ k → ∀ φ1, Le φ φ1 → ∃ ψ1, Le ψ ψ1 ∧ evOp E.τ E.pks (evF E k) o φ1 = some ψ1
def CodeOk (E : Prog) (c : Code) (φ : Fr) (e : EE) (ψ : Fr) : Prop := ∃ k0, ∀ k, k0 ≤ k → ∀ φ1, Le φ φ1 → ∃ ψ1, Le ψ ψ1 ∧ ∀ kk, k0 ≤ kk → evC E.τ E.pks (evF E k) kk c φ1 = some (e, ψ1)

theorem opP_ok {o : Oper} {φ : Fr} {K : Fr → Prop} (h : opP E o φ K) : ∃ ψ, K ψ ∧ OpOk1 E o φ ψ := by
  have pure : (∀ F φ1, evOp E.τ E.pks F o φ1 = match pureX E.τ φ1 o.op o.type with | some x => some (putRes o.dst [x] φ1) | none => none) → someK (pureX E.τ φ o.op o.type) (fun x => K (putRes o.dst [x] φ)) → ∃ ψ, K ψ ∧ OpOk1 E o φ ψ := by
    rintro he ⟨x, hx, hK⟩
    refine ⟨_, hK, 0, fun k _ φ1 hle => ⟨_, hle.putRes o.dst (by simp), ?_⟩⟩
    rw [he, pureX_le hle hx]
  unfold opP at h
  cases ho : o.op with
  | store t x y =>
    rw [ho] at h
    obtain ⟨p, hp, ψ, hs, hK⟩ := h
    refine ⟨ψ, hK, 0, fun k _ φ1 hle => ?_⟩
    have hy : opX E.τ φ t y ≠ .u := by
      intro e; rw [e] at hs; unfold storeX at hs; split at hs <;> simp_all [X.cells]
    obtain ⟨ψ1, q1, q2⟩ := storeX_le hle hs
    refine ⟨ψ1, q2, ?_⟩
    unfold evOp
    rw [ho]
    simp only
    rw [ptX_le hle hp, opX_le hle t y hy]
    exact q1
  | call c =>
    rw [ho] at h
    simp only at h
    cases hc : c.callee with
    | value v =>
      rw [hc] at h
      cases v with
      | func f =>
        obtain ⟨ks, hks, as, has, rs, outs, ⟨k0, hr⟩, h8, φ', hb, hK⟩ := h
        refine ⟨_, hK, k0, fun k hk φ1 hle => ?_⟩
        obtain ⟨ψ', q1, q2⟩ := backsX_le hle hle hb
        refine ⟨_, q2.putRes o.dst h8, ?_⟩
        unfold evOp
        rw [ho]
        simp only [hc]
        unfold callX
        rw [hks]
        simp only
        rw [argsX_leA hle has]
        simp only [List.append_nil]
        rw [hr k hk]
        simp only
        rw [if_pos h8, q1]
      | _ => exact h.elim
    | builtin b =>
      rw [hc] at h
      refine pure (fun F φ1 => ?_) (by rw [ho]; exact h)
      unfold evOp; rw [ho]; simp only [hc]; rfl
    | invoke r m =>
      rw [hc] at h
      refine pure (fun F φ1 => ?_) (by rw [ho]; exact h)
      unfold evOp; rw [ho]; simp only [hc]; rfl
  | _ =>
    rw [ho] at h
    refine pure (fun F φ1 => ?_) (by rw [ho]; exact h)
    unfold evOp; rw [ho]; rfl

theorem opsP_ok {ops : Array Oper} : ∀ {l : List Oper} {φ : Fr} {K : Fr → Prop}, opsP E ops l φ K → ∃ ψ, K ψ ∧ OpsOk E ops l φ ψ
  | [], φ, K, h => ⟨φ, h, 0, fun k _ φ1 hle => ⟨φ1, hle, rfl⟩⟩
  | o :: l, φ, K, h => by
    have go : opP E o φ (fun φ' => opsP E ops l φ' K) → ∃ ψ, K ψ ∧ ∃ k0, ∀ k, k0 ≤ k → ∀ φ1, Le φ φ1 → ∃ φ' ψ1, Le ψ ψ1 ∧ evOp E.τ E.pks (evF E k) o φ1 = some φ' ∧ evOps E.τ E.pks (evF E k) ops l φ' = some ψ1 := by
      intro h
      obtain ⟨ψ0, hK0, k0, h0⟩ := opP_ok h
      obtain ⟨ψ, hK, k1, h1⟩ := opsP_ok hK0
      refine ⟨ψ, hK, max k0 k1, fun k hk φ1 hle => ?_⟩
      obtain ⟨φ', q1, q2⟩ := h0 k (by omega) φ1 hle
      obtain ⟨ψ1, q3, q4⟩ := h1 k (by omega) φ' q1
      exact ⟨φ', ψ1, q3, q2, q4⟩
    unfold opsP at h
    split at h
    · rename_i hg
      obtain ⟨ψ, hK, k0, h0⟩ := go h
      refine ⟨ψ, hK, k0, fun k hk φ1 hle => ?_⟩
      obtain ⟨φ', ψ1, q1, q2, q3⟩ := h0 k hk φ1 hle
      refine ⟨ψ1, q1, ?_⟩
      simp only [evOps, hg, q2]
      exact q3
    · rename_i j want hg
      obtain ⟨d, hd, v, hv, b, rfl, hb1, hb2⟩ := h
      have hval : ∀ φ1, Le φ φ1 → (φ1 d).val = some (.bool b) := by
        intro φ1 hle
        rw [hle.at (by intro e; rw [e] at hv; cases hv)]; exact hv
      by_cases hbw : b = want
      · obtain ⟨ψ, hK, k0, h0⟩ := go (hb1 hbw)
        refine ⟨ψ, hK, k0, fun k hk φ1 hle => ?_⟩
        obtain ⟨φ', ψ1, q1, q2, q3⟩ := h0 k hk φ1 hle
        refine ⟨ψ1, q1, ?_⟩
        simp only [evOps, hg, hd, hval φ1 hle]
        rw [if_pos hbw, q2]
        exact q3
      · obtain ⟨ψ, hK, k0, h0⟩ := opsP_ok (hb2 hbw)
        refine ⟨ψ, hK, k0, fun k hk φ1 hle => ?_⟩
        obtain ⟨ψ1, q1, q2⟩ := h0 k hk _ (hle.putRes o.dst (rs := []) (by simp))
        refine ⟨ψ1, q1, ?_⟩
        simp only [evOps, hg, hd, hval φ1 hle]
        rw [if_neg hbw]
        exact q2

theorem codeP_ok {Dr : Nat → List Nat} : ∀ {c : Code} {φ : Fr} {Q : EE → Fr → Prop}, drOk Dr c = true → codeP E Dr c φ Q → ∃ e ψ, Q e ψ ∧ CodeOk E c φ e ψ := by
  intro c
  induction c with
  | skip => intro φ Q hd h; exact ⟨_, _, h, 0, fun k _ φ1 hle => ⟨φ1, hle, fun kk _ => rfl⟩⟩
  | region id ops dr =>
    intro φ Q hd h
    cases dr with
    | false =>
      simp only [codeP] at h
      obtain ⟨ψ, hK, k0, h0⟩ := opsP_ok h
      refine ⟨_, _, hK, k0, fun k hk φ1 hle => ?_⟩
      obtain ⟨ψ1, q1, q2⟩ := h0 k hk φ1 hle
      exact ⟨ψ1, q1, fun kk _ => by simp [evC, q2]⟩
    | true =>
      simp only [codeP] at h
      obtain ⟨ψ, hK, k0, h0⟩ := opsP_ok h
      refine ⟨_, _, hK, k0, fun k hk φ1 hle => ?_⟩
      simp only [drOk] at hd
      obtain ⟨ψ1, q1, q2⟩ := h0 k hk _ ((hle.clrX _).trans (clr_more hd φ1))
      refine ⟨ψ1, q1, fun kk _ => ?_⟩
      simp only [evC, if_true]
      rw [show clrX (dstsOf (ops.toList.take (cutOf ops.toList))) φ1 = clrX (clrDs ops) φ1 from rfl, q2]
      rfl
  | seq a b iha ihb =>
    intro φ Q hd h
    simp only [codeP] at h
    simp only [drOk, Bool.and_eq_true] at hd
    obtain ⟨e, ψ, hQ, k0, h0⟩ := iha hd.1 h
    cases e with
    | normal =>
      obtain ⟨e2, ψ2, hQ2, k1, h1⟩ := ihb hd.2 hQ
      refine ⟨e2, ψ2, hQ2, max k0 k1, fun k hk φ1 hle => ?_⟩
      obtain ⟨ψ1, q1, q2⟩ := h0 k (by omega) φ1 hle
      obtain ⟨ψ3, q3, q4⟩ := h1 k (by omega) ψ1 q1
      exact ⟨ψ3, q3, fun kk hkk => by simp only [evC, q2 kk (by omega), q4 kk (by omega)]⟩
    | exit id =>
      refine ⟨_, _, hQ, k0, fun k hk φ1 hle => ?_⟩
      obtain ⟨ψ1, q1, q2⟩ := h0 k hk φ1 hle
      exact ⟨ψ1, q1, fun kk hkk => by simp only [evC, q2 kk hkk]⟩
    | ret =>
      refine ⟨_, _, hQ, k0, fun k hk φ1 hle => ?_⟩
      obtain ⟨ψ1, q1, q2⟩ := h0 k hk φ1 hle
      exact ⟨ψ1, q1, fun kk hkk => by simp only [evC, q2 kk hkk]⟩
  | cond x a b iha ihb =>
    intro φ Q hd h
    simp only [codeP] at h
    obtain ⟨v, hv, t, rfl, h1, h2⟩ := h
    cases t with
    | true =>
      obtain ⟨e, ψ, hQ, k0, h0⟩ := iha (by simp only [drOk, Bool.and_eq_true] at hd; exact hd.1) (h1 rfl)
      refine ⟨e, ψ, hQ, k0, fun k hk φ1 hle => ?_⟩
      obtain ⟨ψ1, q1, q2⟩ := h0 k hk φ1 hle
      exact ⟨ψ1, q1, fun kk hkk => by simp only [evC, val_le hle hv, if_true, q2 kk hkk]⟩
    | false =>
      obtain ⟨e, ψ, hQ, k0, h0⟩ := ihb (by simp only [drOk, Bool.and_eq_true] at hd; exact hd.2) (h2 rfl)
      refine ⟨e, ψ, hQ, k0, fun k hk φ1 hle => ?_⟩
      obtain ⟨ψ1, q1, q2⟩ := h0 k hk φ1 hle
      exact ⟨ψ1, q1, fun kk hkk => by simp only [evC, val_le hle hv, Bool.false_eq_true, if_false, q2 kk hkk]⟩
  | block id c ih =>
    intro φ Q hd h
    simp only [codeP] at h
    obtain ⟨e, ψ, hQ, k0, h0⟩ := ih (by simpa only [drOk] using hd) h
    by_cases he : e = .exit id
    · rw [if_pos he] at hQ
      refine ⟨_, _, hQ, k0, fun k hk φ1 hle => ?_⟩
      obtain ⟨ψ1, q1, q2⟩ := h0 k hk φ1 hle
      exact ⟨ψ1, q1, fun kk hkk => by simp [evC, q2 kk hkk, he]⟩
    · rw [if_neg he] at hQ
      refine ⟨_, _, hQ, k0, fun k hk φ1 hle => ?_⟩
      obtain ⟨ψ1, q1, q2⟩ := h0 k hk φ1 hle
      refine ⟨ψ1, q1, fun kk hkk => ?_⟩
      simp only [evC, q2 kk hkk]
      cases e with
      | normal => rfl
      | ret => rfl
      | exit id' => simp only; rw [if_neg (by rintro rfl; exact he rfl)]
  | loop c ih =>
    intro φ Q hd h
    simp only [codeP] at h
    obtain ⟨I, n, φ0, hle0, hI, hround⟩ := h
    -- by the number that falls
    have key : ∀ n ψ, I n ψ → ∃ e ψ', Q e ψ' ∧ ∃ k0, ∀ k, k0 ≤ k → ∀ ψ1, Le ψ ψ1 → ∃ ψ2, Le ψ' ψ2 ∧ ∀ kk, k0 ≤ kk → ∀ j, k0 ≤ j → iter (evC E.τ E.pks (evF E k) kk c) j ψ1 = some (e, ψ2) := by
      intro n
      induction n using Nat.strongRecOn with
      | _ n ihn =>
        intro ψ hI
        obtain ⟨e, ψ', hQ, k0, h0⟩ := ih (by simpa only [drOk] using hd) (hround n ψ hI)
        cases e with
        | normal =>
          obtain ⟨m, ψ0, hm, hle, hI'⟩ := hQ
          obtain ⟨e2, ψ2, hQ2, k1, h1⟩ := ihn m hm ψ0 hI'
          refine ⟨e2, ψ2, hQ2, max k0 k1 + 1, fun k hk ψ1 hl1 => ?_⟩
          obtain ⟨ψ3, q1, q2⟩ := h0 k (by omega) ψ1 hl1
          obtain ⟨ψ4, q3, q4⟩ := h1 k (by omega) ψ3 (hle.trans q1)
          refine ⟨ψ4, q3, fun kk hkk j hj => ?_⟩
          cases j with
          | zero => omega
          | succ j => simp only [iter, q2 kk (by omega)]; exact q4 kk (by omega) j (by omega)
        | exit id =>
          refine ⟨_, _, hQ, k0 + 1, fun k hk ψ1 hl1 => ?_⟩
          obtain ⟨ψ3, q1, q2⟩ := h0 k (by omega) ψ1 hl1
          refine ⟨ψ3, q1, fun kk hkk j hj => ?_⟩
          cases j with
          | zero => omega
          | succ j => simp only [iter, q2 kk (by omega)]
        | ret =>
          refine ⟨_, _, hQ, k0 + 1, fun k hk ψ1 hl1 => ?_⟩
          obtain ⟨ψ3, q1, q2⟩ := h0 k (by omega) ψ1 hl1
          refine ⟨ψ3, q1, fun kk hkk j hj => ?_⟩
          cases j with
          | zero => omega
          | succ j => simp only [iter, q2 kk (by omega)]
    obtain ⟨e, ψ', hQ, k0, h0⟩ := key n φ0 hI
    refine ⟨e, ψ', hQ, k0, fun k hk φ1 hle => ?_⟩
    obtain ⟨ψ2, q1, q2⟩ := h0 k hk φ1 (hle0.trans hle)
    exact ⟨ψ2, q1, fun kk hkk => by simp only [evC]; exact q2 kk hkk kk hkk⟩
  | exit id => intro φ Q hd h; exact ⟨_, _, h, 0, fun k _ φ1 hle => ⟨φ1, hle, fun kk _ => rfl⟩⟩
  | ret => intro φ Q hd h; exact ⟨_, _, h, 0, fun k _ φ1 hle => ⟨φ1, hle, fun kk _ => rfl⟩⟩
  | _ => intro φ Q hd h; exact h.elim

/-- A function, by a walk of its body. -/
theorem runs_by {Dr : Nat → List Nat} {f : Nat} {fn : Func} {c : Code} {ks : List PK} {xs rs outs : List X} (hp : E.prims f = none) (hf : E.funcs f = some fn) (hb : fn.body = some c) (hk : E.pks f = some ks) (hl : xs.length = ks.length) (hd : drOk Dr c = true)
    (h : codeP E Dr c (args0 xs) fun e φ => (e = .normal ∨ e = .ret) ∧ resesX E.τ φ fn.results.toList = some rs ∧ outsX φ 0 ks = some outs) : Runs E f xs rs outs := by
  obtain ⟨e, ψ, ⟨he, hr, ho⟩, k0, h0⟩ := codeP_ok hd h
  refine ⟨k0 + 1, fun k hk' => ?_⟩
  cases k with
  | zero => omega
  | succ k =>
    obtain ⟨ψ1, q1, q2⟩ := h0 k (by omega) _ (.refl _)
    simp only [evF, hp, hf, hk, hb]
    rw [if_pos hl, q2 k (by omega)]
    rcases he with rfl | rfl <;> simp only [resesX_le q1 hr, outsX_le q1 ho]
end
end Go.Ev


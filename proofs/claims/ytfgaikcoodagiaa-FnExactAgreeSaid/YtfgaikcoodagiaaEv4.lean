/- What a Go function does, reckoned in plain data, and that it does so: part 4. -/
import Derived.ProofKit
import Derived.Deep.Slices
import Derived.SizedLaws
import Derived.Test.YtfgaikcoodagiaaEv3
set_option linter.all false
/- A region whose order is drawn: the settled part in any order, then its tail. -/
namespace Go.Ev
section
variable {V : Env} {A : Start} {n : Nat} {S : Nat → Option (List PK)} {F : Nat → List X → Option (List X × List X)} {Sg : Nat → Option Sig} {ops : Array Oper} {μ0 : Mu} {colsP : Pol}

theorem upd_same {φ : Fr} {d : Nat} {x : X} (h : φ d = x) : upd φ d x = φ := by
  funext s
  unfold upd
  split
  · rename_i e; subst e; exact h.symm
  · rfl

theorem settle_wp {B : List (List Nat)} {m : Nat} {dl : List (Option Tmp)} {EF : List Mu} {φF φ' : Fr} {μ' : Mu} {Q : Exit → Act → World → Prop} (hrg : A.rg = []) (hn : n ≤ 1000)
    (hSg : ∀ f sg, Sg f = some sg → S f = some (sg.pms.map PM.pk) ∧ Does V f sg (F f)) (hQ : ∀ a w, Stands A n φ' μ' a w → Q .normal a w)
    (hok : TextOk ops B m) (hdl : dl = (ops.toList.take m).map (·.dst)) (hJ : ∀ i o, ops[i]? = some o → i < m → JudgedAt V.τ Sg n ops μ0 dl EF i o (B.getD i []))
    (hC : ∀ i o, ops[i]? = some o → i < m → Come V.τ S F ops φF o)
    (h0 : ∀ s x, List.lookup s μ0 = some x → x.free (isHit (dstsOf (ops.toList.take m))) = true ∧ isHit (dstsOf (ops.toList.take m)) s = false)
    (hx : evOps V.τ S F ops (ops.toList.drop m) φF = some φ') (hm : chkOps V.τ Sg colsP n ops (ops.toList.drop m) (seeM μ0 EF (List.range m)) = some μ') :
    ∀ (fuel : Nat) (listed : Array Bool) (μ : Mu) (a : Act) (w : World) (T : List Nat), listed.size = ops.size → T.length + (ops.size - m) ≤ fuel →
      (∀ i, i < m → listed.getD i false = false → i ∈ T) → (∀ i, listed.getD i false = true → ∀ b ∈ B.getD i [], listed.getD b false = true) → (∀ i, m ≤ i → i < ops.size → listed.getD i true = false) →
      SetInv ops m μ0 (dstsOf (ops.toList.take m)) EF listed μ → Stands A n φF μ a w → wpAny V.P .any ops Q fuel listed a w := by
  have hrdy : ∀ i (listed : Array Bool), i < ops.size → listed.getD i true = false → (∀ j, j < i → listed.getD j false = true) → i ∈ Region.ready .any ops listed := by
    intro i listed hi h1 h2
    exact mem_ready.2 ⟨h1, ops[i], Array.getElem?_eq_getElem hi, fun e he hb => h2 _ (hok.edge i _ (Array.getElem?_eq_getElem hi) e he hb)⟩
  have hclose : ∀ i o (listed : Array Bool), ops[i]? = some o → (∀ k, listed.getD k false = true → ∀ b ∈ B.getD k [], listed.getD b false = true) → i ∈ Region.ready .any ops listed → ∀ b ∈ B.getD i [], listed.getD b false = true := by
    intro i o listed ho hd hi b hb
    obtain ⟨_, o', ho', hall⟩ := mem_ready.1 hi
    rw [ho] at ho'; cases ho'
    obtain ⟨e, he, h1, h2⟩ := hok.via i o ho b hb
    have h3 := hall e he h1
    rcases h2 with h2 | h2
    · rw [← h2]; exact h3
    · exact hd _ h3 b h2
  have hend : ∀ (fuel : Nat) (listed : Array Bool) (μ : Mu) (a : Act) (w : World), listed.size = ops.size → ops.size - m ≤ fuel → (∀ j, j < m → listed.getD j false = true) → (∀ i, m ≤ i → i < ops.size → listed.getD i true = false) →
      SetInv ops m μ0 (dstsOf (ops.toList.take m)) EF listed μ → Stands A n φF μ a w → wpAny V.P .any ops Q fuel listed a w := by
    intro fuel listed μ a w hls hf hall hhi hI hst
    obtain ⟨C, g, h, hsz, hdf⟩ := hst
    refine tail_wp hrg hn hSg hQ (m := m) ?_ hrdy _ m fuel listed φF _ a w (Nat.le_refl _) rfl hls hall hhi (by simp; omega) ⟨C, g, h.weakG (see_weak hok.le hJ h0 hI fun j hj => ?_), hsz, hdf⟩ hx hm
    · intro i o ho hmi j hj l hl hi
      exact hclose i o l ho (fun k hk b hb => hl k hk b (hok.lt k b hb)) hi j (hok.tail i (Array.getElem?_eq_some_iff.1 ho).1 hmi j hj)
    · have hj' : j < m := by simpa using hj
      exact ⟨hj', hall j hj'⟩
  intro fuel
  induction fuel with
  | zero =>
    intro listed μ a w T hls hT hun hdown hhi hI hst
    have hall : ∀ j, j < m → listed.getD j false = true := by
      intro j hj
      cases e : listed.getD j false with
      | true => rfl
      | false => have := hun j hj e; have : T = [] := List.length_eq_zero_iff.1 (by omega); subst this; simp at *
    exact hend 0 listed μ a w hls (by omega) hall hhi hI hst
  | succ fuel ih =>
    intro listed μ a w T hls hT hun hdown hhi hI hst
    by_cases hall : ∀ j, j < m → listed.getD j false = true
    · exact hend (fuel + 1) listed μ a w hls (by omega) hall hhi hI hst
    · have hex : ∃ j, j < m ∧ listed.getD j false = false := by
        apply Classical.byContradiction
        intro hne
        apply hall
        intro j hj
        cases e : listed.getD j false with
        | true => rfl
        | false => exact (hne ⟨j, hj, e⟩).elim
      obtain ⟨j0, hj0, hu0, hlow⟩ := least_unlisted hex
      have hm' := hok.le
      have hr0 : j0 ∈ Region.ready .any ops listed := hrdy j0 listed (by omega) (by rw [arr_getD_flip (by omega)]; exact hu0) hlow
      refine ⟨fun e => absurd (e ▸ hr0) (by simp), fun i hi => ?_⟩
      obtain ⟨hiu, o, ho, _⟩ := mem_ready.1 hi
      have his := (Array.getElem?_eq_some_iff.1 ho).1
      have hcl := hclose i o listed ho hdown hi
      have him : i < m := by
        rcases Nat.lt_or_ge i m with h | h
        · exact h
        · have := hcl j0 (hok.tail i his h j0 (by omega))
          rw [hu0] at this; cases this
      have hiu' : listed.getD i false = false := by rw [← arr_getD_flip (by omega)]; exact hiu
      have hJi := hJ i o ho him
      obtain ⟨cols, ms, hj, h8, hE, hfree, hguard⟩ := hJi.ex
      have hcome := hC i o ho him
      have hsee : ∀ s, (seeM μ0 EF (B.getD i [])).get s = .u ∨ (seeM μ0 EF (B.getD i [])).get s = μ.get s :=
        see_weak hok.le hJ h0 hI fun j hj => ⟨by have := hok.lt i j hj; omega, hcl j hj⟩
      have next : ∀ μ1, (∀ s, (∃ d, o.dst = some d ∧ hit d s = true ∧ μ1.get s = Mu.get (EF.getD i []) s) ∨ ((∀ d, o.dst = some d → hit d s = false) ∧ μ1.get s = o.dst.elim (μ.get s) fun d => (μ.get s).dropS d)) →
          ∀ a w, Stands A n φF μ1 a w → wpAny V.P .any ops Q fuel (listed.setIfInBounds i true) a w := by
        intro μ1 hg a' w' hst'
        have hiT : i ∈ T := hun i him hiu'
        refine ih _ μ1 a' w' (T.erase i) (by simpa using hls) ?_ ?_ ?_ ?_ (hI.put hok hn hdl hJ h0 hdown ho him hiu' hg) hst'
        · rw [List.length_erase_of_mem hiT]
          have := List.length_pos_of_mem hiT
          omega
        · intro k hk hku
          by_cases e : k = i
          · subst e
            have : k < listed.size := by omega
            simp [this] at hku
          · rw [getD_set_ne false (fun e' => e e'.symm)] at hku
            exact (List.mem_erase_of_ne e).2 (hun k hk hku)
        · intro k hk b hb
          by_cases e : k = i
          · subst e; exact getD_set_true (hcl b hb)
          · rw [getD_set_ne false (fun e' => e e'.symm)] at hk
            exact getD_set_true (hdown k hk b hb)
        · intro k hk hks
          rw [getD_set_ne true (by omega)]
          exact hhi k hk hks
      obtain ⟨C, g, h, hsz, hdf⟩ := hst
      have hw := h.weakG hsee
      have run : ∀ rs, Yields V.τ S F φF o rs → putRes o.dst rs φF = φF → o.wp V.P a w (wpAny V.P .any ops Q fuel (listed.setIfInBounds i true)) Q := by
        intro rs hy hput
        obtain ⟨μ1, hμ1⟩ : ∃ μ1, putResM o.dst ms μ = some μ1 := by
          unfold putResM
          split
          · exact ⟨_, rfl⟩
          · split
            · exact ⟨_, rfl⟩
            · exact ⟨_, rfl⟩
            · rw [if_pos h8]; exact ⟨_, rfl⟩
        refine settle_op hn hSg hJi.small hsz hdf hw h hj hy hμ1 fun a' w' hst' => ?_
        rw [hput] at hst'
        refine next μ1 ?_ a' w' hst'
        intro s
        rcases putResM_get hμ1 s with ⟨d, e1, e2, e3⟩ | h1
        · exact .inl ⟨d, e1, e2, by rw [hE]; exact e3⟩
        · exact .inr h1
      unfold wpOp
      rw [ho]
      unfold Come at hcome
      unfold guardS at hguard
      cases hg : o.guard with
      | none =>
        rw [hg] at hcome
        obtain ⟨rs, hy, hput⟩ := hcome
        simp only
        rw [if_pos (by simp [Region.wanted, hg])]
        exact .inl (run rs hy hput)
      | some jw =>
        obtain ⟨j, want⟩ := jw
        rw [hg] at hcome hguard
        obtain ⟨d, b, hjd, hv, hc1, hc2⟩ := hcome
        simp only [hjd, Bool.and_eq_true, beq_iff_eq, Nat.blt_eq] at hguard
        obtain ⟨⟨⟨hjb, hlen⟩, hsome⟩, hd1, hrd⟩ := hguard
        have hbool := slot_bool hw hd1 hrd hv
        have hy : yielded ops a.tmps j = some b := by
          unfold yielded
          rw [hjd]
          simp only [Option.bind_some]
          have : a.tmps[d]? = some (.bool b) := by
            by_cases hlt : d < a.tmps.size
            · rw [Array.getElem?_eq_getElem hlt]
              simp [Array.getD, hlt] at hbool
              rw [hbool]
            · simp [Array.getD, hlt] at hbool
              cases hbool
          rw [this]
        simp only
        by_cases hbw : b = want
        · rw [if_pos (by simp [Region.wanted, hg, hy, hbw])]
          obtain ⟨rs, h1, h2⟩ := hc1 hbw
          exact .inl (run rs h1 h2)
        · rw [if_neg (by simp [Region.wanted, hg, hy, hbw])]
          obtain ⟨dd, hdd⟩ := Option.isSome_iff_exists.1 hsome
          obtain ⟨sm, hsm⟩ : ∃ sm, ms = [sm] := by
            match ms, hlen with
            | [sm], _ => exact ⟨sm, rfl⟩
          have hs := hJi.small
          unfold smallO at hs
          simp only [Bool.and_eq_true] at hs
          have hdn := hs.1.2
          rw [hdd] at hdn
          simp only [Nat.blt_eq] at hdn
          obtain ⟨C2, h2⟩ := skip_st (sm := sm) h (Nat.lt_of_lt_of_le hdn hn) (by rw [hsz]; exact hdn)
          rw [upd_same (hc2 hbw dd hdd)] at h2
          rw [hdd]
          refine next (μ.put dd sm) ?_ _ _ ⟨C2, g, h2, by rw [put_size]; exact hsz, by rw [put_defers]; exact hdf⟩
          intro s
          rcases putResM_get (dst := some dd) (ms := [sm]) (μ := μ) (μ' := μ.put dd sm) rfl s with ⟨d', e1, e2, e3⟩ | ⟨h1, h3⟩
          · exact .inl ⟨d', by rw [hdd]; exact e1, e2, by rw [hE, hsm, hdd]; exact e3⟩
          · exact .inr ⟨by rw [hdd]; exact h1, by rw [hdd]; exact h3⟩

/-- The check of a region whose order is drawn. -/
def chkDrawn (τ : List TE) (Sg : Nat → Option Sig) (colsP : Pol) (n : Nat) (ops : Array Oper) (μ : Mu) : Option Mu :=
  let l := ops.toList
  let B := predsL l []
  let m := cutOf l
  let ds := dstsOf (l.take m)
  let μ0 := ds.foldl Mu.clear μ
  if textOk ops B m && List.all μ0 (fun p => p.2.free (isHit ds) && !isHit ds p.1) then (match settleM τ Sg colsP n ops μ0 ((l.take m).map (·.dst)) 0 (l.take m) B [] with
    | some Es => chkOps τ Sg colsP n ops (l.drop m) (seeM μ0 Es (List.range m))
    | none => none) else none

theorem clr_st {w : World} {φF : Fr} : ∀ (ds : List Nat) (φ : Fr) (μ : Mu) (C : Cx) (tm : Nat → Value), (∀ d ∈ ds, d < 1000) → St A w μ φ tm C → (∀ s, isHit ds s = false → φF s = φ s) → ∃ C', St A w (ds.foldl Mu.clear μ) φF tm C'
  | [], φ, μ, C, tm, _, h, hs => by
    have : φF = φ := by funext s; exact hs s rfl
    subst this
    exact ⟨C, h⟩
  | d :: ds, φ, μ, C, tm, hd, h, hs => by
    have h1 := h.putG (hd d (by simp)) (Ext.refl w) (fun _ => none) (by simp) (by simp) (by simp) (μ' := μ.clear d) (φ' := fun s => if hit d s then φF s else φ s) (tm' := tm) (fun s hh => by simp [hh]) (fun s _ => rfl)
      (fun s hh => by rw [get_clear, hh]; rfl) (fun s hh => .inr (by rw [get_clear, hh]; trivial))
    refine clr_st ds _ _ _ tm (fun d' hd' => hd d' (by simp [hd'])) h1 ?_
    intro s hh
    cases e : hit d s with
    | true => simp
    | false =>
      simp only [Bool.false_eq_true, if_false]
      refine hs s ?_
      rw [Bool.eq_false_iff]
      intro e2
      obtain ⟨d', hd', h2⟩ := isHit_iff.1 e2
      rcases List.mem_cons.1 hd' with rfl | hd'
      · rw [e] at h2; cases h2
      · have := isHit_iff.2 ⟨d', hd', h2⟩
        rw [hh] at this; cases this

theorem drawn_wp {id : Nat} {φ φ' : Fr} {μ μ' : Mu} {a : Act} {w : World} {Q : Exit → Act → World → Prop} (hrg : A.rg = []) (hn : n ≤ 1000)
    (hSg : ∀ f sg, Sg f = some sg → S f = some (sg.pms.map PM.pk) ∧ Does V f sg (F f)) (hst : Stands A n φ μ a w) (hx : evOps V.τ S F ops ops.toList (clrX (dstsOf (ops.toList.take (cutOf ops.toList))) φ) = some φ') (hm : chkDrawn V.τ Sg colsP n ops μ = some μ')
    (hQ : ∀ a w, Stands A n φ' μ' a w → Q .normal a w) : (Code.region id ops true).wp V.P Q a w := by
  unfold chkDrawn at hm
  simp only at hm
  generalize cutOf ops.toList = m at *
  split at hm
  · rename_i hc
    simp only [Bool.and_eq_true, List.all_eq_true, Bool.not_eq_true'] at hc
    have hok := textOk_spec hc.1
    split at hm
    · rename_i Es hEs
      obtain ⟨Ys, h1, h2, h3⟩ := settleM_spec _ 0 _ [] _ rfl hEs
      simp only [List.nil_append] at h1
      subst h1
      have hBat : ∀ i, i < ops.size → (predsL ops.toList [])[i]? = some ((predsL ops.toList []).getD i []) := by
        intro i hi
        have : i < (predsL ops.toList []).length := by rw [hok.len]; exact hi
        simp [List.getD_eq_getElem?_getD, this]
      have hJ : ∀ i o, ops[i]? = some o → i < m → JudgedAt V.τ Sg n ops ((dstsOf (ops.toList.take m)).foldl Mu.clear μ) ((ops.toList.take m).map (·.dst)) Es i o ((predsL ops.toList []).getD i []) := by
        intro i o ho him
        have hi := (Array.getElem?_eq_some_iff.1 ho).1
        have := h3 i o _ (by rw [List.getElem?_take, if_pos him]; simpa using ho) (hBat i hi)
        simpa using this
      have hsplit : ops.toList = ops.toList.take m ++ ops.toList.drop m := (List.take_append_drop m _).symm
      have hx' := hx
      rw [hsplit] at hx'
      rw [← hsplit] at hx'
      obtain ⟨φF, hx1, hx2⟩ := evOps_append (ops.toList.take m) (ops.toList.drop m) _ φ' (by rw [← hsplit]; exact hx)
      have htk : ∀ o ∈ ops.toList.take m, ∃ i, ops[i]? = some o ∧ i < m := by
        intro o ho
        obtain ⟨i, hi⟩ := List.mem_iff_getElem?.1 ho
        rw [List.getElem?_take] at hi
        split at hi
        · rename_i him; exact ⟨i, by simpa using hi, him⟩
        · cases hi
      have hd1000 : ∀ d ∈ (ops.toList.take m).filterMap (·.dst), d < 1000 := by
        intro d hd
        obtain ⟨o, ho, e⟩ := List.mem_filterMap.1 hd
        obtain ⟨i, hi, him⟩ := htk o ho
        have := (hJ i o hi him).small
        unfold smallO at this
        simp only [Bool.and_eq_true] at this
        have := this.1.2
        rw [e] at this
        have : Nat.lt d n := by simpa [Nat.blt_eq] using this
        exact Nat.lt_of_lt_of_le this hn
      obtain ⟨q1, q2, q3⟩ := come_all (ops.toList.take m) _ φF hx1 (by
        intro o ho
        obtain ⟨i, hi, him⟩ := htk o ho
        obtain ⟨cols, ms, hj, _⟩ := (hJ i o hi him).ex
        intro φ1 φ2 he
        exact evOp_yields (fun f sg hf => (hSg f sg hf).1) hj he) hok.dsts hd1000 (by
        intro d hd s hs
        have h9 : isHit (dstsOf (ops.toList.take m)) s = true := isHit_iff.2 ⟨d, hd, hs⟩
        simp [clrX, h9])
      obtain ⟨C, g, h, hsz, hdf⟩ := hst
      have he : Ext w { w with drawn := w.drawn + 1 } := ⟨Nat.le_refl _, fun _ _ => rfl, ⟨rfl, rfl, rfl⟩⟩
      obtain ⟨C', h'⟩ := clr_st (φF := φF) (dstsOf (ops.toList.take m)) φ μ C _ hd1000 (h.ext he) (by
        intro s hs
        rw [q2 s fun d hd => ?_]
        · simp [clrX, hs]
        · rw [Bool.eq_false_iff]
          intro e
          have := isHit_iff.2 ⟨d, hd, e⟩
          have h9 : isHit (dstsOf (ops.toList.take m)) s = true := this
          rw [hs] at h9; cases h9)
      refine wp_region_any V.mix ?_
      refine settle_wp hrg hn hSg hQ hok rfl hJ (fun i o ho him => q3 o ?_) ?_ hx2 hm ops.size _ _ a _ (List.range m) (by simp) (by simp; have := hok.le; omega) (fun i hi _ => by simpa using hi) ?_ ?_ ?_ ⟨C', g, h', hsz, hdf⟩
      · refine List.mem_iff_getElem?.2 ⟨i, ?_⟩
        rw [List.getElem?_take, if_pos him]; simpa using ho
      · intro s x hl
        exact hc.2 _ (lookup_mem hl)
      · intro i hi
        rw [Array.getD_eq_getD_getElem?] at hi
        simp [Array.getElem?_replicate] at hi
        split at hi <;> simp at hi
      · intro i _ hi
        rw [Array.getD_eq_getD_getElem?]
        simp [Array.getElem?_replicate, hi]
      · refine ⟨fun s _ => rfl, ?_⟩
        intro j o d s _ _ hj
        rw [Array.getD_eq_getD_getElem?] at hj
        simp [Array.getElem?_replicate] at hj
        split at hj <;> simp at hj
    · cases hm
  · cases hm
end
end Go.Ev

/- Code: what is checked comes to what is evaluated. -/
namespace Go.Ev

def joinK (a b : Mu) : Option Mu :=
  let j := joinMu a b
  if weakS a j && weakS b j then some j else none

def joinOK : Option Mu → Option Mu → Option (Option Mu)
  | some a, some b => match joinK a b with
    | some j => some (some j)
    | none => none
  | some a, none => some (some a)
  | none, b => some b

def mergeK : List (Nat × Mu) → List (Nat × Mu) → Option (List (Nat × Mu))
  | a, [] => some a
  | a, p :: b => match List.lookup p.1 a with
    | some μ => match joinK μ p.2 with
      | some j => mergeK ((p.1, j) :: a.filter (fun q => q.1 != p.1)) b
      | none => none
    | none => mergeK (p :: a) b

def Outs.join (o o' : Outs) : Option Outs := match joinOK o.n o'.n, mergeK o.e o'.e, joinOK o.r o'.r with
  | some n, some e, some r => some { n := n, e := e, r := r }
  | _, _, _ => none

structure Chk where
  τ : List TE
  Sg : Nat → Option Sig
  n : Nat
  cols : Pol

def loopK (body : Mu → Option Outs) : Nat → Mu → Option Outs
  | 0, _ => none
  | k + 1, μ => match body μ with
    | some o => match o.n with
      | some μ' => if weakS μ' μ then some { o with n := none } else (if weakS μ (joinMu μ μ') then loopK body k (joinMu μ μ') else none)
      | none => some { o with n := none }
    | none => none

def smC (n : Nat) : Operand → Bool
  | .tmp t => Nat.blt t n
  | _ => true

def chkC (X : Chk) : Code → Mu → Option Outs
  | .skip, μ => some { n := some μ }
  | .region _ ops dr, μ => match (if dr then chkDrawn X.τ X.Sg X.cols X.n ops μ else chkOps X.τ X.Sg X.cols X.n ops ops.toList μ) with
    | some μ' => some { n := some μ' }
    | none => none
  | .seq a b, μ => match chkC X a μ with
    | some o => match o.n with
      | some μ' => match chkC X b μ' with
        | some o' => Outs.join { o with n := none } o'
        | none => none
      | none => some o
    | none => none
  | .cond c a b, μ => if smC X.n c && rdO μ c then (match chkC X a μ, chkC X b μ with
    | some o, some o' => o.join o'
    | _, _ => none) else none
  | .block id c, μ => match chkC X c μ with
    | some o => match joinOK o.n (List.lookup id o.e) with
      | some n => some { n := n, e := o.e.filter (fun p => p.1 != id), r := o.r }
      | none => none
    | none => none
  | .loop c, μ => loopK (chkC X c) 6 μ
  | .exit id, μ => some { e := [(id, μ)] }
  | .ret, μ => some { r := some μ }
  | _, _ => none

def EE.ex : EE → Exit
  | .normal => .normal
  | .exit id => .exit id
  | .ret => .ret

def Outs.Holds (o : Outs) (e : EE) (P : Mu → Prop) : Prop := match e with
  | .normal => ∃ μ, o.n = some μ ∧ P μ
  | .exit id => ∃ μ, List.lookup id o.e = some μ ∧ P μ
  | .ret => ∃ μ, o.r = some μ ∧ P μ

def Mono (P : Mu → Prop) : Prop := ∀ μ ν, weakS μ ν = true → P μ → P ν

theorem joinK_spec {a b j : Mu} (h : joinK a b = some j) : weakS a j = true ∧ weakS b j = true := by
  unfold joinK at h
  simp only at h
  split at h
  · rename_i hc; cases h; simpa using hc
  · cases h

theorem joinOK_l {a b n : Option Mu} {P : Mu → Prop} (hP : Mono P) (h : joinOK a b = some n) (ha : ∃ μ, a = some μ ∧ P μ) : ∃ μ, n = some μ ∧ P μ := by
  obtain ⟨μ, rfl, hp⟩ := ha
  cases b with
  | none => simp only [joinOK, Option.some.injEq] at h; exact ⟨μ, h.symm, hp⟩
  | some b =>
    simp only [joinOK] at h
    split at h
    · rename_i j hj; cases h; exact ⟨j, rfl, hP _ _ (joinK_spec hj).1 hp⟩
    · cases h

theorem joinOK_r {a b n : Option Mu} {P : Mu → Prop} (hP : Mono P) (h : joinOK a b = some n) (ha : ∃ μ, b = some μ ∧ P μ) : ∃ μ, n = some μ ∧ P μ := by
  obtain ⟨μ, rfl, hp⟩ := ha
  cases a with
  | none => simp only [joinOK, Option.some.injEq] at h; exact ⟨μ, h.symm, hp⟩
  | some b =>
    simp only [joinOK] at h
    split at h
    · rename_i j hj; cases h; exact ⟨j, rfl, hP _ _ (joinK_spec hj).2 hp⟩
    · cases h

theorem mergeK_spec {P : Mu → Prop} (hP : Mono P) (id : Nat) : ∀ (b a r : List (Nat × Mu)), mergeK a b = some r → ((∃ μ, List.lookup id a = some μ ∧ P μ) → ∃ μ, List.lookup id r = some μ ∧ P μ) ∧ ((∃ μ, List.lookup id b = some μ ∧ P μ) → ∃ μ, List.lookup id r = some μ ∧ P μ)
  | [], a, r, h => by
    simp only [mergeK, Option.some.injEq] at h
    subst h
    exact ⟨_root_.id, by rintro ⟨μ, h, _⟩; cases h⟩
  | (k, ν) :: b, a, r, h => by
    simp only [mergeK] at h
    split at h
    · rename_i μ hμ
      split at h
      · rename_i j hj
        obtain ⟨h1, h2⟩ := mergeK_spec hP id b _ r h
        obtain ⟨w1, w2⟩ := joinK_spec hj
        by_cases e : id = k
        · subst e
          refine ⟨?_, ?_⟩
          · rintro ⟨μ', q1, q2⟩
            rw [hμ] at q1; cases q1
            exact h1 ⟨j, by simp [List.lookup_cons], hP _ _ w1 q2⟩
          · rintro ⟨μ', q1, q2⟩
            simp [List.lookup_cons] at q1
            subst q1
            exact h1 ⟨j, by simp [List.lookup_cons], hP _ _ w2 q2⟩
        · have e' : (id == k) = false := by simpa using e
          refine ⟨?_, ?_⟩
          · rintro ⟨μ', q1, q2⟩
            refine h1 ⟨μ', ?_, q2⟩
            rw [List.lookup_cons, e', lookup_filter (fun x => x != k)]
            simp [e, q1]
          · rintro ⟨μ', q1, q2⟩
            rw [List.lookup_cons, e'] at q1
            exact h2 ⟨μ', q1, q2⟩
      · cases h
    · rename_i hμ
      obtain ⟨h1, h2⟩ := mergeK_spec hP id b _ r h
      by_cases e : id = k
      · subst e
        refine ⟨?_, ?_⟩
        · rintro ⟨μ', q1, q2⟩
          rw [hμ] at q1; cases q1
        · rintro ⟨μ', q1, q2⟩
          simp [List.lookup_cons] at q1
          subst q1
          exact h1 ⟨ν, by simp [List.lookup_cons], q2⟩
      · have e' : (id == k) = false := by simpa using e
        refine ⟨?_, ?_⟩
        · rintro ⟨μ', q1, q2⟩
          exact h1 ⟨μ', by rw [List.lookup_cons, e']; exact q1, q2⟩
        · rintro ⟨μ', q1, q2⟩
          rw [List.lookup_cons, e'] at q1
          exact h2 ⟨μ', q1, q2⟩

theorem Outs.join_l {o o' r : Outs} {e : EE} {P : Mu → Prop} (hP : Mono P) (h : o.join o' = some r) (ha : o.Holds e P) : r.Holds e P := by
  unfold Outs.join at h
  split at h
  · rename_i h1 h2 h3
    cases h
    cases e with
    | normal => exact joinOK_l hP h1 ha
    | exit id => exact (mergeK_spec hP id _ _ _ h2).1 ha
    | ret => exact joinOK_l hP h3 ha
  · cases h

theorem Outs.join_r {o o' r : Outs} {e : EE} {P : Mu → Prop} (hP : Mono P) (h : o.join o' = some r) (ha : o'.Holds e P) : r.Holds e P := by
  unfold Outs.join at h
  split at h
  · rename_i h1 h2 h3
    cases h
    cases e with
    | normal => exact joinOK_r hP h1 ha
    | exit id => exact (mergeK_spec hP id _ _ _ h2).2 ha
    | ret => exact joinOK_r hP h3 ha
  · cases h

theorem stands_mono {A : Start} {n : Nat} {φ : Fr} {a : Act} {w : World} : Mono (fun μ => Stands A n φ μ a w) := by
  rintro μ ν hw ⟨C, g, h, h1, h2⟩
  exact ⟨C, g, h.weak hw, h1, h2⟩

section
variable {V : Env} {A : Start} {S : Nat → Option (List PK)} {F : Nat → List X → Option (List X × List X)} {X : Chk}

theorem code_wp (hτ : X.τ = V.τ) (hrg : A.rg = []) (hn : X.n ≤ 1000) (hSg : ∀ f sg, X.Sg f = some sg → S f = some (sg.pms.map PM.pk) ∧ Does V f sg (F f)) (k : Nat) : ∀ (c : Code) (μ : Mu) (o : Outs) (φ φ' : Fr) (e : EE) (a : Act) (w : World) (Q : Exit → Act → World → Prop),
    chkC X c μ = some o → evC V.τ S F k c φ = some (e, φ') → Stands A X.n φ μ a w → (∀ a w, o.Holds e (fun μ' => Stands A X.n φ' μ' a w) → Q e.ex a w) → c.wp V.P Q a w := by
  intro c
  induction c with
  | skip =>
    intro μ o φ φ' e a w Q hm hx hst hQ
    simp only [chkC, Option.some.injEq] at hm
    simp only [evC, Option.some.injEq, Prod.mk.injEq] at hx
    obtain ⟨rfl, rfl⟩ := hx
    subst hm
    exact wp_skip (hQ _ _ ⟨μ, rfl, hst⟩)
  | region id ops draw =>
    intro μ o φ φ' e a w Q hm hx hst hQ
    simp only [evC, Option.map_eq_some_iff, Prod.mk.injEq] at hx
    obtain ⟨φ1, hx, rfl, rfl⟩ := hx
    simp only [chkC] at hm
    split at hm
    · rename_i μ' hμ'
      cases hm
      rw [hτ] at hμ'
      cases draw with
      | false => exact wp_region_list (ops_wp hrg hn hSg ops.toList μ μ' φ φ1 a w hst hx hμ' fun a w hst' => hQ a w ⟨μ', rfl, hst'⟩)
      | true => exact drawn_wp hrg hn hSg hst hx hμ' fun a w hst' => hQ a w ⟨μ', rfl, hst'⟩
    · cases hm
  | seq x y ihx ihy =>
    intro μ o φ φ' e a w Q hm hx hst hQ
    simp only [chkC] at hm
    simp only [evC] at hx
    split at hm
    · rename_i o1 ho1
      split at hx
      · rename_i φ1 hx1
        refine wp_seq (ihx μ o1 φ φ1 .normal a w _ ho1 hx1 hst ?_)
        rintro a' w' ⟨μ1, h1, h2⟩
        rw [h1] at hm
        simp only at hm
        split at hm
        · rename_i o2 ho2
          exact ihy μ1 o2 φ1 φ' e a' w' Q ho2 hx h2 fun a w hh => hQ a w (Outs.join_r stands_mono hm hh)
        · cases hm
      · rename_i hne
        have hxe : evC V.τ S F k x φ = some (e, φ') := hx
        refine wp_seq (ihx μ o1 φ φ' e a w _ ho1 hxe hst ?_)
        intro a' w' hh
        have hen : e ≠ .normal := by rintro rfl; exact hne φ' hxe
        have hh' : o.Holds e fun μ' => Stands A X.n φ' μ' a' w' := by
          cases hon : o1.n with
          | none =>
            rw [hon] at hm
            simp only [Option.some.injEq] at hm
            rw [← hm]; exact hh
          | some μ1 =>
            rw [hon] at hm
            simp only at hm
            split at hm
            · rename_i o2 ho2
              refine Outs.join_l stands_mono hm ?_
              cases e with
              | normal => exact (hen rfl).elim
              | exit id => exact hh
              | ret => exact hh
            · cases hm
        have := hQ a' w' hh'
        cases e with
        | normal => exact (hen rfl).elim
        | exit id => exact this
        | ret => exact this
    · cases hm
  | cond c x y ihx ihy =>
    intro μ o φ φ' e a w Q hm hx hst hQ
    simp only [chkC] at hm
    split at hm
    · rename_i hc
      simp only [Bool.and_eq_true] at hc
      split at hm
      · rename_i o1 o2 ho1 ho2
        simp only [evC] at hx
        split at hx
        · rename_i t ht
          obtain ⟨C, g, h, hsz, hdf⟩ := hst
          have hsm : sm1 c = true := by
            cases c with
            | tmp t =>
              have := hc.1
              simp only [smC, Nat.blt_eq] at this
              simp only [sm1, decide_eq_true_eq]
              exact Nat.lt_of_lt_of_le this hn
            | _ => rfl
          have hv := (val_sound (τ := V.τ) (ty := 0) h hsm hc.2 ht).1
          refine wp_cond hv ?_
          cases t with
          | true => exact ihx μ o1 φ φ' e a w Q ho1 hx ⟨C, g, h, hsz, hdf⟩ fun a w hh => hQ a w (Outs.join_l stands_mono hm hh)
          | false => exact ihy μ o2 φ φ' e a w Q ho2 hx ⟨C, g, h, hsz, hdf⟩ fun a w hh => hQ a w (Outs.join_r stands_mono hm hh)
        · cases hx
      · cases hm
    · cases hm
  | block id c ih =>
    intro μ o φ φ' e a w Q hm hx hst hQ
    simp only [chkC] at hm
    split at hm
    · rename_i o1 ho1
      split at hm
      · rename_i nn hnn
        cases hm
        simp only [evC] at hx
        split at hx
        · rename_i id' φ1 hx1
          refine wp_block (ih μ o1 φ φ1 (.exit id') a w _ ho1 hx1 hst ?_)
          rintro a' w' ⟨μ1, h1, h2⟩
          simp only [EE.ex, Exit.inBlock]
          split at hx
          · rename_i e0
            cases hx
            subst e0
            rw [if_pos rfl]
            exact hQ _ _ (joinOK_r stands_mono hnn ⟨μ1, h1, h2⟩)
          · rename_i e0
            cases hx
            rw [if_neg e0]
            refine hQ _ _ ⟨μ1, ?_, h2⟩
            rw [lookup_filter (fun x => x != id)]
            simp [e0, h1]
        · rename_i hne
          have hxe : evC V.τ S F k c φ = some (e, φ') := hx
          refine wp_block (ih μ o1 φ φ' e a w _ ho1 hxe hst ?_)
          intro a' w' hh
          cases e with
          | normal =>
            simp only [EE.ex, Exit.inBlock]
            exact hQ _ _ (joinOK_l stands_mono hnn hh)
          | exit id' => exact (hne _ _ hxe).elim
          | ret => exact hQ _ _ hh
      · cases hm
    · cases hm
  | loop c ih =>
    intro μ o φ φ' e a w Q hm hx hst hQ
    simp only [evC] at hx
    simp only [chkC] at hm
    generalize 6 = q at hm
    induction q generalizing μ with
    | zero => cases hm
    | succ q ihq =>
      simp only [loopK] at hm
      split at hm
      · rename_i o1 ho1
        -- the head holds again
        have main : (∀ μ', o1.n = some μ' → weakS μ' μ = true) → o = { o1 with n := none } → (Code.loop c).wp V.P Q a w := by
          intro hback ho
          have key : ∀ j φ a w, Stands A X.n φ μ a w → iter (evC V.τ S F k c) j φ = some (e, φ') → ∀ (b : Go.Frame) (kk : List Item) (cs : List Go.Frame), ∃ e1 a' w', Q e1 a' w' ∧ Arrives V.P (lone (b.at a (.code c :: .inLoop c :: kk)) cs w) b kk cs e1 a' w' := by
            intro j
            induction j with
            | zero => intro φ a w _ h; cases h
            | succ j ihj =>
              intro φ a w hst hit b kk cs
              simp only [iter] at hit
              split at hit
              · rename_i φ1 hb
                have hbody := ih μ o1 φ φ1 .normal a w (Exit.then (fun a' w' => Stands A X.n φ1 μ a' w') Q) ho1 hb hst (by
                  rintro a' w' ⟨μ', h1, h2⟩
                  exact stands_mono _ _ (hback μ' h1) h2)
                obtain ⟨e1, a₁, w₁, hq, harr⟩ := hbody b (.inLoop c :: kk) cs
                cases e1 with
                | normal =>
                  obtain ⟨e₂, a₂, w₂, hq₂, harr₂⟩ := ihj φ1 a₁ w₁ hq hit b kk cs
                  exact ⟨e₂, a₂, w₂, hq₂, .of_steps (Steps.trans harr (.one step_inLoop)) harr₂⟩
                | exit id => exact ⟨_, a₁, w₁, hq, .pass (x := .inLoop c) rfl (fun _ _ => .inl (by simp)) harr⟩
                | goto l => exact ⟨_, a₁, w₁, hq, .pass (x := .inLoop c) rfl (fun _ _ => .inl (by simp)) harr⟩
                | ret => exact ⟨_, a₁, w₁, hq, .pass (x := .inLoop c) rfl (fun _ _ => .inl (by simp)) harr⟩
                | panic ch => exact ⟨_, a₁, w₁, hq, .pass (x := .inLoop c) rfl (fun _ _ => .inl (by simp)) harr⟩
                | outgrown => exact ⟨_, a₁, w₁, hq, .pass (x := .inLoop c) rfl (fun _ _ => .inl (by simp)) harr⟩
              · rename_i hne
                have hit' : evC V.τ S F k c φ = some (e, φ') := hit
                have hen : e ≠ .normal := by rintro rfl; exact hne φ' hit'
                have hbody := ih μ o1 φ φ' e a w (Exit.then (fun _ _ => False) Q) ho1 hit' hst (by
                  intro a' w' hh
                  have : Q e.ex a' w' := hQ a' w' (by
                    rw [ho]
                    cases e with
                    | normal => exact (hen rfl).elim
                    | exit id => exact hh
                    | ret => exact hh)
                  cases e with
                  | normal => exact (hen rfl).elim
                  | exit id => exact this
                  | ret => exact this)
                obtain ⟨e1, a₁, w₁, hq, harr⟩ := hbody b (.inLoop c :: kk) cs
                cases e1 with
                | normal => exact hq.elim
                | exit id => exact ⟨_, a₁, w₁, hq, .pass (x := .inLoop c) rfl (fun _ _ => .inl (by simp)) harr⟩
                | goto l => exact ⟨_, a₁, w₁, hq, .pass (x := .inLoop c) rfl (fun _ _ => .inl (by simp)) harr⟩
                | ret => exact ⟨_, a₁, w₁, hq, .pass (x := .inLoop c) rfl (fun _ _ => .inl (by simp)) harr⟩
                | panic ch => exact ⟨_, a₁, w₁, hq, .pass (x := .inLoop c) rfl (fun _ _ => .inl (by simp)) harr⟩
                | outgrown => exact ⟨_, a₁, w₁, hq, .pass (x := .inLoop c) rfl (fun _ _ => .inl (by simp)) harr⟩
          intro b kk cs
          obtain ⟨e1, a', w', hq, harr⟩ := key k φ a w hst hx b kk cs
          exact ⟨e1, a', w', hq, .of_steps (.one step_loop) harr⟩
        split at hm
        · rename_i μ' hμ'
          split at hm
          · rename_i hw
            cases hm
            exact main (fun μ2 h2 => by rw [hμ'] at h2; cases h2; exact hw) rfl
          · split at hm
            · rename_i hw2
              exact ihq (joinMu μ μ') (stands_mono _ _ hw2 hst) hm
            · cases hm
        · rename_i hno
          cases hm
          exact main (fun μ2 h2 => by rw [hno] at h2; cases h2) rfl
      · cases hm
  | exit id =>
    intro μ o φ φ' e a w Q hm hx hst hQ
    simp only [chkC, Option.some.injEq] at hm
    simp only [evC, Option.some.injEq, Prod.mk.injEq] at hx
    obtain ⟨rfl, rfl⟩ := hx
    subst hm
    exact wp_exit (hQ _ _ ⟨μ, by simp [List.lookup_cons], hst⟩)
  | ret =>
    intro μ o φ φ' e a w Q hm hx hst hQ
    simp only [chkC, Option.some.injEq] at hm
    simp only [evC, Option.some.injEq, Prod.mk.injEq] at hx
    obtain ⟨rfl, rfl⟩ := hx
    subst hm
    exact wp_ret (hQ _ _ ⟨μ, rfl, hst⟩)
  | _ => intro μ o φ φ' e a w Q hm; cases hm
end
end Go.Ev

/- Results: what a function hands out. -/
namespace Go.Ev

/-- The slot whose blocks a result takes along. -/
def srcS (μ : Mu) : ResultVar → Option Nat
  | .tmp t => match μ.get t with
    | .pt s [0] => some s
    | _ => some t
  | .cell _ _ => none

def idxS : List (Option Nat) → Nat → Nat → Option Nat
  | [], _, _ => none
  | x :: l, s, k => if x == some s then some k else idxS l s (k + 1)

/-- What is viewed in a result: with arguments, or frozen. -/
def exF (l : List (Option Nat)) : PF := fun ps => if ps.any (fun p => match p with
  | .lab (s :: _) => (idxS l s 0).isSome
  | .lab [] => true
  | .arg _ => false) then none else some (ps.filter fun p => match p with
  | .arg _ => true
  | .lab _ => false)

def exitR (τ : List TE) (μ : Mu) (r : ResultVar) : SM := match r with
  | .tmp t => match μ.get t with
    | .c m _ => .c m .no
    | .agg ms _ => .agg ms .no
    | .box ms => .box ms
    | .pt s [0] => match μ.get s with
      | .box ms => .box ms
      | _ => .u
    | _ => .u
  | .cell t ty => match μ.get t with
    | .box _ => match loadM τ μ ty (.pt t [0]) with
      | some (.c m _) => .c m .no
      | some (.agg ms _) => .agg ms .no
      | _ => .u
    | _ => .u

def exitC (C : Cx) (l : List (Option Nat)) (PA : Nat → Nat → Prop) : Cx where
  own b := match C.own b with
    | some o => match idxS l o.p.s 0 with
      | some k => some ⟨⟨k, o.p.st⟩, o.off, o.cap, o.z⟩
      | none => none
    | none => none
  G b := C.G b ∨ ∃ o, C.own b = some o ∧ idxS l o.p.s 0 = none
  PA := PA

theorem idxS_ge : ∀ (l : List (Option Nat)) (s k r : Nat), idxS l s k = some r → k ≤ r ∧ l[r - k]? = some (some s)
  | [], s, k, r, h => by cases h
  | x :: l, s, k, r, h => by
    simp only [idxS] at h
    split at h
    · rename_i e
      cases h
      simp at e
      simp [e]
    · obtain ⟨h1, h2⟩ := idxS_ge l s (k + 1) r h
      refine ⟨by omega, ?_⟩
      rw [show r - k = (r - (k + 1)) + 1 by omega]
      simpa using h2

theorem idxS_at : ∀ (l : List (Option Nat)) (s k j : Nat), (l.filterMap _root_.id).Nodup → l[j]? = some (some s) → idxS l s k = some (k + j)
  | [], s, k, j, _, h => by simp at h
  | x :: l, s, k, j, hn, h => by
    simp only [idxS]
    cases j with
    | zero => simp only [List.getElem?_cons_zero, Option.some.injEq] at h; subst h; simp
    | succ j =>
      simp only [List.getElem?_cons_succ] at h
      have hn' : (l.filterMap _root_.id).Nodup := by
        cases x with
        | none => simpa using hn
        | some x => simp at hn; exact hn.2
      have hne : x ≠ some s := by
        rintro rfl
        simp only [List.filterMap_cons, _root_.id] at hn
        exact (List.nodup_cons.1 hn).1 (List.mem_filterMap.2 ⟨some s, List.mem_of_getElem? h, rfl⟩)
      rw [if_neg (by simpa using hne), idxS_at l s (k + 1) j hn' h]
      congr 1; omega

def resRun (tmps : Array Value) : ResultVar → Sem Value
  | .tmp t => pure (tmps.getD t Go.undef)
  | .cell a t => do loadVar t (← asAddr (tmps.getD a Go.undef))

theorem results_run {P : Program} {w : World} {tmps : Array Value} {fn : Func} {vs : List Value} (h : (fn.results.toList.mapM (resRun tmps)).run P w = .ok vs w) : (results fn tmps).run P w = .ok (packV vs) w := by
  have e0 : results fn tmps = (do let vs ← fn.results.mapM (resRun tmps); pure (if h : vs.size = 1 then vs[0] else .tuple vs)) := by
    unfold results
    congr
  have e : fn.results.mapM (resRun tmps) = List.toArray <$> fn.results.toList.mapM (resRun tmps) := by
    rw [Array.mapM_eq_mapM_toList]
  rw [e0, Sem.run_bind]
  have e2 : (fn.results.mapM (resRun tmps)).run P w = .ok vs.toArray w := by
    rw [e, Sem.run_map, h]; rfl
  rw [e2]
  simp only [Result.andThen_ok]
  cases vs with
  | nil => rfl
  | cons v vs =>
    cases vs with
    | nil => rfl
    | cons v' vs => simp [packV]

section
variable {V : Env} {A : Start} {w : World} {μ : Mu} {φ : Fr} {C : Cx} {a : Act} {g : Nat → Value} {x : X} {l : List (Option Nat)} {PA : Nat → Nat → Prop}

theorem exF_ok (hPA : ∀ i b, C.PA i b → PA i b) {ps ps' : List Pv} (hf : exF l ps = some ps') {b : Nat} (hb : okB C ps b) : okB (exitC C l PA) ps' b := by
  unfold exF at hf
  split at hf
  · cases hf
  · rename_i hn
    cases hf
    rcases hb with hb | ⟨p, hp, hb⟩
    · exact .inl (.inl hb)
    · cases p with
      | arg i => exact .inr ⟨.arg i, by simp [hp], hPA i b hb⟩
      | lab q =>
        obtain ⟨o, ho, hq⟩ := hb
        refine .inl (.inr ⟨o, ho, ?_⟩)
        cases q with
        | nil => exfalso; apply hn; rw [List.any_eq_true]; exact ⟨.lab [], hp, rfl⟩
        | cons s q =>
          have hs : o.p.s = s := by
            obtain ⟨t, ht⟩ := hq
            unfold Pl.lab at ht
            simp at ht
            exact ht.1.symm
          cases e : idxS l o.p.s 0 with
          | none => rfl
          | some k =>
            exfalso; apply hn
            rw [List.any_eq_true]
            exact ⟨.lab (s :: q), hp, by simp [← hs, e]⟩

theorem exitC_own {b k s off c z : Nat} {q : List (Nat × Nat)} (hi : idxS l s 0 = some k) (h : C.own b = some ⟨⟨s, q⟩, off, c, z⟩) : (exitC C l PA).own b = some ⟨⟨k, q⟩, off, c, z⟩ := by
  simp [exitC, h, hi]

theorem exit_claim (hPA : ∀ i b, C.PA i b → PA i b) {s k : Nat} {v : Value} {sm : SM} {φ : Fr} {tm : Nat → Value} (h : ClaimX w C φ tm s x v sm) (hr : sm.resOk = true) (hs : sm.noOwn = true ∨ idxS l s 0 = some k) :
    ClaimX w (exitC C l PA) (fun _ => .u) (fun _ => undef) k x v (sm.map (exF l)) := by
  refine h.keepG (exF l) ?_ (fun ps ps' hf b hb => ⟨exF_ok hPA hf hb, rfl⟩) (fun i b hb => ⟨hPA i b hb, rfl⟩) (fun b hb => ⟨.inl hb, rfl⟩) ?_
  · rcases hs with hs | hs
    · exact .inl hs
    · exact .inr fun b q off c z hb => ⟨exitC_own hs hb, rfl⟩
  · cases sm with
    | c m og => cases og <;> first | trivial | cases hr
    | agg m og => cases og <;> first | trivial | cases hr
    | box m => trivial
    | _ => cases hr

theorem u_res {k : Nat} {v : Value} : ClaimX w (exitC C l PA) (fun _ => .u) (fun _ => undef) k x v (SM.map (exF l) .u) := trivial

/-- One result. -/
theorem result_one (hPA : ∀ i b, C.PA i b → PA i b) (hn : (l.filterMap _root_.id).Nodup) (h : St A w μ φ (tmO a.tmps g) C) {r : ResultVar} (hsm : (match r with | .tmp t => Nat.blt t 1000 | .cell t _ => Nat.blt t 1000) = true) (hx : resX V.τ φ r = some x) {k : Nat} (hk : l[k]? = some (srcS μ r))
    (hu : (match exitR V.τ μ r with | .u => false | _ => true) = true) :
    ∃ v, (resRun a.tmps r).run V.P w = .ok v w ∧ ClaimX w (exitC C l PA) (fun _ => .u) (fun _ => undef) k x v ((exitR V.τ μ r).map (exF l)) := by
  cases r with
  | tmp t =>
    simp only [Nat.blt_eq] at hsm
    have htm : tmO a.tmps g t = a.tmps.getD t undef := by simp [tmO, hsm]
    refine ⟨a.tmps.getD t undef, rfl, ?_⟩
    have hcl := (h.slot t).resolve_left (by intro e; simp [resX, e] at hx)
    unfold Claim at hcl
    rw [htm] at hcl
    simp only [exitR] at hu ⊢
    simp only [srcS] at hk
    generalize hmt : μ.get t = mt at hcl hk hu
    cases mt with
    | c m og =>
      have hi := idxS_at l t 0 k hn hk
      rw [Nat.zero_add] at hi
      obtain ⟨d, o, e1, e2, _⟩ := hcl
      simp only [resX, e1, Option.some.injEq] at hx
      subst hx
      exact exit_claim (sm := .c m .no) (φ := φ) (tm := tmO a.tmps g) hPA ⟨d, none, rfl, e2, fun _ => rfl⟩ rfl (.inr hi)
    | agg ms og =>
      have hi := idxS_at l t 0 k hn hk
      rw [Nat.zero_add] at hi
      obtain ⟨ds, o, vs, e1, e2, e3, e4, e5, _⟩ := hcl
      simp only [resX, e1, Option.some.injEq] at hx
      subst hx
      exact exit_claim (sm := .agg ms .no) (φ := φ) (tm := tmO a.tmps g) hPA ⟨ds, none, vs, rfl, e2, e3, e4, e5, rfl⟩ rfl (.inr hi)
    | box ms =>
      have hi := idxS_at l t 0 k hn hk
      rw [Nat.zero_add] at hi
      have hcl' := hcl
      obtain ⟨ds, b, off, arr, e1, _⟩ := hcl
      simp only [resX, e1, Option.some.injEq] at hx
      subst hx
      rw [e1] at hcl'
      exact exit_claim (sm := .box ms) (φ := φ) (tm := tmO a.tmps g) hPA hcl' rfl (.inr hi)
    | pt s cs =>
      match cs, hk, hu with
      | [0], hk, hu =>
        have hi := idxS_at l s 0 k hn hk
        rw [Nat.zero_add] at hi
        obtain ⟨p, e1, e2, e3, e4⟩ := hcl
        simp only [resX, e1] at hx
        split at hx
        · rename_i hq; cases hq
        · rename_i hq; cases hq
        · rename_i s' hq
          cases hq
          simp only at e2
          subst e2
          split at hx
          · rename_i ds hds
            cases hx
            simp only at hu ⊢
            have hbox := (h.slot s').resolve_left (by rw [hds]; simp)
            unfold Claim at hbox
            generalize hms : μ.get s' = sm' at hbox hu
            cases sm' with
            | box ms =>
              have hbox' := hbox
              obtain ⟨ds', b, off, arr, q1, q2, q3⟩ := hbox
              obtain ⟨st, i, c, b', off', cap', z', p1, p2, p3⟩ := e4
              have hst : st = [] ∧ i = 0 ∧ c = 0 := by
                cases st with
                | nil => simp at p1; exact ⟨rfl, p1.1.symm, p1.2.symm⟩
                | cons y ys => simp at p1
              obtain ⟨rfl, rfl, rfl⟩ := hst
              have hbb := h.inj b' b _ _ p2 q3.own rfl
              subst hbb
              rw [q3.own] at p2
              simp only [Option.some.injEq, Ow.mk.injEq] at p2
              have hv : a.tmps.getD t undef = tmO a.tmps g s' := by
                rw [p3, q2]; simp [p2.2.1]
              rw [hv]
              rw [hds] at hbox'
              exact exit_claim (sm := .box ms) (φ := φ) (tm := tmO a.tmps g) hPA hbox' rfl (.inr hi)
            | _ => cases hu
          · cases hx
        · rename_i hq; cases hq
        · cases hx
    | _ => cases hu
  | cell t ty =>
    simp only [Nat.blt_eq] at hsm
    have htm : tmO a.tmps g t = a.tmps.getD t undef := by simp [tmO, hsm]
    have hcl := (h.slot t).resolve_left (by intro e; simp [resX, e] at hx)
    unfold Claim at hcl
    rw [htm] at hcl
    simp only [exitR] at hu ⊢
    generalize hmt : μ.get t = mt at hcl hu
    cases mt with
    | box ms =>
      obtain ⟨ds, b, off, arr, e1, e2, e3⟩ := hcl
      simp only [resX, e1] at hx
      split at hx
      · rename_i ds' e hds he
        cases hds
        split at hx
        · rename_i hfit
          simp only at hu ⊢
          have hsize := Env.zero_size (V := V) (t := ty) he
          have hl := fits_len hfit
          have hld : loadX V.τ φ ty ⟨t, [(0, 0)]⟩ = mkX e.agg ds (some ⟨t, [(0, 0)]⟩) := by
            unfold loadX
            rw [he]
            simp only [cellsAt, e1, rowsX, cellsIn, List.getElem?_cons_zero, Nat.zero_add, List.drop_zero]
            rw [if_pos (by omega)]
            simp only
            rw [List.take_of_length_le (by omega), if_pos hfit]
          obtain ⟨x', hx', hxx⟩ : ∃ x', mkX e.agg ds (some ⟨t, [(0, 0)]⟩) = some x' ∧ ((∃ d o, x' = .d d o ∧ x = .d d none) ∨ (∃ xs o, x' = .agg xs o ∧ x = .agg xs none)) := by
            unfold mkX at hx ⊢
            split at hx
            · rename_i ha; rw [if_pos ha]; cases hx; exact ⟨_, rfl, .inr ⟨_, _, rfl, rfl⟩⟩
            · rename_i ha
              rw [if_neg ha]
              split at hx
              · cases hx; exact ⟨_, rfl, .inl ⟨_, _, rfl, rfl⟩⟩
              · rename_i d hne
                cases hx
                cases d with
                | v y => exact (hne y rfl).elim
                | sl z rows => exact ⟨_, rfl, .inl ⟨_, _, rfl, rfl⟩⟩
              · cases hx
          have hpt : PtOk C ⟨t, [(0, 0)]⟩ (a.tmps.getD t undef) := ⟨[], 0, 0, b, off, 0, 0, rfl, e3.own, by rw [e2]; simp⟩
          have fin : ∀ sm, loadM V.τ μ ty (.pt t [0]) = some sm → ∃ u, (resRun a.tmps (.cell t ty)).run V.P w = .ok u w ∧ sm.noOwn = true ∧ ∀ s, ClaimX w C φ (tmO a.tmps g) s x' u sm := by
            intro sm hsm'
            obtain ⟨ad, u, h1, h2, h3, h4⟩ := load_pt h he hpt (by rw [hld]; exact hx') hsm'
            refine ⟨u, ?_, h3, h4⟩
            simp only [resRun, h1, asAddr, Sem.run_bind, Sem.run_pure, Result.andThen_ok, h2]
          generalize hlm : loadM V.τ μ ty (.pt t [0]) = lm at hu fin
          cases lm with
          | none => cases hu
          | some sm =>
            obtain ⟨u, h1, h2, h3⟩ := fin sm rfl
            cases sm with
            | c m og =>
              refine ⟨u, h1, ?_⟩
              obtain ⟨d, o, q1, q2, _⟩ := h3 0
              rcases hxx with ⟨d', o', r1, r2⟩ | ⟨xs, o', r1, r2⟩
              · rw [r1] at q1; cases q1
                exact exit_claim (s := 0) (sm := .c m .no) (φ := φ) (tm := tmO a.tmps g) hPA ⟨_, none, r2, q2, fun _ => rfl⟩ rfl (.inl h2)
              · rw [r1] at q1; cases q1
            | agg ms og =>
              refine ⟨u, h1, ?_⟩
              obtain ⟨ds', o, vs, q1, q2, q3, q4, q5, _⟩ := h3 0
              rcases hxx with ⟨d', o', r1, r2⟩ | ⟨xs, o', r1, r2⟩
              · rw [r1] at q1; cases q1
              · rw [r1] at q1; cases q1
                exact exit_claim (s := 0) (sm := .agg ms .no) (φ := φ) (tm := tmO a.tmps g) hPA ⟨_, none, vs, r2, q2, q3, q4, q5, rfl⟩ rfl (.inl h2)
            | _ => cases hu
        · cases hx
      · cases hx
    | _ => cases hu
end
end Go.Ev

/- A function that is checked does what is evaluated. -/
namespace Go.Ev

def quietB : PM → Bool
  | .rd => true
  | .frz => true
  | _ => false

def nonU : SM → Bool
  | .u => false
  | _ => true

def okRes (τ : List TE) (μ : Mu) (l : List (Option Nat)) : List ResultVar → List SM → Bool
  | [], [] => true
  | r :: rs, sm :: sms => (match r with | .tmp t => Nat.blt t 1000 | .cell t _ => Nat.blt t 1000) && (match exitR τ μ r with | .u => false | _ => true) && leSX ((exitR τ μ r).map (exF l)) sm && okRes τ μ l rs sms
  | _, _ => false

def outB (τ : List TE) (rs : List ResultVar) (res : List SM) (μ : Mu) : Bool := nodupB ((rs.map (srcS μ)).filterMap _root_.id) && okRes τ μ (rs.map (srcS μ)) rs res

def allO (p : Mu → Bool) : Option Mu → Bool
  | none => true
  | some μ => p μ

/-- The check of a function. -/
def chkF (X : Chk) (fn : Func) (c : Code) (sg : Sig) : Bool :=
  sg.pms.all quietB && sg.tys.length == sg.pms.length && Nat.ble sg.pms.length X.n && fn.ntmps == X.n && Nat.ble X.n 1000 &&
  (match chkC X c (entry X.τ sg.pms sg.tys) with
  | some o => allO (outB X.τ fn.results.toList sg.res) o.n && allO (outB X.τ fn.results.toList sg.res) o.r
  | none => false)

section
variable {V : Env} {A : Start} {w : World} {μ : Mu} {φ : Fr} {C : Cx} {a : Act} {g : Nat → Value}

theorem results_all {l : List (Option Nat)} {PA : Nat → Nat → Prop} (hPA : ∀ i b, C.PA i b → PA i b) (hn : (l.filterMap _root_.id).Nodup) (h : St A w μ φ (tmO a.tmps g) C) : ∀ (rs : List ResultVar) (sms : List SM) (xs : List X) (k : Nat), resesX V.τ φ rs = some xs → okRes V.τ μ l rs sms = true →
    (∀ j r, rs[j]? = some r → l[k + j]? = some (srcS μ r)) → ∃ vs, (rs.mapM (resRun a.tmps)).run V.P w = .ok vs w ∧ vs.length = xs.length ∧ sms.length = xs.length ∧
      ∀ (j : Nat) (x : X) (v : Value) (sm : SM), xs[j]? = some x → vs[j]? = some v → sms[j]? = some sm → ClaimX w (exitC C l PA) (fun _ => .u) (fun _ => undef) (k + j) x v sm
  | [], [], xs, k, hx, _, _ => by
    simp only [resesX, Option.some.injEq] at hx
    subst hx
    exact ⟨[], by simp, rfl, rfl, by simp⟩
  | [], _ :: _, _, _, _, h, _ => by cases h
  | _ :: _, [], _, _, _, h, _ => by cases h
  | r :: rs, sm :: sms, xs, k, hx, hok, hl => by
    simp only [resesX] at hx
    split at hx
    · rename_i x xs' hx1 hx2
      cases hx
      simp only [okRes, Bool.and_eq_true] at hok
      obtain ⟨⟨⟨h1, h2⟩, h3⟩, h4⟩ := hok
      obtain ⟨v, hv1, hv2⟩ := result_one (x := x) hPA hn h h1 hx1 (k := k) (hl 0 r rfl) h2
      obtain ⟨vs, p1, p2, p3, p4⟩ := results_all hPA hn h rs sms xs' (k + 1) hx2 h4 (fun j r' hr => by
        have := hl (j + 1) r' hr
        rw [show k + 1 + j = k + (j + 1) by omega]; exact this)
      refine ⟨v :: vs, ?_, by simp [p2], by simp [p3], ?_⟩
      · rw [List.mapM_cons, Sem.run_bind, hv1, Result.andThen_ok, Sem.run_bind, p1]; rfl
      · intro j x' v' sm' q1 q2 q3
        cases j with
        | zero =>
          simp only [List.getElem?_cons_zero, Option.some.injEq] at q1 q2 q3
          subst q1; subst q2; subst q3
          exact hv2.weak h3
        | succ j =>
          simp only [List.getElem?_cons_succ] at q1 q2 q3
          have := p4 j x' v' sm' q1 q2 q3
          rw [show k + (j + 1) = k + 1 + j by omega]; exact this
    · cases hx

theorem entry_get (τ : List TE) : ∀ (pms : List PM) (tys : List Nat) (k s : Nat), Mu.get (((pms.zip tys).zipIdx k).map fun p => (p.2, entryM τ p.2 p.1.1 p.1.2)) s = if k ≤ s then (match pms[s - k]?, tys[s - k]? with
    | some pm, some ty => entryM τ s pm ty
    | _, _ => .u) else .u
  | [], tys, k, s => by simp [Mu.get]
  | pm :: pms, [], k, s => by
    simp only [List.zip_nil_right, List.zipIdx_nil, List.map_nil, Mu.get, List.lookup_nil, List.getElem?_nil]
    split
    · cases (pm :: pms)[s - k]? <;> rfl
    · rfl
  | pm :: pms, ty :: tys, k, s => by
    have ih := entry_get τ pms tys (k + 1) s
    simp only [List.zip_cons_cons, List.zipIdx_cons, List.map_cons]
    unfold Mu.get at ih ⊢
    rw [List.lookup_cons]
    by_cases e : s = k
    · subst e; simp
    · have e' : (s == k) = false := by simpa using e
      rw [e']
      simp only
      rw [ih]
      by_cases hlt : k ≤ s
      · rw [if_pos hlt, if_pos (by omega)]
        rw [show s - k = (s - (k + 1)) + 1 by omega]
        simp
      · rw [if_neg hlt, if_neg (by omega)]

/-- An argument, as the function sees it. -/
theorem entry_claim {G : Nat → Prop} {PA : Nat → Nat → Prop} {pm : PM} {ty i : Nat} {x : X} {v : Value} {φ : Fr} {tm : Nat → Value} (hq : quietB pm = true) (h : ArgOk V w (pm.okOf G (PA i)) ty x v) :
    ClaimX w ⟨fun _ => none, G, PA⟩ φ tm i x v (entryM V.τ i pm ty) := by
  obtain ⟨e, he, hc⟩ := h
  have he' : TE.find V.τ ty = some e := he
  have hz := Env.zero_size he
  have flat : ∀ (zc : ZC) (d : D) (u : Value) (p : Pl) (m : M), zc.fit d = true → Rd w (pm.okOf G (PA i)) d u → Rep w ⟨fun _ => none, G, PA⟩ p (.view m.prov.toList.flatten) d u → Rep w ⟨fun _ => none, G, PA⟩ p (flatM zc (.view m.prov.toList.flatten)) d u := by
    intro zc d u p m hf hr hrep
    unfold flatM
    simp only
    split
    · rename_i hfl
      obtain ⟨y, rfl, hy⟩ := fit_flat hf hfl
      cases hr with
      | v h => exact .view (.v h)
    · exact hrep
  have rdv : ∀ (d : D) (u : Value) (p : Pl), pm = .rd → Rd w (pm.okOf G (PA i)) d u → Rep w ⟨fun _ => none, G, PA⟩ p (.view [.arg i]) d u := by
    rintro d u p rfl hr
    refine .view (hr.mono fun b hb => ⟨?_, rfl⟩)
    rcases hb with hb | hb
    · exact .inl hb
    · exact .inr ⟨.arg i, by simp, hb⟩
  have fz : ∀ (d : D) (u : Value) (p : Pl), pm = .frz → Rd w (pm.okOf G (PA i)) d u → Rep w ⟨fun _ => none, G, PA⟩ p (.view []) d u := by
    rintro d u p rfl hr
    exact .view (hr.mono fun b hb => ⟨.inl hb, rfl⟩)
  cases pm with
  | rd =>
    rcases hc with ⟨ha, d, rfl, hf, hr⟩ | ⟨ha, ds, vs, rfl, rfl, hsz, hf, hr⟩
    · have hl := fits_len hf
      obtain ⟨zc, hzc⟩ : ∃ zc, e.zero = [zc] := by
        match hq : e.zero, hl with
        | [zc], _ => exact ⟨zc, rfl⟩
      simp only [entryM, he', ha, Bool.false_eq_true, if_false, hzc]
      refine ⟨d, none, rfl, ?_, fun _ => rfl⟩
      exact flat zc d v _ (.view [.arg i]) (fits_at hf (j := 0) (by rw [hzc]; rfl) rfl) hr (rdv d v _ rfl hr)
    · simp only [entryM, he', ha, if_true]
      have hl := fits_len hf
      refine ⟨ds, none, vs, rfl, rfl, hsz, by rw [List.length_map]; exact hl, ?_, rfl⟩
      intro r j row d m q1 q2 q3
      cases r with
      | zero =>
        simp only [List.getElem?_cons_zero, Option.some.injEq] at q1
        subst q1
        rw [List.getElem?_map, Option.map_eq_some_iff] at q3
        obtain ⟨zc, hzc, rfl⟩ := q3
        exact flat zc d _ _ (.view [.arg i]) (fits_at hf hzc q2) (hr j d q2) (rdv d _ _ rfl (hr j d q2))
      | succ r => simp at q1
  | frz =>
    rcases hc with ⟨ha, d, rfl, hf, hr⟩ | ⟨ha, ds, vs, rfl, rfl, hsz, hf, hr⟩
    · simp only [entryM, he', ha, Bool.false_eq_true, if_false]
      exact ⟨d, none, rfl, fz d v _ rfl hr, fun _ => rfl⟩
    · simp only [entryM, he', ha, if_true]
      have hl := fits_len hf
      refine ⟨ds, none, vs, rfl, rfl, hsz, by rw [List.length_map]; exact hl, ?_, rfl⟩
      intro r j row d m q1 q2 q3
      cases r with
      | zero =>
        simp only [List.getElem?_cons_zero, Option.some.injEq] at q1
        subst q1
        rw [List.getElem?_map, Option.map_eq_some_iff] at q3
        obtain ⟨zc, hzc, rfl⟩ := q3
        exact fz d _ _ rfl (hr j d q2)
      | succ r => simp at q1
  | _ => cases hq
end

/-- How a function is known: gone through, or by what it answers. -/
structure Known (V : Env) (E : Prog) (Sg : Nat → Option Sig) (f : Nat) (sg : Sig) : Prop where
  pk : E.pks f = some (sg.pms.map PM.pk)
  body : ∃ fn c, V.P.funcs[f]? = some fn ∧ fn.body = some c ∧ fn.name ≠ "runtime.NumGoroutine" ∧
    ((∃ p, E.prims f = some p ∧ Does V f sg p) ∨ (E.prims f = none ∧ E.funcs f = some fn ∧ ∃ cols, chkF ⟨V.τ, Sg, fn.ntmps, cols⟩ fn c sg = true))

theorem does_all {V : Env} {E : Prog} {Sg : Nat → Option Sig} (hτ : E.τ = V.τ) (hK : ∀ f sg, Sg f = some sg → Known V E Sg f sg) : ∀ (k f : Nat) (sg : Sig), Sg f = some sg → Does V f sg (evF E k f) := by
  intro k
  induction k with
  | zero =>
    intro f sg hf
    obtain ⟨_, fn, c, h1, h2, h3, _⟩ := hK f sg hf
    exact ⟨⟨fn, c, h1, h2, h3⟩, fun w G PA vals xs _ _ _ _ _ rs outs h => by cases h⟩
  | succ k ih =>
    intro f sg hf
    obtain ⟨hpk, fn, c, h1, h2, h3, h4⟩ := hK f sg hf
    rcases h4 with ⟨p, hp, hd⟩ | ⟨hp, hfn, cols, hchk⟩
    · have : evF E (k + 1) f = p := by funext as; simp [evF, hp]
      rw [this]; exact hd
    · refine ⟨⟨fn, c, h1, h2, h3⟩, ?_⟩
      intro w G PA vals xs hvl hxl hG hPA hargs rs outs hF
      simp only [evF, hp, hfn, hpk, h2] at hF
      rw [if_pos (by rw [List.length_map]; exact hxl)] at hF
      unfold chkF at hchk
      simp only [Bool.and_eq_true, beq_iff_eq, Nat.ble_eq, List.all_eq_true] at hchk
      obtain ⟨⟨⟨⟨⟨c1, c2⟩, c3⟩, _⟩, c5⟩, c6⟩ := hchk
      split at c6
      · rename_i o ho
        simp only [Bool.and_eq_true] at c6
        obtain ⟨hon, hor⟩ := c6
        rw [hτ] at hF
        -- how it ends
        have hends : ∃ e φ', evC V.τ E.pks (evF E k) k c (args0 xs) = some (e, φ') ∧ (e = .normal ∨ e = .ret) ∧ resesX V.τ φ' fn.results.toList = some rs := by
          split at hF
          · cases hF
          · rename_i e φ' hne heq
            split at hF
            · rename_i rs' os' q1 q2
              cases hF
              refine ⟨e, φ', heq, ?_, q1⟩
              cases e with
              | normal => exact .inl rfl
              | ret => exact .inr rfl
              | exit id => exact (hne id rfl).elim
            · cases hF
          · cases hF
        obtain ⟨e, φ', hev, hee, hres⟩ := hends
        refine calls_of_wp h1 h2 ?_
        let A : Start := ⟨w, fun _ => False, G, PA, []⟩
        let C0 : Cx := ⟨fun _ => none, G, PA⟩
        have hsz : (vals.toArray ++ Array.replicate (fn.ntmps - vals.toArray.size) undef).size = fn.ntmps := by
          simp
          have := c3
          omega
        have hval : ∀ i u, vals[i]? = some u → (vals.toArray ++ Array.replicate (fn.ntmps - vals.toArray.size) undef).getD i undef = u := by
          intro i u hu
          obtain ⟨hlt, e⟩ := List.getElem?_eq_some_iff.1 hu
          simp only [Array.getD]
          rw [dif_pos (by simp; omega)]
          show (vals.toArray ++ Array.replicate (fn.ntmps - vals.toArray.size) undef)[i]'(by simp; omega) = u
          rw [Array.getElem_append_left (by simpa using hlt)]
          simpa using e
        have hst : St A w (entry V.τ sg.pms sg.tys) (args0 xs) (tmO (vals.toArray ++ Array.replicate (fn.ntmps - vals.toArray.size) undef) fun _ => undef) C0 := by
          refine ⟨?_, (by intro b b' o o' h; cases h), (by intro b o h; cases h), fun b hb => ⟨hG b hb, .inl hb⟩, fun b hb => ⟨hb, hG b hb, fun h => h⟩, fun i b hb => ⟨hPA i b hb, fun h => h, hb⟩, fun _ _ _ => rfl, Nat.le_refl _, .refl _, by simp [A]⟩
          intro s
          cases hx : xs[s]? with
          | none => left; simp [args0, List.getD_eq_getElem?_getD, hx]
          | some x =>
            right
            have hs : s < xs.length := (List.getElem?_eq_some_iff.1 hx).1
            have hv : vals[s]? = some vals[s] := List.getElem?_eq_getElem (by omega)
            have hpm : sg.pms[s]? = some sg.pms[s] := List.getElem?_eq_getElem (by omega)
            have hty : sg.tys[s]? = some sg.tys[s] := List.getElem?_eq_getElem (by omega)
            have harg := hargs s x _ _ _ hx hv hpm hty
            unfold Claim
            have e1 : args0 xs s = x := by simp [args0, List.getD_eq_getElem?_getD, hx]
            have e2 : tmO (vals.toArray ++ Array.replicate (fn.ntmps - vals.toArray.size) undef) (fun _ => undef) s = vals[s] := by
              have hn : fn.ntmps ≤ 1000 := c5
              have hc3 : sg.pms.length ≤ fn.ntmps := c3
              unfold tmO
              rw [if_pos (by omega)]
              exact hval s _ hv
            have e3 : (entry V.τ sg.pms sg.tys).get s = entryM V.τ s sg.pms[s] sg.tys[s] := by
              unfold entry
              rw [entry_get V.τ sg.pms sg.tys 0 s]
              simp [hpm, hty]
            rw [e1, e2, e3]
            exact entry_claim (c1 _ (List.mem_of_getElem? hpm)) harg
        have hfinal : ∀ a w', o.Holds e (fun μ' => Stands A fn.ntmps φ' μ' a w') → bodyPost V.P fn (fun e w' => ∃ vs C', e = .returned (packV vs) ∧ Done w w' G PA sg rs vs C') e.ex a w' := by
          intro a w' hh
          have hout : ∃ μ', outB V.τ fn.results.toList sg.res μ' = true ∧ Stands A fn.ntmps φ' μ' a w' := by
            rcases hee with rfl | rfl
            · obtain ⟨μ', q1, q2⟩ := hh
              rw [q1] at hon
              exact ⟨μ', hon, q2⟩
            · obtain ⟨μ', q1, q2⟩ := hh
              rw [q1] at hor
              exact ⟨μ', hor, q2⟩
          obtain ⟨μ', hout, C, g, h, hsz', hdf⟩ := hout
          unfold outB at hout
          simp only [Bool.and_eq_true] at hout
          have hnd := nodupB_spec hout.1
          have hCPA : ∀ i b, C.PA i b → PA i b := fun i b hb => (h.pa i b hb).2.2
          obtain ⟨vs, r1, r2, r3, r4⟩ := results_all (PA := PA) hCPA hnd h fn.results.toList sg.res rs 0 hres hout.2 (by
            intro j r hr
            rw [Nat.zero_add, List.getElem?_map, hr]; rfl)
          have hlen : rs.length = fn.results.toList.length := by
            have key : ∀ (l : List ResultVar) (xs : List X), resesX V.τ φ' l = some xs → xs.length = l.length := by
              intro l
              induction l with
              | nil => intro xs h; simp only [resesX, Option.some.injEq] at h; subst h; rfl
              | cons r l ih =>
                intro xs h
                simp only [resesX] at h
                split at h
                · rename_i q1 q2; cases h; simp [ih _ q2]
                · cases h
            exact key _ _ hres
          have hrun := results_run r1
          have hdone : Done w w' G PA sg rs vs (exitC C (fn.results.toList.map (srcS μ')) PA) := by
            refine ⟨⟨h.size, fun b hb => h.old b hb (fun h => h), h.calm⟩, ?_, ?_, ?_, ?_, rfl, r2, r3, ?_⟩
            · intro b o' ho'
              simp only [exitC] at ho'
              split at ho'
              · rename_i o1 ho1
                split at ho'
                · rename_i kk hkk
                  cases ho'
                  obtain ⟨p1, p2, p3, p4⟩ := h.own b o1 ho1
                  obtain ⟨_, hat⟩ := idxS_ge _ _ _ _ hkk
                  refine ⟨p4.resolve_left (fun h => h), p1, ?_, ?_⟩
                  · rintro (hg | ⟨o2, ho2, hi2⟩)
                    · exact p2 hg
                    · rw [ho1] at ho2; cases ho2; rw [hkk] at hi2; cases hi2
                  · have := (List.getElem?_eq_some_iff.1 hat).1
                    simp only [List.length_map, Nat.sub_zero] at this
                    simp only
                    omega
                · cases ho'
              · cases ho'
            · intro b b' o1 o2 q1 q2 e
              simp only [exitC] at q1 q2
              split at q1
              · rename_i p1 hp1
                split at q1
                · rename_i k1 hk1
                  cases q1
                  split at q2
                  · rename_i p2 hp2
                    split at q2
                    · rename_i k2 hk2
                      cases q2
                      simp only [Pl.mk.injEq] at e
                      obtain ⟨rfl, est⟩ := e
                      obtain ⟨_, a1⟩ := idxS_ge _ _ _ _ hk1
                      obtain ⟨_, a2⟩ := idxS_ge _ _ _ _ hk2
                      rw [a1] at a2
                      simp only [Option.some.injEq] at a2
                      refine h.inj b b' p1 p2 hp1 hp2 ?_
                      cases hq1 : p1.p; cases hq2 : p2.p
                      rw [hq1] at est a2; rw [hq2] at est a2
                      simp only at est a2
                      rw [est, a2]
                    · cases q2
                  · cases q2
                · cases q1
              · cases q1
            · rintro b (hg | ⟨o1, ho1, _⟩)
              · obtain ⟨p1, p2⟩ := h.frz b hg
                rcases p2 with p2 | p2 | p2
                · exact .inl p2
                · exact p2.elim
                · exact .inr ⟨p2, p1⟩
              · obtain ⟨p1, p2, p3, p4⟩ := h.own b o1 ho1
                exact .inr ⟨p4.resolve_left (fun h => h), p1⟩
            · intro b hb
              exact .inl (h.ag b hb).1
            · intro j x v sm q1 q2 q3
              have := r4 j x v sm q1 q2 q3
              rwa [Nat.zero_add] at this
          have hp : ∃ v, (results fn a.tmps).run V.P w' = .ok v w' ∧ ∃ vs C', (Ending.returned v) = .returned (packV vs) ∧ Done w w' G PA sg rs vs C' := ⟨_, hrun, vs, _, rfl, hdone⟩
          rcases hee with rfl | rfl
          · exact ⟨hdf, hp⟩
          · exact ⟨hdf, hp⟩
        exact code_wp (X := ⟨V.τ, Sg, fn.ntmps, cols⟩) (A := A) (S := E.pks) (F := evF E k) rfl rfl c5 (fun f' sg' hf' => ⟨(hK f' sg' hf').pk, ih f' sg' hf'⟩) k c (entry V.τ sg.pms sg.tys) o (args0 xs) φ' e _ w _ ho hev ⟨C0, _, hst, hsz, rfl⟩ hfinal
      · cases c6
end Go.Ev

/- A policy for the check: nothing hangs on it. -/
namespace Go.Ev

def updM : List Nat → (List M → List M) → M → M
  | [], f, .own cols => .own (f cols)
  | k :: r, f, .own cols => .own (cols.set k (updM r f ((cols[k]?).getD .u)))
  | _, _, m => m

def updSM (cs : List Nat) (f : List M → List M) : SM → SM
  | .box ms => match cs with
    | k :: r => .box (ms.set k (updM r f ((ms[k]?).getD .u)))
    | [] => .box ms
  | .c m og => .c (updM cs f m) og
  | x => x

/-- Columns that a store asks for. -/
def preG (τ : List TE) (o : Oper) (μ : Mu) : Option Mu := match o.op with
  | .store t x y => match TE.find τ t, give μ y (fun k => [gam, k]) with
    | some e, some (ms, μ1) => match opM μ1 x with
      | .pt s cs =>
        let row := cs.dropLast
        let c := cs.getLastD 0
        if row.isEmpty && (match μ.get s with | .box _ => true | _ => false) then none else
        let new := mapL (landF (s :: row) c) (flatL e.zero ms)
        some (μ.set s (updSM row (fun cols => cols.take c ++ joinL ((cols.drop c).take new.length) new ++ cols.drop (c + new.length)) (μ.get s)))
      | _ => none
    | _, _ => none
  | _ => none

def firstApp (o : Oper) : List Nat := match o.op with
  | .call c => match c.callee, c.args.toList with
    | .builtin .append, .tmp t :: _ => [t]
    | _, _ => []
  | _ => []

def firstAsg (o : Oper) : List Nat := match o.op with
  | .assign (.tmp t) => [t]
  | .store _ _ (.tmp t) => [t]
  | .box _ (.tmp t) => [t]
  | _ => []

def slotsC (f : Oper → List Nat) : Code → List Nat
  | .seq a b => slotsC f a ++ slotsC f b
  | .cond _ a b => slotsC f a ++ slotsC f b
  | .block _ c => slotsC f c
  | .loop c => slotsC f c
  | .region _ ops _ => ops.toList.flatMap f
  | _ => []

def resSlots (rs : List ResultVar) : List Nat := rs.filterMap fun r => match r with
  | .tmp t => some t
  | .cell _ _ => none

def polG (τ : List TE) (tk : List Nat) : Pol where
  pre := preG τ
  cols o μ := match o.op with
    | .move _ => match o.dst with
      | some d => if tk.contains d then [.u] else []
      | none => []
    | _ => colsG τ o μ

/-- Slots that take along. -/
def tkF (mode : Nat) (fn : Func) : List Nat := match fn.body with
  | some c => match mode with
    | 0 => slotsC firstApp c ++ resSlots fn.results.toList
    | 1 => slotsC firstApp c ++ slotsC firstAsg c ++ resSlots fn.results.toList
    | _ => []
  | none => []

/-- The check of a function as it is loaded. -/
def chkB (X : Chk) (fn : Func) (sg : Sig) : Bool := match fn.body with
  | some c => !(fn.name == "runtime.NumGoroutine") && chkF X fn c sg
  | none => false

theorem known_of {V : Env} {E : Prog} {Sg : Nat → Option Sig} {f : Nat} {sg : Sig} {fn : Func} (mode : Nat) (h1 : V.P.funcs[f]? = some fn) (h2 : E.pks f = some (sg.pms.map PM.pk)) (h3 : E.prims f = none) (h4 : E.funcs f = some fn)
    (hc : chkB ⟨V.τ, Sg, fn.ntmps, polG V.τ (tkF mode fn)⟩ fn sg = true) : Known V E Sg f sg := by
  unfold chkB at hc
  split at hc
  · rename_i c hb
    simp only [Bool.and_eq_true, Bool.not_eq_true', beq_eq_false_iff_ne] at hc
    exact ⟨h2, fn, c, h1, hb, hc.1, .inr ⟨h3, h4, _, hc.2⟩⟩
  · cases hc

/-- All functions that were checked. -/
def sgOf (l : List (Nat × Sig)) (f : Nat) : Option Sig := List.lookup f l

theorem known_all {V : Env} {E : Prog} {Sg : Nat → Option Sig} : ∀ (l : List (Nat × Sig)), (∀ p ∈ l, Known V E Sg p.1 p.2) → ∀ f sg, sgOf l f = some sg → Known V E Sg f sg := by
  intro l h f sg hf
  exact h (f, sg) (lookup_mem hf)
end Go.Ev

/- A walk in plain data: what is asked of code, as a proposition over frames that tell a part. -/
namespace Go.Ev

/-- A function comes to this, whatever the fuel from some point on. -/
def Runs (E : Prog) (f : Nat) (xs rs outs : List X) : Prop := ∃ k0, ∀ k, k0 ≤ k → evF E k f xs = some (rs, outs)

theorem Runs.det {E : Prog} {f : Nat} {xs rs outs rs' outs' : List X} (h : Runs E f xs rs outs) (h' : Runs E f xs rs' outs') : rs = rs' ∧ outs = outs' := by
  obtain ⟨k, h⟩ := h
  obtain ⟨k', h'⟩ := h'
  have h1 := h (max k k') (Nat.le_max_left _ _)
  have h2 := h' (max k k') (Nat.le_max_right _ _)
  rw [h1] at h2
  simpa using h2

/-- A call of a function. -/
def callK (E : Prog) (f : Nat) (as : List X) (K : List X → List X → Prop) : Prop := ∃ rs outs, Runs E f as rs outs ∧ K rs outs

theorem callK_of {E : Prog} {f : Nat} {as rs outs : List X} {K : List X → List X → Prop} (h : Runs E f as rs outs) : callK E f as K = K rs outs := by
  apply propext
  constructor
  · rintro ⟨rs', outs', h1, h2⟩
    obtain ⟨rfl, rfl⟩ := h.det h1
    exact h2
  · intro h2; exact ⟨rs, outs, h, h2⟩

def someK {α : Type} (r : Option α) (K : α → Prop) : Prop := ∃ x, r = some x ∧ K x

def callP (E : Prog) (f : Nat) (c : Call) (dst : Option Tmp) (φ : Fr) (K : Fr → Prop) : Prop := someK (E.pks f) fun ks => someK (argsX E.τ φ (ks.take c.args.size) c.args.toList c.argTypes.toList) fun as =>
  callK E f as fun rs outs => rs.length ≤ 8 ∧ someK (backsX E.τ φ (ks.take c.args.size) c.args.toList outs φ) fun φ' => K (putRes dst rs φ')

def opP (E : Prog) (o : Oper) (φ : Fr) (K : Fr → Prop) : Prop := match o.op with
  | .store t x y => someK (ptX φ x) fun p => someK (storeX E.τ φ t p (opX E.τ φ t y)) K
  | .call c => match c.callee with
    | .value (.func f) => callP E f c o.dst φ K
    | .value _ => False
    | _ => someK (pureX E.τ φ o.op o.type) fun x => K (putRes o.dst [x] φ)
  | _ => someK (pureX E.τ φ o.op o.type) fun x => K (putRes o.dst [x] φ)

def opsP (E : Prog) (ops : Array Oper) : List Oper → Fr → (Fr → Prop) → Prop
  | [], φ, K => K φ
  | o :: rest, φ, K => match o.guard with
    | none => opP E o φ fun φ' => opsP E ops rest φ' K
    | some (j, want) => someK ((ops[j]?).bind (·.dst)) fun d => someK (φ d).val fun v => ∃ b, v = .bool b ∧ (b = want → opP E o φ fun φ' => opsP E ops rest φ' K) ∧ (b ≠ want → opsP E ops rest (putRes o.dst [] φ) K)

def clrDs (ops : Array Oper) : List Nat := dstsOf (ops.toList.take (cutOf ops.toList))

/-- A loop: what its head holds, with a number that falls. -/
def LoopP (body : Fr → (EE → Fr → Prop) → Prop) (φ : Fr) (Q : EE → Fr → Prop) : Prop :=
  ∃ (I : Nat → Fr → Prop) (n : Nat) (φ0 : Fr), Le φ0 φ ∧ I n φ0 ∧ ∀ n ψ, I n ψ → body ψ fun e ψ' => match e with
    | .normal => ∃ m ψ0, m < n ∧ Le ψ0 ψ' ∧ I m ψ0
    | e => Q e ψ'

def codeP (E : Prog) (Dr : Nat → List Nat) : Code → Fr → (EE → Fr → Prop) → Prop
  | .skip, φ, Q => Q .normal φ
  | .region _ ops false, φ, Q => opsP E ops ops.toList φ (Q .normal)
  | .region id ops true, φ, Q => opsP E ops ops.toList (clrX (Dr id) φ) (Q .normal)
  | .seq a b, φ, Q => codeP E Dr a φ fun e ψ => match e with
    | .normal => codeP E Dr b ψ Q
    | e => Q e ψ
  | .cond c a b, φ, Q => someK (opX E.τ φ 0 c).val fun v => ∃ t, v = .bool t ∧ (t = true → codeP E Dr a φ Q) ∧ (t = false → codeP E Dr b φ Q)
  | .block id c, φ, Q => codeP E Dr c φ fun e ψ => if e = .exit id then Q .normal ψ else Q e ψ
  | .loop c, φ, Q => LoopP (codeP E Dr c) φ Q
  | .exit id, φ, Q => Q (.exit id) φ
  | .ret, φ, Q => Q .ret φ
  | _, _, _ => False

/-- The slots that are told to be emptied, at the least. -/
def drOk (Dr : Nat → List Nat) : Code → Bool
  | .region id ops true => (clrDs ops).all (Dr id).contains
  | .seq a b => drOk Dr a && drOk Dr b
  | .cond _ a b => drOk Dr a && drOk Dr b
  | .block _ c => drOk Dr c
  | .loop c => drOk Dr c
  | _ => true

theorem clr_more {ds ds' : List Nat} (h : ds.all ds'.contains = true) (φ : Fr) : Le (clrX ds' φ) (clrX ds φ) := by
  intro s
  unfold clrX
  by_cases e : isHit ds' s = true
  · rw [if_pos e]; exact .inl rfl
  · rw [if_neg e, if_neg]
    · exact .inr rfl
    · intro h1
      apply e
      unfold isHit at h1 ⊢
      rw [List.any_eq_true] at h1 ⊢
      obtain ⟨d, hd, hs⟩ := h1
      rw [List.all_eq_true] at h
      exact ⟨d, by simpa using h d hd, hs⟩

/-! ## More told, no less done -/

section
variable {τ : List TE} {φ φ1 ψ : Fr}

theorem Le.upd (h : Le φ φ1) (t : Nat) (x : X) : Le (upd φ t x) (upd φ1 t x) := by
  intro s
  unfold Go.Ev.upd
  split
  · exact .inr rfl
  · exact h s

theorem Le.patch (h : Le φ φ1) (f : Nat → Option X) : Le (patch f φ) (patch f φ1) := by
  intro s
  unfold Go.Ev.patch
  split
  · exact .inr rfl
  · exact h s

theorem Le.putRes (h : Le φ φ1) (dst : Option Tmp) {rs : List X} (h8 : rs.length ≤ 8) : Le (putRes dst rs φ) (putRes dst rs φ1) := by
  obtain ⟨f, hf, _⟩ := putRes_patch dst rs h8
  rw [hf, hf]; exact h.patch f

theorem Le.clrX (h : Le φ φ1) (ds : List Nat) : Le (clrX ds φ) (clrX ds φ1) := by
  intro s
  unfold Go.Ev.clrX
  split
  · exact .inl rfl
  · exact h s

theorem putAt_le (h : Le φ φ1) {p : Pl} {new : List D} (hp : putAt φ p new = some ψ) : ∃ ψ1, putAt φ1 p new = some ψ1 ∧ Le ψ ψ1 := by
  unfold putAt at hp ⊢
  split at hp
  · rename_i x hx
    rw [h.at (by intro e; rw [e] at hx; cases hx), hx]
    cases hp
    exact ⟨_, rfl, h.upd _ _⟩
  · cases hp

theorem setAt_le (h : Le φ φ1) {p : Pl} {d : D} (hp : setAt φ p d = some ψ) : ∃ ψ1, setAt φ1 p d = some ψ1 ∧ Le ψ ψ1 := by
  unfold setAt at hp ⊢
  split at hp
  · split at hp
    · rename_i q
      rw [h.at (by rw [q]; simp), q]
      cases hp
      exact ⟨_, rfl, h.upd _ _⟩
    · cases hp
  · exact putAt_le h hp

theorem storeX_le (h : Le φ φ1) {t : Nat} {p : Pl} {x : X} (hp : storeX τ φ t p x = some ψ) : ∃ ψ1, storeX τ φ1 t p x = some ψ1 ∧ Le ψ ψ1 := by
  unfold storeX at hp ⊢
  split at hp
  · split at hp
    · rename_i hf
      rw [if_pos hf]; exact putAt_le h hp
    · cases hp
  · cases hp

theorem argX_leA (h : Le φ φ1) {k : PK} {y : Operand} {ty : Nat} {x : X} (hy : argX τ φ k y ty = some x) : argX τ φ1 k y ty = some x := by
  cases k with
  | val => exact argX_le h hy
  | ptr n =>
    simp only [argX] at hy ⊢
    split at hy
    · rename_i p q
      rw [ptX_le h q]
      rw [Option.map_eq_some_iff] at hy
      obtain ⟨cs, q2, rfl⟩ := hy
      simp only [cellsAt_le h q2, Option.map_some]
    · cases hy
  | rptr n =>
    simp only [argX] at hy ⊢
    split at hy
    · rename_i p q
      rw [ptX_le h q]
      rw [Option.map_eq_some_iff] at hy
      obtain ⟨cs, q2, rfl⟩ := hy
      simp only [cellsAt_le h q2, Option.map_some]
    · cases hy
  | «mut» =>
    simp only [argX] at hy ⊢
    rw [opX_le h ty y (by intro e; rw [e] at hy; cases hy)]; exact hy
  | magg b =>
    simp only [argX] at hy ⊢
    rw [opX_le h ty y (by intro e; rw [e] at hy; cases hy)]; exact hy

theorem argsX_leA (h : Le φ φ1) : ∀ {ks : List PK} {ys : List Operand} {tys : List Nat} {xs : List X}, argsX τ φ ks ys tys = some xs → argsX τ φ1 ks ys tys = some xs
  | [], [], [], xs, hy => hy
  | k :: ks, y :: ys, t :: ts, xs, hy => by
    simp only [argsX] at hy ⊢
    split at hy
    · rename_i q1 q2
      rw [argX_leA h q1, argsX_leA h q2]
      exact hy
    · cases hy
  | [], _ :: _, _, _, hy => by simp [argsX] at hy
  | [], [], _ :: _, _, hy => by simp [argsX] at hy
  | _ :: _, [], _, _, hy => by simp [argsX] at hy
  | _ :: _, _ :: _, [], _, hy => by simp [argsX] at hy

theorem backX_le (h : Le φ φ1) {ψ0 ψ1 : Fr} (h0 : Le ψ0 ψ1) {k : PK} {y : Operand} {out : X} (hb : backX τ φ k y out ψ0 = some ψ) : ∃ ψ', backX τ φ1 k y out ψ1 = some ψ' ∧ Le ψ ψ' := by
  cases k with
  | ptr n =>
    simp only [backX] at hb ⊢
    split at hb
    · rename_i q
      rw [ptX_le h q]
      exact putAt_le h0 hb
    · cases hb
  | «mut» =>
    simp only [backX] at hb ⊢
    split at hb
    · rename_i q
      rw [opX_le' h q (by simp)]
      exact setAt_le h0 hb
    · cases hb
  | magg b =>
    simp only [backX] at hb ⊢
    split at hb
    · rename_i q
      rw [opX_le' h q (by simp)]
      exact putAt_le h0 hb
    · cases hb
  | val => simp only [backX, Option.some.injEq] at hb ⊢; subst hb; exact ⟨_, rfl, h0⟩
  | rptr n => simp only [backX, Option.some.injEq] at hb ⊢; subst hb; exact ⟨_, rfl, h0⟩

theorem backsX_le (h : Le φ φ1) : ∀ {ks : List PK} {ys : List Operand} {os : List X} {ψ0 ψ1 : Fr}, Le ψ0 ψ1 → backsX τ φ ks ys os ψ0 = some ψ → ∃ ψ', backsX τ φ1 ks ys os ψ1 = some ψ' ∧ Le ψ ψ'
  | [], _, _, ψ0, ψ1, h0, hb => by
    simp only [backsX, Option.some.injEq] at hb ⊢
    subst hb; exact ⟨_, rfl, h0⟩
  | k :: ks, [], _, _, _, _, hb => by simp [backsX] at hb
  | k :: ks, _ :: _, [], _, _, _, hb => by simp [backsX] at hb
  | k :: ks, y :: ys, o :: os, ψ0, ψ1, h0, hb => by
    simp only [backsX] at hb ⊢
    split at hb
    · rename_i φ' q
      obtain ⟨φ'', q1, q2⟩ := backX_le h h0 q
      rw [q1]
      exact backsX_le h q2 hb
    · cases hb

theorem resX_le (h : Le φ φ1) {r : ResultVar} {x : X} (hy : resX τ φ r = some x) : resX τ φ1 r = some x := by
  cases r with
  | tmp t =>
    simp only [resX] at hy ⊢
    rw [h.at (by intro e; rw [e] at hy; cases hy)]
    split at hy
    · exact hy
    · exact hy
    · split at hy
      · rename_i q
        rw [h.at (by rw [q]; simp), q]; exact hy
      · cases hy
    · exact hy
    · cases hy
  | cell t ty =>
    simp only [resX] at hy ⊢
    rw [h.at (by intro e; rw [e] at hy; cases hy)]; exact hy

theorem resesX_le (h : Le φ φ1) : ∀ {l : List ResultVar} {xs : List X}, resesX τ φ l = some xs → resesX τ φ1 l = some xs
  | [], _, hy => hy
  | r :: l, xs, hy => by
    simp only [resesX] at hy ⊢
    split at hy
    · rename_i q1 q2
      rw [resX_le h q1, resesX_le h q2]; exact hy
    · cases hy

theorem outX_le (h : Le φ φ1) {i : Nat} {k : PK} {x : X} (hy : outX φ i k = some x) : outX φ1 i k = some x := by
  cases k with
  | ptr n => simp only [outX] at hy ⊢; rw [h.at (by intro e; rw [e] at hy; cases hy)]; exact hy
  | «mut» => simp only [outX] at hy ⊢; rw [h.at (by intro e; rw [e] at hy; cases hy)]; exact hy
  | magg b => simp only [outX] at hy ⊢; rw [h.at (by intro e; rw [e] at hy; cases hy)]; exact hy
  | _ => exact hy

theorem outsX_le (h : Le φ φ1) : ∀ {ks : List PK} {i : Nat} {xs : List X}, outsX φ i ks = some xs → outsX φ1 i ks = some xs
  | [], _, _, hy => hy
  | k :: ks, i, xs, hy => by
    simp only [outsX] at hy ⊢
    split at hy
    · rename_i q1 q2
      rw [outX_le h q1, outsX_le h q2]; exact hy
    · cases hy
end

/-! ## What the walk says, is so -/

section
variable {E : Prog}

/-- From some fuel on, and wherever more is told. -/
def OpsOk (E : Prog) (ops : Array Oper) (l : List Oper) (φ ψ : Fr) : Prop := ∃ k0, ∀ k, k0 ≤ k → ∀ φ1, Le φ φ1 → ∃ ψ1, Le ψ ψ1 ∧ evOps E.τ E.pks (evF E k) ops l φ1 = some ψ1
def OpOk1 (E : Prog) (o : Oper) (φ ψ : Fr) : Prop := ∃ k0, ∀ k, k0 ≤ k → ∀ φ1, Le φ φ1 → ∃ ψ1, Le ψ ψ1 ∧ evOp E.τ E.pks (evF E k) o φ1 = some ψ1
def CodeOk (E : Prog) (c : Code) (φ : Fr) (e : EE) (ψ : Fr) : Prop := ∃ k0, ∀ k, k0 ≤ k → ∀ φ1, Le φ φ1 → ∃ ψ1, Le ψ ψ1 ∧ ∀ kk, k0 ≤ kk → evC E.τ E.pks (evF E k) kk c φ1 = some (e, ψ1)

theorem opP_ok {o : Oper} {φ : Fr} {K : Fr → Prop} (h : opP E o φ K) : ∃ ψ, K ψ ∧ OpOk1 E o φ ψ := by
  have pure : (∀ F φ1, evOp E.τ E.pks F o φ1 = match pureX E.τ φ1 o.op o.type with | some x => some (putRes o.dst [x] φ1) | none => none) → someK (pureX E.τ φ o.op o.type) (fun x => K (putRes o.dst [x] φ)) → ∃ ψ, K ψ ∧ OpOk1 E o φ ψ := by
    rintro he ⟨x, hx, hK⟩
    refine ⟨_, hK, 0, fun k _ φ1 hle => ⟨_, hle.putRes o.dst (by simp), ?_⟩⟩
    rw [he, pureX_le hle hx]
  unfold opP at h
  cases ho : o.op with
  | store t x y =>
    rw [ho] at h
    obtain ⟨p, hp, ψ, hs, hK⟩ := h
    refine ⟨ψ, hK, 0, fun k _ φ1 hle => ?_⟩
    have hy : opX E.τ φ t y ≠ .u := by
      intro e; rw [e] at hs; unfold storeX at hs; split at hs <;> simp_all [X.cells]
    obtain ⟨ψ1, q1, q2⟩ := storeX_le hle hs
    refine ⟨ψ1, q2, ?_⟩
    unfold evOp
    rw [ho]
    simp only
    rw [ptX_le hle hp, opX_le hle t y hy]
    exact q1
  | call c =>
    rw [ho] at h
    simp only at h
    cases hc : c.callee with
    | value v =>
      rw [hc] at h
      cases v with
      | func f =>
        obtain ⟨ks, hks, as, has, rs, outs, ⟨k0, hr⟩, h8, φ', hb, hK⟩ := h
        refine ⟨_, hK, k0, fun k hk φ1 hle => ?_⟩
        obtain ⟨ψ', q1, q2⟩ := backsX_le hle hle hb
        refine ⟨_, q2.putRes o.dst h8, ?_⟩
        unfold evOp
        rw [ho]
        simp only [hc]
        unfold callX
        rw [hks]
        simp only
        rw [argsX_leA hle has]
        simp only [List.append_nil]
        rw [hr k hk]
        simp only
        rw [if_pos h8, q1]
      | _ => exact h.elim
    | builtin b =>
      rw [hc] at h
      refine pure (fun F φ1 => ?_) (by rw [ho]; exact h)
      unfold evOp; rw [ho]; simp only [hc]; rfl
    | invoke r m =>
      rw [hc] at h
      refine pure (fun F φ1 => ?_) (by rw [ho]; exact h)
      unfold evOp; rw [ho]; simp only [hc]; rfl
  | _ =>
    rw [ho] at h
    refine pure (fun F φ1 => ?_) (by rw [ho]; exact h)
    unfold evOp; rw [ho]; rfl

theorem opsP_ok {ops : Array Oper} : ∀ {l : List Oper} {φ : Fr} {K : Fr → Prop}, opsP E ops l φ K → ∃ ψ, K ψ ∧ OpsOk E ops l φ ψ
  | [], φ, K, h => ⟨φ, h, 0, fun k _ φ1 hle => ⟨φ1, hle, rfl⟩⟩
  | o :: l, φ, K, h => by
    have go : opP E o φ (fun φ' => opsP E ops l φ' K) → ∃ ψ, K ψ ∧ ∃ k0, ∀ k, k0 ≤ k → ∀ φ1, Le φ φ1 → ∃ φ' ψ1, Le ψ ψ1 ∧ evOp E.τ E.pks (evF E k) o φ1 = some φ' ∧ evOps E.τ E.pks (evF E k) ops l φ' = some ψ1 := by
      intro h
      obtain ⟨ψ0, hK0, k0, h0⟩ := opP_ok h
      obtain ⟨ψ, hK, k1, h1⟩ := opsP_ok hK0
      refine ⟨ψ, hK, max k0 k1, fun k hk φ1 hle => ?_⟩
      obtain ⟨φ', q1, q2⟩ := h0 k (by omega) φ1 hle
      obtain ⟨ψ1, q3, q4⟩ := h1 k (by omega) φ' q1
      exact ⟨φ', ψ1, q3, q2, q4⟩
    unfold opsP at h
    split at h
    · rename_i hg
      obtain ⟨ψ, hK, k0, h0⟩ := go h
      refine ⟨ψ, hK, k0, fun k hk φ1 hle => ?_⟩
      obtain ⟨φ', ψ1, q1, q2, q3⟩ := h0 k hk φ1 hle
      refine ⟨ψ1, q1, ?_⟩
      simp only [evOps, hg, q2]
      exact q3
    · rename_i j want hg
      obtain ⟨d, hd, v, hv, b, rfl, hb1, hb2⟩ := h
      have hval : ∀ φ1, Le φ φ1 → (φ1 d).val = some (.bool b) := by
        intro φ1 hle
        rw [hle.at (by intro e; rw [e] at hv; cases hv)]; exact hv
      by_cases hbw : b = want
      · obtain ⟨ψ, hK, k0, h0⟩ := go (hb1 hbw)
        refine ⟨ψ, hK, k0, fun k hk φ1 hle => ?_⟩
        obtain ⟨φ', ψ1, q1, q2, q3⟩ := h0 k hk φ1 hle
        refine ⟨ψ1, q1, ?_⟩
        simp only [evOps, hg, hd, hval φ1 hle]
        rw [if_pos hbw, q2]
        exact q3
      · obtain ⟨ψ, hK, k0, h0⟩ := opsP_ok (hb2 hbw)
        refine ⟨ψ, hK, k0, fun k hk φ1 hle => ?_⟩
        obtain ⟨ψ1, q1, q2⟩ := h0 k hk _ (hle.putRes o.dst (rs := []) (by simp))
        refine ⟨ψ1, q1, ?_⟩
        simp only [evOps, hg, hd, hval φ1 hle]
        rw [if_neg hbw]
        exact q2

theorem codeP_ok {Dr : Nat → List Nat} : ∀ {c : Code} {φ : Fr} {Q : EE → Fr → Prop}, drOk Dr c = true → codeP E Dr c φ Q → ∃ e ψ, Q e ψ ∧ CodeOk E c φ e ψ := by
  intro c
  induction c with
  | skip => intro φ Q hd h; exact ⟨_, _, h, 0, fun k _ φ1 hle => ⟨φ1, hle, fun kk _ => rfl⟩⟩
  | region id ops dr =>
    intro φ Q hd h
    cases dr with
    | false =>
      simp only [codeP] at h
      obtain ⟨ψ, hK, k0, h0⟩ := opsP_ok h
      refine ⟨_, _, hK, k0, fun k hk φ1 hle => ?_⟩
      obtain ⟨ψ1, q1, q2⟩ := h0 k hk φ1 hle
      exact ⟨ψ1, q1, fun kk _ => by simp [evC, q2]⟩
    | true =>
      simp only [codeP] at h
      obtain ⟨ψ, hK, k0, h0⟩ := opsP_ok h
      refine ⟨_, _, hK, k0, fun k hk φ1 hle => ?_⟩
      simp only [drOk] at hd
      obtain ⟨ψ1, q1, q2⟩ := h0 k hk _ ((hle.clrX _).trans (clr_more hd φ1))
      refine ⟨ψ1, q1, fun kk _ => ?_⟩
      simp only [evC, if_true]
      rw [show clrX (dstsOf (ops.toList.take (cutOf ops.toList))) φ1 = clrX (clrDs ops) φ1 from rfl, q2]
      rfl
  | seq a b iha ihb =>
    intro φ Q hd h
    simp only [codeP] at h
    simp only [drOk, Bool.and_eq_true] at hd
    obtain ⟨e, ψ, hQ, k0, h0⟩ := iha hd.1 h
    cases e with
    | normal =>
      obtain ⟨e2, ψ2, hQ2, k1, h1⟩ := ihb hd.2 hQ
      refine ⟨e2, ψ2, hQ2, max k0 k1, fun k hk φ1 hle => ?_⟩
      obtain ⟨ψ1, q1, q2⟩ := h0 k (by omega) φ1 hle
      obtain ⟨ψ3, q3, q4⟩ := h1 k (by omega) ψ1 q1
      exact ⟨ψ3, q3, fun kk hkk => by simp only [evC, q2 kk (by omega), q4 kk (by omega)]⟩
    | exit id =>
      refine ⟨_, _, hQ, k0, fun k hk φ1 hle => ?_⟩
      obtain ⟨ψ1, q1, q2⟩ := h0 k hk φ1 hle
      exact ⟨ψ1, q1, fun kk hkk => by simp only [evC, q2 kk hkk]⟩
    | ret =>
      refine ⟨_, _, hQ, k0, fun k hk φ1 hle => ?_⟩
      obtain ⟨ψ1, q1, q2⟩ := h0 k hk φ1 hle
      exact ⟨ψ1, q1, fun kk hkk => by simp only [evC, q2 kk hkk]⟩
  | cond x a b iha ihb =>
    intro φ Q hd h
    simp only [codeP] at h
    obtain ⟨v, hv, t, rfl, h1, h2⟩ := h
    cases t with
    | true =>
      obtain ⟨e, ψ, hQ, k0, h0⟩ := iha (by simp only [drOk, Bool.and_eq_true] at hd; exact hd.1) (h1 rfl)
      refine ⟨e, ψ, hQ, k0, fun k hk φ1 hle => ?_⟩
      obtain ⟨ψ1, q1, q2⟩ := h0 k hk φ1 hle
      exact ⟨ψ1, q1, fun kk hkk => by simp only [evC, val_le hle hv, if_true, q2 kk hkk]⟩
    | false =>
      obtain ⟨e, ψ, hQ, k0, h0⟩ := ihb (by simp only [drOk, Bool.and_eq_true] at hd; exact hd.2) (h2 rfl)
      refine ⟨e, ψ, hQ, k0, fun k hk φ1 hle => ?_⟩
      obtain ⟨ψ1, q1, q2⟩ := h0 k hk φ1 hle
      exact ⟨ψ1, q1, fun kk hkk => by simp only [evC, val_le hle hv, Bool.false_eq_true, if_false, q2 kk hkk]⟩
  | block id c ih =>
    intro φ Q hd h
    simp only [codeP] at h
    obtain ⟨e, ψ, hQ, k0, h0⟩ := ih (by simpa only [drOk] using hd) h
    by_cases he : e = .exit id
    · rw [if_pos he] at hQ
      refine ⟨_, _, hQ, k0, fun k hk φ1 hle => ?_⟩
      obtain ⟨ψ1, q1, q2⟩ := h0 k hk φ1 hle
      exact ⟨ψ1, q1, fun kk hkk => by simp [evC, q2 kk hkk, he]⟩
    · rw [if_neg he] at hQ
      refine ⟨_, _, hQ, k0, fun k hk φ1 hle => ?_⟩
      obtain ⟨ψ1, q1, q2⟩ := h0 k hk φ1 hle
      refine ⟨ψ1, q1, fun kk hkk => ?_⟩
      simp only [evC, q2 kk hkk]
      cases e with
      | normal => rfl
      | ret => rfl
      | exit id' => simp only; rw [if_neg (by rintro rfl; exact he rfl)]
  | loop c ih =>
    intro φ Q hd h
    simp only [codeP] at h
    obtain ⟨I, n, φ0, hle0, hI, hround⟩ := h
    -- by the number that falls
    have key : ∀ n ψ, I n ψ → ∃ e ψ', Q e ψ' ∧ ∃ k0, ∀ k, k0 ≤ k → ∀ ψ1, Le ψ ψ1 → ∃ ψ2, Le ψ' ψ2 ∧ ∀ kk, k0 ≤ kk → ∀ j, k0 ≤ j → iter (evC E.τ E.pks (evF E k) kk c) j ψ1 = some (e, ψ2) := by
      intro n
      induction n using Nat.strongRecOn with
      | _ n ihn =>
        intro ψ hI
        obtain ⟨e, ψ', hQ, k0, h0⟩ := ih (by simpa only [drOk] using hd) (hround n ψ hI)
        cases e with
        | normal =>
          obtain ⟨m, ψ0, hm, hle, hI'⟩ := hQ
          obtain ⟨e2, ψ2, hQ2, k1, h1⟩ := ihn m hm ψ0 hI'
          refine ⟨e2, ψ2, hQ2, max k0 k1 + 1, fun k hk ψ1 hl1 => ?_⟩
          obtain ⟨ψ3, q1, q2⟩ := h0 k (by omega) ψ1 hl1
          obtain ⟨ψ4, q3, q4⟩ := h1 k (by omega) ψ3 (hle.trans q1)
          refine ⟨ψ4, q3, fun kk hkk j hj => ?_⟩
          cases j with
          | zero => omega
          | succ j => simp only [iter, q2 kk (by omega)]; exact q4 kk (by omega) j (by omega)
        | exit id =>
          refine ⟨_, _, hQ, k0 + 1, fun k hk ψ1 hl1 => ?_⟩
          obtain ⟨ψ3, q1, q2⟩ := h0 k (by omega) ψ1 hl1
          refine ⟨ψ3, q1, fun kk hkk j hj => ?_⟩
          cases j with
          | zero => omega
          | succ j => simp only [iter, q2 kk (by omega)]
        | ret =>
          refine ⟨_, _, hQ, k0 + 1, fun k hk ψ1 hl1 => ?_⟩
          obtain ⟨ψ3, q1, q2⟩ := h0 k (by omega) ψ1 hl1
          refine ⟨ψ3, q1, fun kk hkk j hj => ?_⟩
          cases j with
          | zero => omega
          | succ j => simp only [iter, q2 kk (by omega)]
    obtain ⟨e, ψ', hQ, k0, h0⟩ := key n φ0 hI
    refine ⟨e, ψ', hQ, k0, fun k hk φ1 hle => ?_⟩
    obtain ⟨ψ2, q1, q2⟩ := h0 k hk φ1 (hle0.trans hle)
    exact ⟨ψ2, q1, fun kk hkk => by simp only [evC]; exact q2 kk hkk kk hkk⟩
  | exit id => intro φ Q hd h; exact ⟨_, _, h, 0, fun k _ φ1 hle => ⟨φ1, hle, fun kk _ => rfl⟩⟩
  | ret => intro φ Q hd h; exact ⟨_, _, h, 0, fun k _ φ1 hle => ⟨φ1, hle, fun kk _ => rfl⟩⟩
  | _ => intro φ Q hd h; exact h.elim

/-- A function, by a walk of its body. -/
theorem runs_by {Dr : Nat → List Nat} {f : Nat} {fn : Func} {c : Code} {ks : List PK} {xs rs outs : List X} (hp : E.prims f = none) (hf : E.funcs f = some fn) (hb : fn.body = some c) (hk : E.pks f = some ks) (hl : xs.length = ks.length) (hd : drOk Dr c = true)
    (h : codeP E Dr c (args0 xs) fun e φ => (e = .normal ∨ e = .ret) ∧ resesX E.τ φ fn.results.toList = some rs ∧ outsX φ 0 ks = some outs) : Runs E f xs rs outs := by
  obtain ⟨e, ψ, ⟨he, hr, ho⟩, k0, h0⟩ := codeP_ok hd h
  refine ⟨k0 + 1, fun k hk' => ?_⟩
  cases k with
  | zero => omega
  | succ k =>
    obtain ⟨ψ1, q1, q2⟩ := h0 k (by omega) _ (.refl _)
    simp only [evF, hp, hf, hk, hb]
    rw [if_pos hl, q2 k (by omega)]
    rcases he with rfl | rfl <;> simp only [resesX_le q1 hr, outsX_le q1 ho]
end
end Go.Ev

/- A walk in plain data, by rules that reckon. -/
namespace Go.Ev

/-- A frame as a list of slots. -/
def lk : List (Nat × X) → Nat → X
  | [], _ => .u
  | (y, a) :: l, x => if x = y then a else lk l x
def mk (l : List (Nat × X)) : Fr := fun s => lk l s
def ins (t : Nat) (x : X) : List (Nat × X) → List (Nat × X)
  | [] => [(t, x)]
  | (y, a) :: l => if t = y then (t, x) :: l else (y, a) :: ins t x l
def clrL (ds : List Nat) : List (Nat × X) → List (Nat × X)
  | [] => []
  | (y, a) :: l => if isHit ds y then clrL ds l else (y, a) :: clrL ds l

attribute [simp] lk ins clrL

@[simp] theorem mk_at (l : List (Nat × X)) (s : Nat) : mk l s = lk l s := rfl

theorem lk_ins (t : Nat) (x : X) : ∀ (l : List (Nat × X)) (s : Nat), lk (ins t x l) s = if s = t then x else lk l s
  | [], s => by simp
  | (y, a) :: l, s => by
    have ih := lk_ins t x l s
    simp only [ins]
    by_cases e : t = y
    · subst e
      rw [if_pos rfl]
      simp only [lk]
      by_cases e : s = t <;> simp [e]
    · rw [if_neg e]
      simp only [lk]
      by_cases e1 : s = y
      · subst e1
        rw [if_pos rfl, if_pos rfl, if_neg (fun h => e h.symm)]
      · rw [if_neg e1, if_neg e1]; exact ih

@[simp] theorem upd_mk (l : List (Nat × X)) (t : Nat) (x : X) : upd (mk l) t x = mk (ins t x l) := by
  funext s
  simp only [mk, lk_ins, upd]

theorem lk_clrL (ds : List Nat) : ∀ (l : List (Nat × X)) (s : Nat), lk (clrL ds l) s = if isHit ds s then .u else lk l s
  | [], s => by simp
  | (y, a) :: l, s => by
    have ih := lk_clrL ds l s
    simp only [clrL]
    by_cases e : isHit ds y = true
    · rw [if_pos e, ih]
      simp only [lk]
      by_cases e1 : s = y
      · subst e1; simp [e]
      · simp [e1]
    · rw [if_neg e]
      simp only [lk]
      by_cases e1 : s = y
      · subst e1; simp [e]
      · rw [if_neg e1, if_neg e1]; exact ih

@[simp] theorem clr_mk (ds : List Nat) (l : List (Nat × X)) : clrX ds (mk l) = mk (clrL ds l) := by
  funext s
  simp only [mk, lk_clrL, clrX]

@[simp] theorem args0_0 : args0 [] = mk [] := by funext s; rfl
@[simp] theorem args0_1 (a : X) : args0 [a] = mk [(0, a)] := by
  funext s; rcases s with _ | s <;> simp [args0, mk]
@[simp] theorem args0_2 (a b : X) : args0 [a, b] = mk [(0, a), (1, b)] := by
  funext s; rcases s with _ | _ | s <;> simp [args0, mk]
@[simp] theorem args0_3 (a b c : X) : args0 [a, b, c] = mk [(0, a), (1, b), (2, c)] := by
  funext s; rcases s with _ | _ | _ | s <;> simp [args0, mk]
@[simp] theorem args0_4 (a b c d : X) : args0 [a, b, c, d] = mk [(0, a), (1, b), (2, c), (3, d)] := by
  funext s; rcases s with _ | _ | _ | _ | s <;> simp [args0, mk]

/-- What a frame holds at its head. -/
def headL : List (Nat × X) → Fr → Prop
  | [], _ => True
  | (y, a) :: T, ψ => ψ y = a ∧ headL T ψ
attribute [simp] headL

theorem headL_le : ∀ {T : List (Nat × X)} {ψ : Fr}, headL T ψ → Le (mk T) ψ
  | [], ψ, _ => fun s => .inl rfl
  | (y, a) :: T, ψ, h => fun s => by
    have ih := headL_le h.2 s
    simp only [mk_at, lk]
    by_cases e : s = y
    · subst e; rw [if_pos rfl]; exact .inr h.1
    · rw [if_neg e]; exact ih

inductive Job where
  | code (c : Code)
  | ops (ops : Array Oper) (rest : List Oper)
  | blk (id : Nat)

/-- What is left to be done, behind an end. -/
def runW (E : Prog) (Dr : Nat → List Nat) (R : EE → Fr → Prop) : List Job → EE → Fr → Prop
  | [], e, φ => R e φ
  | .code c :: js, .normal, φ => codeP E Dr c φ (runW E Dr R js)
  | .code _ :: js, e, φ => runW E Dr R js e φ
  | .ops ops rest :: js, .normal, φ => opsP E ops rest φ (runW E Dr R js .normal)
  | .ops _ _ :: js, e, φ => runW E Dr R js e φ
  | .blk id :: js, .exit id', φ => if id' = id then runW E Dr R js .normal φ else runW E Dr R js (.exit id') φ
  | .blk _ :: js, e, φ => runW E Dr R js e φ

def condD (E : Prog) (Dr : Nat → List Nat) (R : EE → Fr → Prop) (x : X) (a b : Code) (js : List Job) (φ : Fr) : Prop :=
  someK x.val fun v => ∃ t, v = .bool t ∧ (t = true → runW E Dr R (.code a :: js) .normal φ) ∧ (t = false → runW E Dr R (.code b :: js) .normal φ)

def guardD (E : Prog) (Dr : Nat → List Nat) (R : EE → Fr → Prop) (x : X) (want : Bool) (o : Oper) (ops : Array Oper) (rest : List Oper) (js : List Job) (φ : Fr) : Prop :=
  someK x.val fun v => ∃ b, v = .bool b ∧ (b = want → runW E Dr R (.ops ops ({ o with guard := none } :: rest) :: js) .normal φ) ∧ (b ≠ want → runW E Dr R (.ops ops rest :: js) .normal (putRes o.dst [] φ))

def afterP (E : Prog) (Dr : Nat → List Nat) (R : EE → Fr → Prop) (r : Option X) (dst : Option Tmp) (js : List Job) (φ : Fr) : Prop := someK r fun x => runW E Dr R js .normal (putRes dst [x] φ)

def storeD (E : Prog) (Dr : Nat → List Nat) (R : EE → Fr → Prop) (r : Option Fr) (js : List Job) : Prop := someK r (runW E Dr R js .normal)

/-- Behind a call: what it gave is put down. -/
def backD (E : Prog) (Dr : Nat → List Nat) (R : EE → Fr → Prop) (ks : List PK) (args : List Operand) (dst : Option Tmp) (js : List Job) (φ : Fr) (rs outs : List X) : Prop :=
  rs.length ≤ 8 ∧ storeD E Dr R ((backsX E.τ φ ks args outs φ).map (putRes dst rs)) js

def callD (E : Prog) (Dr : Nat → List Nat) (R : EE → Fr → Prop) (f : Nat) (as : Option (List X)) (ks : List PK) (args : List Operand) (dst : Option Tmp) (js : List Job) (φ : Fr) : Prop :=
  someK as fun as => callK E f as (backD E Dr R ks args dst js φ)

def loopD (E : Prog) (Dr : Nat → List Nat) (R : EE → Fr → Prop) (c : Code) (js : List Job) (φ : Fr) : Prop := LoopP (codeP E Dr c) φ (runW E Dr R js)

section
variable {E : Prog} {Dr : Nat → List Nat} {R : EE → Fr → Prop} {js : List Job} {φ : Fr}

@[simp] theorem run_nil (e : EE) : runW E Dr R [] e φ = R e φ := propext ⟨fun h => h, fun h => h⟩
@[simp] theorem run_skip : runW E Dr R (.code .skip :: js) .normal φ = runW E Dr R js .normal φ := propext ⟨fun h => h, fun h => h⟩
@[simp] theorem run_ret : runW E Dr R (.code .ret :: js) .normal φ = runW E Dr R js .ret φ := propext ⟨fun h => h, fun h => h⟩
@[simp] theorem run_exit (id : Nat) : runW E Dr R (.code (.exit id) :: js) .normal φ = runW E Dr R js (.exit id) φ := propext ⟨fun h => h, fun h => h⟩
theorem runW_code (c : Code) : runW E Dr R (.code c :: js) = fun e φ => match e with
    | .normal => codeP E Dr c φ (runW E Dr R js)
    | e => runW E Dr R js e φ := by
  funext e φ; cases e <;> rfl
@[simp] theorem run_seq (a b : Code) : runW E Dr R (.code (.seq a b) :: js) .normal φ = runW E Dr R (.code a :: .code b :: js) .normal φ := by
  show codeP E Dr a φ _ = codeP E Dr a φ _
  rw [runW_code] <;> congr 1
@[simp] theorem run_block (id : Nat) (c : Code) : runW E Dr R (.code (.block id c) :: js) .normal φ = runW E Dr R (.code c :: .blk id :: js) .normal φ := by
  show codeP E Dr c φ _ = codeP E Dr c φ _
  congr 1
  funext e φ
  cases e with
  | normal => simp [runW]
  | exit id' => simp [runW]
  | ret => simp [runW]
@[simp] theorem run_region (id : Nat) (ops : Array Oper) : runW E Dr R (.code (.region id ops false) :: js) .normal φ = runW E Dr R (.ops ops ops.toList :: js) .normal φ := propext ⟨fun h => h, fun h => h⟩
@[simp] theorem run_drawn (id : Nat) (ops : Array Oper) : runW E Dr R (.code (.region id ops true) :: js) .normal φ = runW E Dr R (.ops ops ops.toList :: js) .normal (clrX (Dr id) φ) := propext ⟨fun h => h, fun h => h⟩
@[simp] theorem run_cond (c : Operand) (a b : Code) : runW E Dr R (.code (.cond c a b) :: js) .normal φ = condD E Dr R (opX E.τ φ 0 c) a b js φ := propext ⟨fun h => h, fun h => h⟩
@[simp] theorem run_loop (c : Code) : runW E Dr R (.code (.loop c) :: js) .normal φ = loopD E Dr R c js φ := propext ⟨fun h => h, fun h => h⟩
@[simp] theorem run_code_exit (c : Code) (id : Nat) : runW E Dr R (.code c :: js) (.exit id) φ = runW E Dr R js (.exit id) φ := propext ⟨fun h => h, fun h => h⟩
@[simp] theorem run_code_ret (c : Code) : runW E Dr R (.code c :: js) .ret φ = runW E Dr R js .ret φ := propext ⟨fun h => h, fun h => h⟩
@[simp] theorem run_ops_exit (ops : Array Oper) (rest : List Oper) (id' : Nat) : runW E Dr R (.ops ops rest :: js) (.exit id') φ = runW E Dr R js (.exit id') φ := propext ⟨fun h => h, fun h => h⟩
@[simp] theorem run_ops_ret (ops : Array Oper) (rest : List Oper) : runW E Dr R (.ops ops rest :: js) .ret φ = runW E Dr R js .ret φ := propext ⟨fun h => h, fun h => h⟩
@[simp] theorem run_blk (id : Nat) : runW E Dr R (.blk id :: js) .normal φ = runW E Dr R js .normal φ := propext ⟨fun h => h, fun h => h⟩
@[simp] theorem run_blk_ret (id : Nat) : runW E Dr R (.blk id :: js) .ret φ = runW E Dr R js .ret φ := propext ⟨fun h => h, fun h => h⟩
@[simp] theorem run_blk_exit (id id' : Nat) : runW E Dr R (.blk id :: js) (.exit id') φ = if id' = id then runW E Dr R js .normal φ else runW E Dr R js (.exit id') φ := propext ⟨fun h => h, fun h => h⟩
@[simp] theorem run_ops_nil (ops : Array Oper) : runW E Dr R (.ops ops [] :: js) .normal φ = runW E Dr R js .normal φ := propext ⟨fun h => h, fun h => h⟩

/-- The operations that leave nothing but a result. -/
def isP (o : Op) : Bool := match o with
  | .store _ _ _ => false
  | .call c => match c.callee with
    | .value _ => false
    | _ => true
  | _ => true

theorem run_op {ops : Array Oper} {dst : Option Tmp} {op : Op} {ty : TypeId} {pos : String} {after : Array Edge} {rest : List Oper} (hc : isP op = true) :
    runW E Dr R (.ops ops ({ dst := dst, op := op, type := ty, pos := pos, after := after, guard := none } :: rest) :: js) .normal φ = afterP E Dr R (pureX E.τ φ op ty) dst (.ops ops rest :: js) φ := by
  show opP E _ φ _ = _
  unfold opP afterP
  cases op with
  | store x y z => cases hc
  | call c =>
    simp only [isP] at hc
    simp only
    split
    · rename_i e; rw [e] at hc; cases hc
    · rename_i e; rw [e] at hc; cases hc
    · rfl
  | _ => rfl
end
end Go.Ev

/- The rules of a walk, one by one. -/
namespace Go.Ev
section
variable {E : Prog} {Dr : Nat → List Nat} {R : EE → Fr → Prop} {js : List Job} {φ : Fr} {ops : Array Oper} {dst : Option Tmp} {ty : TypeId} {pos : String} {after : Array Edge} {rest : List Oper}

@[simp] theorem run_move (x : Operand) : runW E Dr R (.ops ops ({ dst := dst, op := .move x, type := ty, pos := pos, after := after, guard := none } :: rest) :: js) .normal φ = afterP E Dr R (pureX E.τ φ (.move x) ty) dst (.ops ops rest :: js) φ := run_op rfl
@[simp] theorem run_assign (x : Operand) : runW E Dr R (.ops ops ({ dst := dst, op := .assign x, type := ty, pos := pos, after := after, guard := none } :: rest) :: js) .normal φ = afterP E Dr R (pureX E.τ φ (.assign x) ty) dst (.ops ops rest :: js) φ := run_op rfl
@[simp] theorem run_pick (x y z : Operand) : runW E Dr R (.ops ops ({ dst := dst, op := .pick x y z, type := ty, pos := pos, after := after, guard := none } :: rest) :: js) .normal φ = afterP E Dr R (pureX E.τ φ (.pick x y z) ty) dst (.ops ops rest :: js) φ := run_op rfl
@[simp] theorem run_alloc (t : TypeId) : runW E Dr R (.ops ops ({ dst := dst, op := .alloc t, type := ty, pos := pos, after := after, guard := none } :: rest) :: js) .normal φ = afterP E Dr R (pureX E.τ φ (.alloc t) ty) dst (.ops ops rest :: js) φ := run_op rfl
@[simp] theorem run_box (t : TypeId) (x : Operand) : runW E Dr R (.ops ops ({ dst := dst, op := .box t x, type := ty, pos := pos, after := after, guard := none } :: rest) :: js) .normal φ = afterP E Dr R (pureX E.τ φ (.box t x) ty) dst (.ops ops rest :: js) φ := run_op rfl
@[simp] theorem run_load (t : TypeId) (x : Operand) : runW E Dr R (.ops ops ({ dst := dst, op := .load t x, type := ty, pos := pos, after := after, guard := none } :: rest) :: js) .normal φ = afterP E Dr R (pureX E.τ φ (.load t x) ty) dst (.ops ops rest :: js) φ := run_op rfl
@[simp] theorem run_nilCheck (x : Operand) : runW E Dr R (.ops ops ({ dst := dst, op := .nilCheck x, type := ty, pos := pos, after := after, guard := none } :: rest) :: js) .normal φ = afterP E Dr R (pureX E.τ φ (.nilCheck x) ty) dst (.ops ops rest :: js) φ := run_op rfl
@[simp] theorem run_binOp (b : BinOp) (t t' : TypeId) (x y : Operand) : runW E Dr R (.ops ops ({ dst := dst, op := .binOp b t x y t', type := ty, pos := pos, after := after, guard := none } :: rest) :: js) .normal φ = afterP E Dr R (pureX E.τ φ (.binOp b t x y t') ty) dst (.ops ops rest :: js) φ := run_op rfl
@[simp] theorem run_unOp (u : UnOp) (t : TypeId) (x : Operand) : runW E Dr R (.ops ops ({ dst := dst, op := .unOp u t x, type := ty, pos := pos, after := after, guard := none } :: rest) :: js) .normal φ = afterP E Dr R (pureX E.τ φ (.unOp u t x) ty) dst (.ops ops rest :: js) φ := run_op rfl
@[simp] theorem run_fieldAddr (t : TypeId) (x : Operand) (f : Nat) : runW E Dr R (.ops ops ({ dst := dst, op := .fieldAddr t x f, type := ty, pos := pos, after := after, guard := none } :: rest) :: js) .normal φ = afterP E Dr R (pureX E.τ φ (.fieldAddr t x f) ty) dst (.ops ops rest :: js) φ := run_op rfl
@[simp] theorem run_indexAddr (t : TypeId) (x y : Operand) : runW E Dr R (.ops ops ({ dst := dst, op := .indexAddr t x y, type := ty, pos := pos, after := after, guard := none } :: rest) :: js) .normal φ = afterP E Dr R (pureX E.τ φ (.indexAddr t x y) ty) dst (.ops ops rest :: js) φ := run_op rfl
@[simp] theorem run_index (t : TypeId) (x y : Operand) : runW E Dr R (.ops ops ({ dst := dst, op := .index t x y, type := ty, pos := pos, after := after, guard := none } :: rest) :: js) .normal φ = afterP E Dr R (pureX E.τ φ (.index t x y) ty) dst (.ops ops rest :: js) φ := run_op rfl
@[simp] theorem run_extract (x : Operand) (j : Nat) : runW E Dr R (.ops ops ({ dst := dst, op := .extract x j, type := ty, pos := pos, after := after, guard := none } :: rest) :: js) .normal φ = afterP E Dr R (pureX E.τ φ (.extract x j) ty) dst (.ops ops rest :: js) φ := run_op rfl
@[simp] theorem run_slice (t : TypeId) (x : Operand) (lo hi mx : Option Operand) : runW E Dr R (.ops ops ({ dst := dst, op := .slice t x lo hi mx, type := ty, pos := pos, after := after, guard := none } :: rest) :: js) .normal φ = afterP E Dr R (pureX E.τ φ (.slice t x lo hi mx) ty) dst (.ops ops rest :: js) φ := run_op rfl
@[simp] theorem run_convert (s d : TypeId) (x : Operand) : runW E Dr R (.ops ops ({ dst := dst, op := .convert s d x, type := ty, pos := pos, after := after, guard := none } :: rest) :: js) .normal φ = afterP E Dr R (pureX E.τ φ (.convert s d x) ty) dst (.ops ops rest :: js) φ := run_op rfl
@[simp] theorem run_makeSlice (t : TypeId) (x y : Operand) : runW E Dr R (.ops ops ({ dst := dst, op := .makeSlice t x y, type := ty, pos := pos, after := after, guard := none } :: rest) :: js) .normal φ = afterP E Dr R (pureX E.τ φ (.makeSlice t x y) ty) dst (.ops ops rest :: js) φ := run_op rfl
@[simp] theorem run_build (t : TypeId) (ps : Array (Nat × Operand)) : runW E Dr R (.ops ops ({ dst := dst, op := .build t ps, type := ty, pos := pos, after := after, guard := none } :: rest) :: js) .normal φ = afterP E Dr R (pureX E.τ φ (.build t ps) ty) dst (.ops ops rest :: js) φ := run_op rfl
@[simp] theorem run_buildSlice (t n : Nat) (ps : Array (Nat × Operand)) : runW E Dr R (.ops ops ({ dst := dst, op := .buildSlice t n ps, type := ty, pos := pos, after := after, guard := none } :: rest) :: js) .normal φ = afterP E Dr R (pureX E.τ φ (.buildSlice t n ps) ty) dst (.ops ops rest :: js) φ := run_op rfl
@[simp] theorem run_builtin (b : Builtin) (args : Array Operand) (ts : Array TypeId) : runW E Dr R (.ops ops ({ dst := dst, op := .call { callee := .builtin b, args := args, argTypes := ts }, type := ty, pos := pos, after := after, guard := none } :: rest) :: js) .normal φ = afterP E Dr R (pureX E.τ φ (.call { callee := .builtin b, args := args, argTypes := ts }) ty) dst (.ops ops rest :: js) φ := run_op rfl

@[simp] theorem run_store {t : TypeId} {p x : Operand} :
    runW E Dr R (.ops ops ({ dst := none, op := .store t p x, type := ty, pos := pos, after := after, guard := none } :: rest) :: js) .normal φ = storeD E Dr R ((ptX φ p).bind fun q => storeX E.τ φ t q (opX E.τ φ t x)) (.ops ops rest :: js) := by
  show someK _ _ = someK _ _
  unfold someK
  apply propext
  constructor
  · rintro ⟨q, h1, ψ, h2, h3⟩; exact ⟨ψ, by simp [h1, h2], h3⟩
  · rintro ⟨ψ, h1, h2⟩
    cases hq : ptX φ p with
    | none => rw [hq] at h1; cases h1
    | some q => rw [hq] at h1; exact ⟨q, rfl, ψ, h1, h2⟩

@[simp] theorem run_call {f : Nat} {args : Array Operand} {ts : Array TypeId} :
    runW E Dr R (.ops ops ({ dst := dst, op := .call { callee := .value (.func f), args := args, argTypes := ts }, type := ty, pos := pos, after := after, guard := none } :: rest) :: js) .normal φ =
      someK (E.pks f) fun ks => callD E Dr R f (argsX E.τ φ (ks.take args.size) args.toList ts.toList) (ks.take args.size) args.toList dst (.ops ops rest :: js) φ := by
  show someK _ _ = _
  congr 1
  funext ks
  show someK _ _ = someK _ _
  congr 1
  funext as
  unfold callK
  apply propext
  constructor
  · rintro ⟨rs, outs, h1, h2, ψ, h3, h4⟩
    refine ⟨rs, outs, h1, h2, putRes dst rs ψ, ?_, h4⟩
    simp only at h3
    rw [h3]; rfl
  · rintro ⟨rs, outs, h1, h2, ψ, h3, h4⟩
    rw [Option.map_eq_some_iff] at h3
    obtain ⟨ψ0, h5, rfl⟩ := h3
    exact ⟨rs, outs, h1, h2, ψ0, h5, h4⟩

@[simp] theorem run_guard {op : Op} {j : Nat} {want : Bool} :
    runW E Dr R (.ops ops ({ dst := dst, op := op, type := ty, pos := pos, after := after, guard := some (j, want) } :: rest) :: js) .normal φ =
      someK ((ops[j]?).bind (·.dst)) fun d => guardD E Dr R (φ d) want { dst := dst, op := op, type := ty, pos := pos, after := after, guard := some (j, want) } ops rest js φ := propext ⟨fun h => h, fun h => h⟩

@[simp] theorem someK_some {α : Type} (x : α) (K : α → Prop) : someK (some x) K = K x := by
  apply propext
  constructor
  · rintro ⟨y, e, h⟩; cases e; exact h
  · intro h; exact ⟨x, rfl, h⟩

@[simp] theorem someK_if {α : Type} {c : Prop} [Decidable c] (x : α) (K : α → Prop) : someK (if c then some x else none) K = (c ∧ K x) := by
  apply propext
  by_cases h : c <;> simp [h, someK]

@[simp] theorem someK_if' {α : Type} {c : Prop} [Decidable c] (x : α) (K : α → Prop) : someK (if c then none else some x) K = (¬ c ∧ K x) := by
  apply propext
  by_cases h : c <;> simp [h, someK]

@[simp] theorem after_some (x : X) : afterP E Dr R (some x) dst js φ = runW E Dr R js .normal (putRes dst [x] φ) := someK_some _ _
@[simp] theorem after_if {c : Prop} [Decidable c] (x : X) : afterP E Dr R (if c then some x else none) dst js φ = (c ∧ runW E Dr R js .normal (putRes dst [x] φ)) := someK_if _ _
@[simp] theorem store_some (ψ : Fr) : storeD E Dr R (some ψ) js = runW E Dr R js .normal ψ := someK_some _ _
@[simp] theorem store_if {c : Prop} [Decidable c] (ψ : Fr) : storeD E Dr R (if c then some ψ else none) js = (c ∧ runW E Dr R js .normal ψ) := someK_if _ _

@[simp] theorem cond_tt (a b : Code) (o : Option Pl) : condD E Dr R (.d (.v (.bool true)) o) a b js φ = runW E Dr R (.code a :: js) .normal φ := by simp [condD, X.val]
@[simp] theorem cond_ff (a b : Code) (o : Option Pl) : condD E Dr R (.d (.v (.bool false)) o) a b js φ = runW E Dr R (.code b :: js) .normal φ := by simp [condD, X.val]
theorem cond_by {t : Bool} {a b : Code} {o : Option Pl} (h1 : t = true → runW E Dr R (.code a :: js) .normal φ) (h2 : t = false → runW E Dr R (.code b :: js) .normal φ) : condD E Dr R (.d (.v (.bool t)) o) a b js φ := ⟨_, rfl, t, rfl, h1, h2⟩

@[simp] theorem guard_tt {o : Oper} {g : Option Pl} : guardD E Dr R (.d (.v (.bool true)) g) true o ops rest js φ = runW E Dr R (.ops ops ({ o with guard := none } :: rest) :: js) .normal φ := by simp [guardD, X.val]
@[simp] theorem guard_ff {o : Oper} {g : Option Pl} : guardD E Dr R (.d (.v (.bool false)) g) false o ops rest js φ = runW E Dr R (.ops ops ({ o with guard := none } :: rest) :: js) .normal φ := by simp [guardD, X.val]
@[simp] theorem guard_tf {o : Oper} {g : Option Pl} : guardD E Dr R (.d (.v (.bool true)) g) false o ops rest js φ = runW E Dr R (.ops ops rest :: js) .normal (putRes o.dst [] φ) := by simp [guardD, X.val]
@[simp] theorem guard_ft {o : Oper} {g : Option Pl} : guardD E Dr R (.d (.v (.bool false)) g) true o ops rest js φ = runW E Dr R (.ops ops rest :: js) .normal (putRes o.dst [] φ) := by simp [guardD, X.val]
theorem guard_by {t : Bool} {want : Bool} {o : Oper} {g : Option Pl} (h1 : t = want → runW E Dr R (.ops ops ({ o with guard := none } :: rest) :: js) .normal φ) (h2 : t ≠ want → runW E Dr R (.ops ops rest :: js) .normal (putRes o.dst [] φ)) : guardD E Dr R (.d (.v (.bool t)) g) want o ops rest js φ := ⟨_, rfl, t, rfl, h1, h2⟩

@[simp] theorem call_some {f : Nat} {as : List X} {ks : List PK} {args : List Operand} : callD E Dr R f (some as) ks args dst js φ = callK E f as (backD E Dr R ks args dst js φ) := someK_some _ _

theorem back_vals {ks : List PK} {args : List Operand} {ψ : Fr} {rs outs : List X} : backD E Dr R [] args dst js ψ rs outs = (rs.length ≤ 8 ∧ runW E Dr R js .normal (putRes dst rs ψ)) := by
  simp [backD, backsX, storeD]

/-- A loop, by what its slots hold. -/
theorem loop_by {α : Type} {c : Code} (T : α → List (Nat × X)) (J : α → Prop) (m : α → Nat) (p0 : α) (h0 : J p0) (e0 : headL (T p0) φ)
    (round : ∀ p, J p → runW E Dr (fun e ψ => match e with
      | .normal => ∃ p', J p' ∧ m p' < m p ∧ headL (T p') ψ
      | e => runW E Dr R js e ψ) [.code c] .normal (mk (T p))) : loopD E Dr R c js φ := by
  refine ⟨fun n ψ => ∃ p, J p ∧ m p = n ∧ ψ = mk (T p), m p0, mk (T p0), headL_le e0, ⟨p0, h0, rfl, rfl⟩, ?_⟩
  rintro n ψ ⟨p, hp, rfl, rfl⟩
  have := round p hp
  simp only [runW_code] at this
  have key : ∀ (c : Code) (φ : Fr) (Q Q' : EE → Fr → Prop), (∀ e ψ, Q e ψ → Q' e ψ) → codeP E Dr c φ Q → codeP E Dr c φ Q' := by
    have opm : ∀ (o : Oper) (φ : Fr) (K K' : Fr → Prop), (∀ ψ, K ψ → K' ψ) → opP E o φ K → opP E o φ K' := by
      intro o φ K K' hK h
      have pm : someK (pureX E.τ φ o.op o.type) (fun x => K (putRes o.dst [x] φ)) → someK (pureX E.τ φ o.op o.type) (fun x => K' (putRes o.dst [x] φ)) := fun ⟨x, h1, h2⟩ => ⟨x, h1, hK _ h2⟩
      unfold opP at h ⊢
      cases ho : o.op with
      | store x y z =>
        rw [ho] at h
        obtain ⟨q, h1, ψ, h2, h3⟩ := h
        exact ⟨q, h1, ψ, h2, hK _ h3⟩
      | call c =>
        rw [ho] at h pm
        simp only at h ⊢
        split at h
        · obtain ⟨ks, h1, as, h2, rs, outs, h3, h4, ψ, h5, h6⟩ := h
          exact ⟨ks, h1, as, h2, rs, outs, h3, h4, ψ, h5, hK _ h6⟩
        · exact h
        · exact pm h
      | _ => rw [ho] at h pm; exact pm h
    have opsm : ∀ (ops : Array Oper) (l : List Oper) (φ : Fr) (K K' : Fr → Prop), (∀ ψ, K ψ → K' ψ) → opsP E ops l φ K → opsP E ops l φ K' := by
      intro ops l
      induction l with
      | nil => intro φ K K' hK h; exact hK _ h
      | cons o l ih =>
        intro φ K K' hK h
        unfold opsP at h ⊢
        split at h
        · exact opm _ _ _ _ (fun ψ h => ih ψ K K' hK h) h
        · obtain ⟨d, h1, v, h2, b, h3, h4, h5⟩ := h
          exact ⟨d, h1, v, h2, b, h3, fun e => opm _ _ _ _ (fun ψ h => ih ψ K K' hK h) (h4 e), fun e => ih _ K K' hK (h5 e)⟩
    intro c
    induction c with
    | skip => intro φ Q Q' hQ h; exact hQ _ _ h
    | region id ops dr =>
      intro φ Q Q' hQ h
      cases dr with
      | false => exact opsm _ _ _ _ _ (hQ .normal) h
      | true => exact opsm _ _ _ _ _ (hQ .normal) h
    | seq a b iha ihb =>
      intro φ Q Q' hQ h
      refine iha φ _ _ ?_ h
      intro e ψ h
      cases e with
      | normal => exact ihb ψ _ _ hQ h
      | exit id => exact hQ _ _ h
      | ret => exact hQ _ _ h
    | cond x a b iha ihb =>
      intro φ Q Q' hQ h
      obtain ⟨v, h1, t, h2, h3, h4⟩ := h
      exact ⟨v, h1, t, h2, fun e => iha φ _ _ hQ (h3 e), fun e => ihb φ _ _ hQ (h4 e)⟩
    | block id c ih =>
      intro φ Q Q' hQ h
      refine ih φ _ _ ?_ h
      intro e ψ h
      split
      · rename_i e1; rw [if_pos e1] at h; exact hQ _ _ h
      · rename_i e1; rw [if_neg e1] at h; exact hQ _ _ h
    | loop c ih =>
      intro φ Q Q' hQ h
      obtain ⟨I, n, φ0, h1, h2, h3⟩ := h
      refine ⟨I, n, φ0, h1, h2, fun n ψ hI => ih ψ _ _ ?_ (h3 n ψ hI)⟩
      intro e ψ' h
      cases e with
      | normal => exact h
      | exit id => exact hQ _ _ h
      | ret => exact hQ _ _ h
    | exit id => intro φ Q Q' hQ h; exact hQ _ _ h
    | ret => intro φ Q Q' hQ h; exact hQ _ _ h
    | _ => intro φ Q Q' hQ h; exact h.elim
  refine key _ _ _ _ ?_ this
  intro e ψ h
  cases e with
  | normal =>
    obtain ⟨p', h1, h2, h3⟩ := h
    exact ⟨m p', mk (T p'), h2, headL_le h3, p', h1, rfl, rfl⟩
  | exit id => exact h
  | ret => exact h
end
end Go.Ev


/- Small facts for walks: equality of plain cells, strings, whole numbers. -/
namespace Go.Ev

theorem leaf_nil {xs ys : List Value} {b : Bool} (h : leafV [] xs ys = some b) : xs = [] ∧ ys = [] ∧ b = true := by
  cases xs <;> cases ys <;> simp_all [leafV]

theorem leaf_int {k : IntKind} {zs : List ZC} {xs ys : List Value} {b : Bool} (h : leafV (.zi k :: zs) xs ys = some b) :
    ∃ p q xs' ys' r, xs = .int k p :: xs' ∧ ys = .int k q :: ys' ∧ leafV zs xs' ys' = some r ∧ b = ((p == q) && r) := by
  unfold leafV at h
  split at h
  · cases ‹_ = []›
  · rename_i k' zs' k1 p xs' k2 q ys' e
    cases e
    split at h
    · rename_i hk
      obtain ⟨rfl, rfl⟩ := hk
      rw [Option.map_eq_some_iff] at h
      obtain ⟨r, hr, rfl⟩ := h
      exact ⟨p, q, xs', ys', r, rfl, rfl, hr, rfl⟩
    · cases h
  · rename_i e; cases e
  · rename_i e; cases e
  · cases h

theorem leaf_str {zs : List ZC} {xs ys : List Value} {b : Bool} (h : leafV (.zs :: zs) xs ys = some b) :
    ∃ p q xs' ys' r, xs = .string p :: xs' ∧ ys = .string q :: ys' ∧ leafV zs xs' ys' = some r ∧ b = ((p.toList == q.toList) && r) := by
  unfold leafV at h
  split at h
  · cases ‹_ = []›
  · rename_i e; cases e
  · rename_i zs' p xs' q ys' e
    cases e
    rw [Option.map_eq_some_iff] at h
    obtain ⟨r, hr, rfl⟩ := h
    exact ⟨p, q, xs', ys', r, rfl, rfl, hr, rfl⟩
  · rename_i e; cases e
  · cases h
theorem leaf_bool {zs : List ZC} {xs ys : List Value} {b : Bool} (h : leafV (.zb :: zs) xs ys = some b) :
    ∃ p q xs' ys' r, xs = .bool p :: xs' ∧ ys = .bool q :: ys' ∧ leafV zs xs' ys' = some r ∧ b = ((p == q) && r) := by
  unfold leafV at h
  split at h
  · cases ‹_ = []›
  · rename_i e; cases e
  · rename_i e; cases e
  · rename_i zs' p xs' q ys' e
    cases e
    rw [Option.map_eq_some_iff] at h
    obtain ⟨r, hr, rfl⟩ := h
    exact ⟨p, q, xs', ys', r, rfl, rfl, hr, rfl⟩
  · cases h

theorem toList_loop (x : ByteArray) : ∀ (n i : Nat) (r : List UInt8), n = x.size - i → ByteArray.toList.loop x i r = r.reverse ++ x.data.toList.drop i := by
  intro n
  induction n with
  | zero =>
    intro i r h
    unfold ByteArray.toList.loop
    rw [if_neg (by omega)]
    have : x.data.toList.length ≤ i := by simp; show x.size ≤ i; omega
    simp [List.drop_eq_nil_of_le this]
  | succ n ih =>
    intro i r h
    unfold ByteArray.toList.loop
    have hi : i < x.size := by omega
    rw [if_pos hi, ih (i + 1) _ (by omega)]
    have hi' : i < x.data.toList.length := by simpa using hi
    rw [List.drop_eq_getElem_cons hi']
    have : x.get! i = x.data.toList[i] := by
      simp only [ByteArray.get!, Array.getElem_toList]
      exact getElem!_pos x.data i hi
    simp [this]

theorem toList_data (x : ByteArray) : x.toList = x.data.toList := by
  unfold ByteArray.toList
  rw [toList_loop x _ 0 [] rfl]; rfl

@[simp] theorem str_beq (x y : ByteArray) : (x.toList == y.toList) = decide (x = y) := by
  rw [toList_data, toList_data]
  by_cases e : x = y
  · subst e; simp
  · have : ¬ x.data = y.data := fun h => e (by cases x; cases y; simp_all)
    simp [e, this]

theorem wrap_id {n : Int} (h1 : -9223372036854775808 ≤ n) (h2 : n < 9223372036854775808) : IntKind.wrap .i64 n = n := by
  have e : IntKind.bits .i64 = 64 := rfl
  have e' : IntKind.signed .i64 = true := rfl
  unfold IntKind.wrap
  simp only [e, e', Bool.true_and, decide_eq_true_eq]
  rcases Int.lt_or_le n 0 with h | h
  · have : n % 2 ^ 64 = n + 2 ^ 64 := by omega
    rw [this, if_pos (by omega)]; omega
  · have : n % 2 ^ 64 = n := by omega
    rw [this, if_neg (by omega)]

theorem wrap_nat {k : Nat} (h : k < 4611686018427387904) : IntKind.wrap .i64 ((k : Int) + 1) = ((k + 1 : Nat) : Int) := by
  rw [wrap_id (by omega) (by omega)]; omega

/-- The first place. -/
def at? {α : Type} (q : α → Bool) (l : List α) : Int := match l.findIdx? q with
  | some i => i
  | none => -1

theorem at_of {α : Type} {q : α → Bool} {l : List α} {k : Nat} (hk : k < l.length) (h : ∀ j (hj : j < l.length), j < k → q l[j] = false) (h1 : q l[k] = true) : at? q l = k := by
  unfold at?
  have : l.findIdx? q = some k := by
    rw [List.findIdx?_eq_some_iff_getElem]
    exact ⟨hk, h1, fun j hj => by simp [h j (by omega) hj]⟩
  rw [this]

theorem at_none {α : Type} {q : α → Bool} {l : List α} (h : ∀ j (hj : j < l.length), q l[j] = false) : at? q l = -1 := by
  unfold at?
  have : l.findIdx? q = none := by
    rw [List.findIdx?_eq_none_iff]
    intro x hx
    obtain ⟨j, hj, rfl⟩ := List.mem_iff_getElem.1 hx
    exact h j hj
  rw [this]

/-- Rows that are filled from the front. -/
def fill {α : Type} (f : α → List D) (z : List D) (l : List α) (k : Nat) : List (List D) := (l.take k).map f ++ List.replicate (l.length - k) z

theorem fill_zero {α : Type} (f : α → List D) (z : List D) (l : List α) : List.replicate l.length z = fill f z l 0 := by simp [fill]
theorem fill_len {α : Type} (f : α → List D) (z : List D) (l : List α) {k : Nat} (hk : k ≤ l.length) : (fill f z l k).length = l.length := by simp [fill]; omega
theorem fill_all {α : Type} (f : α → List D) (z : List D) (l : List α) {k : Nat} (hk : ¬ k < l.length) : fill f z l k = l.map f := by
  unfold fill
  rw [List.take_of_length_le (by omega), show l.length - k = 0 by omega]; simp
theorem fill_get {α : Type} (f : α → List D) (z : List D) (l : List α) {k : Nat} (hk : k < l.length) : (fill f z l k)[k]? = some z := by
  unfold fill
  rw [List.getElem?_append_right (by simp; omega), List.getElem?_replicate, if_pos (by simp; omega)]
theorem fill_at {α : Type} (f : α → List D) (z : List D) (l : List α) {k : Nat} (hk : k < l.length) (h : k < (fill f z l k).length) : (fill f z l k)[k] = z := by
  have := fill_get f z l hk
  rw [List.getElem?_eq_getElem h] at this
  exact Option.some.inj this
theorem fill_set {α : Type} (f : α → List D) (z : List D) (l : List α) {k : Nat} (hk : k < l.length) : (fill f z l k).set k (f l[k]) = fill f z l (k + 1) := by
  apply List.ext_getElem?
  intro i
  unfold fill
  rw [List.getElem?_set]
  by_cases e : k = i
  · subst e
    rw [if_pos rfl, if_pos (by simp; omega), List.getElem?_append_left (by simp; omega)]
    simp [hk]
  · rw [if_neg e]
    by_cases h : i < k
    · rw [List.getElem?_append_left (by simp; omega), List.getElem?_append_left (by simp; omega)]
      simp [h, show i < k + 1 by omega]
    · rw [List.getElem?_append_right (by simp; omega), List.getElem?_append_right (by simp; omega)]
      simp only [List.getElem?_replicate, List.length_map, List.length_take]
      rw [Nat.min_eq_left (by omega), Nat.min_eq_left (by omega)]
      have : i - k < l.length - k ↔ i - (k + 1) < l.length - (k + 1) := by omega
      simp only [this]


@[simp] theorem int_beq (x y : Int) : (x == y) = decide (x = y) := by by_cases e : x = y <;> simp [e]
@[simp] theorem int_bne (x y : Int) : (x != y) = !decide (x = y) := by by_cases e : x = y <;> simp [e]
attribute [simp] unF pureX opX cpX ownX ptX X.cells X.val X.int binX bin leafEq unF loadX storeX fieldX indexX appX makeX cellsAt rowsX cellsIn putIn putAt putX mkX fits ZC.fit addLast lenX strIndexX mmX partsX fillX fldSize buildX sliceX bound argX argsX backX backsX back_vals putRes putComps resX resesX outX outsX splice elz ZC.d Value.scalar cix backD

@[simp] theorem nat_neg (k : Nat) : (((k : Int) < 0)) = False := by simp
@[simp] theorem nat_nonneg (k : Nat) : ((0 ≤ (k : Int))) = True := by simp

/-- Slots to be emptied, by the regions' numbers. -/
def drL : List (Nat × List Nat) → Nat → List Nat
  | [], _ => []
  | (k, ds) :: l, i => if i = k then ds else drL l i
attribute [simp] drL

/-- How a walk of a function's body ends. -/
def endP (E : Prog) (rv : List ResultVar) (ks : List PK) (rs outs : List X) (e : EE) (φ : Fr) : Prop := (e = .normal ∨ e = .ret) ∧ resesX E.τ φ rv = some rs ∧ outsX φ 0 ks = some outs

@[simp] theorem endP_normal {E : Prog} {rv : List ResultVar} {ks : List PK} {rs outs : List X} {l : List (Nat × X)} : endP E rv ks rs outs .normal (mk l) = (resesX E.τ (mk l) rv = some rs ∧ outsX (mk l) 0 ks = some outs) := by simp [endP]
@[simp] theorem endP_ret {E : Prog} {rv : List ResultVar} {ks : List PK} {rs outs : List X} {l : List (Nat × X)} : endP E rv ks rs outs .ret (mk l) = (resesX E.τ (mk l) rv = some rs ∧ outsX (mk l) 0 ks = some outs) := by simp [endP]

theorem runs_of {E : Prog} (dr : List (Nat × List Nat)) {f : Nat} {fn : Func} {c : Code} {ks : List PK} {xs rs outs : List X} (hp : E.prims f = none) (hf : E.funcs f = some fn) (hb : fn.body = some c) (hk : E.pks f = some ks) (hl : xs.length = ks.length) (hd : drOk (drL dr) c = true)
    (h : runW E (drL dr) (endP E fn.results.toList ks rs outs) [.code c] .normal (args0 xs)) : Runs E f xs rs outs := by
  rw [runW_code] at h
  exact runs_by hp hf hb hk hl hd h

attribute [simp] isHit


/-- A walk whose end tells of some result. -/
def endX {α : Type} (E : Prog) (rv : List ResultVar) (ks : List PK) (rs : α → List X) (outs : List X) (e : EE) (φ : Fr) : Prop := (e = .normal ∨ e = .ret) ∧ ∃ r, resesX E.τ φ rv = some (rs r) ∧ outsX φ 0 ks = some outs

@[simp] theorem endX_normal {α : Type} {E : Prog} {rv : List ResultVar} {ks : List PK} {rs : α → List X} {outs : List X} {l : List (Nat × X)} : endX E rv ks rs outs .normal (mk l) = (∃ r, resesX E.τ (mk l) rv = some (rs r) ∧ outsX (mk l) 0 ks = some outs) := by simp [endX]
@[simp] theorem endX_ret {α : Type} {E : Prog} {rv : List ResultVar} {ks : List PK} {rs : α → List X} {outs : List X} {l : List (Nat × X)} : endX E rv ks rs outs .ret (mk l) = (∃ r, resesX E.τ (mk l) rv = some (rs r) ∧ outsX (mk l) 0 ks = some outs) := by simp [endX]

theorem runs_ex {α : Type} {E : Prog} (dr : List (Nat × List Nat)) (rs : α → List X) {f : Nat} {fn : Func} {c : Code} {ks : List PK} {xs outs : List X} (hp : E.prims f = none) (hf : E.funcs f = some fn) (hb : fn.body = some c) (hk : E.pks f = some ks) (hl : xs.length = ks.length) (hd : drOk (drL dr) c = true)
    (h : runW E (drL dr) (endX E fn.results.toList ks rs outs) [.code c] .normal (args0 xs)) : ∃ r, Runs E f xs (rs r) outs := by
  rw [runW_code] at h
  have h' : codeP E (drL dr) c (args0 xs) (fun e φ => endX E fn.results.toList ks rs outs e φ) := h
  obtain ⟨e, ψ, ⟨he, r, hr, ho⟩, k0, h0⟩ := codeP_ok hd h'
  refine ⟨r, k0 + 1, fun k hk' => ?_⟩
  cases k with
  | zero => omega
  | succ k =>
    obtain ⟨ψ1, q1, q2⟩ := h0 k (by omega) _ (.refl _)
    simp only [evF, hp, hf, hk, hb]
    rw [if_pos hl, q2 k (by omega)]
    rcases he with rfl | rfl <;> simp only [resesX_le q1 hr, outsX_le q1 ho]

/-- Some whole number that a function answers. -/
noncomputable def szv (E : Prog) (f : Nat) (as : List X) : Int := open Classical in if h : ∃ r : Int, Runs E f as [.d (.v (.int .i64 r)) none] [.u, .u] then h.choose else 0

theorem szv_of {E : Prog} {f : Nat} {as : List X} (h : ∃ r : Int, Runs E f as [.d (.v (.int .i64 r)) none] [.u, .u]) : Runs E f as [.d (.v (.int .i64 (szv E f as))) none] [.u, .u] := by
  unfold szv
  rw [dif_pos h]
  exact h.choose_spec

@[simp] theorem encS_def (s : ByteArray) : (fun s => [D.v (.string s)]) s = [D.v (.string s)] := rfl
def encS (s : ByteArray) : List D := [.v (.string s)]
def encI (n : Int) : List D := [.v (.int .i64 n)]
def encB (n : Int) : List D := [.v (.int .u8 n)]
@[simp] theorem encS_at (s : ByteArray) : encS s = [.v (.string s)] := rfl
@[simp] theorem encI_at (n : Int) : encI n = [.v (.int .i64 n)] := rfl
@[simp] theorem encB_at (n : Int) : encB n = [.v (.int .u8 n)] := rfl
end Go.Ev

/- Arguments are opened: what a reading of memory says, as data. -/
namespace Go.Ev
open Go.ChangeShapes Go.WideShapes Go.ChangeAt Go.RowKit Go.Deep

/-- What a cell of a type is. -/
inductive Sc where
  | i (k : IntKind)
  | b
  | s
  | sl (by_ : Nat) (els : List Sc)

mutual
def Sc.ok : Sc → D → Prop
  | .i k, d => ∃ n, d = .v (.int k n)
  | .b, d => ∃ x, d = .v (.bool x)
  | .s, d => ∃ x : ByteArray, d = .v (.string x) ∧ x.size ≤ reachBytes
  | .sl by_ els, d => ∃ rows, d = .sl els.length rows ∧ rows.length * by_ ≤ reachBytes ∧ ∀ row ∈ rows, okL els row
def okL : List Sc → List D → Prop
  | [], ds => ds = []
  | c :: cs, ds => ∃ d r, ds = d :: r ∧ c.ok d ∧ okL cs r
end

theorem okL_len : ∀ {l : List Sc} {ds : List D}, okL l ds → ds.length = l.length
  | [], ds, h => by unfold okL at h; subst h; rfl
  | c :: cs, ds, h => by
    unfold okL at h
    obtain ⟨d, r, rfl, _, h2⟩ := h
    simp [okL_len h2]

theorem okL_append : ∀ {l l' : List Sc} {ds ds' : List D}, okL l ds → okL l' ds' → okL (l ++ l') (ds ++ ds')
  | [], l', ds, ds', h, h' => by unfold okL at h; subst h; exact h'
  | c :: cs, l', ds, ds', h, h' => by
    unfold okL at h
    obtain ⟨d, r, rfl, h1, h2⟩ := h
    show okL (c :: (cs ++ l')) _
    unfold okL
    exact ⟨d, r ++ ds', rfl, h1, okL_append h2 h'⟩

def shpF (P : Program) (g : TypeId → Option (List Sc)) : List Field → Nat → Option (List Sc)
  | [], _ => some []
  | f :: fs, off => if f.offset = off then (match g f.type with
    | some l => if l.length = P.cellsOf f.type then (match shpF P g fs (off + l.length) with
      | some r => some (l ++ r)
      | none => none) else none
    | none => none) else none

/-- The cells of a type. -/
def shp (P : Program) : Nat → TypeId → Option (List Sc)
  | 0, _ => none
  | n + 1, t => match P.underlying t with
    | some .bool => some [.b]
    | some (.int k) => some [.i k]
    | some .string => some [.s]
    | some (.slice e) => match shp P n e with
      | some els => if els.length = P.cellsOf e ∧ 0 < els.length then some [.sl (P.bytesOf e) els] else none
      | none => none
    | some (.struct fs) => match shpF P (shp P n) fs.toList 0 with
      | some l => if l.length = P.cellsOf t then some l else none
      | none => none
    | _ => none

section
variable {H : Type} {enc : TypeId × Value → H} {P : Program} {w : World} {base : Nat} {spare : Nat → Bool} {held : Bool}

/-- Blocks that are there. -/
def There (w : World) (b : Nat) : Prop := b < w.heap.size

theorem weightsAll_mem {e : TypeId} : ∀ {l : List (DataW H)} {i : Nat} {d : DataW H}, l[i]? = some d → ∀ m ∈ d.weights P e, m ∈ DataW.weightsAll P e l
  | [], i, d, h, _, _ => by simp at h
  | x :: l, 0, d, h, m, hm => by
    simp only [List.getElem?_cons_zero, Option.some.injEq] at h
    subst h
    simp [DataW.weightsAll, hm]
  | x :: l, i + 1, d, h, m, hm => by
    simp only [List.getElem?_cons_succ] at h
    simp [DataW.weightsAll, weightsAll_mem h m hm]

theorem cell_some {a : Addr} {v : Value} (h : w.cell? a = some v) : ∃ c ty fz, w.heap[a.block]? = some (.cells c ty fz) ∧ a.spot = none ∧ c[a.off]? = some v := by
  unfold World.cell? at h
  split at h
  · rename_i c ty fz hc
    split at h
    · cases h
    · rename_i hs
      refine ⟨c, ty, fz, hc, ?_, h⟩
      cases hq : a.spot with
      | none => rfl
      | some x => rw [hq] at hs; simp at hs
  · cases h

/-- What an opened value is. -/
def Opened (w : World) (scs : List Sc) (cs : List Value) (ds : List D) : Prop := okL scs ds ∧ cs.length = ds.length ∧ ∀ j d, ds[j]? = some d → Rd w (There w) d (cs.getD j undef)

theorem open_fields {g : TypeId → Option (List Sc)} {cs : List Value} {n : Nat} (hg : ∀ t scs, g t = some scs → ∀ cs x, DataW.trod enc P w base spare held n t cs = some x → (∀ m ∈ x.1.weights P t, m ≤ reachBytes) → ∃ ds, Opened w scs cs ds) :
    ∀ (fs : List Field) (off : Nat) (l : List Sc), shpF P g fs off = some l → (∀ f ∈ fs, ∃ x, DataW.trod enc P w base spare held n f.type ((cs.drop f.offset).take (P.cellsOf f.type)) = some x ∧ ∀ m ∈ x.1.weights P f.type, m ≤ reachBytes) →
      ∃ ds, okL l ds ∧ ∀ j d, ds[j]? = some d → Rd w (There w) d (cs.getD (off + j) undef)
  | [], off, l, h, _ => by
    simp only [shpF, Option.some.injEq] at h
    subst h
    exact ⟨[], by unfold okL; rfl, by simp⟩
  | f :: fs, off, l, h, hx => by
    simp only [shpF] at h
    split at h
    · rename_i hoff
      split at h
      · rename_i l1 hl1
        split at h
        · rename_i hlen
          split at h
          · rename_i r hr
            cases h
            obtain ⟨x, hx1, hx2⟩ := hx f (by simp)
            obtain ⟨ds1, h1, h2, h3⟩ := hg _ _ hl1 _ x hx1 hx2
            obtain ⟨ds2, h4, h5⟩ := open_fields hg fs _ r hr fun f' hf' => hx f' (List.mem_cons_of_mem _ hf')
            refine ⟨ds1 ++ ds2, okL_append h1 h4, ?_⟩
            have hl := okL_len h1
            intro j d hj
            by_cases hlt : j < ds1.length
            · rw [List.getElem?_append_left hlt] at hj
              have := h3 j d hj
              have hlc : j < ((cs.drop f.offset).take (P.cellsOf f.type)).length := by rw [h2]; exact hlt
              have e : ((cs.drop f.offset).take (P.cellsOf f.type)).getD j undef = cs.getD (off + j) undef := by
                rw [List.getD_eq_getElem?_getD, List.getD_eq_getElem?_getD, List.getElem?_take, List.getElem?_drop, hoff]
                rw [if_pos (by rw [List.length_take] at hlc; omega)]
              rwa [e] at this
            · rw [List.getElem?_append_right (by omega)] at hj
              have := h5 _ d hj
              rw [show off + j = off + l1.length + (j - ds1.length) by omega]
              exact this
          · cases h
        · cases h
      · cases h
    · cases h

theorem open_any : ∀ (n : Nat) (t : TypeId) (scs : List Sc), shp P n t = some scs → ∀ (fuel : Nat) (cs : List Value) (x : DataW H × List MemPlace), DataW.trod enc P w base spare held fuel t cs = some x →
    (∀ m ∈ x.1.weights P t, m ≤ reachBytes) → ∃ ds, Opened w scs cs ds
  | 0, _, _, h, _, _, _, _, _ => by cases h
  | n + 1, t, scs, h, fuel, cs, x, hx, hw => by
    have one : ∀ (c : Sc) (v : Value), scs = [c] → cs = [v] → v.scalar = true → c.ok (.v v) → ∃ ds, Opened w scs cs ds := by
      rintro c v rfl rfl hv hc
      refine ⟨[.v v], ?_, rfl, ?_⟩
      · unfold okL; exact ⟨_, [], rfl, hc, by unfold okL; rfl⟩
      · intro j d hj
        cases j with
        | zero => simp at hj; subst hj; exact .v hv
        | succ j => simp at hj
    simp only [shp] at h
    split at h
    · rename_i hu
      cases h
      obtain ⟨b, rfl, rfl⟩ := DataW.trod_bool hu hx
      exact one _ _ rfl rfl rfl ⟨b, rfl⟩
    · rename_i k hu
      cases h
      obtain ⟨m, rfl, rfl, _⟩ := DataW.trod_int hu hx
      exact one _ _ rfl rfl rfl ⟨m, rfl⟩
    · rename_i hu
      cases h
      obtain ⟨s, rfl, rfl, _⟩ := DataW.trod_string hu hx
      refine one _ _ rfl rfl rfl ⟨s, rfl, ?_⟩
      have := hw s.data.toList.length (by simp [DataW.weights])
      simpa using this
    · rename_i e hu
      split at h
      · rename_i els hels
        split at h
        · rename_i hz
          cases h
          rcases open_slice hu hx with ⟨rfl, rfl⟩ | ⟨a, len, cap, m, n', Dd, Pl, rfl, hb, hlc, hcm, hm, rfl, hel⟩
          · refine ⟨[.sl els.length []], ?_, rfl, ?_⟩
            · unfold okL
              refine ⟨_, [], rfl, ?_, by unfold okL; rfl⟩
              unfold Sc.ok
              exact ⟨[], rfl, by simp, by simp⟩
            · intro j d hj
              cases j with
              | zero => simp at hj; subst hj; exact .nil
              | succ j => simp at hj
          · have hlm : len ≤ m := by rw [hm]; split <;> omega
            have hwt : ∀ i, i < len → ∀ q ∈ (Dd i).weights P e, q ≤ reachBytes := by
              intro i hi q hq
              apply hw
              have : ((List.range len).map Dd)[i]? = some (Dd i) := by simp [hi]
              have := weightsAll_mem (P := P) (e := e) this q hq
              simp only [DataW.weights, hu]
              simp [this]
            have hbytes : len * P.bytesOf e ≤ reachBytes := by
              have := hw ((((List.range len).map Dd).length + ((List.range (m - len)).map fun j => Dd (len + j)).length) * P.bytesOf e) (by simp [DataW.weights, hu])
              simp only [List.length_map, List.length_range] at this
              exact Nat.le_trans (Nat.mul_le_mul_right _ (by omega)) this
            obtain ⟨R, hR⟩ := Deep.choose_lt (n := len) (α := List Value × List D) (p := fun i r => w.cells? base (a.add (i * P.cellsOf e)) (P.cellsOf e) = some r.1 ∧ Opened w els r.1 r.2) (fun i hi => by
              obtain ⟨cs', h1, h2⟩ := hel i (by omega)
              obtain ⟨ds, h3⟩ := open_any n e els hels n' cs' _ h2 (hwt i hi)
              exact ⟨(cs', ds), h1, h3⟩)
            have hrow : ∀ row ∈ (List.range len).map fun i => (R i).2, okL els row := by
              intro row hr
              obtain ⟨i, hi, rfl⟩ := List.mem_map.1 hr
              exact (hR i (by simpa using hi)).2.1
            refine ⟨[.sl els.length ((List.range len).map fun i => (R i).2)], ?_, rfl, ?_⟩
            · unfold okL
              refine ⟨_, [], rfl, ?_, by unfold okL; rfl⟩
              unfold Sc.ok
              exact ⟨_, rfl, by simpa using hbytes, hrow⟩
            · intro j d hj
              cases j with
              | succ j => simp at hj
              | zero =>
                simp at hj
                subst hj
                show Rd w (There w) _ (.slice (some a) len cap)
                cases len with
                | zero => exact .nil
                | succ len =>
                  -- every cell
                  have hcell : ∀ i j, i < len + 1 → j < els.length → w.cell? (a.add (i * P.cellsOf e + j)) = ((R i).1)[j]? := by
                    intro i j hi hj
                    obtain ⟨_, h2, h3⟩ := World.cells?_some (hR i hi).1
                    have := h3 j (by omega)
                    rwa [Deep.add_add] at this
                  have hlen : ∀ i, i < len + 1 → ((R i).1).length = els.length := by
                    intro i hi
                    have := (World.cells?_some (hR i hi).1).2.1
                    omega
                  have h0 := hcell 0 0 (by omega) hz.2
                  have h0' : ((R 0).1)[0]? = some (((R 0).1).getD 0 undef) := by
                    have : 0 < ((R 0).1).length := by rw [hlen 0 (by omega)]; exact hz.2
                    simp [List.getD_eq_getElem?_getD, this]
                  rw [h0'] at h0
                  have ha0 : a.add (0 * P.cellsOf e + 0) = a := by simp [Addr.add]
                  rw [ha0] at h0
                  obtain ⟨arr, ty, fz, hheap, hspot, _⟩ := cell_some h0
                  have haddr : ∀ k, (a.add k).block = a.block ∧ (a.add k).off = a.off + k ∧ (a.add k).spot = none := by
                    intro k
                    unfold Addr.add
                    split
                    · rename_i hk; subst hk; exact ⟨rfl, rfl, hspot⟩
                    · exact ⟨rfl, rfl, rfl⟩
                  have hval : ∀ i j, i < len + 1 → j < els.length → arr[a.off + i * els.length + j]? = some (((R i).1).getD j undef) := by
                    intro i j hi hj
                    have h1 := hcell i j hi hj
                    have h2 : ((R i).1)[j]? = some (((R i).1).getD j undef) := by
                      have : j < ((R i).1).length := by rw [hlen i hi]; exact hj
                      simp [List.getD_eq_getElem?_getD, this]
                    rw [h2] at h1
                    obtain ⟨c2, ty2, fz2, q1, _, q2⟩ := cell_some h1
                    obtain ⟨k1, k2, _⟩ := haddr (i * P.cellsOf e + j)
                    rw [k1, hheap] at q1
                    cases q1
                    rw [k2] at q2
                    rw [← hz.1] at q2
                    rw [← q2]
                    congr 1
                    omega
                  obtain ⟨ab, ao, asp⟩ := a
                  simp only at hspot hheap hval
                  subst hspot
                  have hlast := hval len (els.length - 1) (by omega) (by omega)
                  have hlt := (Array.getElem?_eq_some_iff.1 hlast).1
                  have hmul : (len + 1) * els.length = len * els.length + els.length := by rw [Nat.add_mul, Nat.one_mul]
                  have hlr : (List.map (fun i => (R i).2) (List.range (len + 1))).length = len + 1 := by simp
                  rw [show (Value.slice (some (⟨ab, ao, none⟩ : Addr)) (len + 1) cap) = Value.slice (some ⟨ab, ao, none⟩) (List.map (fun i => (R i).2) (List.range (len + 1))).length cap by rw [hlr]]
                  refine .sl (Array.getElem?_eq_some_iff.1 hheap).1 hheap (by rw [hlr]; exact hlc) (by rw [hlr]; omega) (fun row hr => okL_len (hrow row hr)) ?_
                  intro i j row d hi hj
                  rw [List.getElem?_map, Option.map_eq_some_iff] at hi
                  obtain ⟨i', hi', rfl⟩ := hi
                  have hil : i < len + 1 := by
                    have := (List.getElem?_eq_some_iff.1 hi').1
                    simpa using this
                  have hii : i' = i := by
                    rw [List.getElem?_range hil] at hi'
                    simpa using hi'.symm
                  subst hii
                  have hopen := (hR i' hil).2
                  have hjl : j < els.length := by
                    have := (List.getElem?_eq_some_iff.1 hj).1
                    rw [okL_len hopen.1] at this
                    exact this
                  have hv := hval i' j hil hjl
                  have hrd := hopen.2.2 j d hj
                  have e : arr.getD (ao + i' * els.length + j) undef = ((R i').1).getD j undef := by
                    rw [Array.getD_eq_getD_getElem?, hv]; rfl
                  rw [e]
                  exact hrd
        · cases h
      · cases h
    · rename_i fs hu
      split at h
      · rename_i l hl
        split at h
        · rename_i hlen
          cases h
          obtain ⟨xs, n', rfl, rfl, h2, h3, h4⟩ := DataW.trod_struct hu hx
          obtain ⟨ds, q1, q2⟩ := open_fields (n := n') (cs := cs) (fun t scs ht cs x hx hw => open_any n t scs ht n' cs x hx hw) fs.toList 0 _ hl (by
            intro f hf
            obtain ⟨i, hi⟩ := List.mem_iff_getElem?.1 hf
            have hi' : fs[i]? = some f := by simpa using hi
            have hlt := (Array.getElem?_eq_some_iff.1 hi').1
            have := h4 i f hi'
            have hxi : xs[i]? = some xs[i] := List.getElem?_eq_getElem (by omega)
            refine ⟨xs[i], by rw [this, hxi], ?_⟩
            intro m hm
            apply hw
            simp only [DataW.weights, hu]
            refine DataW.weights_mem_each (j := i) (t := f.type) (d := (xs[i]).1) ?_ ?_ m hm
            · rw [List.getElem?_map, hi]; rfl
            · rw [List.getElem?_map, hxi]; rfl)
          refine ⟨ds, q1, by rw [okL_len q1, h2, hlen], ?_⟩
          intro j d hj
          have := q2 j d hj
          rwa [Nat.zero_add] at this
        · cases h
      · cases h
    · cases h
end
end Go.Ev

/- A law: its call, out of what was reckoned. -/
namespace Go.Ev
open Go.ChangeShapes Go.WideShapes Go.ChangeAt Go.RowKit

theorem rows_map {α : Type} (f : α → List D) (P : α → Prop) : ∀ {rows : List (List D)}, (∀ row ∈ rows, ∃ x, row = f x ∧ P x) → ∃ l : List α, rows = l.map f ∧ ∀ x ∈ l, P x
  | [], _ => ⟨[], rfl, by simp⟩
  | row :: rows, h => by
    obtain ⟨x, rfl, hx⟩ := h row (by simp)
    obtain ⟨l, rfl, hl⟩ := rows_map f P (fun r hr => h r (List.mem_cons_of_mem _ hr))
    refine ⟨x :: l, rfl, ?_⟩
    intro y hy
    rcases List.mem_cons.1 hy with rfl | hy
    · exact hx
    · exact hl y hy

theorem len_bound {by_ : Nat} {α : Type} {f : α → List D} {l : List α} (h : (l.map f).length * by_ ≤ reachBytes) : by_ * l.length ≤ 140737488355328 := by
  have := reachBytes_lt
  rw [List.length_map, Nat.mul_comm] at h
  omega

theorem op_S {row : List D} (h : okL [.s] row) : ∃ x : ByteArray, row = encS x ∧ True := by
  unfold okL at h
  obtain ⟨d, r, rfl, h1, h2⟩ := h
  unfold okL at h2
  unfold Sc.ok at h1
  obtain ⟨x, rfl, _⟩ := h1
  subst h2
  exact ⟨x, rfl, trivial⟩
theorem op_I {row : List D} (h : okL [.i .i64] row) : ∃ x : Int, row = encI x ∧ True := by
  unfold okL at h
  obtain ⟨d, r, rfl, h1, h2⟩ := h
  unfold okL at h2
  unfold Sc.ok at h1
  obtain ⟨x, rfl⟩ := h1
  subst h2
  exact ⟨x, rfl, trivial⟩
theorem op_B {row : List D} (h : okL [.i .u8] row) : ∃ x : Int, row = encB x ∧ True := by
  unfold okL at h
  obtain ⟨d, r, rfl, h1, h2⟩ := h
  unfold okL at h2
  unfold Sc.ok at h1
  obtain ⟨x, rfl⟩ := h1
  subst h2
  exact ⟨x, rfl, trivial⟩

theorem okL_cons {c : Sc} {cs : List Sc} {ds : List D} (h : okL (c :: cs) ds) : ∃ d r, ds = d :: r ∧ c.ok d ∧ okL cs r := by unfold okL at h; exact h
theorem okL_nil {ds : List D} (h : okL [] ds) : ds = [] := by unfold okL at h; exact h
theorem ok_i {k : IntKind} {d : D} (h : Sc.ok (.i k) d) : ∃ n, d = .v (.int k n) := by unfold Sc.ok at h; exact h
theorem ok_b {d : D} (h : Sc.ok .b d) : ∃ n, d = .v (.bool n) := by unfold Sc.ok at h; exact h
theorem ok_s {d : D} (h : Sc.ok .s d) : ∃ n : ByteArray, d = .v (.string n) := by unfold Sc.ok at h; obtain ⟨x, h, _⟩ := h; exact ⟨x, h⟩
theorem ok_sl {α : Type} {by_ : Nat} {els : List Sc} {d : D} (f : α → List D) (P : α → Prop) (hf : ∀ row, okL els row → ∃ x, row = f x ∧ P x) (h : Sc.ok (.sl by_ els) d) : ∃ l : List α, d = .sl els.length (l.map f) ∧ by_ * l.length ≤ 140737488355328 ∧ ∀ x ∈ l, P x := by
  unfold Sc.ok at h
  obtain ⟨rows, rfl, h1, h2⟩ := h
  obtain ⟨l, rfl, hl⟩ := rows_map f P (fun row hr => hf row (h2 row hr))
  exact ⟨l, rfl, len_bound h1, hl⟩

/-- An opened argument is one that may be read. -/
theorem argOk_agg {V : Env} {W : World} {ty : Nat} {e : TE} {scs : List Sc} {cs : Array Value} {ds : List D} (he : V.get ty = some e) (ha : e.agg = true) (hf : fits e.zero ds = true) (h : Opened W scs cs.toList ds) :
    ArgOk V W (PM.rd.okOf (fun _ => False) (There W)) ty (.agg ds none) (.agg cs) := by
  refine ⟨e, he, .inr ⟨ha, ds, cs, rfl, rfl, by simpa using h.2.1, hf, ?_⟩⟩
  intro j d hj
  have := h.2.2 j d hj
  rw [show cs.getD j undef = cs.toList.getD j undef by simp [Array.getD_eq_getD_getElem?, List.getD_eq_getElem?_getD]]
  exact this.mono fun b hb => ⟨.inr hb, rfl⟩

theorem argOk_one {V : Env} {W : World} {ty : Nat} {e : TE} {scs : List Sc} {v : Value} {d : D} (he : V.get ty = some e) (ha : e.agg = false) (hf : fits e.zero [d] = true) (h : Opened W scs [v] [d]) :
    ArgOk V W (PM.rd.okOf (fun _ => False) (There W)) ty (.d d none) v := by
  refine ⟨e, he, .inl ⟨ha, d, rfl, hf, ?_⟩⟩
  have := h.2.2 0 d rfl
  exact this.mono fun b hb => ⟨.inr hb, rfl⟩

/-- A law's call. -/
theorem law_calls {V : Env} {E : Prog} {f : Nat} {sg : Sig} {W : World} {vals : List Value} {xs outs : List X} (hD : ∀ k, Does V f sg (evF E k f)) (hr : Runs E f xs [.d (.v (.bool true)) none] outs) (hres : sg.res = [.c (.view []) .no])
    (hpm : ∀ pm ∈ sg.pms, pm = .rd) (hl : vals.length = sg.pms.length) (hx : xs.length = sg.pms.length)
    (hargs : ∀ (i : Nat) (x : X) (v : Value) (ty : Nat), xs[i]? = some x → vals[i]? = some v → sg.tys[i]? = some ty → ArgOk V W (PM.rd.okOf (fun _ => False) (There W)) ty x v) :
    Calls V.P f vals.toArray W fun e W' => e = .returned (.bool true) ∧ Below W.heap.size W W' := by
  obtain ⟨k, hk⟩ := hr
  refine ((hD k).2 W (fun _ => False) (fun _ => There W) vals xs hl hx (fun b h => h.elim) (fun i b h => h) ?_ _ _ (hk k (Nat.le_refl _))).mono ?_
  · intro i x v pm ty h1 h2 h3 h4
    have := hargs i x v ty h1 h2 h4
    rw [hpm pm (List.mem_of_getElem? h3)]
    exact this
  · rintro e W' ⟨vs, C', rfl, hd⟩
    refine ⟨?_, ⟨hd.ext.calm.os, hd.ext.calm.tape, hd.ext.calm.output, hd.ext.size, hd.ext.same⟩⟩
    match vs, hd.len with
    | [v], _ =>
      have := hd.res 0 _ v _ rfl rfl (by rw [hres]; rfl)
      obtain ⟨d, o, e1, e2, _⟩ := this
      cases e1
      cases e2 with
      | view h => cases h with
        | v h => rfl
end Go.Ev


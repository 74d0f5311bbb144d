/- Versions: what the program's functions and the reference's answer. -/
import Derived.Test.YtojciiiilfmjgaaDoorC1
set_option linter.all false
namespace Go.Proofs.YtojciiiilfmjgaaDoor
open Go.Ev Go.Lib
set_option maxRecDepth 20000
set_option linter.unusedVariables false
set_option linter.unusedSimpArgs false

theorem r_l3Split (s : ByteArray) (c : UInt8) (hs : s.size < 4294967281) : Runs E 33 [.d (.v (.string s)) none, .d (.v (.int .u8 c.toNat)) none] [.d (.sl 1 (rowsOf (splitP c s))) none] [.u, .u] := by
  refine runs_of [] rfl Tryd.func33 rfl pk_33 rfl rfl ?_
  simp
  refine loop_by (fun q : Nat × Nat × List ByteArray => [(0, .d (.v (.string s)) none), (1, .d (.v (.int .u8 c.toNat)) none), (5, .d (.sl 1 (rowsOf q.2.2)) none), (6, .d (.v (.int .i64 q.2.1)) none), (7, .d (.v (.int .i64 q.1)) none)])
    (fun q => CutAt c s q.1 q.2.1 q.2.2 ∨ (q.1 = s.size + 1 ∧ q.2.2 = splitP c s)) (fun q => s.size + 1 - q.1) (0, 0, []) (.inl (cut_start c s)) ?_ ?_
  · simp [rowsOf]
  rintro ⟨k, frm, done⟩ (h | ⟨h1, h2⟩)
  · simp only at h
    have hk := h.2.1
    have hw := wrap_nat (k := k) (by omega)
    have hdl := cut_len h
    have h5 := h.1
    have hroom : (done.length + 1) * 16 ≤ memRoom ∧ done.length + 1 ≤ strRoom := by constructor <;> simp only [memRoom, strRoom] <;> omega
    by_cases he : k = s.size
    · subst he
      simp [hw, h5, hroom]
      exact ⟨s.size + 1, s.size + 1, done ++ [s.extract frm s.size], .inr ⟨rfl, cut_end h⟩, by omega, by rw [rowsOf_snoc], by simp, by simp⟩
    · have hlt : k < s.data.toList.length := by rw [← size_eq]; omega
      have hne : ¬ ((k : Nat) : Int) = (s.size : Int) := by omega
      have hlt' : k < s.size := by omega
      obtain ⟨b, hb⟩ : ∃ b, s.data.toList[k]? = some b := ⟨_, List.getElem?_eq_getElem hlt⟩
      by_cases hbc : b = c
      · subst hbc
        simp [hk, hne, hb, hw, h5, hroom]
        exact ⟨k + 1, k + 1, done ++ [s.extract frm k], .inl (cut_hit h hb), by omega, by rw [rowsOf_snoc], by simp, by simp⟩
      · have hbn : ¬ b.toNat = c.toNat := fun e => hbc (UInt8.toNat_inj.1 e)
        have hbi : ¬ ((b.toNat : Nat) : Int) = ((c.toNat : Nat) : Int) := by omega
        simp [hk, hne, hb, hw, hbc, hbn, hbi]
        exact ⟨k + 1, frm, done, .inl (cut_miss h hb hbc), by omega, rfl, rfl, by simp⟩
  · simp only at h1 h2
    subst h1 h2
    have : ¬ ((s.size : Int) + 1 ≤ s.size) := by omega
    simp [this]
@[simp] theorem c_l3Split (s : ByteArray) (c : UInt8) (hs : s.size < 4294967281) {K : List X → List X → Prop} : callK E 33 [.d (.v (.string s)) none, .d (.v (.int .u8 c.toNat)) none] K = K [.d (.sl 1 (rowsOf (splitP c s))) none] [.u, .u] := callK_of (r_l3Split s c hs)

theorem r_Split (s : ByteArray) (c : UInt8) (hs : s.size < 4294967281) : Runs E 40 [.d (.v (.string s)) none, .d (.v (.string ⟨#[c]⟩)) none] [.d (.sl 1 (rowsOf (splitP c s))) none] [.u, .u] := by
  refine runs_of [] rfl Tryd.func40 rfl pk_40 rfl rfl ?_
  simp [hs]
@[simp] theorem c_Split (s : ByteArray) (c : UInt8) (hs : s.size < 4294967281) {K : List X → List X → Prop} : callK E 40 [.d (.v (.string s)) none, .d (.v (.string ⟨#[c]⟩)) none] K = K [.d (.sl 1 (rowsOf (splitP c s))) none] [.u, .u] := callK_of (r_Split s c hs)

/-! ## Digits -/

@[simp] theorem c_l1In (a b c : Int) {K : List X → List X → Prop} : callK E 46 [.d (.v (.int .i64 a)) none, .d (.v (.int .i64 b)) none, .d (.v (.int .i64 c)) none] K = K [.d (.v (.bool (decide (b ≤ a) && decide (a ≤ c)))) none] [.u, .u, .u] := by
  refine callK_of ?_
  refine runs_of [] rfl Tryd.func46 rfl pk_46 rfl rfl ?_
  by_cases h : b ≤ a <;> simp [h]

@[simp] theorem c_isFigure (b : UInt8) {K : List X → List X → Prop} : callK E 56 [.d (.v (.int .u8 b.toNat)) none] K = K [.d (.v (.bool (isFig b))) none] [.u] := by
  refine callK_of ?_
  refine runs_of [] rfl Tryd.func56 rfl pk_56 rfl rfl ?_
  by_cases h : (48 : Int) ≤ ((b.toNat : Nat) : Int)
  · have h' : 48 ≤ b.toNat := by omega
    simp [h, h', isFig]
    omega
  · have h' : ¬ 48 ≤ b.toNat := by omega
    simp [h, h', isFig]

theorem fig_int (b : UInt8) : (decide ((48 : Int) ≤ ((b.toNat : Nat) : Int)) && decide (((b.toNat : Nat) : Int) ≤ 57)) = isFig b := by
  unfold isFig
  congr 1
  · rw [decide_eq_decide]; omega
  · rw [decide_eq_decide]; omega
theorem emp_eq (s : ByteArray) : s.toList.isEmpty = decide (s = .empty) := by
  rw [Lib.toList_data]
  cases h : s.data.toList with
  | nil => have : s = .empty := ba_ext h; simp [this]
  | cons b l => have : s ≠ .empty := by rintro rfl; simp at h
                simp [this]
theorem figs_of {s : ByteArray} (h : ∀ j, j < s.size → ∀ b, s.data[j]? = some b → isFig b = true) : figs s = !(decide (s = .empty)) := by
  have : s.data.toList.all isFig = true := by
    rw [List.all_eq_true]
    intro b hb
    obtain ⟨j, hj, rfl⟩ := List.getElem_of_mem hb
    exact h j (by rw [size_eq]; exact hj) _ (by rw [← Array.getElem?_toList]; exact List.getElem?_eq_getElem hj)
  simp [figs, this]
theorem figs_no {s : ByteArray} {k : Nat} {b : UInt8} (hb : s.data[k]? = some b) (h : isFig b = false) : figs s = false := by
  have : s.data.toList.all isFig = false := by
    cases ha : s.data.toList.all isFig with
    | false => rfl
    | true => rw [List.all_eq_true] at ha; rw [ha b (by rw [← Array.getElem?_toList] at hb; exact List.mem_of_getElem? hb)] at h; cases h
  simp [figs, this]

theorem byte_at (s : ByteArray) (k : Nat) (h : k < s.size) : s.data.toList[k]? = some (s.data[k]'h) := by
  rw [Array.getElem?_toList, Array.getElem?_eq_getElem h]
theorem wrap_byte (b : UInt8) : IntKind.i64.wrap (b.toNat : Int) = b.toNat := by
  have := b.toNat_lt
  exact wrap_id (by omega) (by omega)
theorem r_isFigures (s : ByteArray) (hs : s.size < 4294967281) : Runs E 50 [.d (.v (.string s)) none] [.d (.v (.bool (figs s))) none] [.u] := by
  refine runs_of [] rfl Tryd.func50 rfl pk_50 rfl rfl ?_
  simp
  refine loop_by (fun k : Nat => [(0, .d (.v (.string s)) none), (3, .d (.v (.int .i64 k)) none)])
    (fun k => k ≤ s.size ∧ ∀ j, j < k → ∀ b, s.data[j]? = some b → isFig b = true) (fun k => s.size - k) 0 ⟨Nat.zero_le _, fun j hj => by omega⟩ ?_ ?_
  · simp
  rintro k ⟨hk, hbef⟩
  have hw := wrap_nat (k := k) (by omega)
  by_cases hlt : k < s.size
  · have hb : s.data[k]? = some (s.data[k]'hlt) := Array.getElem?_eq_getElem hlt
    cases hf : isFig (s.data[k]'hlt) with
    | true =>
      simp [hlt, hf, hw]
      exact ⟨k + 1, ⟨hlt, fun j hj b' hb' => by
        by_cases e : j = k
        · subst e; rw [hb] at hb'; cases hb'; exact hf
        · exact hbef j (by omega) b' hb'⟩, by omega, by simp⟩
    | false =>
      simp [hlt, hf, hw]
      exact figs_no hb hf
  · have e : k = s.size := by omega
    subst e
    simp [figs_of hbef, emp_eq]
@[simp] theorem c_isFigures (s : ByteArray) (hs : s.size < 4294967281) {K : List X → List X → Prop} : callK E 50 [.d (.v (.string s)) none] K = K [.d (.v (.bool (figs s))) none] [.u] := callK_of (r_isFigures s hs)

theorem r_l3Digits (s : ByteArray) (hs : s.size < 4294967281) : Runs E 42 [.d (.v (.string s)) none] [.d (.v (.bool (figs s))) none] [.u] := by
  refine runs_of [] rfl Tryd.func42 rfl pk_42 rfl rfl ?_
  simp
  refine loop_by (fun k : Nat => [(0, .d (.v (.string s)) none), (3, .d (.v (.int .i64 k)) none)])
    (fun k => k ≤ s.size ∧ ∀ j, j < k → ∀ b, s.data[j]? = some b → isFig b = true) (fun k => s.size - k) 0 ⟨Nat.zero_le _, fun j hj => by omega⟩ ?_ ?_
  · simp
  rintro k ⟨hk, hbef⟩
  have hw := wrap_nat (k := k) (by omega)
  by_cases hlt : k < s.size
  · have hb : s.data[k]? = some (s.data[k]'hlt) := Array.getElem?_eq_getElem hlt
    have hwb := wrap_byte (s.data[k]'hlt)
    cases hf : isFig (s.data[k]'hlt) with
    | true =>
      have hf2 := fig_int (s.data[k]'hlt)
      rw [hf] at hf2
      simp [hlt, hwb, hw, hf2]
      exact ⟨k + 1, ⟨hlt, fun j hj b' hb' => by
        by_cases e : j = k
        · subst e; rw [hb] at hb'; cases hb'; exact hf
        · exact hbef j (by omega) b' hb'⟩, by omega, by simp⟩
    | false =>
      have hf2 := fig_int (s.data[k]'hlt)
      rw [hf] at hf2
      simp [hlt, hwb, hw, hf2]
      exact figs_no hb hf
  · have e : k = s.size := by omega
    subst e
    simp [figs_of hbef, emp_eq]
@[simp] theorem c_l3Digits (s : ByteArray) (hs : s.size < 4294967281) {K : List X → List X → Prop} : callK E 42 [.d (.v (.string s)) none] K = K [.d (.v (.bool (figs s))) none] [.u] := callK_of (r_l3Digits s hs)

theorem figs_pos {s : ByteArray} (h : figs s = true) : 0 < s.size := by
  rcases Nat.eq_zero_or_pos s.size with e | e
  · exfalso
    have : s = .empty := ba_ext (by rw [size_eq] at e; rw [List.length_eq_zero_iff.1 e]; rfl)
    subst this
    simp [figs] at h
  · exact e
theorem head_int (s : ByteArray) (h : 0 < s.size) : decide ((((s.data[0]'h).toNat : Nat) : Int) = 48) = head0 s := by
  unfold head0
  rw [Array.getElem?_toList, Array.getElem?_eq_getElem h, decide_eq_decide]
  constructor
  · intro e
    have : s.data[0]'h = 48 := UInt8.toNat_inj.1 (by simp; omega)
    rw [this]
  · intro e
    simp only [Option.some.injEq] at e
    rw [e]; rfl

theorem r_isNumber (s : ByteArray) (hs : s.size < 4294967281) : Runs E 44 [.d (.v (.string s)) none] [.d (.v (.bool (isNum s))) none] [.u] := by
  refine runs_of [] rfl Tryd.func44 rfl pk_44 rfl rfl ?_
  cases hf : figs s with
  | false => simp [hs, hf, isNum]
  | true =>
    by_cases hz : s = ⟨#[48]⟩
    · subst hz
      simp [hs, hf, isNum, isZero]
    · have h0 := figs_pos hf
      have hz' : (s.toList == [48]) = false := by
        rw [Lib.toList_data]
        cases hh : s.data.toList == [48] with
        | false => rfl
        | true => exact (hz (ba_ext (by simpa using hh))).elim
      have hh := head_int s h0
      simp [hs, hf, hz, hz', isNum, isZero, h0, ← hh]
@[simp] theorem c_isNumber (s : ByteArray) (hs : s.size < 4294967281) {K : List X → List X → Prop} : callK E 44 [.d (.v (.string s)) none] K = K [.d (.v (.bool (isNum s))) none] [.u] := callK_of (r_isNumber s hs)

/-! ## How they compare -/

@[simp] theorem less_toList (a b : ByteArray) : Op.bytesLess a.toList b.toList = Op.bytesLess a.data.toList b.data.toList := by rw [Lib.toList_data, Lib.toList_data]

def cmpI (a b : Int) : Int := if a < b then -1 else if a > b then 1 else 0

@[simp] theorem c_cmpInt (a b : Int) {K : List X → List X → Prop} : callK E 36 [.d (.v (.int .i64 a)) none, .d (.v (.int .i64 b)) none] K = K [.d (.v (.int .i64 (cmpI a b))) none] [.u, .u] := by
  have hn : ∀ (x : Int) {K : List X → List X → Prop}, callK E 39 [.d (.v (.int .i64 x)) none] K = K [.d (.v (.bool false)) none] [.u] := by
    intro x K
    refine callK_of ?_
    refine runs_of [] rfl Tryd.func39 rfl pk_39 rfl rfl ?_
    simp
  refine callK_of ?_
  refine runs_of [] rfl Tryd.func36 rfl pk_36 rfl rfl ?_
  by_cases h : a < b
  · simp [hn, h, cmpI]
  · by_cases h2 : b < a <;> simp [hn, h, h2, cmpI]

@[simp] theorem c_cmpStr (a b : ByteArray) {K : List X → List X → Prop} : callK E 45 [.d (.v (.string a)) none, .d (.v (.string b)) none] K = K [.d (.v (.int .i64 (cmpB a b))) none] [.u, .u] := by
  have hn : ∀ (x : ByteArray) {K : List X → List X → Prop}, callK E 51 [.d (.v (.string x)) none] K = K [.d (.v (.bool false)) none] [.u] := by
    intro x K
    refine callK_of ?_
    refine runs_of [] rfl Tryd.func51 rfl pk_51 rfl rfl ?_
    simp
  refine callK_of ?_
  refine runs_of [] rfl Tryd.func45 rfl pk_45 rfl rfl ?_
  cases h : Op.bytesLess a.data.toList b.data.toList with
  | true => simp [hn, h, cmpB]
  | false =>
    by_cases h2 : a = b
    · subst h2; simp [hn, h, cmpB]
    · simp [hn, h, h2, cmpB]

/-- The first that is not zero. -/
def orI : List Int → Int
  | [] => 0
  | a :: l => if a = 0 then orI l else a

theorem orI_at : ∀ {l : List Int} {k : Nat} {v : Int}, (∀ j, j < k → l[j]? = some 0) → l[k]? = some v → v ≠ 0 → orI l = v
  | a :: l, 0, v, _, h, hv => by
    simp only [List.getElem?_cons_zero, Option.some.injEq] at h
    subst h
    rw [orI, if_neg hv]
  | a :: l, k + 1, v, h0, h, hv => by
    have h1 := h0 0 (Nat.succ_pos k)
    simp only [List.getElem?_cons_zero, Option.some.injEq] at h1
    rw [orI, if_pos h1]
    exact orI_at (k := k) (fun j hj => by have := h0 (j + 1) (by omega); simpa using this) (by simpa using h) hv
  | [], _, _, _, h, _ => by simp at h
theorem orI_all : ∀ {l : List Int}, (∀ j, j < l.length → l[j]? = some 0) → orI l = 0
  | [], _ => rfl
  | a :: l, h => by
    have h1 := h 0 (by simp)
    simp only [List.getElem?_cons_zero, Option.some.injEq] at h1
    rw [orI, if_pos h1]
    exact orI_all fun j hj => by have := h (j + 1) (by simpa using hj); simpa using this

def rowsI (l : List Int) : List (List D) := l.map fun n => [.v (.int .i64 n)]

theorem r_cmpOr (l : List Int) (hl : l.length < 1000000) : Runs E 35 [.d (.sl 1 (rowsI l)) none] [.d (.v (.int .i64 (orI l))) none] [.u] := by
  refine runs_of [] rfl Tryd.func35 rfl pk_35 rfl rfl ?_
  simp
  refine loop_by (fun k : Nat => [(0, .d (.sl 1 (rowsI l)) none), (3, .d (.v (.int .i64 0)) none), (6, .d (.sl 1 (rowsI l)) (some ⟨0, []⟩)), (7, .d (.v (.int .i64 l.length)) none), (8, .d (.v (.int .i64 k)) none)])
    (fun k => k ≤ l.length ∧ ∀ j, j < k → l[j]? = some 0) (fun k => l.length - k) 0 ⟨Nat.zero_le _, fun j hj => by omega⟩ ?_ ?_
  · simp [rowsI]
  rintro k ⟨hk, hbef⟩
  have hw := wrap_nat (k := k) (by omega)
  by_cases hlt : k < l.length
  · by_cases h0 : l[k] = 0
    · simp [hlt, h0, hw, rowsI]
      exact ⟨k + 1, ⟨hlt, fun j hj => by
        by_cases e : j = k
        · subst e; rw [List.getElem?_eq_getElem hlt, h0]
        · exact hbef j (by omega)⟩, by omega, by simp⟩
    · simp [hlt, h0, hw, rowsI]
      exact (orI_at hbef (List.getElem?_eq_getElem hlt) h0).symm
  · have e : k = l.length := by omega
    subst e
    simp
    exact (orI_all hbef).symm
theorem c_cmpOr2 (a b : Int) {K : List X → List X → Prop} : callK E 35 [.d (.sl 1 [[.v (.int .i64 a)], [.v (.int .i64 b)]]) none] K = K [.d (.v (.int .i64 (orI [a, b]))) none] [.u] := callK_of (r_cmpOr [a, b] (by simp))
theorem c_cmpOr4 (a b c d : Int) {K : List X → List X → Prop} : callK E 35 [.d (.sl 1 [[.v (.int .i64 a)], [.v (.int .i64 b)], [.v (.int .i64 c)], [.v (.int .i64 d)]]) none] K = K [.d (.v (.int .i64 (orI [a, b, c, d]))) none] [.u] := callK_of (r_cmpOr [a, b, c, d] (by simp))

theorem same_next {p q : List ByteArray} {k : Nat} (h : ∀ j, j < k → p[j]? = q[j]?) (hp : k < p.length) (hq : k < q.length) (he : p[k] = q[k]) : ∀ j, j < k + 1 → p[j]? = q[j]? := by
  intro j hj
  by_cases e : j = k
  · subst e; rw [List.getElem?_eq_getElem hp, List.getElem?_eq_getElem hq, he]
  · exact h j (by omega)
theorem listCmp_diff {p q : List ByteArray} {k : Nat} (h : ∀ j, j < k → p[j]? = q[j]?) (hp : k < p.length) (hq : k < q.length) (hne : ¬ p[k] = q[k]) : listCmp p q = partCmp p[k] q[k] := by
  rw [listCmp_at h (by omega) (by omega), List.drop_eq_getElem_cons hp, List.drop_eq_getElem_cons hq, listCmp, if_neg hne]
theorem listCmp_end {p q : List ByteArray} {k : Nat} (h : ∀ j, j < k → p[j]? = q[j]?) (hp : k ≤ p.length) (hq : k ≤ q.length) (hn : ¬ (k < p.length ∧ k < q.length)) : listCmp p q = cmpI p.length q.length := by
  rw [listCmp_at h hp hq]
  unfold cmpI
  by_cases e : k < p.length
  · have hq2 : q.drop k = [] := List.drop_of_length_le (by omega)
    rw [List.drop_eq_getElem_cons e, hq2, listCmp, if_neg (by omega), if_pos (by omega)]
  · have hp2 : p.drop k = [] := List.drop_of_length_le (by omega)
    rw [hp2]
    by_cases e2 : k < q.length
    · rw [List.drop_eq_getElem_cons e2, listCmp, if_pos (by omega)]
    · have hq2 : q.drop k = [] := List.drop_of_length_le (by omega)
      rw [hq2, listCmp, if_neg (by omega), if_neg (by omega)]
theorem listLess_diff {p q : List ByteArray} {k : Nat} (h : ∀ j, j < k → p[j]? = q[j]?) (hp : k < p.length) (hq : k < q.length) (hne : ¬ p[k] = q[k]) : listLess p q = partLess p[k] q[k] := by
  rw [listLess_at h (by omega) (by omega), List.drop_eq_getElem_cons hp, List.drop_eq_getElem_cons hq, listLess, if_neg hne]
theorem listLess_end {p q : List ByteArray} {k : Nat} (h : ∀ j, j < k → p[j]? = q[j]?) (hp : k ≤ p.length) (hq : k ≤ q.length) (hn : ¬ (k < p.length ∧ k < q.length)) : listLess p q = decide ((p.length : Int) < (q.length : Int)) := by
  rw [Bool.eq_iff_iff, ← listCmp_neg, listCmp_end h hp hq hn, decide_eq_true_eq]
  unfold cmpI
  split <;> (try split) <;> omega

set_option maxHeartbeats 4000000 in
theorem r_comparePart (a b : ByteArray) (ha : a.size < 4294967281) (hb : b.size < 4294967281) : Runs E 41 [.d (.v (.string a)) none, .d (.v (.string b)) none] [.d (.v (.int .i64 (partCmp a b))) none] [.u, .u] := by
  refine runs_of [] rfl Tryd.func41 rfl pk_41 rfl rfl ?_
  have fin : num8 a = true → num8 b = true → orI [cmpI a.size b.size, cmpB a b] = partCmp a b := by
    intro h1 h2
    have : ((a.size : Nat) : Int) = ((b.size : Nat) : Int) ↔ a.size = b.size := by omega
    simp only [partCmp, h1, h2, Bool.and_self, if_true, orI, cmpI, cmpN]
    by_cases e : a.size = b.size
    · simp [e]; omega
    · by_cases e2 : a.size < b.size
      · simp [e, e2]
      · have e3 : b.size < a.size := by omega
        simp [e, e2, e3]
  cases h1 : isNum a <;> cases h2 : isNum b <;> by_cases h3' : ((a.size : Nat) : Int) ≤ 8 <;> by_cases h4' : ((b.size : Nat) : Int) ≤ 8
  all_goals (have h3 : a.size ≤ 8 ↔ ((a.size : Nat) : Int) ≤ 8 := by omega)
  all_goals (have h4 : b.size ≤ 8 ↔ ((b.size : Nat) : Int) ≤ 8 := by omega)
  all_goals (simp only [h3', h4', iff_true, iff_false] at h3 h4)
  all_goals first
    | (have p1 : num8 a = true := by simp [num8, h1, h3]
       have p2 : num8 b = true := by simp [num8, h2, h4]
       have := fin p1 p2
       simp [ha, hb, h1, h2, h3, h4, h3', h4', c_cmpOr2, this]; done)
    | (simp [ha, hb, h1, h2, h3, h4, h3', h4', partCmp, num8]; done)
@[simp] theorem c_comparePart (a b : ByteArray) (ha : a.size < 4294967281) (hb : b.size < 4294967281) {K : List X → List X → Prop} : callK E 41 [.d (.v (.string a)) none, .d (.v (.string b)) none] K = K [.d (.v (.int .i64 (partCmp a b))) none] [.u, .u] := callK_of (r_comparePart a b ha hb)

theorem r_comparePre (a b : ByteArray) (ha : a.size < 4294967281) (hb : b.size < 4294967281) : Runs E 37 [.d (.v (.string a)) none, .d (.v (.string b)) none] [.d (.v (.int .i64 (preCmp a b))) none] [.u, .u] := by
  refine runs_of [(11, [31, 32, 33, 34, 35, 36, 37, 38])] rfl Tryd.func37 rfl pk_37 rfl rfl ?_
  by_cases h1 : a = b
  · simp [h1, preCmp]
  by_cases h2 : a = .empty
  · subst h2
    have h1' : ¬ b = .empty := fun e => h1 e.symm
    simp [h1, h1', preCmp, emp_eq]
  by_cases h3 : b = .empty
  · subst h3
    simp [h1, h2, preCmp, emp_eq]
  have hp : preCmp a b = listCmp (splitP 46 a) (splitP 46 b) := by simp [preCmp, h1, h2, h3]
  have l1 := splitP_len 46 a
  have l2 := splitP_len 46 b
  have z1 : ∀ x ∈ splitP 46 a, x.size < 4294967281 := fun x hx => Nat.lt_of_le_of_lt (splitP_size hx) ha
  have z2 : ∀ x ∈ splitP 46 b, x.size < 4294967281 := fun x hx => Nat.lt_of_le_of_lt (splitP_size hx) hb
  rw [hp]
  simp [h1, h2, h3, ha, hb, emp_eq]
  generalize splitP 46 a = p at *
  generalize splitP 46 b = q at *
  refine loop_by (fun k : Nat => [(0, .d (.v (.string a)) none), (1, .d (.v (.string b)) none), (5, .d (.sl 1 (rowsOf p)) none), (6, .d (.sl 1 (rowsOf q)) none), (27, .d (.v (.int .i64 (min (p.length : Int) q.length))) none), (28, .d (.v (.int .i64 k)) none)])
    (fun k => k ≤ p.length ∧ k ≤ q.length ∧ ∀ j, j < k → p[j]? = q[j]?) (fun k => p.length - k) 0 ⟨Nat.zero_le _, Nat.zero_le _, fun j hj => by omega⟩ ?_ ?_
  · simp
    split <;> omega
  rintro k ⟨hk, hk2, hbef⟩
  have hw := wrap_nat (k := k) (by omega)
  by_cases hlt : k < p.length ∧ k < q.length
  · obtain ⟨hlp, hlq⟩ := hlt
    have hm : (k : Int) < min (p.length : Int) q.length := by omega
    have z1' := z1 _ (List.getElem_mem hlp)
    have z2' := z2 _ (List.getElem_mem hlq)
    by_cases h0 : p[k] = q[k]
    · have hc : partCmp p[k] q[k] = 0 := partCmp_zero.2 h0
      simp [hlp, hlq, hw, hm, z1', z2', hc]
      exact ⟨k + 1, ⟨hlp, hlq, same_next hbef hlp hlq h0⟩, by omega, by simp⟩
    · have hc : ¬ partCmp p[k] q[k] = 0 := fun e => h0 (partCmp_zero.1 e)
      simp [hlp, hlq, hw, hm, z1', z2', hc]
      exact (listCmp_diff hbef hlp hlq h0).symm
  · have hm : ¬ (k : Int) < min (p.length : Int) q.length := by omega
    simp [hm]
    exact (listCmp_end hbef hk hk2 hlt).symm
@[simp] theorem c_comparePre (a b : ByteArray) (ha : a.size < 4294967281) (hb : b.size < 4294967281) {K : List X → List X → Prop} : callK E 37 [.d (.v (.string a)) none, .d (.v (.string b)) none] K = K [.d (.v (.int .i64 (preCmp a b))) none] [.u, .u] := callK_of (r_comparePre a b ha hb)

/-- How the program compares two versions. -/
def verCmp (a1 a2 a3 : Int) (a4 : ByteArray) (b1 b2 b3 : Int) (b4 : ByteArray) : Int := orI [cmpI a1 b1, cmpI a2 b2, cmpI a3 b3, preCmp a4 b4]
def verLess (a1 a2 a3 : Int) (a4 : ByteArray) (b1 b2 b3 : Int) (b4 : ByteArray) : Bool :=
  if a1 ≠ b1 then decide (a1 < b1) else if a2 ≠ b2 then decide (a2 < b2) else if a3 ≠ b3 then decide (a3 < b3) else preLess a4 b4

theorem verCmp_neg {a1 a2 a3 b1 b2 b3 : Int} {a4 b4 : ByteArray} : verCmp a1 a2 a3 a4 b1 b2 b3 b4 < 0 ↔ verLess a1 a2 a3 a4 b1 b2 b3 b4 = true := by
  have hz : ∀ x y : Int, cmpI x y = 0 ↔ x = y := by intro x y; unfold cmpI; split <;> (try split) <;> omega
  have hn : ∀ x y : Int, cmpI x y < 0 ↔ x < y := by intro x y; unfold cmpI; split <;> (try split) <;> omega
  unfold verCmp verLess
  simp only [orI, hz]
  by_cases h1 : a1 = b1
  · by_cases h2 : a2 = b2
    · by_cases h3 : a3 = b3
      · simp only [h1, h2, h3, if_true, ne_eq, not_true, if_false]
        rw [← preCmp_neg]
        split <;> omega
      · simp [h1, h2, h3, hn]
    · simp [h1, h2, hn]
  · simp [h1, hn]

theorem r_implLess (a1 a2 a3 : Int) (a4 : ByteArray) (b1 b2 b3 : Int) (b4 : ByteArray) (ha : a4.size < 4294967281) (hb : b4.size < 4294967281) :
    Runs E 20 [.agg [.v (.int .i64 a1), .v (.int .i64 a2), .v (.int .i64 a3), .v (.string a4)] none, .agg [.v (.int .i64 b1), .v (.int .i64 b2), .v (.int .i64 b3), .v (.string b4)] none] [.d (.v (.bool (verLess a1 a2 a3 a4 b1 b2 b3 b4))) none] [.u, .u] := by
  have hcmp : ∀ {K : List X → List X → Prop}, callK E 31 [.agg [.v (.int .i64 a1), .v (.int .i64 a2), .v (.int .i64 a3), .v (.string a4)] none, .agg [.v (.int .i64 b1), .v (.int .i64 b2), .v (.int .i64 b3), .v (.string b4)] none] K = K [.d (.v (.int .i64 (verCmp a1 a2 a3 a4 b1 b2 b3 b4))) none] [.u, .u] := by
    intro K
    refine callK_of ?_
    refine runs_of [(1, [5, 6, 7, 8, 9, 10, 11, 12, 13, 14, 15, 16, 17, 18, 19, 20, 21, 22, 23])] rfl Tryd.func31 rfl pk_31 rfl rfl ?_
    simp [ha, hb, c_cmpOr4, verCmp]
  refine runs_of [] rfl Tryd.func20 rfl pk_20 rfl rfl ?_
  simp [hcmp]
  have := verCmp_neg (a1 := a1) (a2 := a2) (a3 := a3) (a4 := a4) (b1 := b1) (b2 := b2) (b3 := b3) (b4 := b4)
  rw [Bool.eq_iff_iff, decide_eq_true_eq]
  exact this
@[simp] theorem c_implLess (a1 a2 a3 : Int) (a4 : ByteArray) (b1 b2 b3 : Int) (b4 : ByteArray) (ha : a4.size < 4294967281) (hb : b4.size < 4294967281) {K : List X → List X → Prop} :
    callK E 20 [.agg [.v (.int .i64 a1), .v (.int .i64 a2), .v (.int .i64 a3), .v (.string a4)] none, .agg [.v (.int .i64 b1), .v (.int .i64 b2), .v (.int .i64 b3), .v (.string b4)] none] K = K [.d (.v (.bool (verLess a1 a2 a3 a4 b1 b2 b3 b4))) none] [.u, .u] := callK_of (r_implLess a1 a2 a3 a4 b1 b2 b3 b4 ha hb)

/-! ## The reference's -/

theorem c_l3Split46 (s : ByteArray) (hs : s.size < 4294967281) {K : List X → List X → Prop} : callK E 33 [.d (.v (.string s)) none, .d (.v (.int .u8 46)) none] K = K [.d (.sl 1 (rowsOf (splitP 46 s))) none] [.u, .u] := callK_of (r_l3Split s 46 hs)

theorem num8_eq (s : ByteArray) (h : figs s = true) : num8 s = (decide (s.size ≤ 8) && !(decide (1 < s.size) && head0 s)) := by
  have h0 := figs_pos h
  unfold num8 isNum
  rw [h, Bool.true_and, Bool.and_comm]
  congr 1
  by_cases h1 : 1 < s.size
  · have : isZero s = false := by
      unfold isZero
      rw [decide_eq_false_iff_not]
      rintro rfl
      exact absurd h1 (by decide)
    simp [h1, this]
  · have h2 : s.size = 1 := by omega
    have : isZero s = head0 s := by
      unfold isZero head0
      rw [decide_eq_decide]
      rw [size_eq] at h2
      constructor
      · rintro rfl; rfl
      · intro e
        match hl : s.data.toList, h2 with
        | [b], _ => rw [hl] at e; simp at e; subst e; exact ba_ext hl
    rw [this]
    simp [h1]

theorem wrap_u8 {n : Int} (h1 : 0 ≤ n) (h2 : n < 256) : IntKind.wrap .u8 n = n := by
  have e : IntKind.bits .u8 = 8 := rfl
  have e' : IntKind.signed .u8 = false := rfl
  unfold IntKind.wrap
  simp only [e, e', Bool.false_and, if_false]
  have : n % 2 ^ 8 = n := by omega
  simp
  omega

/-- While a number is read. -/
def NumAt (s : ByteArray) (k n : Nat) : Prop := k ≤ s.size ∧ n = (s.data.toList.take k).foldl (fun n b => n * 10 + (b.toNat - 48)) 0
theorem num_start (s : ByteArray) : NumAt s 0 0 := ⟨Nat.zero_le _, by simp⟩
theorem num_end {s : ByteArray} {n : Nat} (h : NumAt s s.size n) : n = val s := by
  rw [h.2, List.take_of_length_le (by rw [size_eq]; exact Nat.le_refl _)]; rfl
theorem num_step {s : ByteArray} {k n : Nat} (hf : figs s = true) (h8 : s.size ≤ 8) (h : NumAt s k n) (hlt : k < s.size) :
    IntKind.u8.wrap (((s.data[k]'hlt).toNat : Int) - 48) = (((s.data[k]'hlt).toNat - 48 : Nat) : Int) ∧ IntKind.i64.wrap (((s.data[k]'hlt).toNat - 48 : Nat) : Int) = (((s.data[k]'hlt).toNat - 48 : Nat) : Int) ∧
    IntKind.i64.wrap (IntKind.i64.wrap ((n : Int) * 10) + (((s.data[k]'hlt).toNat - 48 : Nat) : Int)) = ((n * 10 + ((s.data[k]'hlt).toNat - 48) : Nat) : Int) ∧ NumAt s (k + 1) (n * 10 + ((s.data[k]'hlt).toNat - 48)) := by
  obtain ⟨hk, hn⟩ := h
  have hfa : s.data.toList.all isFig = true := by simp only [figs, Bool.and_eq_true] at hf; exact hf.1
  have hb : isFig (s.data[k]'hlt) = true := by
    rw [List.all_eq_true] at hfa
    exact hfa _ (by simp)
  simp only [isFig, Bool.and_eq_true, decide_eq_true_eq] at hb
  have hbd : n < 10 ^ 8 := by
    have h1 := fold_below (s.data.toList.take k) 0 (by rw [List.all_eq_true] at hfa ⊢; exact fun b hb => hfa b (List.mem_of_mem_take hb))
    rw [← hn] at h1
    have h2 : (s.data.toList.take k).length ≤ 8 := by rw [List.length_take, ← size_eq]; omega
    refine Nat.lt_of_lt_of_le h1 ?_
    rw [Nat.zero_add, Nat.one_mul]
    exact Nat.pow_le_pow_right (by omega) h2
  have hbd : n < 100000000 := hbd
  have htk : s.data.toList.take (k + 1) = s.data.toList.take k ++ [s.data[k]'hlt] := by
    rw [List.take_add_one]
    congr 1
    rw [Array.getElem?_toList, Array.getElem?_eq_getElem hlt]; rfl
  generalize (s.data[k]'hlt) = b at *
  have hb2 : ((b.toNat - 48 : Nat) : Int) = (b.toNat : Int) - 48 := by omega
  refine ⟨?_, ?_, ?_, by omega, ?_⟩
  · rw [hb2]; exact wrap_u8 (by omega) (by omega)
  · exact wrap_id (by omega) (by omega)
  · rw [wrap_id (n := (n : Int) * 10) (by omega) (by omega), wrap_id (by omega) (by omega)]; omega
  · rw [htk, List.foldl_append, ← hn]; rfl

def numV (s : ByteArray) : Int := if num8 s then (val s : Int) else -1

theorem r_l3Number (s : ByteArray) (hs : s.size < 4294967281) : Runs E 38 [.d (.v (.string s)) none] [.d (.v (.int .i64 (numV s))) none] [.u] := by
  refine runs_of [] rfl Tryd.func38 rfl pk_38 rfl rfl ?_
  cases hf : figs s with
  | false =>
    have hn : num8 s = false := by simp [num8, isNum, hf]
    simp [hs, hf, numV, hn]
  | true =>
    have h0 := figs_pos hf
    have he := num8_eq s hf
    have hh := head_int s h0
    by_cases h8 : ((s.size : Nat) : Int) ≤ 8
    · have h8' : s.size ≤ 8 := by omega
      have h8n : ¬ 8 < ((s.size : Nat) : Int) := by omega
      by_cases h1 : 1 < ((s.size : Nat) : Int)
      · have h1' : 1 < s.size := by omega
        cases hd : head0 s with
        | true =>
          have hn : num8 s = false := by rw [he, hd]; simp [h8', h1']
          rw [hd] at hh
          simp [hs, hf, numV, hn, h8n, h1, h0, hh]
        | false =>
          rw [hd] at hh
          have hv : numV s = (val s : Int) := by simp [numV, he, hd, h8']
          simp [hs, hf, h8n, h1, h0, hh]
          refine loop_by (fun q : Nat × Nat => [(0, .d (.v (.string s)) none), (3, .d (.v (.int .i64 q.2)) none), (4, .d (.v (.int .i64 q.1)) none)])
            (fun q => NumAt s q.1 q.2) (fun q => s.size - q.1) (0, 0) (num_start s) ?_ ?_
          · simp
          rintro ⟨k, n⟩ hq
          simp only at hq
          have hw := wrap_nat (k := k) (by have := hq.1; omega)
          by_cases hlt : k < s.size
          · obtain ⟨g1, g2, g3, g4⟩ := num_step hf h8' hq hlt
            simp [hlt, hw, g1, g2, g3]
            exact ⟨k + 1, _, g4, by omega, rfl, by simp⟩
          · have e : k = s.size := by have := hq.1; omega
            subst e
            simp [hv, num_end hq]
      · have h1' : ¬ 1 < s.size := by omega
        have hv : numV s = (val s : Int) := by simp [numV, he, h1', h8']
        simp [hs, hf, h8n, h1, h0, hh]
        refine loop_by (fun q : Nat × Nat => [(0, .d (.v (.string s)) none), (3, .d (.v (.int .i64 q.2)) none), (4, .d (.v (.int .i64 q.1)) none)])
          (fun q => NumAt s q.1 q.2) (fun q => s.size - q.1) (0, 0) (num_start s) ?_ ?_
        · simp
        rintro ⟨k, n⟩ hq
        simp only at hq
        have hw := wrap_nat (k := k) (by have := hq.1; omega)
        by_cases hlt : k < s.size
        · obtain ⟨g1, g2, g3, g4⟩ := num_step hf h8' hq hlt
          simp [hlt, hw, g1, g2, g3]
          exact ⟨k + 1, _, g4, by omega, rfl, by simp⟩
        · have e : k = s.size := by have := hq.1; omega
          subst e
          simp [hv, num_end hq]
    · have h8n : 8 < ((s.size : Nat) : Int) := by omega
      have hn : num8 s = false := by rw [he]; have : ¬ s.size ≤ 8 := by omega
                                     simp [this]
      simp [hs, hf, numV, hn, h8n]
@[simp] theorem c_l3Number (s : ByteArray) (hs : s.size < 4294967281) {K : List X → List X → Prop} : callK E 38 [.d (.v (.string s)) none] K = K [.d (.v (.int .i64 (numV s))) none] [.u] := callK_of (r_l3Number s hs)

theorem r_l3LessPart (a b : ByteArray) (ha : a.size < 4294967281) (hb : b.size < 4294967281) : Runs E 34 [.d (.v (.string a)) none, .d (.v (.string b)) none] [.d (.v (.bool (partLess a b))) none] [.u, .u] := by
  refine runs_of [] rfl Tryd.func34 rfl pk_34 rfl rfl ?_
  have g0 : ∀ n : Nat, (0 : Int) ≤ (n : Int) := fun n => by omega
  cases h1 : num8 a <;> cases h2 : num8 b <;> simp [ha, hb, numV, h1, h2, partLess, g0]
@[simp] theorem c_l3LessPart (a b : ByteArray) (ha : a.size < 4294967281) (hb : b.size < 4294967281) {K : List X → List X → Prop} : callK E 34 [.d (.v (.string a)) none, .d (.v (.string b)) none] K = K [.d (.v (.bool (partLess a b))) none] [.u, .u] := callK_of (r_l3LessPart a b ha hb)

theorem r_l3LessPre (a b : ByteArray) (ha : a.size < 4294967281) (hb : b.size < 4294967281) : Runs E 28 [.d (.v (.string a)) none, .d (.v (.string b)) none] [.d (.v (.bool (listLess (splitP 46 a) (splitP 46 b)))) none] [.u, .u] := by
  refine runs_of [(6, [24, 25, 26, 27, 28, 29, 30, 31]), (7, [33, 34, 35, 36, 37, 38, 39, 40])] rfl Tryd.func28 rfl pk_28 rfl rfl ?_
  have l1 := splitP_len 46 a
  have l2 := splitP_len 46 b
  have z1 : ∀ x ∈ splitP 46 a, x.size < 4294967281 := fun x hx => Nat.lt_of_le_of_lt (splitP_size hx) ha
  have z2 : ∀ x ∈ splitP 46 b, x.size < 4294967281 := fun x hx => Nat.lt_of_le_of_lt (splitP_size hx) hb
  simp [ha, hb, c_l3Split46]
  generalize splitP 46 a = p at *
  generalize splitP 46 b = q at *
  refine loop_by (fun k : Nat => [(0, .d (.v (.string a)) none), (1, .d (.v (.string b)) none), (5, .d (.sl 1 (rowsOf p)) none), (6, .d (.sl 1 (rowsOf q)) none), (7, .d (.v (.int .i64 k)) none)])
    (fun k => k ≤ p.length ∧ k ≤ q.length ∧ ∀ j, j < k → p[j]? = q[j]?) (fun k => p.length - k) 0 ⟨Nat.zero_le _, Nat.zero_le _, fun j hj => by omega⟩ ?_ ?_
  · simp
  rintro k ⟨hk, hk2, hbef⟩
  have hw := wrap_nat (k := k) (by omega)
  by_cases hlt : k < p.length ∧ k < q.length
  · obtain ⟨hlp, hlq⟩ := hlt
    have z1' := z1 _ (List.getElem_mem hlp)
    have z2' := z2 _ (List.getElem_mem hlq)
    by_cases h0 : p[k] = q[k]
    · simp [hlp, hlq, hw, h0]
      exact ⟨k + 1, ⟨hlp, hlq, same_next hbef hlp hlq h0⟩, by omega, by simp⟩
    · simp [hlp, hlq, hw, h0, z1', z2']
      exact (listLess_diff hbef hlp hlq h0).symm
  · have he := listLess_end hbef hk hk2 hlt
    by_cases hp : k < p.length
    · have hq : ¬ k < q.length := fun h => hlt ⟨hp, h⟩
      simp [hp, hq, he]
    · simp [hp, he]
@[simp] theorem c_l3LessPre (a b : ByteArray) (ha : a.size < 4294967281) (hb : b.size < 4294967281) {K : List X → List X → Prop} : callK E 28 [.d (.v (.string a)) none, .d (.v (.string b)) none] K = K [.d (.v (.bool (listLess (splitP 46 a) (splitP 46 b)))) none] [.u, .u] := callK_of (r_l3LessPre a b ha hb)

set_option maxHeartbeats 1000000 in
theorem r_specLess (a1 a2 a3 : Int) (a4 : ByteArray) (b1 b2 b3 : Int) (b4 : ByteArray) (ha : a4.size < 4294967281) (hb : b4.size < 4294967281) :
    Runs E 16 [.agg [.v (.int .i64 a1), .v (.int .i64 a2), .v (.int .i64 a3), .v (.string a4)] none, .agg [.v (.int .i64 b1), .v (.int .i64 b2), .v (.int .i64 b3), .v (.string b4)] none] [.d (.v (.bool (verLess a1 a2 a3 a4 b1 b2 b3 b4))) none] [.u, .u] := by
  refine runs_of [] rfl Tryd.func16 rfl pk_16 rfl rfl ?_
  by_cases h1 : a1 = b1
  · by_cases h2 : a2 = b2
    · by_cases h3 : a3 = b3
      · by_cases h4 : a4 = b4
        · simp [h1, h2, h3, h4, verLess, preLess]
        · by_cases h5 : a4 = .empty
          · subst h5
            have h4' : ¬ b4 = .empty := fun e => h4 e.symm
            simp [h1, h2, h3, h4, h4', verLess, preLess, emp_eq]
          · by_cases h6 : b4 = .empty
            · subst h6
              simp [h1, h2, h3, h4, h5, verLess, preLess, emp_eq]
            · simp [h1, h2, h3, h4, h5, h6, verLess, preLess, emp_eq, ha, hb]
      · simp [h1, h2, h3, verLess]
    · simp [h1, h2, verLess]
  · simp [h1, verLess]
@[simp] theorem c_specLess (a1 a2 a3 : Int) (a4 : ByteArray) (b1 b2 b3 : Int) (b4 : ByteArray) (ha : a4.size < 4294967281) (hb : b4.size < 4294967281) {K : List X → List X → Prop} :
    callK E 16 [.agg [.v (.int .i64 a1), .v (.int .i64 a2), .v (.int .i64 a3), .v (.string a4)] none, .agg [.v (.int .i64 b1), .v (.int .i64 b2), .v (.int .i64 b3), .v (.string b4)] none] K = K [.d (.v (.bool (verLess a1 a2 a3 a4 b1 b2 b3 b4))) none] [.u, .u] := callK_of (r_specLess a1 a2 a3 a4 b1 b2 b3 b4 ha hb)
end Go.Proofs.YtojciiiilfmjgaaDoor

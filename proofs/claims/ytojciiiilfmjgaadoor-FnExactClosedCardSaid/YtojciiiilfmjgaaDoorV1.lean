/- Texts cut at a byte, parts of versions and how they compare, in plain lists. -/
import Derived.Lib.SplitLaws
import Derived.Lib.IndexBytes
set_option linter.all false
namespace Go.Ev
open Go.Lib

/-! ## Cut at a byte -/

def pieces (c : UInt8) : List UInt8 → List (List UInt8)
  | [] => [[]]
  | b :: l => if b = c then [] :: pieces c l else match pieces c l with
    | p :: ps => (b :: p) :: ps
    | [] => [[b]]

/-- A beginning is put ahead of the first piece. -/
def addH (q : List UInt8) : List (List UInt8) → List (List UInt8)
  | p :: ps => (q ++ p) :: ps
  | [] => [q]

theorem pieces_ne (c : UInt8) : ∀ l, pieces c l ≠ []
  | [] => by simp [pieces]
  | b :: l => by
    unfold pieces
    split
    · simp
    · split <;> simp

theorem pieces_cons (c b : UInt8) (l : List UInt8) (h : b ≠ c) : pieces c (b :: l) = addH [b] (pieces c l) := by
  rw [pieces, if_neg h]
  cases hp : pieces c l with
  | nil => exact (pieces_ne c l hp).elim
  | cons p ps => rfl

theorem addH_nil (c : UInt8) (l : List UInt8) : addH [] (pieces c l) = pieces c l := by
  cases hp : pieces c l with
  | nil => exact (pieces_ne c l hp).elim
  | cons p ps => rfl

theorem addH_addH (q r : List UInt8) (l : List (List UInt8)) : addH q (addH r l) = addH (q ++ r) l := by
  cases l <;> simp [addH]

theorem splitK_pieces (c : UInt8) : ∀ (l : List UInt8), splitK [c] 0 (l.count c) l = pieces c l
  | [] => rfl
  | b :: l => by
    have ih := splitK_pieces c l
    by_cases h : b = c
    · subst h
      rw [List.count_cons_self, splitK, pieces, if_pos rfl]
      have h1 : index (b :: l) [b] = 0 := by rw [index_one]; simp [indexByte]
      rw [h1]
      simp
      exact ih
    · rw [List.count_cons_of_ne h, pieces_cons c b l h, ← ih]
      cases hk : l.count c with
      | zero => rfl
      | succ k =>
        rw [splitK, splitK]
        have h1 : index (b :: l) [c] = if index l [c] == -1 then -1 else index l [c] + 1 := by
          rw [index_one, index_one]
          have : (b == c) = false := by simpa using h
          simp [indexByte, this]
        rw [h1]
        by_cases h2 : (index l [c] == -1) = true
        · rw [if_pos h2, if_pos h2]; simp [addH]
        · rw [if_neg h2, if_neg h2]
          have h3 := index_ge l [c]
          have h4 : index l [c] ≠ -1 := by simpa using h2
          obtain ⟨i, hi⟩ : ∃ i : Nat, index l [c] = i := ⟨(index l [c]).toNat, by omega⟩
          rw [hi, if_neg (by simp; omega)]
          have h5 : ((i : Int) + 1).toNat = i + 1 := by omega
          rw [h5]
          simp [addH, Nat.add_assoc]

/-- The pieces of a text. -/
def splitP (c : UInt8) (s : ByteArray) : List ByteArray := (pieces c s.data.toList).map fun l => ⟨l.toArray⟩

theorem ba_ext {a b : ByteArray} (h : a.data.toList = b.data.toList) : a = b := by
  cases a; cases b
  simp only [ByteArray.mk.injEq]
  exact Array.ext' h

theorem map_data {L : List ByteArray} {l : List (List UInt8)} (h : L.map (·.data.toList) = l) : L = l.map fun l => ⟨l.toArray⟩ := by
  subst h
  rw [List.map_map]
  conv => lhs; rw [← List.map_id L]
  exact List.map_congr_left fun a _ => by simp [ba_ext]

theorem splitB_P (c : UInt8) (s : ByteArray) : splitB ⟨#[c]⟩ 0 (countB s ⟨#[c]⟩) s = splitP c s := by
  refine map_data ?_
  rw [splitB_data]
  show splitK [c] 0 (Lib.count s.data.toList [c]) s.data.toList = _
  rw [count_one]
  exact splitK_pieces c _

/-- While a text is gone through: the pieces that are done, and where the next begins. -/
def CutAt (c : UInt8) (s : ByteArray) (k frm : Nat) (done : List ByteArray) : Prop :=
  frm ≤ k ∧ k ≤ s.size ∧ done.map (·.data.toList) ++ addH ((s.extract frm k).data.toList) (pieces c (s.data.toList.drop k)) = pieces c s.data.toList

theorem cut_start (c : UInt8) (s : ByteArray) : CutAt c s 0 0 [] := by
  refine ⟨Nat.le_refl _, Nat.zero_le _, ?_⟩
  rw [extract_data]
  simp [addH_nil]

theorem cut_hit {c : UInt8} {s : ByteArray} {k frm : Nat} {done : List ByteArray} (h : CutAt c s k frm done) (hk : s.data.toList[k]? = some c) : CutAt c s (k + 1) (k + 1) (done ++ [s.extract frm k]) := by
  obtain ⟨h1, h2, h3⟩ := h
  obtain ⟨hl, hg⟩ := List.getElem?_eq_some_iff.1 hk
  refine ⟨Nat.le_refl _, by rw [size_eq]; omega, ?_⟩
  rw [← h3, List.drop_eq_getElem_cons hl, hg, pieces, if_pos rfl, extract_data (a := k + 1)]
  simp [addH]
  cases hp : pieces c (List.drop (k + 1) s.data.toList) with
  | nil => exact (pieces_ne c _ hp).elim
  | cons p ps => rfl

theorem cut_miss {c b : UInt8} {s : ByteArray} {k frm : Nat} {done : List ByteArray} (h : CutAt c s k frm done) (hk : s.data.toList[k]? = some b) (hb : b ≠ c) : CutAt c s (k + 1) frm done := by
  obtain ⟨h1, h2, h3⟩ := h
  obtain ⟨hl, hg⟩ := List.getElem?_eq_some_iff.1 hk
  refine ⟨by omega, by rw [size_eq]; omega, ?_⟩
  rw [← h3, List.drop_eq_getElem_cons hl, hg, pieces_cons c b _ hb, addH_addH]
  congr 2
  rw [extract_data, extract_data, show k + 1 - frm = (k - frm) + 1 by omega, List.take_add_one]
  congr 1
  rw [List.getElem?_drop, show frm + (k - frm) = k by omega, hk]
  rfl

theorem cut_end {c : UInt8} {s : ByteArray} {frm : Nat} {done : List ByteArray} (h : CutAt c s s.size frm done) : done ++ [s.extract frm s.size] = splitP c s := by
  obtain ⟨h1, h2, h3⟩ := h
  refine map_data ?_
  rw [← h3, List.drop_of_length_le (by rw [size_eq]; exact Nat.le_refl _)]
  simp [pieces, addH]

theorem splitP_len (c : UInt8) (s : ByteArray) : (splitP c s).length ≤ s.size + 1 := by
  have h : ∀ l : List UInt8, (pieces c l).length ≤ l.length + 1 := by
    intro l
    induction l with
    | nil => simp [pieces]
    | cons b l ih =>
      unfold pieces
      split
      · simp; exact ih
      · cases hp : pieces c l with
        | nil => simp
        | cons p ps => rw [hp] at ih; simp at ih ⊢; omega
  have := h s.data.toList
  rw [← size_eq] at this
  simpa [splitP] using this

theorem cut_len {c : UInt8} {s : ByteArray} {k frm : Nat} {done : List ByteArray} (h : CutAt c s k frm done) : done.length ≤ s.size := by
  have h1 := splitP_len c s
  have h2 := congrArg List.length h.2.2
  have h3 : ∀ q l, 1 ≤ (addH q l).length := by intro q l; cases l <;> simp [addH]
  have h4 := h3 ((s.extract frm k).data.toList) (pieces c (s.data.toList.drop k))
  simp only [List.length_append, List.length_map, splitP] at h1 h2
  omega

theorem splitP_ne (c : UInt8) (s : ByteArray) : splitP c s ≠ [] := by simp [splitP, pieces_ne]

theorem splitP_size {c : UInt8} {s x : ByteArray} (h : x ∈ splitP c s) : x.size ≤ s.size := by
  have key : ∀ (l : List UInt8), ∀ p ∈ pieces c l, p.length ≤ l.length := by
    intro l
    induction l with
    | nil => simp [pieces]
    | cons b l ih =>
      intro p hp
      unfold pieces at hp
      split at hp
      · simp only [List.mem_cons] at hp
        rcases hp with rfl | hp
        · simp
        · have := ih p hp; simp; omega
      · cases hq : pieces c l with
        | nil => rw [hq] at hp; simp at hp; subst hp; simp
        | cons q qs =>
          rw [hq] at hp ih
          simp only [List.mem_cons] at hp
          rcases hp with rfl | hp
          · have := ih q (by simp); simp; omega
          · have := ih p (by simp [hp]); simp; omega
  simp only [splitP, List.mem_map] at h
  obtain ⟨l, hl, rfl⟩ := h
  have := key _ l hl
  rw [← size_eq] at this
  show l.toArray.size ≤ s.size
  simpa using this

/-! ## Numbers -/

def isFig (b : UInt8) : Bool := decide (48 ≤ b.toNat) && decide (b.toNat ≤ 57)
def figs (s : ByteArray) : Bool := s.data.toList.all isFig && !(decide (s = .empty))
def isZero (s : ByteArray) : Bool := decide (s = ⟨#[48]⟩)
def head0 (s : ByteArray) : Bool := decide (s.data.toList[0]? = some 48)
/-- A number: digits, with no zero ahead. -/
def isNum (s : ByteArray) : Bool := figs s && (isZero s || !head0 s)
def val (s : ByteArray) : Nat := s.data.toList.foldl (fun n b => n * 10 + (b.toNat - 48)) 0
def num8 (s : ByteArray) : Bool := isNum s && decide (s.size ≤ 8)

theorem less_cons (a b : UInt8) (x y : List UInt8) : Op.bytesLess (a :: x) (b :: y) = true ↔ a < b ∨ (a = b ∧ Op.bytesLess x y = true) := by
  rw [Op.bytesLess]; simp

theorem less_nil_r (x : List UInt8) : Op.bytesLess x [] = false := by cases x <;> rfl

/-- Of one length, digits compare xs their numbers. -/
theorem fold_lt : ∀ (a b : List UInt8) (m n : Nat), a.length = b.length → a.all isFig = true → b.all isFig = true →
    (a.foldl (fun n b => n * 10 + (b.toNat - 48)) m < b.foldl (fun n b => n * 10 + (b.toNat - 48)) n ↔ m < n ∨ (m = n ∧ Op.bytesLess a b = true))
  | [], [], m, n, _, _, _ => by simp [less_nil_r]
  | x :: a, y :: b, m, n, hl, ha, hb => by
    simp only [List.all_cons, Bool.and_eq_true] at ha hb
    rw [List.foldl_cons, List.foldl_cons, fold_lt a b _ _ (by simpa using hl) ha.2 hb.2, less_cons]
    have h1 := ha.1; have h2 := hb.1
    simp only [isFig, Bool.and_eq_true, decide_eq_true_eq] at h1 h2
    have hlt : x < y ↔ x.toNat < y.toNat := UInt8.lt_iff_toNat_lt
    have heq : x = y ↔ x.toNat = y.toNat := ⟨fun h => by rw [h], fun h => UInt8.toNat_inj.1 h⟩
    rw [hlt, heq]
    generalize x.toNat = p at *
    generalize y.toNat = q at *
    by_cases hL : Op.bytesLess a b = true
    · simp only [hL, and_true]
      omega
    · rw [Bool.not_eq_true] at hL
      rw [hL]
      simp
      constructor
      · intro h; omega
      · intro h; omega
  | [], _ :: _, _, _, hl, _, _ => by simp at hl
  | _ :: _, [], _, _, hl, _, _ => by simp at hl

theorem fold_ge : ∀ (a : List UInt8) (m : Nat), m * 10 ^ a.length ≤ a.foldl (fun n b => n * 10 + (b.toNat - 48)) m
  | [], m => by simp
  | x :: a, m => by
    rw [List.foldl_cons]
    refine Nat.le_trans ?_ (fold_ge a _)
    rw [List.length_cons, Nat.pow_succ, Nat.mul_comm (10 ^ a.length) 10, ← Nat.mul_assoc]
    exact Nat.mul_le_mul_right _ (by omega)

theorem fold_below : ∀ (a : List UInt8) (m : Nat), a.all isFig = true → a.foldl (fun n b => n * 10 + (b.toNat - 48)) m < (m + 1) * 10 ^ a.length
  | [], m, _ => by simp
  | x :: a, m, ha => by
    simp only [List.all_cons, Bool.and_eq_true] at ha
    rw [List.foldl_cons]
    refine Nat.lt_of_lt_of_le (fold_below a _ ha.2) ?_
    rw [List.length_cons, Nat.pow_succ, Nat.mul_comm (10 ^ a.length) 10, ← Nat.mul_assoc]
    have h1 := ha.1
    simp only [isFig, Bool.and_eq_true, decide_eq_true_eq] at h1
    exact Nat.mul_le_mul_right _ (by omega)

theorem val_below {s : ByteArray} (h : figs s = true) : val s < 10 ^ s.size := by
  simp only [figs, Bool.and_eq_true] at h
  have := fold_below s.data.toList 0 h.1
  rw [size_eq]
  simpa [val] using this

theorem val_ge {s : ByteArray} (h : isNum s = true) (h1 : 1 < s.size) : 10 ^ (s.size - 1) ≤ val s := by
  simp only [isNum, figs, Bool.and_eq_true, Bool.or_eq_true, Bool.not_eq_true'] at h
  obtain ⟨⟨ha, _⟩, hz⟩ := h
  have hh : s.data.toList[0]? ≠ some 48 := by
    rcases hz with hz | hz
    · simp only [isZero, decide_eq_true_eq] at hz
      subst hz
      exact absurd h1 (by decide)
    · simpa [head0] using hz
  rw [size_eq] at h1 ⊢
  unfold val
  cases hs : s.data.toList with
  | nil => rw [hs] at h1; simp at h1
  | cons b l =>
    rw [hs] at hh ha h1
    simp only [List.all_cons, Bool.and_eq_true] at ha
    have h2 := ha.1
    simp only [isFig, Bool.and_eq_true, decide_eq_true_eq] at h2
    have h3 : b.toNat ≠ 48 := by
      intro e
      apply hh
      have : b = 48 := UInt8.toNat_inj.1 (by simpa using e)
      rw [this]; rfl
    rw [List.foldl_cons]
    refine Nat.le_trans ?_ (fold_ge l _)
    simp only [List.length_cons, Nat.add_sub_cancel]
    exact Nat.le_mul_of_pos_left _ (by omega)

/-- Numbers compare by their lengths, then xs texts. -/
theorem val_lt {a b : ByteArray} (ha : isNum a = true) (hb : isNum b = true) : val a < val b ↔ a.size < b.size ∨ (a.size = b.size ∧ Op.bytesLess a.data.toList b.data.toList = true) := by
  have fa : figs a = true := by simp only [isNum, Bool.and_eq_true] at ha; exact ha.1
  have fb : figs b = true := by simp only [isNum, Bool.and_eq_true] at hb; exact hb.1
  have key : ∀ {x y : ByteArray}, figs x = true → isNum y = true → figs y = true → x.size < y.size → val x < val y := by
    intro x y fx hy fy hl
    have h0 : 1 ≤ x.size := by
      simp only [figs, Bool.and_eq_true, Bool.not_eq_true', decide_eq_false_iff_not] at fx
      have := fx.2
      rcases Nat.eq_zero_or_pos x.size with h | h
      · exact (this (ba_ext (by rw [size_eq] at h; rw [List.length_eq_zero_iff.1 h]; rfl))).elim
      · exact h
    have h1 := val_below fx
    have h2 := val_ge hy (by omega)
    exact Nat.lt_of_lt_of_le h1 (Nat.le_trans (Nat.pow_le_pow_right (by omega) (by omega)) h2)
  rcases Nat.lt_trichotomy a.size b.size with h | h | h
  · simp only [h, true_or, iff_true]; exact key fa hb fb h
  · simp only [h, Nat.lt_irrefl, false_or, true_and]
    have h2 : a.data.toList.all isFig = true := by simp only [figs, Bool.and_eq_true] at fa; exact fa.1
    have h3 : b.data.toList.all isFig = true := by simp only [figs, Bool.and_eq_true] at fb; exact fb.1
    have := fold_lt a.data.toList b.data.toList 0 0 (by rw [← size_eq, ← size_eq, h]) h2 h3
    simpa [val] using this
  · have h1 := key fb ha fa h
    constructor
    · intro h2; omega
    · intro h2; omega

/-! ## How parts compare -/

/-- As texts: -1, 0, 1. -/
def cmpB (a b : ByteArray) : Int := if Op.bytesLess a.data.toList b.data.toList then -1 else if a = b then 0 else 1
def cmpN (a b : Nat) : Int := if a < b then -1 else if b < a then 1 else 0

theorem cmpB_zero {a b : ByteArray} : cmpB a b = 0 ↔ a = b := by
  unfold cmpB
  split
  · rename_i h
    constructor
    · intro h1; omega
    · rintro rfl
      exfalso
      have : ∀ l, Op.bytesLess l l = false := by
        intro l
        induction l with
        | nil => rfl
        | cons x l ih => rw [Op.bytesLess]; simp [ih]
      rw [this] at h; cases h
  · split <;> simp_all

theorem cmpB_neg {a b : ByteArray} : cmpB a b < 0 ↔ Op.bytesLess a.data.toList b.data.toList = true := by
  unfold cmpB
  split
  · simp_all
  · split <;> simp_all

/-- How the program compares two parts. -/
def partCmp (a b : ByteArray) : Int := if num8 a && num8 b then (if a.size = b.size then cmpB a b else cmpN a.size b.size) else if num8 a then -1 else if num8 b then 1 else cmpB a b
/-- Whether the reference holds a part for less. -/
def partLess (a b : ByteArray) : Bool := if num8 a && num8 b then decide (val a < val b) else if num8 a then true else if num8 b then false else Op.bytesLess a.data.toList b.data.toList

theorem partCmp_zero {a b : ByteArray} : partCmp a b = 0 ↔ a = b := by
  unfold partCmp cmpN
  cases ha : num8 a <;> cases hb : num8 b
  · simp [cmpB_zero]
  · simp
    rintro rfl; rw [ha] at hb; cases hb
  · simp
    rintro rfl; rw [ha] at hb; cases hb
  · simp
    split
    · exact cmpB_zero
    · rename_i h
      have : a ≠ b := by rintro rfl; exact h rfl
      simp only [this, iff_false]
      split
      · omega
      · split <;> omega

theorem partCmp_neg {a b : ByteArray} : partCmp a b < 0 ↔ partLess a b = true := by
  unfold partCmp partLess
  cases ha : num8 a <;> cases hb : num8 b
  · simp [cmpB_neg]
  · simp
  · simp
  · simp
    simp only [num8, Bool.and_eq_true] at ha hb
    rw [val_lt ha.1 hb.1]
    split
    · rename_i h; rw [cmpB_neg]; simp [h]
    · rename_i h
      unfold cmpN
      split
      · rename_i h1; simp [h1]
      · rename_i h1
        have : ¬ (if b.size < a.size then (1 : Int) else 0) < 0 := by split <;> omega
        simp only [this, false_iff]
        rintro (h2 | h2)
        · exact h1 h2
        · exact h h2.1

/-! ## How what stands behind the numbers compares -/

def listCmp : List ByteArray → List ByteArray → Int
  | a :: xs, b :: ys => if a = b then listCmp xs ys else partCmp a b
  | [], [] => 0
  | [], _ :: _ => -1
  | _ :: _, [] => 1

def listLess : List ByteArray → List ByteArray → Bool
  | a :: xs, b :: ys => if a = b then listLess xs ys else partLess a b
  | [], _ :: _ => true
  | _, [] => false

theorem listCmp_neg : ∀ (a b : List ByteArray), listCmp a b < 0 ↔ listLess a b = true
  | a :: xs, b :: ys => by
    unfold listCmp listLess
    split
    · exact listCmp_neg xs ys
    · exact partCmp_neg
  | [], [] => by simp [listCmp, listLess]
  | [], _ :: _ => by simp [listCmp, listLess]
  | _ :: _, [] => by simp [listCmp, listLess]

/-- The two lists are the same up to a place. -/
theorem listCmp_at {a b : List ByteArray} {k : Nat} (h : ∀ j, j < k → a[j]? = b[j]?) (ha : k ≤ a.length) (hb : k ≤ b.length) : listCmp a b = listCmp (a.drop k) (b.drop k) := by
  induction k generalizing a b with
  | zero => rfl
  | succ k ih =>
    cases a with
    | nil => simp at ha
    | cons x a =>
      cases b with
      | nil => simp at hb
      | cons y b =>
        have h0 := h 0 (by omega)
        simp only [List.getElem?_cons_zero, Option.some.injEq] at h0
        subst h0
        simp only [List.length_cons] at ha hb
        rw [listCmp, if_pos rfl, List.drop_succ_cons, List.drop_succ_cons]
        exact ih (fun j hj => by have := h (j + 1) (by omega); simpa using this) (by omega) (by omega)

theorem listLess_at {a b : List ByteArray} {k : Nat} (h : ∀ j, j < k → a[j]? = b[j]?) (ha : k ≤ a.length) (hb : k ≤ b.length) : listLess a b = listLess (a.drop k) (b.drop k) := by
  have := listCmp_at h ha hb
  have h1 := listCmp_neg a b
  have h2 := listCmp_neg (a.drop k) (b.drop k)
  rw [this, h2] at h1
  rw [Bool.eq_iff_iff]
  exact h1.symm

def preCmp (a b : ByteArray) : Int := if a = b then 0 else if a = .empty then 1 else if b = .empty then -1 else listCmp (splitP 46 a) (splitP 46 b)
def preLess (a b : ByteArray) : Bool := if a = b ∨ a = .empty then false else if b = .empty then true else listLess (splitP 46 a) (splitP 46 b)

theorem preCmp_neg {a b : ByteArray} : preCmp a b < 0 ↔ preLess a b = true := by
  unfold preCmp preLess
  by_cases h1 : a = b
  · simp [h1]
  · by_cases h2 : a = .empty
    · subst h2; simp [h1]
    · by_cases h3 : b = .empty
      · simp [h1, h2, h3]
      · simp only [h1, h2, h3, if_false, or_self]
        exact listCmp_neg _ _
end Go.Ev

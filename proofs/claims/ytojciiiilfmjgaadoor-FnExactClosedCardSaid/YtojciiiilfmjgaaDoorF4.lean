/- What is closed: the program's and the reference's come to the same. -/
import Derived.Test.YtojciiiilfmjgaaDoorVC
set_option linter.all false
namespace Go.Proofs.YtojciiiilfmjgaaDoor
open Go.Ev
set_option maxRecDepth 20000
set_option linter.unusedVariables false
set_option linter.unusedSimpArgs false

/-- Whether an entry is of a path and a version. -/
def isE (p : ByteArray) (a b c : Int) (s : ByteArray) (x : PEntry) : Bool := decide (x.f0 = p) && (decide (x.f1 = a) && (decide (x.f2 = b) && (decide (x.f3 = c) && decide (x.f4 = s))))

theorem isE_no {p : ByteArray} {a b c : Int} {s : ByteArray} {x : PEntry} (h : ¬ (x.f0 = p ∧ x.f1 = a ∧ x.f2 = b ∧ x.f3 = c ∧ x.f4 = s)) : isE p a b c s x = false := by
  cases hh : isE p a b c s x with
  | false => rfl
  | true => exact absurd (by simpa [isE] using hh) h

theorem r_findEntry (l : List PEntry) (p : ByteArray) (a b c : Int) (s : ByteArray) (hl : 80 * l.length ≤ 140737488355328) :
    Runs E 25 [.d (.sl 6 (List.map encEntry l)) none, .d (.v (.string p)) none, .agg [.v (.int .i64 a), .v (.int .i64 b), .v (.int .i64 c), .v (.string s)] none] [.d (.v (.int .i64 (at? (isE p a b c s) l))) none] [.u, .u, .u] := by
  refine runs_of [] rfl Tryd.func25 rfl pk_25 rfl rfl ?_
  simp
  refine loop_by (fun k : Nat => [(0, .d (.sl 6 (List.map encEntry l)) none), (1, .d (.v (.string p)) none), (5, .box [.v (.int .i64 a), .v (.int .i64 b), .v (.int .i64 c), .v (.string s)]), (9, .d (.sl 6 (List.map encEntry l)) (some ⟨0, []⟩)), (10, .d (.v (.int .i64 l.length)) none), (11, .d (.v (.int .i64 k)) none)])
    (fun k => ∀ j (hj : j < l.length), j < k → isE p a b c s l[j] = false) (fun k => l.length - k) 0 (fun j hj h => by omega) ?_ ?_
  · simp
  rintro k hbef
  by_cases hlt : k < l.length
  · have hw := wrap_nat (k := k) (by omega)
    by_cases h0 : l[k].f0 = p
    · by_cases h1 : l[k].f1 = a ∧ l[k].f2 = b ∧ l[k].f3 = c ∧ l[k].f4 = s
      · obtain ⟨h1, h2, h3, h4⟩ := h1
        simp [hlt, h0, h1, h2, h3, h4]
        exact (at_of hlt hbef (by simp [isE, h0, h1, h2, h3, h4])).symm
      · have h1' : (l[k].f1 = a → l[k].f2 = b → l[k].f3 = c → ¬ l[k].f4 = s) := fun q1 q2 q3 q4 => h1 ⟨q1, q2, q3, q4⟩
        have h2' : (decide (l[k].f1 = a) && (decide (l[k].f2 = b) && (decide (l[k].f3 = c) && decide (l[k].f4 = s)))) = false := by
          cases hh : (decide (l[k].f1 = a) && (decide (l[k].f2 = b) && (decide (l[k].f3 = c) && decide (l[k].f4 = s)))) with
          | false => rfl
          | true => exact absurd (by simpa using hh) h1
        simp [hlt, h0, h2', hw]
        exact ⟨k + 1, bef_f hbef hlt (isE_no fun ⟨_, q⟩ => h1 q), by omega, by simp⟩
    · simp [hlt, h0, hw]
      exact ⟨k + 1, bef_f hbef hlt (isE_no fun ⟨q, _⟩ => h0 q), by omega, by simp⟩
  · simp [hlt]
    exact (at_none fun j hj => hbef j hj (by omega)).symm
@[simp] theorem c_findEntry (l : List PEntry) (p : ByteArray) (a b c : Int) (s : ByteArray) (hl : 80 * l.length ≤ 140737488355328) {K : List X → List X → Prop} :
    callK E 25 [.d (.sl 6 (List.map encEntry l)) none, .d (.v (.string p)) none, .agg [.v (.int .i64 a), .v (.int .i64 b), .v (.int .i64 c), .v (.string s)] none] K = K [.d (.v (.int .i64 (at? (isE p a b c s) l))) none] [.u, .u, .u] := callK_of (r_findEntry l p a b c s hl)

theorem r_l15At (l : List PEntry) (p : ByteArray) (a b c : Int) (s : ByteArray) (hl : 80 * l.length ≤ 140737488355328) :
    Runs E 23 [.d (.sl 6 (List.map encEntry l)) none, .d (.v (.string p)) none, .agg [.v (.int .i64 a), .v (.int .i64 b), .v (.int .i64 c), .v (.string s)] none] [.d (.v (.int .i64 (at? (isE p a b c s) l))) none] [.u, .u, .u] := by
  refine runs_of [(4, [14, 15, 16, 17, 18, 19, 20, 21, 22, 23, 24, 25, 26, 27])] rfl Tryd.func23 rfl pk_23 rfl rfl ?_
  simp
  refine loop_by (fun k : Nat => [(0, .d (.sl 6 (List.map encEntry l)) none), (1, .d (.v (.string p)) none), (5, .box [.v (.int .i64 a), .v (.int .i64 b), .v (.int .i64 c), .v (.string s)]), (7, .d (.v (.int .i64 k)) none)])
    (fun k => ∀ j (hj : j < l.length), j < k → isE p a b c s l[j] = false) (fun k => l.length - k) 0 (fun j hj h => by omega) ?_ ?_
  · simp
  rintro k hbef
  by_cases hlt : k < l.length
  · have hw := wrap_nat (k := k) (by omega)
    by_cases h0 : l[k].f0 = p
    · by_cases h1 : l[k].f1 = a ∧ l[k].f2 = b ∧ l[k].f3 = c ∧ l[k].f4 = s
      · obtain ⟨h1, h2, h3, h4⟩ := h1
        simp [hlt, h0, h1, h2, h3, h4]
        exact (at_of hlt hbef (by simp [isE, h0, h1, h2, h3, h4])).symm
      · have h2' : (decide (l[k].f1 = a) && (decide (l[k].f2 = b) && (decide (l[k].f3 = c) && decide (l[k].f4 = s)))) = false := by
          cases hh : (decide (l[k].f1 = a) && (decide (l[k].f2 = b) && (decide (l[k].f3 = c) && decide (l[k].f4 = s)))) with
          | false => rfl
          | true => exact absurd (by simpa using hh) h1
        simp [hlt, h0, h2', hw]
        exact ⟨k + 1, bef_f hbef hlt (isE_no fun ⟨_, q⟩ => h1 q), by omega, by simp⟩
    · simp [hlt, h0, hw]
      exact ⟨k + 1, bef_f hbef hlt (isE_no fun ⟨q, _⟩ => h0 q), by omega, by simp⟩
  · simp [hlt]
    exact (at_none fun j hj => hbef j hj (by omega)).symm
@[simp] theorem c_l15At (l : List PEntry) (p : ByteArray) (a b c : Int) (s : ByteArray) (hl : 80 * l.length ≤ 140737488355328) {K : List X → List X → Prop} :
    callK E 23 [.d (.sl 6 (List.map encEntry l)) none, .d (.v (.string p)) none, .agg [.v (.int .i64 a), .v (.int .i64 b), .v (.int .i64 c), .v (.string s)] none] K = K [.d (.v (.int .i64 (at? (isE p a b c s) l))) none] [.u, .u, .u] := callK_of (r_l15At l p a b c s hl)

theorem at_cases {α : Type} (q : α → Bool) (l : List α) : (∃ k, ∃ h : k < l.length, l.findIdx? q = some k ∧ at? q l = k ∧ q l[k] = true ∧ l.any q = true) ∨ (l.findIdx? q = none ∧ at? q l = -1 ∧ l.any q = false) := by
  cases hf : l.findIdx? q with
  | some k =>
    left
    obtain ⟨hk, h1, _⟩ := List.findIdx?_eq_some_iff_getElem.1 hf
    exact ⟨k, hk, rfl, by simp [at?, hf], h1, List.any_eq_true.2 ⟨_, List.getElem_mem hk, h1⟩⟩
  | none =>
    right
    refine ⟨rfl, by simp [at?, hf], ?_⟩
    rw [List.findIdx?_eq_none_iff] at hf
    cases ha : l.any q with
    | false => rfl
    | true =>
      obtain ⟨x, hx, hq⟩ := List.any_eq_true.1 ha
      rw [hf x hx] at hq; cases hq

/-- How many there are in all. -/
def wtE (l : List PEntry) : Nat := (l.map fun x => x.f5.length + 1).sum

theorem q_szEntry (a0 : ByteArray) (a1 a2 a3 : Int) (a4 : ByteArray) (a5 : List PNeed) (left : Int) (h1 : 0 ≤ left) (h2 : left ≤ 1048576) (hs : a0.size ≤ 140737488355328) (hs4 : a4.size ≤ 140737488355328) (hl : 56 * a5.length ≤ 140737488355328) (hsl : ∀ y ∈ a5, y.small) :
    (fun r : Int => r < 0 ∨ (r + a5.length ≤ left ∧ a0.size ≤ 1048576 ∧ a4.size ≤ 1048576 ∧ allFine a5)) (szv E 22 [.agg [.v (.string a0), .v (.int .i64 a1), .v (.int .i64 a2), .v (.int .i64 a3), .v (.string a4), .sl 5 (List.map encNeed a5)] none, .d (.v (.int .i64 left)) none]) := by
  refine sz_by (fun r : Int => r < 0 ∨ (r + a5.length ≤ left ∧ a0.size ≤ 1048576 ∧ a4.size ≤ 1048576 ∧ allFine a5)) [] rfl Tryd.func22 rfl pk_22 rfl rfl ?_
  have hw : IntKind.wrap .i64 (left - a0.size) = left - a0.size := wrap_id (by omega) (by omega)
  simp [hw]
  refine cond_by (fun h => by simp) (fun h => ?_)
  simp at h
  have hv := q_szVersion a1 a2 a3 a4 (left - a0.size) (by omega) (by omega) hs4
  simp only at hv
  simp
  refine cond_by (fun h => by simp) (fun h => ?_)
  simp at h
  have hv2 := q_szNeedS a5 _ h (by omega) hl hsl
  simp only at hv2
  simp [hl]
  refine cond_by (fun h => by simp) (fun h => ?_)
  simp at h
  simp
  rcases hv2 with hv2 | ⟨hv2, hv3⟩
  · omega
  · exact .inr ⟨by omega, by omega, by omega, hv3⟩

def PEntry.fine (x : PEntry) : Prop := x.f0.size ≤ 1048576 ∧ x.f4.size ≤ 1048576 ∧ allFine x.f5
def allFineE (l : List PEntry) : Prop := ∀ x ∈ l, x.fine
theorem fineE_next {l : List PEntry} {k : Nat} (h : ∀ j (hj : j < l.length), j < k → l[j].fine) (hlt : k < l.length) (hf : l[k].fine) : ∀ j (hj : j < l.length), j < k + 1 → l[j].fine := by
  intro j hj h1
  by_cases e : j = k
  · subst e; exact hf
  · exact h j hj (by omega)
theorem fineE_all {l : List PEntry} {k : Nat} (h : ∀ j (hj : j < l.length), j < k → l[j].fine) (hk : ¬ k < l.length) : allFineE l := by
  intro y hy
  obtain ⟨j, hj, rfl⟩ := List.getElem_of_mem hy
  exact h j hj (by omega)

theorem wtE_take (l : List PEntry) {k : Nat} (hk : k < l.length) : wtE (l.take (k + 1)) = wtE (l.take k) + (l[k].f5.length + 1) := by
  unfold wtE
  rw [List.take_add_one, List.getElem?_eq_getElem hk, Option.toList_some, List.map_append, List.sum_append]
  rfl

theorem q_szEntryS (l : List PEntry) (left : Int) (h1 : 0 ≤ left) (h2 : left ≤ 1048576) (hl : 80 * l.length ≤ 140737488355328) (hs : ∀ y ∈ l, y.small) :
    (fun r : Int => r < 0 ∨ (r + wtE l ≤ left ∧ allFineE l)) (szv E 10 [.d (.sl 6 (List.map encEntry l)) none, .d (.v (.int .i64 left)) none]) := by
  refine sz_by (fun r : Int => r < 0 ∨ (r + wtE l ≤ left ∧ allFineE l)) [] rfl Tryd.func10 rfl pk_10 rfl rfl ?_
  have hw : IntKind.wrap .i64 (left - l.length) = left - l.length := wrap_id (by omega) (by omega)
  simp [hw]
  refine cond_by (fun h => by simp) (fun h => ?_)
  simp at h
  simp
  refine loop_by (fun p : Nat × Int => [(0, .d (.sl 6 (List.map encEntry l)) none), (1, .d (.v (.int .i64 p.2)) none), (5, .d (.v (.int .i64 p.1)) none)]) (fun p => p.1 ≤ l.length ∧ 0 ≤ p.2 ∧ p.2 + wtE (l.take p.1) + (l.length - p.1 : Nat) ≤ left ∧ ∀ j (hj : j < l.length), j < p.1 → l[j].fine) (fun p => l.length - p.1) (0, left - l.length) ⟨Nat.zero_le _, by simp only; omega, by simp [wtE], fun j hj h => by simp at h⟩ ?_ ?_
  · simp
  rintro ⟨k, lf⟩ ⟨hk, q1, q2, q3⟩
  simp only at hk q1 q2 q3
  by_cases hlt : k < l.length
  · have hw := wrap_nat (k := k) (by omega)
    obtain ⟨g1, g2, g3, g4⟩ := hs l[k] (List.getElem_mem hlt)
    have hv := q_szEntry l[k].f0 l[k].f1 l[k].f2 l[k].f3 l[k].f4 l[k].f5 lf q1 (by omega) g1 g2 g3 g4
    have ht := wtE_take l hlt
    simp only at hv
    simp [hlt, g3]
    refine cond_by (fun _ => by simp) (fun h => ?_)
    simp at h
    simp [hw]
    obtain ⟨hv1, hv2⟩ := hv.resolve_left (by omega)
    exact ⟨k + 1, _, ⟨by omega, h, by rw [ht]; omega, fineE_next q3 hlt hv2⟩, by omega, by simp⟩
  · have ht : l.take k = l := List.take_of_length_le (by omega)
    rw [ht] at q2
    simp [hlt]
    exact .inr ⟨by omega, fineE_all q3 hlt⟩


theorem small_okL {l : List PEntry} (h : ∀ y ∈ l, y.small) : PEntry.okL l := fun y hy => (h y hy).2.2.1

/-- Whether a need's entry is there, and all that it needs is covered. -/
def clos1 (l : List PEntry) (m : List PNeed) (n : PNeed) : Bool := match l.findIdx? (isE n.f0 n.f1 n.f2 n.f3 n.f4) with
  | some k => covers m (l[k]?.getD ⟨.empty, 0, 0, 0, .empty, []⟩).f5
  | none => false
def closd (l : List PEntry) (m : List PNeed) : Bool := m.all (clos1 l m)

theorem r_implClosed (l : List PEntry) (m : List PNeed) (hl : 80 * l.length ≤ 140737488355328) (hok : PEntry.okL l) (g1 : allFineE l) (hm : 56 * m.length ≤ 140737488355328) (g2 : allFine m) :
    Runs E 13 [.d (.sl 6 (List.map encEntry l)) none, .d (.sl 5 (List.map encNeed m)) none] [.d (.v (.bool (closd l m))) none] [.u, .u] := by
  refine runs_of [] rfl Tryd.func13 rfl pk_13 rfl rfl ?_
  simp
  refine loop_by (fun k : Nat => [(0, .d (.sl 6 (List.map encEntry l)) none), (8, .d (.sl 5 (List.map encNeed m)) (some ⟨1, []⟩)), (1, .d (.sl 5 (List.map encNeed m)) none), (9, .d (.v (.int .i64 m.length)) none), (10, .d (.v (.int .i64 k)) none)])
    (fun k => ∀ j (hj : j < m.length), j < k → clos1 l m m[j] = true) (fun k => m.length - k) 0 (fun j hj h => by omega) ?_ ?_
  · simp
  rintro k hbef
  by_cases hlt : k < m.length
  · have hw := wrap_nat (k := k) (by omega)
    rcases at_cases (isE m[k].f0 m[k].f1 m[k].f2 m[k].f3 m[k].f4) l with ⟨i, hi, e1, e2, e3, e4⟩ | ⟨e1, e2, e4⟩
    · have hn : ¬ ((i : Nat) : Int) < 0 := by omega
      have hf : allFine l[i].f5 := (g1 _ (List.getElem_mem hi)).2.2
      have h5 : 56 * l[i].f5.length ≤ 140737488355328 := hok _ (List.getElem_mem hi)
      cases hc : covers m l[i].f5 with
      | true =>
        have hcl : clos1 l m m[k] = true := by simp [clos1, e1, hi, hc]
        simp [hlt, hl, e2, hn, hi, hf, h5, hm, g2, hc, hw]
        exact ⟨k + 1, bef_t hbef hlt hcl, by omega, by simp⟩
      | false =>
        have hcl : clos1 l m m[k] = false := by simp [clos1, e1, hi, hc]
        simp [hlt, hl, e2, hn, hi, hf, h5, hm, g2, hc, hw]
        exact all_no hlt hcl
    · have hcl : clos1 l m m[k] = false := by simp [clos1, e1]
      simp [hlt, hl, e2]
      exact all_no hlt hcl
  · simp [hlt]
    exact all_of hbef hlt
@[simp] theorem c_implClosed (l : List PEntry) (m : List PNeed) (hl : 80 * l.length ≤ 140737488355328) (hok : PEntry.okL l) (g1 : allFineE l) (hm : 56 * m.length ≤ 140737488355328) (g2 : allFine m) {K : List X → List X → Prop} :
    callK E 13 [.d (.sl 6 (List.map encEntry l)) none, .d (.sl 5 (List.map encNeed m)) none] K = K [.d (.v (.bool (closd l m))) none] [.u, .u] := callK_of (r_implClosed l m hl hok g1 hm g2)

theorem r_specClosed (l : List PEntry) (m : List PNeed) (hl : 80 * l.length ≤ 140737488355328) (hok : PEntry.okL l) (g1 : allFineE l) (hm : 56 * m.length ≤ 140737488355328) (g2 : allFine m) :
    Runs E 11 [.d (.sl 6 (List.map encEntry l)) none, .d (.sl 5 (List.map encNeed m)) none] [.d (.v (.bool (closd l m))) none] [.u, .u] := by
  refine runs_of [(4, [13, 14, 15, 16, 17, 18, 19, 20, 21, 22, 23])] rfl Tryd.func11 rfl pk_11 rfl rfl ?_
  simp
  refine loop_by (fun k : Nat => [(0, .d (.sl 6 (List.map encEntry l)) none), (1, .d (.sl 5 (List.map encNeed m)) none), (5, .d (.v (.int .i64 k)) none)])
    (fun k => ∀ j (hj : j < m.length), j < k → clos1 l m m[j] = true) (fun k => m.length - k) 0 (fun j hj h => by omega) ?_ ?_
  · simp
  rintro k hbef
  by_cases hlt : k < m.length
  · have hw := wrap_nat (k := k) (by omega)
    rcases at_cases (isE m[k].f0 m[k].f1 m[k].f2 m[k].f3 m[k].f4) l with ⟨i, hi, e1, e2, e3, e4⟩ | ⟨e1, e2, e4⟩
    · have hn : ¬ ((i : Nat) : Int) < 0 := by omega
      have hf : allFine l[i].f5 := (g1 _ (List.getElem_mem hi)).2.2
      have h5 : 56 * l[i].f5.length ≤ 140737488355328 := hok _ (List.getElem_mem hi)
      cases hc : covers m l[i].f5 with
      | true =>
        have hcl : clos1 l m m[k] = true := by simp [clos1, e1, hi, hc]
        simp [hlt, hl, e2, hn, hi, hf, h5, hm, g2, hc, hw]
        exact ⟨k + 1, bef_t hbef hlt hcl, by omega, by simp⟩
      | false =>
        have hcl : clos1 l m m[k] = false := by simp [clos1, e1, hi, hc]
        simp [hlt, hl, e2, hn, hi, hf, h5, hm, g2, hc, hw]
        exact all_no hlt hcl
    · have hcl : clos1 l m m[k] = false := by simp [clos1, e1]
      simp [hlt, hl, e2]
      exact all_no hlt hcl
  · simp [hlt]
    exact all_of hbef hlt
@[simp] theorem c_specClosed (l : List PEntry) (m : List PNeed) (hl : 80 * l.length ≤ 140737488355328) (hok : PEntry.okL l) (g1 : allFineE l) (hm : 56 * m.length ≤ 140737488355328) (g2 : allFine m) {K : List X → List X → Prop} :
    callK E 11 [.d (.sl 6 (List.map encEntry l)) none, .d (.sl 5 (List.map encNeed m)) none] K = K [.d (.v (.bool (closd l m))) none] [.u, .u] := callK_of (r_specClosed l m hl hok g1 hm g2)

set_option maxHeartbeats 2000000 in
theorem r_lawClosed (l : List PEntry) (m : List PNeed) (hl : 80 * l.length ≤ 140737488355328) (hs : ∀ y ∈ l, y.small) (hm : 56 * m.length ≤ 140737488355328) (hs2 : ∀ y ∈ m, y.small) :
    Runs E 4 [.d (.sl 6 (List.map encEntry l)) none, .d (.sl 5 (List.map encNeed m)) none] [.d (.v (.bool true)) none] [.u, .u] := by
  refine runs_of [] rfl Tryd.func4 rfl pk_4 rfl rfl ?_
  have hok := small_okL hs
  have hv1 := q_szEntryS l 1048576 (by omega) (by omega) hl hs
  simp only at hv1
  simp [hl, hok]
  refine cond_by (fun h => by simp) (fun h => ?_)
  simp at h
  obtain ⟨hv1, g1⟩ := hv1.resolve_left (by omega)
  have hv2 := q_szNeedS m _ h (by omega) hm hs2
  simp only at hv2
  simp [hm]
  refine cond_by (fun h => by simp) (fun h2 => ?_)
  simp at h2
  obtain ⟨hv2, g2⟩ := hv2.resolve_left (by omega)
  have g2 : allFine m := g2
  simp [hl, hm, hok, g1, g2]
end Go.Proofs.YtojciiiilfmjgaaDoor

/- What is lacking: the program's and the reference's come to the same. -/
import Derived.Test.YtfgaikcoodagiaaW2
set_option linter.all false
namespace Go.Proofs.Ytfgaikcoodagiaa
open Go.Ev
set_option maxRecDepth 20000
set_option linter.unusedVariables false
set_option linter.unusedSimpArgs false

theorem bef_f {α : Type} {f : α → Bool} {l : List α} {k : Nat} (h : ∀ j (hj : j < l.length), j < k → f l[j] = false) (hk : k < l.length) (hf : f l[k] = false) : ∀ j (hj : j < l.length), j < k + 1 → f l[j] = false := by
  intro j hj h1
  by_cases e : j = k
  · subst e; exact hf
  · exact h j hj (by omega)

/-- Whether an entry is of a path and a version. -/
def isE (p : ByteArray) (a b c : Int) (s : ByteArray) (x : PEntry) : Bool := decide (x.f0 = p) && (decide (x.f1 = a) && (decide (x.f2 = b) && (decide (x.f3 = c) && decide (x.f4 = s))))

theorem isE_no {p : ByteArray} {a b c : Int} {s : ByteArray} {x : PEntry} (h : ¬ (x.f0 = p ∧ x.f1 = a ∧ x.f2 = b ∧ x.f3 = c ∧ x.f4 = s)) : isE p a b c s x = false := by
  cases hh : isE p a b c s x with
  | false => rfl
  | true => exact absurd (by simpa [isE] using hh) h

theorem r_findEntry (l : List PEntry) (p : ByteArray) (a b c : Int) (s : ByteArray) (hl : 80 * l.length ≤ 140737488355328) :
    Runs E 55 [.d (.sl 6 (List.map encEntry l)) none, .d (.v (.string p)) none, .agg [.v (.int .i64 a), .v (.int .i64 b), .v (.int .i64 c), .v (.string s)] none] [.d (.v (.int .i64 (at? (isE p a b c s) l))) none] [.u, .u, .u] := by
  refine runs_of [] rfl Try.func55 rfl pk_55 rfl rfl ?_
  simp
  refine loop_by (fun k : Nat => [(0, .d (.sl 6 (List.map encEntry l)) none), (1, .d (.v (.string p)) none), (5, .box [.v (.int .i64 a), .v (.int .i64 b), .v (.int .i64 c), .v (.string s)]), (9, .d (.sl 6 (List.map encEntry l)) (some ⟨0, []⟩)), (10, .d (.v (.int .i64 l.length)) none), (11, .d (.v (.int .i64 k)) none)])
    (fun k => ∀ j (hj : j < l.length), j < k → isE p a b c s l[j] = false) (fun k => l.length - k) 0 (fun j hj h => by omega) ?_ ?_
  · simp
  rintro k hbef
  by_cases hlt : k < l.length
  · have hw := wrap_nat (k := k) (by omega)
    by_cases h0 : l[k].f0 = p
    · by_cases h1 : l[k].f1 = a ∧ l[k].f2 = b ∧ l[k].f3 = c ∧ l[k].f4 = s
      · obtain ⟨h1, h2, h3, h4⟩ := h1
        simp [hlt, h0, h1, h2, h3, h4]
        exact (at_of hlt hbef (by simp [isE, h0, h1, h2, h3, h4])).symm
      · have h1' : (l[k].f1 = a → l[k].f2 = b → l[k].f3 = c → ¬ l[k].f4 = s) := fun q1 q2 q3 q4 => h1 ⟨q1, q2, q3, q4⟩
        have h2' : (decide (l[k].f1 = a) && (decide (l[k].f2 = b) && (decide (l[k].f3 = c) && decide (l[k].f4 = s)))) = false := by
          cases hh : (decide (l[k].f1 = a) && (decide (l[k].f2 = b) && (decide (l[k].f3 = c) && decide (l[k].f4 = s)))) with
          | false => rfl
          | true => exact absurd (by simpa using hh) h1
        simp [hlt, h0, h2', hw]
        exact ⟨k + 1, bef_f hbef hlt (isE_no fun ⟨_, q⟩ => h1 q), by omega, by simp⟩
    · simp [hlt, h0, hw]
      exact ⟨k + 1, bef_f hbef hlt (isE_no fun ⟨q, _⟩ => h0 q), by omega, by simp⟩
  · simp [hlt]
    exact (at_none fun j hj => hbef j hj (by omega)).symm
@[simp] theorem c_findEntry (l : List PEntry) (p : ByteArray) (a b c : Int) (s : ByteArray) (hl : 80 * l.length ≤ 140737488355328) {K : List X → List X → Prop} :
    callK E 55 [.d (.sl 6 (List.map encEntry l)) none, .d (.v (.string p)) none, .agg [.v (.int .i64 a), .v (.int .i64 b), .v (.int .i64 c), .v (.string s)] none] K = K [.d (.v (.int .i64 (at? (isE p a b c s) l))) none] [.u, .u, .u] := callK_of (r_findEntry l p a b c s hl)

theorem r_l15At (l : List PEntry) (p : ByteArray) (a b c : Int) (s : ByteArray) (hl : 80 * l.length ≤ 140737488355328) :
    Runs E 57 [.d (.sl 6 (List.map encEntry l)) none, .d (.v (.string p)) none, .agg [.v (.int .i64 a), .v (.int .i64 b), .v (.int .i64 c), .v (.string s)] none] [.d (.v (.int .i64 (at? (isE p a b c s) l))) none] [.u, .u, .u] := by
  refine runs_of [(4, [14, 15, 16, 17, 18, 19, 20, 21, 22, 23, 24, 25, 26, 27])] rfl Try.func57 rfl pk_57 rfl rfl ?_
  simp
  refine loop_by (fun k : Nat => [(0, .d (.sl 6 (List.map encEntry l)) none), (1, .d (.v (.string p)) none), (5, .box [.v (.int .i64 a), .v (.int .i64 b), .v (.int .i64 c), .v (.string s)]), (7, .d (.v (.int .i64 k)) none)])
    (fun k => ∀ j (hj : j < l.length), j < k → isE p a b c s l[j] = false) (fun k => l.length - k) 0 (fun j hj h => by omega) ?_ ?_
  · simp
  rintro k hbef
  by_cases hlt : k < l.length
  · have hw := wrap_nat (k := k) (by omega)
    by_cases h0 : l[k].f0 = p
    · by_cases h1 : l[k].f1 = a ∧ l[k].f2 = b ∧ l[k].f3 = c ∧ l[k].f4 = s
      · obtain ⟨h1, h2, h3, h4⟩ := h1
        simp [hlt, h0, h1, h2, h3, h4]
        exact (at_of hlt hbef (by simp [isE, h0, h1, h2, h3, h4])).symm
      · have h2' : (decide (l[k].f1 = a) && (decide (l[k].f2 = b) && (decide (l[k].f3 = c) && decide (l[k].f4 = s)))) = false := by
          cases hh : (decide (l[k].f1 = a) && (decide (l[k].f2 = b) && (decide (l[k].f3 = c) && decide (l[k].f4 = s)))) with
          | false => rfl
          | true => exact absurd (by simpa using hh) h1
        simp [hlt, h0, h2', hw]
        exact ⟨k + 1, bef_f hbef hlt (isE_no fun ⟨_, q⟩ => h1 q), by omega, by simp⟩
    · simp [hlt, h0, hw]
      exact ⟨k + 1, bef_f hbef hlt (isE_no fun ⟨q, _⟩ => h0 q), by omega, by simp⟩
  · simp [hlt]
    exact (at_none fun j hj => hbef j hj (by omega)).symm
@[simp] theorem c_l15At (l : List PEntry) (p : ByteArray) (a b c : Int) (s : ByteArray) (hl : 80 * l.length ≤ 140737488355328) {K : List X → List X → Prop} :
    callK E 57 [.d (.sl 6 (List.map encEntry l)) none, .d (.v (.string p)) none, .agg [.v (.int .i64 a), .v (.int .i64 b), .v (.int .i64 c), .v (.string s)] none] K = K [.d (.v (.int .i64 (at? (isE p a b c s) l))) none] [.u, .u, .u] := callK_of (r_l15At l p a b c s hl)

/-- Whether a need is lacking. -/
def lackB (l : List PEntry) (x : PNeed) : Bool := decide (at? (isE x.f0 x.f1 x.f2 x.f3 x.f4) l < 0)
def lack (l : List PEntry) (ns : List PNeed) : List PNeed := ns.filter (lackB l)

theorem filter_take {α : Type} (q : α → Bool) (l : List α) {k : Nat} (hk : k < l.length) : (l.take (k + 1)).filter q = (l.take k).filter q ++ (if q l[k] = true then [l[k]] else []) := by
  rw [List.take_add_one, List.getElem?_eq_getElem hk, Option.toList_some, List.filter_append]
  congr 1
  by_cases h : q l[k] = true
  · simp [h]
  · simp [h]
theorem filter_len {α : Type} (q : α → Bool) (l : List α) (k : Nat) : ((l.take k).filter q).length ≤ k := by
  have h1 := List.length_filter_le q (l.take k)
  have h2 := List.length_take_le k l
  omega

theorem r_implLacking (l : List PEntry) (ns : List PNeed) (hl : 80 * l.length ≤ 140737488355328) (hn : 56 * ns.length ≤ 140737488355328) :
    Runs E 17 [.d (.sl 6 (List.map encEntry l)) none, .d (.sl 5 (List.map encNeed ns)) none] [.d (.sl 5 (List.map encNeed (lack l ns))) none] [.u, .u] := by
  refine runs_of [] rfl Try.func17 rfl pk_17 rfl rfl ?_
  simp
  refine loop_by (fun k : Nat => [(0, .d (.sl 6 (List.map encEntry l)) none), (1, .d (.sl 5 (List.map encNeed ns)) none), (5, .d (.sl 5 (List.map encNeed (lack l (ns.take k)))) none), (8, .d (.sl 5 (List.map encNeed ns)) (some ⟨1, []⟩)), (9, .d (.v (.int .i64 ns.length)) none), (10, .d (.v (.int .i64 k)) none)])
    (fun k => k ≤ ns.length) (fun k => ns.length - k) 0 (Nat.zero_le _) ?_ ?_
  · simp [lack]
  rintro k hk
  by_cases hlt : k < ns.length
  · have hw := wrap_nat (k := k) (by omega)
    have hf := filter_take (lackB l) ns hlt
    have hfl := filter_len (lackB l) ns k
    by_cases hq : at? (isE ns[k].f0 ns[k].f1 ns[k].f2 ns[k].f3 ns[k].f4) l < 0
    · rw [if_pos (by simp [lackB, hq])] at hf
      have hb : 56 * (((ns.take k).filter (lackB l)).length + 1) ≤ 281474976710656 := by omega
      simp [hlt, hl, hq, hw, lack, hb]
      exact ⟨by simp only [memRoom, strRoom]; omega, k + 1, by omega, by omega, by simp [hf]⟩
    · rw [if_neg (by simp [lackB, hq])] at hf
      simp [hlt, hl, hq, hw, lack]
      exact ⟨k + 1, by omega, by omega, by simp [hf]⟩
  · have : ns.take k = ns := List.take_of_length_le (by omega)
    simp [hlt, this]
@[simp] theorem c_implLacking (l : List PEntry) (ns : List PNeed) (hl : 80 * l.length ≤ 140737488355328) (hn : 56 * ns.length ≤ 140737488355328) {K : List X → List X → Prop} :
    callK E 17 [.d (.sl 6 (List.map encEntry l)) none, .d (.sl 5 (List.map encNeed ns)) none] K = K [.d (.sl 5 (List.map encNeed (lack l ns))) none] [.u, .u] := callK_of (r_implLacking l ns hl hn)

theorem r_specLacking (l : List PEntry) (ns : List PNeed) (hl : 80 * l.length ≤ 140737488355328) (hn : 56 * ns.length ≤ 140737488355328) :
    Runs E 20 [.d (.sl 6 (List.map encEntry l)) none, .d (.sl 5 (List.map encNeed ns)) none] [.d (.sl 5 (List.map encNeed (lack l ns))) none] [.u, .u] := by
  refine runs_of [(5, [14, 15, 16, 17, 18, 19, 20, 21, 22, 23, 24])] rfl Try.func20 rfl pk_20 rfl rfl ?_
  simp
  refine loop_by (fun k : Nat => [(0, .d (.sl 6 (List.map encEntry l)) none), (1, .d (.sl 5 (List.map encNeed ns)) none), (5, .d (.sl 5 (List.map encNeed (lack l (ns.take k)))) none), (6, .d (.v (.int .i64 k)) none)])
    (fun k => k ≤ ns.length) (fun k => ns.length - k) 0 (Nat.zero_le _) ?_ ?_
  · simp [lack]
  rintro k hk
  by_cases hlt : k < ns.length
  · have hw := wrap_nat (k := k) (by omega)
    have hf := filter_take (lackB l) ns hlt
    have hfl := filter_len (lackB l) ns k
    by_cases hq : at? (isE ns[k].f0 ns[k].f1 ns[k].f2 ns[k].f3 ns[k].f4) l < 0
    · rw [if_pos (by simp [lackB, hq])] at hf
      have hb : 56 * (((ns.take k).filter (lackB l)).length + 1) ≤ 281474976710656 := by omega
      simp [hlt, hl, hq, hw, lack, hb]
      exact ⟨by simp only [memRoom, strRoom]; omega, k + 1, by omega, by omega, by simp [hf]⟩
    · rw [if_neg (by simp [lackB, hq])] at hf
      simp [hlt, hl, hq, hw, lack]
      exact ⟨k + 1, by omega, by omega, by simp [hf]⟩
  · have : ns.take k = ns := List.take_of_length_le (by omega)
    simp [hlt, this]
@[simp] theorem c_specLacking (l : List PEntry) (ns : List PNeed) (hl : 80 * l.length ≤ 140737488355328) (hn : 56 * ns.length ≤ 140737488355328) {K : List X → List X → Prop} :
    callK E 20 [.d (.sl 6 (List.map encEntry l)) none, .d (.sl 5 (List.map encNeed ns)) none] K = K [.d (.sl 5 (List.map encNeed (lack l ns))) none] [.u, .u] := callK_of (r_specLacking l ns hl hn)

theorem small_okL {l : List PEntry} (h : ∀ y ∈ l, y.small) : PEntry.okL l := fun y hy => (h y hy).2.2.1
theorem lack_len (l : List PEntry) (ns : List PNeed) : (lack l ns).length ≤ ns.length := List.length_filter_le _ _
theorem lack_small {l : List PEntry} {ns : List PNeed} (h : ∀ y ∈ ns, y.small) : ∀ y ∈ lack l ns, y.small := fun y hy => h y (List.mem_filter.1 hy).1

theorem r_law4 (l : List PEntry) (ns : List PNeed) (hl : 80 * l.length ≤ 140737488355328) (hs : ∀ y ∈ l, y.small) (hn : 56 * ns.length ≤ 140737488355328) (hns : ∀ y ∈ ns, y.small) :
    Runs E 4 [.d (.sl 6 (List.map encEntry l)) none, .d (.sl 5 (List.map encNeed ns)) none] [.d (.v (.bool true)) none] [.u, .u] := by
  refine runs_of [] rfl Try.func4 rfl pk_4 rfl rfl ?_
  have hok := small_okL hs
  simp [hl, hn, hok]
  have hv := p_szEntryS l 1048576 (by omega) (by omega) hl hs
  simp only at hv
  refine cond_by (fun h => by simp) (fun h => ?_)
  simp at h
  have hv2 := p_szNeedS ns _ h (by omega) hn hns
  simp only at hv2
  simp [hl, hn, hok]
  refine cond_by (fun h => by simp) (fun h => ?_)
  simp at h
  have g1 := lack_len l ns
  have m1 : 56 * (lack l ns).length ≤ 140737488355328 := by omega
  have m2 : (1 : Int) + 5 * wtE l ≤ 1000000000000 := by omega
  have m3 : (0 : Int) ≤ 1 + 5 * wtE l := by omega
  have m4 : (1 : Int) + 5 * wtE l + 5 * ns.length ≤ 1000000000000 := by omega
  have m5 : (1 : Int) + 5 * (lack l ns).length ≤ 1000000000000 := by omega
  have m6 : ¬ ((1 : Int) + 5 * wtE l + 5 * ns.length < 0) := by omega
  have m7 : ¬ ((1 : Int) + 5 * (lack l ns).length < 0) := by omega
  simp [hl, hn, hok, m1, m2, m3, m4, m5, m6, m7]
end Go.Proofs.Ytfgaikcoodagiaa

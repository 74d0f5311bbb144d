/- What is lacking: the program's and the reference's come to the same. -/
import Derived.Test.YtfgaikcoodagiaaW2
set_option linter.all false
namespace Go.Proofs.Ytfgaikcoodagiaa
open Go.Ev
set_option maxRecDepth 20000
set_option linter.unusedVariables false
set_option linter.unusedSimpArgs false

theorem bef_f {α : Type} {f : α → Bool} {l : List α} {k : Nat} (h : ∀ j (hj : j < l.length), j < k → f l[j] = false) (hk : k < l.length) (hf : f l[k] = false) : ∀ j (hj : j < l.length), j < k + 1 → f l[j] = false := by
  intro j hj h1
  by_cases e : j = k
  · subst e; exact hf
  · exact h j hj (by omega)

/-- Whether an entry is of a path and a version. -/
def isE (p : ByteArray) (a b c : Int) (s : ByteArray) (x : PEntry) : Bool := decide (x.f0 = p) && (decide (x.f1 = a) && (decide (x.f2 = b) && (decide (x.f3 = c) && decide (x.f4 = s))))

theorem isE_no {p : ByteArray} {a b c : Int} {s : ByteArray} {x : PEntry} (h : ¬ (x.f0 = p ∧ x.f1 = a ∧ x.f2 = b ∧ x.f3 = c ∧ x.f4 = s)) : isE p a b c s x = false := by
  cases hh : isE p a b c s x with
  | false => rfl
  | true => exact absurd (by simpa [isE] using hh) h

theorem r_findEntry (l : List PEntry) (p : ByteArray) (a b c : Int) (s : ByteArray) (hl : 80 * l.length ≤ 140737488355328) :
    Runs E 55 [.d (.sl 6 (List.map encEntry l)) none, .d (.v (.string p)) none, .agg [.v (.int .i64 a), .v (.int .i64 b), .v (.int .i64 c), .v (.string s)] none] [.d (.v (.int .i64 (at? (isE p a b c s) l))) none] [.u, .u, .u] := by
  refine runs_of [] rfl Try.func55 rfl pk_55 rfl rfl ?_
  simp
  refine loop_by (fun k : Nat => [(0, .d (.sl 6 (List.map encEntry l)) none), (1, .d (.v (.string p)) none), (5, .box [.v (.int .i64 a), .v (.int .i64 b), .v (.int .i64 c), .v (.string s)]), (9, .d (.sl 6 (List.map encEntry l)) (some ⟨0, []⟩)), (10, .d (.v (.int .i64 l.length)) none), (11, .d (.v (.int .i64 k)) none)])
    (fun k => ∀ j (hj : j < l.length), j < k → isE p a b c s l[j] = false) (fun k => l.length - k) 0 (fun j hj h => by omega) ?_ ?_
  · simp
  rintro k hbef
  by_cases hlt : k < l.length
  · have hw := wrap_nat (k := k) (by omega)
    by_cases h0 : l[k].f0 = p
    · by_cases h1 : l[k].f1 = a ∧ l[k].f2 = b ∧ l[k].f3 = c ∧ l[k].f4 = s
      · obtain ⟨h1, h2, h3, h4⟩ := h1
        simp [hlt, h0, h1, h2, h3, h4]
        exact (at_of hlt hbef (by simp [isE, h0, h1, h2, h3, h4])).symm
      · have h1' : (l[k].f1 = a → l[k].f2 = b → l[k].f3 = c → ¬ l[k].f4 = s) := fun q1 q2 q3 q4 => h1 ⟨q1, q2, q3, q4⟩
        have h2' : (decide (l[k].f1 = a) && (decide (l[k].f2 = b) && (decide (l[k].f3 = c) && decide (l[k].f4 = s)))) = false := by
          cases hh : (decide (l[k].f1 = a) && (decide (l[k].f2 = b) && (decide (l[k].f3 = c) && decide (l[k].f4 = s)))) with
          | false => rfl
          | true => exact absurd (by simpa using hh) h1
        simp [hlt, h0, h2', hw]
        exact ⟨k + 1, bef_f hbef hlt (isE_no fun ⟨_, q⟩ => h1 q), by omega, by simp⟩
    · simp [hlt, h0, hw]
      exact ⟨k + 1, bef_f hbef hlt (isE_no fun ⟨q, _⟩ => h0 q), by omega, by simp⟩
  · simp [hlt]
    exact (at_none fun j hj => hbef j hj (by omega)).symm
@[simp] theorem c_findEntry (l : List PEntry) (p : ByteArray) (a b c : Int) (s : ByteArray) (hl : 80 * l.length ≤ 140737488355328) {K : List X → List X → Prop} :
    callK E 55 [.d (.sl 6 (List.map encEntry l)) none, .d (.v (.string p)) none, .agg [.v (.int .i64 a), .v (.int .i64 b), .v (.int .i64 c), .v (.string s)] none] K = K [.d (.v (.int .i64 (at? (isE p a b c s) l))) none] [.u, .u, .u] := callK_of (r_findEntry l p a b c s hl)

theorem r_l15At (l : List PEntry) (p : ByteArray) (a b c : Int) (s : ByteArray) (hl : 80 * l.length ≤ 140737488355328) :
    Runs E 57 [.d (.sl 6 (List.map encEntry l)) none, .d (.v (.string p)) none, .agg [.v (.int .i64 a), .v (.int .i64 b), .v (.int .i64 c), .v (.string s)] none] [.d (.v (.int .i64 (at? (isE p a b c s) l))) none] [.u, .u, .u] := by
  refine runs_of [(4, [14, 15, 16, 17, 18, 19, 20, 21, 22, 23, 24, 25, 26, 27])] rfl Try.func57 rfl pk_57 rfl rfl ?_
  simp
  refine loop_by (fun k : Nat => [(0, .d (.sl 6 (List.map encEntry l)) none), (1, .d (.v (.string p)) none), (5, .box [.v (.int .i64 a), .v (.int .i64 b), .v (.int .i64 c), .v (.string s)]), (7, .d (.v (.int .i64 k)) none)])
    (fun k => ∀ j (hj : j < l.length), j < k → isE p a b c s l[j] = false) (fun k => l.length - k) 0 (fun j hj h => by omega) ?_ ?_
  · simp
  rintro k hbef
  by_cases hlt : k < l.length
  · have hw := wrap_nat (k := k) (by omega)
    by_cases h0 : l[k].f0 = p
    · by_cases h1 : l[k].f1 = a ∧ l[k].f2 = b ∧ l[k].f3 = c ∧ l[k].f4 = s
      · obtain ⟨h1, h2, h3, h4⟩ := h1
        simp [hlt, h0, h1, h2, h3, h4]
        exact (at_of hlt hbef (by simp [isE, h0, h1, h2, h3, h4])).symm
      · have h2' : (decide (l[k].f1 = a) && (decide (l[k].f2 = b) && (decide (l[k].f3 = c) && decide (l[k].f4 = s)))) = false := by
          cases hh : (decide (l[k].f1 = a) && (decide (l[k].f2 = b) && (decide (l[k].f3 = c) && decide (l[k].f4 = s)))) with
          | false => rfl
          | true => exact absurd (by simpa using hh) h1
        simp [hlt, h0, h2', hw]
        exact ⟨k + 1, bef_f hbef hlt (isE_no fun ⟨_, q⟩ => h1 q), by omega, by simp⟩
    · simp [hlt, h0, hw]
      exact ⟨k + 1, bef_f hbef hlt (isE_no fun ⟨q, _⟩ => h0 q), by omega, by simp⟩
  · simp [hlt]
    exact (at_none fun j hj => hbef j hj (by omega)).symm
@[simp] theorem c_l15At (l : List PEntry) (p : ByteArray) (a b c : Int) (s : ByteArray) (hl : 80 * l.length ≤ 140737488355328) {K : List X → List X → Prop} :
    callK E 57 [.d (.sl 6 (List.map encEntry l)) none, .d (.v (.string p)) none, .agg [.v (.int .i64 a), .v (.int .i64 b), .v (.int .i64 c), .v (.string s)] none] K = K [.d (.v (.int .i64 (at? (isE p a b c s) l))) none] [.u, .u, .u] := callK_of (r_l15At l p a b c s hl)

/-- Whether a need is lacking. -/

theorem small_okL {l : List PEntry} (h : ∀ y ∈ l, y.small) : PEntry.okL l := fun y hy => (h y hy).2.2.1
theorem wtE_len (l : List PEntry) : l.length ≤ wtE l := by
  unfold wtE
  induction l with
  | nil => simp
  | cons x l ih => simp only [List.map_cons, List.sum_cons, List.length_cons]; omega

theorem fits_needs (l : List PNeed) : (List.map encNeed l).all (fits [.zs, .zi .i64, .zi .i64, .zi .i64, .zs]) = true := by
  rw [List.all_eq_true]
  intro x hx
  obtain ⟨y, _, rfl⟩ := List.mem_map.1 hx
  rfl

@[simp] theorem c_cloneNeeds (l : List PNeed) (hl : l.length ≤ 2000000) {K : List X → List X → Prop} : callK E 94 [.d (.sl 5 (List.map encNeed l)) none] K = K [.d (.sl 5 (List.map encNeed l)) none] [.u] := by
  refine c_clone_94 ?_ ?_ (fits_needs l)
  · simp only [List.length_map, memRoom]; omega
  · simp only [List.length_map, strRoom]; omega

theorem r_copyEntry (a0 : ByteArray) (a1 a2 a3 : Int) (a4 : ByteArray) (l : List PNeed) (hl : l.length ≤ 2000000) : Runs E 56 [.agg [.v (.string a0), .v (.int .i64 a1), .v (.int .i64 a2), .v (.int .i64 a3), .v (.string a4), .sl 5 (List.map encNeed l)] none] [.agg [.v (.string a0), .v (.int .i64 a1), .v (.int .i64 a2), .v (.int .i64 a3), .v (.string a4), .sl 5 (List.map encNeed l)] none] [.u] := by
  refine runs_of [] rfl Try.func56 rfl pk_56 rfl rfl ?_
  simp [hl]
@[simp] theorem c_copyEntry (a0 : ByteArray) (a1 a2 a3 : Int) (a4 : ByteArray) (l : List PNeed) (hl : l.length ≤ 2000000) {K : List X → List X → Prop} : callK E 56 [.agg [.v (.string a0), .v (.int .i64 a1), .v (.int .i64 a2), .v (.int .i64 a3), .v (.string a4), .sl 5 (List.map encNeed l)] none] K = K [.agg [.v (.string a0), .v (.int .i64 a1), .v (.int .i64 a2), .v (.int .i64 a3), .v (.string a4), .sl 5 (List.map encNeed l)] none] [.u] := callK_of (r_copyEntry a0 a1 a2 a3 a4 l hl)

theorem r_l15Copy (a0 : ByteArray) (a1 a2 a3 : Int) (a4 : ByteArray) (l : List PNeed) (hl : l.length ≤ 2000000) : Runs E 58 [.agg [.v (.string a0), .v (.int .i64 a1), .v (.int .i64 a2), .v (.int .i64 a3), .v (.string a4), .sl 5 (List.map encNeed l)] none] [.agg [.v (.string a0), .v (.int .i64 a1), .v (.int .i64 a2), .v (.int .i64 a3), .v (.string a4), .sl 5 (List.map encNeed l)] none] [.u] := by
  refine runs_of [] rfl Try.func58 rfl pk_58 rfl rfl ?_
  simp
  simp only [memRoom, strRoom]; omega
@[simp] theorem c_l15Copy (a0 : ByteArray) (a1 a2 a3 : Int) (a4 : ByteArray) (l : List PNeed) (hl : l.length ≤ 2000000) {K : List X → List X → Prop} : callK E 58 [.agg [.v (.string a0), .v (.int .i64 a1), .v (.int .i64 a2), .v (.int .i64 a3), .v (.string a4), .sl 5 (List.map encNeed l)] none] K = K [.agg [.v (.string a0), .v (.int .i64 a1), .v (.int .i64 a2), .v (.int .i64 a3), .v (.string a4), .sl 5 (List.map encNeed l)] none] [.u] := callK_of (r_l15Copy a0 a1 a2 a3 a4 l hl)

def okF (l : List PEntry) : Prop := ∀ e ∈ l, e.f5.length ≤ 2000000
/-- The entry that is found. -/
def feE (l : List PEntry) (q : PEntry → Bool) : PEntry := match l.findIdx? q with
  | some k => l[k]?.getD ⟨.empty, 0, 0, 0, .empty, []⟩
  | none => ⟨.empty, 0, 0, 0, .empty, []⟩

theorem at_cases {α : Type} (q : α → Bool) (l : List α) : (∃ k, ∃ h : k < l.length, l.findIdx? q = some k ∧ at? q l = k ∧ q l[k] = true ∧ l.any q = true) ∨ (l.findIdx? q = none ∧ at? q l = -1 ∧ l.any q = false) := by
  cases hf : l.findIdx? q with
  | some k =>
    left
    obtain ⟨hk, h1, _⟩ := List.findIdx?_eq_some_iff_getElem.1 hf
    exact ⟨k, hk, rfl, by simp [at?, hf], h1, List.any_eq_true.2 ⟨_, List.getElem_mem hk, h1⟩⟩
  | none =>
    right
    refine ⟨rfl, by simp [at?, hf], ?_⟩
    rw [List.findIdx?_eq_none_iff] at hf
    cases ha : l.any q with
    | false => rfl
    | true =>
      obtain ⟨x, hx, hq⟩ := List.any_eq_true.1 ha
      rw [hf x hx] at hq; cases hq

theorem r_implFindEntry (l : List PEntry) (p : ByteArray) (a b c : Int) (s : ByteArray) (hl : l.length ≤ 2000000) (hd : okF l) :
    Runs E 14 [.d (.sl 6 (List.map encEntry l)) none, .d (.v (.string p)) none, .agg [.v (.int .i64 a), .v (.int .i64 b), .v (.int .i64 c), .v (.string s)] none] [.agg (encEntry (feE l (isE p a b c s))) none, .d (.v (.bool (l.any (isE p a b c s)))) none] [.u, .u, .u] := by
  refine runs_of [] rfl Try.func14 rfl pk_14 rfl rfl ?_
  have hl8 : 80 * l.length ≤ 140737488355328 := by omega
  rcases at_cases (isE p a b c s) l with ⟨k, hk, h1, h2, h3, h4⟩ | ⟨h1, h2, h4⟩
  · have hn : ¬ ((k : Nat) : Int) < 0 := by omega
    have h5 := hd _ (List.getElem_mem hk)
    simp [hl8, h2, hn, hk, h4, feE, h1, h5]
  · simp [hl8, h2, h4, feE, h1]
@[simp] theorem c_implFindEntry (l : List PEntry) (p : ByteArray) (a b c : Int) (s : ByteArray) (hl : l.length ≤ 2000000) (hd : okF l) {K : List X → List X → Prop} :
    callK E 14 [.d (.sl 6 (List.map encEntry l)) none, .d (.v (.string p)) none, .agg [.v (.int .i64 a), .v (.int .i64 b), .v (.int .i64 c), .v (.string s)] none] K = K [.agg (encEntry (feE l (isE p a b c s))) none, .d (.v (.bool (l.any (isE p a b c s)))) none] [.u, .u, .u] := callK_of (r_implFindEntry l p a b c s hl hd)

theorem r_specFindEntry (l : List PEntry) (p : ByteArray) (a b c : Int) (s : ByteArray) (hl : l.length ≤ 2000000) (hd : okF l) :
    Runs E 15 [.d (.sl 6 (List.map encEntry l)) none, .d (.v (.string p)) none, .agg [.v (.int .i64 a), .v (.int .i64 b), .v (.int .i64 c), .v (.string s)] none] [.agg (encEntry (feE l (isE p a b c s))) none, .d (.v (.bool (l.any (isE p a b c s)))) none] [.u, .u, .u] := by
  refine runs_of [] rfl Try.func15 rfl pk_15 rfl rfl ?_
  have hl8 : 80 * l.length ≤ 140737488355328 := by omega
  rcases at_cases (isE p a b c s) l with ⟨k, hk, h1, h2, h3, h4⟩ | ⟨h1, h2, h4⟩
  · have hn : ¬ ((k : Nat) : Int) < 0 := by omega
    have h5 := hd _ (List.getElem_mem hk)
    simp [hl8, h2, hn, hk, h4, feE, h1, h5]
  · simp [hl8, h2, h4, feE, h1]
@[simp] theorem c_specFindEntry (l : List PEntry) (p : ByteArray) (a b c : Int) (s : ByteArray) (hl : l.length ≤ 2000000) (hd : okF l) {K : List X → List X → Prop} :
    callK E 15 [.d (.sl 6 (List.map encEntry l)) none, .d (.v (.string p)) none, .agg [.v (.int .i64 a), .v (.int .i64 b), .v (.int .i64 c), .v (.string s)] none] K = K [.agg (encEntry (feE l (isE p a b c s))) none, .d (.v (.bool (l.any (isE p a b c s)))) none] [.u, .u, .u] := callK_of (r_specFindEntry l p a b c s hl hd)
end Go.Proofs.Ytfgaikcoodagiaa

/- What covers what: the program's and the reference's come to the same. -/
import Derived.Test.YtojciiiilfmjgaaDoorVA
set_option linter.all false
namespace Go.Proofs.YtojciiiilfmjgaaDoor
open Go.Ev
set_option maxRecDepth 20000
set_option linter.unusedVariables false
set_option linter.unusedSimpArgs false

theorem sz_by {E : Prog} (P : Int → Prop) (dr : List (Nat × List Nat)) {f : Nat} {fn : Func} {c : Code} {ks : List PK} {xs : List X} (hp : E.prims f = none) (hf : E.funcs f = some fn) (hb : fn.body = some c) (hk : E.pks f = some ks) (hl : xs.length = ks.length) (hd : drOk (drL dr) c = true)
    (h : runW E (drL dr) (endX E fn.results.toList ks (fun r : {r : Int // P r} => [.d (.v (.int .i64 r.1)) none]) [.u, .u]) [.code c] .normal (args0 xs)) : P (szv E f xs) := by
  obtain ⟨r, hr⟩ := runs_ex dr (fun r : {r : Int // P r} => [.d (.v (.int .i64 r.1)) none]) hp hf hb hk hl hd h
  exact (szv_spec ⟨r.1, hr, r.2⟩).2

def PNeed.small (x : PNeed) : Prop := x.f0.size ≤ 140737488355328 ∧ x.f4.size ≤ 140737488355328
def PEntry.small (x : PEntry) : Prop := x.f0.size ≤ 140737488355328 ∧ x.f4.size ≤ 140737488355328 ∧ 56 * x.f5.length ≤ 140737488355328 ∧ ∀ y ∈ x.f5, y.small

theorem bef_f {α : Type} {f : α → Bool} {l : List α} {k : Nat} (h : ∀ j (hj : j < l.length), j < k → f l[j] = false) (hk : k < l.length) (hf : f l[k] = false) : ∀ j (hj : j < l.length), j < k + 1 → f l[j] = false := by
  intro j hj h1
  by_cases e : j = k
  · subst e; exact hf
  · exact h j hj (by omega)
theorem bef_t {α : Type} {f : α → Bool} {l : List α} {k : Nat} (h : ∀ j (hj : j < l.length), j < k → f l[j] = true) (hk : k < l.length) (hf : f l[k] = true) : ∀ j (hj : j < l.length), j < k + 1 → f l[j] = true := by
  intro j hj h1
  by_cases e : j = k
  · subst e; exact hf
  · exact h j hj (by omega)
theorem all_of {α : Type} {f : α → Bool} {l : List α} {k : Nat} (h : ∀ j (hj : j < l.length), j < k → f l[j] = true) (hk : ¬ k < l.length) : l.all f = true := by
  rw [List.all_eq_true]
  intro x hx
  obtain ⟨j, hj, rfl⟩ := List.getElem_of_mem hx
  exact h j hj (by omega)
theorem all_no {α : Type} {f : α → Bool} {l : List α} {k : Nat} (hk : k < l.length) (hf : f l[k] = false) : l.all f = false := by
  cases ha : l.all f with
  | false => rfl
  | true => rw [List.all_eq_true] at ha; rw [ha _ (List.getElem_mem hk)] at hf; cases hf

theorem q_szVersion (a0 a1 a2 : Int) (a3 : ByteArray) (left : Int) (h1 : 0 ≤ left) (h2 : left ≤ 1048576) (hs : a3.size ≤ 140737488355328) :
    (fun r : Int => r < 0 ∨ r + a3.size ≤ left) (szv E 27 [.agg [.v (.int .i64 a0), .v (.int .i64 a1), .v (.int .i64 a2), .v (.string a3)] none, .d (.v (.int .i64 left)) none]) := by
  refine sz_by (fun r : Int => r < 0 ∨ r + a3.size ≤ left) [] rfl Tryd.func27 rfl pk_27 rfl rfl ?_
  have hw : IntKind.wrap .i64 (left - a3.size) = left - a3.size := wrap_id (by omega) (by omega)
  simp [hw]
  refine cond_by (fun h => by simp) (fun h => ?_)
  simp at h
  simp
  try omega

theorem q_szNeed (a0 : ByteArray) (a1 a2 a3 : Int) (a4 : ByteArray) (left : Int) (h1 : 0 ≤ left) (h2 : left ≤ 1048576) (hs : a0.size ≤ 140737488355328) (hs4 : a4.size ≤ 140737488355328) :
    (fun r : Int => r < 0 ∨ r + a0.size + a4.size ≤ left) (szv E 15 [.agg [.v (.string a0), .v (.int .i64 a1), .v (.int .i64 a2), .v (.int .i64 a3), .v (.string a4)] none, .d (.v (.int .i64 left)) none]) := by
  refine sz_by (fun r : Int => r < 0 ∨ r + a0.size + a4.size ≤ left) [] rfl Tryd.func15 rfl pk_15 rfl rfl ?_
  have hw : IntKind.wrap .i64 (left - a0.size) = left - a0.size := wrap_id (by omega) (by omega)
  simp [hw]
  refine cond_by (fun h => by simp) (fun h => ?_)
  simp at h
  have hv := q_szVersion a1 a2 a3 a4 (left - a0.size) (by omega) (by omega) hs4
  simp only at hv
  simp
  refine cond_by (fun h => by simp) (fun h => ?_)
  simp at h
  simp
  omega

def PNeed.fine (x : PNeed) : Prop := x.f0.size ≤ 1048576 ∧ x.f4.size ≤ 1048576
def allFine (l : List PNeed) : Prop := ∀ x ∈ l, x.fine

theorem fine_next {l : List PNeed} {k : Nat} (h : ∀ j (hj : j < l.length), j < k → l[j].fine) (hlt : k < l.length) (hf : l[k].fine) : ∀ j (hj : j < l.length), j < k + 1 → l[j].fine := by
  intro j hj h1
  by_cases e : j = k
  · subst e; exact hf
  · exact h j hj (by omega)
theorem fine_all {l : List PNeed} {k : Nat} (h : ∀ j (hj : j < l.length), j < k → l[j].fine) (hk : ¬ k < l.length) : ∀ y ∈ l, y.fine := by
  intro y hy
  obtain ⟨j, hj, rfl⟩ := List.getElem_of_mem hy
  exact h j hj (by omega)

theorem q_szNeedS (l : List PNeed) (left : Int) (h1 : 0 ≤ left) (h2 : left ≤ 1048576) (hl : 56 * l.length ≤ 140737488355328) (hs : ∀ y ∈ l, y.small) :
    (fun r : Int => r < 0 ∨ (r + l.length ≤ left ∧ ∀ y ∈ l, y.fine)) (szv E 5 [.d (.sl 5 (List.map encNeed l)) none, .d (.v (.int .i64 left)) none]) := by
  refine sz_by (fun r : Int => r < 0 ∨ (r + l.length ≤ left ∧ ∀ y ∈ l, y.fine)) [] rfl Tryd.func5 rfl pk_5 rfl rfl ?_
  have hw : IntKind.wrap .i64 (left - l.length) = left - l.length := wrap_id (by omega) (by omega)
  simp [hw]
  refine cond_by (fun h => by simp) (fun h => ?_)
  simp at h
  simp
  refine loop_by (fun p : Nat × Int => [(0, .d (.sl 5 (List.map encNeed l)) none), (1, .d (.v (.int .i64 p.2)) none), (5, .d (.v (.int .i64 p.1)) none)]) (fun p => p.1 ≤ l.length ∧ 0 ≤ p.2 ∧ p.2 + l.length ≤ left ∧ ∀ j (hj : j < l.length), j < p.1 → l[j].fine) (fun p => l.length - p.1) (0, left - l.length) ⟨Nat.zero_le _, by simp only; omega, by simp only; omega, fun j hj h => by simp at h⟩ ?_ ?_
  · simp
  rintro ⟨k, lf⟩ ⟨hk, q1, q2, q3⟩
  simp only at hk q1 q2 q3
  by_cases hlt : k < l.length
  · have hw := wrap_nat (k := k) (by omega)
    obtain ⟨g1, g2⟩ := hs l[k] (List.getElem_mem hlt)
    have hv := q_szNeed l[k].f0 l[k].f1 l[k].f2 l[k].f3 l[k].f4 lf q1 (by omega) g1 g2
    simp only at hv
    simp [hlt]
    refine cond_by (fun _ => by simp) (fun h => ?_)
    simp at h
    simp [hw]
    exact ⟨k + 1, _, ⟨by omega, h, by omega, fine_next q3 hlt ⟨by omega, by omega⟩⟩, by omega, by simp⟩
  · simp [hlt]
    exact .inr ⟨by omega, fine_all q3 hlt⟩

/-- Whether a need covers another one. -/
def covN (n x : PNeed) : Bool := decide (x.f0 = n.f0) && !(verLess x.f1 x.f2 x.f3 x.f4 n.f1 n.f2 n.f3 n.f4)

theorem r_Covers1 (n x : PNeed) (h1 : n.fine) (h2 : x.fine) : Runs E 19 [.agg (encNeed x) none, .box (encNeed n)] [.d (.v (.bool (covN n x))) none] [.u, .u] := by
  refine runs_of [] rfl Tryd.func19 rfl pk_19 rfl rfl ?_
  have s1 : n.f4.size < 4294967281 := by have := h1.2; omega
  have s2 : x.f4.size < 4294967281 := by have := h2.2; omega
  by_cases h0 : x.f0 = n.f0 <;> simp [h0, s1, s2, covN]
@[simp] theorem c_Covers1 (n x : PNeed) (h1 : n.fine) (h2 : x.fine) {K : List X → List X → Prop} : callK E 19 [.agg [.v (.string x.f0), .v (.int .i64 x.f1), .v (.int .i64 x.f2), .v (.int .i64 x.f3), .v (.string x.f4)] none, .box [.v (.string n.f0), .v (.int .i64 n.f1), .v (.int .i64 n.f2), .v (.int .i64 n.f3), .v (.string n.f4)]] K = K [.d (.v (.bool (covN n x))) none] [.u, .u] := callK_of (r_Covers1 n x h1 h2)

theorem r_IndexFunc (n : PNeed) (l : List PNeed) (h1 : n.fine) (h2 : allFine l) (hl : 56 * l.length ≤ 140737488355328) :
    Runs E 30 [.d (.sl 5 (List.map encNeed l)) none, .fv 19 [encNeed n]] [.d (.v (.int .i64 (at? (covN n) l))) none] [.u, .u] := by
  refine runs_of [] rfl Tryd.func30 rfl pk_30 rfl rfl ?_
  simp
  refine loop_by (fun k : Nat => [(0, .d (.sl 5 (List.map encNeed l)) none), (1, .fv 19 [encNeed n]), (7, .d (.v (.int .i64 l.length)) none), (8, .d (.v (.int .i64 k)) none)])
    (fun k => ∀ j (hj : j < l.length), j < k → covN n l[j] = false) (fun k => l.length - k) 0 (fun j hj h => by omega) ?_ ?_
  · simp
  rintro k hbef
  by_cases hlt : k < l.length
  · have hw := wrap_nat (k := k) (by omega)
    have hx := h2 _ (List.getElem_mem hlt)
    cases hc : covN n l[k] with
    | true =>
      simp [hlt, h1, hx, hc, hw]
      exact (at_of hlt hbef hc).symm
    | false =>
      simp [hlt, h1, hx, hc, hw]
      exact ⟨k + 1, bef_f hbef hlt hc, by omega, by simp⟩
  · simp [hlt]
    exact (at_none fun j hj => hbef j hj (by omega)).symm
@[simp] theorem c_IndexFunc (n : PNeed) (l : List PNeed) (h1 : n.fine) (h2 : allFine l) (hl : 56 * l.length ≤ 140737488355328) {K : List X → List X → Prop} :
    callK E 30 [.d (.sl 5 (List.map encNeed l)) none, .fv 19 [[.v (.string n.f0), .v (.int .i64 n.f1), .v (.int .i64 n.f2), .v (.int .i64 n.f3), .v (.string n.f4)]]] K = K [.d (.v (.int .i64 (at? (covN n) l))) none] [.u, .u] := callK_of (r_IndexFunc n l h1 h2 hl)

theorem at_any {α : Type} (f : α → Bool) (l : List α) : decide (0 ≤ at? f l) = l.any f := by
  cases hf : l.findIdx? f with
  | some k =>
    obtain ⟨hk, h1, _⟩ := List.findIdx?_eq_some_iff_getElem.1 hf
    have : l.any f = true := List.any_eq_true.2 ⟨_, List.getElem_mem hk, h1⟩
    rw [this]
    simp [at?, hf]
  | none =>
    have : l.any f = false := by
      rw [List.findIdx?_eq_none_iff] at hf
      cases ha : l.any f with
      | false => rfl
      | true =>
        obtain ⟨x, hx, hq⟩ := List.any_eq_true.1 ha
        rw [hf x hx] at hq; cases hq
    rw [this]
    simp [at?, hf]

/-- Whether one of them covers a need; whether each is covered. -/
def hasN (l : List PNeed) (n : PNeed) : Bool := l.any (covN n)
def covers (l m : List PNeed) : Bool := m.all (hasN l)

theorem r_ContainsFunc (n : PNeed) (l : List PNeed) (h1 : n.fine) (h2 : allFine l) (hl : 56 * l.length ≤ 140737488355328) :
    Runs E 18 [.d (.sl 5 (List.map encNeed l)) none, .fv 19 [encNeed n]] [.d (.v (.bool (hasN l n))) none] [.u, .u] := by
  refine runs_of [] rfl Tryd.func18 rfl pk_18 rfl rfl ?_
  have : decide (0 ≤ at? (covN n) l) = hasN l n := at_any (covN n) l
  simp [h1, h2, hl, this]
@[simp] theorem c_ContainsFunc (n : PNeed) (l : List PNeed) (h1 : n.fine) (h2 : allFine l) (hl : 56 * l.length ≤ 140737488355328) {K : List X → List X → Prop} :
    callK E 18 [.d (.sl 5 (List.map encNeed l)) none, .fv 19 [[.v (.string n.f0), .v (.int .i64 n.f1), .v (.int .i64 n.f2), .v (.int .i64 n.f3), .v (.string n.f4)]]] K = K [.d (.v (.bool (hasN l n))) none] [.u, .u] := callK_of (r_ContainsFunc n l h1 h2 hl)

theorem r_implCovers (l m : List PNeed) (h1 : allFine l) (h2 : allFine m) (hl : 56 * l.length ≤ 140737488355328) (hm : 56 * m.length ≤ 140737488355328) :
    Runs E 8 [.d (.sl 5 (List.map encNeed l)) none, .d (.sl 5 (List.map encNeed m)) none] [.d (.v (.bool (covers l m))) none] [.u, .u] := by
  refine runs_of [] rfl Tryd.func8 rfl pk_8 rfl rfl ?_
  simp
  refine loop_by (fun k : Nat => [(0, .d (.sl 5 (List.map encNeed l)) none), (8, .d (.sl 5 (List.map encNeed m)) (some ⟨1, []⟩)), (1, .d (.sl 5 (List.map encNeed m)) none), (9, .d (.v (.int .i64 m.length)) none), (10, .d (.v (.int .i64 k)) none)])
    (fun k => ∀ j (hj : j < m.length), j < k → hasN l m[j] = true) (fun k => m.length - k) 0 (fun j hj h => by omega) ?_ ?_
  · simp
  rintro k hbef
  by_cases hlt : k < m.length
  · have hw := wrap_nat (k := k) (by omega)
    have hx := h2 _ (List.getElem_mem hlt)
    cases hc : hasN l m[k] with
    | true =>
      simp [hlt, hx, h1, hl, hc, hw]
      exact ⟨k + 1, bef_t hbef hlt hc, by omega, by simp⟩
    | false =>
      simp [hlt, hx, h1, hl, hc, hw]
      exact all_no hlt hc
  · simp [hlt]
    exact all_of hbef hlt
@[simp] theorem c_implCovers (l m : List PNeed) (h1 : allFine l) (h2 : allFine m) (hl : 56 * l.length ≤ 140737488355328) (hm : 56 * m.length ≤ 140737488355328) {K : List X → List X → Prop} :
    callK E 8 [.d (.sl 5 (List.map encNeed l)) none, .d (.sl 5 (List.map encNeed m)) none] K = K [.d (.v (.bool (covers l m))) none] [.u, .u] := callK_of (r_implCovers l m h1 h2 hl hm)

theorem has_take {l : List PNeed} {n : PNeed} {k : Nat} (hk : k < l.length) : hasN (l.take (k + 1)) n = (hasN (l.take k) n || covN n l[k]) := by
  unfold hasN
  have e : l.take (k + 1) = l.take k ++ [l[k]] := by
    rw [List.take_add_one, List.getElem?_eq_getElem hk]; rfl
  rw [e, List.any_append]
  simp only [List.any_cons, List.any_nil, Bool.or_false]

set_option maxHeartbeats 2000000 in
theorem r_specCovers (l m : List PNeed) (h1 : allFine l) (h2 : allFine m) (hl : 56 * l.length ≤ 140737488355328) (hm : 56 * m.length ≤ 140737488355328) :
    Runs E 6 [.d (.sl 5 (List.map encNeed l)) none, .d (.sl 5 (List.map encNeed m)) none] [.d (.v (.bool (covers l m))) none] [.u, .u] := by
  refine runs_of [(8, [20, 21, 22, 23, 24, 25, 26, 27, 28, 29, 30, 31, 32, 33, 34, 35, 36, 37, 38, 39, 40, 41, 42, 43])] rfl Tryd.func6 rfl pk_6 rfl rfl ?_
  simp
  refine loop_by (fun k : Nat => [(0, .d (.sl 5 (List.map encNeed l)) none), (1, .d (.sl 5 (List.map encNeed m)) none), (5, .d (.v (.int .i64 k)) none)])
    (fun k => ∀ j (hj : j < m.length), j < k → hasN l m[j] = true) (fun k => m.length - k) 0 (fun j hj h => by omega) ?_ ?_
  · simp
  rintro k hbef
  by_cases hlt : k < m.length
  · have hw := wrap_nat (k := k) (by omega)
    have hx : m[k].fine := h2 _ (List.getElem_mem hlt)
    simp [hlt]
    refine loop_by (fun i : Nat => [(0, .d (.sl 5 (List.map encNeed l)) none), (1, .d (.sl 5 (List.map encNeed m)) none), (5, .d (.v (.int .i64 k)) none), (6, .d (.v (.bool (hasN (l.take i) m[k]))) none), (7, .d (.v (.int .i64 i)) none)])
      (fun i => i ≤ l.length) (fun i => l.length - i) 0 (Nat.zero_le _) ?_ ?_
    · simp [hasN]
    rintro i hi
    by_cases hli : i < l.length
    · have hwi := wrap_nat (k := i) (by omega)
      have hy : l[i].fine := h1 _ (List.getElem_mem hli)
      have ht := has_take (n := m[k]) hli
      have s1 : m[k].f4.size < 4294967281 := by have := hx.2; omega
      have s2 : l[i].f4.size < 4294967281 := by have := hy.2; omega
      cases hh : hasN (l.take i) m[k] with
      | true =>
        rw [hh] at ht
        simp [hlt, hli, hwi, hh]
        exact ⟨i + 1, hli, by omega, by rw [ht]; rfl, by simp⟩
      | false =>
        rw [hh, Bool.false_or] at ht
        by_cases hp : l[i].f0 = m[k].f0
        · simp [hlt, hli, hwi, hh, hp, s1, s2]
          exact ⟨i + 1, hli, by omega, by rw [ht]; simp [covN, hp], by simp⟩
        · simp [hlt, hli, hwi, hh, hp, s1, s2]
          exact ⟨i + 1, hli, by omega, by rw [ht]; simp [covN, hp], by simp⟩
    · have e : i = l.length := by omega
      subst e
      cases hc : hasN l m[k] with
      | true =>
        simp [hc, hw]
        exact ⟨k + 1, bef_t hbef hlt hc, by omega, by simp⟩
      | false =>
        simp [hc]
        exact all_no hlt hc
  · simp [hlt]
    exact all_of hbef hlt
@[simp] theorem c_specCovers (l m : List PNeed) (h1 : allFine l) (h2 : allFine m) (hl : 56 * l.length ≤ 140737488355328) (hm : 56 * m.length ≤ 140737488355328) {K : List X → List X → Prop} :
    callK E 6 [.d (.sl 5 (List.map encNeed l)) none, .d (.sl 5 (List.map encNeed m)) none] K = K [.d (.v (.bool (covers l m))) none] [.u, .u] := callK_of (r_specCovers l m h1 h2 hl hm)
end Go.Proofs.YtojciiiilfmjgaaDoor

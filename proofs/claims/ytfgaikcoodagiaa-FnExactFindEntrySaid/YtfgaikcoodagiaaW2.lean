/- Entries and what they need: sizes, marks. -/
import Derived.Test.YtfgaikcoodagiaaC1
set_option linter.all false
namespace Go.Proofs.Ytfgaikcoodagiaa
open Go.Ev
set_option maxRecDepth 20000
set_option linter.unusedVariables false
set_option linter.unusedSimpArgs false

theorem sz_by {E : Prog} (P : Int → Prop) (dr : List (Nat × List Nat)) {f : Nat} {fn : Func} {c : Code} {ks : List PK} {xs : List X} (hp : E.prims f = none) (hf : E.funcs f = some fn) (hb : fn.body = some c) (hk : E.pks f = some ks) (hl : xs.length = ks.length) (hd : drOk (drL dr) c = true)
    (h : runW E (drL dr) (endX E fn.results.toList ks (fun r : {r : Int // P r} => [.d (.v (.int .i64 r.1)) none]) [.u, .u]) [.code c] .normal (args0 xs)) : P (szv E f xs) := by
  obtain ⟨r, hr⟩ := runs_ex dr (fun r : {r : Int // P r} => [.d (.v (.int .i64 r.1)) none]) hp hf hb hk hl hd h
  exact (szv_spec ⟨r.1, hr, r.2⟩).2

def PNeed.small (x : PNeed) : Prop := x.f0.size ≤ 140737488355328 ∧ x.f4.size ≤ 140737488355328
def PEntry.small (x : PEntry) : Prop := x.f0.size ≤ 140737488355328 ∧ x.f4.size ≤ 140737488355328 ∧ 56 * x.f5.length ≤ 140737488355328 ∧ ∀ y ∈ x.f5, y.small

theorem p_szVersion (a0 a1 a2 : Int) (a3 : ByteArray) (left : Int) (h1 : 0 ≤ left) (h2 : left ≤ 1048576) (hs : a3.size ≤ 140737488355328) :
    (fun r : Int => r < 0 ∨ r ≤ left) (szv E 32 [.agg [.v (.int .i64 a0), .v (.int .i64 a1), .v (.int .i64 a2), .v (.string a3)] none, .d (.v (.int .i64 left)) none]) := by
  refine sz_by (fun r : Int => r < 0 ∨ r ≤ left) [] rfl Try.func32 rfl pk_32 rfl rfl ?_
  have hw : IntKind.wrap .i64 (left - a3.size) = left - a3.size := wrap_id (by omega) (by omega)
  simp [hw]
  refine cond_by (fun h => by simp) (fun h => ?_)
  simp at h
  simp
  try omega

theorem p_szNeed (a0 : ByteArray) (a1 a2 a3 : Int) (a4 : ByteArray) (left : Int) (h1 : 0 ≤ left) (h2 : left ≤ 1048576) (hs : a0.size ≤ 140737488355328) (hs4 : a4.size ≤ 140737488355328) :
    (fun r : Int => r < 0 ∨ r ≤ left) (szv E 60 [.agg [.v (.string a0), .v (.int .i64 a1), .v (.int .i64 a2), .v (.int .i64 a3), .v (.string a4)] none, .d (.v (.int .i64 left)) none]) := by
  refine sz_by (fun r : Int => r < 0 ∨ r ≤ left) [] rfl Try.func60 rfl pk_60 rfl rfl ?_
  have hw : IntKind.wrap .i64 (left - a0.size) = left - a0.size := wrap_id (by omega) (by omega)
  simp [hw]
  refine cond_by (fun h => by simp) (fun h => ?_)
  simp at h
  have hv := p_szVersion a1 a2 a3 a4 (left - a0.size) (by omega) (by omega) hs4
  simp only at hv
  simp
  refine cond_by (fun h => by simp) (fun h => ?_)
  simp at h
  simp
  omega

theorem p_szNeedS (l : List PNeed) (left : Int) (h1 : 0 ≤ left) (h2 : left ≤ 1048576) (hl : 56 * l.length ≤ 140737488355328) (hs : ∀ y ∈ l, y.small) :
    (fun r : Int => r < 0 ∨ r + l.length ≤ left) (szv E 19 [.d (.sl 5 (List.map encNeed l)) none, .d (.v (.int .i64 left)) none]) := by
  refine sz_by (fun r : Int => r < 0 ∨ r + l.length ≤ left) [] rfl Try.func19 rfl pk_19 rfl rfl ?_
  have hw : IntKind.wrap .i64 (left - l.length) = left - l.length := wrap_id (by omega) (by omega)
  simp [hw]
  refine cond_by (fun h => by simp) (fun h => ?_)
  simp at h
  simp
  refine loop_by (fun p : Nat × Int => [(0, .d (.sl 5 (List.map encNeed l)) none), (1, .d (.v (.int .i64 p.2)) none), (5, .d (.v (.int .i64 p.1)) none)]) (fun p => p.1 ≤ l.length ∧ 0 ≤ p.2 ∧ p.2 + l.length ≤ left) (fun p => l.length - p.1) (0, left - l.length) ⟨Nat.zero_le _, by simp only; omega, by simp only; omega⟩ ?_ ?_
  · simp
  rintro ⟨k, lf⟩ ⟨hk, q1, q2⟩
  simp only at hk q1 q2
  by_cases hlt : k < l.length
  · have hw := wrap_nat (k := k) (by omega)
    obtain ⟨g1, g2⟩ := hs l[k] (List.getElem_mem hlt)
    have hv := p_szNeed l[k].f0 l[k].f1 l[k].f2 l[k].f3 l[k].f4 lf q1 (by omega) g1 g2
    simp only at hv
    simp [hlt]
    refine cond_by (fun _ => by simp) (fun h => ?_)
    simp at h
    simp [hw]
    exact ⟨k + 1, _, ⟨by omega, h, by omega⟩, by omega, by simp⟩
  · simp [hlt]
    omega

/-- How many there are in all. -/
def wtE (l : List PEntry) : Nat := (l.map fun x => x.f5.length + 1).sum

theorem p_szEntry (a0 : ByteArray) (a1 a2 a3 : Int) (a4 : ByteArray) (a5 : List PNeed) (left : Int) (h1 : 0 ≤ left) (h2 : left ≤ 1048576) (hs : a0.size ≤ 140737488355328) (hs4 : a4.size ≤ 140737488355328) (hl : 56 * a5.length ≤ 140737488355328) (hsl : ∀ y ∈ a5, y.small) :
    (fun r : Int => r < 0 ∨ r + a5.length ≤ left) (szv E 59 [.agg [.v (.string a0), .v (.int .i64 a1), .v (.int .i64 a2), .v (.int .i64 a3), .v (.string a4), .sl 5 (List.map encNeed a5)] none, .d (.v (.int .i64 left)) none]) := by
  refine sz_by (fun r : Int => r < 0 ∨ r + a5.length ≤ left) [] rfl Try.func59 rfl pk_59 rfl rfl ?_
  have hw : IntKind.wrap .i64 (left - a0.size) = left - a0.size := wrap_id (by omega) (by omega)
  simp [hw]
  refine cond_by (fun h => by simp) (fun h => ?_)
  simp at h
  have hv := p_szVersion a1 a2 a3 a4 (left - a0.size) (by omega) (by omega) hs4
  simp only at hv
  simp
  refine cond_by (fun h => by simp) (fun h => ?_)
  simp at h
  have hv2 := p_szNeedS a5 _ h (by omega) hl hsl
  simp only at hv2
  simp [hl]
  refine cond_by (fun h => by simp) (fun h => ?_)
  simp at h
  simp
  omega

theorem wtE_take (l : List PEntry) {k : Nat} (hk : k < l.length) : wtE (l.take (k + 1)) = wtE (l.take k) + (l[k].f5.length + 1) := by
  unfold wtE
  rw [List.take_add_one, List.getElem?_eq_getElem hk, Option.toList_some, List.map_append, List.sum_append]
  rfl

theorem p_szEntryS (l : List PEntry) (left : Int) (h1 : 0 ≤ left) (h2 : left ≤ 1048576) (hl : 80 * l.length ≤ 140737488355328) (hs : ∀ y ∈ l, y.small) :
    (fun r : Int => r < 0 ∨ r + wtE l ≤ left) (szv E 18 [.d (.sl 6 (List.map encEntry l)) none, .d (.v (.int .i64 left)) none]) := by
  refine sz_by (fun r : Int => r < 0 ∨ r + wtE l ≤ left) [] rfl Try.func18 rfl pk_18 rfl rfl ?_
  have hw : IntKind.wrap .i64 (left - l.length) = left - l.length := wrap_id (by omega) (by omega)
  simp [hw]
  refine cond_by (fun h => by simp) (fun h => ?_)
  simp at h
  simp
  refine loop_by (fun p : Nat × Int => [(0, .d (.sl 6 (List.map encEntry l)) none), (1, .d (.v (.int .i64 p.2)) none), (5, .d (.v (.int .i64 p.1)) none)]) (fun p => p.1 ≤ l.length ∧ 0 ≤ p.2 ∧ p.2 + wtE (l.take p.1) + (l.length - p.1 : Nat) ≤ left) (fun p => l.length - p.1) (0, left - l.length) ⟨Nat.zero_le _, by simp only; omega, by simp [wtE]⟩ ?_ ?_
  · simp
  rintro ⟨k, lf⟩ ⟨hk, q1, q2⟩
  simp only at hk q1 q2
  by_cases hlt : k < l.length
  · have hw := wrap_nat (k := k) (by omega)
    obtain ⟨g1, g2, g3, g4⟩ := hs l[k] (List.getElem_mem hlt)
    have hv := p_szEntry l[k].f0 l[k].f1 l[k].f2 l[k].f3 l[k].f4 l[k].f5 lf q1 (by omega) g1 g2 g3 g4
    have ht := wtE_take l hlt
    simp only at hv
    simp [hlt, g3]
    refine cond_by (fun _ => by simp) (fun h => ?_)
    simp at h
    simp [hw]
    exact ⟨k + 1, _, ⟨by omega, h, by rw [ht]; omega⟩, by omega, by simp⟩
  · have ht : l.take k = l := List.take_of_length_le (by omega)
    rw [ht] at q2
    simp [hlt]
    omega

/-! ## Marks -/

/-- The text of a number. -/
noncomputable def mt (k : Int) : ByteArray := strv E 64 [.d (.v (.int .i64 k)) none]

theorem r_markText (k : Int) (h1 : 0 ≤ k) (h2 : k ≤ 1099511627776) : ∃ s : ByteArray, Runs E 64 [.d (.v (.int .i64 k)) none] [.d (.v (.string s)) none] [.u] := by
  refine runs_ex [] (fun r : ByteArray => [.d (.v (.string r)) none]) rfl Try.func64 rfl pk_64 rfl rfl ?_
  simp
  refine cond_by (fun _ => by simp) (fun h => ?_)
  simp at h
  simp
  refine loop_by (fun p : Nat × ByteArray => [(0, .d (.v (.int .i64 p.1)) none), (3, .d (.v (.string p.2)) none)]) (fun p => p.2.size + p.1 ≤ 1099511627776) (fun p => p.1) (k.toNat, ByteArray.empty) (by simp; omega) ?_ ?_
  · simp
    exact ⟨by omega, rfl⟩
  rintro ⟨n, s⟩ hn
  simp only at hn
  have hsz : ∀ b : UInt8, ({ data := #[b] } : ByteArray).size = 1 := fun _ => rfl
  have hs : 1 + s.size ≤ 1152921504606846976 := by omega
  have hq : IntKind.wrap .i64 ((n : Int).tdiv 10) = ((n / 10 : Nat) : Int) := by
    have : ((n : Int).tdiv 10) = ((n / 10 : Nat) : Int) := rfl
    rw [this]
    exact wrap_id (by omega) (by omega)
  by_cases hz : 0 < n
  · simp [hz, strRoom, hsz, hs, hq]
    refine ⟨n / 10, _, ?_, by omega, hq, rfl⟩
    rw [ByteArray.size_append, hsz]
    omega
  · simp [hz, strRoom, hsz, hs]

@[simp] theorem c_markText (k : Int) (h1 : 0 ≤ k) (h2 : k ≤ 1099511627776) {K : List X → List X → Prop} : callK E 64 [.d (.v (.int .i64 k)) none] K = K [.d (.v (.string (mt k))) none] [.u] := callK_of (strv_of (r_markText k h1 h2))

noncomputable def mkN (k : Int) : PNeed := ⟨mt k, k + 1, k + 2, k + 3, mt (k + 4)⟩
noncomputable def mixN (k : Int) (l : List PNeed) (j : Nat) : List PNeed := (List.range j).map (fun i : Nat => mkN (k + 5 * (i : Int))) ++ l.drop j

theorem mixN_len (k : Int) (l : List PNeed) {j : Nat} (h : j ≤ l.length) : (mixN k l j).length = l.length := by simp [mixN]; omega
theorem mixN_zero (k : Int) (l : List PNeed) : mixN k l 0 = l := by simp [mixN]
theorem mixN_set (k : Int) (l : List PNeed) {j : Nat} (h : j < l.length) : (mixN k l j).set j (mkN (k + 5 * j)) = mixN k l (j + 1) := by
  unfold mixN
  rw [List.set_append_right _ _ (by simp)]
  simp only [List.length_map, List.length_range, Nat.sub_self]
  rw [List.drop_eq_getElem_cons h, List.set_cons_zero, List.range_succ]
  simp

theorem r_markNeedS (l : List PNeed) (k : Int) (h1 : 0 ≤ k) (h2 : k + 5 * l.length ≤ 1000000000000) (hl : 56 * l.length ≤ 140737488355328) :
    Runs E 26 [.d (.sl 5 (List.map encNeed l)) none, .d (.v (.int .i64 k)) none] [.d (.v (.int .i64 (k + 5 * l.length))) none] [.d (.sl 5 (List.map encNeed (mixN k l l.length))) none, .u] := by
  refine runs_of [] rfl Try.func26 rfl pk_26 rfl rfl ?_
  simp
  refine loop_by (fun j : Nat => [(0, .d (.sl 5 (List.map encNeed (mixN k l j))) none), (1, .d (.v (.int .i64 (k + 5 * j))) none), (5, .d (.v (.int .i64 j)) none)]) (fun j => j ≤ l.length) (fun j => l.length - j) 0 (Nat.zero_le _) ?_ ?_
  · simp [mixN_zero]
  intro j hj
  have hml := mixN_len k l hj
  by_cases hlt : j < l.length
  · have hw := wrap_nat (k := j) (by omega)
    have hs := mixN_set k l hlt
    generalize hm : mixN k l j = m at hml hs ⊢
    generalize hq : k + 5 * (j : Int) = q at hs ⊢
    have b1 : 0 ≤ q := by omega
    have b2 : q ≤ 1099511627776 := by omega
    have b3 : 0 ≤ q + 4 := by omega
    have b4 : q + 4 ≤ 1099511627776 := by omega
    have w1 : IntKind.wrap .i64 (q + 1) = q + 1 := wrap_id (by omega) (by omega)
    have w2 : IntKind.wrap .i64 (q + 1 + 1) = q + 2 := by rw [wrap_id (by omega) (by omega)]; omega
    have w3 : IntKind.wrap .i64 (q + 2 + 1) = q + 3 := by rw [wrap_id (by omega) (by omega)]; omega
    have w4 : IntKind.wrap .i64 (q + 3 + 1) = q + 4 := by rw [wrap_id (by omega) (by omega)]; omega
    have w5 : IntKind.wrap .i64 (q + 4 + 1) = q + 5 := by rw [wrap_id (by omega) (by omega)]; omega
    simp [hlt, hw, hml, b1, b2, b3, b4, w1, w2, w3, w4, w5]
    refine ⟨j + 1, by omega, by omega, ?_, by omega, by omega⟩
    rw [← hs, List.map_set]
    rfl
  · have : j = l.length := by omega
    subst this
    simp [hml]

@[simp] theorem c_markNeedS (l : List PNeed) (k : Int) (h1 : 0 ≤ k) (h2 : k + 5 * l.length ≤ 1000000000000) (hl : 56 * l.length ≤ 140737488355328) {K : List X → List X → Prop} :
    callK E 26 [.d (.sl 5 (List.map encNeed l)) none, .d (.v (.int .i64 k)) none] K = K [.d (.v (.int .i64 (k + 5 * l.length))) none] [.d (.sl 5 (List.map encNeed (mixN k l l.length))) none, .u] := callK_of (r_markNeedS l k h1 h2 hl)

theorem mixN_get (k : Int) (l : List PNeed) {j : Nat} (h : j < l.length) (h' : j < (mixN k l l.length).length) : (mixN k l l.length)[j] = mkN (k + 5 * (j : Int)) := by
  simp only [mixN]
  rw [List.getElem_append_left (by simpa using h)]
  simp

theorem r_heldNeedS (l : List PNeed) (k : Int) (h1 : 0 ≤ k) (h2 : k + 5 * l.length ≤ 1000000000000) (hl : 56 * l.length ≤ 140737488355328) :
    Runs E 27 [.d (.sl 5 (List.map encNeed (mixN k l l.length))) none, .d (.v (.int .i64 k)) none] [.d (.v (.int .i64 (k + 5 * l.length))) none] [.u, .u] := by
  refine runs_of [(4, [12, 13, 14, 15, 16, 17, 18]), (16, [52, 53, 54, 55, 56, 57, 58, 59])] rfl Try.func27 rfl pk_27 rfl rfl ?_
  have hml := mixN_len k l (Nat.le_refl _)
  have hget := fun j h => mixN_get k l (j := j) h
  generalize hm : mixN k l l.length = m at hml hget ⊢
  simp
  refine loop_by (fun j : Nat => [(0, .d (.sl 5 (List.map encNeed m)) none), (1, .d (.v (.int .i64 (k + 5 * j))) none), (5, .d (.v (.int .i64 j)) none)]) (fun j => j ≤ l.length) (fun j => l.length - j) 0 (Nat.zero_le _) ?_ ?_
  · simp
  intro j hj
  by_cases hlt : j < l.length
  · have hw := wrap_nat (k := j) (by omega)
    have hg := hget j hlt
    generalize hq : k + 5 * (j : Int) = q at hg ⊢
    have b1 : 0 ≤ q := by omega
    have b2 : q ≤ 1099511627776 := by omega
    have b3 : 0 ≤ q + 4 := by omega
    have b4 : q + 4 ≤ 1099511627776 := by omega
    have w1 : IntKind.wrap .i64 (q + 1) = q + 1 := wrap_id (by omega) (by omega)
    have w2 : IntKind.wrap .i64 (q + 1 + 1) = q + 2 := by rw [wrap_id (by omega) (by omega)]; omega
    have w3 : IntKind.wrap .i64 (q + 2 + 1) = q + 3 := by rw [wrap_id (by omega) (by omega)]; omega
    have w4 : IntKind.wrap .i64 (q + 3 + 1) = q + 4 := by rw [wrap_id (by omega) (by omega)]; omega
    have w5 : IntKind.wrap .i64 (q + 4 + 1) = q + 5 := by rw [wrap_id (by omega) (by omega)]; omega
    simp [hlt, hw, hml, hg, mkN, b1, b2, b3, b4, w1, w2, w3, w4, w5]
    exact ⟨j + 1, by omega, by omega, by omega, by omega⟩
  · have : j = l.length := by omega
    subst this
    simp [hml]
@[simp] theorem c_heldNeedS (l : List PNeed) (k : Int) (h1 : 0 ≤ k) (h2 : k + 5 * l.length ≤ 1000000000000) (hl : 56 * l.length ≤ 140737488355328) {K : List X → List X → Prop} :
    callK E 27 [.d (.sl 5 (List.map encNeed (mixN k l l.length))) none, .d (.v (.int .i64 k)) none] K = K [.d (.v (.int .i64 (k + 5 * l.length))) none] [.u, .u] := callK_of (r_heldNeedS l k h1 h2 hl)

noncomputable def mkE (k : Int) (x : PEntry) : PEntry := ⟨mt k, k + 1, k + 2, k + 3, mt (k + 4), mixN (k + 5) x.f5 x.f5.length⟩
noncomputable def mixE (k : Int) (l : List PEntry) (j : Nat) : List PEntry := (l.take j).mapIdx (fun i x => mkE (k + 5 * (wtE (l.take i) : Int)) x) ++ l.drop j

theorem mixE_len (k : Int) (l : List PEntry) {j : Nat} (h : j ≤ l.length) : (mixE k l j).length = l.length := by simp [mixE]; omega
theorem mixE_zero (k : Int) (l : List PEntry) : mixE k l 0 = l := by simp [mixE]
theorem mixE_get (k : Int) (l : List PEntry) {j : Nat} (h : j < l.length) (h' : j < (mixE k l j).length) : (mixE k l j)[j] = l[j] := by
  simp only [mixE]
  have hm : min j l.length = j := by omega
  rw [List.getElem_append_right (by simp; omega)]
  simp [hm]
theorem mixE_set (k : Int) (l : List PEntry) {j : Nat} (h : j < l.length) : (mixE k l j).set j (mkE (k + 5 * (wtE (l.take j) : Int)) l[j]) = mixE k l (j + 1) := by
  unfold mixE
  rw [List.set_append_right _ _ (by simp; omega)]
  simp only [List.length_mapIdx, List.length_take, Nat.min_eq_left (Nat.le_of_lt h), Nat.sub_self]
  rw [List.drop_eq_getElem_cons h, List.set_cons_zero, List.take_add_one, List.getElem?_eq_getElem h, Option.toList_some, List.mapIdx_append]
  simp [Nat.min_eq_left (Nat.le_of_lt h)]

theorem wtE_le (l : List PEntry) (j : Nat) : wtE (l.take j) ≤ wtE l := by
  have : wtE l = wtE (l.take j) + wtE (l.drop j) := by
    unfold wtE
    rw [← List.sum_append, ← List.map_append, List.take_append_drop]
  omega

theorem r_markEntryS (l : List PEntry) (k : Int) (h1 : 0 ≤ k) (h2 : k + 5 * wtE l ≤ 1000000000000) (hl : 80 * l.length ≤ 140737488355328) (hok : PEntry.okL l) :
    Runs E 25 [.d (.sl 6 (List.map encEntry l)) none, .d (.v (.int .i64 k)) none] [.d (.v (.int .i64 (k + 5 * wtE l))) none] [.d (.sl 6 (List.map encEntry (mixE k l l.length))) none, .u] := by
  refine runs_of [] rfl Try.func25 rfl pk_25 rfl rfl ?_
  simp
  refine loop_by (fun j : Nat => [(0, .d (.sl 6 (List.map encEntry (mixE k l j))) none), (1, .d (.v (.int .i64 (k + 5 * wtE (l.take j)))) none), (5, .d (.v (.int .i64 j)) none)]) (fun j => j ≤ l.length) (fun j => l.length - j) 0 (Nat.zero_le _) ?_ ?_
  · simp [mixE_zero, wtE]
  intro j hj
  have hml := mixE_len k l hj
  have hwl := wtE_le l j
  by_cases hlt : j < l.length
  · have hw := wrap_nat (k := j) (by omega)
    have hs := mixE_set k l hlt
    have hg := mixE_get k l hlt
    have ht := wtE_take l hlt
    have hwl2 := wtE_le l (j + 1)
    have g0 : 56 * List.length l[j].f5 ≤ 140737488355328 := hok l[j] (List.getElem_mem hlt)
    generalize hm : mixE k l j = m at hml hs hg ⊢
    generalize hq : k + 5 * (wtE (l.take j) : Int) = q at hs ⊢
    have b1 : 0 ≤ q := by omega
    have b2 : q ≤ 1099511627776 := by omega
    have b3 : 0 ≤ q + 4 := by omega
    have b4 : q + 4 ≤ 1099511627776 := by omega
    have b5 : 0 ≤ q + 5 := by omega
    have b6 : q + 5 + 5 * l[j].f5.length ≤ 1000000000000 := by omega
    have w1 : IntKind.wrap .i64 (q + 1) = q + 1 := wrap_id (by omega) (by omega)
    have w2 : IntKind.wrap .i64 (q + 1 + 1) = q + 2 := by rw [wrap_id (by omega) (by omega)]; omega
    have w3 : IntKind.wrap .i64 (q + 2 + 1) = q + 3 := by rw [wrap_id (by omega) (by omega)]; omega
    have w4 : IntKind.wrap .i64 (q + 3 + 1) = q + 4 := by rw [wrap_id (by omega) (by omega)]; omega
    have w5 : IntKind.wrap .i64 (q + 4 + 1) = q + 5 := by rw [wrap_id (by omega) (by omega)]; omega
    simp [hlt, hw, hml, hg, g0, b1, b2, b3, b4, b5, b6, w1, w2, w3, w4, w5]
    refine ⟨j + 1, by omega, by omega, ?_, by omega, by omega⟩
    rw [← hs, List.map_set]
    rfl
  · have : j = l.length := by omega
    subst this
    simp [hml]
@[simp] theorem c_markEntryS (l : List PEntry) (k : Int) (h1 : 0 ≤ k) (h2 : k + 5 * wtE l ≤ 1000000000000) (hl : 80 * l.length ≤ 140737488355328) (hok : PEntry.okL l) {K : List X → List X → Prop} :
    callK E 25 [.d (.sl 6 (List.map encEntry l)) none, .d (.v (.int .i64 k)) none] K = K [.d (.v (.int .i64 (k + 5 * wtE l))) none] [.d (.sl 6 (List.map encEntry (mixE k l l.length))) none, .u] := callK_of (r_markEntryS l k h1 h2 hl hok)
end Go.Proofs.Ytfgaikcoodagiaa

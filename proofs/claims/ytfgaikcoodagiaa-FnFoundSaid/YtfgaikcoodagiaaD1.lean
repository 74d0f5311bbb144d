/- Draws: the cursor, and what is drawn by it. -/
import Derived.Test.YtfgaikcoodagiaaS2
import Derived.Test.YtfgaikcoodagiaaEv5
set_option linter.all false
namespace Go.Proofs.Ytfgaikcoodagiaa
open Go.Ev
set_option maxRecDepth 20000
set_option linter.unusedVariables false
set_option linter.unusedSimpArgs false

theorem r_l1New (b : List Int) (hl : b.length ≤ 140737488355328) : ∃ h : Int, Runs E 50 [.d (.sl 1 (List.map encB b)) none] [.box [.sl 1 (List.map encB b), .v (.int .i64 0), .v (.int .i64 h)]] [.u] := by
  refine runs_ex [] (fun h : Int => [.box [.sl 1 (List.map encB b), .v (.int .i64 0), .v (.int .i64 h)]]) rfl Try.func50 rfl pk_50 rfl rfl ?_
  simp
  refine loop_by (fun p : Nat × Int => [(0, .d (.sl 1 (List.map encB b)) none), (3, .d (.v (.int .i64 p.2)) none), (4, .d (.v (.int .i64 p.1)) none)]) (fun p => p.1 ≤ b.length) (fun p => b.length - p.1) (0, IntKind.wrap .i64 (372372 + b.length)) (Nat.zero_le _) ?_ ?_
  · simp
  rintro ⟨k, h⟩ hk
  simp only at hk
  by_cases hlt : k < b.length
  · have hw := wrap_nat (k := k) (by omega)
    by_cases h4 : (k : Int) < 4000
    · simp [hlt, h4, hw]
      exact ⟨k + 1, by omega, by omega, by simp⟩
    · simp [hlt, h4, hw]
  · simp [hlt]
noncomputable def nwH (b : List Int) : Int := chq fun h => Runs E 50 [.d (.sl 1 (List.map encB b)) none] [.box [.sl 1 (List.map encB b), .v (.int .i64 0), .v (.int .i64 h)]] [.u]
@[simp] theorem c_l1New (b : List Int) (hl : b.length ≤ 140737488355328) {K : List X → List X → Prop} : callK E 50 [.d (.sl 1 (List.map encB b)) none] K = K [.box [.sl 1 (List.map encB b), .v (.int .i64 (0 : Nat)), .v (.int .i64 (nwH b))]] [.u] := callK_of (chq_spec (r_l1New b hl))

theorem r_l1Byte (b : List Int) (i : Nat) (h : Int) (hl : b.length ≤ 140737488355328) (hi : i ≤ b.length) : ∃ q : {q : Nat × Nat × Int // q.1 ≤ 255 ∧ q.2.1 ≤ b.length}, Runs E 90 [.box [.sl 1 (List.map encB b), .v (.int .i64 i), .v (.int .i64 h)]] [.d (.v (.int .i64 q.1.1)) none] [.box [.sl 1 (List.map encB b), .v (.int .i64 q.1.2.1), .v (.int .i64 q.1.2.2)]] := by
  refine runs_ey [(2, [13, 14, 15, 16, 17, 18, 19, 20, 21, 22]), (3, [25, 26, 27, 28, 29, 30, 31, 32, 33]), (4, [35, 36, 37, 38, 39, 40, 41, 42, 43, 44, 45, 46])] (fun q : {q : Nat × Nat × Int // q.1 ≤ 255 ∧ q.2.1 ≤ b.length} => [.d (.v (.int .i64 q.1.1)) none]) (fun q => [.box [.sl 1 (List.map encB b), .v (.int .i64 q.1.2.1), .v (.int .i64 q.1.2.2)]]) rfl Try.func90 rfl pk_90 rfl rfl ?_
  simp
  by_cases hc : i < b.length
  · have hw := wrap_nat (k := i) (by omega)
    simp [hc, hw]
    obtain ⟨m, h1, h2⟩ := and255 _
    exact ⟨m, h2, i + 1, by simp, h1, by omega⟩
  · simp [hc]
    obtain ⟨m, h1, h2⟩ := and255 _
    exact ⟨m, h2, i, rfl, h1, hi⟩

noncomputable def byQ (b : List Int) (i : Nat) (h : Int) : Nat × Nat × Int := chq fun q => q.1 ≤ 255 ∧ q.2.1 ≤ b.length ∧ Runs E 90 [.box [.sl 1 (List.map encB b), .v (.int .i64 i), .v (.int .i64 h)]] [.d (.v (.int .i64 q.1)) none] [.box [.sl 1 (List.map encB b), .v (.int .i64 q.2.1), .v (.int .i64 q.2.2)]]
theorem byQ_spec {b : List Int} {i : Nat} {h : Int} (hl : b.length ≤ 140737488355328) (hi : i ≤ b.length) : (byQ b i h).1 ≤ 255 ∧ (byQ b i h).2.1 ≤ b.length ∧ Runs E 90 [.box [.sl 1 (List.map encB b), .v (.int .i64 i), .v (.int .i64 h)]] [.d (.v (.int .i64 (byQ b i h).1)) none] [.box [.sl 1 (List.map encB b), .v (.int .i64 (byQ b i h).2.1), .v (.int .i64 (byQ b i h).2.2)]] := by
  refine chq_spec (P := fun q : Nat × Nat × Int => q.1 ≤ 255 ∧ q.2.1 ≤ b.length ∧ Runs E 90 [.box [.sl 1 (List.map encB b), .v (.int .i64 i), .v (.int .i64 h)]] [.d (.v (.int .i64 q.1)) none] [.box [.sl 1 (List.map encB b), .v (.int .i64 q.2.1), .v (.int .i64 q.2.2)]]) ?_
  obtain ⟨⟨q, h1, h2⟩, h3⟩ := r_l1Byte b i h hl hi
  exact ⟨q, h1, h2, h3⟩
@[simp] theorem c_l1Byte (b : List Int) (i : Nat) (h : Int) (hl : b.length ≤ 140737488355328) (hi : i ≤ b.length) {K : List X → List X → Prop} : callK E 90 [.box [.sl 1 (List.map encB b), .v (.int .i64 i), .v (.int .i64 h)]] K = K [.d (.v (.int .i64 (byQ b i h).1)) none] [.box [.sl 1 (List.map encB b), .v (.int .i64 (byQ b i h).2.1), .v (.int .i64 (byQ b i h).2.2)]] := callK_of (byQ_spec hl hi).2.2
@[simp] theorem by_le (b : List Int) (i : Nat) (h : Int) (hl : b.length ≤ 140737488355328) (hi : i ≤ b.length) : (byQ b i h).2.1 ≤ b.length := (byQ_spec hl hi).2.1

@[simp] theorem by_lt (b : List Int) (i : Nat) (h : Int) (hl : b.length ≤ 140737488355328) (hi : i ≤ b.length) : (byQ b i h).1 ≤ 255 := (byQ_spec hl hi).1

theorem tmod_lt (m : Nat) {n : Int} (h : 0 < n) : ∃ r : Nat, (m : Int).tmod n = r ∧ (r : Int) < n := by
  obtain ⟨k, rfl⟩ : ∃ k : Nat, n = k := ⟨n.toNat, by omega⟩
  have hk : m % k < k := Nat.mod_lt _ (by omega)
  exact ⟨m % k, rfl, by omega⟩

theorem r_l1Below (b : List Int) (i : Nat) (h n : Int) (hl : b.length ≤ 140737488355328) (hi : i ≤ b.length) (hn : 0 < n) : ∃ q : {q : Nat × Nat × Int // (q.1 : Int) < n ∧ q.2.1 ≤ b.length}, Runs E 53 [.box [.sl 1 (List.map encB b), .v (.int .i64 i), .v (.int .i64 h)], .d (.v (.int .i64 n)) none] [.d (.v (.int .i64 q.1.1)) none] [.box [.sl 1 (List.map encB b), .v (.int .i64 q.1.2.1), .v (.int .i64 q.1.2.2)], .u] := by
  refine runs_ey [] (fun q : {q : Nat × Nat × Int // (q.1 : Int) < n ∧ q.2.1 ≤ b.length} => [.d (.v (.int .i64 q.1.1)) none]) (fun q => [.box [.sl 1 (List.map encB b), .v (.int .i64 q.1.2.1), .v (.int .i64 q.1.2.2)], .u]) rfl Try.func53 rfl pk_53 rfl rfl ?_
  simp
  have h0 : ¬ n ≤ 0 := by omega
  have hz : ¬ n = 0 := by omega
  by_cases hc : n ≤ 256
  · simp [h0, hz, hc, hl, hi]
    obtain ⟨r, e1, e2⟩ := tmod_lt (byQ b i h).1 hn
    exact ⟨r, e1, _, rfl, e2, by_le b i h hl hi⟩
  · have k1 := by_lt b i h hl hi
    have i1 := by_le b i h hl hi
    generalize hq1 : byQ b i h = q1 at k1 i1
    have k2 := by_lt b q1.2.1 q1.2.2 hl i1
    have i2 := by_le b q1.2.1 q1.2.2 hl i1
    generalize hq2 : byQ b q1.2.1 q1.2.2 = q2 at k2 i2
    have k3 := by_lt b q2.2.1 q2.2.2 hl i2
    have i3 := by_le b q2.2.1 q2.2.2 hl i2
    generalize hq3 : byQ b q2.2.1 q2.2.2 = q3 at k3 i3
    have w1 : IntKind.i64.wrap ((q1.1 : Int) * 65536) = (q1.1 : Int) * 65536 := wrap_id (by omega) (by omega)
    have w2 : IntKind.i64.wrap ((q2.1 : Int) * 256) = (q2.1 : Int) * 256 := wrap_id (by omega) (by omega)
    have w3 : IntKind.i64.wrap ((q1.1 : Int) * 65536 + (q2.1 : Int) * 256) = (q1.1 : Int) * 65536 + (q2.1 : Int) * 256 := wrap_id (by omega) (by omega)
    have w4 : IntKind.i64.wrap ((q1.1 : Int) * 65536 + (q2.1 : Int) * 256 + q3.1) = ((q1.1 * 65536 + q2.1 * 256 + q3.1 : Nat) : Int) := by rw [wrap_id (by omega) (by omega)]; omega
    simp [h0, hz, hc, hl, hi, hq1, hq2, hq3, i1, i2, w1, w2, w3, w4]
    obtain ⟨r, e1, e2⟩ := tmod_lt (q1.1 * 65536 + q2.1 * 256 + q3.1) hn
    exact ⟨r, by simpa using e1, _, rfl, e2, i3⟩

noncomputable def bwQ (b : List Int) (i : Nat) (h n : Int) : Nat × Nat × Int := chq fun q => (q.1 : Int) < n ∧ q.2.1 ≤ b.length ∧ Runs E 53 [.box [.sl 1 (List.map encB b), .v (.int .i64 i), .v (.int .i64 h)], .d (.v (.int .i64 n)) none] [.d (.v (.int .i64 q.1)) none] [.box [.sl 1 (List.map encB b), .v (.int .i64 q.2.1), .v (.int .i64 q.2.2)], .u]
theorem bwQ_spec {b : List Int} {i : Nat} {h n : Int} (hl : b.length ≤ 140737488355328) (hi : i ≤ b.length) (hn : 0 < n) : ((bwQ b i h n).1 : Int) < n ∧ (bwQ b i h n).2.1 ≤ b.length ∧ Runs E 53 [.box [.sl 1 (List.map encB b), .v (.int .i64 i), .v (.int .i64 h)], .d (.v (.int .i64 n)) none] [.d (.v (.int .i64 (bwQ b i h n).1)) none] [.box [.sl 1 (List.map encB b), .v (.int .i64 (bwQ b i h n).2.1), .v (.int .i64 (bwQ b i h n).2.2)], .u] := by
  refine chq_spec (P := fun q : Nat × Nat × Int => (q.1 : Int) < n ∧ q.2.1 ≤ b.length ∧ Runs E 53 [.box [.sl 1 (List.map encB b), .v (.int .i64 i), .v (.int .i64 h)], .d (.v (.int .i64 n)) none] [.d (.v (.int .i64 q.1)) none] [.box [.sl 1 (List.map encB b), .v (.int .i64 q.2.1), .v (.int .i64 q.2.2)], .u]) ?_
  obtain ⟨⟨q, h1, h2⟩, h3⟩ := r_l1Below b i h n hl hi hn
  exact ⟨q, h1, h2, h3⟩
@[simp] theorem c_l1Below (b : List Int) (i : Nat) (h n : Int) (hl : b.length ≤ 140737488355328) (hi : i ≤ b.length) (hn : 0 < n) {K : List X → List X → Prop} : callK E 53 [.box [.sl 1 (List.map encB b), .v (.int .i64 i), .v (.int .i64 h)], .d (.v (.int .i64 n)) none] K = K [.d (.v (.int .i64 (bwQ b i h n).1)) none] [.box [.sl 1 (List.map encB b), .v (.int .i64 (bwQ b i h n).2.1), .v (.int .i64 (bwQ b i h n).2.2)], .u] := callK_of (bwQ_spec hl hi hn).2.2
@[simp] theorem bw_le (b : List Int) (i : Nat) (h n : Int) (hl : b.length ≤ 140737488355328) (hi : i ≤ b.length) (hn : 0 < n) : (bwQ b i h n).2.1 ≤ b.length := (bwQ_spec hl hi hn).2.1
@[simp] theorem bw_lt (b : List Int) (i : Nat) (h n : Int) (hl : b.length ≤ 140737488355328) (hi : i ≤ b.length) (hn : 0 < n) : ((bwQ b i h n).1 : Int) < n := (bwQ_spec hl hi hn).1

theorem r_l1Once (b : List Int) (i : Nat) (h n : Int) (hl : b.length ≤ 140737488355328) (hi : i ≤ b.length) (hn : 0 < n) : Runs E 52 [.box [.sl 1 (List.map encB b), .v (.int .i64 i), .v (.int .i64 h)], .d (.v (.int .i64 n)) none] [.d (.v (.bool (decide ((bwQ b i h n).1 = 0)))) none] [.box [.sl 1 (List.map encB b), .v (.int .i64 (bwQ b i h n).2.1), .v (.int .i64 (bwQ b i h n).2.2)], .u] := by
  refine runs_of [] rfl Try.func52 rfl pk_52 rfl rfl ?_
  simp [hl, hi, hn]
@[simp] theorem c_l1Once (b : List Int) (i : Nat) (h n : Int) (hl : b.length ≤ 140737488355328) (hi : i ≤ b.length) (hn : 0 < n) {K : List X → List X → Prop} : callK E 52 [.box [.sl 1 (List.map encB b), .v (.int .i64 i), .v (.int .i64 h)], .d (.v (.int .i64 n)) none] K = K [.d (.v (.bool (decide ((bwQ b i h n).1 = 0)))) none] [.box [.sl 1 (List.map encB b), .v (.int .i64 (bwQ b i h n).2.1), .v (.int .i64 (bwQ b i h n).2.2)], .u] := callK_of (r_l1Once b i h n hl hi hn)

/-- One of some strings that are told. -/
def strAt (rows : List (List D)) (k : Nat) : ByteArray := match rows[k]? with
  | some [.v (.string s)] => s
  | _ => .empty
def intAt (rows : List (List D)) (k : Nat) : Int := match rows[k]? with
  | some [.v (.int .i64 n)] => n
  | _ => 0
def strsB : List (List D) → Bool
  | [] => true
  | [.v (.string s)] :: l => decide (s.size ≤ 1000) && strsB l
  | _ => false
def intsB : List (List D) → Bool
  | [] => true
  | [.v (.int .i64 _)] :: l => intsB l
  | _ => false
theorem strsB_at : ∀ {rows : List (List D)} {k : Nat}, strsB rows = true → k < rows.length → rows[k]? = some [.v (.string (strAt rows k))] ∧ (strAt rows k).size ≤ 1000
  | [], k, _, h => by simp at h
  | row :: l, k, hs, h => by
    unfold strsB at hs
    split at hs
    · rename_i e; cases e
    · rename_i s l' e
      cases e
      simp only [Bool.and_eq_true, decide_eq_true_eq] at hs
      cases k with
      | zero => exact ⟨rfl, hs.1⟩
      | succ k =>
        have := strsB_at hs.2 (k := k) (by simpa using h)
        simpa [strAt] using this
    · cases hs
theorem intsB_nil : intsB [] = true := by simp [intsB]
theorem intsB_cons (n : Int) (l : List (List D)) : intsB ([.v (.int .i64 n)] :: l) = intsB l := by cases h : intsB l <;> simp [intsB, h]
theorem intsB_at : ∀ {rows : List (List D)} {k : Nat}, intsB rows = true → k < rows.length → rows[k]? = some [.v (.int .i64 (intAt rows k))]
  | [], k, _, h => by simp at h
  | row :: l, k, hs, h => by
    unfold intsB at hs
    split at hs
    · rename_i e; cases e
    · rename_i s l' e
      cases e
      cases k with
      | zero => rfl
      | succ k =>
        have := intsB_at hs (k := k) (by simpa using h)
        simpa [intAt] using this
    · cases hs

theorem r_l1Str (b : List Int) (i : Nat) (h : Int) (rows : List (List D)) (hl : b.length ≤ 140737488355328) (hi : i ≤ b.length) (hr : strsB rows = true) (h0 : 0 < rows.length) : Runs E 105 [.box [.sl 1 (List.map encB b), .v (.int .i64 i), .v (.int .i64 h)], .d (.sl 1 rows) none] [.d (.v (.string (strAt rows (bwQ b i h rows.length).1))) none] [.box [.sl 1 (List.map encB b), .v (.int .i64 (bwQ b i h rows.length).2.1), .v (.int .i64 (bwQ b i h rows.length).2.2)], .u] := by
  refine runs_of [] rfl Try.func105 rfl pk_105 rfl rfl ?_
  have hn : (0 : Int) < rows.length := by omega
  have hlt := bw_lt b i h rows.length hl hi hn
  have hlt' : (bwQ b i h rows.length).1 < rows.length := by omega
  obtain ⟨e1, e2⟩ := strsB_at hr hlt'
  rw [List.getElem?_eq_getElem hlt', Option.some.injEq] at e1
  simp [hl, hi, hn, h0, hlt', e1]
@[simp] theorem c_l1Str (b : List Int) (i : Nat) (h : Int) (rows : List (List D)) (hl : b.length ≤ 140737488355328) (hi : i ≤ b.length) (hr : strsB rows = true) (h0 : 0 < rows.length) {K : List X → List X → Prop} : callK E 105 [.box [.sl 1 (List.map encB b), .v (.int .i64 i), .v (.int .i64 h)], .d (.sl 1 rows) none] K = K [.d (.v (.string (strAt rows (bwQ b i h rows.length).1))) none] [.box [.sl 1 (List.map encB b), .v (.int .i64 (bwQ b i h rows.length).2.1), .v (.int .i64 (bwQ b i h rows.length).2.2)], .u] := callK_of (r_l1Str b i h rows hl hi hr h0)

theorem r_l1Int (b : List Int) (i : Nat) (h : Int) (rows : List (List D)) (hl : b.length ≤ 140737488355328) (hi : i ≤ b.length) (hr : intsB rows = true) (h0 : 0 < rows.length) : Runs E 106 [.box [.sl 1 (List.map encB b), .v (.int .i64 i), .v (.int .i64 h)], .d (.sl 1 rows) none] [.d (.v (.int .i64 (intAt rows (bwQ b i h rows.length).1))) none] [.box [.sl 1 (List.map encB b), .v (.int .i64 (bwQ b i h rows.length).2.1), .v (.int .i64 (bwQ b i h rows.length).2.2)], .u] := by
  refine runs_of [] rfl Try.func106 rfl pk_106 rfl rfl ?_
  have hn : (0 : Int) < rows.length := by omega
  have hlt := bw_lt b i h rows.length hl hi hn
  have hlt' : (bwQ b i h rows.length).1 < rows.length := by omega
  have e1 := intsB_at hr hlt'
  rw [List.getElem?_eq_getElem hlt', Option.some.injEq] at e1
  simp [hl, hi, hn, h0, hlt', e1]
@[simp] theorem c_l1Int (b : List Int) (i : Nat) (h : Int) (rows : List (List D)) (hl : b.length ≤ 140737488355328) (hi : i ≤ b.length) (hr : intsB rows = true) (h0 : 0 < rows.length) {K : List X → List X → Prop} : callK E 106 [.box [.sl 1 (List.map encB b), .v (.int .i64 i), .v (.int .i64 h)], .d (.sl 1 rows) none] K = K [.d (.v (.int .i64 (intAt rows (bwQ b i h rows.length).1))) none] [.box [.sl 1 (List.map encB b), .v (.int .i64 (bwQ b i h rows.length).2.1), .v (.int .i64 (bwQ b i h rows.length).2.2)], .u] := callK_of (r_l1Int b i h rows hl hi hr h0)

theorem bsz (a : Array UInt8) : (ByteArray.mk a).size = a.size := by cases a; rfl
theorem strAt_le {rows : List (List D)} {k : Nat} (hr : strsB rows = true) (hk : k < rows.length) : (strAt rows k).size ≤ 1000 := (strsB_at hr hk).2

/-- What a drawn path is. -/
theorem r_l4Path (b : List Int) (i : Nat) (h : Int) (hl : b.length ≤ 140737488355328) (hi : i ≤ b.length) : ∃ q : {q : ByteArray × Nat × Int // q.1.size ≤ 1000 ∧ q.2.1 ≤ b.length}, Runs E 91 [.box [.sl 1 (List.map encB b), .v (.int .i64 i), .v (.int .i64 h)]] [.d (.v (.string q.1.1)) none] [.box [.sl 1 (List.map encB b), .v (.int .i64 q.1.2.1), .v (.int .i64 q.1.2.2)]] := by
  refine runs_ey [] (fun q : {q : ByteArray × Nat × Int // q.1.size ≤ 1000 ∧ q.2.1 ≤ b.length} => [.d (.v (.string q.1.1)) none]) (fun q => [.box [.sl 1 (List.map encB b), .v (.int .i64 q.1.2.1), .v (.int .i64 q.1.2.2)]]) rfl Try.func91 rfl pk_91 rfl rfl ?_
  simp [hl, hi, strsB, bsz]
  have h1 := bw_lt b i h 6 hl hi (by omega)
  exact ⟨_, rfl, strAt_le (by simp [strsB, bsz]) (by simp; omega), bw_le b i h 6 hl hi (by omega)⟩
end Go.Proofs.Ytfgaikcoodagiaa

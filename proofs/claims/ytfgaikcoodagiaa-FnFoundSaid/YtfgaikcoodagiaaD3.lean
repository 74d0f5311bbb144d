/- Draws: versions, needs, entries. -/
import Derived.Test.YtfgaikcoodagiaaW5
import Derived.Test.YtfgaikcoodagiaaD1
import Derived.Test.YtfgaikcoodagiaaD2
set_option linter.all false
namespace Go.Proofs.Ytfgaikcoodagiaa
open Go.Ev
set_option maxRecDepth 20000
set_option linter.unusedVariables false
set_option linter.unusedSimpArgs false

theorem r_l3Draw (b : List Int) (i : Nat) (h : Int) (hl : b.length ≤ 140737488355328) (hi : i ≤ b.length) : ∃ q : {q : PVersion × Nat × Int // q.2.1 ≤ b.length}, Runs E 92 [.box [.sl 1 (List.map encB b), .v (.int .i64 i), .v (.int .i64 h)]] [.agg (encVersion q.1.1) none] [.box [.sl 1 (List.map encB b), .v (.int .i64 q.1.2.1), .v (.int .i64 q.1.2.2)]] := by
  refine runs_ey [] (fun q : {q : PVersion × Nat × Int // q.2.1 ≤ b.length} => [.agg (encVersion q.1.1) none]) (fun q => [.box [.sl 1 (List.map encB b), .v (.int .i64 q.1.2.1), .v (.int .i64 q.1.2.2)]]) rfl Try.func92 rfl pk_92 rfl rfl ?_
  have i1 := bw_le b i h 4 hl hi (by omega)
  generalize hq1 : bwQ b i h 4 = q1 at i1
  have i2 := bw_le b q1.2.1 q1.2.2 4 hl i1 (by omega)
  generalize hq2 : bwQ b q1.2.1 q1.2.2 4 = q2 at i2
  have i3 := bw_le b q2.2.1 q2.2.2 3 hl i2 (by omega)
  generalize hq3 : bwQ b q2.2.1 q2.2.2 3 = q3 at i3
  have i4 := bw_le b q3.2.1 q3.2.2 10 hl i3 (by omega)
  generalize hq4 : bwQ b q3.2.1 q3.2.2 10 = q4 at i4
  simp [hl, hi, strsB, intsB_nil, intsB_cons, bsz, hq1, hq2, hq3, hq4, i1, i2, i3]
  exact ⟨⟨⟨_, _, _, _⟩, rfl, rfl, rfl, rfl⟩, _, rfl, i4⟩
instance : Inhabited PVersion := ⟨⟨0, 0, 0, .empty⟩⟩
instance : Inhabited PNeed := ⟨⟨.empty, 0, 0, 0, .empty⟩⟩
instance : Inhabited PEntry := ⟨⟨.empty, 0, 0, 0, .empty, []⟩⟩
noncomputable def dvQ (b : List Int) (i : Nat) (h : Int) : PVersion × Nat × Int := chq fun q => q.2.1 ≤ b.length ∧ Runs E 92 [.box [.sl 1 (List.map encB b), .v (.int .i64 i), .v (.int .i64 h)]] [.agg (encVersion q.1) none] [.box [.sl 1 (List.map encB b), .v (.int .i64 q.2.1), .v (.int .i64 q.2.2)]]
theorem dvQ_spec {b : List Int} {i : Nat} {h : Int} (hl : b.length ≤ 140737488355328) (hi : i ≤ b.length) : (dvQ b i h).2.1 ≤ b.length ∧ Runs E 92 [.box [.sl 1 (List.map encB b), .v (.int .i64 i), .v (.int .i64 h)]] [.agg (encVersion (dvQ b i h).1) none] [.box [.sl 1 (List.map encB b), .v (.int .i64 (dvQ b i h).2.1), .v (.int .i64 (dvQ b i h).2.2)]] := by
  refine chq_spec (P := fun q : PVersion × Nat × Int => q.2.1 ≤ b.length ∧ Runs E 92 [.box [.sl 1 (List.map encB b), .v (.int .i64 i), .v (.int .i64 h)]] [.agg (encVersion q.1) none] [.box [.sl 1 (List.map encB b), .v (.int .i64 q.2.1), .v (.int .i64 q.2.2)]]) ?_
  obtain ⟨⟨q, h2⟩, h3⟩ := r_l3Draw b i h hl hi
  exact ⟨q, h2, h3⟩
@[simp] theorem c_l3Draw (b : List Int) (i : Nat) (h : Int) (hl : b.length ≤ 140737488355328) (hi : i ≤ b.length) {K : List X → List X → Prop} : callK E 92 [.box [.sl 1 (List.map encB b), .v (.int .i64 i), .v (.int .i64 h)]] K = K [.agg (encVersion (dvQ b i h).1) none] [.box [.sl 1 (List.map encB b), .v (.int .i64 (dvQ b i h).2.1), .v (.int .i64 (dvQ b i h).2.2)]] := callK_of (dvQ_spec hl hi).2

noncomputable def dpQ (b : List Int) (i : Nat) (h : Int) : ByteArray × Nat × Int := chq fun q => q.1.size ≤ 1000 ∧ q.2.1 ≤ b.length ∧ Runs E 91 [.box [.sl 1 (List.map encB b), .v (.int .i64 i), .v (.int .i64 h)]] [.d (.v (.string q.1)) none] [.box [.sl 1 (List.map encB b), .v (.int .i64 q.2.1), .v (.int .i64 q.2.2)]]
instance : Inhabited ByteArray := ⟨.empty⟩
theorem dpQ_spec {b : List Int} {i : Nat} {h : Int} (hl : b.length ≤ 140737488355328) (hi : i ≤ b.length) : (dpQ b i h).1.size ≤ 1000 ∧ (dpQ b i h).2.1 ≤ b.length ∧ Runs E 91 [.box [.sl 1 (List.map encB b), .v (.int .i64 i), .v (.int .i64 h)]] [.d (.v (.string (dpQ b i h).1)) none] [.box [.sl 1 (List.map encB b), .v (.int .i64 (dpQ b i h).2.1), .v (.int .i64 (dpQ b i h).2.2)]] := by
  refine chq_spec (P := fun q : ByteArray × Nat × Int => q.1.size ≤ 1000 ∧ q.2.1 ≤ b.length ∧ Runs E 91 [.box [.sl 1 (List.map encB b), .v (.int .i64 i), .v (.int .i64 h)]] [.d (.v (.string q.1)) none] [.box [.sl 1 (List.map encB b), .v (.int .i64 q.2.1), .v (.int .i64 q.2.2)]]) ?_
  obtain ⟨⟨q, h1, h2⟩, h3⟩ := r_l4Path b i h hl hi
  exact ⟨q, h1, h2, h3⟩
@[simp] theorem c_l4Path (b : List Int) (i : Nat) (h : Int) (hl : b.length ≤ 140737488355328) (hi : i ≤ b.length) {K : List X → List X → Prop} : callK E 91 [.box [.sl 1 (List.map encB b), .v (.int .i64 i), .v (.int .i64 h)]] K = K [.d (.v (.string (dpQ b i h).1)) none] [.box [.sl 1 (List.map encB b), .v (.int .i64 (dpQ b i h).2.1), .v (.int .i64 (dpQ b i h).2.2)]] := callK_of (dpQ_spec hl hi).2.2

theorem r_l5Need (b : List Int) (i : Nat) (h : Int) (hl : b.length ≤ 140737488355328) (hi : i ≤ b.length) : ∃ q : {q : PNeed × Nat × Int // q.1.f0.size ≤ 1000 ∧ q.2.1 ≤ b.length}, Runs E 54 [.box [.sl 1 (List.map encB b), .v (.int .i64 i), .v (.int .i64 h)]] [.agg (encNeed q.1.1) none] [.box [.sl 1 (List.map encB b), .v (.int .i64 q.1.2.1), .v (.int .i64 q.1.2.2)]] := by
  refine runs_ey [] (fun q : {q : PNeed × Nat × Int // q.1.f0.size ≤ 1000 ∧ q.2.1 ≤ b.length} => [.agg (encNeed q.1.1) none]) (fun q => [.box [.sl 1 (List.map encB b), .v (.int .i64 q.1.2.1), .v (.int .i64 q.1.2.2)]]) rfl Try.func54 rfl pk_54 rfl rfl ?_
  obtain ⟨s1, i1, _⟩ := dpQ_spec (h := h) hl hi
  obtain ⟨p1, hp1⟩ : ∃ p, dpQ b i h = p := ⟨_, rfl⟩
  rw [hp1] at s1 i1
  obtain ⟨i2, _⟩ := dvQ_spec (h := p1.2.2) hl i1
  obtain ⟨p2, hp2⟩ : ∃ p, dvQ b p1.2.1 p1.2.2 = p := ⟨_, rfl⟩
  rw [hp2] at i2
  by_cases hm : majQ p1.1 = 1
  · simp [hl, hi, hp1, hp2, s1, i1, i2, hm]
    have i3 := bw_le b p2.2.1 p2.2.2 4 hl i2 (by omega)
    refine cond_by (fun h => ?_) (fun h => ?_)
    · simp
      exact ⟨⟨_, _, _, _, _⟩, ⟨rfl, rfl, rfl, rfl, rfl⟩, _, rfl, s1, i3⟩
    · simp
      exact ⟨⟨_, _, _, _, _⟩, ⟨rfl, rfl, rfl, rfl, rfl⟩, _, rfl, s1, i3⟩
  · simp [hl, hi, hp1, hp2, s1, i1, i2, hm]
    exact ⟨⟨_, _, _, _, _⟩, ⟨rfl, rfl, rfl, rfl, rfl⟩, _, rfl, s1, i2⟩
noncomputable def dnQ (b : List Int) (i : Nat) (h : Int) : PNeed × Nat × Int := chq fun q => q.1.f0.size ≤ 1000 ∧ q.2.1 ≤ b.length ∧ Runs E 54 [.box [.sl 1 (List.map encB b), .v (.int .i64 i), .v (.int .i64 h)]] [.agg (encNeed q.1) none] [.box [.sl 1 (List.map encB b), .v (.int .i64 q.2.1), .v (.int .i64 q.2.2)]]
theorem dnQ_spec {b : List Int} {i : Nat} {h : Int} (hl : b.length ≤ 140737488355328) (hi : i ≤ b.length) : (dnQ b i h).1.f0.size ≤ 1000 ∧ (dnQ b i h).2.1 ≤ b.length ∧ Runs E 54 [.box [.sl 1 (List.map encB b), .v (.int .i64 i), .v (.int .i64 h)]] [.agg (encNeed (dnQ b i h).1) none] [.box [.sl 1 (List.map encB b), .v (.int .i64 (dnQ b i h).2.1), .v (.int .i64 (dnQ b i h).2.2)]] := by
  refine chq_spec (P := fun q : PNeed × Nat × Int => q.1.f0.size ≤ 1000 ∧ q.2.1 ≤ b.length ∧ Runs E 54 [.box [.sl 1 (List.map encB b), .v (.int .i64 i), .v (.int .i64 h)]] [.agg (encNeed q.1) none] [.box [.sl 1 (List.map encB b), .v (.int .i64 q.2.1), .v (.int .i64 q.2.2)]]) ?_
  obtain ⟨⟨q, h1, h2⟩, h3⟩ := r_l5Need b i h hl hi
  exact ⟨q, h1, h2, h3⟩
@[simp] theorem c_l5Need (b : List Int) (i : Nat) (h : Int) (hl : b.length ≤ 140737488355328) (hi : i ≤ b.length) {K : List X → List X → Prop} : callK E 54 [.box [.sl 1 (List.map encB b), .v (.int .i64 i), .v (.int .i64 h)]] K = K [.agg (encNeed (dnQ b i h).1) none] [.box [.sl 1 (List.map encB b), .v (.int .i64 (dnQ b i h).2.1), .v (.int .i64 (dnQ b i h).2.2)]] := callK_of (dnQ_spec hl hi).2.2

theorem r_l5Put (l : List PNeed) (a0 : ByteArray) (a1 a2 a3 : Int) (a4 : ByteArray) (hl : l.length ≤ 1000000) : ∃ q : {q : List PNeed // q.length ≤ l.length + 1}, Runs E 89 [.d (.sl 5 (List.map encNeed l)) none, .agg [.v (.string a0), .v (.int .i64 a1), .v (.int .i64 a2), .v (.int .i64 a3), .v (.string a4)] none] [.d (.sl 5 (List.map encNeed q.1)) none] [.u, .u] := by
  refine runs_ex [(6, [15, 16, 17, 18, 19, 20, 21, 22, 23, 24]), (9, [31, 32, 33, 34, 35, 36, 37])] (fun q : {q : List PNeed // q.length ≤ l.length + 1} => [.d (.sl 5 (List.map encNeed q.1)) none]) rfl Try.func89 rfl pk_89 rfl rfl ?_
  simp
  refine loop_by (fun p : Nat × List PNeed × Bool => [(0, .d (.sl 5 (List.map encNeed l)) none), (3, .box [.v (.string a0), .v (.int .i64 a1), .v (.int .i64 a2), .v (.int .i64 a3), .v (.string a4)]), (5, .d (.sl 5 (List.map encNeed p.2.1)) none), (6, .d (.v (.bool p.2.2)) none), (7, .d (.v (.int .i64 p.1)) none)])
    (fun p => p.1 ≤ l.length ∧ p.2.1.length ≤ p.1 + (if p.2.2 then 1 else 0)) (fun p => l.length - p.1) (0, [], false) ⟨by simp, by simp⟩ ?_ ?_
  · simp
  rintro ⟨k, out, put⟩ ⟨h1, h2⟩
  simp only at h1 h2
  by_cases hlt : k < l.length
  · have hw := wrap_nat (k := k) (by omega)
    cases put with
    | true =>
      simp only [if_true] at h2
      by_cases hq : l[k].f0 = a0
      · simp [hlt, hw, hq]
        exact ⟨k + 1, out, ⟨by omega, by omega⟩, by omega, rfl, by simp⟩
      · simp [hlt, hw, hq]
        exact ⟨by simp only [memRoom, strRoom]; omega, k + 1, out ++ [l[k]], ⟨by omega, by simp; omega⟩, by omega, by simp, by simp⟩
    | false =>
      simp only [Bool.false_eq_true, if_false, Nat.add_zero] at h2
      by_cases hq : l[k].f0 = a0
      · simp [hlt, hw]
        refine cond_by (fun h => ?_) (fun h => ?_)
        · simp [hlt, hw, hq]
          exact ⟨by simp only [memRoom, strRoom]; omega, k + 1, out ++ [⟨a0, a1, a2, a3, a4⟩], ⟨by omega, by simp; omega⟩, by omega, by simp, by simp⟩
        · simp [hlt, hw, hq]
          exact ⟨k + 1, out, ⟨by omega, by omega⟩, by omega, rfl, by simp⟩
      · simp [hlt, hw]
        refine cond_by (fun h => ?_) (fun h => ?_)
        · simp [hlt, hw, hq]
          exact ⟨by simp only [memRoom, strRoom]; omega, by simp only [memRoom, strRoom]; omega, k + 1, out ++ [⟨a0, a1, a2, a3, a4⟩, l[k]], ⟨by omega, by simp; omega⟩, by omega, by simp, by simp⟩
        · simp [hlt, hw, hq]
          exact ⟨by simp only [memRoom, strRoom]; omega, k + 1, out ++ [l[k]], ⟨by omega, by simp; omega⟩, by omega, by simp, by simp⟩
  · have hkl : k = l.length := by omega
    cases put with
    | true =>
      simp only [if_true] at h2
      simp [hlt]
      exact ⟨out, by omega, rfl⟩
    | false =>
      simp only [Bool.false_eq_true, if_false, Nat.add_zero] at h2
      simp [hlt]
      exact ⟨by simp only [memRoom, strRoom]; omega, out ++ [⟨a0, a1, a2, a3, a4⟩], by simp; omega, by simp⟩
noncomputable def puQ (l : List PNeed) (n : PNeed) : List PNeed := chq fun q => q.length ≤ l.length + 1 ∧ Runs E 89 [.d (.sl 5 (List.map encNeed l)) none, .agg [.v (.string n.f0), .v (.int .i64 n.f1), .v (.int .i64 n.f2), .v (.int .i64 n.f3), .v (.string n.f4)] none] [.d (.sl 5 (List.map encNeed q)) none] [.u, .u]
theorem puQ_spec (l : List PNeed) (n : PNeed) (hl : l.length ≤ 1000000) : (puQ l n).length ≤ l.length + 1 ∧ Runs E 89 [.d (.sl 5 (List.map encNeed l)) none, .agg [.v (.string n.f0), .v (.int .i64 n.f1), .v (.int .i64 n.f2), .v (.int .i64 n.f3), .v (.string n.f4)] none] [.d (.sl 5 (List.map encNeed (puQ l n))) none] [.u, .u] := by
  refine chq_spec (P := fun q : List PNeed => q.length ≤ l.length + 1 ∧ Runs E 89 [.d (.sl 5 (List.map encNeed l)) none, .agg [.v (.string n.f0), .v (.int .i64 n.f1), .v (.int .i64 n.f2), .v (.int .i64 n.f3), .v (.string n.f4)] none] [.d (.sl 5 (List.map encNeed q)) none] [.u, .u]) ?_
  obtain ⟨⟨q, h1⟩, h3⟩ := r_l5Put l n.f0 n.f1 n.f2 n.f3 n.f4 hl
  exact ⟨q, h1, h3⟩
@[simp] theorem c_l5Put (l : List PNeed) (a0 : ByteArray) (a1 a2 a3 : Int) (a4 : ByteArray) (hl : l.length ≤ 1000000) {K : List X → List X → Prop} : callK E 89 [.d (.sl 5 (List.map encNeed l)) none, .agg [.v (.string a0), .v (.int .i64 a1), .v (.int .i64 a2), .v (.int .i64 a3), .v (.string a4)] none] K = K [.d (.sl 5 (List.map encNeed (puQ l ⟨a0, a1, a2, a3, a4⟩))) none] [.u, .u] := callK_of (puQ_spec l ⟨a0, a1, a2, a3, a4⟩ hl).2

@[simp] theorem c_l15At_nil (p : ByteArray) (a b c : Int) (s : ByteArray) {K : List X → List X → Prop} :
    callK E 57 [.d (.sl 6 []) none, .d (.v (.string p)) none, .agg [.v (.int .i64 a), .v (.int .i64 b), .v (.int .i64 c), .v (.string s)] none] K = K [.d (.v (.int .i64 (-1))) none] [.u, .u, .u] := callK_of (r_l15At [] p a b c s (by simp))

def okD (e : PEntry) : Prop := e.f5.length ≤ 10
set_option maxHeartbeats 1000000 in
theorem r_l15Draw (b : List Int) (i : Nat) (h : Int) (hl : b.length ≤ 140737488355328) (hi : i ≤ b.length) : ∃ q : {q : List PEntry × Nat × Int // q.1.length ≤ 8 ∧ 0 < q.1.length ∧ (∀ e ∈ q.1, okD e) ∧ q.2.1 ≤ b.length}, Runs E 51 [.box [.sl 1 (List.map encB b), .v (.int .i64 i), .v (.int .i64 h)]] [.d (.sl 6 (List.map encEntry q.1.1)) none] [.box [.sl 1 (List.map encB b), .v (.int .i64 q.1.2.1), .v (.int .i64 q.1.2.2)]] := by
  refine runs_ey [] (fun q : {q : List PEntry × Nat × Int // q.1.length ≤ 8 ∧ 0 < q.1.length ∧ (∀ e ∈ q.1, okD e) ∧ q.2.1 ≤ b.length} => [.d (.sl 6 (List.map encEntry q.1.1)) none]) (fun q => [.box [.sl 1 (List.map encB b), .v (.int .i64 q.1.2.1), .v (.int .i64 q.1.2.2)]]) rfl Try.func51 rfl pk_51 rfl rfl ?_
  have i1 := bw_le b i h 7 hl hi (by omega)
  have k1 := bw_lt b i h 7 hl hi (by omega)
  obtain ⟨q1, hq1⟩ : ∃ p, bwQ b i h 7 = p := ⟨_, rfl⟩
  rw [hq1] at i1 k1
  have hw0 : IntKind.i64.wrap (2 + (q1.1 : Int)) = ((2 + q1.1 : Nat) : Int) := by rw [wrap_id (by omega) (by omega)]; omega
  simp [hl, hi, hq1, hw0]
  refine loop_by (fun p : Nat × List PEntry × Nat × Int => [(0, .box [.sl 1 (List.map encB b), .v (.int .i64 p.2.2.1), .v (.int .i64 p.2.2.2)]), (3, .d (.sl 6 (List.map encEntry p.2.1)) none), (4, .d (.v (.int .i64 p.1)) none)])
    (fun p => p.1 + p.2.1.length ≤ 8 ∧ (p.2.1 = [] → 0 < p.1) ∧ (∀ e ∈ p.2.1, okD e) ∧ p.2.2.1 ≤ b.length) (fun p => p.1) (2 + q1.1, [], q1.2.1, q1.2.2) ⟨by simp; omega, by simp; omega, by simp, i1⟩ ?_ ?_
  · simp
  rintro ⟨m, out, j, g⟩ ⟨h1, h2, h3, h4⟩
  simp only at h1 h2 h3 h4
  cases m with
  | zero =>
    simp
    exact ⟨out, rfl, j, rfl, by omega, (by cases out with | nil => exact absurd (h2 rfl) (by omega) | cons a l => simp), h3, h4⟩
  | succ m =>
    have hwm : IntKind.i64.wrap (((m + 1 : Nat) : Int) - 1) = m := by rw [wrap_id (by omega) (by omega)]; omega
    have hpos : (0 : Int) < ((m + 1 : Nat) : Int) := by omega
    obtain ⟨s2, i2, _⟩ := dnQ_spec (h := g) hl h4
    obtain ⟨q2, hq2⟩ : ∃ p, dnQ b j g = p := ⟨_, rfl⟩
    rw [hq2] at s2 i2
    have i3 := bw_le b q2.2.1 q2.2.2 3 hl i2 (by omega)
    have k3 := bw_lt b q2.2.1 q2.2.2 3 hl i2 (by omega)
    obtain ⟨q3, hq3⟩ : ∃ p, bwQ b q2.2.1 q2.2.2 3 = p := ⟨_, rfl⟩
    rw [hq3] at i3 k3
    simp [hl, hpos, h4, hq2, hq3, i2, i3]
    refine loop_by (fun p : Nat × List PNeed × Nat × Int => [(0, .box [.sl 1 (List.map encB b), .v (.int .i64 p.2.2.1), .v (.int .i64 p.2.2.2)]), (3, .d (.sl 6 (List.map encEntry out)) none), (4, .d (.v (.int .i64 ((m + 1 : Nat) : Int))) none),
        (6, .box [.v (.string q2.1.f0), .v (.int .i64 q2.1.f1), .v (.int .i64 q2.1.f2), .v (.int .i64 q2.1.f3), .v (.string .empty), .sl 5 (List.map encNeed p.2.1)]), (7, .d (.v (.int .i64 p.1)) none)])
      (fun p => p.1 + p.2.1.length ≤ 3 ∧ p.2.2.1 ≤ b.length) (fun p => p.1) (q3.1, [], q3.2.1, q3.2.2) ⟨by simp; omega, i3⟩ ?_ ?_
    · simp
      rfl
    rintro ⟨kk, nd, j2, g2⟩ ⟨n1, n2⟩
    simp only at n1 n2
    by_cases hk : 0 < kk ∧ 0 < out.length
    · obtain ⟨hk, ho⟩ := hk
      have hwk : IntKind.i64.wrap ((kk : Int) - 1) = ((kk - 1 : Nat) : Int) := by rw [wrap_id (by omega) (by omega)]; omega
      have i4 := bw_le b j2 g2 out.length hl n2 (by omega)
      have k4 := bw_lt b j2 g2 out.length hl n2 (by omega)
      obtain ⟨q4, hq4⟩ : ∃ p, bwQ b j2 g2 out.length = p := ⟨_, rfl⟩
      rw [hq4] at i4 k4
      have hlt : q4.1 < out.length := by omega
      by_cases he : out[q4.1].f0 = q2.1.f0
      · simp [hl, hk, hwk, ho, n2, hq4, hlt, he]
        exact ⟨kk - 1, nd, q4.2.1, ⟨by omega, i4⟩, by omega, rfl, rfl, rfl⟩
      · have hnd : nd.length ≤ 1000000 := by omega
        have hpu := (puQ_spec nd ⟨out[q4.1].f0, out[q4.1].f1, out[q4.1].f2, out[q4.1].f3, out[q4.1].f4⟩ hnd).1
        simp [hl, hk, hwk, ho, n2, hq4, hlt, he, hnd]
        exact ⟨kk - 1, _, q4.2.1, ⟨by omega, i4⟩, by omega, rfl, rfl, rfl⟩
    · have i5 := bw_le b j2 g2 12 hl n2 (by omega)
      obtain ⟨q5, hq5⟩ : ∃ p, bwQ b j2 g2 12 = p := ⟨_, rfl⟩
      rw [hq5] at i5
      have hb80 : 80 * out.length ≤ 140737488355328 := by omega
      have hwm' : IntKind.i64.wrap (m : Int) = m := wrap_id (by omega) (by omega)
      have hnd : nd.length ≤ 1000000 := by omega
      have fin1 : ∀ (nd' : List PNeed) (j' : Nat), nd'.length ≤ 4 → j' ≤ b.length → ((out.length + 1) * 80 ≤ memRoom ∧ out.length + 1 ≤ strRoom) ∧ ∃ a a_1 a_2,
          (a + a_1.length ≤ 8 ∧ (a_1 = [] → 0 < a) ∧ (∀ (e : PEntry), e ∈ a_1 → okD e) ∧ a_2 ≤ b.length) ∧ a < m + 1 ∧ (j' : Int) = (a_2 : Nat) ∧
            List.map encEntry out ++ [[D.v (.string q2.1.f0), D.v (.int .i64 q2.1.f1), D.v (.int .i64 q2.1.f2), D.v (.int .i64 q2.1.f3), D.v (.string .empty), D.sl 5 (List.map encNeed nd')]] = List.map encEntry a_1 ∧ (m : Int) = (a : Nat) := by
        intro nd' j' e1 e2
        refine ⟨by simp only [memRoom, strRoom]; omega, m, out ++ [⟨q2.1.f0, q2.1.f1, q2.1.f2, q2.1.f3, .empty, nd'⟩], j', ⟨by simp; omega, by simp, ?_, e2⟩, by omega, rfl, by simp, rfl⟩
        intro e he
        rcases List.mem_append.1 he with he | he
        · exact h3 e he
        · simp only [List.mem_singleton] at he
          subst he
          show nd'.length ≤ 10
          omega
      have fin0 : ∀ j' : Nat, j' ≤ b.length → ¬ at? (isE q2.1.f0 q2.1.f1 q2.1.f2 q2.1.f3 .empty) out < 0 → ∃ a a_1 a_2,
          (a + a_1.length ≤ 8 ∧ (a_1 = [] → 0 < a) ∧ (∀ (e : PEntry), e ∈ a_1 → okD e) ∧ a_2 ≤ b.length) ∧ a < m + 1 ∧ (j' : Int) = (a_2 : Nat) ∧ List.map encEntry out = List.map encEntry a_1 ∧ (m : Int) = (a : Nat) := by
        intro j' e1 e2
        refine ⟨m, out, j', ⟨by omega, fun e => ?_, h3, e1⟩, by omega, rfl, rfl, rfl⟩
        subst e
        exact absurd (by simp [at?]) e2
      have hxs := dnQ_spec (h := q5.2.2) hl i5
      obtain ⟨q6, hq6⟩ : ∃ p, dnQ b q5.2.1 q5.2.2 = p := ⟨_, rfl⟩
      rw [hq6] at hxs
      obtain ⟨s6, i6, _⟩ := hxs
      have hpu := (puQ_spec nd ⟨q6.1.f0, q6.1.f1, q6.1.f2, q6.1.f3, q6.1.f4⟩ hnd).1
      rcases (by omega : kk = 0 ∨ (0 < kk ∧ out.length = 0)) with rfl | ⟨hk1, ho⟩
      · simp [hl, n2, hq5]
        refine cond_by (fun hh => ?_) (fun hh => ?_)
        · by_cases he : q6.1.f0 = q2.1.f0
          · by_cases ha : at? (isE q2.1.f0 q2.1.f1 q2.1.f2 q2.1.f3 .empty) out < 0
            · simp [hl, i5, hq6, he, hb80, ha, hwm']
              exact fin1 _ _ (by omega) i6
            · simp [hl, i5, hq6, he, hb80, ha, hwm']
              exact fin0 _ i6 ha
          · by_cases ha : at? (isE q2.1.f0 q2.1.f1 q2.1.f2 q2.1.f3 .empty) out < 0
            · simp [hl, i5, hq6, he, hb80, ha, hwm', hnd]
              exact fin1 _ _ (by omega) i6
            · simp [hl, i5, hq6, he, hb80, ha, hwm', hnd]
              exact fin0 _ i6 ha
        · by_cases ha : at? (isE q2.1.f0 q2.1.f1 q2.1.f2 q2.1.f3 .empty) out < 0
          · simp [hl, i5, hb80, ha, hwm']
            exact fin1 _ _ (by omega) i5
          · simp [hl, i5, hb80, ha, hwm']
            exact fin0 _ i5 ha
      · have ho' : out = [] := List.length_eq_zero_iff.1 ho
        subst ho'
        have f1 := fin1
        simp [hl, hk1, n2, hq5]
        refine cond_by (fun hh => ?_) (fun hh => ?_)
        · by_cases he : q6.1.f0 = q2.1.f0
          · have := fin1 nd q6.2.1 (by omega) i6
            simp [hl, i5, hq6, he, hwm']
            simpa using this
          · have := fin1 (puQ nd ⟨q6.1.f0, q6.1.f1, q6.1.f2, q6.1.f3, q6.1.f4⟩) q6.2.1 (by omega) i6
            simp [hl, i5, hq6, he, hwm', hnd]
            simpa using this
        · have := fin1 nd q5.2.1 (by omega) i5
          simp [hl, i5, hwm']
          simpa using this
noncomputable def ldQ (b : List Int) (i : Nat) (h : Int) : List PEntry × Nat × Int := chq fun q => q.1.length ≤ 8 ∧ 0 < q.1.length ∧ (∀ e ∈ q.1, okD e) ∧ q.2.1 ≤ b.length ∧ Runs E 51 [.box [.sl 1 (List.map encB b), .v (.int .i64 i), .v (.int .i64 h)]] [.d (.sl 6 (List.map encEntry q.1)) none] [.box [.sl 1 (List.map encB b), .v (.int .i64 q.2.1), .v (.int .i64 q.2.2)]]
theorem ldQ_spec {b : List Int} {i : Nat} {h : Int} (hl : b.length ≤ 140737488355328) (hi : i ≤ b.length) : (ldQ b i h).1.length ≤ 8 ∧ 0 < (ldQ b i h).1.length ∧ (∀ e ∈ (ldQ b i h).1, okD e) ∧ (ldQ b i h).2.1 ≤ b.length ∧ Runs E 51 [.box [.sl 1 (List.map encB b), .v (.int .i64 i), .v (.int .i64 h)]] [.d (.sl 6 (List.map encEntry (ldQ b i h).1)) none] [.box [.sl 1 (List.map encB b), .v (.int .i64 (ldQ b i h).2.1), .v (.int .i64 (ldQ b i h).2.2)]] := by
  refine chq_spec (P := fun q : List PEntry × Nat × Int => q.1.length ≤ 8 ∧ 0 < q.1.length ∧ (∀ e ∈ q.1, okD e) ∧ q.2.1 ≤ b.length ∧ Runs E 51 [.box [.sl 1 (List.map encB b), .v (.int .i64 i), .v (.int .i64 h)]] [.d (.sl 6 (List.map encEntry q.1)) none] [.box [.sl 1 (List.map encB b), .v (.int .i64 q.2.1), .v (.int .i64 q.2.2)]]) ?_
  obtain ⟨⟨q, h1, h2, h3, h4⟩, h5⟩ := r_l15Draw b i h hl hi
  exact ⟨q, h1, h2, h3, h4, h5⟩
@[simp] theorem c_l15Draw (b : List Int) (i : Nat) (h : Int) (hl : b.length ≤ 140737488355328) (hi : i ≤ b.length) {K : List X → List X → Prop} : callK E 51 [.box [.sl 1 (List.map encB b), .v (.int .i64 i), .v (.int .i64 h)]] K = K [.d (.sl 6 (List.map encEntry (ldQ b i h).1)) none] [.box [.sl 1 (List.map encB b), .v (.int .i64 (ldQ b i h).2.1), .v (.int .i64 (ldQ b i h).2.2)]] := callK_of (ldQ_spec hl hi).2.2.2.2
end Go.Proofs.Ytfgaikcoodagiaa

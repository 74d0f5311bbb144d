/- Texts: what is asked of them is there. -/
import Derived.Test.YtfgaikcoodagiaaS2
import Derived.Test.YtfgaikcoodagiaaEv5
set_option linter.all false
namespace Go.Proofs.Ytfgaikcoodagiaa
open Go.Ev
set_option maxRecDepth 20000
set_option linter.unusedVariables false
set_option linter.unusedSimpArgs false

theorem r_l1In (x a c : Int) : Runs E 116 [.d (.v (.int .i64 x)) none, .d (.v (.int .i64 a)) none, .d (.v (.int .i64 c)) none] [.d (.v (.bool (decide (a ≤ x) && decide (x ≤ c)))) none] [.u, .u, .u] := by
  refine runs_of [] rfl Try.func116 rfl pk_116 rfl rfl ?_
  by_cases h : a ≤ x
  · simp [h]
  · simp [h]
@[simp] theorem c_l1In (x a c : Int) {K : List X → List X → Prop} : callK E 116 [.d (.v (.int .i64 x)) none, .d (.v (.int .i64 a)) none, .d (.v (.int .i64 c)) none] K = K [.d (.v (.bool (decide (a ≤ x) && decide (x ≤ c)))) none] [.u, .u, .u] := callK_of (r_l1In x a c)

theorem r_l3Digits (s : ByteArray) (hs : s.size ≤ 1000) : ∃ r : Bool, Runs E 123 [.d (.v (.string s)) none] [.d (.v (.bool r)) none] [.u] := by
  refine runs_ex [] (fun r : Bool => [.d (.v (.bool r)) none]) rfl Try.func123 rfl pk_123 rfl rfl ?_
  simp
  refine loop_by (fun k : Nat => [(0, .d (.v (.string s)) none), (3, .d (.v (.int .i64 k)) none)]) (fun k => k ≤ s.size) (fun k => s.size - k) 0 (Nat.zero_le _) ?_ ?_
  · simp
  intro k hk
  by_cases hlt : k < s.size
  · have hw := wrap_nat (k := k) (by omega)
    simp [hlt, hw]
    refine cond_by (fun h => by simp) (fun h => ?_)
    simp [hw]
    exact ⟨k + 1, by omega, by omega, by simp⟩
  · simp [hlt]
    exact Classical.em _
noncomputable def digQ (s : ByteArray) : Bool := chq fun r => Runs E 123 [.d (.v (.string s)) none] [.d (.v (.bool r)) none] [.u]
@[simp] theorem c_l3Digits (s : ByteArray) (hs : s.size ≤ 1000) {K : List X → List X → Prop} : callK E 123 [.d (.v (.string s)) none] K = K [.d (.v (.bool (digQ s))) none] [.u] := callK_of (chq_spec (r_l3Digits s hs))

theorem r_l3Number (s : ByteArray) (hs : s.size ≤ 1000) : ∃ r : Int, Runs E 115 [.d (.v (.string s)) none] [.d (.v (.int .i64 r)) none] [.u] := by
  refine runs_ex [] (fun r : Int => [.d (.v (.int .i64 r)) none]) rfl Try.func115 rfl pk_115 rfl rfl ?_
  have loop : ∀ (φ : Fr), φ 0 = .d (.v (.string s)) none → True := fun _ _ => trivial
  cases hd : digQ s with
  | false => simp [hs, hd]
  | true =>
    by_cases h8 : (8 : Int) < s.size
    · simp [hs, hd, h8]
    · by_cases h1 : (1 : Int) < s.size
      · have h0 : 0 < s.size := by omega
        simp [hs, hd, h8, h1, h0]
        refine cond_by (fun h => by simp) (fun h => ?_)
        simp
        refine loop_by (fun p : Nat × Int => [(0, .d (.v (.string s)) none), (3, .d (.v (.int .i64 p.2)) none), (4, .d (.v (.int .i64 p.1)) none)]) (fun p => p.1 ≤ s.size) (fun p => s.size - p.1) (0, 0) (Nat.zero_le _) ?_ ?_
        · simp
        rintro ⟨k, n⟩ hk
        simp only at hk
        by_cases hlt : k < s.size
        · have hw := wrap_nat (k := k) (by omega)
          simp [hlt, hw]
          exact ⟨k + 1, by omega, by omega, by simp⟩
        · simp [hlt]
      · simp [hs, hd, h8, h1]
        refine loop_by (fun p : Nat × Int => [(0, .d (.v (.string s)) none), (3, .d (.v (.int .i64 p.2)) none), (4, .d (.v (.int .i64 p.1)) none)]) (fun p => p.1 ≤ s.size) (fun p => s.size - p.1) (0, 0) (Nat.zero_le _) ?_ ?_
        · simp
        rintro ⟨k, n⟩ hk
        simp only at hk
        by_cases hlt : k < s.size
        · have hw := wrap_nat (k := k) (by omega)
          simp [hlt, hw]
          exact ⟨k + 1, by omega, by omega, by simp⟩
        · simp [hlt]
noncomputable def numQ (s : ByteArray) : Int := chq fun r => Runs E 115 [.d (.v (.string s)) none] [.d (.v (.int .i64 r)) none] [.u]
@[simp] theorem c_l3Number (s : ByteArray) (hs : s.size ≤ 1000) {K : List X → List X → Prop} : callK E 115 [.d (.v (.string s)) none] K = K [.d (.v (.int .i64 (numQ s))) none] [.u] := callK_of (chq_spec (r_l3Number s hs))

theorem r_l4Part (s : ByteArray) (hs : s.size ≤ 1000) : ∃ r : Bool, Runs E 114 [.d (.v (.string s)) none] [.d (.v (.bool r)) none] [.u] := by
  refine runs_ex [] (fun r : Bool => [.d (.v (.bool r)) none]) rfl Try.func114 rfl pk_114 rfl rfl ?_
  simp
  refine loop_by (fun k : Nat => [(0, .d (.v (.string s)) none), (3, .d (.v (.int .i64 k)) none)]) (fun k => k ≤ s.size) (fun k => s.size - k) 0 (Nat.zero_le _) ?_ ?_
  · simp
  intro k hk
  by_cases hlt : k < s.size
  · have hw := wrap_nat (k := k) (by omega)
    simp [hlt, hw]
    generalize IntKind.i64.wrap ↑s.data[k].toNat = c
    have done : ∃ p', p' ≤ s.size ∧ s.size - p' < s.size - k ∧ (k : Int) + 1 = p' := ⟨k + 1, by omega, by omega, by simp⟩
    have fin : (¬ (97 ≤ c ∧ c ≤ 122)) → (¬ (48 ≤ c ∧ c ≤ 57)) → True := fun _ _ => trivial
    by_cases a1 : 97 ≤ c ∧ c ≤ 122
    · simp [hw, a1.1, a1.2]
      exact done
    · have b1 : (decide (97 ≤ c) && decide (c ≤ 122)) = false := by simpa using a1
      by_cases a2 : 48 ≤ c ∧ c ≤ 57
      · simp [hw, b1, a2.1, a2.2]
        exact done
      · have b2 : (decide (48 ≤ c) && decide (c ≤ 57)) = false := by simpa using a2
        by_cases k0 : k = 0
        · simp [hw, b1, b2, k0]
        · by_cases d1 : c = 45
          · subst d1
            simp [hw, k0]
            exact done
          · by_cases d2 : c = 46
            · subst d2
              simp [hw, k0]
              exact done
            · by_cases d3 : c = 95
              · subst d3
                simp [hw, k0]
                exact done
              · simp [hw, b1, b2, k0, d1, d2, d3]
  · simp [hlt]
noncomputable def partQ (s : ByteArray) : Bool := chq fun r => Runs E 114 [.d (.v (.string s)) none] [.d (.v (.bool r)) none] [.u]
@[simp] theorem c_l4Part (s : ByteArray) (hs : s.size ≤ 1000) {K : List X → List X → Prop} : callK E 114 [.d (.v (.string s)) none] K = K [.d (.v (.bool (partQ s))) none] [.u] := callK_of (chq_spec (r_l4Part s hs))

theorem r_l3Split (s : ByteArray) (y : Int) (hs : s.size ≤ 1000) : ∃ r : {l : List ByteArray // l.length ≤ s.size + 1 ∧ 0 < l.length ∧ ∀ x ∈ l, x.size ≤ 1000}, Runs E 113 [.d (.v (.string s)) none, .d (.v (.int .u8 y)) none] [.d (.sl 1 (List.map encS r.1)) none] [.u, .u] := by
  refine runs_ex [] (fun r : {l : List ByteArray // l.length ≤ s.size + 1 ∧ 0 < l.length ∧ ∀ x ∈ l, x.size ≤ 1000} => [.d (.sl 1 (List.map encS r.1)) none]) rfl Try.func113 rfl pk_113 rfl rfl ?_
  simp
  refine loop_by (fun p : Nat × Nat × List ByteArray => [(0, .d (.v (.string s)) none), (1, .d (.v (.int .u8 y)) none), (5, .d (.sl 1 (List.map encS p.2.2)) none), (6, .d (.v (.int .i64 p.2.1)) none), (7, .d (.v (.int .i64 p.1)) none)])
    (fun p => p.1 ≤ s.size + 1 ∧ p.2.1 ≤ p.1 ∧ p.2.2.length ≤ p.1 ∧ (∀ x ∈ p.2.2, x.size ≤ 1000) ∧ (p.1 = s.size + 1 → 0 < p.2.2.length)) (fun p => s.size + 1 - p.1) (0, 0, []) ⟨by simp, by simp, by simp, by simp, by simp⟩ ?_ ?_
  · simp
  rintro ⟨k, f, l⟩ ⟨h1, h2, h3, h4, h5⟩
  simp only at h1 h2 h3 h4 h5
  by_cases hlt : (k : Int) ≤ s.size
  · have hw := wrap_nat (k := k) (by omega)
    by_cases he : (k : Int) = s.size
    · have hk0 : k = s.size := by omega
      subst hk0
      simp [hw]
      refine ⟨by omega, by simp only [memRoom, strRoom]; omega, s.size + 1, s.size + 1, l ++ [s.extract f s.size], ⟨by omega, by omega, by simp; omega, ?_, by simp⟩, by omega, by simp, by simp, by simp⟩
      intro x hx
      rcases List.mem_append.1 hx with hx | hx
      · exact h4 x hx
      · simp only [List.mem_singleton] at hx
        subst hx
        rw [ByteArray.size_extract]
        omega
    · have hk0 : k < s.size := by omega
      have hfs : f ≤ s.size := by omega
      have hkn : ¬ s.size < k := by omega
      simp [hlt, he, hw, hk0]
      refine cond_by (fun h => ?_) (fun h => ?_)
      · simp [hw, hfs, hkn, h2]
        refine ⟨by omega, by simp only [memRoom, strRoom]; omega, k + 1, k + 1, l ++ [s.extract f k], ⟨by omega, by omega, by simp; omega, ?_, by simp⟩, by omega, by simp, by simp, by simp⟩
        intro x hx
        rcases List.mem_append.1 hx with hx | hx
        · exact h4 x hx
        · simp only [List.mem_singleton] at hx
          subst hx
          rw [ByteArray.size_extract]
          omega
      · simp [hw]
        exact ⟨k + 1, f, l, ⟨by omega, by omega, by omega, h4, fun h => by omega⟩, by omega, rfl, rfl, by simp⟩
  · have : k = s.size + 1 := by omega
    simp [hlt]
    exact ⟨l, ⟨by omega, h5 this, h4⟩, rfl⟩
noncomputable def splQ (s : ByteArray) (y : Int) : List ByteArray := chq fun l => l.length ≤ s.size + 1 ∧ 0 < l.length ∧ (∀ x ∈ l, x.size ≤ 1000) ∧ Runs E 113 [.d (.v (.string s)) none, .d (.v (.int .u8 y)) none] [.d (.sl 1 (List.map encS l)) none] [.u, .u]
theorem splQ_spec (s : ByteArray) (y : Int) (hs : s.size ≤ 1000) : (splQ s y).length ≤ s.size + 1 ∧ 0 < (splQ s y).length ∧ (∀ x ∈ splQ s y, x.size ≤ 1000) ∧ Runs E 113 [.d (.v (.string s)) none, .d (.v (.int .u8 y)) none] [.d (.sl 1 (List.map encS (splQ s y))) none] [.u, .u] := by
  refine chq_spec (P := fun l : List ByteArray => l.length ≤ s.size + 1 ∧ 0 < l.length ∧ (∀ x ∈ l, x.size ≤ 1000) ∧ Runs E 113 [.d (.v (.string s)) none, .d (.v (.int .u8 y)) none] [.d (.sl 1 (List.map encS l)) none] [.u, .u]) ?_
  obtain ⟨⟨l, h1, h2, h3⟩, h4⟩ := r_l3Split s y hs
  exact ⟨l, h1, h2, h3, h4⟩
@[simp] theorem c_l3Split (s : ByteArray) (y : Int) (hs : s.size ≤ 1000) {K : List X → List X → Prop} : callK E 113 [.d (.v (.string s)) none, .d (.v (.int .u8 y)) none] K = K [.d (.sl 1 (List.map encS (splQ s y))) none] [.u, .u] := callK_of (splQ_spec s y hs).2.2.2

theorem r_PathOk (s : ByteArray) (hs : s.size ≤ 1000) : ∃ r : Bool, Runs E 107 [.d (.v (.string s)) none] [.d (.v (.bool r)) none] [.u] := by
  refine runs_ex [] (fun r : Bool => [.d (.v (.bool r)) none]) rfl Try.func107 rfl pk_107 rfl rfl ?_
  obtain ⟨q1, q2, q3, _⟩ := splQ_spec s 47 hs
  simp [hs]
  generalize splQ s 47 = l at q1 q2 q3 ⊢
  refine loop_by (fun k : Nat => [(0, .d (.v (.string s)) none), (3, .d (.sl 1 (List.map encS l)) none), (4, .d (.v (.int .i64 k)) none)]) (fun k => k ≤ l.length) (fun k => l.length - k) 0 (Nat.zero_le _) ?_ ?_
  · simp
  intro k hk
  by_cases hlt : k < l.length
  · have hw := wrap_nat (k := k) (by omega)
    have h9 := q3 l[k] (List.getElem_mem hlt)
    simp [hlt, hw, h9]
    refine cond_by (fun h => by simp) (fun h => ?_)
    simp [hw]
    exact ⟨k + 1, by omega, by omega, by simp⟩
  · by_cases h6 : (l.length : Int) ≤ 6
    · simp [hlt, h6]
    · simp [hlt, h6]
noncomputable def pathQ (s : ByteArray) : Bool := chq fun r => Runs E 107 [.d (.v (.string s)) none] [.d (.v (.bool r)) none] [.u]
@[simp] theorem c_specPathOk (s : ByteArray) (hs : s.size ≤ 1000) {K : List X → List X → Prop} : callK E 107 [.d (.v (.string s)) none] K = K [.d (.v (.bool (pathQ s))) none] [.u] := callK_of (chq_spec (r_PathOk s hs))

theorem r_l4Major (s : ByteArray) (hs : s.size ≤ 1000) : ∃ r : Int, Runs E 108 [.d (.v (.string s)) none] [.d (.v (.int .i64 r)) none] [.u] := by
  refine runs_ex [] (fun r : Int => [.d (.v (.int .i64 r)) none]) rfl Try.func108 rfl pk_108 rfl rfl ?_
  obtain ⟨q1, q2, q3, _⟩ := splQ_spec s 47 hs
  obtain ⟨l, hl⟩ : ∃ l, splQ s 47 = l := ⟨_, rfl⟩
  rw [hl] at q1 q2 q3
  obtain ⟨n, hn⟩ : ∃ n, l.length = n + 1 := ⟨l.length - 1, by omega⟩
  have hw : IntKind.i64.wrap ((l.length : Int) - 1) = n := by rw [wrap_id (by omega) (by omega)]; omega
  have hlt : n < l.length := by omega
  have h9 := q3 l[n] (List.getElem_mem hlt)
  generalize hx : l[n] = x at h9
  by_cases h2 : (l.length : Int) < 2
  · simp [hs, hl, hw, hlt, hx, h2]
  · by_cases he : x = ByteArray.empty
    · simp [hs, hl, hw, hlt, hx, h2, he]
    · obtain ⟨e1, e2⟩ := ne_empty he
      have e3 : ¬ x.size < 1 := by omega
      have e4 : 1 ≤ x.size := by omega
      have e5 : (x.extract 1 x.size).size ≤ 1000 := by rw [ByteArray.size_extract]; omega
      simp [hs, hl, hw, hlt, hx, h2, he, e1, e2]
      refine cond_by (fun h => by simp) (fun h => ?_)
      have e6 : x.size ≤ 1001 := by omega
      simp [e3, e4, e5, e6]
      refine cond_by (fun h => by simp) (fun h => ?_)
      simp
noncomputable def maj0Q (s : ByteArray) : Int := chq fun r => Runs E 108 [.d (.v (.string s)) none] [.d (.v (.int .i64 r)) none] [.u]
@[simp] theorem c_l4Major (s : ByteArray) (hs : s.size ≤ 1000) {K : List X → List X → Prop} : callK E 108 [.d (.v (.string s)) none] K = K [.d (.v (.int .i64 (maj0Q s))) none] [.u] := callK_of (chq_spec (r_l4Major s hs))

theorem r_MajorOf (s : ByteArray) (hs : s.size ≤ 1000) : ∃ r : Int, Runs E 93 [.d (.v (.string s)) none] [.d (.v (.int .i64 r)) none] [.u] := by
  refine runs_ex [] (fun r : Int => [.d (.v (.int .i64 r)) none]) rfl Try.func93 rfl pk_93 rfl rfl ?_
  simp [hs]
  refine cond_by (fun h => by simp) (fun h => ?_)
  simp [hs]
  refine cond_by (fun h => by simp) (fun h => ?_)
  simp
noncomputable def majQ (s : ByteArray) : Int := chq fun r => Runs E 93 [.d (.v (.string s)) none] [.d (.v (.int .i64 r)) none] [.u]
@[simp] theorem c_specMajorOf (s : ByteArray) (hs : s.size ≤ 1000) {K : List X → List X → Prop} : callK E 93 [.d (.v (.string s)) none] K = K [.d (.v (.int .i64 (majQ s))) none] [.u] := callK_of (chq_spec (r_MajorOf s hs))
end Go.Proofs.Ytfgaikcoodagiaa

/- The versions of a path: the program's and the reference's come to the same. -/
import Derived.Test.YtfgaikcoodagiaaW4
set_option linter.all false
namespace Go.Proofs.Ytfgaikcoodagiaa
open Go.Ev
set_option maxRecDepth 20000
set_option linter.unusedVariables false
set_option linter.unusedSimpArgs false

def verE (x : PEntry) : PVersion := ⟨x.f1, x.f2, x.f3, x.f4⟩
def isP (p : ByteArray) (x : PEntry) : Bool := decide (x.f0 = p)
def versOf (l : List PEntry) (p : ByteArray) : List PVersion := (l.filter (isP p)).map verE

theorem r_implVersionsOf (l : List PEntry) (p : ByteArray) (hl : 80 * l.length ≤ 140737488355328) :
    Runs E 16 [.d (.sl 6 (List.map encEntry l)) none, .d (.v (.string p)) none] [.d (.sl 4 (List.map encVersion (versOf l p))) none] [.u, .u] := by
  refine runs_of [] rfl Try.func16 rfl pk_16 rfl rfl ?_
  simp
  refine loop_by (fun k : Nat => [(0, .d (.sl 6 (List.map encEntry l)) none), (1, .d (.v (.string p)) none), (5, .d (.sl 4 (List.map encVersion (versOf (l.take k) p))) none), (8, .d (.sl 6 (List.map encEntry l)) (some ⟨0, []⟩)), (9, .d (.v (.int .i64 l.length)) none), (10, .d (.v (.int .i64 k)) none)])
    (fun k => k ≤ l.length) (fun k => l.length - k) 0 (Nat.zero_le _) ?_ ?_
  · simp [versOf]
  rintro k hk
  by_cases hlt : k < l.length
  · have hw := wrap_nat (k := k) (by omega)
    have hf := filter_take (isP p) l hlt
    have hfl := filter_len (isP p) l k
    by_cases hq : l[k].f0 = p
    · rw [if_pos (by simp [isP, hq])] at hf
      simp [hlt, hl, hq, hw, versOf]
      exact ⟨by simp only [memRoom, strRoom]; omega, k + 1, by omega, by omega, by simp [hf, verE]⟩
    · rw [if_neg (by simp [isP, hq])] at hf
      simp [hlt, hl, hq, hw, versOf]
      exact ⟨k + 1, by omega, by omega, by simp [hf]⟩
  · have : l.take k = l := List.take_of_length_le (by omega)
    simp [hlt, this]
@[simp] theorem c_implVersionsOf (l : List PEntry) (p : ByteArray) (hl : 80 * l.length ≤ 140737488355328) {K : List X → List X → Prop} :
    callK E 16 [.d (.sl 6 (List.map encEntry l)) none, .d (.v (.string p)) none] K = K [.d (.sl 4 (List.map encVersion (versOf l p))) none] [.u, .u] := callK_of (r_implVersionsOf l p hl)

theorem r_specVersionsOf (l : List PEntry) (p : ByteArray) (hl : 80 * l.length ≤ 140737488355328) :
    Runs E 28 [.d (.sl 6 (List.map encEntry l)) none, .d (.v (.string p)) none] [.d (.sl 4 (List.map encVersion (versOf l p))) none] [.u, .u] := by
  refine runs_of [] rfl Try.func28 rfl pk_28 rfl rfl ?_
  simp
  refine loop_by (fun k : Nat => [(0, .d (.sl 6 (List.map encEntry l)) none), (1, .d (.v (.string p)) none), (5, .d (.sl 4 (List.map encVersion (versOf (l.take k) p))) none), (6, .d (.v (.int .i64 k)) none)])
    (fun k => k ≤ l.length) (fun k => l.length - k) 0 (Nat.zero_le _) ?_ ?_
  · simp [versOf]
  rintro k hk
  by_cases hlt : k < l.length
  · have hw := wrap_nat (k := k) (by omega)
    have hf := filter_take (isP p) l hlt
    have hfl := filter_len (isP p) l k
    by_cases hq : l[k].f0 = p
    · rw [if_pos (by simp [isP, hq])] at hf
      simp [hlt, hl, hq, hw, versOf]
      exact ⟨by simp only [memRoom, strRoom]; omega, k + 1, by omega, by omega, by simp [hf, verE]⟩
    · rw [if_neg (by simp [isP, hq])] at hf
      simp [hlt, hl, hq, hw, versOf]
      exact ⟨k + 1, by omega, by omega, by simp [hf]⟩
  · have : l.take k = l := List.take_of_length_le (by omega)
    simp [hlt, this]
@[simp] theorem c_specVersionsOf (l : List PEntry) (p : ByteArray) (hl : 80 * l.length ≤ 140737488355328) {K : List X → List X → Prop} :
    callK E 28 [.d (.sl 6 (List.map encEntry l)) none, .d (.v (.string p)) none] K = K [.d (.sl 4 (List.map encVersion (versOf l p))) none] [.u, .u] := callK_of (r_specVersionsOf l p hl)

noncomputable def mkV (k : Int) : PVersion := ⟨k, k + 1, k + 2, mt (k + 3)⟩
noncomputable def mixV (k : Int) (l : List PVersion) (j : Nat) : List PVersion := (List.range j).map (fun i : Nat => mkV (k + 4 * (i : Int))) ++ l.drop j

theorem mixV_len (k : Int) (l : List PVersion) {j : Nat} (h : j ≤ l.length) : (mixV k l j).length = l.length := by simp [mixV]; omega
theorem mixV_zero (k : Int) (l : List PVersion) : mixV k l 0 = l := by simp [mixV]
theorem mixV_set (k : Int) (l : List PVersion) {j : Nat} (h : j < l.length) : (mixV k l j).set j (mkV (k + 4 * j)) = mixV k l (j + 1) := by
  unfold mixV
  rw [List.set_append_right _ _ (by simp)]
  simp only [List.length_map, List.length_range, Nat.sub_self]
  rw [List.drop_eq_getElem_cons h, List.set_cons_zero, List.range_succ]
  simp

theorem r_markVersionS (l : List PVersion) (k : Int) (h1 : 0 ≤ k) (h2 : k + 4 * l.length ≤ 1000000000000) (hl : 40 * l.length ≤ 140737488355328) :
    Runs E 30 [.d (.sl 4 (List.map encVersion l)) none, .d (.v (.int .i64 k)) none] [.d (.v (.int .i64 (k + 4 * l.length))) none] [.d (.sl 4 (List.map encVersion (mixV k l l.length))) none, .u] := by
  refine runs_of [] rfl Try.func30 rfl pk_30 rfl rfl ?_
  simp
  refine loop_by (fun j : Nat => [(0, .d (.sl 4 (List.map encVersion (mixV k l j))) none), (1, .d (.v (.int .i64 (k + 4 * j))) none), (5, .d (.v (.int .i64 j)) none)]) (fun j => j ≤ l.length) (fun j => l.length - j) 0 (Nat.zero_le _) ?_ ?_
  · simp [mixV_zero]
  intro j hj
  have hml := mixV_len k l hj
  by_cases hlt : j < l.length
  · have hw := wrap_nat (k := j) (by omega)
    have hs := mixV_set k l hlt
    generalize hm : mixV k l j = m at hml hs ⊢
    generalize hq : k + 4 * (j : Int) = q at hs ⊢
    have b1 : 0 ≤ q := by omega
    have b2 : q ≤ 1099511627776 := by omega
    have b3 : 0 ≤ q + 3 := by omega
    have b4 : q + 3 ≤ 1099511627776 := by omega
    have w1 : IntKind.wrap .i64 (q + 1) = q + 1 := wrap_id (by omega) (by omega)
    have w2 : IntKind.wrap .i64 (q + 1 + 1) = q + 2 := by rw [wrap_id (by omega) (by omega)]; omega
    have w3 : IntKind.wrap .i64 (q + 2 + 1) = q + 3 := by rw [wrap_id (by omega) (by omega)]; omega
    have w4 : IntKind.wrap .i64 (q + 3 + 1) = q + 4 := by rw [wrap_id (by omega) (by omega)]; omega
    simp [hlt, hw, hml, b1, b2, b3, b4, w1, w2, w3, w4]
    refine ⟨j + 1, by omega, by omega, ?_, by omega, by omega⟩
    rw [← hs, List.map_set]
    rfl
  · have : j = l.length := by omega
    subst this
    simp [hml]
@[simp] theorem c_markVersionS (l : List PVersion) (k : Int) (h1 : 0 ≤ k) (h2 : k + 4 * l.length ≤ 1000000000000) (hl : 40 * l.length ≤ 140737488355328) {K : List X → List X → Prop} :
    callK E 30 [.d (.sl 4 (List.map encVersion l)) none, .d (.v (.int .i64 k)) none] K = K [.d (.v (.int .i64 (k + 4 * l.length))) none] [.d (.sl 4 (List.map encVersion (mixV k l l.length))) none, .u] := callK_of (r_markVersionS l k h1 h2 hl)

theorem mixV_get (k : Int) (l : List PVersion) {j : Nat} (h : j < l.length) (h' : j < (mixV k l l.length).length) : (mixV k l l.length)[j] = mkV (k + 4 * (j : Int)) := by
  simp only [mixV]
  rw [List.getElem_append_left (by simpa using h)]
  simp

theorem r_heldVersionS (l : List PVersion) (k : Int) (h1 : 0 ≤ k) (h2 : k + 4 * l.length ≤ 1000000000000) (hl : 40 * l.length ≤ 140737488355328) :
    Runs E 31 [.d (.sl 4 (List.map encVersion (mixV k l l.length))) none, .d (.v (.int .i64 k)) none] [.d (.v (.int .i64 (k + 4 * l.length))) none] [.u, .u] := by
  refine runs_of [(13, [39, 40, 41, 42, 43, 44, 45])] rfl Try.func31 rfl pk_31 rfl rfl ?_
  have hml := mixV_len k l (Nat.le_refl _)
  have hget := fun j h => mixV_get k l (j := j) h
  generalize hm : mixV k l l.length = m at hml hget ⊢
  simp
  refine loop_by (fun j : Nat => [(0, .d (.sl 4 (List.map encVersion m)) none), (1, .d (.v (.int .i64 (k + 4 * j))) none), (5, .d (.v (.int .i64 j)) none)]) (fun j => j ≤ l.length) (fun j => l.length - j) 0 (Nat.zero_le _) ?_ ?_
  · simp
  intro j hj
  by_cases hlt : j < l.length
  · have hw := wrap_nat (k := j) (by omega)
    have hg := hget j hlt
    generalize hq : k + 4 * (j : Int) = q at hg ⊢
    have b1 : 0 ≤ q := by omega
    have b2 : q ≤ 1099511627776 := by omega
    have b3 : 0 ≤ q + 3 := by omega
    have b4 : q + 3 ≤ 1099511627776 := by omega
    have w1 : IntKind.wrap .i64 (q + 1) = q + 1 := wrap_id (by omega) (by omega)
    have w2 : IntKind.wrap .i64 (q + 1 + 1) = q + 2 := by rw [wrap_id (by omega) (by omega)]; omega
    have w3 : IntKind.wrap .i64 (q + 2 + 1) = q + 3 := by rw [wrap_id (by omega) (by omega)]; omega
    have w4 : IntKind.wrap .i64 (q + 3 + 1) = q + 4 := by rw [wrap_id (by omega) (by omega)]; omega
    simp [hlt, hw, hml, hg, mkV, b1, b2, b3, b4, w1, w2, w3, w4]
    exact ⟨j + 1, by omega, by omega, by omega, by omega⟩
  · have : j = l.length := by omega
    subst this
    simp [hml]
@[simp] theorem c_heldVersionS (l : List PVersion) (k : Int) (h1 : 0 ≤ k) (h2 : k + 4 * l.length ≤ 1000000000000) (hl : 40 * l.length ≤ 140737488355328) {K : List X → List X → Prop} :
    callK E 31 [.d (.sl 4 (List.map encVersion (mixV k l l.length))) none, .d (.v (.int .i64 k)) none] K = K [.d (.v (.int .i64 (k + 4 * l.length))) none] [.u, .u] := callK_of (r_heldVersionS l k h1 h2 hl)

theorem versOf_len (l : List PEntry) (p : ByteArray) : (versOf l p).length ≤ l.length := by
  have := List.length_filter_le (isP p) l
  simpa [versOf] using this
theorem wtE_len (l : List PEntry) : l.length ≤ wtE l := by
  induction l with
  | nil => simp [wtE]
  | cons x l ih => simp [wtE] at ih ⊢; omega

theorem r_law5 (l : List PEntry) (p : ByteArray) (hl : 80 * l.length ≤ 140737488355328) (hs : ∀ y ∈ l, y.small) (hp : p.size ≤ 140737488355328) :
    Runs E 5 [.d (.sl 6 (List.map encEntry l)) none, .d (.v (.string p)) none] [.d (.v (.bool true)) none] [.u, .u] := by
  refine runs_of [] rfl Try.func5 rfl pk_5 rfl rfl ?_
  have hok := small_okL hs
  simp [hl, hok]
  refine cond_by (fun h => by simp) (fun h => ?_)
  simp [hl, hok]
  have hv := p_szEntryS l 1048576 (by omega) (by omega) hl hs
  simp only at hv
  refine cond_by (fun h => by simp) (fun h => ?_)
  simp at h
  have g1 := versOf_len l p
  have g2 := wtE_len l
  have m1 : 40 * (versOf l p).length ≤ 140737488355328 := by omega
  have m2 : (1 : Int) + 5 * wtE l ≤ 1000000000000 := by omega
  have m3 : ¬ ((1 : Int) + 5 * wtE l < 0) := by omega
  have m5 : (1 : Int) + 4 * (versOf l p).length ≤ 1000000000000 := by omega
  have m7 : ¬ ((1 : Int) + 4 * (versOf l p).length < 0) := by omega
  simp [hl, hok, m1, m2, m3, m5, m7]
end Go.Proofs.Ytfgaikcoodagiaa

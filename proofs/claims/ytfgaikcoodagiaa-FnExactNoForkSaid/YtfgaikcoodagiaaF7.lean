/- Two heads of one size that are unlike: the program's and the reference's come to the same. -/
import Derived.Test.YtfgaikcoodagiaaC1
set_option linter.all false
namespace Go.Proofs.Ytfgaikcoodagiaa
open Go.Ev
set_option maxRecDepth 20000
set_option linter.unusedVariables false
set_option linter.unusedSimpArgs false

/-- Whether two heads of one size are unlike. -/
noncomputable def forkB (t : List PHead) : Bool := open Classical in decide (∃ (i k : Nat) (hi : i < t.length) (hk : k < t.length), k < i ∧ t[k].f0 = t[i].f0 ∧ ¬ t[k].f1 = t[i].f1)

/-- None so far. -/
def noF (t : List PHead) (i k : Nat) : Prop := ∀ (i' k' : Nat) (hi : i' < t.length) (hk : k' < t.length), k' < i' → (i' < i ∨ (i' = i ∧ k' < k)) → t[k'].f0 = t[i'].f0 → t[k'].f1 = t[i'].f1

theorem noF_zero (t : List PHead) : noF t 0 0 := fun i' k' _ _ _ h => by omega
theorem noF_next {t : List PHead} {i : Nat} (h : noF t i i) : noF t (i + 1) 0 := fun i' k' hi hk hlt hh => h i' k' hi hk hlt (by omega)
theorem noF_step {t : List PHead} {i k : Nat} (h : noF t i k) (hi : i < t.length) (hk : k < t.length) (hp : t[k].f0 = t[i].f0 → t[k].f1 = t[i].f1) : noF t i (k + 1) := by
  intro i' k' hi' hk' hlt hh
  by_cases e : i' = i ∧ k' = k
  · obtain ⟨rfl, rfl⟩ := e; exact hp
  · exact h i' k' hi' hk' hlt (by omega)
theorem fork_yes {t : List PHead} {i k : Nat} (hi : i < t.length) (hki : k < i) (h1 : t[k].f0 = t[i].f0) (h2 : ¬ t[k].f1 = t[i].f1) : forkB t = true := by
  simp only [forkB, decide_eq_true_eq]
  exact ⟨i, k, hi, by omega, hki, h1, h2⟩
theorem fork_no {t : List PHead} (h : noF t t.length 0) : forkB t = false := by
  simp only [forkB, decide_eq_false_iff_not]
  rintro ⟨i, k, hi, hk, hki, h1, h2⟩
  exact h2 (h i k hi hk hki (by omega) h1)

theorem r_specFork (t : List PHead) (hl : 24 * t.length ≤ 140737488355328) : ∃ q : PHead × PHead, Runs E 71 [.d (.sl 2 (List.map encHead t)) none] [.agg (encHead q.1) none, .agg (encHead q.2) none, .d (.v (.bool (forkB t))) none] [.u] := by
  refine runs_ex [(7, [18, 19, 20, 21, 22, 23, 24, 25, 26, 27, 28, 29, 30, 31, 32, 33, 34, 35, 36, 37, 38, 39]), (8, [42, 43, 44, 45, 46, 47, 48, 49]), (10008, [2]), (20008, [0, 0, 0, 0, 0, 0, 0, 0, 1, 2, 2])] (fun q : PHead × PHead => [.agg (encHead q.1) none, .agg (encHead q.2) none, .d (.v (.bool (forkB t))) none]) rfl Try.func71 rfl pk_71 rfl rfl ?_
  simp
  refine loop_by (fun i : Nat => [(0, .d (.sl 2 (List.map encHead t)) none), (2, .box [.v (.int .i64 0), .v (.string ByteArray.empty)]), (3, .box [.v (.int .i64 0), .v (.string ByteArray.empty)]), (4, .d (.v (.bool false)) none), (5, .d (.v (.int .i64 i)) none)])
    (fun i => i ≤ t.length ∧ noF t i 0) (fun i => t.length - i) 0 ⟨Nat.zero_le _, noF_zero t⟩ ?_ ?_
  · simp
  rintro i ⟨hi, hno⟩
  by_cases hlt : i < t.length
  · have hw := wrap_nat (k := i) (by omega)
    simp [hlt]
    refine loop_by (fun k : Nat => [(0, .d (.sl 2 (List.map encHead t)) none), (2, .box [.v (.int .i64 0), .v (.string ByteArray.empty)]), (3, .box [.v (.int .i64 0), .v (.string ByteArray.empty)]), (4, .d (.v (.bool false)) none), (5, .d (.v (.int .i64 i)) none), (6, .d (.v (.int .i64 k)) none)])
      (fun k => k ≤ i ∧ noF t i k) (fun k => i - k) 0 ⟨Nat.zero_le _, hno⟩ ?_ ?_
    · simp
    rintro k ⟨hk, hno⟩
    by_cases hki : k < i
    · have hkl : k < t.length := by omega
      have hw2 := wrap_nat (k := k) (by omega)
      by_cases h1 : t[k].f0 = t[i].f0
      · by_cases h2 : t[k].f1 = t[i].f1
        · simp [hki, hkl, hlt, h1, h2, hw2]
          exact ⟨k + 1, ⟨by omega, noF_step hno hlt hkl fun _ => h2⟩, by omega, by simp⟩
        · simp [hki, hkl, hlt, h1, h2, fork_yes hlt hki h1 h2]
          exact ⟨⟨t[k], h1.symm, rfl⟩, t[i], rfl, rfl⟩
      · simp [hki, hkl, hlt, h1, hw2]
        exact ⟨k + 1, ⟨by omega, noF_step hno hlt hkl fun h => absurd h h1⟩, by omega, by simp⟩
    · simp [hki, hw]
      have : k = i := by omega
      subst this
      exact ⟨k + 1, ⟨hlt, noF_next hno⟩, by omega, by simp⟩
  · have : i = t.length := by omega
    subst this
    simp [fork_no hno]
    exact ⟨(⟨0, .empty⟩ : PHead), rfl, rfl⟩

theorem r_implFork (t : List PHead) (hl : 24 * t.length ≤ 140737488355328) : ∃ q : PHead × PHead, Runs E 77 [.d (.sl 2 (List.map encHead t)) none] [.agg (encHead q.1) none, .agg (encHead q.2) none, .d (.v (.bool (forkB t))) none] [.u] := by
  refine runs_ex [(8, [36, 37]), (10008, [2]), (20008, [0, 0, 1, 2, 2])] (fun q : PHead × PHead => [.agg (encHead q.1) none, .agg (encHead q.2) none, .d (.v (.bool (forkB t))) none]) rfl Try.func77 rfl pk_77 rfl rfl ?_
  simp
  refine loop_by (fun i : Nat => [(0, .d (.sl 2 (List.map encHead t)) none), (2, .box [.v (.int .i64 0), .v (.string ByteArray.empty)]), (3, .box [.v (.int .i64 0), .v (.string ByteArray.empty)]), (4, .d (.v (.bool false)) none), (9, .d (.sl 2 (List.map encHead t)) (some ⟨0, []⟩)), (10, .d (.v (.int .i64 t.length)) none), (11, .d (.v (.int .i64 i)) none)])
    (fun i => i ≤ t.length ∧ noF t i 0) (fun i => t.length - i) 0 ⟨Nat.zero_le _, noF_zero t⟩ ?_ ?_
  · simp
  rintro i ⟨hi, hno⟩
  by_cases hlt : i < t.length
  · have hw := wrap_nat (k := i) (by omega)
    have hmin : min i t.length = i := by omega
    have hle : i ≤ t.length := hi
    simp [hlt, hle]
    refine loop_by (fun k : Nat => [(0, .d (.sl 2 (List.map encHead t)) none), (2, .box [.v (.int .i64 0), .v (.string ByteArray.empty)]), (3, .box [.v (.int .i64 0), .v (.string ByteArray.empty)]), (4, .d (.v (.bool false)) none), (9, .d (.sl 2 (List.map encHead t)) (some ⟨0, []⟩)), (10, .d (.v (.int .i64 t.length)) none), (11, .d (.v (.int .i64 i)) none),
        (5, .d (.v (.int .i64 i)) none), (6, .box (encHead t[i])), (18, .d (.sl 2 (List.map encHead (t.take i))) none), (19, .d (.v (.int .i64 i)) none), (20, .d (.v (.int .i64 k)) none)])
      (fun k => k ≤ i ∧ noF t i k) (fun k => i - k) 0 ⟨Nat.zero_le _, hno⟩ ?_ ?_
    · simp [hmin]
    rintro k ⟨hk, hno⟩
    by_cases hki : k < i
    · have hkl : k < t.length := by omega
      have hw2 := wrap_nat (k := k) (by omega)
      by_cases h1 : t[k].f0 = t[i].f0
      · by_cases h2 : t[k].f1 = t[i].f1
        · simp [hki, hkl, hlt, h1, h2, hw2, hmin]
          exact ⟨k + 1, ⟨by omega, noF_step hno hlt hkl fun _ => h2⟩, by omega, by simp⟩
        · simp [hki, hkl, hlt, h1, h2, hmin, fork_yes hlt hki h1 h2]
          exact ⟨⟨t[k], h1.symm, rfl⟩, t[i], rfl, rfl⟩
      · simp [hki, hkl, hlt, h1, hw2, hmin]
        exact ⟨k + 1, ⟨by omega, noF_step hno hlt hkl fun h => absurd h h1⟩, by omega, by simp⟩
    · simp [hki, hw, hmin]
      have : k = i := by omega
      subst this
      exact ⟨k + 1, ⟨hlt, noF_next hno⟩, by omega, by simp⟩
  · have : i = t.length := by omega
    subst this
    simp [fork_no hno]
    exact ⟨(⟨0, .empty⟩ : PHead), rfl, rfl⟩

instance : Inhabited PHead := ⟨⟨0, .empty⟩⟩
noncomputable def sfQ (t : List PHead) : PHead × PHead := chq fun q => Runs E 71 [.d (.sl 2 (List.map encHead t)) none] [.agg (encHead q.1) none, .agg (encHead q.2) none, .d (.v (.bool (forkB t))) none] [.u]
noncomputable def ifQ (t : List PHead) : PHead × PHead := chq fun q => Runs E 77 [.d (.sl 2 (List.map encHead t)) none] [.agg (encHead q.1) none, .agg (encHead q.2) none, .d (.v (.bool (forkB t))) none] [.u]
@[simp] theorem c_specFork (t : List PHead) (hl : 24 * t.length ≤ 140737488355328) {K : List X → List X → Prop} : callK E 71 [.d (.sl 2 (List.map encHead t)) none] K = K [.agg (encHead (sfQ t).1) none, .agg (encHead (sfQ t).2) none, .d (.v (.bool (forkB t))) none] [.u] := callK_of (chq_spec (P := fun q : PHead × PHead => Runs E 71 [.d (.sl 2 (List.map encHead t)) none] [.agg (encHead q.1) none, .agg (encHead q.2) none, .d (.v (.bool (forkB t))) none] [.u]) (r_specFork t hl))
@[simp] theorem c_implFork (t : List PHead) (hl : 24 * t.length ≤ 140737488355328) {K : List X → List X → Prop} : callK E 77 [.d (.sl 2 (List.map encHead t)) none] K = K [.agg (encHead (ifQ t).1) none, .agg (encHead (ifQ t).2) none, .d (.v (.bool (forkB t))) none] [.u] := callK_of (chq_spec (P := fun q : PHead × PHead => Runs E 77 [.d (.sl 2 (List.map encHead t)) none] [.agg (encHead q.1) none, .agg (encHead q.2) none, .d (.v (.bool (forkB t))) none] [.u]) (r_implFork t hl))

theorem r_specNoFork (a0 : List ByteArray) (a1 : List PHead) (ms : List PMirror) (a3 : List Int) (a4 : List PMsg) (hl : 24 * a1.length ≤ 140737488355328) :
    Runs E 38 [.agg [.sl 1 (List.map encS a0), .sl 2 (List.map encHead a1), .sl 8 (List.map encMirror ms), .sl 1 (List.map encI a3), .sl 7 (List.map encMsg a4)] none] [.d (.v (.bool (!forkB a1))) none] [.u] := by
  refine runs_of [] rfl Try.func38 rfl pk_38 rfl rfl ?_
  simp [hl]
@[simp] theorem c_specNoFork (a0 : List ByteArray) (a1 : List PHead) (ms : List PMirror) (a3 : List Int) (a4 : List PMsg) (hl : 24 * a1.length ≤ 140737488355328) {K : List X → List X → Prop} :
    callK E 38 [.agg [.sl 1 (List.map encS a0), .sl 2 (List.map encHead a1), .sl 8 (List.map encMirror ms), .sl 1 (List.map encI a3), .sl 7 (List.map encMsg a4)] none] K = K [.d (.v (.bool (!forkB a1))) none] [.u] := callK_of (r_specNoFork a0 a1 ms a3 a4 hl)
theorem r_implNoFork (a0 : List ByteArray) (a1 : List PHead) (ms : List PMirror) (a3 : List Int) (a4 : List PMsg) (hl : 24 * a1.length ≤ 140737488355328) :
    Runs E 40 [.agg [.sl 1 (List.map encS a0), .sl 2 (List.map encHead a1), .sl 8 (List.map encMirror ms), .sl 1 (List.map encI a3), .sl 7 (List.map encMsg a4)] none] [.d (.v (.bool (!forkB a1))) none] [.u] := by
  refine runs_of [] rfl Try.func40 rfl pk_40 rfl rfl ?_
  simp [hl]
@[simp] theorem c_implNoFork (a0 : List ByteArray) (a1 : List PHead) (ms : List PMirror) (a3 : List Int) (a4 : List PMsg) (hl : 24 * a1.length ≤ 140737488355328) {K : List X → List X → Prop} :
    callK E 40 [.agg [.sl 1 (List.map encS a0), .sl 2 (List.map encHead a1), .sl 8 (List.map encMirror ms), .sl 1 (List.map encI a3), .sl 7 (List.map encMsg a4)] none] K = K [.d (.v (.bool (!forkB a1))) none] [.u] := callK_of (r_implNoFork a0 a1 ms a3 a4 hl)

theorem r_law7 (a0 : List ByteArray) (a1 : List PHead) (ms : List PMirror) (a3 : List Int) (a4 : List PMsg) (h0 : 16 * a0.length ≤ 140737488355328) (h1 : 24 * a1.length ≤ 140737488355328) (h2 : 112 * ms.length ≤ 140737488355328) (h3 : PMirror.okL ms)
    (h4 : 8 * a3.length ≤ 140737488355328) (h5 : 80 * a4.length ≤ 140737488355328) (h6 : PMsg.okL a4) :
    Runs E 7 [.agg [.sl 1 (List.map encS a0), .sl 2 (List.map encHead a1), .sl 8 (List.map encMirror ms), .sl 1 (List.map encI a3), .sl 7 (List.map encMsg a4)] none] [.d (.v (.bool true)) none] [.u] := by
  refine runs_of [(10, [22, 23, 24])] rfl Try.func7 rfl pk_7 rfl rfl ?_
  simp [h0, h1, h2, h3, h4, h5, h6]
  refine cond_by (fun _ => by simp) (fun _ => ?_)
  simp [h0, h1, h2, h3, h4, h5, h6]
end Go.Proofs.Ytfgaikcoodagiaa

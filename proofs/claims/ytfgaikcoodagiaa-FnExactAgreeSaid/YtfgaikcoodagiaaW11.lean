/- Agree: the program's and the reference's come to the same. -/
import Derived.Test.YtfgaikcoodagiaaW10
set_option linter.all false
namespace Go.Proofs.Ytfgaikcoodagiaa
open Go.Ev
set_option maxRecDepth 20000
set_option linter.unusedVariables false
set_option linter.unusedSimpArgs false

/-- Of two lists, one is the beginning of the other. -/
def agr (a b : List ByteArray) : Bool := begL a b || begL b a
def agrB (ms : List PMirror) : Bool := decide (∀ i (hi : i < ms.length) j (hj : j < i), agr ms[i].f1 (ms[j]'(by omega)).f1 = true)

theorem agrB_no {ms : List PMirror} {i j : Nat} (hi : i < ms.length) (hj : j < i) (h : agr ms[i].f1 (ms[j]'(by omega)).f1 = false) : agrB ms = false := by
  simp only [agrB, decide_eq_false_iff_not]
  intro h'; rw [h' i hi j hj] at h; cases h
theorem agrB_yes {ms : List PMirror} (h : ∀ i (hi : i < ms.length) j (hj : j < i), agr ms[i].f1 (ms[j]'(by omega)).f1 = true) : agrB ms = true := by
  simp only [agrB, decide_eq_true_eq]; exact h

theorem r_specAgree (a0 : List ByteArray) (tb : List PHead) (ms : List PMirror) (a3 : List Int) (a4 : List PMsg) (hl : 112 * ms.length ≤ 140737488355328) (hok : PMirror.okL ms) :
    Runs E 48 [.agg [.sl 1 (List.map encS a0), .sl 2 (List.map encHead tb), .sl 8 (List.map encMirror ms), .sl 1 (List.map encI a3), .sl 7 (List.map encMsg a4)] none] [.d (.v (.bool (agrB ms))) none] [.u] := by
  refine runs_of [] rfl Try.func48 rfl pk_48 rfl rfl ?_
  simp
  refine loop_by (fun i : Nat => [(1, .box [.sl 1 (List.map encS a0), .sl 2 (List.map encHead tb), .sl 8 (List.map encMirror ms), .sl 1 (List.map encI a3), .sl 7 (List.map encMsg a4)]), (3, .d (.v (.int .i64 i)) none)])
    (fun i => ∀ i' (hi : i' < ms.length) j (hj : j < i'), i' < i → agr ms[i'].f1 (ms[j]'(by omega)).f1 = true) (fun i => ms.length - i) 0 (fun i' hi j hj h => by omega) ?_ ?_
  · simp
  rintro i hbef
  by_cases hlt : i < ms.length
  · have hw := wrap_nat (k := i) (by omega)
    have g0 : 16 * (ms[i].f1).length ≤ 140737488355328 := (hok ms[i] (List.getElem_mem hlt)).1
    simp [hlt]
    refine loop_by (fun k : Nat => [(1, .box [.sl 1 (List.map encS a0), .sl 2 (List.map encHead tb), .sl 8 (List.map encMirror ms), .sl 1 (List.map encI a3), .sl 7 (List.map encMsg a4)]), (3, .d (.v (.int .i64 i)) none), (4, .d (.v (.int .i64 k)) none)])
      (fun k => ∀ j (hj : j < i), j < k → agr ms[i].f1 (ms[j]'(by omega)).f1 = true) (fun k => i - k) 0 (fun j hj h => by omega) ?_ ?_
    · simp
    rintro k hb2
    by_cases hki : k < i
    · have hw2 := wrap_nat (k := k) (by omega)
      have hkl : k < ms.length := by omega
      have g1 : 16 * (ms[k].f1).length ≤ 140737488355328 := (hok ms[k] (List.getElem_mem hkl)).1
      by_cases s1 : begL ms[i].f1 ms[k].f1 = true
      · simp [hlt, hki, hkl, g0, g1, s1, hw2]
        refine ⟨k + 1, fun j hj hjk => ?_, by omega, by simp⟩
        by_cases e : j = k
        · subst e; simp [agr, s1]
        · exact hb2 j hj (by omega)
      · by_cases s2 : begL ms[k].f1 ms[i].f1 = true
        · simp [hlt, hki, hkl, g0, g1, s1, s2, hw2]
          refine ⟨k + 1, fun j hj hjk => ?_, by omega, by simp⟩
          by_cases e : j = k
          · subst e; simp [agr, s2]
          · exact hb2 j hj (by omega)
        · simp [hlt, hki, hkl, g0, g1, s1, s2]
          exact agrB_no hlt hki (by simp [agr, s1, s2])
    · simp [hki, hw]
      refine ⟨i + 1, fun i' hi' j hj hii => ?_, by omega, by simp⟩
      by_cases e : i' = i
      · subst e; exact hb2 j hj (by omega)
      · exact hbef i' hi' j hj (by omega)
  · simp [hlt]
    exact agrB_yes fun i' hi' j hj => hbef i' hi' j hj (by omega)
@[simp] theorem c_specAgree (a0 : List ByteArray) (tb : List PHead) (ms : List PMirror) (a3 : List Int) (a4 : List PMsg) (hl : 112 * ms.length ≤ 140737488355328) (hok : PMirror.okL ms) {K : List X → List X → Prop} :
    callK E 48 [.agg [.sl 1 (List.map encS a0), .sl 2 (List.map encHead tb), .sl 8 (List.map encMirror ms), .sl 1 (List.map encI a3), .sl 7 (List.map encMsg a4)] none] K = K [.d (.v (.bool (agrB ms))) none] [.u] := callK_of (r_specAgree a0 tb ms a3 a4 hl hok)

theorem r_implAgree (a0 : List ByteArray) (tb : List PHead) (ms : List PMirror) (a3 : List Int) (a4 : List PMsg) (hl : 112 * ms.length ≤ 140737488355328) (hok : PMirror.okL ms) :
    Runs E 49 [.agg [.sl 1 (List.map encS a0), .sl 2 (List.map encHead tb), .sl 8 (List.map encMirror ms), .sl 1 (List.map encI a3), .sl 7 (List.map encMsg a4)] none] [.d (.v (.bool (agrB ms))) none] [.u] := by
  refine runs_of [(7, [26, 27, 28, 29, 30, 31, 32, 33, 7])] rfl Try.func49 rfl pk_49 rfl rfl ?_
  simp
  refine loop_by (fun i : Nat => [(1, .box [.sl 1 (List.map encS a0), .sl 2 (List.map encHead tb), .sl 8 (List.map encMirror ms), .sl 1 (List.map encI a3), .sl 7 (List.map encMsg a4)]),
      (10, .d (.sl 8 (List.map encMirror ms)) (some ⟨1, [(0, 2)]⟩)), (11, .d (.v (.int .i64 ms.length)) none), (12, .d (.v (.int .i64 i)) none)])
    (fun i => ∀ i' (hi : i' < ms.length) j (hj : j < i'), i' < i → agr ms[i'].f1 (ms[j]'(by omega)).f1 = true) (fun i => ms.length - i) 0 (fun i' hi j hj h => by omega) ?_ ?_
  · simp
  rintro i hbef
  by_cases hlt : i < ms.length
  · have hw := wrap_nat (k := i) (by omega)
    have hil : i ≤ ms.length := by omega
    have g0 : 16 * (ms[i].f1).length ≤ 140737488355328 := (hok ms[i] (List.getElem_mem hlt)).1
    simp [hlt, hil, ← List.map_take]
    refine loop_by (fun k : Nat => [(1, .box [.sl 1 (List.map encS a0), .sl 2 (List.map encHead tb), .sl 8 (List.map encMirror ms), .sl 1 (List.map encI a3), .sl 7 (List.map encMsg a4)]),
        (4, .box [.v (.int .i64 ms[i].f0), .sl 1 (List.map encS ms[i].f1), .v (.int .i64 ms[i].f2), .v (.string ms[i].f3), .sl 1 (List.map encB ms[i].f4), .v (.int .i64 ms[i].f5), .v (.int .i64 ms[i].f6), .v (.string ms[i].f7)]),
        (10, .d (.sl 8 (List.map encMirror ms)) (some ⟨1, [(0, 2)]⟩)), (11, .d (.v (.int .i64 ms.length)) none), (12, .d (.v (.int .i64 i)) none),
        (20, .d (.sl 8 (List.map encMirror (ms.take i))) none), (21, .d (.v (.int .i64 i)) none), (22, .d (.v (.int .i64 k)) none)])
      (fun k => ∀ j (hj : j < i), j < k → agr ms[i].f1 (ms[j]'(by omega)).f1 = true) (fun k => i - k) 0 (fun j hj h => by omega) ?_ ?_
    · simp [hil]
    rintro k hb2
    by_cases hki : k < i
    · have hw2 := wrap_nat (k := k) (by omega)
      have hkl : k < ms.length := by omega
      have g1 : 16 * (ms[k].f1).length ≤ 140737488355328 := (hok ms[k] (List.getElem_mem hkl)).1
      by_cases s1 : begL ms[i].f1 ms[k].f1 = true
      · simp [hlt, hki, hkl, g0, g1, s1, hw2, Nat.min_eq_left hil]
        refine ⟨k + 1, fun j hj hjk => ?_, by omega, by simp⟩
        by_cases e : j = k
        · subst e; simp [agr, s1]
        · exact hb2 j hj (by omega)
      · by_cases s2 : begL ms[k].f1 ms[i].f1 = true
        · simp [hlt, hki, hkl, g0, g1, s1, s2, hw2, Nat.min_eq_left hil]
          refine ⟨k + 1, fun j hj hjk => ?_, by omega, by simp⟩
          by_cases e : j = k
          · subst e; simp [agr, s2]
          · exact hb2 j hj (by omega)
        · simp [hlt, hki, hkl, g0, g1, s1, s2, Nat.min_eq_left hil]
          exact agrB_no hlt hki (by simp [agr, s1, s2])
    · simp [hki, hw]
      refine ⟨i + 1, fun i' hi' j hj hii => ?_, by omega, by simp⟩
      by_cases e : i' = i
      · subst e; exact hb2 j hj (by omega)
      · exact hbef i' hi' j hj (by omega)
  · simp [hlt]
    exact agrB_yes fun i' hi' j hj => hbef i' hi' j hj (by omega)
@[simp] theorem c_implAgree (a0 : List ByteArray) (tb : List PHead) (ms : List PMirror) (a3 : List Int) (a4 : List PMsg) (hl : 112 * ms.length ≤ 140737488355328) (hok : PMirror.okL ms) {K : List X → List X → Prop} :
    callK E 49 [.agg [.sl 1 (List.map encS a0), .sl 2 (List.map encHead tb), .sl 8 (List.map encMirror ms), .sl 1 (List.map encI a3), .sl 7 (List.map encMsg a4)] none] K = K [.d (.v (.bool (agrB ms))) none] [.u] := callK_of (r_implAgree a0 tb ms a3 a4 hl hok)

theorem r_law11 (a0 : List ByteArray) (a1 : List PHead) (ms : List PMirror) (a3 : List Int) (a4 : List PMsg) (h0 : 16 * a0.length ≤ 140737488355328) (h1 : 24 * a1.length ≤ 140737488355328) (h2 : 112 * ms.length ≤ 140737488355328) (h3 : PMirror.okL ms)
    (h4 : 8 * a3.length ≤ 140737488355328) (h5 : 80 * a4.length ≤ 140737488355328) (h6 : PMsg.okL a4) :
    Runs E 11 [.agg [.sl 1 (List.map encS a0), .sl 2 (List.map encHead a1), .sl 8 (List.map encMirror ms), .sl 1 (List.map encI a3), .sl 7 (List.map encMsg a4)] none] [.d (.v (.bool true)) none] [.u] := by
  refine runs_of [(10, [22, 23, 24])] rfl Try.func11 rfl pk_11 rfl rfl ?_
  simp [h0, h1, h2, h3, h4, h5, h6]
  refine cond_by (fun _ => by simp) (fun _ => ?_)
  simp [h0, h1, h2, h3, h4, h5, h6]
end Go.Proofs.Ytfgaikcoodagiaa

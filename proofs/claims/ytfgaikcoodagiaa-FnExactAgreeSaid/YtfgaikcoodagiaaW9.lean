/- AllSigned: the program's and the reference's come to the same. -/
import Derived.Test.YtfgaikcoodagiaaW8
set_option linter.all false
namespace Go.Proofs.Ytfgaikcoodagiaa
open Go.Ev
set_option maxRecDepth 20000
set_option linter.unusedVariables false
set_option linter.unusedSimpArgs false

def qh (a : Int) (s : ByteArray) (h : PHead) : Bool := decide (h.f0 = a) && decide (h.f1 = s)
/-- Whether a head stands in a table. -/
def sgn (l : List PHead) (a : Int) (s : ByteArray) : Bool := decide (0 ≤ at? (qh a s) l)

theorem qh_t {a : Int} {s : ByteArray} {h : PHead} (h1 : h.f0 = a) (h2 : h.f1 = s) : qh a s h = true := by simp [qh, h1, h2]
theorem qh_a {a : Int} {s : ByteArray} {h : PHead} (h1 : ¬ h.f0 = a) : qh a s h = false := by simp [qh, h1]
theorem qh_s {a : Int} {s : ByteArray} {h : PHead} (h2 : ¬ h.f1 = s) : qh a s h = false := by simp [qh, h2]
theorem bef_q {α : Type} {q : α → Bool} {l : List α} {k : Nat} (hb : ∀ j (hj : j < l.length), j < k → q l[j] = false) (hlt : k < l.length) (h : q l[k] = false) : ∀ j (hj : j < l.length), j < k + 1 → q l[j] = false := by
  intro j hj hjk
  by_cases e : j = k
  · subst e; exact h
  · exact hb j hj (by omega)
theorem sgn_t {l : List PHead} {a : Int} {s : ByteArray} {k : Nat} (hlt : k < l.length) (hb : ∀ j (hj : j < l.length), j < k → qh a s l[j] = false) (h1 : l[k].f0 = a) (h2 : l[k].f1 = s) : sgn l a s = true := by
  simp only [sgn, at_of hlt hb (qh_t h1 h2), decide_eq_true_eq]
  omega
theorem sgn_f {l : List PHead} {a : Int} {s : ByteArray} (hb : ∀ j (hj : j < l.length), qh a s l[j] = false) : sgn l a s = false := by
  simp only [sgn, at_none hb, decide_eq_false_iff_not]
  omega

theorem r_specIsSigned (l : List PHead) (a : Int) (s : ByteArray) (hl : 24 * l.length ≤ 140737488355328) : Runs E 85 [.d (.sl 2 (List.map encHead l)) none, .agg [.v (.int .i64 a), .v (.string s)] none] [.d (.v (.bool (sgn l a s))) none] [.u, .u] := by
  refine runs_of [(4, [12, 13, 14, 15, 16])] rfl Try.func85 rfl pk_85 rfl rfl ?_
  simp
  refine loop_by (fun k : Nat => [(0, .d (.sl 2 (List.map encHead l)) none), (3, .box [.v (.int .i64 a), .v (.string s)]), (5, .d (.v (.int .i64 k)) none)])
    (fun k => ∀ j (hj : j < l.length), j < k → qh a s l[j] = false) (fun k => l.length - k) 0 (fun j hj h => by omega) ?_ ?_
  · simp
  rintro k hbef
  by_cases hlt : k < l.length
  · have hw := wrap_nat (k := k) (by omega)
    by_cases h1 : l[k].f0 = a
    · by_cases h2 : l[k].f1 = s
      · simp [hlt, h1, h2]
        exact sgn_t hlt hbef h1 h2
      · simp [hlt, h1, h2, hw]
        exact ⟨k + 1, bef_q hbef hlt (qh_s h2), by omega, by simp⟩
    · simp [hlt, h1, hw]
      exact ⟨k + 1, bef_q hbef hlt (qh_a h1), by omega, by simp⟩
  · simp [hlt]
    exact sgn_f fun j hj => hbef j hj (by omega)
@[simp] theorem c_specIsSigned (l : List PHead) (a : Int) (s : ByteArray) (hl : 24 * l.length ≤ 140737488355328) {K : List X → List X → Prop} : callK E 85 [.d (.sl 2 (List.map encHead l)) none, .agg [.v (.int .i64 a), .v (.string s)] none] K = K [.d (.v (.bool (sgn l a s))) none] [.u, .u] := callK_of (r_specIsSigned l a s hl)

theorem r_indexH (l : List PHead) (a : Int) (s : ByteArray) (hl : 24 * l.length ≤ 140737488355328) : Runs E 112 [.d (.sl 2 (List.map encHead l)) none, .agg [.v (.int .i64 a), .v (.string s)] none] [.d (.v (.int .i64 (at? (qh a s) l))) none] [.u, .u] := by
  refine runs_of [(4, [11, 12, 13, 14, 15])] rfl Try.func112 rfl pk_112 rfl rfl ?_
  simp
  refine loop_by (fun k : Nat => [(0, .d (.sl 2 (List.map encHead l)) none), (3, .box [.v (.int .i64 a), .v (.string s)]), (7, .d (.v (.int .i64 l.length)) none), (8, .d (.v (.int .i64 k)) none)])
    (fun k => ∀ j (hj : j < l.length), j < k → qh a s l[j] = false) (fun k => l.length - k) 0 (fun j hj h => by omega) ?_ ?_
  · simp
  rintro k hbef
  by_cases hlt : k < l.length
  · have hw := wrap_nat (k := k) (by omega)
    by_cases h1 : a = l[k].f0
    · by_cases h2 : s = l[k].f1
      · simp [hlt, ← h1, ← h2]
        exact (at_of hlt hbef (qh_t h1.symm h2.symm)).symm
      · simp [hlt, ← h1, h2, hw]
        exact ⟨k + 1, bef_q hbef hlt (qh_s fun e => h2 e.symm), by omega, by simp⟩
    · simp [hlt, h1, hw]
      exact ⟨k + 1, bef_q hbef hlt (qh_a fun e => h1 e.symm), by omega, by simp⟩
  · simp [hlt]
    exact (at_none fun j hj => hbef j hj (by omega)).symm
@[simp] theorem c_indexH (l : List PHead) (a : Int) (s : ByteArray) (hl : 24 * l.length ≤ 140737488355328) {K : List X → List X → Prop} : callK E 112 [.d (.sl 2 (List.map encHead l)) none, .agg [.v (.int .i64 a), .v (.string s)] none] K = K [.d (.v (.int .i64 (at? (qh a s) l))) none] [.u, .u] := callK_of (r_indexH l a s hl)

theorem r_containsH (l : List PHead) (a : Int) (s : ByteArray) (hl : 24 * l.length ≤ 140737488355328) : Runs E 104 [.d (.sl 2 (List.map encHead l)) none, .agg [.v (.int .i64 a), .v (.string s)] none] [.d (.v (.bool (sgn l a s))) none] [.u, .u] := by
  refine runs_of [] rfl Try.func104 rfl pk_104 rfl rfl ?_
  simp [hl, sgn]
@[simp] theorem c_containsH (l : List PHead) (a : Int) (s : ByteArray) (hl : 24 * l.length ≤ 140737488355328) {K : List X → List X → Prop} : callK E 104 [.d (.sl 2 (List.map encHead l)) none, .agg [.v (.int .i64 a), .v (.string s)] none] K = K [.d (.v (.bool (sgn l a s))) none] [.u, .u] := callK_of (r_containsH l a s hl)

theorem r_implIsSigned (l : List PHead) (a : Int) (s : ByteArray) (hl : 24 * l.length ≤ 140737488355328) : Runs E 86 [.d (.sl 2 (List.map encHead l)) none, .agg [.v (.int .i64 a), .v (.string s)] none] [.d (.v (.bool (sgn l a s))) none] [.u, .u] := by
  refine runs_of [] rfl Try.func86 rfl pk_86 rfl rfl ?_
  simp [hl]
@[simp] theorem c_implIsSigned (l : List PHead) (a : Int) (s : ByteArray) (hl : 24 * l.length ≤ 140737488355328) {K : List X → List X → Prop} : callK E 86 [.d (.sl 2 (List.map encHead l)) none, .agg [.v (.int .i64 a), .v (.string s)] none] K = K [.d (.v (.bool (sgn l a s))) none] [.u, .u] := callK_of (r_implIsSigned l a s hl)

def okM (tb : List PHead) (m : PMirror) : Bool := sgn tb m.f6 m.f7 && sgn tb m.f2 m.f3
/-- All heads that mirrors have stand in the table. -/
def allB {α : Type} (q : α → Bool) (l : List α) : Bool := decide (∀ j (hj : j < l.length), q l[j] = true)
theorem allB_no {α : Type} {q : α → Bool} {l : List α} {k : Nat} (hlt : k < l.length) (h : q l[k] = false) : allB q l = false := by
  simp only [allB, decide_eq_false_iff_not]
  intro h'; rw [h' k hlt] at h; cases h
theorem allB_yes {α : Type} {q : α → Bool} {l : List α} (h : ∀ j (hj : j < l.length), q l[j] = true) : allB q l = true := by
  simp only [allB, decide_eq_true_eq]; exact h
theorem bef_t {α : Type} {q : α → Bool} {l : List α} {k : Nat} (hb : ∀ j (hj : j < l.length), j < k → q l[j] = true) (hlt : k < l.length) (h : q l[k] = true) : ∀ j (hj : j < l.length), j < k + 1 → q l[j] = true := by
  intro j hj hjk
  by_cases e : j = k
  · subst e; exact h
  · exact hb j hj (by omega)

theorem r_specAllSigned (a0 : List ByteArray) (tb : List PHead) (ms : List PMirror) (a3 : List Int) (a4 : List PMsg) (h1 : 24 * tb.length ≤ 140737488355328) (hl : 112 * ms.length ≤ 140737488355328) :
    Runs E 44 [.agg [.sl 1 (List.map encS a0), .sl 2 (List.map encHead tb), .sl 8 (List.map encMirror ms), .sl 1 (List.map encI a3), .sl 7 (List.map encMsg a4)] none] [.d (.v (.bool (allB (okM tb) ms))) none] [.u] := by
  refine runs_of [(4, [11, 12, 13, 14, 15, 16, 17, 18, 19, 20, 21, 22, 23, 24, 25, 26, 27, 28, 29, 30, 31])] rfl Try.func44 rfl pk_44 rfl rfl ?_
  simp
  refine loop_by (fun k : Nat => [(1, .box [.sl 1 (List.map encS a0), .sl 2 (List.map encHead tb), .sl 8 (List.map encMirror ms), .sl 1 (List.map encI a3), .sl 7 (List.map encMsg a4)]), (3, .d (.v (.int .i64 k)) none)])
    (fun k => ∀ j (hj : j < ms.length), j < k → okM tb ms[j] = true) (fun k => ms.length - k) 0 (fun j hj h => by omega) ?_ ?_
  · simp
  rintro k hbef
  by_cases hlt : k < ms.length
  · have hw := wrap_nat (k := k) (by omega)
    by_cases s1 : sgn tb ms[k].f6 ms[k].f7 = true
    · by_cases s2 : sgn tb ms[k].f2 ms[k].f3 = true
      · simp [hlt, h1, s1, s2, hw]
        exact ⟨k + 1, bef_t hbef hlt (by simp [okM, s1, s2]), by omega, by simp⟩
      · simp [hlt, h1, s1, s2]
        exact allB_no hlt (by simp [okM, s1, s2])
    · simp [hlt, h1, s1]
      exact allB_no hlt (by simp [okM, s1])
  · simp [hlt]
    exact allB_yes fun j hj => hbef j hj (by omega)
@[simp] theorem c_specAllSigned (a0 : List ByteArray) (tb : List PHead) (ms : List PMirror) (a3 : List Int) (a4 : List PMsg) (h1 : 24 * tb.length ≤ 140737488355328) (hl : 112 * ms.length ≤ 140737488355328) {K : List X → List X → Prop} :
    callK E 44 [.agg [.sl 1 (List.map encS a0), .sl 2 (List.map encHead tb), .sl 8 (List.map encMirror ms), .sl 1 (List.map encI a3), .sl 7 (List.map encMsg a4)] none] K = K [.d (.v (.bool (allB (okM tb) ms))) none] [.u] := callK_of (r_specAllSigned a0 tb ms a3 a4 h1 hl)

theorem r_implAllSigned (a0 : List ByteArray) (tb : List PHead) (ms : List PMirror) (a3 : List Int) (a4 : List PMsg) (h1 : 24 * tb.length ≤ 140737488355328) (hl : 112 * ms.length ≤ 140737488355328) :
    Runs E 45 [.agg [.sl 1 (List.map encS a0), .sl 2 (List.map encHead tb), .sl 8 (List.map encMirror ms), .sl 1 (List.map encI a3), .sl 7 (List.map encMsg a4)] none] [.d (.v (.bool (allB (okM tb) ms))) none] [.u] := by
  refine runs_of [] rfl Try.func45 rfl pk_45 rfl rfl ?_
  simp
  refine loop_by (fun k : Nat => [(1, .box [.sl 1 (List.map encS a0), .sl 2 (List.map encHead tb), .sl 8 (List.map encMirror ms), .sl 1 (List.map encI a3), .sl 7 (List.map encMsg a4)]),
      (6, .d (.sl 8 (List.map encMirror ms)) (some ⟨1, [(0, 2)]⟩)), (7, .d (.v (.int .i64 ms.length)) none), (8, .d (.v (.int .i64 k)) none)])
    (fun k => ∀ j (hj : j < ms.length), j < k → okM tb ms[j] = true) (fun k => ms.length - k) 0 (fun j hj h => by omega) ?_ ?_
  · simp
  rintro k hbef
  by_cases hlt : k < ms.length
  · have hw := wrap_nat (k := k) (by omega)
    by_cases s2 : sgn tb ms[k].f2 ms[k].f3 = true
    · by_cases s1 : sgn tb ms[k].f6 ms[k].f7 = true
      · simp [hlt, h1, s1, s2, hw]
        exact ⟨k + 1, bef_t hbef hlt (by simp [okM, s1, s2]), by omega, by simp⟩
      · simp [hlt, h1, s1, s2]
        exact allB_no hlt (by simp [okM, s1])
    · simp [hlt, h1, s2]
      exact allB_no hlt (by simp [okM, s2])
  · simp [hlt]
    exact allB_yes fun j hj => hbef j hj (by omega)
@[simp] theorem c_implAllSigned (a0 : List ByteArray) (tb : List PHead) (ms : List PMirror) (a3 : List Int) (a4 : List PMsg) (h1 : 24 * tb.length ≤ 140737488355328) (hl : 112 * ms.length ≤ 140737488355328) {K : List X → List X → Prop} :
    callK E 45 [.agg [.sl 1 (List.map encS a0), .sl 2 (List.map encHead tb), .sl 8 (List.map encMirror ms), .sl 1 (List.map encI a3), .sl 7 (List.map encMsg a4)] none] K = K [.d (.v (.bool (allB (okM tb) ms))) none] [.u] := callK_of (r_implAllSigned a0 tb ms a3 a4 h1 hl)

theorem r_law9 (a0 : List ByteArray) (a1 : List PHead) (ms : List PMirror) (a3 : List Int) (a4 : List PMsg) (h0 : 16 * a0.length ≤ 140737488355328) (h1 : 24 * a1.length ≤ 140737488355328) (h2 : 112 * ms.length ≤ 140737488355328) (h3 : PMirror.okL ms)
    (h4 : 8 * a3.length ≤ 140737488355328) (h5 : 80 * a4.length ≤ 140737488355328) (h6 : PMsg.okL a4) :
    Runs E 9 [.agg [.sl 1 (List.map encS a0), .sl 2 (List.map encHead a1), .sl 8 (List.map encMirror ms), .sl 1 (List.map encI a3), .sl 7 (List.map encMsg a4)] none] [.d (.v (.bool true)) none] [.u] := by
  refine runs_of [(10, [22, 23, 24])] rfl Try.func9 rfl pk_9 rfl rfl ?_
  simp [h0, h1, h2, h3, h4, h5, h6]
  refine cond_by (fun _ => by simp) (fun _ => ?_)
  simp [h0, h1, h2, h3, h4, h5, h6]
end Go.Proofs.Ytfgaikcoodagiaa

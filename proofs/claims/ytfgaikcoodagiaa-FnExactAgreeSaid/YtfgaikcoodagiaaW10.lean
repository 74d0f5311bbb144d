/- Beginnings: the program's and the reference's come to the same. -/
import Derived.Test.YtfgaikcoodagiaaW9
set_option linter.all false
namespace Go.Proofs.Ytfgaikcoodagiaa
open Go.Ev
set_option maxRecDepth 20000
set_option linter.unusedVariables false
set_option linter.unusedSimpArgs false

/-- Whether a list is the beginning of another one. -/
def begL (l l' : List ByteArray) : Bool := decide (l.length ≤ l'.length) && decide (l = l'.take l.length)

theorem r_l20Begins (l l' : List ByteArray) (hl : 16 * l.length ≤ 140737488355328) (hl' : 16 * l'.length ≤ 140737488355328) : Runs E 87 [.d (.sl 1 (l.map encS)) none, .d (.sl 1 (l'.map encS)) none] [.d (.v (.bool (begL l l'))) none] [.u, .u] := by
  refine runs_of [] rfl Try.func87 rfl pk_87 rfl rfl ?_
  by_cases h : l.length ≤ l'.length
  · simp [h, hl, begL, ← List.map_take]
  · simp [h, begL]
@[simp] theorem c_l20Begins (l l' : List ByteArray) (hl : 16 * l.length ≤ 140737488355328) (hl' : 16 * l'.length ≤ 140737488355328) {K : List X → List X → Prop} : callK E 87 [.d (.sl 1 (l.map encS)) none, .d (.sl 1 (l'.map encS)) none] K = K [.d (.v (.bool (begL l l'))) none] [.u, .u] := callK_of (r_l20Begins l l' hl hl')

theorem r_isBeginning (l l' : List ByteArray) (hl : 16 * l.length ≤ 140737488355328) (hl' : 16 * l'.length ≤ 140737488355328) : Runs E 88 [.d (.sl 1 (l.map encS)) none, .d (.sl 1 (l'.map encS)) none] [.d (.v (.bool (begL l l'))) none] [.u, .u] := by
  refine runs_of [] rfl Try.func88 rfl pk_88 rfl rfl ?_
  by_cases h : l.length ≤ l'.length
  · simp [h, hl, begL, ← List.map_take]
  · simp [h, begL]
@[simp] theorem c_isBeginning (l l' : List ByteArray) (hl : 16 * l.length ≤ 140737488355328) (hl' : 16 * l'.length ≤ 140737488355328) {K : List X → List X → Prop} : callK E 88 [.d (.sl 1 (l.map encS)) none, .d (.sl 1 (l'.map encS)) none] K = K [.d (.v (.bool (begL l l'))) none] [.u, .u] := callK_of (r_isBeginning l l' hl hl')

def begM (reg : List ByteArray) (m : PMirror) : Bool := begL m.f1 reg

theorem r_specBeginnings (a0 : List ByteArray) (tb : List PHead) (ms : List PMirror) (a3 : List Int) (a4 : List PMsg) (h0 : 16 * a0.length ≤ 140737488355328) (hl : 112 * ms.length ≤ 140737488355328) (hok : PMirror.okL ms) :
    Runs E 46 [.agg [.sl 1 (List.map encS a0), .sl 2 (List.map encHead tb), .sl 8 (List.map encMirror ms), .sl 1 (List.map encI a3), .sl 7 (List.map encMsg a4)] none] [.d (.v (.bool (allB (begM a0) ms))) none] [.u] := by
  refine runs_of [(4, [11, 12, 13, 14, 15, 16, 17, 18, 19, 20])] rfl Try.func46 rfl pk_46 rfl rfl ?_
  simp
  refine loop_by (fun k : Nat => [(1, .box [.sl 1 (List.map encS a0), .sl 2 (List.map encHead tb), .sl 8 (List.map encMirror ms), .sl 1 (List.map encI a3), .sl 7 (List.map encMsg a4)]), (3, .d (.v (.int .i64 k)) none)])
    (fun k => ∀ j (hj : j < ms.length), j < k → begM a0 ms[j] = true) (fun k => ms.length - k) 0 (fun j hj h => by omega) ?_ ?_
  · simp
  rintro k hbef
  by_cases hlt : k < ms.length
  · have hw := wrap_nat (k := k) (by omega)
    have g0 : 16 * (ms[k].f1).length ≤ 140737488355328 := (hok ms[k] (List.getElem_mem hlt)).1
    by_cases s1 : begL ms[k].f1 a0 = true
    · simp [hlt, h0, g0, s1, hw]
      exact ⟨k + 1, bef_t hbef hlt (by simp [begM, s1]), by omega, by simp⟩
    · simp [hlt, h0, g0, s1]
      exact allB_no hlt (by simp [begM, s1])
  · simp [hlt]
    exact allB_yes fun j hj => hbef j hj (by omega)
@[simp] theorem c_specBeginnings (a0 : List ByteArray) (tb : List PHead) (ms : List PMirror) (a3 : List Int) (a4 : List PMsg) (h0 : 16 * a0.length ≤ 140737488355328) (hl : 112 * ms.length ≤ 140737488355328) (hok : PMirror.okL ms) {K : List X → List X → Prop} :
    callK E 46 [.agg [.sl 1 (List.map encS a0), .sl 2 (List.map encHead tb), .sl 8 (List.map encMirror ms), .sl 1 (List.map encI a3), .sl 7 (List.map encMsg a4)] none] K = K [.d (.v (.bool (allB (begM a0) ms))) none] [.u] := callK_of (r_specBeginnings a0 tb ms a3 a4 h0 hl hok)

theorem r_implBeginnings (a0 : List ByteArray) (tb : List PHead) (ms : List PMirror) (a3 : List Int) (a4 : List PMsg) (h0 : 16 * a0.length ≤ 140737488355328) (hl : 112 * ms.length ≤ 140737488355328) (hok : PMirror.okL ms) :
    Runs E 47 [.agg [.sl 1 (List.map encS a0), .sl 2 (List.map encHead tb), .sl 8 (List.map encMirror ms), .sl 1 (List.map encI a3), .sl 7 (List.map encMsg a4)] none] [.d (.v (.bool (allB (begM a0) ms))) none] [.u] := by
  refine runs_of [] rfl Try.func47 rfl pk_47 rfl rfl ?_
  simp
  refine loop_by (fun k : Nat => [(1, .box [.sl 1 (List.map encS a0), .sl 2 (List.map encHead tb), .sl 8 (List.map encMirror ms), .sl 1 (List.map encI a3), .sl 7 (List.map encMsg a4)]),
      (6, .d (.sl 8 (List.map encMirror ms)) (some ⟨1, [(0, 2)]⟩)), (7, .d (.v (.int .i64 ms.length)) none), (8, .d (.v (.int .i64 k)) none)])
    (fun k => ∀ j (hj : j < ms.length), j < k → begM a0 ms[j] = true) (fun k => ms.length - k) 0 (fun j hj h => by omega) ?_ ?_
  · simp
  rintro k hbef
  by_cases hlt : k < ms.length
  · have hw := wrap_nat (k := k) (by omega)
    have g0 : 16 * (ms[k].f1).length ≤ 140737488355328 := (hok ms[k] (List.getElem_mem hlt)).1
    by_cases s1 : begL ms[k].f1 a0 = true
    · simp [hlt, h0, g0, s1, hw]
      exact ⟨k + 1, bef_t hbef hlt (by simp [begM, s1]), by omega, by simp⟩
    · simp [hlt, h0, g0, s1]
      exact allB_no hlt (by simp [begM, s1])
  · simp [hlt]
    exact allB_yes fun j hj => hbef j hj (by omega)
@[simp] theorem c_implBeginnings (a0 : List ByteArray) (tb : List PHead) (ms : List PMirror) (a3 : List Int) (a4 : List PMsg) (h0 : 16 * a0.length ≤ 140737488355328) (hl : 112 * ms.length ≤ 140737488355328) (hok : PMirror.okL ms) {K : List X → List X → Prop} :
    callK E 47 [.agg [.sl 1 (List.map encS a0), .sl 2 (List.map encHead tb), .sl 8 (List.map encMirror ms), .sl 1 (List.map encI a3), .sl 7 (List.map encMsg a4)] none] K = K [.d (.v (.bool (allB (begM a0) ms))) none] [.u] := callK_of (r_implBeginnings a0 tb ms a3 a4 h0 hl hok)

theorem r_law10 (a0 : List ByteArray) (a1 : List PHead) (ms : List PMirror) (a3 : List Int) (a4 : List PMsg) (h0 : 16 * a0.length ≤ 140737488355328) (h1 : 24 * a1.length ≤ 140737488355328) (h2 : 112 * ms.length ≤ 140737488355328) (h3 : PMirror.okL ms)
    (h4 : 8 * a3.length ≤ 140737488355328) (h5 : 80 * a4.length ≤ 140737488355328) (h6 : PMsg.okL a4) :
    Runs E 10 [.agg [.sl 1 (List.map encS a0), .sl 2 (List.map encHead a1), .sl 8 (List.map encMirror ms), .sl 1 (List.map encI a3), .sl 7 (List.map encMsg a4)] none] [.d (.v (.bool true)) none] [.u] := by
  refine runs_of [(10, [22, 23, 24])] rfl Try.func10 rfl pk_10 rfl rfl ?_
  simp [h0, h1, h2, h3, h4, h5, h6]
  refine cond_by (fun _ => by simp) (fun _ => ?_)
  simp [h0, h1, h2, h3, h4, h5, h6]
end Go.Proofs.Ytfgaikcoodagiaa

/- Level: the program's and the reference's come to the same. -/
import Derived.Test.YtfgaikcoodagiaaC1
set_option linter.all false
namespace Go.Proofs.Ytfgaikcoodagiaa
open Go.Ev
set_option maxRecDepth 20000
set_option linter.unusedVariables false
set_option linter.unusedSimpArgs false

theorem r_l8Same (l l' : List ByteArray) (hl : 16 * l.length ≤ 140737488355328) : Runs E 83 [.d (.sl 1 (l.map encS)) none, .d (.sl 1 (l'.map encS)) none] [.d (.v (.bool (decide (l = l')))) none] [.u, .u] := by
  refine runs_of [(6, [17, 18, 19, 20, 21, 22, 23, 24])] rfl Try.func83 rfl pk_83 rfl rfl ?_
  simp
  by_cases hn : (l.length : Int) = l'.length
  case neg => simp [hn]; rintro rfl; exact hn rfl
  simp [hn]
  have hn' : l.length = l'.length := by omega
  refine loop_by (fun k : Nat => [(0, .d (.sl 1 (l.map encS)) none), (1, .d (.sl 1 (l'.map encS)) none), (5, .d (.v (.int .i64 k)) none)])
    (fun k => k ≤ l.length ∧ ∀ j (hj : j < l.length) (hj' : j < l'.length), j < k → l[j] = l'[j]) (fun k => l.length - k) 0 ⟨Nat.zero_le _, fun _ _ _ h => by omega⟩ ?_ ?_
  · simp
  rintro k ⟨hk, hbef⟩
  by_cases hlt : k < l.length
  · have hw := wrap_nat (k := k) (by omega)
    have hlt' : k < l'.length := by omega
    by_cases hp : l[k] = l'[k]
    · simp [hlt, hlt', hp, hw]
      refine ⟨k + 1, ⟨hlt, fun j hj hj' hjk => ?_⟩, by omega, by simp⟩
      by_cases e : j = k
      · subst e; exact hp
      · exact hbef j hj hj' (by omega)
    · simp [hlt, hlt', hp]
      rintro rfl; exact hp rfl
  · simp [hlt]
    exact List.ext_getElem hn' fun j hj hj' => hbef j hj hj' (by omega)
@[simp] theorem c_l8Same (l l' : List ByteArray) (hl : 16 * l.length ≤ 140737488355328) {K : List X → List X → Prop} : callK E 83 [.d (.sl 1 (l.map encS)) none, .d (.sl 1 (l'.map encS)) none] K = K [.d (.v (.bool (decide (l = l')))) none] [.u, .u] := callK_of (r_l8Same l l' hl)

theorem r_equalS (l l' : List ByteArray) (hl : 16 * l.length ≤ 140737488355328) : Runs E 84 [.d (.sl 1 (l.map encS)) none, .d (.sl 1 (l'.map encS)) none] [.d (.v (.bool (decide (l = l')))) none] [.u, .u] := by
  refine runs_of [(6, [16, 17, 18, 19, 20, 21, 22, 23])] rfl Try.func84 rfl pk_84 rfl rfl ?_
  simp
  by_cases hn : (l.length : Int) = l'.length
  case neg => simp [hn]; rintro rfl; exact hn rfl
  simp [hn]
  have hn' : l.length = l'.length := by omega
  refine loop_by (fun k : Nat => [(0, .d (.sl 1 (l.map encS)) none), (1, .d (.sl 1 (l'.map encS)) none), (12, .d (.v (.int .i64 l.length)) none), (13, .d (.v (.int .i64 k)) none)])
    (fun k => k ≤ l.length ∧ ∀ j (hj : j < l.length) (hj' : j < l'.length), j < k → l[j] = l'[j]) (fun k => l.length - k) 0 ⟨Nat.zero_le _, fun _ _ _ h => by omega⟩ ?_ ?_
  · simp [hn']
  rintro k ⟨hk, hbef⟩
  by_cases hlt : k < l.length
  · have hw := wrap_nat (k := k) (by omega)
    have hlt' : k < l'.length := by omega
    by_cases hp : l[k] = l'[k]
    · simp [hlt, hlt', hp, hw]
      refine ⟨k + 1, ⟨hlt, fun j hj hj' hjk => ?_⟩, by omega, by simp⟩
      by_cases e : j = k
      · subst e; exact hp
      · exact hbef j hj hj' (by omega)
    · simp [hlt, hlt', hp]
      rintro rfl; exact hp rfl
  · simp [hlt]
    exact List.ext_getElem hn' fun j hj hj' => hbef j hj hj' (by omega)
@[simp] theorem c_equalS (l l' : List ByteArray) (hl : 16 * l.length ≤ 140737488355328) {K : List X → List X → Prop} : callK E 84 [.d (.sl 1 (l.map encS)) none, .d (.sl 1 (l'.map encS)) none] K = K [.d (.v (.bool (decide (l = l')))) none] [.u, .u] := callK_of (r_equalS l l' hl)

/-- All mirrors have what the first one has. -/
def levB (ms : List PMirror) : Bool := decide (∀ j (hj : j < ms.length), ms[j].f1 = (ms[0]'(by omega)).f1)

theorem bef_step {ms : List PMirror} {k : Nat} (hb : ∀ j (hj : j < ms.length), j < k → ms[j].f1 = (ms[0]'(by omega)).f1) (hlt : k < ms.length) (hp : ms[k].f1 = (ms[0]'(by omega)).f1) : ∀ j (hj : j < ms.length), j < k + 1 → ms[j].f1 = (ms[0]'(by omega)).f1 := by
  intro j hj h
  by_cases e : j = k
  · subst e; exact hp
  · exact hb j hj (by omega)
theorem levB_no {ms : List PMirror} {k : Nat} (hlt : k < ms.length) (hp : ¬ ms[k].f1 = (ms[0]'(by omega)).f1) : levB ms = false := by
  simp only [levB, decide_eq_false_iff_not]
  intro h; exact hp (h k hlt)
theorem levB_yes {ms : List PMirror} (h : ∀ j (hj : j < ms.length), ms[j].f1 = (ms[0]'(by omega)).f1) : levB ms = true := by
  simp only [levB, decide_eq_true_eq]
  exact h

theorem lev0 (ms : List PMirror) : ∀ j (hj : j < ms.length), j < 1 → ms[j].f1 = (ms[0]'(by omega)).f1 := by
  intro j hj h
  have : j = 0 := by omega
  subst this; rfl

theorem r_specLevel (a0 : List ByteArray) (a1 : List PHead) (ms : List PMirror) (a3 : List Int) (a4 : List PMsg) (hl : 112 * ms.length ≤ 140737488355328) (hok : PMirror.okL ms) :
    Runs E 42 [.agg [.sl 1 (List.map encS a0), .sl 2 (List.map encHead a1), .sl 8 (List.map encMirror ms), .sl 1 (List.map encI a3), .sl 7 (List.map encMsg a4)] none] [.d (.v (.bool (levB ms))) none] [.u] := by
  refine runs_of [(4, [11, 12, 13, 14, 15, 16, 17, 18, 19, 20, 21, 22, 23, 24, 25])] rfl Try.func42 rfl pk_42 rfl rfl ?_
  simp
  refine loop_by (fun k : Nat => [(1, .box [.sl 1 (List.map encS a0), .sl 2 (List.map encHead a1), .sl 8 (List.map encMirror ms), .sl 1 (List.map encI a3), .sl 7 (List.map encMsg a4)]), (3, .d (.v (.int .i64 k)) none)])
    (fun k => 1 ≤ k ∧ ∀ j (hj : j < ms.length), j < k → ms[j].f1 = (ms[0]'(by omega)).f1) (fun k => ms.length - k) 1 ⟨Nat.le_refl _, lev0 ms⟩ ?_ ?_
  · simp
  rintro k ⟨hk, hbef⟩
  by_cases hlt : k < ms.length
  · have hw := wrap_nat (k := k) (by omega)
    have h0 : 0 < ms.length := by omega
    have g0 : 16 * (ms[k].f1).length ≤ 140737488355328 := (hok ms[k] (List.getElem_mem hlt)).1
    have g1 : 16 * (ms[0].f1).length ≤ 140737488355328 := (hok ms[0] (List.getElem_mem h0)).1
    by_cases hp : ms[k].f1 = ms[0].f1
    · simp [hlt, h0, hp, hw, g0, g1]
      exact ⟨k + 1, ⟨by omega, bef_step hbef hlt hp⟩, by omega, by simp⟩
    · simp [hlt, h0, hp, g0, g1]
      exact levB_no hlt hp
  · simp [hlt]
    exact levB_yes fun j hj => hbef j hj (by omega)
@[simp] theorem c_specLevel (a0 : List ByteArray) (a1 : List PHead) (ms : List PMirror) (a3 : List Int) (a4 : List PMsg) (hl : 112 * ms.length ≤ 140737488355328) (hok : PMirror.okL ms) {K : List X → List X → Prop} :
    callK E 42 [.agg [.sl 1 (List.map encS a0), .sl 2 (List.map encHead a1), .sl 8 (List.map encMirror ms), .sl 1 (List.map encI a3), .sl 7 (List.map encMsg a4)] none] K = K [.d (.v (.bool (levB ms))) none] [.u] := callK_of (r_specLevel a0 a1 ms a3 a4 hl hok)

theorem r_implLevel (a0 : List ByteArray) (a1 : List PHead) (ms : List PMirror) (a3 : List Int) (a4 : List PMsg) (hl : 112 * ms.length ≤ 140737488355328) (hok : PMirror.okL ms) :
    Runs E 43 [.agg [.sl 1 (List.map encS a0), .sl 2 (List.map encHead a1), .sl 8 (List.map encMirror ms), .sl 1 (List.map encI a3), .sl 7 (List.map encMsg a4)] none] [.d (.v (.bool (levB ms))) none] [.u] := by
  refine runs_of [(4, [12, 13, 14, 15, 16, 17, 18, 19, 20, 21, 22])] rfl Try.func43 rfl pk_43 rfl rfl ?_
  simp
  refine loop_by (fun k : Nat => [(1, .box [.sl 1 (List.map encS a0), .sl 2 (List.map encHead a1), .sl 8 (List.map encMirror ms), .sl 1 (List.map encI a3), .sl 7 (List.map encMsg a4)]),
      (6, .d (.sl 8 (List.map encMirror ms)) (some ⟨1, [(0, 2)]⟩)), (7, .d (.v (.int .i64 ms.length)) none), (8, .d (.v (.int .i64 k)) none)])
    (fun k => ∀ j (hj : j < ms.length), j < k → ms[j].f1 = (ms[0]'(by omega)).f1) (fun k => ms.length - k) 0 (fun j hj h => by omega) ?_ ?_
  · simp
  rintro k hbef
  by_cases hlt : k < ms.length
  · have hw := wrap_nat (k := k) (by omega)
    have h0 : 0 < ms.length := by omega
    have g0 : 16 * (ms[k].f1).length ≤ 140737488355328 := (hok ms[k] (List.getElem_mem hlt)).1
    have g1 : 16 * (ms[0].f1).length ≤ 140737488355328 := (hok ms[0] (List.getElem_mem h0)).1
    by_cases hp : ms[k].f1 = ms[0].f1
    · simp [hlt, h0, hp, hw, g0, g1]
      exact ⟨k + 1, bef_step hbef hlt hp, by omega, by simp⟩
    · simp [hlt, h0, hp, g0, g1]
      exact levB_no hlt hp
  · simp [hlt]
    exact levB_yes fun j hj => hbef j hj (by omega)
@[simp] theorem c_implLevel (a0 : List ByteArray) (a1 : List PHead) (ms : List PMirror) (a3 : List Int) (a4 : List PMsg) (hl : 112 * ms.length ≤ 140737488355328) (hok : PMirror.okL ms) {K : List X → List X → Prop} :
    callK E 43 [.agg [.sl 1 (List.map encS a0), .sl 2 (List.map encHead a1), .sl 8 (List.map encMirror ms), .sl 1 (List.map encI a3), .sl 7 (List.map encMsg a4)] none] K = K [.d (.v (.bool (levB ms))) none] [.u] := callK_of (r_implLevel a0 a1 ms a3 a4 hl hok)

theorem r_law8 (a0 : List ByteArray) (a1 : List PHead) (ms : List PMirror) (a3 : List Int) (a4 : List PMsg) (h0 : 16 * a0.length ≤ 140737488355328) (h1 : 24 * a1.length ≤ 140737488355328) (h2 : 112 * ms.length ≤ 140737488355328) (h3 : PMirror.okL ms)
    (h4 : 8 * a3.length ≤ 140737488355328) (h5 : 80 * a4.length ≤ 140737488355328) (h6 : PMsg.okL a4) :
    Runs E 8 [.agg [.sl 1 (List.map encS a0), .sl 2 (List.map encHead a1), .sl 8 (List.map encMirror ms), .sl 1 (List.map encI a3), .sl 7 (List.map encMsg a4)] none] [.d (.v (.bool true)) none] [.u] := by
  refine runs_of [(10, [22, 23, 24])] rfl Try.func8 rfl pk_8 rfl rfl ?_
  simp [h0, h1, h2, h3, h4, h5, h6]
  refine cond_by (fun _ => by simp) (fun _ => ?_)
  simp [h0, h1, h2, h3, h4, h5, h6]
end Go.Proofs.Ytfgaikcoodagiaa

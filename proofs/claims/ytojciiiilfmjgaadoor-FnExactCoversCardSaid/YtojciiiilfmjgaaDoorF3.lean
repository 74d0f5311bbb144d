/- The law FnExactCovers: its walk. -/
import Derived.Test.YtojciiiilfmjgaaDoorVC
set_option linter.all false
namespace Go.Proofs.YtojciiiilfmjgaaDoor
open Go.Ev
set_option maxRecDepth 20000
set_option linter.unusedVariables false
set_option linter.unusedSimpArgs false

set_option maxHeartbeats 2000000 in
theorem r_lawCovers (l m : List PNeed) (hl : 56 * l.length ≤ 140737488355328) (hs : ∀ y ∈ l, y.small) (hm : 56 * m.length ≤ 140737488355328) (hs2 : ∀ y ∈ m, y.small) :
    Runs E 3 [.d (.sl 5 (List.map encNeed l)) none, .d (.sl 5 (List.map encNeed m)) none] [.d (.v (.bool true)) none] [.u, .u] := by
  refine runs_of [] rfl Tryd.func3 rfl pk_3 rfl rfl ?_
  have hv1 := q_szNeedS l 1048576 (by omega) (by omega) hl hs
  simp only at hv1
  simp [hl]
  refine cond_by (fun h => by simp) (fun h => ?_)
  simp at h
  have g1 : allFine l := by
    rcases hv1 with h' | h'
    · omega
    · exact h'.2
  have hle : szv E 5 [.d (.sl 5 (List.map encNeed l)) none, .d (.v (.int .i64 1048576)) none] ≤ 1048576 := by
    rcases hv1 with h' | h' <;> omega
  have hv2 := q_szNeedS m _ h hle hm hs2
  simp only at hv2
  simp [hm]
  refine cond_by (fun h => by simp) (fun h2 => ?_)
  simp at h2
  have g2 : allFine m := by
    rcases hv2 with h' | h'
    · omega
    · exact h'.2
  simp [hl, hm, g1, g2]
end Go.Proofs.YtojciiiilfmjgaaDoor

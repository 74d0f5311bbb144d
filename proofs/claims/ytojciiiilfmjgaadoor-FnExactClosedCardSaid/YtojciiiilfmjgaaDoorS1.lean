/- The types of this program, and what was found of its functions by the check. -/
import Derived.Test.YtojciiiilfmjgaaDoorRows
import Derived.WalkKit
import Derived.Test.YtojciiiilfmjgaaDoorEv7
set_option linter.all false
namespace Go.Proofs.YtojciiiilfmjgaaDoor
open Go.Ev
set_option linter.unusedSimpArgs false
set_option linter.unusedVariables false
set_option maxHeartbeats 1000000 in
theorem eqf40 : EqFact Tryd.prog 40 [.zi .i64, .zi .i64, .zi .i64, .zs] := by
  intro x y xs ys b w h
  obtain ⟨p0, q0, xs0, ys0, r0, rfl, rfl, h0, rfl⟩ := leaf_int h
  obtain ⟨p1, q1, xs1, ys1, r1, rfl, rfl, h1, rfl⟩ := leaf_int h0
  obtain ⟨p2, q2, xs2, ys2, r2, rfl, rfl, h2, rfl⟩ := leaf_int h1
  obtain ⟨p3, q3, xs3, ys3, r3, rfl, rfl, h3, rfl⟩ := leaf_str h2
  obtain ⟨rfl, rfl, rfl⟩ := leaf_nil h3
  have hg : Tryd.prog.eqGuardType Tryd.prog.depth 40 = false := by kernel_rfl
  clear h h0 h1 h2 h3
  constructor <;> (simp only [eqGuard, Sem.run_bind]; go_simp; (repeat' split) <;> simp_all)

set_option maxHeartbeats 1000000 in
theorem eqf42 : EqFact Tryd.prog 42 [.zs, .zi .i64, .zi .i64, .zi .i64, .zs] := by
  intro x y xs ys b w h
  obtain ⟨p0, q0, xs0, ys0, r0, rfl, rfl, h0, rfl⟩ := leaf_str h
  obtain ⟨p1, q1, xs1, ys1, r1, rfl, rfl, h1, rfl⟩ := leaf_int h0
  obtain ⟨p2, q2, xs2, ys2, r2, rfl, rfl, h2, rfl⟩ := leaf_int h1
  obtain ⟨p3, q3, xs3, ys3, r3, rfl, rfl, h3, rfl⟩ := leaf_int h2
  obtain ⟨p4, q4, xs4, ys4, r4, rfl, rfl, h4, rfl⟩ := leaf_str h3
  obtain ⟨rfl, rfl, rfl⟩ := leaf_nil h4
  have hg : Tryd.prog.eqGuardType Tryd.prog.depth 42 = false := by kernel_rfl
  clear h h0 h1 h2 h3 h4
  constructor <;> (simp only [eqGuard, Sem.run_bind]; go_simp; (repeat' split) <;> simp_all)

def tab : List TE := [
  { t := 1, size := 1, agg := false, zero := [.zx] },
  { t := 2, size := 1, agg := false, zero := [.zi .i64] },
  { t := 3, size := 1, agg := false, zero := [.zi .i64] },
  { t := 4, size := 1, agg := false, zero := [.zb], kd := 1 },
  { t := 5, size := 1, agg := false, zero := [.zi .u8] },
  { t := 9, size := 1, agg := false, zero := [.zs], kd := 2 },
  { t := 12, size := 1, agg := false, zero := [.zi .u64] },
  { t := 21, size := 1, agg := false, zero := [.zi .i32] },
  { t := 22, size := 1, agg := false, el := some (39, 5, 56), zero := [.zl 5] },
  { t := 23, size := 1, agg := false, zero := [.zx] },
  { t := 24, size := 1, agg := false, zero := [.zx] },
  { t := 25, size := 1, agg := false, el := some (42, 5, 56), zero := [.zl 5] },
  { t := 26, size := 1, agg := false, zero := [.zx] },
  { t := 27, size := 1, agg := false, zero := [.zx] },
  { t := 28, size := 1, agg := false, el := some (50, 6, 80), zero := [.zl 6] },
  { t := 29, size := 1, agg := false, zero := [.zx] },
  { t := 30, size := 1, agg := false, zero := [.zx] },
  { t := 31, size := 1, agg := false, el := some (53, 6, 80), zero := [.zl 6] },
  { t := 32, size := 1, agg := false, zero := [.zx] },
  { t := 33, size := 1, agg := false, zero := [.zx] },
  { t := 34, size := 1, agg := false, zero := [.zx] },
  { t := 35, size := 1, agg := false, zero := [.zx] },
  { t := 37, size := 4, agg := true, flds := [0, 1, 2, 3], zero := [.zi .i64, .zi .i64, .zi .i64, .zs] },
  { t := 39, size := 5, agg := true, flds := [0, 1], zero := [.zs, .zi .i64, .zi .i64, .zi .i64, .zs] },
  { t := 40, size := 4, agg := true, flds := [0, 1, 2, 3], zero := [.zi .i64, .zi .i64, .zi .i64, .zs], eq := true },
  { t := 42, size := 5, agg := true, flds := [0, 1], zero := [.zs, .zi .i64, .zi .i64, .zi .i64, .zs], eq := true },
  { t := 43, size := 1, agg := false, zero := [.zx] },
  { t := 44, size := 1, agg := false, zero := [.zx] },
  { t := 45, size := 1, agg := false, zero := [.zx] },
  { t := 46, size := 1, agg := false, zero := [.zx] },
  { t := 47, size := 1, agg := false, zero := [.zx] },
  { t := 48, size := 1, agg := false, zero := [.zx] },
  { t := 50, size := 6, agg := true, flds := [0, 1, 5], zero := [.zs, .zi .i64, .zi .i64, .zi .i64, .zs, .zl 5] },
  { t := 51, size := 1, agg := false, zero := [.zx] },
  { t := 53, size := 6, agg := true, flds := [0, 1, 5], zero := [.zs, .zi .i64, .zi .i64, .zi .i64, .zs, .zl 5] },
  { t := 54, size := 1, agg := false, zero := [.zx] },
  { t := 55, size := 1, agg := false, zero := [.zx] },
  { t := 56, size := 1, agg := false, zero := [.zx] },
  { t := 57, size := 1, agg := false, zero := [.zx] },
  { t := 58, size := 1, agg := false, zero := [.zx] },
  { t := 59, size := 1, agg := false, zero := [.zx] },
  { t := 60, size := 1, agg := false, zero := [.zx] },
  { t := 61, size := 1, agg := false, el := some (9, 1, 16), zero := [.zl 1] },
  { t := 62, size := 1, agg := false, zero := [.zx] },
  { t := 63, size := 1, agg := false, zero := [.zx] },
  { t := 64, size := 1, agg := false, zero := [.zx] },
  { t := 65, size := 1, agg := false, zero := [.zx] },
  { t := 66, size := 1, agg := false, zero := [.zx] },
  { t := 67, size := 1, agg := false, el := some (3, 1, 8), zero := [.zl 1] },
  { t := 68, size := 1, agg := false, zero := [.zx] },
  { t := 69, size := 1, agg := false, zero := [.zx] },
  { t := 70, size := 1, agg := false, zero := [.zx] },
  { t := 71, size := 1, agg := false, zero := [.zx] },
  { t := 72, size := 1, agg := false, zero := [.zx] },
  { t := 73, size := 1, agg := false, zero := [.zx] },
  { t := 75, size := 1, agg := false, zero := [.zx] },
  { t := 76, size := 1, agg := false, zero := [.zx] },
  { t := 77, size := 1, agg := false, zero := [.zx] },
  { t := 78, size := 1, agg := false, zero := [.zx] },
  { t := 79, size := 1, agg := false, zero := [.zi .u64] },
  { t := 82, size := 2, agg := true, flds := [0, 1], zero := [.zi .u8, .zi .u8] },
  { t := 83, size := 32, agg := true, ar := some (16, 82, 2), zero := [.zi .u8, .zi .u8, .zi .u8, .zi .u8, .zi .u8, .zi .u8, .zi .u8, .zi .u8, .zi .u8, .zi .u8, .zi .u8, .zi .u8, .zi .u8, .zi .u8, .zi .u8, .zi .u8, .zi .u8, .zi .u8, .zi .u8, .zi .u8, .zi .u8, .zi .u8, .zi .u8, .zi .u8, .zi .u8, .zi .u8, .zi .u8, .zi .u8, .zi .u8, .zi .u8, .zi .u8, .zi .u8] },
  { t := 84, size := 1, agg := false, zero := [.zi .u32] },
  { t := 86, size := 1, agg := false, zero := [.zx] },
  { t := 87, size := 1, agg := false, zero := [.zx] },
  { t := 93, size := 1, agg := false, zero := [.zx] },
  { t := 96, size := 1, agg := false, zero := [.zx] }]
theorem tab_ok : tab.all (·.ok Tryd.prog) = true := by kernel_rfl
theorem tab_okF : tab.all (·.okF Tryd.prog) = true := by kernel_rfl
theorem eq_ok : ∀ e ∈ tab, e.eq = true → EqFact Tryd.prog e.t e.zero := by
  intro e he hq
  simp only [tab, List.mem_cons, List.not_mem_nil, or_false] at he
  rcases he with rfl | rfl | rfl | rfl | rfl | rfl | rfl | rfl | rfl | rfl | rfl | rfl | rfl | rfl | rfl | rfl | rfl | rfl | rfl | rfl | rfl | rfl | rfl | rfl | rfl | rfl | rfl | rfl | rfl | rfl | rfl | rfl | rfl | rfl | rfl | rfl | rfl | rfl | rfl | rfl | rfl | rfl | rfl | rfl | rfl | rfl | rfl | rfl | rfl | rfl | rfl | rfl | rfl | rfl | rfl | rfl | rfl | rfl | rfl | rfl | rfl | rfl | rfl | rfl | rfl | rfl | rfl
  all_goals first | (cases hq; done) | exact eqf40 | exact eqf42
def tabs : List (Nat × Array Value) := []
theorem mixed : Tryd.prog.follows .mixedOrders = true := by kernel_rfl
noncomputable def env : Env := ⟨Tryd.prog, tab, mixed, tab_ok, tab_okF, eq_ok, tabs⟩
theorem tabs_ok {W : World} : ∀ q ∈ env.tabs, ∃ t fz, W.heap[q.1]? = some (.cells q.2 t fz) := by intro q hq; cases hq
@[simp] theorem tab_1 : TE.find tab 1 = some { t := 1, size := 1, agg := false, zero := [.zx] } := rfl
@[simp] theorem tab_2 : TE.find tab 2 = some { t := 2, size := 1, agg := false, zero := [.zi .i64] } := rfl
@[simp] theorem tab_3 : TE.find tab 3 = some { t := 3, size := 1, agg := false, zero := [.zi .i64] } := rfl
@[simp] theorem tab_4 : TE.find tab 4 = some { t := 4, size := 1, agg := false, zero := [.zb], kd := 1 } := rfl
@[simp] theorem tab_5 : TE.find tab 5 = some { t := 5, size := 1, agg := false, zero := [.zi .u8] } := rfl
@[simp] theorem tab_9 : TE.find tab 9 = some { t := 9, size := 1, agg := false, zero := [.zs], kd := 2 } := rfl
@[simp] theorem tab_12 : TE.find tab 12 = some { t := 12, size := 1, agg := false, zero := [.zi .u64] } := rfl
@[simp] theorem tab_21 : TE.find tab 21 = some { t := 21, size := 1, agg := false, zero := [.zi .i32] } := rfl
@[simp] theorem tab_22 : TE.find tab 22 = some { t := 22, size := 1, agg := false, el := some (39, 5, 56), zero := [.zl 5] } := rfl
@[simp] theorem tab_23 : TE.find tab 23 = some { t := 23, size := 1, agg := false, zero := [.zx] } := rfl
@[simp] theorem tab_24 : TE.find tab 24 = some { t := 24, size := 1, agg := false, zero := [.zx] } := rfl
@[simp] theorem tab_25 : TE.find tab 25 = some { t := 25, size := 1, agg := false, el := some (42, 5, 56), zero := [.zl 5] } := rfl
@[simp] theorem tab_26 : TE.find tab 26 = some { t := 26, size := 1, agg := false, zero := [.zx] } := rfl
@[simp] theorem tab_27 : TE.find tab 27 = some { t := 27, size := 1, agg := false, zero := [.zx] } := rfl
@[simp] theorem tab_28 : TE.find tab 28 = some { t := 28, size := 1, agg := false, el := some (50, 6, 80), zero := [.zl 6] } := rfl
@[simp] theorem tab_29 : TE.find tab 29 = some { t := 29, size := 1, agg := false, zero := [.zx] } := rfl
@[simp] theorem tab_30 : TE.find tab 30 = some { t := 30, size := 1, agg := false, zero := [.zx] } := rfl
@[simp] theorem tab_31 : TE.find tab 31 = some { t := 31, size := 1, agg := false, el := some (53, 6, 80), zero := [.zl 6] } := rfl
@[simp] theorem tab_32 : TE.find tab 32 = some { t := 32, size := 1, agg := false, zero := [.zx] } := rfl
@[simp] theorem tab_33 : TE.find tab 33 = some { t := 33, size := 1, agg := false, zero := [.zx] } := rfl
@[simp] theorem tab_34 : TE.find tab 34 = some { t := 34, size := 1, agg := false, zero := [.zx] } := rfl
@[simp] theorem tab_35 : TE.find tab 35 = some { t := 35, size := 1, agg := false, zero := [.zx] } := rfl
@[simp] theorem tab_37 : TE.find tab 37 = some { t := 37, size := 4, agg := true, flds := [0, 1, 2, 3], zero := [.zi .i64, .zi .i64, .zi .i64, .zs] } := rfl
@[simp] theorem tab_39 : TE.find tab 39 = some { t := 39, size := 5, agg := true, flds := [0, 1], zero := [.zs, .zi .i64, .zi .i64, .zi .i64, .zs] } := rfl
@[simp] theorem tab_40 : TE.find tab 40 = some { t := 40, size := 4, agg := true, flds := [0, 1, 2, 3], zero := [.zi .i64, .zi .i64, .zi .i64, .zs], eq := true } := rfl
@[simp] theorem tab_42 : TE.find tab 42 = some { t := 42, size := 5, agg := true, flds := [0, 1], zero := [.zs, .zi .i64, .zi .i64, .zi .i64, .zs], eq := true } := rfl
@[simp] theorem tab_43 : TE.find tab 43 = some { t := 43, size := 1, agg := false, zero := [.zx] } := rfl
@[simp] theorem tab_44 : TE.find tab 44 = some { t := 44, size := 1, agg := false, zero := [.zx] } := rfl
@[simp] theorem tab_45 : TE.find tab 45 = some { t := 45, size := 1, agg := false, zero := [.zx] } := rfl
@[simp] theorem tab_46 : TE.find tab 46 = some { t := 46, size := 1, agg := false, zero := [.zx] } := rfl
@[simp] theorem tab_47 : TE.find tab 47 = some { t := 47, size := 1, agg := false, zero := [.zx] } := rfl
@[simp] theorem tab_48 : TE.find tab 48 = some { t := 48, size := 1, agg := false, zero := [.zx] } := rfl
@[simp] theorem tab_50 : TE.find tab 50 = some { t := 50, size := 6, agg := true, flds := [0, 1, 5], zero := [.zs, .zi .i64, .zi .i64, .zi .i64, .zs, .zl 5] } := rfl
@[simp] theorem tab_51 : TE.find tab 51 = some { t := 51, size := 1, agg := false, zero := [.zx] } := rfl
@[simp] theorem tab_53 : TE.find tab 53 = some { t := 53, size := 6, agg := true, flds := [0, 1, 5], zero := [.zs, .zi .i64, .zi .i64, .zi .i64, .zs, .zl 5] } := rfl
@[simp] theorem tab_54 : TE.find tab 54 = some { t := 54, size := 1, agg := false, zero := [.zx] } := rfl
@[simp] theorem tab_55 : TE.find tab 55 = some { t := 55, size := 1, agg := false, zero := [.zx] } := rfl
@[simp] theorem tab_56 : TE.find tab 56 = some { t := 56, size := 1, agg := false, zero := [.zx] } := rfl
@[simp] theorem tab_57 : TE.find tab 57 = some { t := 57, size := 1, agg := false, zero := [.zx] } := rfl
@[simp] theorem tab_58 : TE.find tab 58 = some { t := 58, size := 1, agg := false, zero := [.zx] } := rfl
@[simp] theorem tab_59 : TE.find tab 59 = some { t := 59, size := 1, agg := false, zero := [.zx] } := rfl
@[simp] theorem tab_60 : TE.find tab 60 = some { t := 60, size := 1, agg := false, zero := [.zx] } := rfl
@[simp] theorem tab_61 : TE.find tab 61 = some { t := 61, size := 1, agg := false, el := some (9, 1, 16), zero := [.zl 1] } := rfl
@[simp] theorem tab_62 : TE.find tab 62 = some { t := 62, size := 1, agg := false, zero := [.zx] } := rfl
@[simp] theorem tab_63 : TE.find tab 63 = some { t := 63, size := 1, agg := false, zero := [.zx] } := rfl
@[simp] theorem tab_64 : TE.find tab 64 = some { t := 64, size := 1, agg := false, zero := [.zx] } := rfl
@[simp] theorem tab_65 : TE.find tab 65 = some { t := 65, size := 1, agg := false, zero := [.zx] } := rfl
@[simp] theorem tab_66 : TE.find tab 66 = some { t := 66, size := 1, agg := false, zero := [.zx] } := rfl
@[simp] theorem tab_67 : TE.find tab 67 = some { t := 67, size := 1, agg := false, el := some (3, 1, 8), zero := [.zl 1] } := rfl
@[simp] theorem tab_68 : TE.find tab 68 = some { t := 68, size := 1, agg := false, zero := [.zx] } := rfl
@[simp] theorem tab_69 : TE.find tab 69 = some { t := 69, size := 1, agg := false, zero := [.zx] } := rfl
@[simp] theorem tab_70 : TE.find tab 70 = some { t := 70, size := 1, agg := false, zero := [.zx] } := rfl
@[simp] theorem tab_71 : TE.find tab 71 = some { t := 71, size := 1, agg := false, zero := [.zx] } := rfl
@[simp] theorem tab_72 : TE.find tab 72 = some { t := 72, size := 1, agg := false, zero := [.zx] } := rfl
@[simp] theorem tab_73 : TE.find tab 73 = some { t := 73, size := 1, agg := false, zero := [.zx] } := rfl
@[simp] theorem tab_75 : TE.find tab 75 = some { t := 75, size := 1, agg := false, zero := [.zx] } := rfl
@[simp] theorem tab_76 : TE.find tab 76 = some { t := 76, size := 1, agg := false, zero := [.zx] } := rfl
@[simp] theorem tab_77 : TE.find tab 77 = some { t := 77, size := 1, agg := false, zero := [.zx] } := rfl
@[simp] theorem tab_78 : TE.find tab 78 = some { t := 78, size := 1, agg := false, zero := [.zx] } := rfl
@[simp] theorem tab_79 : TE.find tab 79 = some { t := 79, size := 1, agg := false, zero := [.zi .u64] } := rfl
@[simp] theorem tab_82 : TE.find tab 82 = some { t := 82, size := 2, agg := true, flds := [0, 1], zero := [.zi .u8, .zi .u8] } := rfl
@[simp] theorem tab_83 : TE.find tab 83 = some { t := 83, size := 32, agg := true, ar := some (16, 82, 2), zero := [.zi .u8, .zi .u8, .zi .u8, .zi .u8, .zi .u8, .zi .u8, .zi .u8, .zi .u8, .zi .u8, .zi .u8, .zi .u8, .zi .u8, .zi .u8, .zi .u8, .zi .u8, .zi .u8, .zi .u8, .zi .u8, .zi .u8, .zi .u8, .zi .u8, .zi .u8, .zi .u8, .zi .u8, .zi .u8, .zi .u8, .zi .u8, .zi .u8, .zi .u8, .zi .u8, .zi .u8, .zi .u8] } := rfl
@[simp] theorem tab_84 : TE.find tab 84 = some { t := 84, size := 1, agg := false, zero := [.zi .u32] } := rfl
@[simp] theorem tab_86 : TE.find tab 86 = some { t := 86, size := 1, agg := false, zero := [.zx] } := rfl
@[simp] theorem tab_87 : TE.find tab 87 = some { t := 87, size := 1, agg := false, zero := [.zx] } := rfl
@[simp] theorem tab_93 : TE.find tab 93 = some { t := 93, size := 1, agg := false, zero := [.zx] } := rfl
@[simp] theorem tab_96 : TE.find tab 96 = some { t := 96, size := 1, agg := false, zero := [.zx] } := rfl
end Go.Proofs.YtojciiiilfmjgaaDoor

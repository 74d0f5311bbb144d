/- The types of this program, and what was found of its functions by the check. -/
import Derived.Test.YtfgaikcoodagiaaRows
import Derived.WalkKit
import Derived.Test.YtfgaikcoodagiaaEv7
import Derived.Test.YtfgaikcoodagiaaEv6
set_option linter.all false
namespace Go.Proofs.Ytfgaikcoodagiaa
open Go.Ev
set_option linter.unusedSimpArgs false
set_option linter.unusedVariables false
set_option maxHeartbeats 1000000 in
theorem eqf26 : EqFact Try.prog 26 [.zi .i64, .zi .i64, .zi .i64, .zs] := by
  intro x y xs ys b w h
  obtain ⟨p0, q0, xs0, ys0, r0, rfl, rfl, h0, rfl⟩ := leaf_int h
  obtain ⟨p1, q1, xs1, ys1, r1, rfl, rfl, h1, rfl⟩ := leaf_int h0
  obtain ⟨p2, q2, xs2, ys2, r2, rfl, rfl, h2, rfl⟩ := leaf_int h1
  obtain ⟨p3, q3, xs3, ys3, r3, rfl, rfl, h3, rfl⟩ := leaf_str h2
  obtain ⟨rfl, rfl, rfl⟩ := leaf_nil h3
  have hg : Try.prog.eqGuardType Try.prog.depth 26 = false := by kernel_rfl
  clear h h0 h1 h2 h3
  constructor <;> (simp only [eqGuard, Sem.run_bind]; go_simp; (repeat' split) <;> simp_all)

set_option maxHeartbeats 1000000 in
theorem eqf38 : EqFact Try.prog 38 [.zs, .zi .i64, .zi .i64, .zi .i64, .zs] := by
  intro x y xs ys b w h
  obtain ⟨p0, q0, xs0, ys0, r0, rfl, rfl, h0, rfl⟩ := leaf_str h
  obtain ⟨p1, q1, xs1, ys1, r1, rfl, rfl, h1, rfl⟩ := leaf_int h0
  obtain ⟨p2, q2, xs2, ys2, r2, rfl, rfl, h2, rfl⟩ := leaf_int h1
  obtain ⟨p3, q3, xs3, ys3, r3, rfl, rfl, h3, rfl⟩ := leaf_int h2
  obtain ⟨p4, q4, xs4, ys4, r4, rfl, rfl, h4, rfl⟩ := leaf_str h3
  obtain ⟨rfl, rfl, rfl⟩ := leaf_nil h4
  have hg : Try.prog.eqGuardType Try.prog.depth 38 = false := by kernel_rfl
  clear h h0 h1 h2 h3 h4
  constructor <;> (simp only [eqGuard, Sem.run_bind]; go_simp; (repeat' split) <;> simp_all)

set_option maxHeartbeats 1000000 in
theorem eqf101 : EqFact Try.prog 101 [.zi .i64, .zs] := by
  intro x y xs ys b w h
  obtain ⟨p0, q0, xs0, ys0, r0, rfl, rfl, h0, rfl⟩ := leaf_int h
  obtain ⟨p1, q1, xs1, ys1, r1, rfl, rfl, h1, rfl⟩ := leaf_str h0
  obtain ⟨rfl, rfl, rfl⟩ := leaf_nil h1
  have hg : Try.prog.eqGuardType Try.prog.depth 101 = false := by kernel_rfl
  clear h h0 h1
  constructor <;> (simp only [eqGuard, Sem.run_bind]; go_simp; (repeat' split) <;> simp_all)

def tab : List TE := [
  { t := 1, size := 1, agg := false, zero := [.zx] },
  { t := 2, size := 1, agg := false, zero := [.zi .i64] },
  { t := 3, size := 1, agg := false, zero := [.zi .i64] },
  { t := 4, size := 1, agg := false, zero := [.zb], kd := 1 },
  { t := 5, size := 1, agg := false, zero := [.zi .u8] },
  { t := 9, size := 1, agg := false, zero := [.zs], kd := 2 },
  { t := 12, size := 1, agg := false, zero := [.zi .u64] },
  { t := 21, size := 1, agg := false, zero := [.zi .i32] },
  { t := 22, size := 1, agg := false, el := some (5, 1, 1), zero := [.zl 1] },
  { t := 23, size := 1, agg := false, zero := [.zx] },
  { t := 24, size := 1, agg := false, el := some (31, 6, 80), zero := [.zl 6] },
  { t := 26, size := 4, agg := true, flds := [0, 1, 2, 3], zero := [.zi .i64, .zi .i64, .zi .i64, .zs], eq := true },
  { t := 28, size := 1, agg := false, zero := [.zx] },
  { t := 29, size := 1, agg := false, el := some (38, 5, 56), zero := [.zl 5] },
  { t := 31, size := 6, agg := true, flds := [0, 1, 5], zero := [.zs, .zi .i64, .zi .i64, .zi .i64, .zs, .zl 5] },
  { t := 33, size := 1, agg := false, zero := [.zx] },
  { t := 34, size := 1, agg := false, el := some (26, 4, 40), zero := [.zl 4] },
  { t := 35, size := 1, agg := false, zero := [.zx] },
  { t := 36, size := 1, agg := false, zero := [.zx] },
  { t := 38, size := 5, agg := true, flds := [0, 1], zero := [.zs, .zi .i64, .zi .i64, .zi .i64, .zs], eq := true },
  { t := 39, size := 1, agg := false, el := some (86, 6, 80), zero := [.zl 6] },
  { t := 40, size := 1, agg := false, el := some (89, 5, 56), zero := [.zl 5] },
  { t := 41, size := 1, agg := false, zero := [.zx] },
  { t := 42, size := 1, agg := false, zero := [.zx] },
  { t := 43, size := 1, agg := false, zero := [.zx] },
  { t := 44, size := 1, agg := false, zero := [.zx] },
  { t := 45, size := 1, agg := false, zero := [.zx] },
  { t := 46, size := 1, agg := false, zero := [.zx] },
  { t := 47, size := 1, agg := false, zero := [.zx] },
  { t := 48, size := 1, agg := false, zero := [.zx] },
  { t := 49, size := 1, agg := false, zero := [.zx] },
  { t := 50, size := 1, agg := false, zero := [.zx] },
  { t := 51, size := 1, agg := false, zero := [.zx] },
  { t := 52, size := 1, agg := false, zero := [.zx] },
  { t := 53, size := 4, agg := true, flds := [0, 1, 2, 3], zero := [.zi .i64, .zi .i64, .zi .i64, .zs] },
  { t := 54, size := 1, agg := false, zero := [.zx] },
  { t := 55, size := 1, agg := false, zero := [.zx] },
  { t := 56, size := 1, agg := false, zero := [.zx] },
  { t := 57, size := 1, agg := false, zero := [.zx] },
  { t := 58, size := 1, agg := false, zero := [.zx] },
  { t := 59, size := 1, agg := false, el := some (9, 1, 16), zero := [.zl 1] },
  { t := 60, size := 1, agg := false, el := some (130, 2, 24), zero := [.zl 2] },
  { t := 61, size := 1, agg := false, el := some (137, 8, 112), zero := [.zl 8] },
  { t := 62, size := 1, agg := false, el := some (3, 1, 8), zero := [.zl 1] },
  { t := 63, size := 1, agg := false, el := some (140, 7, 80), zero := [.zl 7] },
  { t := 65, size := 5, agg := true, flds := [0, 1, 2, 3, 4], zero := [.zl 1, .zl 2, .zl 8, .zl 1, .zl 7] },
  { t := 66, size := 1, agg := false, zero := [.zx] },
  { t := 67, size := 1, agg := false, zero := [.zx] },
  { t := 68, size := 1, agg := false, el := some (101, 2, 24), zero := [.zl 2] },
  { t := 69, size := 1, agg := false, el := some (119, 8, 112), zero := [.zl 8] },
  { t := 70, size := 1, agg := false, el := some (144, 7, 80), zero := [.zl 7] },
  { t := 72, size := 5, agg := true, flds := [0, 1, 2, 3, 4], zero := [.zl 1, .zl 2, .zl 8, .zl 1, .zl 7] },
  { t := 73, size := 1, agg := false, zero := [.zx] },
  { t := 74, size := 1, agg := false, zero := [.zx] },
  { t := 75, size := 1, agg := false, zero := [.zx] },
  { t := 77, size := 1, agg := false, zero := [.zx] },
  { t := 78, size := 1, agg := false, zero := [.zx] },
  { t := 79, size := 1, agg := false, zero := [.zx] },
  { t := 80, size := 1, agg := false, zero := [.zx] },
  { t := 81, size := 1, agg := false, zero := [.zx] },
  { t := 82, size := 1, agg := false, zero := [.zx] },
  { t := 83, size := 1, agg := false, zero := [.zx] },
  { t := 84, size := 1, agg := false, zero := [.zx] },
  { t := 86, size := 6, agg := true, flds := [0, 1, 5], zero := [.zs, .zi .i64, .zi .i64, .zi .i64, .zs, .zl 5] },
  { t := 87, size := 1, agg := false, zero := [.zx] },
  { t := 89, size := 5, agg := true, flds := [0, 1], zero := [.zs, .zi .i64, .zi .i64, .zi .i64, .zs] },
  { t := 90, size := 1, agg := false, zero := [.zx] },
  { t := 91, size := 1, agg := false, zero := [.zx] },
  { t := 92, size := 1, agg := false, zero := [.zx] },
  { t := 93, size := 1, agg := false, zero := [.zx] },
  { t := 94, size := 1, agg := false, zero := [.zx] },
  { t := 95, size := 1, agg := false, zero := [.zx] },
  { t := 96, size := 1, agg := false, zero := [.zx] },
  { t := 97, size := 1, agg := false, zero := [.zx] },
  { t := 98, size := 1, agg := false, zero := [.zx] },
  { t := 99, size := 1, agg := false, zero := [.zx] },
  { t := 101, size := 2, agg := true, flds := [0, 1], zero := [.zi .i64, .zs], eq := true },
  { t := 103, size := 1, agg := false, zero := [.zx] },
  { t := 104, size := 1, agg := false, zero := [.zx] },
  { t := 105, size := 1, agg := false, zero := [.zx] },
  { t := 106, size := 1, agg := false, zero := [.zx] },
  { t := 107, size := 1, agg := false, zero := [.zx] },
  { t := 108, size := 1, agg := false, zero := [.zx] },
  { t := 109, size := 1, agg := false, zero := [.zx] },
  { t := 110, size := 1, agg := false, zero := [.zx] },
  { t := 111, size := 1, agg := false, zero := [.zx] },
  { t := 112, size := 1, agg := false, zero := [.zx] },
  { t := 113, size := 1, agg := false, zero := [.zx] },
  { t := 115, size := 3, agg := true, flds := [0, 1], zero := [.zl 1, .zi .i64, .zs] },
  { t := 117, size := 5, agg := true, flds := [0, 3, 4], zero := [.zl 1, .zi .i64, .zs, .zl 1, .zi .i64] },
  { t := 119, size := 8, agg := true, flds := [0, 1, 6], zero := [.zi .i64, .zl 1, .zi .i64, .zs, .zl 1, .zi .i64, .zi .i64, .zs] },
  { t := 120, size := 1, agg := false, zero := [.zx] },
  { t := 122, size := 3, agg := true, flds := [0, 1, 2], zero := [.zl 1, .zi .i64, .zi .i64] },
  { t := 123, size := 1, agg := false, zero := [.zx] },
  { t := 124, size := 1, agg := false, zero := [.zx] },
  { t := 125, size := 1, agg := false, zero := [.zx] },
  { t := 126, size := 1, agg := false, zero := [.zx] },
  { t := 127, size := 1, agg := false, zero := [.zx] },
  { t := 128, size := 1, agg := false, zero := [.zx] },
  { t := 129, size := 1, agg := false, zero := [.zx] },
  { t := 130, size := 2, agg := true, flds := [0, 1], zero := [.zi .i64, .zs] },
  { t := 131, size := 1, agg := false, zero := [.zx] },
  { t := 133, size := 3, agg := true, flds := [0, 1], zero := [.zl 1, .zi .i64, .zs] },
  { t := 135, size := 5, agg := true, flds := [0, 3, 4], zero := [.zl 1, .zi .i64, .zs, .zl 1, .zi .i64] },
  { t := 137, size := 8, agg := true, flds := [0, 1, 6], zero := [.zi .i64, .zl 1, .zi .i64, .zs, .zl 1, .zi .i64, .zi .i64, .zs] },
  { t := 138, size := 1, agg := false, zero := [.zx] },
  { t := 140, size := 7, agg := true, flds := [0, 1, 2, 3, 5, 6], zero := [.zi .i64, .zi .i64, .zi .i64, .zi .i64, .zs, .zi .i64, .zl 1] },
  { t := 141, size := 1, agg := false, zero := [.zx] },
  { t := 142, size := 1, agg := false, zero := [.zx] },
  { t := 144, size := 7, agg := true, flds := [0, 1, 2, 3, 5, 6], zero := [.zi .i64, .zi .i64, .zi .i64, .zi .i64, .zs, .zi .i64, .zl 1] },
  { t := 145, size := 1, agg := false, zero := [.zx] },
  { t := 146, size := 1, agg := false, zero := [.zx] },
  { t := 147, size := 1, agg := false, zero := [.zx] },
  { t := 148, size := 1, agg := false, zero := [.zx] },
  { t := 149, size := 1, agg := false, zero := [.zi .u64] },
  { t := 150, size := 1, agg := false, zero := [.zx] },
  { t := 151, size := 1, agg := false, zero := [.zx] },
  { t := 152, size := 1, agg := false, zero := [.zx] },
  { t := 153, size := 1, agg := false, zero := [.zx] },
  { t := 154, size := 1, agg := false, zero := [.zx] },
  { t := 155, size := 1, agg := false, zero := [.zx] },
  { t := 156, size := 1, agg := false, zero := [.zx] },
  { t := 157, size := 1, agg := false, zero := [.zx] },
  { t := 158, size := 1, agg := false, zero := [.zx] },
  { t := 159, size := 1, agg := false, zero := [.zx] },
  { t := 160, size := 1, agg := false, zero := [.zx] },
  { t := 161, size := 1, agg := false, zero := [.zx] },
  { t := 162, size := 1, agg := false, zero := [.zx] },
  { t := 163, size := 1, agg := false, zero := [.zx] },
  { t := 164, size := 1, agg := false, zero := [.zx] },
  { t := 165, size := 1, agg := false, zero := [.zx] },
  { t := 171, size := 1, agg := false, zero := [.zx] },
  { t := 172, size := 1, agg := false, zero := [.zi .u32] },
  { t := 175, size := 1, agg := false, zero := [.zx] }]
theorem tab_ok : tab.all (·.ok Try.prog) = true := by kernel_rfl
theorem tab_okF : tab.all (·.okF Try.prog) = true := by kernel_rfl
theorem eq_ok : ∀ e ∈ tab, e.eq = true → EqFact Try.prog e.t e.zero := by
  intro e he hq
  simp only [tab, List.mem_cons, List.not_mem_nil, or_false] at he
  rcases he with rfl | rfl | rfl | rfl | rfl | rfl | rfl | rfl | rfl | rfl | rfl | rfl | rfl | rfl | rfl | rfl | rfl | rfl | rfl | rfl | rfl | rfl | rfl | rfl | rfl | rfl | rfl | rfl | rfl | rfl | rfl | rfl | rfl | rfl | rfl | rfl | rfl | rfl | rfl | rfl | rfl | rfl | rfl | rfl | rfl | rfl | rfl | rfl | rfl | rfl | rfl | rfl | rfl | rfl | rfl | rfl | rfl | rfl | rfl | rfl | rfl | rfl | rfl | rfl | rfl | rfl | rfl | rfl | rfl | rfl | rfl | rfl | rfl | rfl | rfl | rfl | rfl | rfl | rfl | rfl | rfl | rfl | rfl | rfl | rfl | rfl | rfl | rfl | rfl | rfl | rfl | rfl | rfl | rfl | rfl | rfl | rfl | rfl | rfl | rfl | rfl | rfl | rfl | rfl | rfl | rfl | rfl | rfl | rfl | rfl | rfl | rfl | rfl | rfl | rfl | rfl | rfl | rfl | rfl | rfl | rfl | rfl | rfl | rfl | rfl | rfl | rfl | rfl | rfl | rfl | rfl | rfl | rfl | rfl
  all_goals first | (cases hq; done) | exact eqf26 | exact eqf38 | exact eqf101
theorem mixed : Try.prog.follows .mixedOrders = true := by kernel_rfl
noncomputable def env : Env := ⟨Try.prog, tab, mixed, tab_ok, tab_okF, eq_ok⟩
@[simp] theorem tab_1 : TE.find tab 1 = some { t := 1, size := 1, agg := false, zero := [.zx] } := rfl
@[simp] theorem tab_2 : TE.find tab 2 = some { t := 2, size := 1, agg := false, zero := [.zi .i64] } := rfl
@[simp] theorem tab_3 : TE.find tab 3 = some { t := 3, size := 1, agg := false, zero := [.zi .i64] } := rfl
@[simp] theorem tab_4 : TE.find tab 4 = some { t := 4, size := 1, agg := false, zero := [.zb], kd := 1 } := rfl
@[simp] theorem tab_5 : TE.find tab 5 = some { t := 5, size := 1, agg := false, zero := [.zi .u8] } := rfl
@[simp] theorem tab_9 : TE.find tab 9 = some { t := 9, size := 1, agg := false, zero := [.zs], kd := 2 } := rfl
@[simp] theorem tab_12 : TE.find tab 12 = some { t := 12, size := 1, agg := false, zero := [.zi .u64] } := rfl
@[simp] theorem tab_21 : TE.find tab 21 = some { t := 21, size := 1, agg := false, zero := [.zi .i32] } := rfl
@[simp] theorem tab_22 : TE.find tab 22 = some { t := 22, size := 1, agg := false, el := some (5, 1, 1), zero := [.zl 1] } := rfl
@[simp] theorem tab_23 : TE.find tab 23 = some { t := 23, size := 1, agg := false, zero := [.zx] } := rfl
@[simp] theorem tab_24 : TE.find tab 24 = some { t := 24, size := 1, agg := false, el := some (31, 6, 80), zero := [.zl 6] } := rfl
@[simp] theorem tab_26 : TE.find tab 26 = some { t := 26, size := 4, agg := true, flds := [0, 1, 2, 3], zero := [.zi .i64, .zi .i64, .zi .i64, .zs], eq := true } := rfl
@[simp] theorem tab_28 : TE.find tab 28 = some { t := 28, size := 1, agg := false, zero := [.zx] } := rfl
@[simp] theorem tab_29 : TE.find tab 29 = some { t := 29, size := 1, agg := false, el := some (38, 5, 56), zero := [.zl 5] } := rfl
@[simp] theorem tab_31 : TE.find tab 31 = some { t := 31, size := 6, agg := true, flds := [0, 1, 5], zero := [.zs, .zi .i64, .zi .i64, .zi .i64, .zs, .zl 5] } := rfl
@[simp] theorem tab_33 : TE.find tab 33 = some { t := 33, size := 1, agg := false, zero := [.zx] } := rfl
@[simp] theorem tab_34 : TE.find tab 34 = some { t := 34, size := 1, agg := false, el := some (26, 4, 40), zero := [.zl 4] } := rfl
@[simp] theorem tab_35 : TE.find tab 35 = some { t := 35, size := 1, agg := false, zero := [.zx] } := rfl
@[simp] theorem tab_36 : TE.find tab 36 = some { t := 36, size := 1, agg := false, zero := [.zx] } := rfl
@[simp] theorem tab_38 : TE.find tab 38 = some { t := 38, size := 5, agg := true, flds := [0, 1], zero := [.zs, .zi .i64, .zi .i64, .zi .i64, .zs], eq := true } := rfl
@[simp] theorem tab_39 : TE.find tab 39 = some { t := 39, size := 1, agg := false, el := some (86, 6, 80), zero := [.zl 6] } := rfl
@[simp] theorem tab_40 : TE.find tab 40 = some { t := 40, size := 1, agg := false, el := some (89, 5, 56), zero := [.zl 5] } := rfl
@[simp] theorem tab_41 : TE.find tab 41 = some { t := 41, size := 1, agg := false, zero := [.zx] } := rfl
@[simp] theorem tab_42 : TE.find tab 42 = some { t := 42, size := 1, agg := false, zero := [.zx] } := rfl
@[simp] theorem tab_43 : TE.find tab 43 = some { t := 43, size := 1, agg := false, zero := [.zx] } := rfl
@[simp] theorem tab_44 : TE.find tab 44 = some { t := 44, size := 1, agg := false, zero := [.zx] } := rfl
@[simp] theorem tab_45 : TE.find tab 45 = some { t := 45, size := 1, agg := false, zero := [.zx] } := rfl
@[simp] theorem tab_46 : TE.find tab 46 = some { t := 46, size := 1, agg := false, zero := [.zx] } := rfl
@[simp] theorem tab_47 : TE.find tab 47 = some { t := 47, size := 1, agg := false, zero := [.zx] } := rfl
@[simp] theorem tab_48 : TE.find tab 48 = some { t := 48, size := 1, agg := false, zero := [.zx] } := rfl
@[simp] theorem tab_49 : TE.find tab 49 = some { t := 49, size := 1, agg := false, zero := [.zx] } := rfl
@[simp] theorem tab_50 : TE.find tab 50 = some { t := 50, size := 1, agg := false, zero := [.zx] } := rfl
@[simp] theorem tab_51 : TE.find tab 51 = some { t := 51, size := 1, agg := false, zero := [.zx] } := rfl
@[simp] theorem tab_52 : TE.find tab 52 = some { t := 52, size := 1, agg := false, zero := [.zx] } := rfl
@[simp] theorem tab_53 : TE.find tab 53 = some { t := 53, size := 4, agg := true, flds := [0, 1, 2, 3], zero := [.zi .i64, .zi .i64, .zi .i64, .zs] } := rfl
@[simp] theorem tab_54 : TE.find tab 54 = some { t := 54, size := 1, agg := false, zero := [.zx] } := rfl
@[simp] theorem tab_55 : TE.find tab 55 = some { t := 55, size := 1, agg := false, zero := [.zx] } := rfl
@[simp] theorem tab_56 : TE.find tab 56 = some { t := 56, size := 1, agg := false, zero := [.zx] } := rfl
@[simp] theorem tab_57 : TE.find tab 57 = some { t := 57, size := 1, agg := false, zero := [.zx] } := rfl
@[simp] theorem tab_58 : TE.find tab 58 = some { t := 58, size := 1, agg := false, zero := [.zx] } := rfl
@[simp] theorem tab_59 : TE.find tab 59 = some { t := 59, size := 1, agg := false, el := some (9, 1, 16), zero := [.zl 1] } := rfl
@[simp] theorem tab_60 : TE.find tab 60 = some { t := 60, size := 1, agg := false, el := some (130, 2, 24), zero := [.zl 2] } := rfl
@[simp] theorem tab_61 : TE.find tab 61 = some { t := 61, size := 1, agg := false, el := some (137, 8, 112), zero := [.zl 8] } := rfl
@[simp] theorem tab_62 : TE.find tab 62 = some { t := 62, size := 1, agg := false, el := some (3, 1, 8), zero := [.zl 1] } := rfl
@[simp] theorem tab_63 : TE.find tab 63 = some { t := 63, size := 1, agg := false, el := some (140, 7, 80), zero := [.zl 7] } := rfl
@[simp] theorem tab_65 : TE.find tab 65 = some { t := 65, size := 5, agg := true, flds := [0, 1, 2, 3, 4], zero := [.zl 1, .zl 2, .zl 8, .zl 1, .zl 7] } := rfl
@[simp] theorem tab_66 : TE.find tab 66 = some { t := 66, size := 1, agg := false, zero := [.zx] } := rfl
@[simp] theorem tab_67 : TE.find tab 67 = some { t := 67, size := 1, agg := false, zero := [.zx] } := rfl
@[simp] theorem tab_68 : TE.find tab 68 = some { t := 68, size := 1, agg := false, el := some (101, 2, 24), zero := [.zl 2] } := rfl
@[simp] theorem tab_69 : TE.find tab 69 = some { t := 69, size := 1, agg := false, el := some (119, 8, 112), zero := [.zl 8] } := rfl
@[simp] theorem tab_70 : TE.find tab 70 = some { t := 70, size := 1, agg := false, el := some (144, 7, 80), zero := [.zl 7] } := rfl
@[simp] theorem tab_72 : TE.find tab 72 = some { t := 72, size := 5, agg := true, flds := [0, 1, 2, 3, 4], zero := [.zl 1, .zl 2, .zl 8, .zl 1, .zl 7] } := rfl
@[simp] theorem tab_73 : TE.find tab 73 = some { t := 73, size := 1, agg := false, zero := [.zx] } := rfl
@[simp] theorem tab_74 : TE.find tab 74 = some { t := 74, size := 1, agg := false, zero := [.zx] } := rfl
@[simp] theorem tab_75 : TE.find tab 75 = some { t := 75, size := 1, agg := false, zero := [.zx] } := rfl
@[simp] theorem tab_77 : TE.find tab 77 = some { t := 77, size := 1, agg := false, zero := [.zx] } := rfl
@[simp] theorem tab_78 : TE.find tab 78 = some { t := 78, size := 1, agg := false, zero := [.zx] } := rfl
@[simp] theorem tab_79 : TE.find tab 79 = some { t := 79, size := 1, agg := false, zero := [.zx] } := rfl
@[simp] theorem tab_80 : TE.find tab 80 = some { t := 80, size := 1, agg := false, zero := [.zx] } := rfl
@[simp] theorem tab_81 : TE.find tab 81 = some { t := 81, size := 1, agg := false, zero := [.zx] } := rfl
@[simp] theorem tab_82 : TE.find tab 82 = some { t := 82, size := 1, agg := false, zero := [.zx] } := rfl
@[simp] theorem tab_83 : TE.find tab 83 = some { t := 83, size := 1, agg := false, zero := [.zx] } := rfl
@[simp] theorem tab_84 : TE.find tab 84 = some { t := 84, size := 1, agg := false, zero := [.zx] } := rfl
@[simp] theorem tab_86 : TE.find tab 86 = some { t := 86, size := 6, agg := true, flds := [0, 1, 5], zero := [.zs, .zi .i64, .zi .i64, .zi .i64, .zs, .zl 5] } := rfl
@[simp] theorem tab_87 : TE.find tab 87 = some { t := 87, size := 1, agg := false, zero := [.zx] } := rfl
@[simp] theorem tab_89 : TE.find tab 89 = some { t := 89, size := 5, agg := true, flds := [0, 1], zero := [.zs, .zi .i64, .zi .i64, .zi .i64, .zs] } := rfl
@[simp] theorem tab_90 : TE.find tab 90 = some { t := 90, size := 1, agg := false, zero := [.zx] } := rfl
@[simp] theorem tab_91 : TE.find tab 91 = some { t := 91, size := 1, agg := false, zero := [.zx] } := rfl
@[simp] theorem tab_92 : TE.find tab 92 = some { t := 92, size := 1, agg := false, zero := [.zx] } := rfl
@[simp] theorem tab_93 : TE.find tab 93 = some { t := 93, size := 1, agg := false, zero := [.zx] } := rfl
@[simp] theorem tab_94 : TE.find tab 94 = some { t := 94, size := 1, agg := false, zero := [.zx] } := rfl
@[simp] theorem tab_95 : TE.find tab 95 = some { t := 95, size := 1, agg := false, zero := [.zx] } := rfl
@[simp] theorem tab_96 : TE.find tab 96 = some { t := 96, size := 1, agg := false, zero := [.zx] } := rfl
@[simp] theorem tab_97 : TE.find tab 97 = some { t := 97, size := 1, agg := false, zero := [.zx] } := rfl
@[simp] theorem tab_98 : TE.find tab 98 = some { t := 98, size := 1, agg := false, zero := [.zx] } := rfl
@[simp] theorem tab_99 : TE.find tab 99 = some { t := 99, size := 1, agg := false, zero := [.zx] } := rfl
@[simp] theorem tab_101 : TE.find tab 101 = some { t := 101, size := 2, agg := true, flds := [0, 1], zero := [.zi .i64, .zs], eq := true } := rfl
@[simp] theorem tab_103 : TE.find tab 103 = some { t := 103, size := 1, agg := false, zero := [.zx] } := rfl
@[simp] theorem tab_104 : TE.find tab 104 = some { t := 104, size := 1, agg := false, zero := [.zx] } := rfl
@[simp] theorem tab_105 : TE.find tab 105 = some { t := 105, size := 1, agg := false, zero := [.zx] } := rfl
@[simp] theorem tab_106 : TE.find tab 106 = some { t := 106, size := 1, agg := false, zero := [.zx] } := rfl
@[simp] theorem tab_107 : TE.find tab 107 = some { t := 107, size := 1, agg := false, zero := [.zx] } := rfl
@[simp] theorem tab_108 : TE.find tab 108 = some { t := 108, size := 1, agg := false, zero := [.zx] } := rfl
@[simp] theorem tab_109 : TE.find tab 109 = some { t := 109, size := 1, agg := false, zero := [.zx] } := rfl
@[simp] theorem tab_110 : TE.find tab 110 = some { t := 110, size := 1, agg := false, zero := [.zx] } := rfl
@[simp] theorem tab_111 : TE.find tab 111 = some { t := 111, size := 1, agg := false, zero := [.zx] } := rfl
@[simp] theorem tab_112 : TE.find tab 112 = some { t := 112, size := 1, agg := false, zero := [.zx] } := rfl
@[simp] theorem tab_113 : TE.find tab 113 = some { t := 113, size := 1, agg := false, zero := [.zx] } := rfl
@[simp] theorem tab_115 : TE.find tab 115 = some { t := 115, size := 3, agg := true, flds := [0, 1], zero := [.zl 1, .zi .i64, .zs] } := rfl
@[simp] theorem tab_117 : TE.find tab 117 = some { t := 117, size := 5, agg := true, flds := [0, 3, 4], zero := [.zl 1, .zi .i64, .zs, .zl 1, .zi .i64] } := rfl
@[simp] theorem tab_119 : TE.find tab 119 = some { t := 119, size := 8, agg := true, flds := [0, 1, 6], zero := [.zi .i64, .zl 1, .zi .i64, .zs, .zl 1, .zi .i64, .zi .i64, .zs] } := rfl
@[simp] theorem tab_120 : TE.find tab 120 = some { t := 120, size := 1, agg := false, zero := [.zx] } := rfl
@[simp] theorem tab_122 : TE.find tab 122 = some { t := 122, size := 3, agg := true, flds := [0, 1, 2], zero := [.zl 1, .zi .i64, .zi .i64] } := rfl
@[simp] theorem tab_123 : TE.find tab 123 = some { t := 123, size := 1, agg := false, zero := [.zx] } := rfl
@[simp] theorem tab_124 : TE.find tab 124 = some { t := 124, size := 1, agg := false, zero := [.zx] } := rfl
@[simp] theorem tab_125 : TE.find tab 125 = some { t := 125, size := 1, agg := false, zero := [.zx] } := rfl
@[simp] theorem tab_126 : TE.find tab 126 = some { t := 126, size := 1, agg := false, zero := [.zx] } := rfl
@[simp] theorem tab_127 : TE.find tab 127 = some { t := 127, size := 1, agg := false, zero := [.zx] } := rfl
@[simp] theorem tab_128 : TE.find tab 128 = some { t := 128, size := 1, agg := false, zero := [.zx] } := rfl
@[simp] theorem tab_129 : TE.find tab 129 = some { t := 129, size := 1, agg := false, zero := [.zx] } := rfl
@[simp] theorem tab_130 : TE.find tab 130 = some { t := 130, size := 2, agg := true, flds := [0, 1], zero := [.zi .i64, .zs] } := rfl
@[simp] theorem tab_131 : TE.find tab 131 = some { t := 131, size := 1, agg := false, zero := [.zx] } := rfl
@[simp] theorem tab_133 : TE.find tab 133 = some { t := 133, size := 3, agg := true, flds := [0, 1], zero := [.zl 1, .zi .i64, .zs] } := rfl
@[simp] theorem tab_135 : TE.find tab 135 = some { t := 135, size := 5, agg := true, flds := [0, 3, 4], zero := [.zl 1, .zi .i64, .zs, .zl 1, .zi .i64] } := rfl
@[simp] theorem tab_137 : TE.find tab 137 = some { t := 137, size := 8, agg := true, flds := [0, 1, 6], zero := [.zi .i64, .zl 1, .zi .i64, .zs, .zl 1, .zi .i64, .zi .i64, .zs] } := rfl
@[simp] theorem tab_138 : TE.find tab 138 = some { t := 138, size := 1, agg := false, zero := [.zx] } := rfl
@[simp] theorem tab_140 : TE.find tab 140 = some { t := 140, size := 7, agg := true, flds := [0, 1, 2, 3, 5, 6], zero := [.zi .i64, .zi .i64, .zi .i64, .zi .i64, .zs, .zi .i64, .zl 1] } := rfl
@[simp] theorem tab_141 : TE.find tab 141 = some { t := 141, size := 1, agg := false, zero := [.zx] } := rfl
@[simp] theorem tab_142 : TE.find tab 142 = some { t := 142, size := 1, agg := false, zero := [.zx] } := rfl
@[simp] theorem tab_144 : TE.find tab 144 = some { t := 144, size := 7, agg := true, flds := [0, 1, 2, 3, 5, 6], zero := [.zi .i64, .zi .i64, .zi .i64, .zi .i64, .zs, .zi .i64, .zl 1] } := rfl
@[simp] theorem tab_145 : TE.find tab 145 = some { t := 145, size := 1, agg := false, zero := [.zx] } := rfl
@[simp] theorem tab_146 : TE.find tab 146 = some { t := 146, size := 1, agg := false, zero := [.zx] } := rfl
@[simp] theorem tab_147 : TE.find tab 147 = some { t := 147, size := 1, agg := false, zero := [.zx] } := rfl
@[simp] theorem tab_148 : TE.find tab 148 = some { t := 148, size := 1, agg := false, zero := [.zx] } := rfl
@[simp] theorem tab_149 : TE.find tab 149 = some { t := 149, size := 1, agg := false, zero := [.zi .u64] } := rfl
@[simp] theorem tab_150 : TE.find tab 150 = some { t := 150, size := 1, agg := false, zero := [.zx] } := rfl
@[simp] theorem tab_151 : TE.find tab 151 = some { t := 151, size := 1, agg := false, zero := [.zx] } := rfl
@[simp] theorem tab_152 : TE.find tab 152 = some { t := 152, size := 1, agg := false, zero := [.zx] } := rfl
@[simp] theorem tab_153 : TE.find tab 153 = some { t := 153, size := 1, agg := false, zero := [.zx] } := rfl
@[simp] theorem tab_154 : TE.find tab 154 = some { t := 154, size := 1, agg := false, zero := [.zx] } := rfl
@[simp] theorem tab_155 : TE.find tab 155 = some { t := 155, size := 1, agg := false, zero := [.zx] } := rfl
@[simp] theorem tab_156 : TE.find tab 156 = some { t := 156, size := 1, agg := false, zero := [.zx] } := rfl
@[simp] theorem tab_157 : TE.find tab 157 = some { t := 157, size := 1, agg := false, zero := [.zx] } := rfl
@[simp] theorem tab_158 : TE.find tab 158 = some { t := 158, size := 1, agg := false, zero := [.zx] } := rfl
@[simp] theorem tab_159 : TE.find tab 159 = some { t := 159, size := 1, agg := false, zero := [.zx] } := rfl
@[simp] theorem tab_160 : TE.find tab 160 = some { t := 160, size := 1, agg := false, zero := [.zx] } := rfl
@[simp] theorem tab_161 : TE.find tab 161 = some { t := 161, size := 1, agg := false, zero := [.zx] } := rfl
@[simp] theorem tab_162 : TE.find tab 162 = some { t := 162, size := 1, agg := false, zero := [.zx] } := rfl
@[simp] theorem tab_163 : TE.find tab 163 = some { t := 163, size := 1, agg := false, zero := [.zx] } := rfl
@[simp] theorem tab_164 : TE.find tab 164 = some { t := 164, size := 1, agg := false, zero := [.zx] } := rfl
@[simp] theorem tab_165 : TE.find tab 165 = some { t := 165, size := 1, agg := false, zero := [.zx] } := rfl
@[simp] theorem tab_171 : TE.find tab 171 = some { t := 171, size := 1, agg := false, zero := [.zx] } := rfl
@[simp] theorem tab_172 : TE.find tab 172 = some { t := 172, size := 1, agg := false, zero := [.zi .u32] } := rfl
@[simp] theorem tab_175 : TE.find tab 175 = some { t := 175, size := 1, agg := false, zero := [.zx] } := rfl
end Go.Proofs.Ytfgaikcoodagiaa

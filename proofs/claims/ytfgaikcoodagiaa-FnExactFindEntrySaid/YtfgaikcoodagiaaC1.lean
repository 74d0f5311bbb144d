/- Sizes, copies, comparisons: what they come to. -/
import Derived.Test.YtfgaikcoodagiaaS2
set_option linter.all false
namespace Go.Proofs.Ytfgaikcoodagiaa
open Go.Ev
set_option maxRecDepth 20000
set_option linter.unusedVariables false
set_option linter.unusedSimpArgs false
theorem r_szStringS (l : List ByteArray) (left : Int) (hl : 16 * List.length l ≤ 140737488355328) : ∃ r : Int, Runs E 66 [(.d (.sl 1 (List.map encS l)) none), .d (.v (.int .i64 left)) none] [.d (.v (.int .i64 r)) none] [.u, .u] := by
  refine runs_ex [] (fun r : Int => [.d (.v (.int .i64 r)) none]) rfl Try.func66 rfl pk_66 rfl rfl ?_
  simp
  refine cond_by (fun _ => by simp) (fun _ => ?_)
  simp
  refine loop_by (fun p : Nat × Int => [(0, (.d (.sl 1 (List.map encS l)) none)), (1, .d (.v (.int .i64 p.2)) none), (5, .d (.v (.int .i64 p.1)) none)]) (fun p => p.1 ≤ l.length) (fun p => l.length - p.1) (0, IntKind.wrap .i64 (left - l.length)) (Nat.zero_le _) ?_ ?_
  · simp
  rintro ⟨k, lf⟩ hk
  simp only at hk
  by_cases hlt : k < l.length
  · have hw := wrap_nat (k := k) (by omega)
    simp [hlt]
    refine cond_by (fun _ => by simp) (fun _ => ?_)
    simp [hw]
    exact ⟨k + 1, by omega, by omega, by simp⟩
  · simp [hlt]
@[simp] theorem c_szStringS (l : List ByteArray) (left : Int) (hl : 16 * List.length l ≤ 140737488355328) {K : List X → List X → Prop} : callK E 66 [(.d (.sl 1 (List.map encS l)) none), .d (.v (.int .i64 left)) none] K = K [.d (.v (.int .i64 (szv E 66 [(.d (.sl 1 (List.map encS l)) none), .d (.v (.int .i64 left)) none]))) none] [.u, .u] := callK_of (szv_of (r_szStringS l left hl))
theorem r_toStringS (l : List ByteArray) (hl : 16 * List.length l ≤ 140737488355328) : Runs E 72 [(.d (.sl 1 (List.map encS l)) none)] [(.d (.sl 1 (List.map encS l)) none)] [.u] := by
  refine runs_of [] rfl Try.func72 rfl pk_72 rfl rfl ?_
  simp
  have hm : (16 : Int) * (l.length : Int) ≤ 281474976710656 ∧ (l.length : Int) ≤ 281474976710656 := by omega
  simp [hm]
  refine loop_by (fun k : Nat => [(0, (.d (.sl 1 (List.map encS l)) none)), (3, .d (.sl 1 (fill encS [.v (.string .empty)] l k)) none), (4, .d (.v (.int .i64 k)) none)]) (fun k => k ≤ l.length) (fun k => l.length - k) 0 (Nat.zero_le _) ?_ ?_
  · simp; exact fill_zero _ _ _
  intro k hk
  by_cases hlt : k < l.length
  · have hw := wrap_nat (k := k) (by omega)
    have q1 := fill_len encS [.v (.string .empty)] l hk
    have q2 := fill_at encS [.v (.string .empty)] l hlt
    have q3 := fill_set encS [.v (.string .empty)] l hlt
    simp only [encS_at] at q3
    simp [hlt, hw, q1, q2, q3]
    exact ⟨k + 1, by omega, by omega, by simp⟩
  · have q1 := fill_all encS [.v (.string .empty)] l hlt
    simp [hlt, q1]
@[simp] theorem c_toStringS (l : List ByteArray) (hl : 16 * List.length l ≤ 140737488355328) {K : List X → List X → Prop} : callK E 72 [(.d (.sl 1 (List.map encS l)) none)] K = K [(.d (.sl 1 (List.map encS l)) none)] [.u] := callK_of (r_toStringS l hl)
theorem r_eqStringS (l : List ByteArray) (hl : 16 * List.length l ≤ 140737488355328) : Runs E 78 [(.d (.sl 1 (List.map encS l)) none), (.d (.sl 1 (List.map encS l)) none)] [.d (.v (.bool true)) none] [.u, .u] := by
  refine runs_of [(6, [17, 18, 19, 20, 21, 22, 23, 24])] rfl Try.func78 rfl pk_78 rfl rfl ?_
  simp
  refine loop_by (fun k : Nat => [(0, (.d (.sl 1 (List.map encS l)) none)), (1, (.d (.sl 1 (List.map encS l)) none)), (5, .d (.v (.int .i64 k)) none)]) (fun k => k ≤ l.length) (fun k => l.length - k) 0 (Nat.zero_le _) ?_ ?_
  · simp
  intro k hk
  by_cases hlt : k < l.length
  · have hw := wrap_nat (k := k) (by omega)
    simp [hlt, hw]
    exact ⟨k + 1, by omega, by omega, by simp⟩
  · simp [hlt]
@[simp] theorem c_eqStringS (l : List ByteArray) (hl : 16 * List.length l ≤ 140737488355328) {K : List X → List X → Prop} : callK E 78 [(.d (.sl 1 (List.map encS l)) none), (.d (.sl 1 (List.map encS l)) none)] K = K [.d (.v (.bool true)) none] [.u, .u] := callK_of (r_eqStringS l hl)
theorem r_szIntS (l : List Int) (left : Int) (hl : 8 * List.length l ≤ 140737488355328) : ∃ r : Int, Runs E 69 [(.d (.sl 1 (List.map encI l)) none), .d (.v (.int .i64 left)) none] [.d (.v (.int .i64 r)) none] [.u, .u] := by
  refine runs_ex [] (fun r : Int => [.d (.v (.int .i64 r)) none]) rfl Try.func69 rfl pk_69 rfl rfl ?_
  simp
  refine cond_by (fun _ => by simp) (fun _ => ?_)
  simp
@[simp] theorem c_szIntS (l : List Int) (left : Int) (hl : 8 * List.length l ≤ 140737488355328) {K : List X → List X → Prop} : callK E 69 [(.d (.sl 1 (List.map encI l)) none), .d (.v (.int .i64 left)) none] K = K [.d (.v (.int .i64 (szv E 69 [(.d (.sl 1 (List.map encI l)) none), .d (.v (.int .i64 left)) none]))) none] [.u, .u] := callK_of (szv_of (r_szIntS l left hl))
theorem r_toIntS (l : List Int) (hl : 8 * List.length l ≤ 140737488355328) : Runs E 75 [(.d (.sl 1 (List.map encI l)) none)] [(.d (.sl 1 (List.map encI l)) none)] [.u] := by
  refine runs_of [] rfl Try.func75 rfl pk_75 rfl rfl ?_
  simp
  have hm : (8 : Int) * (l.length : Int) ≤ 281474976710656 ∧ (l.length : Int) ≤ 281474976710656 := by omega
  simp [hm]
  refine loop_by (fun k : Nat => [(0, (.d (.sl 1 (List.map encI l)) none)), (3, .d (.sl 1 (fill encI [.v (.int .i64 0)] l k)) none), (4, .d (.v (.int .i64 k)) none)]) (fun k => k ≤ l.length) (fun k => l.length - k) 0 (Nat.zero_le _) ?_ ?_
  · simp; exact fill_zero _ _ _
  intro k hk
  by_cases hlt : k < l.length
  · have hw := wrap_nat (k := k) (by omega)
    have q1 := fill_len encI [.v (.int .i64 0)] l hk
    have q2 := fill_at encI [.v (.int .i64 0)] l hlt
    have q3 := fill_set encI [.v (.int .i64 0)] l hlt
    simp only [encI_at] at q3
    simp [hlt, hw, q1, q2, q3]
    exact ⟨k + 1, by omega, by omega, by simp⟩
  · have q1 := fill_all encI [.v (.int .i64 0)] l hlt
    simp [hlt, q1]
@[simp] theorem c_toIntS (l : List Int) (hl : 8 * List.length l ≤ 140737488355328) {K : List X → List X → Prop} : callK E 75 [(.d (.sl 1 (List.map encI l)) none)] K = K [(.d (.sl 1 (List.map encI l)) none)] [.u] := callK_of (r_toIntS l hl)
theorem r_eqIntS (l : List Int) (hl : 8 * List.length l ≤ 140737488355328) : Runs E 81 [(.d (.sl 1 (List.map encI l)) none), (.d (.sl 1 (List.map encI l)) none)] [.d (.v (.bool true)) none] [.u, .u] := by
  refine runs_of [(6, [17, 18, 19, 20, 21, 22, 23, 24])] rfl Try.func81 rfl pk_81 rfl rfl ?_
  simp
  refine loop_by (fun k : Nat => [(0, (.d (.sl 1 (List.map encI l)) none)), (1, (.d (.sl 1 (List.map encI l)) none)), (5, .d (.v (.int .i64 k)) none)]) (fun k => k ≤ l.length) (fun k => l.length - k) 0 (Nat.zero_le _) ?_ ?_
  · simp
  intro k hk
  by_cases hlt : k < l.length
  · have hw := wrap_nat (k := k) (by omega)
    simp [hlt, hw]
    exact ⟨k + 1, by omega, by omega, by simp⟩
  · simp [hlt]
@[simp] theorem c_eqIntS (l : List Int) (hl : 8 * List.length l ≤ 140737488355328) {K : List X → List X → Prop} : callK E 81 [(.d (.sl 1 (List.map encI l)) none), (.d (.sl 1 (List.map encI l)) none)] K = K [.d (.v (.bool true)) none] [.u, .u] := callK_of (r_eqIntS l hl)
theorem r_szByteS (l : List Int) (left : Int) (hl : List.length l ≤ 140737488355328) : ∃ r : Int, Runs E 118 [(.d (.sl 1 (List.map encB l)) none), .d (.v (.int .i64 left)) none] [.d (.v (.int .i64 r)) none] [.u, .u] := by
  refine runs_ex [] (fun r : Int => [.d (.v (.int .i64 r)) none]) rfl Try.func118 rfl pk_118 rfl rfl ?_
  simp
  refine cond_by (fun _ => by simp) (fun _ => ?_)
  simp
@[simp] theorem c_szByteS (l : List Int) (left : Int) (hl : List.length l ≤ 140737488355328) {K : List X → List X → Prop} : callK E 118 [(.d (.sl 1 (List.map encB l)) none), .d (.v (.int .i64 left)) none] K = K [.d (.v (.int .i64 (szv E 118 [(.d (.sl 1 (List.map encB l)) none), .d (.v (.int .i64 left)) none]))) none] [.u, .u] := callK_of (szv_of (r_szByteS l left hl))
theorem r_toByteS (l : List Int) (hl : List.length l ≤ 140737488355328) : Runs E 120 [(.d (.sl 1 (List.map encB l)) none)] [(.d (.sl 1 (List.map encB l)) none)] [.u] := by
  refine runs_of [] rfl Try.func120 rfl pk_120 rfl rfl ?_
  simp
  have hm : (l.length : Int) ≤ 281474976710656 := by omega
  simp [hm]
  refine loop_by (fun k : Nat => [(0, (.d (.sl 1 (List.map encB l)) none)), (3, .d (.sl 1 (fill encB [.v (.int .u8 0)] l k)) none), (4, .d (.v (.int .i64 k)) none)]) (fun k => k ≤ l.length) (fun k => l.length - k) 0 (Nat.zero_le _) ?_ ?_
  · simp; exact fill_zero _ _ _
  intro k hk
  by_cases hlt : k < l.length
  · have hw := wrap_nat (k := k) (by omega)
    have q1 := fill_len encB [.v (.int .u8 0)] l hk
    have q2 := fill_at encB [.v (.int .u8 0)] l hlt
    have q3 := fill_set encB [.v (.int .u8 0)] l hlt
    simp only [encB_at] at q3
    simp [hlt, hw, q1, q2, q3]
    exact ⟨k + 1, by omega, by omega, by simp⟩
  · have q1 := fill_all encB [.v (.int .u8 0)] l hlt
    simp [hlt, q1]
@[simp] theorem c_toByteS (l : List Int) (hl : List.length l ≤ 140737488355328) {K : List X → List X → Prop} : callK E 120 [(.d (.sl 1 (List.map encB l)) none)] K = K [(.d (.sl 1 (List.map encB l)) none)] [.u] := callK_of (r_toByteS l hl)
theorem r_eqByteS (l : List Int) (hl : List.length l ≤ 140737488355328) : Runs E 122 [(.d (.sl 1 (List.map encB l)) none), (.d (.sl 1 (List.map encB l)) none)] [.d (.v (.bool true)) none] [.u, .u] := by
  refine runs_of [(6, [17, 18, 19, 20, 21, 22, 23, 24])] rfl Try.func122 rfl pk_122 rfl rfl ?_
  simp
  refine loop_by (fun k : Nat => [(0, (.d (.sl 1 (List.map encB l)) none)), (1, (.d (.sl 1 (List.map encB l)) none)), (5, .d (.v (.int .i64 k)) none)]) (fun k => k ≤ l.length) (fun k => l.length - k) 0 (Nat.zero_le _) ?_ ?_
  · simp
  intro k hk
  by_cases hlt : k < l.length
  · have hw := wrap_nat (k := k) (by omega)
    simp [hlt, hw]
    exact ⟨k + 1, by omega, by omega, by simp⟩
  · simp [hlt]
@[simp] theorem c_eqByteS (l : List Int) (hl : List.length l ≤ 140737488355328) {K : List X → List X → Prop} : callK E 122 [(.d (.sl 1 (List.map encB l)) none), (.d (.sl 1 (List.map encB l)) none)] K = K [.d (.v (.bool true)) none] [.u, .u] := callK_of (r_eqByteS l hl)
structure PHead where
  f0 : Int
  f1 : ByteArray
def encHead (x : PHead) : List D := [.v (.int .i64 x.f0), .v (.string x.f1)]
@[simp] theorem encHead_at (x : PHead) : encHead x = [.v (.int .i64 x.f0), .v (.string x.f1)] := rfl
theorem r_szHead (a0 : Int) (a1 : ByteArray) (left : Int)  : ∃ r : Int, Runs E 95 [.agg [.v (.int .i64 a0), .v (.string a1)] none, .d (.v (.int .i64 left)) none] [.d (.v (.int .i64 r)) none] [.u, .u] := by
  refine runs_ex [] (fun r : Int => [.d (.v (.int .i64 r)) none]) rfl Try.func95 rfl pk_95 rfl rfl ?_
  simp
  repeat (refine cond_by (fun _ => by simp) (fun _ => ?_); try simp)
@[simp] theorem c_szHead (a0 : Int) (a1 : ByteArray) (left : Int)  {K : List X → List X → Prop} : callK E 95 [.agg [.v (.int .i64 a0), .v (.string a1)] none, .d (.v (.int .i64 left)) none] K = K [.d (.v (.int .i64 (szv E 95 [.agg [.v (.int .i64 a0), .v (.string a1)] none, .d (.v (.int .i64 left)) none]))) none] [.u, .u] := callK_of (szv_of (r_szHead a0 a1 left ))
theorem r_toHead (a0 : Int) (a1 : ByteArray)  : Runs E 98 [.agg [.v (.int .i64 a0), .v (.string a1)] none] [.agg [.v (.int .i64 a0), .v (.string a1)] none] [.u] := by
  refine runs_of [] rfl Try.func98 rfl pk_98 rfl rfl ?_
  simp
@[simp] theorem c_toHead (a0 : Int) (a1 : ByteArray)  {K : List X → List X → Prop} : callK E 98 [.agg [.v (.int .i64 a0), .v (.string a1)] none] K = K [.agg [.v (.int .i64 a0), .v (.string a1)] none] [.u] := callK_of (r_toHead a0 a1 )
theorem r_eqHead (a0 : Int) (a1 : ByteArray)  : Runs E 101 [.agg [.v (.int .i64 a0), .v (.string a1)] none, .agg [.v (.int .i64 a0), .v (.string a1)] none] [.d (.v (.bool true)) none] [.u, .u] := by
  refine runs_of [] rfl Try.func101 rfl pk_101 rfl rfl ?_
  simp
@[simp] theorem c_eqHead (a0 : Int) (a1 : ByteArray)  {K : List X → List X → Prop} : callK E 101 [.agg [.v (.int .i64 a0), .v (.string a1)] none, .agg [.v (.int .i64 a0), .v (.string a1)] none] K = K [.d (.v (.bool true)) none] [.u, .u] := callK_of (r_eqHead a0 a1 )
theorem r_szHeadS (l : List PHead) (left : Int) (hl : 24 * List.length l ≤ 140737488355328) : ∃ r : Int, Runs E 67 [(.d (.sl 2 (List.map encHead l)) none), .d (.v (.int .i64 left)) none] [.d (.v (.int .i64 r)) none] [.u, .u] := by
  refine runs_ex [] (fun r : Int => [.d (.v (.int .i64 r)) none]) rfl Try.func67 rfl pk_67 rfl rfl ?_
  simp
  refine cond_by (fun _ => by simp) (fun _ => ?_)
  simp
  refine loop_by (fun p : Nat × Int => [(0, (.d (.sl 2 (List.map encHead l)) none)), (1, .d (.v (.int .i64 p.2)) none), (5, .d (.v (.int .i64 p.1)) none)]) (fun p => p.1 ≤ l.length) (fun p => l.length - p.1) (0, IntKind.wrap .i64 (left - l.length)) (Nat.zero_le _) ?_ ?_
  · simp
  rintro ⟨k, lf⟩ hk
  simp only at hk
  by_cases hlt : k < l.length
  · have hw := wrap_nat (k := k) (by omega)
    simp [hlt]
    refine cond_by (fun _ => by simp) (fun _ => ?_)
    simp [hw]
    exact ⟨k + 1, by omega, by omega, by simp⟩
  · simp [hlt]
@[simp] theorem c_szHeadS (l : List PHead) (left : Int) (hl : 24 * List.length l ≤ 140737488355328) {K : List X → List X → Prop} : callK E 67 [(.d (.sl 2 (List.map encHead l)) none), .d (.v (.int .i64 left)) none] K = K [.d (.v (.int .i64 (szv E 67 [(.d (.sl 2 (List.map encHead l)) none), .d (.v (.int .i64 left)) none]))) none] [.u, .u] := callK_of (szv_of (r_szHeadS l left hl))
theorem r_toHeadS (l : List PHead) (hl : 24 * List.length l ≤ 140737488355328) : Runs E 73 [(.d (.sl 2 (List.map encHead l)) none)] [(.d (.sl 2 (List.map encHead l)) none)] [.u] := by
  refine runs_of [] rfl Try.func73 rfl pk_73 rfl rfl ?_
  simp
  have hm : (24 : Int) * (l.length : Int) ≤ 281474976710656 ∧ (l.length : Int) ≤ 281474976710656 := by omega
  simp [hm]
  refine loop_by (fun k : Nat => [(0, (.d (.sl 2 (List.map encHead l)) none)), (3, .d (.sl 2 (fill encHead [.v (.int .i64 0), .v (.string .empty)] l k)) none), (4, .d (.v (.int .i64 k)) none)]) (fun k => k ≤ l.length) (fun k => l.length - k) 0 (Nat.zero_le _) ?_ ?_
  · simp; exact fill_zero _ _ _
  intro k hk
  by_cases hlt : k < l.length
  · have hw := wrap_nat (k := k) (by omega)
    have q1 := fill_len encHead [.v (.int .i64 0), .v (.string .empty)] l hk
    have q2 := fill_at encHead [.v (.int .i64 0), .v (.string .empty)] l hlt
    have q3 := fill_set encHead [.v (.int .i64 0), .v (.string .empty)] l hlt
    simp only [encHead_at] at q3
    simp [hlt, hw, q1, q2, q3]
    exact ⟨k + 1, by omega, by omega, by simp⟩
  · have q1 := fill_all encHead [.v (.int .i64 0), .v (.string .empty)] l hlt
    simp [hlt, q1]
@[simp] theorem c_toHeadS (l : List PHead) (hl : 24 * List.length l ≤ 140737488355328) {K : List X → List X → Prop} : callK E 73 [(.d (.sl 2 (List.map encHead l)) none)] K = K [(.d (.sl 2 (List.map encHead l)) none)] [.u] := callK_of (r_toHeadS l hl)
theorem r_eqHeadS (l : List PHead) (hl : 24 * List.length l ≤ 140737488355328) : Runs E 79 [(.d (.sl 2 (List.map encHead l)) none), (.d (.sl 2 (List.map encHead l)) none)] [.d (.v (.bool true)) none] [.u, .u] := by
  refine runs_of [(6, [17, 18, 19, 20, 21, 22, 23, 24])] rfl Try.func79 rfl pk_79 rfl rfl ?_
  simp
  refine loop_by (fun k : Nat => [(0, (.d (.sl 2 (List.map encHead l)) none)), (1, (.d (.sl 2 (List.map encHead l)) none)), (5, .d (.v (.int .i64 k)) none)]) (fun k => k ≤ l.length) (fun k => l.length - k) 0 (Nat.zero_le _) ?_ ?_
  · simp
  intro k hk
  by_cases hlt : k < l.length
  · have hw := wrap_nat (k := k) (by omega)
    simp [hlt, hw]
    exact ⟨k + 1, by omega, by omega, by simp⟩
  · simp [hlt]
@[simp] theorem c_eqHeadS (l : List PHead) (hl : 24 * List.length l ≤ 140737488355328) {K : List X → List X → Prop} : callK E 79 [(.d (.sl 2 (List.map encHead l)) none), (.d (.sl 2 (List.map encHead l)) none)] K = K [.d (.v (.bool true)) none] [.u, .u] := callK_of (r_eqHeadS l hl)
structure PLog where
  f0 : List ByteArray
  f1 : Int
  f2 : ByteArray
def encLog (x : PLog) : List D := [.sl 1 (List.map encS x.f0), .v (.int .i64 x.f1), .v (.string x.f2)]
@[simp] theorem encLog_at (x : PLog) : encLog x = [.sl 1 (List.map encS x.f0), .v (.int .i64 x.f1), .v (.string x.f2)] := rfl
def PLog.ok (x : PLog) : Prop := 16 * List.length x.f0 ≤ 140737488355328
def PLog.okL (l : List PLog) : Prop := ∀ y ∈ l, PLog.ok y
theorem r_szLog (a0 : List ByteArray) (a1 : Int) (a2 : ByteArray) (left : Int) (h0 : 16 * List.length a0 ≤ 140737488355328) : ∃ r : Int, Runs E 117 [.agg [.sl 1 (List.map encS a0), .v (.int .i64 a1), .v (.string a2)] none, .d (.v (.int .i64 left)) none] [.d (.v (.int .i64 r)) none] [.u, .u] := by
  refine runs_ex [] (fun r : Int => [.d (.v (.int .i64 r)) none]) rfl Try.func117 rfl pk_117 rfl rfl ?_
  simp [h0]
  repeat (refine cond_by (fun _ => by simp) (fun _ => ?_); try simp [h0])
@[simp] theorem c_szLog (a0 : List ByteArray) (a1 : Int) (a2 : ByteArray) (left : Int) (h0 : 16 * List.length a0 ≤ 140737488355328) {K : List X → List X → Prop} : callK E 117 [.agg [.sl 1 (List.map encS a0), .v (.int .i64 a1), .v (.string a2)] none, .d (.v (.int .i64 left)) none] K = K [.d (.v (.int .i64 (szv E 117 [.agg [.sl 1 (List.map encS a0), .v (.int .i64 a1), .v (.string a2)] none, .d (.v (.int .i64 left)) none]))) none] [.u, .u] := callK_of (szv_of (r_szLog a0 a1 a2 left h0))
theorem r_toLog (a0 : List ByteArray) (a1 : Int) (a2 : ByteArray) (h0 : 16 * List.length a0 ≤ 140737488355328) : Runs E 119 [.agg [.sl 1 (List.map encS a0), .v (.int .i64 a1), .v (.string a2)] none] [.agg [.sl 1 (List.map encS a0), .v (.int .i64 a1), .v (.string a2)] none] [.u] := by
  refine runs_of [] rfl Try.func119 rfl pk_119 rfl rfl ?_
  simp [h0]
@[simp] theorem c_toLog (a0 : List ByteArray) (a1 : Int) (a2 : ByteArray) (h0 : 16 * List.length a0 ≤ 140737488355328) {K : List X → List X → Prop} : callK E 119 [.agg [.sl 1 (List.map encS a0), .v (.int .i64 a1), .v (.string a2)] none] K = K [.agg [.sl 1 (List.map encS a0), .v (.int .i64 a1), .v (.string a2)] none] [.u] := callK_of (r_toLog a0 a1 a2 h0)
theorem r_eqLog (a0 : List ByteArray) (a1 : Int) (a2 : ByteArray) (h0 : 16 * List.length a0 ≤ 140737488355328) : Runs E 121 [.agg [.sl 1 (List.map encS a0), .v (.int .i64 a1), .v (.string a2)] none, .agg [.sl 1 (List.map encS a0), .v (.int .i64 a1), .v (.string a2)] none] [.d (.v (.bool true)) none] [.u, .u] := by
  refine runs_of [] rfl Try.func121 rfl pk_121 rfl rfl ?_
  simp [h0]
@[simp] theorem c_eqLog (a0 : List ByteArray) (a1 : Int) (a2 : ByteArray) (h0 : 16 * List.length a0 ≤ 140737488355328) {K : List X → List X → Prop} : callK E 121 [.agg [.sl 1 (List.map encS a0), .v (.int .i64 a1), .v (.string a2)] none, .agg [.sl 1 (List.map encS a0), .v (.int .i64 a1), .v (.string a2)] none] K = K [.d (.v (.bool true)) none] [.u, .u] := callK_of (r_eqLog a0 a1 a2 h0)
structure PStore where
  f0 : List ByteArray
  f1 : Int
  f2 : ByteArray
  f3 : List Int
  f4 : Int
def encStore (x : PStore) : List D := [.sl 1 (List.map encS x.f0), .v (.int .i64 x.f1), .v (.string x.f2), .sl 1 (List.map encB x.f3), .v (.int .i64 x.f4)]
@[simp] theorem encStore_at (x : PStore) : encStore x = [.sl 1 (List.map encS x.f0), .v (.int .i64 x.f1), .v (.string x.f2), .sl 1 (List.map encB x.f3), .v (.int .i64 x.f4)] := rfl
def PStore.ok (x : PStore) : Prop := 16 * List.length x.f0 ≤ 140737488355328 ∧ List.length x.f3 ≤ 140737488355328
def PStore.okL (l : List PStore) : Prop := ∀ y ∈ l, PStore.ok y
theorem r_szStore (a0 : List ByteArray) (a1 : Int) (a2 : ByteArray) (a3 : List Int) (a4 : Int) (left : Int) (h0 : 16 * List.length a0 ≤ 140737488355328) (h1 : List.length a3 ≤ 140737488355328) : ∃ r : Int, Runs E 109 [.agg [.sl 1 (List.map encS a0), .v (.int .i64 a1), .v (.string a2), .sl 1 (List.map encB a3), .v (.int .i64 a4)] none, .d (.v (.int .i64 left)) none] [.d (.v (.int .i64 r)) none] [.u, .u] := by
  refine runs_ex [] (fun r : Int => [.d (.v (.int .i64 r)) none]) rfl Try.func109 rfl pk_109 rfl rfl ?_
  simp [h0, h1]
  repeat (refine cond_by (fun _ => by simp) (fun _ => ?_); try simp [h0, h1])
@[simp] theorem c_szStore (a0 : List ByteArray) (a1 : Int) (a2 : ByteArray) (a3 : List Int) (a4 : Int) (left : Int) (h0 : 16 * List.length a0 ≤ 140737488355328) (h1 : List.length a3 ≤ 140737488355328) {K : List X → List X → Prop} : callK E 109 [.agg [.sl 1 (List.map encS a0), .v (.int .i64 a1), .v (.string a2), .sl 1 (List.map encB a3), .v (.int .i64 a4)] none, .d (.v (.int .i64 left)) none] K = K [.d (.v (.int .i64 (szv E 109 [.agg [.sl 1 (List.map encS a0), .v (.int .i64 a1), .v (.string a2), .sl 1 (List.map encB a3), .v (.int .i64 a4)] none, .d (.v (.int .i64 left)) none]))) none] [.u, .u] := callK_of (szv_of (r_szStore a0 a1 a2 a3 a4 left h0 h1))
theorem r_toStore (a0 : List ByteArray) (a1 : Int) (a2 : ByteArray) (a3 : List Int) (a4 : Int) (h0 : 16 * List.length a0 ≤ 140737488355328) (h1 : List.length a3 ≤ 140737488355328) : Runs E 110 [.agg [.sl 1 (List.map encS a0), .v (.int .i64 a1), .v (.string a2), .sl 1 (List.map encB a3), .v (.int .i64 a4)] none] [.agg [.sl 1 (List.map encS a0), .v (.int .i64 a1), .v (.string a2), .sl 1 (List.map encB a3), .v (.int .i64 a4)] none] [.u] := by
  refine runs_of [] rfl Try.func110 rfl pk_110 rfl rfl ?_
  simp [h0, h1]
@[simp] theorem c_toStore (a0 : List ByteArray) (a1 : Int) (a2 : ByteArray) (a3 : List Int) (a4 : Int) (h0 : 16 * List.length a0 ≤ 140737488355328) (h1 : List.length a3 ≤ 140737488355328) {K : List X → List X → Prop} : callK E 110 [.agg [.sl 1 (List.map encS a0), .v (.int .i64 a1), .v (.string a2), .sl 1 (List.map encB a3), .v (.int .i64 a4)] none] K = K [.agg [.sl 1 (List.map encS a0), .v (.int .i64 a1), .v (.string a2), .sl 1 (List.map encB a3), .v (.int .i64 a4)] none] [.u] := callK_of (r_toStore a0 a1 a2 a3 a4 h0 h1)
theorem r_eqStore (a0 : List ByteArray) (a1 : Int) (a2 : ByteArray) (a3 : List Int) (a4 : Int) (h0 : 16 * List.length a0 ≤ 140737488355328) (h1 : List.length a3 ≤ 140737488355328) : Runs E 111 [.agg [.sl 1 (List.map encS a0), .v (.int .i64 a1), .v (.string a2), .sl 1 (List.map encB a3), .v (.int .i64 a4)] none, .agg [.sl 1 (List.map encS a0), .v (.int .i64 a1), .v (.string a2), .sl 1 (List.map encB a3), .v (.int .i64 a4)] none] [.d (.v (.bool true)) none] [.u, .u] := by
  refine runs_of [] rfl Try.func111 rfl pk_111 rfl rfl ?_
  simp [h0, h1]
@[simp] theorem c_eqStore (a0 : List ByteArray) (a1 : Int) (a2 : ByteArray) (a3 : List Int) (a4 : Int) (h0 : 16 * List.length a0 ≤ 140737488355328) (h1 : List.length a3 ≤ 140737488355328) {K : List X → List X → Prop} : callK E 111 [.agg [.sl 1 (List.map encS a0), .v (.int .i64 a1), .v (.string a2), .sl 1 (List.map encB a3), .v (.int .i64 a4)] none, .agg [.sl 1 (List.map encS a0), .v (.int .i64 a1), .v (.string a2), .sl 1 (List.map encB a3), .v (.int .i64 a4)] none] K = K [.d (.v (.bool true)) none] [.u, .u] := callK_of (r_eqStore a0 a1 a2 a3 a4 h0 h1)
structure PMirror where
  f0 : Int
  f1 : List ByteArray
  f2 : Int
  f3 : ByteArray
  f4 : List Int
  f5 : Int
  f6 : Int
  f7 : ByteArray
def encMirror (x : PMirror) : List D := [.v (.int .i64 x.f0), .sl 1 (List.map encS x.f1), .v (.int .i64 x.f2), .v (.string x.f3), .sl 1 (List.map encB x.f4), .v (.int .i64 x.f5), .v (.int .i64 x.f6), .v (.string x.f7)]
@[simp] theorem encMirror_at (x : PMirror) : encMirror x = [.v (.int .i64 x.f0), .sl 1 (List.map encS x.f1), .v (.int .i64 x.f2), .v (.string x.f3), .sl 1 (List.map encB x.f4), .v (.int .i64 x.f5), .v (.int .i64 x.f6), .v (.string x.f7)] := rfl
def PMirror.ok (x : PMirror) : Prop := 16 * List.length x.f1 ≤ 140737488355328 ∧ List.length x.f4 ≤ 140737488355328
def PMirror.okL (l : List PMirror) : Prop := ∀ y ∈ l, PMirror.ok y
theorem r_szMirror (a0 : Int) (a1 : List ByteArray) (a2 : Int) (a3 : ByteArray) (a4 : List Int) (a5 : Int) (a6 : Int) (a7 : ByteArray) (left : Int) (h0 : 16 * List.length a1 ≤ 140737488355328) (h1 : List.length a4 ≤ 140737488355328) : ∃ r : Int, Runs E 96 [.agg [.v (.int .i64 a0), .sl 1 (List.map encS a1), .v (.int .i64 a2), .v (.string a3), .sl 1 (List.map encB a4), .v (.int .i64 a5), .v (.int .i64 a6), .v (.string a7)] none, .d (.v (.int .i64 left)) none] [.d (.v (.int .i64 r)) none] [.u, .u] := by
  refine runs_ex [] (fun r : Int => [.d (.v (.int .i64 r)) none]) rfl Try.func96 rfl pk_96 rfl rfl ?_
  simp [h0, h1]
  repeat (refine cond_by (fun _ => by simp) (fun _ => ?_); try simp [h0, h1])
@[simp] theorem c_szMirror (a0 : Int) (a1 : List ByteArray) (a2 : Int) (a3 : ByteArray) (a4 : List Int) (a5 : Int) (a6 : Int) (a7 : ByteArray) (left : Int) (h0 : 16 * List.length a1 ≤ 140737488355328) (h1 : List.length a4 ≤ 140737488355328) {K : List X → List X → Prop} : callK E 96 [.agg [.v (.int .i64 a0), .sl 1 (List.map encS a1), .v (.int .i64 a2), .v (.string a3), .sl 1 (List.map encB a4), .v (.int .i64 a5), .v (.int .i64 a6), .v (.string a7)] none, .d (.v (.int .i64 left)) none] K = K [.d (.v (.int .i64 (szv E 96 [.agg [.v (.int .i64 a0), .sl 1 (List.map encS a1), .v (.int .i64 a2), .v (.string a3), .sl 1 (List.map encB a4), .v (.int .i64 a5), .v (.int .i64 a6), .v (.string a7)] none, .d (.v (.int .i64 left)) none]))) none] [.u, .u] := callK_of (szv_of (r_szMirror a0 a1 a2 a3 a4 a5 a6 a7 left h0 h1))
theorem r_toMirror (a0 : Int) (a1 : List ByteArray) (a2 : Int) (a3 : ByteArray) (a4 : List Int) (a5 : Int) (a6 : Int) (a7 : ByteArray) (h0 : 16 * List.length a1 ≤ 140737488355328) (h1 : List.length a4 ≤ 140737488355328) : Runs E 99 [.agg [.v (.int .i64 a0), .sl 1 (List.map encS a1), .v (.int .i64 a2), .v (.string a3), .sl 1 (List.map encB a4), .v (.int .i64 a5), .v (.int .i64 a6), .v (.string a7)] none] [.agg [.v (.int .i64 a0), .sl 1 (List.map encS a1), .v (.int .i64 a2), .v (.string a3), .sl 1 (List.map encB a4), .v (.int .i64 a5), .v (.int .i64 a6), .v (.string a7)] none] [.u] := by
  refine runs_of [] rfl Try.func99 rfl pk_99 rfl rfl ?_
  simp [h0, h1]
@[simp] theorem c_toMirror (a0 : Int) (a1 : List ByteArray) (a2 : Int) (a3 : ByteArray) (a4 : List Int) (a5 : Int) (a6 : Int) (a7 : ByteArray) (h0 : 16 * List.length a1 ≤ 140737488355328) (h1 : List.length a4 ≤ 140737488355328) {K : List X → List X → Prop} : callK E 99 [.agg [.v (.int .i64 a0), .sl 1 (List.map encS a1), .v (.int .i64 a2), .v (.string a3), .sl 1 (List.map encB a4), .v (.int .i64 a5), .v (.int .i64 a6), .v (.string a7)] none] K = K [.agg [.v (.int .i64 a0), .sl 1 (List.map encS a1), .v (.int .i64 a2), .v (.string a3), .sl 1 (List.map encB a4), .v (.int .i64 a5), .v (.int .i64 a6), .v (.string a7)] none] [.u] := callK_of (r_toMirror a0 a1 a2 a3 a4 a5 a6 a7 h0 h1)
theorem r_eqMirror (a0 : Int) (a1 : List ByteArray) (a2 : Int) (a3 : ByteArray) (a4 : List Int) (a5 : Int) (a6 : Int) (a7 : ByteArray) (h0 : 16 * List.length a1 ≤ 140737488355328) (h1 : List.length a4 ≤ 140737488355328) : Runs E 102 [.agg [.v (.int .i64 a0), .sl 1 (List.map encS a1), .v (.int .i64 a2), .v (.string a3), .sl 1 (List.map encB a4), .v (.int .i64 a5), .v (.int .i64 a6), .v (.string a7)] none, .agg [.v (.int .i64 a0), .sl 1 (List.map encS a1), .v (.int .i64 a2), .v (.string a3), .sl 1 (List.map encB a4), .v (.int .i64 a5), .v (.int .i64 a6), .v (.string a7)] none] [.d (.v (.bool true)) none] [.u, .u] := by
  refine runs_of [] rfl Try.func102 rfl pk_102 rfl rfl ?_
  simp [h0, h1]
@[simp] theorem c_eqMirror (a0 : Int) (a1 : List ByteArray) (a2 : Int) (a3 : ByteArray) (a4 : List Int) (a5 : Int) (a6 : Int) (a7 : ByteArray) (h0 : 16 * List.length a1 ≤ 140737488355328) (h1 : List.length a4 ≤ 140737488355328) {K : List X → List X → Prop} : callK E 102 [.agg [.v (.int .i64 a0), .sl 1 (List.map encS a1), .v (.int .i64 a2), .v (.string a3), .sl 1 (List.map encB a4), .v (.int .i64 a5), .v (.int .i64 a6), .v (.string a7)] none, .agg [.v (.int .i64 a0), .sl 1 (List.map encS a1), .v (.int .i64 a2), .v (.string a3), .sl 1 (List.map encB a4), .v (.int .i64 a5), .v (.int .i64 a6), .v (.string a7)] none] K = K [.d (.v (.bool true)) none] [.u, .u] := callK_of (r_eqMirror a0 a1 a2 a3 a4 a5 a6 a7 h0 h1)
theorem r_szMirrorS (l : List PMirror) (left : Int) (hl : 112 * List.length l ≤ 140737488355328) (hok : PMirror.okL l) : ∃ r : Int, Runs E 68 [(.d (.sl 8 (List.map encMirror l)) none), .d (.v (.int .i64 left)) none] [.d (.v (.int .i64 r)) none] [.u, .u] := by
  refine runs_ex [] (fun r : Int => [.d (.v (.int .i64 r)) none]) rfl Try.func68 rfl pk_68 rfl rfl ?_
  simp
  refine cond_by (fun _ => by simp) (fun _ => ?_)
  simp
  refine loop_by (fun p : Nat × Int => [(0, (.d (.sl 8 (List.map encMirror l)) none)), (1, .d (.v (.int .i64 p.2)) none), (5, .d (.v (.int .i64 p.1)) none)]) (fun p => p.1 ≤ l.length) (fun p => l.length - p.1) (0, IntKind.wrap .i64 (left - l.length)) (Nat.zero_le _) ?_ ?_
  · simp
  rintro ⟨k, lf⟩ hk
  simp only at hk
  by_cases hlt : k < l.length
  · have hw := wrap_nat (k := k) (by omega)
    have gg : 16 * List.length l[k].f1 ≤ 140737488355328 ∧ List.length l[k].f4 ≤ 140737488355328 := hok l[k] (List.getElem_mem hlt)
    obtain ⟨g0, g1⟩ := gg
    simp [hlt, g0, g1]
    refine cond_by (fun _ => by simp) (fun _ => ?_)
    simp [hw]
    exact ⟨k + 1, by omega, by omega, by simp⟩
  · simp [hlt]
@[simp] theorem c_szMirrorS (l : List PMirror) (left : Int) (hl : 112 * List.length l ≤ 140737488355328) (hok : PMirror.okL l) {K : List X → List X → Prop} : callK E 68 [(.d (.sl 8 (List.map encMirror l)) none), .d (.v (.int .i64 left)) none] K = K [.d (.v (.int .i64 (szv E 68 [(.d (.sl 8 (List.map encMirror l)) none), .d (.v (.int .i64 left)) none]))) none] [.u, .u] := callK_of (szv_of (r_szMirrorS l left hl hok))
theorem r_toMirrorS (l : List PMirror) (hl : 112 * List.length l ≤ 140737488355328) (hok : PMirror.okL l) : Runs E 74 [(.d (.sl 8 (List.map encMirror l)) none)] [(.d (.sl 8 (List.map encMirror l)) none)] [.u] := by
  refine runs_of [] rfl Try.func74 rfl pk_74 rfl rfl ?_
  simp
  have hm : (112 : Int) * (l.length : Int) ≤ 281474976710656 ∧ (l.length : Int) ≤ 281474976710656 := by omega
  simp [hm]
  refine loop_by (fun k : Nat => [(0, (.d (.sl 8 (List.map encMirror l)) none)), (3, .d (.sl 8 (fill encMirror [.v (.int .i64 0), .sl 1 [], .v (.int .i64 0), .v (.string .empty), .sl 1 [], .v (.int .i64 0), .v (.int .i64 0), .v (.string .empty)] l k)) none), (4, .d (.v (.int .i64 k)) none)]) (fun k => k ≤ l.length) (fun k => l.length - k) 0 (Nat.zero_le _) ?_ ?_
  · simp; exact fill_zero _ _ _
  intro k hk
  by_cases hlt : k < l.length
  · have hw := wrap_nat (k := k) (by omega)
    have q1 := fill_len encMirror [.v (.int .i64 0), .sl 1 [], .v (.int .i64 0), .v (.string .empty), .sl 1 [], .v (.int .i64 0), .v (.int .i64 0), .v (.string .empty)] l hk
    have q2 := fill_at encMirror [.v (.int .i64 0), .sl 1 [], .v (.int .i64 0), .v (.string .empty), .sl 1 [], .v (.int .i64 0), .v (.int .i64 0), .v (.string .empty)] l hlt
    have q3 := fill_set encMirror [.v (.int .i64 0), .sl 1 [], .v (.int .i64 0), .v (.string .empty), .sl 1 [], .v (.int .i64 0), .v (.int .i64 0), .v (.string .empty)] l hlt
    simp only [encMirror_at] at q3
    have gg : 16 * List.length l[k].f1 ≤ 140737488355328 ∧ List.length l[k].f4 ≤ 140737488355328 := hok l[k] (List.getElem_mem hlt)
    obtain ⟨g0, g1⟩ := gg
    simp [hlt, hw, q1, q2, q3, g0, g1]
    exact ⟨k + 1, by omega, by omega, by simp⟩
  · have q1 := fill_all encMirror [.v (.int .i64 0), .sl 1 [], .v (.int .i64 0), .v (.string .empty), .sl 1 [], .v (.int .i64 0), .v (.int .i64 0), .v (.string .empty)] l hlt
    simp [hlt, q1]
@[simp] theorem c_toMirrorS (l : List PMirror) (hl : 112 * List.length l ≤ 140737488355328) (hok : PMirror.okL l) {K : List X → List X → Prop} : callK E 74 [(.d (.sl 8 (List.map encMirror l)) none)] K = K [(.d (.sl 8 (List.map encMirror l)) none)] [.u] := callK_of (r_toMirrorS l hl hok)
theorem r_eqMirrorS (l : List PMirror) (hl : 112 * List.length l ≤ 140737488355328) (hok : PMirror.okL l) : Runs E 80 [(.d (.sl 8 (List.map encMirror l)) none), (.d (.sl 8 (List.map encMirror l)) none)] [.d (.v (.bool true)) none] [.u, .u] := by
  refine runs_of [(6, [17, 18, 19, 20, 21, 22, 23, 24])] rfl Try.func80 rfl pk_80 rfl rfl ?_
  simp
  refine loop_by (fun k : Nat => [(0, (.d (.sl 8 (List.map encMirror l)) none)), (1, (.d (.sl 8 (List.map encMirror l)) none)), (5, .d (.v (.int .i64 k)) none)]) (fun k => k ≤ l.length) (fun k => l.length - k) 0 (Nat.zero_le _) ?_ ?_
  · simp
  intro k hk
  by_cases hlt : k < l.length
  · have hw := wrap_nat (k := k) (by omega)
    have gg : 16 * List.length l[k].f1 ≤ 140737488355328 ∧ List.length l[k].f4 ≤ 140737488355328 := hok l[k] (List.getElem_mem hlt)
    obtain ⟨g0, g1⟩ := gg
    simp [hlt, hw, g0, g1]
    exact ⟨k + 1, by omega, by omega, by simp⟩
  · simp [hlt]
@[simp] theorem c_eqMirrorS (l : List PMirror) (hl : 112 * List.length l ≤ 140737488355328) (hok : PMirror.okL l) {K : List X → List X → Prop} : callK E 80 [(.d (.sl 8 (List.map encMirror l)) none), (.d (.sl 8 (List.map encMirror l)) none)] K = K [.d (.v (.bool true)) none] [.u, .u] := callK_of (r_eqMirrorS l hl hok)
structure PMsg where
  f0 : Int
  f1 : Int
  f2 : Int
  f3 : Int
  f4 : ByteArray
  f5 : Int
  f6 : List ByteArray
def encMsg (x : PMsg) : List D := [.v (.int .i64 x.f0), .v (.int .i64 x.f1), .v (.int .i64 x.f2), .v (.int .i64 x.f3), .v (.string x.f4), .v (.int .i64 x.f5), .sl 1 (List.map encS x.f6)]
@[simp] theorem encMsg_at (x : PMsg) : encMsg x = [.v (.int .i64 x.f0), .v (.int .i64 x.f1), .v (.int .i64 x.f2), .v (.int .i64 x.f3), .v (.string x.f4), .v (.int .i64 x.f5), .sl 1 (List.map encS x.f6)] := rfl
def PMsg.ok (x : PMsg) : Prop := 16 * List.length x.f6 ≤ 140737488355328
def PMsg.okL (l : List PMsg) : Prop := ∀ y ∈ l, PMsg.ok y
theorem r_szMsg (a0 : Int) (a1 : Int) (a2 : Int) (a3 : Int) (a4 : ByteArray) (a5 : Int) (a6 : List ByteArray) (left : Int) (h0 : 16 * List.length a6 ≤ 140737488355328) : ∃ r : Int, Runs E 97 [.agg [.v (.int .i64 a0), .v (.int .i64 a1), .v (.int .i64 a2), .v (.int .i64 a3), .v (.string a4), .v (.int .i64 a5), .sl 1 (List.map encS a6)] none, .d (.v (.int .i64 left)) none] [.d (.v (.int .i64 r)) none] [.u, .u] := by
  refine runs_ex [] (fun r : Int => [.d (.v (.int .i64 r)) none]) rfl Try.func97 rfl pk_97 rfl rfl ?_
  simp [h0]
  repeat (refine cond_by (fun _ => by simp) (fun _ => ?_); try simp [h0])
@[simp] theorem c_szMsg (a0 : Int) (a1 : Int) (a2 : Int) (a3 : Int) (a4 : ByteArray) (a5 : Int) (a6 : List ByteArray) (left : Int) (h0 : 16 * List.length a6 ≤ 140737488355328) {K : List X → List X → Prop} : callK E 97 [.agg [.v (.int .i64 a0), .v (.int .i64 a1), .v (.int .i64 a2), .v (.int .i64 a3), .v (.string a4), .v (.int .i64 a5), .sl 1 (List.map encS a6)] none, .d (.v (.int .i64 left)) none] K = K [.d (.v (.int .i64 (szv E 97 [.agg [.v (.int .i64 a0), .v (.int .i64 a1), .v (.int .i64 a2), .v (.int .i64 a3), .v (.string a4), .v (.int .i64 a5), .sl 1 (List.map encS a6)] none, .d (.v (.int .i64 left)) none]))) none] [.u, .u] := callK_of (szv_of (r_szMsg a0 a1 a2 a3 a4 a5 a6 left h0))
theorem r_toMsg (a0 : Int) (a1 : Int) (a2 : Int) (a3 : Int) (a4 : ByteArray) (a5 : Int) (a6 : List ByteArray) (h0 : 16 * List.length a6 ≤ 140737488355328) : Runs E 100 [.agg [.v (.int .i64 a0), .v (.int .i64 a1), .v (.int .i64 a2), .v (.int .i64 a3), .v (.string a4), .v (.int .i64 a5), .sl 1 (List.map encS a6)] none] [.agg [.v (.int .i64 a0), .v (.int .i64 a1), .v (.int .i64 a2), .v (.int .i64 a3), .v (.string a4), .v (.int .i64 a5), .sl 1 (List.map encS a6)] none] [.u] := by
  refine runs_of [] rfl Try.func100 rfl pk_100 rfl rfl ?_
  simp [h0]
@[simp] theorem c_toMsg (a0 : Int) (a1 : Int) (a2 : Int) (a3 : Int) (a4 : ByteArray) (a5 : Int) (a6 : List ByteArray) (h0 : 16 * List.length a6 ≤ 140737488355328) {K : List X → List X → Prop} : callK E 100 [.agg [.v (.int .i64 a0), .v (.int .i64 a1), .v (.int .i64 a2), .v (.int .i64 a3), .v (.string a4), .v (.int .i64 a5), .sl 1 (List.map encS a6)] none] K = K [.agg [.v (.int .i64 a0), .v (.int .i64 a1), .v (.int .i64 a2), .v (.int .i64 a3), .v (.string a4), .v (.int .i64 a5), .sl 1 (List.map encS a6)] none] [.u] := callK_of (r_toMsg a0 a1 a2 a3 a4 a5 a6 h0)
theorem r_eqMsg (a0 : Int) (a1 : Int) (a2 : Int) (a3 : Int) (a4 : ByteArray) (a5 : Int) (a6 : List ByteArray) (h0 : 16 * List.length a6 ≤ 140737488355328) : Runs E 103 [.agg [.v (.int .i64 a0), .v (.int .i64 a1), .v (.int .i64 a2), .v (.int .i64 a3), .v (.string a4), .v (.int .i64 a5), .sl 1 (List.map encS a6)] none, .agg [.v (.int .i64 a0), .v (.int .i64 a1), .v (.int .i64 a2), .v (.int .i64 a3), .v (.string a4), .v (.int .i64 a5), .sl 1 (List.map encS a6)] none] [.d (.v (.bool true)) none] [.u, .u] := by
  refine runs_of [] rfl Try.func103 rfl pk_103 rfl rfl ?_
  simp [h0]
@[simp] theorem c_eqMsg (a0 : Int) (a1 : Int) (a2 : Int) (a3 : Int) (a4 : ByteArray) (a5 : Int) (a6 : List ByteArray) (h0 : 16 * List.length a6 ≤ 140737488355328) {K : List X → List X → Prop} : callK E 103 [.agg [.v (.int .i64 a0), .v (.int .i64 a1), .v (.int .i64 a2), .v (.int .i64 a3), .v (.string a4), .v (.int .i64 a5), .sl 1 (List.map encS a6)] none, .agg [.v (.int .i64 a0), .v (.int .i64 a1), .v (.int .i64 a2), .v (.int .i64 a3), .v (.string a4), .v (.int .i64 a5), .sl 1 (List.map encS a6)] none] K = K [.d (.v (.bool true)) none] [.u, .u] := callK_of (r_eqMsg a0 a1 a2 a3 a4 a5 a6 h0)
theorem r_szMsgS (l : List PMsg) (left : Int) (hl : 80 * List.length l ≤ 140737488355328) (hok : PMsg.okL l) : ∃ r : Int, Runs E 70 [(.d (.sl 7 (List.map encMsg l)) none), .d (.v (.int .i64 left)) none] [.d (.v (.int .i64 r)) none] [.u, .u] := by
  refine runs_ex [] (fun r : Int => [.d (.v (.int .i64 r)) none]) rfl Try.func70 rfl pk_70 rfl rfl ?_
  simp
  refine cond_by (fun _ => by simp) (fun _ => ?_)
  simp
  refine loop_by (fun p : Nat × Int => [(0, (.d (.sl 7 (List.map encMsg l)) none)), (1, .d (.v (.int .i64 p.2)) none), (5, .d (.v (.int .i64 p.1)) none)]) (fun p => p.1 ≤ l.length) (fun p => l.length - p.1) (0, IntKind.wrap .i64 (left - l.length)) (Nat.zero_le _) ?_ ?_
  · simp
  rintro ⟨k, lf⟩ hk
  simp only at hk
  by_cases hlt : k < l.length
  · have hw := wrap_nat (k := k) (by omega)
    have g0 : 16 * List.length l[k].f6 ≤ 140737488355328 := hok l[k] (List.getElem_mem hlt)
    simp [hlt, g0]
    refine cond_by (fun _ => by simp) (fun _ => ?_)
    simp [hw]
    exact ⟨k + 1, by omega, by omega, by simp⟩
  · simp [hlt]
@[simp] theorem c_szMsgS (l : List PMsg) (left : Int) (hl : 80 * List.length l ≤ 140737488355328) (hok : PMsg.okL l) {K : List X → List X → Prop} : callK E 70 [(.d (.sl 7 (List.map encMsg l)) none), .d (.v (.int .i64 left)) none] K = K [.d (.v (.int .i64 (szv E 70 [(.d (.sl 7 (List.map encMsg l)) none), .d (.v (.int .i64 left)) none]))) none] [.u, .u] := callK_of (szv_of (r_szMsgS l left hl hok))
theorem r_toMsgS (l : List PMsg) (hl : 80 * List.length l ≤ 140737488355328) (hok : PMsg.okL l) : Runs E 76 [(.d (.sl 7 (List.map encMsg l)) none)] [(.d (.sl 7 (List.map encMsg l)) none)] [.u] := by
  refine runs_of [] rfl Try.func76 rfl pk_76 rfl rfl ?_
  simp
  have hm : (80 : Int) * (l.length : Int) ≤ 281474976710656 ∧ (l.length : Int) ≤ 281474976710656 := by omega
  simp [hm]
  refine loop_by (fun k : Nat => [(0, (.d (.sl 7 (List.map encMsg l)) none)), (3, .d (.sl 7 (fill encMsg [.v (.int .i64 0), .v (.int .i64 0), .v (.int .i64 0), .v (.int .i64 0), .v (.string .empty), .v (.int .i64 0), .sl 1 []] l k)) none), (4, .d (.v (.int .i64 k)) none)]) (fun k => k ≤ l.length) (fun k => l.length - k) 0 (Nat.zero_le _) ?_ ?_
  · simp; exact fill_zero _ _ _
  intro k hk
  by_cases hlt : k < l.length
  · have hw := wrap_nat (k := k) (by omega)
    have q1 := fill_len encMsg [.v (.int .i64 0), .v (.int .i64 0), .v (.int .i64 0), .v (.int .i64 0), .v (.string .empty), .v (.int .i64 0), .sl 1 []] l hk
    have q2 := fill_at encMsg [.v (.int .i64 0), .v (.int .i64 0), .v (.int .i64 0), .v (.int .i64 0), .v (.string .empty), .v (.int .i64 0), .sl 1 []] l hlt
    have q3 := fill_set encMsg [.v (.int .i64 0), .v (.int .i64 0), .v (.int .i64 0), .v (.int .i64 0), .v (.string .empty), .v (.int .i64 0), .sl 1 []] l hlt
    simp only [encMsg_at] at q3
    have g0 : 16 * List.length l[k].f6 ≤ 140737488355328 := hok l[k] (List.getElem_mem hlt)
    simp [hlt, hw, q1, q2, q3, g0]
    exact ⟨k + 1, by omega, by omega, by simp⟩
  · have q1 := fill_all encMsg [.v (.int .i64 0), .v (.int .i64 0), .v (.int .i64 0), .v (.int .i64 0), .v (.string .empty), .v (.int .i64 0), .sl 1 []] l hlt
    simp [hlt, q1]
@[simp] theorem c_toMsgS (l : List PMsg) (hl : 80 * List.length l ≤ 140737488355328) (hok : PMsg.okL l) {K : List X → List X → Prop} : callK E 76 [(.d (.sl 7 (List.map encMsg l)) none)] K = K [(.d (.sl 7 (List.map encMsg l)) none)] [.u] := callK_of (r_toMsgS l hl hok)
theorem r_eqMsgS (l : List PMsg) (hl : 80 * List.length l ≤ 140737488355328) (hok : PMsg.okL l) : Runs E 82 [(.d (.sl 7 (List.map encMsg l)) none), (.d (.sl 7 (List.map encMsg l)) none)] [.d (.v (.bool true)) none] [.u, .u] := by
  refine runs_of [(6, [17, 18, 19, 20, 21, 22, 23, 24])] rfl Try.func82 rfl pk_82 rfl rfl ?_
  simp
  refine loop_by (fun k : Nat => [(0, (.d (.sl 7 (List.map encMsg l)) none)), (1, (.d (.sl 7 (List.map encMsg l)) none)), (5, .d (.v (.int .i64 k)) none)]) (fun k => k ≤ l.length) (fun k => l.length - k) 0 (Nat.zero_le _) ?_ ?_
  · simp
  intro k hk
  by_cases hlt : k < l.length
  · have hw := wrap_nat (k := k) (by omega)
    have g0 : 16 * List.length l[k].f6 ≤ 140737488355328 := hok l[k] (List.getElem_mem hlt)
    simp [hlt, hw, g0]
    exact ⟨k + 1, by omega, by omega, by simp⟩
  · simp [hlt]
@[simp] theorem c_eqMsgS (l : List PMsg) (hl : 80 * List.length l ≤ 140737488355328) (hok : PMsg.okL l) {K : List X → List X → Prop} : callK E 82 [(.d (.sl 7 (List.map encMsg l)) none), (.d (.sl 7 (List.map encMsg l)) none)] K = K [.d (.v (.bool true)) none] [.u, .u] := callK_of (r_eqMsgS l hl hok)
structure PWorld where
  f0 : List ByteArray
  f1 : List PHead
  f2 : List PMirror
  f3 : List Int
  f4 : List PMsg
def encWorld (x : PWorld) : List D := [.sl 1 (List.map encS x.f0), .sl 2 (List.map encHead x.f1), .sl 8 (List.map encMirror x.f2), .sl 1 (List.map encI x.f3), .sl 7 (List.map encMsg x.f4)]
@[simp] theorem encWorld_at (x : PWorld) : encWorld x = [.sl 1 (List.map encS x.f0), .sl 2 (List.map encHead x.f1), .sl 8 (List.map encMirror x.f2), .sl 1 (List.map encI x.f3), .sl 7 (List.map encMsg x.f4)] := rfl
def PWorld.ok (x : PWorld) : Prop := 16 * List.length x.f0 ≤ 140737488355328 ∧ 24 * List.length x.f1 ≤ 140737488355328 ∧ 112 * List.length x.f2 ≤ 140737488355328 ∧ PMirror.okL x.f2 ∧ 8 * List.length x.f3 ≤ 140737488355328 ∧ 80 * List.length x.f4 ≤ 140737488355328 ∧ PMsg.okL x.f4
def PWorld.okL (l : List PWorld) : Prop := ∀ y ∈ l, PWorld.ok y
theorem r_szWorld (a0 : List ByteArray) (a1 : List PHead) (a2 : List PMirror) (a3 : List Int) (a4 : List PMsg) (left : Int) (h0 : 16 * List.length a0 ≤ 140737488355328) (h1 : 24 * List.length a1 ≤ 140737488355328) (h2 : 112 * List.length a2 ≤ 140737488355328) (h3 : PMirror.okL a2) (h4 : 8 * List.length a3 ≤ 140737488355328) (h5 : 80 * List.length a4 ≤ 140737488355328) (h6 : PMsg.okL a4) : ∃ r : Int, Runs E 37 [.agg [.sl 1 (List.map encS a0), .sl 2 (List.map encHead a1), .sl 8 (List.map encMirror a2), .sl 1 (List.map encI a3), .sl 7 (List.map encMsg a4)] none, .d (.v (.int .i64 left)) none] [.d (.v (.int .i64 r)) none] [.u, .u] := by
  refine runs_ex [] (fun r : Int => [.d (.v (.int .i64 r)) none]) rfl Try.func37 rfl pk_37 rfl rfl ?_
  simp [h0, h1, h2, h3, h4, h5, h6]
  repeat (refine cond_by (fun _ => by simp) (fun _ => ?_); try simp [h0, h1, h2, h3, h4, h5, h6])
@[simp] theorem c_szWorld (a0 : List ByteArray) (a1 : List PHead) (a2 : List PMirror) (a3 : List Int) (a4 : List PMsg) (left : Int) (h0 : 16 * List.length a0 ≤ 140737488355328) (h1 : 24 * List.length a1 ≤ 140737488355328) (h2 : 112 * List.length a2 ≤ 140737488355328) (h3 : PMirror.okL a2) (h4 : 8 * List.length a3 ≤ 140737488355328) (h5 : 80 * List.length a4 ≤ 140737488355328) (h6 : PMsg.okL a4) {K : List X → List X → Prop} : callK E 37 [.agg [.sl 1 (List.map encS a0), .sl 2 (List.map encHead a1), .sl 8 (List.map encMirror a2), .sl 1 (List.map encI a3), .sl 7 (List.map encMsg a4)] none, .d (.v (.int .i64 left)) none] K = K [.d (.v (.int .i64 (szv E 37 [.agg [.sl 1 (List.map encS a0), .sl 2 (List.map encHead a1), .sl 8 (List.map encMirror a2), .sl 1 (List.map encI a3), .sl 7 (List.map encMsg a4)] none, .d (.v (.int .i64 left)) none]))) none] [.u, .u] := callK_of (szv_of (r_szWorld a0 a1 a2 a3 a4 left h0 h1 h2 h3 h4 h5 h6))
theorem r_toWorld (a0 : List ByteArray) (a1 : List PHead) (a2 : List PMirror) (a3 : List Int) (a4 : List PMsg) (h0 : 16 * List.length a0 ≤ 140737488355328) (h1 : 24 * List.length a1 ≤ 140737488355328) (h2 : 112 * List.length a2 ≤ 140737488355328) (h3 : PMirror.okL a2) (h4 : 8 * List.length a3 ≤ 140737488355328) (h5 : 80 * List.length a4 ≤ 140737488355328) (h6 : PMsg.okL a4) : Runs E 39 [.agg [.sl 1 (List.map encS a0), .sl 2 (List.map encHead a1), .sl 8 (List.map encMirror a2), .sl 1 (List.map encI a3), .sl 7 (List.map encMsg a4)] none] [.agg [.sl 1 (List.map encS a0), .sl 2 (List.map encHead a1), .sl 8 (List.map encMirror a2), .sl 1 (List.map encI a3), .sl 7 (List.map encMsg a4)] none] [.u] := by
  refine runs_of [] rfl Try.func39 rfl pk_39 rfl rfl ?_
  simp [h0, h1, h2, h3, h4, h5, h6]
@[simp] theorem c_toWorld (a0 : List ByteArray) (a1 : List PHead) (a2 : List PMirror) (a3 : List Int) (a4 : List PMsg) (h0 : 16 * List.length a0 ≤ 140737488355328) (h1 : 24 * List.length a1 ≤ 140737488355328) (h2 : 112 * List.length a2 ≤ 140737488355328) (h3 : PMirror.okL a2) (h4 : 8 * List.length a3 ≤ 140737488355328) (h5 : 80 * List.length a4 ≤ 140737488355328) (h6 : PMsg.okL a4) {K : List X → List X → Prop} : callK E 39 [.agg [.sl 1 (List.map encS a0), .sl 2 (List.map encHead a1), .sl 8 (List.map encMirror a2), .sl 1 (List.map encI a3), .sl 7 (List.map encMsg a4)] none] K = K [.agg [.sl 1 (List.map encS a0), .sl 2 (List.map encHead a1), .sl 8 (List.map encMirror a2), .sl 1 (List.map encI a3), .sl 7 (List.map encMsg a4)] none] [.u] := callK_of (r_toWorld a0 a1 a2 a3 a4 h0 h1 h2 h3 h4 h5 h6)
theorem r_eqWorld (a0 : List ByteArray) (a1 : List PHead) (a2 : List PMirror) (a3 : List Int) (a4 : List PMsg) (h0 : 16 * List.length a0 ≤ 140737488355328) (h1 : 24 * List.length a1 ≤ 140737488355328) (h2 : 112 * List.length a2 ≤ 140737488355328) (h3 : PMirror.okL a2) (h4 : 8 * List.length a3 ≤ 140737488355328) (h5 : 80 * List.length a4 ≤ 140737488355328) (h6 : PMsg.okL a4) : Runs E 41 [.agg [.sl 1 (List.map encS a0), .sl 2 (List.map encHead a1), .sl 8 (List.map encMirror a2), .sl 1 (List.map encI a3), .sl 7 (List.map encMsg a4)] none, .agg [.sl 1 (List.map encS a0), .sl 2 (List.map encHead a1), .sl 8 (List.map encMirror a2), .sl 1 (List.map encI a3), .sl 7 (List.map encMsg a4)] none] [.d (.v (.bool true)) none] [.u, .u] := by
  refine runs_of [] rfl Try.func41 rfl pk_41 rfl rfl ?_
  simp [h0, h1, h2, h3, h4, h5, h6]
@[simp] theorem c_eqWorld (a0 : List ByteArray) (a1 : List PHead) (a2 : List PMirror) (a3 : List Int) (a4 : List PMsg) (h0 : 16 * List.length a0 ≤ 140737488355328) (h1 : 24 * List.length a1 ≤ 140737488355328) (h2 : 112 * List.length a2 ≤ 140737488355328) (h3 : PMirror.okL a2) (h4 : 8 * List.length a3 ≤ 140737488355328) (h5 : 80 * List.length a4 ≤ 140737488355328) (h6 : PMsg.okL a4) {K : List X → List X → Prop} : callK E 41 [.agg [.sl 1 (List.map encS a0), .sl 2 (List.map encHead a1), .sl 8 (List.map encMirror a2), .sl 1 (List.map encI a3), .sl 7 (List.map encMsg a4)] none, .agg [.sl 1 (List.map encS a0), .sl 2 (List.map encHead a1), .sl 8 (List.map encMirror a2), .sl 1 (List.map encI a3), .sl 7 (List.map encMsg a4)] none] K = K [.d (.v (.bool true)) none] [.u, .u] := callK_of (r_eqWorld a0 a1 a2 a3 a4 h0 h1 h2 h3 h4 h5 h6)
structure PVersion where
  f0 : Int
  f1 : Int
  f2 : Int
  f3 : ByteArray
def encVersion (x : PVersion) : List D := [.v (.int .i64 x.f0), .v (.int .i64 x.f1), .v (.int .i64 x.f2), .v (.string x.f3)]
@[simp] theorem encVersion_at (x : PVersion) : encVersion x = [.v (.int .i64 x.f0), .v (.int .i64 x.f1), .v (.int .i64 x.f2), .v (.string x.f3)] := rfl
theorem r_szVersion (a0 : Int) (a1 : Int) (a2 : Int) (a3 : ByteArray) (left : Int)  : ∃ r : Int, Runs E 32 [.agg [.v (.int .i64 a0), .v (.int .i64 a1), .v (.int .i64 a2), .v (.string a3)] none, .d (.v (.int .i64 left)) none] [.d (.v (.int .i64 r)) none] [.u, .u] := by
  refine runs_ex [] (fun r : Int => [.d (.v (.int .i64 r)) none]) rfl Try.func32 rfl pk_32 rfl rfl ?_
  simp
  repeat (refine cond_by (fun _ => by simp) (fun _ => ?_); try simp)
@[simp] theorem c_szVersion (a0 : Int) (a1 : Int) (a2 : Int) (a3 : ByteArray) (left : Int)  {K : List X → List X → Prop} : callK E 32 [.agg [.v (.int .i64 a0), .v (.int .i64 a1), .v (.int .i64 a2), .v (.string a3)] none, .d (.v (.int .i64 left)) none] K = K [.d (.v (.int .i64 (szv E 32 [.agg [.v (.int .i64 a0), .v (.int .i64 a1), .v (.int .i64 a2), .v (.string a3)] none, .d (.v (.int .i64 left)) none]))) none] [.u, .u] := callK_of (szv_of (r_szVersion a0 a1 a2 a3 left ))
theorem r_toVersion (a0 : Int) (a1 : Int) (a2 : Int) (a3 : ByteArray)  : Runs E 33 [.agg [.v (.int .i64 a0), .v (.int .i64 a1), .v (.int .i64 a2), .v (.string a3)] none] [.agg [.v (.int .i64 a0), .v (.int .i64 a1), .v (.int .i64 a2), .v (.string a3)] none] [.u] := by
  refine runs_of [] rfl Try.func33 rfl pk_33 rfl rfl ?_
  simp
@[simp] theorem c_toVersion (a0 : Int) (a1 : Int) (a2 : Int) (a3 : ByteArray)  {K : List X → List X → Prop} : callK E 33 [.agg [.v (.int .i64 a0), .v (.int .i64 a1), .v (.int .i64 a2), .v (.string a3)] none] K = K [.agg [.v (.int .i64 a0), .v (.int .i64 a1), .v (.int .i64 a2), .v (.string a3)] none] [.u] := callK_of (r_toVersion a0 a1 a2 a3 )
theorem r_eqVersion (a0 : Int) (a1 : Int) (a2 : Int) (a3 : ByteArray)  : Runs E 65 [.agg [.v (.int .i64 a0), .v (.int .i64 a1), .v (.int .i64 a2), .v (.string a3)] none, .agg [.v (.int .i64 a0), .v (.int .i64 a1), .v (.int .i64 a2), .v (.string a3)] none] [.d (.v (.bool true)) none] [.u, .u] := by
  refine runs_of [] rfl Try.func65 rfl pk_65 rfl rfl ?_
  simp
@[simp] theorem c_eqVersion (a0 : Int) (a1 : Int) (a2 : Int) (a3 : ByteArray)  {K : List X → List X → Prop} : callK E 65 [.agg [.v (.int .i64 a0), .v (.int .i64 a1), .v (.int .i64 a2), .v (.string a3)] none, .agg [.v (.int .i64 a0), .v (.int .i64 a1), .v (.int .i64 a2), .v (.string a3)] none] K = K [.d (.v (.bool true)) none] [.u, .u] := callK_of (r_eqVersion a0 a1 a2 a3 )
theorem r_eqVersionS (l : List PVersion) (hl : 40 * List.length l ≤ 140737488355328) : Runs E 29 [(.d (.sl 4 (List.map encVersion l)) none), (.d (.sl 4 (List.map encVersion l)) none)] [.d (.v (.bool true)) none] [.u, .u] := by
  refine runs_of [(6, [17, 18, 19, 20, 21, 22, 23, 24])] rfl Try.func29 rfl pk_29 rfl rfl ?_
  simp
  refine loop_by (fun k : Nat => [(0, (.d (.sl 4 (List.map encVersion l)) none)), (1, (.d (.sl 4 (List.map encVersion l)) none)), (5, .d (.v (.int .i64 k)) none)]) (fun k => k ≤ l.length) (fun k => l.length - k) 0 (Nat.zero_le _) ?_ ?_
  · simp
  intro k hk
  by_cases hlt : k < l.length
  · have hw := wrap_nat (k := k) (by omega)
    simp [hlt, hw]
    exact ⟨k + 1, by omega, by omega, by simp⟩
  · simp [hlt]
@[simp] theorem c_eqVersionS (l : List PVersion) (hl : 40 * List.length l ≤ 140737488355328) {K : List X → List X → Prop} : callK E 29 [(.d (.sl 4 (List.map encVersion l)) none), (.d (.sl 4 (List.map encVersion l)) none)] K = K [.d (.v (.bool true)) none] [.u, .u] := callK_of (r_eqVersionS l hl)
structure PNeed where
  f0 : ByteArray
  f1 : Int
  f2 : Int
  f3 : Int
  f4 : ByteArray
def encNeed (x : PNeed) : List D := [.v (.string x.f0), .v (.int .i64 x.f1), .v (.int .i64 x.f2), .v (.int .i64 x.f3), .v (.string x.f4)]
@[simp] theorem encNeed_at (x : PNeed) : encNeed x = [.v (.string x.f0), .v (.int .i64 x.f1), .v (.int .i64 x.f2), .v (.int .i64 x.f3), .v (.string x.f4)] := rfl
theorem r_szNeed (a0 : ByteArray) (a1 : Int) (a2 : Int) (a3 : Int) (a4 : ByteArray) (left : Int)  : ∃ r : Int, Runs E 60 [.agg [.v (.string a0), .v (.int .i64 a1), .v (.int .i64 a2), .v (.int .i64 a3), .v (.string a4)] none, .d (.v (.int .i64 left)) none] [.d (.v (.int .i64 r)) none] [.u, .u] := by
  refine runs_ex [] (fun r : Int => [.d (.v (.int .i64 r)) none]) rfl Try.func60 rfl pk_60 rfl rfl ?_
  simp
  repeat (refine cond_by (fun _ => by simp) (fun _ => ?_); try simp)
@[simp] theorem c_szNeed (a0 : ByteArray) (a1 : Int) (a2 : Int) (a3 : Int) (a4 : ByteArray) (left : Int)  {K : List X → List X → Prop} : callK E 60 [.agg [.v (.string a0), .v (.int .i64 a1), .v (.int .i64 a2), .v (.int .i64 a3), .v (.string a4)] none, .d (.v (.int .i64 left)) none] K = K [.d (.v (.int .i64 (szv E 60 [.agg [.v (.string a0), .v (.int .i64 a1), .v (.int .i64 a2), .v (.int .i64 a3), .v (.string a4)] none, .d (.v (.int .i64 left)) none]))) none] [.u, .u] := callK_of (szv_of (r_szNeed a0 a1 a2 a3 a4 left ))
theorem r_toNeed (a0 : ByteArray) (a1 : Int) (a2 : Int) (a3 : Int) (a4 : ByteArray)  : Runs E 62 [.agg [.v (.string a0), .v (.int .i64 a1), .v (.int .i64 a2), .v (.int .i64 a3), .v (.string a4)] none] [.agg [.v (.string a0), .v (.int .i64 a1), .v (.int .i64 a2), .v (.int .i64 a3), .v (.string a4)] none] [.u] := by
  refine runs_of [] rfl Try.func62 rfl pk_62 rfl rfl ?_
  simp
@[simp] theorem c_toNeed (a0 : ByteArray) (a1 : Int) (a2 : Int) (a3 : Int) (a4 : ByteArray)  {K : List X → List X → Prop} : callK E 62 [.agg [.v (.string a0), .v (.int .i64 a1), .v (.int .i64 a2), .v (.int .i64 a3), .v (.string a4)] none] K = K [.agg [.v (.string a0), .v (.int .i64 a1), .v (.int .i64 a2), .v (.int .i64 a3), .v (.string a4)] none] [.u] := callK_of (r_toNeed a0 a1 a2 a3 a4 )
theorem r_eqNeed (a0 : ByteArray) (a1 : Int) (a2 : Int) (a3 : Int) (a4 : ByteArray)  : Runs E 63 [.agg [.v (.string a0), .v (.int .i64 a1), .v (.int .i64 a2), .v (.int .i64 a3), .v (.string a4)] none, .agg [.v (.string a0), .v (.int .i64 a1), .v (.int .i64 a2), .v (.int .i64 a3), .v (.string a4)] none] [.d (.v (.bool true)) none] [.u, .u] := by
  refine runs_of [] rfl Try.func63 rfl pk_63 rfl rfl ?_
  simp
@[simp] theorem c_eqNeed (a0 : ByteArray) (a1 : Int) (a2 : Int) (a3 : Int) (a4 : ByteArray)  {K : List X → List X → Prop} : callK E 63 [.agg [.v (.string a0), .v (.int .i64 a1), .v (.int .i64 a2), .v (.int .i64 a3), .v (.string a4)] none, .agg [.v (.string a0), .v (.int .i64 a1), .v (.int .i64 a2), .v (.int .i64 a3), .v (.string a4)] none] K = K [.d (.v (.bool true)) none] [.u, .u] := callK_of (r_eqNeed a0 a1 a2 a3 a4 )
theorem r_szNeedS (l : List PNeed) (left : Int) (hl : 56 * List.length l ≤ 140737488355328) : ∃ r : Int, Runs E 19 [(.d (.sl 5 (List.map encNeed l)) none), .d (.v (.int .i64 left)) none] [.d (.v (.int .i64 r)) none] [.u, .u] := by
  refine runs_ex [] (fun r : Int => [.d (.v (.int .i64 r)) none]) rfl Try.func19 rfl pk_19 rfl rfl ?_
  simp
  refine cond_by (fun _ => by simp) (fun _ => ?_)
  simp
  refine loop_by (fun p : Nat × Int => [(0, (.d (.sl 5 (List.map encNeed l)) none)), (1, .d (.v (.int .i64 p.2)) none), (5, .d (.v (.int .i64 p.1)) none)]) (fun p => p.1 ≤ l.length) (fun p => l.length - p.1) (0, IntKind.wrap .i64 (left - l.length)) (Nat.zero_le _) ?_ ?_
  · simp
  rintro ⟨k, lf⟩ hk
  simp only at hk
  by_cases hlt : k < l.length
  · have hw := wrap_nat (k := k) (by omega)
    simp [hlt]
    refine cond_by (fun _ => by simp) (fun _ => ?_)
    simp [hw]
    exact ⟨k + 1, by omega, by omega, by simp⟩
  · simp [hlt]
@[simp] theorem c_szNeedS (l : List PNeed) (left : Int) (hl : 56 * List.length l ≤ 140737488355328) {K : List X → List X → Prop} : callK E 19 [(.d (.sl 5 (List.map encNeed l)) none), .d (.v (.int .i64 left)) none] K = K [.d (.v (.int .i64 (szv E 19 [(.d (.sl 5 (List.map encNeed l)) none), .d (.v (.int .i64 left)) none]))) none] [.u, .u] := callK_of (szv_of (r_szNeedS l left hl))
theorem r_toNeedS (l : List PNeed) (hl : 56 * List.length l ≤ 140737488355328) : Runs E 22 [(.d (.sl 5 (List.map encNeed l)) none)] [(.d (.sl 5 (List.map encNeed l)) none)] [.u] := by
  refine runs_of [] rfl Try.func22 rfl pk_22 rfl rfl ?_
  simp
  have hm : (56 : Int) * (l.length : Int) ≤ 281474976710656 ∧ (l.length : Int) ≤ 281474976710656 := by omega
  simp [hm]
  refine loop_by (fun k : Nat => [(0, (.d (.sl 5 (List.map encNeed l)) none)), (3, .d (.sl 5 (fill encNeed [.v (.string .empty), .v (.int .i64 0), .v (.int .i64 0), .v (.int .i64 0), .v (.string .empty)] l k)) none), (4, .d (.v (.int .i64 k)) none)]) (fun k => k ≤ l.length) (fun k => l.length - k) 0 (Nat.zero_le _) ?_ ?_
  · simp; exact fill_zero _ _ _
  intro k hk
  by_cases hlt : k < l.length
  · have hw := wrap_nat (k := k) (by omega)
    have q1 := fill_len encNeed [.v (.string .empty), .v (.int .i64 0), .v (.int .i64 0), .v (.int .i64 0), .v (.string .empty)] l hk
    have q2 := fill_at encNeed [.v (.string .empty), .v (.int .i64 0), .v (.int .i64 0), .v (.int .i64 0), .v (.string .empty)] l hlt
    have q3 := fill_set encNeed [.v (.string .empty), .v (.int .i64 0), .v (.int .i64 0), .v (.int .i64 0), .v (.string .empty)] l hlt
    simp only [encNeed_at] at q3
    simp [hlt, hw, q1, q2, q3]
    exact ⟨k + 1, by omega, by omega, by simp⟩
  · have q1 := fill_all encNeed [.v (.string .empty), .v (.int .i64 0), .v (.int .i64 0), .v (.int .i64 0), .v (.string .empty)] l hlt
    simp [hlt, q1]
@[simp] theorem c_toNeedS (l : List PNeed) (hl : 56 * List.length l ≤ 140737488355328) {K : List X → List X → Prop} : callK E 22 [(.d (.sl 5 (List.map encNeed l)) none)] K = K [(.d (.sl 5 (List.map encNeed l)) none)] [.u] := callK_of (r_toNeedS l hl)
theorem r_eqNeedS (l : List PNeed) (hl : 56 * List.length l ≤ 140737488355328) : Runs E 23 [(.d (.sl 5 (List.map encNeed l)) none), (.d (.sl 5 (List.map encNeed l)) none)] [.d (.v (.bool true)) none] [.u, .u] := by
  refine runs_of [(6, [17, 18, 19, 20, 21, 22, 23, 24])] rfl Try.func23 rfl pk_23 rfl rfl ?_
  simp
  refine loop_by (fun k : Nat => [(0, (.d (.sl 5 (List.map encNeed l)) none)), (1, (.d (.sl 5 (List.map encNeed l)) none)), (5, .d (.v (.int .i64 k)) none)]) (fun k => k ≤ l.length) (fun k => l.length - k) 0 (Nat.zero_le _) ?_ ?_
  · simp
  intro k hk
  by_cases hlt : k < l.length
  · have hw := wrap_nat (k := k) (by omega)
    simp [hlt, hw]
    exact ⟨k + 1, by omega, by omega, by simp⟩
  · simp [hlt]
@[simp] theorem c_eqNeedS (l : List PNeed) (hl : 56 * List.length l ≤ 140737488355328) {K : List X → List X → Prop} : callK E 23 [(.d (.sl 5 (List.map encNeed l)) none), (.d (.sl 5 (List.map encNeed l)) none)] K = K [.d (.v (.bool true)) none] [.u, .u] := callK_of (r_eqNeedS l hl)
structure PEntry where
  f0 : ByteArray
  f1 : Int
  f2 : Int
  f3 : Int
  f4 : ByteArray
  f5 : List PNeed
def encEntry (x : PEntry) : List D := [.v (.string x.f0), .v (.int .i64 x.f1), .v (.int .i64 x.f2), .v (.int .i64 x.f3), .v (.string x.f4), .sl 5 (List.map encNeed x.f5)]
@[simp] theorem encEntry_at (x : PEntry) : encEntry x = [.v (.string x.f0), .v (.int .i64 x.f1), .v (.int .i64 x.f2), .v (.int .i64 x.f3), .v (.string x.f4), .sl 5 (List.map encNeed x.f5)] := rfl
def PEntry.ok (x : PEntry) : Prop := 56 * List.length x.f5 ≤ 140737488355328
def PEntry.okL (l : List PEntry) : Prop := ∀ y ∈ l, PEntry.ok y
theorem r_szEntry (a0 : ByteArray) (a1 : Int) (a2 : Int) (a3 : Int) (a4 : ByteArray) (a5 : List PNeed) (left : Int) (h0 : 56 * List.length a5 ≤ 140737488355328) : ∃ r : Int, Runs E 59 [.agg [.v (.string a0), .v (.int .i64 a1), .v (.int .i64 a2), .v (.int .i64 a3), .v (.string a4), .sl 5 (List.map encNeed a5)] none, .d (.v (.int .i64 left)) none] [.d (.v (.int .i64 r)) none] [.u, .u] := by
  refine runs_ex [] (fun r : Int => [.d (.v (.int .i64 r)) none]) rfl Try.func59 rfl pk_59 rfl rfl ?_
  simp [h0]
  repeat (refine cond_by (fun _ => by simp) (fun _ => ?_); try simp [h0])
@[simp] theorem c_szEntry (a0 : ByteArray) (a1 : Int) (a2 : Int) (a3 : Int) (a4 : ByteArray) (a5 : List PNeed) (left : Int) (h0 : 56 * List.length a5 ≤ 140737488355328) {K : List X → List X → Prop} : callK E 59 [.agg [.v (.string a0), .v (.int .i64 a1), .v (.int .i64 a2), .v (.int .i64 a3), .v (.string a4), .sl 5 (List.map encNeed a5)] none, .d (.v (.int .i64 left)) none] K = K [.d (.v (.int .i64 (szv E 59 [.agg [.v (.string a0), .v (.int .i64 a1), .v (.int .i64 a2), .v (.int .i64 a3), .v (.string a4), .sl 5 (List.map encNeed a5)] none, .d (.v (.int .i64 left)) none]))) none] [.u, .u] := callK_of (szv_of (r_szEntry a0 a1 a2 a3 a4 a5 left h0))
theorem r_toEntry (a0 : ByteArray) (a1 : Int) (a2 : Int) (a3 : Int) (a4 : ByteArray) (a5 : List PNeed) (h0 : 56 * List.length a5 ≤ 140737488355328) : Runs E 61 [.agg [.v (.string a0), .v (.int .i64 a1), .v (.int .i64 a2), .v (.int .i64 a3), .v (.string a4), .sl 5 (List.map encNeed a5)] none] [.agg [.v (.string a0), .v (.int .i64 a1), .v (.int .i64 a2), .v (.int .i64 a3), .v (.string a4), .sl 5 (List.map encNeed a5)] none] [.u] := by
  refine runs_of [] rfl Try.func61 rfl pk_61 rfl rfl ?_
  simp [h0]
@[simp] theorem c_toEntry (a0 : ByteArray) (a1 : Int) (a2 : Int) (a3 : Int) (a4 : ByteArray) (a5 : List PNeed) (h0 : 56 * List.length a5 ≤ 140737488355328) {K : List X → List X → Prop} : callK E 61 [.agg [.v (.string a0), .v (.int .i64 a1), .v (.int .i64 a2), .v (.int .i64 a3), .v (.string a4), .sl 5 (List.map encNeed a5)] none] K = K [.agg [.v (.string a0), .v (.int .i64 a1), .v (.int .i64 a2), .v (.int .i64 a3), .v (.string a4), .sl 5 (List.map encNeed a5)] none] [.u] := callK_of (r_toEntry a0 a1 a2 a3 a4 a5 h0)
theorem r_eqEntry (a0 : ByteArray) (a1 : Int) (a2 : Int) (a3 : Int) (a4 : ByteArray) (a5 : List PNeed) (h0 : 56 * List.length a5 ≤ 140737488355328) : Runs E 34 [.agg [.v (.string a0), .v (.int .i64 a1), .v (.int .i64 a2), .v (.int .i64 a3), .v (.string a4), .sl 5 (List.map encNeed a5)] none, .agg [.v (.string a0), .v (.int .i64 a1), .v (.int .i64 a2), .v (.int .i64 a3), .v (.string a4), .sl 5 (List.map encNeed a5)] none] [.d (.v (.bool true)) none] [.u, .u] := by
  refine runs_of [] rfl Try.func34 rfl pk_34 rfl rfl ?_
  simp [h0]
@[simp] theorem c_eqEntry (a0 : ByteArray) (a1 : Int) (a2 : Int) (a3 : Int) (a4 : ByteArray) (a5 : List PNeed) (h0 : 56 * List.length a5 ≤ 140737488355328) {K : List X → List X → Prop} : callK E 34 [.agg [.v (.string a0), .v (.int .i64 a1), .v (.int .i64 a2), .v (.int .i64 a3), .v (.string a4), .sl 5 (List.map encNeed a5)] none, .agg [.v (.string a0), .v (.int .i64 a1), .v (.int .i64 a2), .v (.int .i64 a3), .v (.string a4), .sl 5 (List.map encNeed a5)] none] K = K [.d (.v (.bool true)) none] [.u, .u] := callK_of (r_eqEntry a0 a1 a2 a3 a4 a5 h0)
theorem r_szEntryS (l : List PEntry) (left : Int) (hl : 80 * List.length l ≤ 140737488355328) (hok : PEntry.okL l) : ∃ r : Int, Runs E 18 [(.d (.sl 6 (List.map encEntry l)) none), .d (.v (.int .i64 left)) none] [.d (.v (.int .i64 r)) none] [.u, .u] := by
  refine runs_ex [] (fun r : Int => [.d (.v (.int .i64 r)) none]) rfl Try.func18 rfl pk_18 rfl rfl ?_
  simp
  refine cond_by (fun _ => by simp) (fun _ => ?_)
  simp
  refine loop_by (fun p : Nat × Int => [(0, (.d (.sl 6 (List.map encEntry l)) none)), (1, .d (.v (.int .i64 p.2)) none), (5, .d (.v (.int .i64 p.1)) none)]) (fun p => p.1 ≤ l.length) (fun p => l.length - p.1) (0, IntKind.wrap .i64 (left - l.length)) (Nat.zero_le _) ?_ ?_
  · simp
  rintro ⟨k, lf⟩ hk
  simp only at hk
  by_cases hlt : k < l.length
  · have hw := wrap_nat (k := k) (by omega)
    have g0 : 56 * List.length l[k].f5 ≤ 140737488355328 := hok l[k] (List.getElem_mem hlt)
    simp [hlt, g0]
    refine cond_by (fun _ => by simp) (fun _ => ?_)
    simp [hw]
    exact ⟨k + 1, by omega, by omega, by simp⟩
  · simp [hlt]
@[simp] theorem c_szEntryS (l : List PEntry) (left : Int) (hl : 80 * List.length l ≤ 140737488355328) (hok : PEntry.okL l) {K : List X → List X → Prop} : callK E 18 [(.d (.sl 6 (List.map encEntry l)) none), .d (.v (.int .i64 left)) none] K = K [.d (.v (.int .i64 (szv E 18 [(.d (.sl 6 (List.map encEntry l)) none), .d (.v (.int .i64 left)) none]))) none] [.u, .u] := callK_of (szv_of (r_szEntryS l left hl hok))
theorem r_toEntryS (l : List PEntry) (hl : 80 * List.length l ≤ 140737488355328) (hok : PEntry.okL l) : Runs E 21 [(.d (.sl 6 (List.map encEntry l)) none)] [(.d (.sl 6 (List.map encEntry l)) none)] [.u] := by
  refine runs_of [] rfl Try.func21 rfl pk_21 rfl rfl ?_
  simp
  have hm : (80 : Int) * (l.length : Int) ≤ 281474976710656 ∧ (l.length : Int) ≤ 281474976710656 := by omega
  simp [hm]
  refine loop_by (fun k : Nat => [(0, (.d (.sl 6 (List.map encEntry l)) none)), (3, .d (.sl 6 (fill encEntry [.v (.string .empty), .v (.int .i64 0), .v (.int .i64 0), .v (.int .i64 0), .v (.string .empty), .sl 5 []] l k)) none), (4, .d (.v (.int .i64 k)) none)]) (fun k => k ≤ l.length) (fun k => l.length - k) 0 (Nat.zero_le _) ?_ ?_
  · simp; exact fill_zero _ _ _
  intro k hk
  by_cases hlt : k < l.length
  · have hw := wrap_nat (k := k) (by omega)
    have q1 := fill_len encEntry [.v (.string .empty), .v (.int .i64 0), .v (.int .i64 0), .v (.int .i64 0), .v (.string .empty), .sl 5 []] l hk
    have q2 := fill_at encEntry [.v (.string .empty), .v (.int .i64 0), .v (.int .i64 0), .v (.int .i64 0), .v (.string .empty), .sl 5 []] l hlt
    have q3 := fill_set encEntry [.v (.string .empty), .v (.int .i64 0), .v (.int .i64 0), .v (.int .i64 0), .v (.string .empty), .sl 5 []] l hlt
    simp only [encEntry_at] at q3
    have g0 : 56 * List.length l[k].f5 ≤ 140737488355328 := hok l[k] (List.getElem_mem hlt)
    simp [hlt, hw, q1, q2, q3, g0]
    exact ⟨k + 1, by omega, by omega, by simp⟩
  · have q1 := fill_all encEntry [.v (.string .empty), .v (.int .i64 0), .v (.int .i64 0), .v (.int .i64 0), .v (.string .empty), .sl 5 []] l hlt
    simp [hlt, q1]
@[simp] theorem c_toEntryS (l : List PEntry) (hl : 80 * List.length l ≤ 140737488355328) (hok : PEntry.okL l) {K : List X → List X → Prop} : callK E 21 [(.d (.sl 6 (List.map encEntry l)) none)] K = K [(.d (.sl 6 (List.map encEntry l)) none)] [.u] := callK_of (r_toEntryS l hl hok)
theorem r_eqEntryS (l : List PEntry) (hl : 80 * List.length l ≤ 140737488355328) (hok : PEntry.okL l) : Runs E 24 [(.d (.sl 6 (List.map encEntry l)) none), (.d (.sl 6 (List.map encEntry l)) none)] [.d (.v (.bool true)) none] [.u, .u] := by
  refine runs_of [(6, [17, 18, 19, 20, 21, 22, 23, 24])] rfl Try.func24 rfl pk_24 rfl rfl ?_
  simp
  refine loop_by (fun k : Nat => [(0, (.d (.sl 6 (List.map encEntry l)) none)), (1, (.d (.sl 6 (List.map encEntry l)) none)), (5, .d (.v (.int .i64 k)) none)]) (fun k => k ≤ l.length) (fun k => l.length - k) 0 (Nat.zero_le _) ?_ ?_
  · simp
  intro k hk
  by_cases hlt : k < l.length
  · have hw := wrap_nat (k := k) (by omega)
    have g0 : 56 * List.length l[k].f5 ≤ 140737488355328 := hok l[k] (List.getElem_mem hlt)
    simp [hlt, hw, g0]
    exact ⟨k + 1, by omega, by omega, by simp⟩
  · simp [hlt]
@[simp] theorem c_eqEntryS (l : List PEntry) (hl : 80 * List.length l ≤ 140737488355328) (hok : PEntry.okL l) {K : List X → List X → Prop} : callK E 24 [(.d (.sl 6 (List.map encEntry l)) none), (.d (.sl 6 (List.map encEntry l)) none)] K = K [.d (.v (.bool true)) none] [.u, .u] := callK_of (r_eqEntryS l hl hok)
end Go.Proofs.Ytfgaikcoodagiaa

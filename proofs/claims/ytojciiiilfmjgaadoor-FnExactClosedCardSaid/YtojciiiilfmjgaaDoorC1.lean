/- Sizes, copies, comparisons: what they come to. -/
import Derived.Test.YtojciiiilfmjgaaDoorS2
set_option linter.all false
namespace Go.Proofs.YtojciiiilfmjgaaDoor
open Go.Ev
set_option maxRecDepth 20000
set_option linter.unusedVariables false
set_option linter.unusedSimpArgs false
structure PVersion where
  f0 : Int
  f1 : Int
  f2 : Int
  f3 : ByteArray
def encVersion (x : PVersion) : List D := [.v (.int .i64 x.f0), .v (.int .i64 x.f1), .v (.int .i64 x.f2), .v (.string x.f3)]
@[simp] theorem encVersion_at (x : PVersion) : encVersion x = [.v (.int .i64 x.f0), .v (.int .i64 x.f1), .v (.int .i64 x.f2), .v (.string x.f3)] := rfl
theorem r_szVersion (a0 : Int) (a1 : Int) (a2 : Int) (a3 : ByteArray) (left : Int)  : ∃ r : Int, Runs E 27 [.agg [.v (.int .i64 a0), .v (.int .i64 a1), .v (.int .i64 a2), .v (.string a3)] none, .d (.v (.int .i64 left)) none] [.d (.v (.int .i64 r)) none] [.u, .u] := by
  refine runs_ex [] (fun r : Int => [.d (.v (.int .i64 r)) none]) rfl Tryd.func27 rfl pk_27 rfl rfl ?_
  simp
  repeat (refine cond_by (fun _ => by simp) (fun _ => ?_); try simp)
@[simp] theorem c_szVersion (a0 : Int) (a1 : Int) (a2 : Int) (a3 : ByteArray) (left : Int)  {K : List X → List X → Prop} : callK E 27 [.agg [.v (.int .i64 a0), .v (.int .i64 a1), .v (.int .i64 a2), .v (.string a3)] none, .d (.v (.int .i64 left)) none] K = K [.d (.v (.int .i64 (szv E 27 [.agg [.v (.int .i64 a0), .v (.int .i64 a1), .v (.int .i64 a2), .v (.string a3)] none, .d (.v (.int .i64 left)) none]))) none] [.u, .u] := callK_of (szv_of (r_szVersion a0 a1 a2 a3 left ))
theorem r_toVersion (a0 : Int) (a1 : Int) (a2 : Int) (a3 : ByteArray)  : Runs E 29 [.agg [.v (.int .i64 a0), .v (.int .i64 a1), .v (.int .i64 a2), .v (.string a3)] none] [.agg [.v (.int .i64 a0), .v (.int .i64 a1), .v (.int .i64 a2), .v (.string a3)] none] [.u] := by
  refine runs_of [] rfl Tryd.func29 rfl pk_29 rfl rfl ?_
  simp
@[simp] theorem c_toVersion (a0 : Int) (a1 : Int) (a2 : Int) (a3 : ByteArray)  {K : List X → List X → Prop} : callK E 29 [.agg [.v (.int .i64 a0), .v (.int .i64 a1), .v (.int .i64 a2), .v (.string a3)] none] K = K [.agg [.v (.int .i64 a0), .v (.int .i64 a1), .v (.int .i64 a2), .v (.string a3)] none] [.u] := callK_of (r_toVersion a0 a1 a2 a3 )
theorem r_eqVersion (a0 : Int) (a1 : Int) (a2 : Int) (a3 : ByteArray)  : Runs E 32 [.agg [.v (.int .i64 a0), .v (.int .i64 a1), .v (.int .i64 a2), .v (.string a3)] none, .agg [.v (.int .i64 a0), .v (.int .i64 a1), .v (.int .i64 a2), .v (.string a3)] none] [.d (.v (.bool true)) none] [.u, .u] := by
  refine runs_of [] rfl Tryd.func32 rfl pk_32 rfl rfl ?_
  simp
@[simp] theorem c_eqVersion (a0 : Int) (a1 : Int) (a2 : Int) (a3 : ByteArray)  {K : List X → List X → Prop} : callK E 32 [.agg [.v (.int .i64 a0), .v (.int .i64 a1), .v (.int .i64 a2), .v (.string a3)] none, .agg [.v (.int .i64 a0), .v (.int .i64 a1), .v (.int .i64 a2), .v (.string a3)] none] K = K [.d (.v (.bool true)) none] [.u, .u] := callK_of (r_eqVersion a0 a1 a2 a3 )
structure PNeed where
  f0 : ByteArray
  f1 : Int
  f2 : Int
  f3 : Int
  f4 : ByteArray
def encNeed (x : PNeed) : List D := [.v (.string x.f0), .v (.int .i64 x.f1), .v (.int .i64 x.f2), .v (.int .i64 x.f3), .v (.string x.f4)]
@[simp] theorem encNeed_at (x : PNeed) : encNeed x = [.v (.string x.f0), .v (.int .i64 x.f1), .v (.int .i64 x.f2), .v (.int .i64 x.f3), .v (.string x.f4)] := rfl
theorem r_szNeed (a0 : ByteArray) (a1 : Int) (a2 : Int) (a3 : Int) (a4 : ByteArray) (left : Int)  : ∃ r : Int, Runs E 15 [.agg [.v (.string a0), .v (.int .i64 a1), .v (.int .i64 a2), .v (.int .i64 a3), .v (.string a4)] none, .d (.v (.int .i64 left)) none] [.d (.v (.int .i64 r)) none] [.u, .u] := by
  refine runs_ex [] (fun r : Int => [.d (.v (.int .i64 r)) none]) rfl Tryd.func15 rfl pk_15 rfl rfl ?_
  simp
  repeat (refine cond_by (fun _ => by simp) (fun _ => ?_); try simp)
@[simp] theorem c_szNeed (a0 : ByteArray) (a1 : Int) (a2 : Int) (a3 : Int) (a4 : ByteArray) (left : Int)  {K : List X → List X → Prop} : callK E 15 [.agg [.v (.string a0), .v (.int .i64 a1), .v (.int .i64 a2), .v (.int .i64 a3), .v (.string a4)] none, .d (.v (.int .i64 left)) none] K = K [.d (.v (.int .i64 (szv E 15 [.agg [.v (.string a0), .v (.int .i64 a1), .v (.int .i64 a2), .v (.int .i64 a3), .v (.string a4)] none, .d (.v (.int .i64 left)) none]))) none] [.u, .u] := callK_of (szv_of (r_szNeed a0 a1 a2 a3 a4 left ))
theorem r_toNeed (a0 : ByteArray) (a1 : Int) (a2 : Int) (a3 : Int) (a4 : ByteArray)  : Runs E 17 [.agg [.v (.string a0), .v (.int .i64 a1), .v (.int .i64 a2), .v (.int .i64 a3), .v (.string a4)] none] [.agg [.v (.string a0), .v (.int .i64 a1), .v (.int .i64 a2), .v (.int .i64 a3), .v (.string a4)] none] [.u] := by
  refine runs_of [] rfl Tryd.func17 rfl pk_17 rfl rfl ?_
  simp
@[simp] theorem c_toNeed (a0 : ByteArray) (a1 : Int) (a2 : Int) (a3 : Int) (a4 : ByteArray)  {K : List X → List X → Prop} : callK E 17 [.agg [.v (.string a0), .v (.int .i64 a1), .v (.int .i64 a2), .v (.int .i64 a3), .v (.string a4)] none] K = K [.agg [.v (.string a0), .v (.int .i64 a1), .v (.int .i64 a2), .v (.int .i64 a3), .v (.string a4)] none] [.u] := callK_of (r_toNeed a0 a1 a2 a3 a4 )
theorem r_eqNeed (a0 : ByteArray) (a1 : Int) (a2 : Int) (a3 : Int) (a4 : ByteArray)  : Runs E 21 [.agg [.v (.string a0), .v (.int .i64 a1), .v (.int .i64 a2), .v (.int .i64 a3), .v (.string a4)] none, .agg [.v (.string a0), .v (.int .i64 a1), .v (.int .i64 a2), .v (.int .i64 a3), .v (.string a4)] none] [.d (.v (.bool true)) none] [.u, .u] := by
  refine runs_of [] rfl Tryd.func21 rfl pk_21 rfl rfl ?_
  simp
@[simp] theorem c_eqNeed (a0 : ByteArray) (a1 : Int) (a2 : Int) (a3 : Int) (a4 : ByteArray)  {K : List X → List X → Prop} : callK E 21 [.agg [.v (.string a0), .v (.int .i64 a1), .v (.int .i64 a2), .v (.int .i64 a3), .v (.string a4)] none, .agg [.v (.string a0), .v (.int .i64 a1), .v (.int .i64 a2), .v (.int .i64 a3), .v (.string a4)] none] K = K [.d (.v (.bool true)) none] [.u, .u] := callK_of (r_eqNeed a0 a1 a2 a3 a4 )
theorem r_szNeedS (l : List PNeed) (left : Int) (hl : 56 * List.length l ≤ 140737488355328) : ∃ r : Int, Runs E 5 [(.d (.sl 5 (List.map encNeed l)) none), .d (.v (.int .i64 left)) none] [.d (.v (.int .i64 r)) none] [.u, .u] := by
  refine runs_ex [] (fun r : Int => [.d (.v (.int .i64 r)) none]) rfl Tryd.func5 rfl pk_5 rfl rfl ?_
  simp
  refine cond_by (fun _ => by simp) (fun _ => ?_)
  simp
  refine loop_by (fun p : Nat × Int => [(0, (.d (.sl 5 (List.map encNeed l)) none)), (1, .d (.v (.int .i64 p.2)) none), (5, .d (.v (.int .i64 p.1)) none)]) (fun p => p.1 ≤ l.length) (fun p => l.length - p.1) (0, IntKind.wrap .i64 (left - l.length)) (Nat.zero_le _) ?_ ?_
  · simp
  rintro ⟨k, lf⟩ hk
  simp only at hk
  by_cases hlt : k < l.length
  · have hw := wrap_nat (k := k) (by omega)
    simp [hlt]
    refine cond_by (fun _ => by simp) (fun _ => ?_)
    simp [hw]
    exact ⟨k + 1, by omega, by omega, by simp⟩
  · simp [hlt]
@[simp] theorem c_szNeedS (l : List PNeed) (left : Int) (hl : 56 * List.length l ≤ 140737488355328) {K : List X → List X → Prop} : callK E 5 [(.d (.sl 5 (List.map encNeed l)) none), .d (.v (.int .i64 left)) none] K = K [.d (.v (.int .i64 (szv E 5 [(.d (.sl 5 (List.map encNeed l)) none), .d (.v (.int .i64 left)) none]))) none] [.u, .u] := callK_of (szv_of (r_szNeedS l left hl))
theorem r_toNeedS (l : List PNeed) (hl : 56 * List.length l ≤ 140737488355328) : Runs E 7 [(.d (.sl 5 (List.map encNeed l)) none)] [(.d (.sl 5 (List.map encNeed l)) none)] [.u] := by
  refine runs_of [] rfl Tryd.func7 rfl pk_7 rfl rfl ?_
  simp
  have hm : (56 : Int) * (l.length : Int) ≤ 281474976710656 ∧ (l.length : Int) ≤ 281474976710656 := by omega
  simp [hm]
  refine loop_by (fun k : Nat => [(0, (.d (.sl 5 (List.map encNeed l)) none)), (3, .d (.sl 5 (fill encNeed [.v (.string .empty), .v (.int .i64 0), .v (.int .i64 0), .v (.int .i64 0), .v (.string .empty)] l k)) none), (4, .d (.v (.int .i64 k)) none)]) (fun k => k ≤ l.length) (fun k => l.length - k) 0 (Nat.zero_le _) ?_ ?_
  · simp; exact fill_zero _ _ _
  intro k hk
  by_cases hlt : k < l.length
  · have hw := wrap_nat (k := k) (by omega)
    have q1 := fill_len encNeed [.v (.string .empty), .v (.int .i64 0), .v (.int .i64 0), .v (.int .i64 0), .v (.string .empty)] l hk
    have q2 := fill_at encNeed [.v (.string .empty), .v (.int .i64 0), .v (.int .i64 0), .v (.int .i64 0), .v (.string .empty)] l hlt
    have q3 := fill_set encNeed [.v (.string .empty), .v (.int .i64 0), .v (.int .i64 0), .v (.int .i64 0), .v (.string .empty)] l hlt
    simp only [encNeed_at] at q3
    simp [hlt, hw, q1, q2, q3]
    exact ⟨k + 1, by omega, by omega, by simp⟩
  · have q1 := fill_all encNeed [.v (.string .empty), .v (.int .i64 0), .v (.int .i64 0), .v (.int .i64 0), .v (.string .empty)] l hlt
    simp [hlt, q1]
@[simp] theorem c_toNeedS (l : List PNeed) (hl : 56 * List.length l ≤ 140737488355328) {K : List X → List X → Prop} : callK E 7 [(.d (.sl 5 (List.map encNeed l)) none)] K = K [(.d (.sl 5 (List.map encNeed l)) none)] [.u] := callK_of (r_toNeedS l hl)
theorem r_eqNeedS (l : List PNeed) (hl : 56 * List.length l ≤ 140737488355328) : Runs E 9 [(.d (.sl 5 (List.map encNeed l)) none), (.d (.sl 5 (List.map encNeed l)) none)] [.d (.v (.bool true)) none] [.u, .u] := by
  refine runs_of [(6, [17, 18, 19, 20, 21, 22, 23, 24])] rfl Tryd.func9 rfl pk_9 rfl rfl ?_
  simp
  refine loop_by (fun k : Nat => [(0, (.d (.sl 5 (List.map encNeed l)) none)), (1, (.d (.sl 5 (List.map encNeed l)) none)), (5, .d (.v (.int .i64 k)) none)]) (fun k => k ≤ l.length) (fun k => l.length - k) 0 (Nat.zero_le _) ?_ ?_
  · simp
  intro k hk
  by_cases hlt : k < l.length
  · have hw := wrap_nat (k := k) (by omega)
    simp [hlt, hw]
    exact ⟨k + 1, by omega, by omega, by simp⟩
  · simp [hlt]
@[simp] theorem c_eqNeedS (l : List PNeed) (hl : 56 * List.length l ≤ 140737488355328) {K : List X → List X → Prop} : callK E 9 [(.d (.sl 5 (List.map encNeed l)) none), (.d (.sl 5 (List.map encNeed l)) none)] K = K [.d (.v (.bool true)) none] [.u, .u] := callK_of (r_eqNeedS l hl)
structure PEntry where
  f0 : ByteArray
  f1 : Int
  f2 : Int
  f3 : Int
  f4 : ByteArray
  f5 : List PNeed
def encEntry (x : PEntry) : List D := [.v (.string x.f0), .v (.int .i64 x.f1), .v (.int .i64 x.f2), .v (.int .i64 x.f3), .v (.string x.f4), .sl 5 (List.map encNeed x.f5)]
@[simp] theorem encEntry_at (x : PEntry) : encEntry x = [.v (.string x.f0), .v (.int .i64 x.f1), .v (.int .i64 x.f2), .v (.int .i64 x.f3), .v (.string x.f4), .sl 5 (List.map encNeed x.f5)] := rfl
def PEntry.ok (x : PEntry) : Prop := 56 * List.length x.f5 ≤ 140737488355328
def PEntry.okL (l : List PEntry) : Prop := ∀ y ∈ l, PEntry.ok y
theorem r_szEntry (a0 : ByteArray) (a1 : Int) (a2 : Int) (a3 : Int) (a4 : ByteArray) (a5 : List PNeed) (left : Int) (h0 : 56 * List.length a5 ≤ 140737488355328) : ∃ r : Int, Runs E 22 [.agg [.v (.string a0), .v (.int .i64 a1), .v (.int .i64 a2), .v (.int .i64 a3), .v (.string a4), .sl 5 (List.map encNeed a5)] none, .d (.v (.int .i64 left)) none] [.d (.v (.int .i64 r)) none] [.u, .u] := by
  refine runs_ex [] (fun r : Int => [.d (.v (.int .i64 r)) none]) rfl Tryd.func22 rfl pk_22 rfl rfl ?_
  simp [h0]
  repeat (refine cond_by (fun _ => by simp) (fun _ => ?_); try simp [h0])
@[simp] theorem c_szEntry (a0 : ByteArray) (a1 : Int) (a2 : Int) (a3 : Int) (a4 : ByteArray) (a5 : List PNeed) (left : Int) (h0 : 56 * List.length a5 ≤ 140737488355328) {K : List X → List X → Prop} : callK E 22 [.agg [.v (.string a0), .v (.int .i64 a1), .v (.int .i64 a2), .v (.int .i64 a3), .v (.string a4), .sl 5 (List.map encNeed a5)] none, .d (.v (.int .i64 left)) none] K = K [.d (.v (.int .i64 (szv E 22 [.agg [.v (.string a0), .v (.int .i64 a1), .v (.int .i64 a2), .v (.int .i64 a3), .v (.string a4), .sl 5 (List.map encNeed a5)] none, .d (.v (.int .i64 left)) none]))) none] [.u, .u] := callK_of (szv_of (r_szEntry a0 a1 a2 a3 a4 a5 left h0))
theorem r_toEntry (a0 : ByteArray) (a1 : Int) (a2 : Int) (a3 : Int) (a4 : ByteArray) (a5 : List PNeed) (h0 : 56 * List.length a5 ≤ 140737488355328) : Runs E 24 [.agg [.v (.string a0), .v (.int .i64 a1), .v (.int .i64 a2), .v (.int .i64 a3), .v (.string a4), .sl 5 (List.map encNeed a5)] none] [.agg [.v (.string a0), .v (.int .i64 a1), .v (.int .i64 a2), .v (.int .i64 a3), .v (.string a4), .sl 5 (List.map encNeed a5)] none] [.u] := by
  refine runs_of [] rfl Tryd.func24 rfl pk_24 rfl rfl ?_
  simp [h0]
@[simp] theorem c_toEntry (a0 : ByteArray) (a1 : Int) (a2 : Int) (a3 : Int) (a4 : ByteArray) (a5 : List PNeed) (h0 : 56 * List.length a5 ≤ 140737488355328) {K : List X → List X → Prop} : callK E 24 [.agg [.v (.string a0), .v (.int .i64 a1), .v (.int .i64 a2), .v (.int .i64 a3), .v (.string a4), .sl 5 (List.map encNeed a5)] none] K = K [.agg [.v (.string a0), .v (.int .i64 a1), .v (.int .i64 a2), .v (.int .i64 a3), .v (.string a4), .sl 5 (List.map encNeed a5)] none] [.u] := callK_of (r_toEntry a0 a1 a2 a3 a4 a5 h0)
theorem r_eqEntry (a0 : ByteArray) (a1 : Int) (a2 : Int) (a3 : Int) (a4 : ByteArray) (a5 : List PNeed) (h0 : 56 * List.length a5 ≤ 140737488355328) : Runs E 26 [.agg [.v (.string a0), .v (.int .i64 a1), .v (.int .i64 a2), .v (.int .i64 a3), .v (.string a4), .sl 5 (List.map encNeed a5)] none, .agg [.v (.string a0), .v (.int .i64 a1), .v (.int .i64 a2), .v (.int .i64 a3), .v (.string a4), .sl 5 (List.map encNeed a5)] none] [.d (.v (.bool true)) none] [.u, .u] := by
  refine runs_of [] rfl Tryd.func26 rfl pk_26 rfl rfl ?_
  simp [h0]
@[simp] theorem c_eqEntry (a0 : ByteArray) (a1 : Int) (a2 : Int) (a3 : Int) (a4 : ByteArray) (a5 : List PNeed) (h0 : 56 * List.length a5 ≤ 140737488355328) {K : List X → List X → Prop} : callK E 26 [.agg [.v (.string a0), .v (.int .i64 a1), .v (.int .i64 a2), .v (.int .i64 a3), .v (.string a4), .sl 5 (List.map encNeed a5)] none, .agg [.v (.string a0), .v (.int .i64 a1), .v (.int .i64 a2), .v (.int .i64 a3), .v (.string a4), .sl 5 (List.map encNeed a5)] none] K = K [.d (.v (.bool true)) none] [.u, .u] := callK_of (r_eqEntry a0 a1 a2 a3 a4 a5 h0)
theorem r_szEntryS (l : List PEntry) (left : Int) (hl : 80 * List.length l ≤ 140737488355328) (hok : PEntry.okL l) : ∃ r : Int, Runs E 10 [(.d (.sl 6 (List.map encEntry l)) none), .d (.v (.int .i64 left)) none] [.d (.v (.int .i64 r)) none] [.u, .u] := by
  refine runs_ex [] (fun r : Int => [.d (.v (.int .i64 r)) none]) rfl Tryd.func10 rfl pk_10 rfl rfl ?_
  simp
  refine cond_by (fun _ => by simp) (fun _ => ?_)
  simp
  refine loop_by (fun p : Nat × Int => [(0, (.d (.sl 6 (List.map encEntry l)) none)), (1, .d (.v (.int .i64 p.2)) none), (5, .d (.v (.int .i64 p.1)) none)]) (fun p => p.1 ≤ l.length) (fun p => l.length - p.1) (0, IntKind.wrap .i64 (left - l.length)) (Nat.zero_le _) ?_ ?_
  · simp
  rintro ⟨k, lf⟩ hk
  simp only at hk
  by_cases hlt : k < l.length
  · have hw := wrap_nat (k := k) (by omega)
    have g0 : 56 * List.length l[k].f5 ≤ 140737488355328 := hok l[k] (List.getElem_mem hlt)
    simp [hlt, g0]
    refine cond_by (fun _ => by simp) (fun _ => ?_)
    simp [hw]
    exact ⟨k + 1, by omega, by omega, by simp⟩
  · simp [hlt]
@[simp] theorem c_szEntryS (l : List PEntry) (left : Int) (hl : 80 * List.length l ≤ 140737488355328) (hok : PEntry.okL l) {K : List X → List X → Prop} : callK E 10 [(.d (.sl 6 (List.map encEntry l)) none), .d (.v (.int .i64 left)) none] K = K [.d (.v (.int .i64 (szv E 10 [(.d (.sl 6 (List.map encEntry l)) none), .d (.v (.int .i64 left)) none]))) none] [.u, .u] := callK_of (szv_of (r_szEntryS l left hl hok))
theorem r_toEntryS (l : List PEntry) (hl : 80 * List.length l ≤ 140737488355328) (hok : PEntry.okL l) : Runs E 12 [(.d (.sl 6 (List.map encEntry l)) none)] [(.d (.sl 6 (List.map encEntry l)) none)] [.u] := by
  refine runs_of [] rfl Tryd.func12 rfl pk_12 rfl rfl ?_
  simp
  have hm : (80 : Int) * (l.length : Int) ≤ 281474976710656 ∧ (l.length : Int) ≤ 281474976710656 := by omega
  simp [hm]
  refine loop_by (fun k : Nat => [(0, (.d (.sl 6 (List.map encEntry l)) none)), (3, .d (.sl 6 (fill encEntry [.v (.string .empty), .v (.int .i64 0), .v (.int .i64 0), .v (.int .i64 0), .v (.string .empty), .sl 5 []] l k)) none), (4, .d (.v (.int .i64 k)) none)]) (fun k => k ≤ l.length) (fun k => l.length - k) 0 (Nat.zero_le _) ?_ ?_
  · simp; exact fill_zero _ _ _
  intro k hk
  by_cases hlt : k < l.length
  · have hw := wrap_nat (k := k) (by omega)
    have q1 := fill_len encEntry [.v (.string .empty), .v (.int .i64 0), .v (.int .i64 0), .v (.int .i64 0), .v (.string .empty), .sl 5 []] l hk
    have q2 := fill_at encEntry [.v (.string .empty), .v (.int .i64 0), .v (.int .i64 0), .v (.int .i64 0), .v (.string .empty), .sl 5 []] l hlt
    have q3 := fill_set encEntry [.v (.string .empty), .v (.int .i64 0), .v (.int .i64 0), .v (.int .i64 0), .v (.string .empty), .sl 5 []] l hlt
    simp only [encEntry_at] at q3
    have g0 : 56 * List.length l[k].f5 ≤ 140737488355328 := hok l[k] (List.getElem_mem hlt)
    simp [hlt, hw, q1, q2, q3, g0]
    exact ⟨k + 1, by omega, by omega, by simp⟩
  · have q1 := fill_all encEntry [.v (.string .empty), .v (.int .i64 0), .v (.int .i64 0), .v (.int .i64 0), .v (.string .empty), .sl 5 []] l hlt
    simp [hlt, q1]
@[simp] theorem c_toEntryS (l : List PEntry) (hl : 80 * List.length l ≤ 140737488355328) (hok : PEntry.okL l) {K : List X → List X → Prop} : callK E 12 [(.d (.sl 6 (List.map encEntry l)) none)] K = K [(.d (.sl 6 (List.map encEntry l)) none)] [.u] := callK_of (r_toEntryS l hl hok)
theorem r_eqEntryS (l : List PEntry) (hl : 80 * List.length l ≤ 140737488355328) (hok : PEntry.okL l) : Runs E 14 [(.d (.sl 6 (List.map encEntry l)) none), (.d (.sl 6 (List.map encEntry l)) none)] [.d (.v (.bool true)) none] [.u, .u] := by
  refine runs_of [(6, [17, 18, 19, 20, 21, 22, 23, 24])] rfl Tryd.func14 rfl pk_14 rfl rfl ?_
  simp
  refine loop_by (fun k : Nat => [(0, (.d (.sl 6 (List.map encEntry l)) none)), (1, (.d (.sl 6 (List.map encEntry l)) none)), (5, .d (.v (.int .i64 k)) none)]) (fun k => k ≤ l.length) (fun k => l.length - k) 0 (Nat.zero_le _) ?_ ?_
  · simp
  intro k hk
  by_cases hlt : k < l.length
  · have hw := wrap_nat (k := k) (by omega)
    have g0 : 56 * List.length l[k].f5 ≤ 140737488355328 := hok l[k] (List.getElem_mem hlt)
    simp [hlt, hw, g0]
    exact ⟨k + 1, by omega, by omega, by simp⟩
  · simp [hlt]
@[simp] theorem c_eqEntryS (l : List PEntry) (hl : 80 * List.length l ≤ 140737488355328) (hok : PEntry.okL l) {K : List X → List X → Prop} : callK E 14 [(.d (.sl 6 (List.map encEntry l)) none), (.d (.sl 6 (List.map encEntry l)) none)] K = K [.d (.v (.bool true)) none] [.u, .u] := callK_of (r_eqEntryS l hl hok)
end Go.Proofs.YtojciiiilfmjgaaDoor

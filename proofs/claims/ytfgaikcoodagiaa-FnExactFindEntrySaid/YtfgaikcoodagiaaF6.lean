/- The entry that is found: the program's and the reference's come to the same, and share nothing. -/
import Derived.Test.YtfgaikcoodagiaaFA
set_option linter.all false
namespace Go.Proofs.Ytfgaikcoodagiaa
open Go.Ev
set_option maxRecDepth 20000
set_option linter.unusedVariables false
set_option linter.unusedSimpArgs false

theorem r_markEntry (a0 : ByteArray) (a1 a2 a3 : Int) (a4 : ByteArray) (l : List PNeed) (k : Int) (h1 : 0 ≤ k) (h2 : k + 5 * l.length ≤ 1000000000000) (hl : 56 * l.length ≤ 140737488355328) :
    Runs E 35 [.agg [.v (.string a0), .v (.int .i64 a1), .v (.int .i64 a2), .v (.int .i64 a3), .v (.string a4), .sl 5 (List.map encNeed l)] none, .d (.v (.int .i64 k)) none] [.d (.v (.int .i64 (k + 5 * l.length))) none]
      [.agg [.v (.string a0), .v (.int .i64 a1), .v (.int .i64 a2), .v (.int .i64 a3), .v (.string a4), .sl 5 (List.map encNeed (mixN k l l.length))] none, .u] := by
  refine runs_of [] rfl Try.func35 rfl pk_35 rfl rfl ?_
  simp [h1, h2, hl]
@[simp] theorem c_markEntry (a0 : ByteArray) (a1 a2 a3 : Int) (a4 : ByteArray) (l : List PNeed) (k : Int) (h1 : 0 ≤ k) (h2 : k + 5 * l.length ≤ 1000000000000) (hl : 56 * l.length ≤ 140737488355328) {K : List X → List X → Prop} :
    callK E 35 [.agg [.v (.string a0), .v (.int .i64 a1), .v (.int .i64 a2), .v (.int .i64 a3), .v (.string a4), .sl 5 (List.map encNeed l)] none, .d (.v (.int .i64 k)) none] K = K [.d (.v (.int .i64 (k + 5 * l.length))) none]
      [.agg [.v (.string a0), .v (.int .i64 a1), .v (.int .i64 a2), .v (.int .i64 a3), .v (.string a4), .sl 5 (List.map encNeed (mixN k l l.length))] none, .u] := callK_of (r_markEntry a0 a1 a2 a3 a4 l k h1 h2 hl)

theorem r_heldEntry (a0 : ByteArray) (a1 a2 a3 : Int) (a4 : ByteArray) (l : List PNeed) (k : Int) (h1 : 0 ≤ k) (h2 : k + 5 * l.length ≤ 1000000000000) (hl : 56 * l.length ≤ 140737488355328) :
    Runs E 36 [.agg [.v (.string a0), .v (.int .i64 a1), .v (.int .i64 a2), .v (.int .i64 a3), .v (.string a4), .sl 5 (List.map encNeed (mixN k l l.length))] none, .d (.v (.int .i64 k)) none] [.d (.v (.int .i64 (k + 5 * l.length))) none] [.u, .u] := by
  refine runs_of [] rfl Try.func36 rfl pk_36 rfl rfl ?_
  have hn : ¬ (k + 5 * (l.length : Int) < 0) := by omega
  simp [h1, h2, hl, hn]
@[simp] theorem c_heldEntry (a0 : ByteArray) (a1 a2 a3 : Int) (a4 : ByteArray) (l : List PNeed) (k : Int) (h1 : 0 ≤ k) (h2 : k + 5 * l.length ≤ 1000000000000) (hl : 56 * l.length ≤ 140737488355328) {K : List X → List X → Prop} :
    callK E 36 [.agg [.v (.string a0), .v (.int .i64 a1), .v (.int .i64 a2), .v (.int .i64 a3), .v (.string a4), .sl 5 (List.map encNeed (mixN k l l.length))] none, .d (.v (.int .i64 k)) none] K = K [.d (.v (.int .i64 (k + 5 * l.length))) none] [.u, .u] := callK_of (r_heldEntry a0 a1 a2 a3 a4 l k h1 h2 hl)

theorem wtE_mem {l : List PEntry} {e : PEntry} (h : e ∈ l) : e.f5.length + 1 ≤ wtE l := by
  unfold wtE
  induction l with
  | nil => cases h
  | cons x l ih =>
    simp only [List.map_cons, List.sum_cons]
    rcases List.mem_cons.1 h with rfl | h
    · omega
    · have := ih h; omega

theorem feE_len {l : List PEntry} {q : PEntry → Bool} {n : Nat} (h : ∀ e ∈ l, e.f5.length ≤ n) : (feE l q).f5.length ≤ n := by
  unfold feE
  split
  · rename_i k hk
    cases hq : l[k]? with
    | none => simp
    | some e => simpa using h e (List.mem_of_getElem? hq)
  · simp

set_option maxHeartbeats 2000000 in
theorem r_law6 (l : List PEntry) (p : ByteArray) (v0 v1 v2 : Int) (v3 : ByteArray) (hl : 80 * l.length ≤ 140737488355328) (hs : ∀ y ∈ l, y.small) (hp : p.size ≤ 140737488355328) (hv : v3.size ≤ 140737488355328) :
    Runs E 6 [.d (.sl 6 (List.map encEntry l)) none, .d (.v (.string p)) none, .agg [.v (.int .i64 v0), .v (.int .i64 v1), .v (.int .i64 v2), .v (.string v3)] none] [.d (.v (.bool true)) none] [.u, .u, .u] := by
  refine runs_of [(10, [32, 33, 34, 35, 36, 37, 31, 38, 39, 8]), (10010, [8]), (20010, [0, 0, 0, 0, 0, 0, 0, 0, 0, 1, 1, 2]), (29, [92, 93, 94, 95, 96, 97, 91, 98, 99, 16]), (10029, [16]), (20029, [0, 0, 0, 0, 0, 0, 0, 0, 0, 1, 1, 2])] rfl Try.func6 rfl pk_6 rfl rfl ?_
  have hok := small_okL hs
  simp [hl, hok]
  refine cond_by (fun h => by simp) (fun h => ?_)
  have hv1 := p_szEntryS l 1048576 (by omega) (by omega) hl hs
  simp only at hv1
  simp [hl, hok]
  refine cond_by (fun h => by simp) (fun h1 => ?_)
  simp at h1
  have hw : (wtE l : Int) ≤ 1048576 := by omega
  have hv2 := p_szVersion v0 v1 v2 v3 _ h1 (by omega) hv
  simp only at hv2
  simp [hl, hok]
  refine cond_by (fun h => by simp) (fun h2 => ?_)
  have hwl := wtE_len l
  have hl6 : l.length ≤ 2000000 := by omega
  have hd : okF l := fun e he => by have := wtE_mem he; omega
  have hfl := feE_len (l := l) (q := isE p v0 v1 v2 v3) (n := 1048576) fun e he => by have := wtE_mem he; omega
  obtain ⟨e, he⟩ : ∃ e, feE l (isE p v0 v1 v2 v3) = e := ⟨_, rfl⟩
  rw [he] at hfl
  have e1 : 56 * e.f5.length ≤ 140737488355328 := by omega
  have e2 : (1 : Int) + 5 * e.f5.length ≤ 1000000000000 := by omega
  have e3 : ¬ ((1 : Int) + 5 * e.f5.length < 0) := by omega
  have m2 : (1 : Int) + 5 * wtE l ≤ 1000000000000 := by omega
  have m6 : ¬ ((1 : Int) + 5 * wtE l < 0) := by omega
  simp (maxSteps := 2000000) [hl, hok, hl6, hd, he, e1, e2, e3, m2, m6, sameL, sameD, sameZ]
end Go.Proofs.Ytfgaikcoodagiaa

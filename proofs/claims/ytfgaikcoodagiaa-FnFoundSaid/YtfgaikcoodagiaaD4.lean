/- What is found, as the first law asks for it. -/
import Derived.Test.YtfgaikcoodagiaaW5
import Derived.Test.YtfgaikcoodagiaaD3
set_option linter.all false
namespace Go.Proofs.Ytfgaikcoodagiaa
open Go.Ev
set_option maxRecDepth 20000
set_option linter.unusedVariables false
set_option linter.unusedSimpArgs false

theorem r_big (b : List Int) (hl : b.length ≤ 140737488355328) : Runs E 12 [.d (.sl 1 (List.map encB b)) none] [.d (.v (.bool (decide (1048576 < (b.length : Int))))) none] [.u] := by
  refine runs_of [] rfl Try.func12 rfl pk_12 rfl rfl ?_
  simp
@[simp] theorem c_big (b : List Int) (hl : b.length ≤ 140737488355328) {K : List X → List X → Prop} : callK E 12 [.d (.sl 1 (List.map encB b)) none] K = K [.d (.v (.bool (decide (1048576 < (b.length : Int))))) none] [.u] := callK_of (r_big b hl)

theorem fits_needs (l : List PNeed) : (List.map encNeed l).all (fits [.zs, .zi .i64, .zi .i64, .zi .i64, .zs]) = true := by
  rw [List.all_eq_true]
  intro x hx
  obtain ⟨y, _, rfl⟩ := List.mem_map.1 hx
  rfl

@[simp] theorem c_cloneNeeds (l : List PNeed) (hl : l.length ≤ 1000000) {K : List X → List X → Prop} : callK E 94 [.d (.sl 5 (List.map encNeed l)) none] K = K [.d (.sl 5 (List.map encNeed l)) none] [.u] := by
  refine c_clone_94 ?_ ?_ (fits_needs l)
  · simp only [List.length_map, memRoom]; omega
  · simp only [List.length_map, strRoom]; omega

theorem r_copyEntry (a0 : ByteArray) (a1 a2 a3 : Int) (a4 : ByteArray) (l : List PNeed) (hl : l.length ≤ 1000000) : Runs E 56 [.agg [.v (.string a0), .v (.int .i64 a1), .v (.int .i64 a2), .v (.int .i64 a3), .v (.string a4), .sl 5 (List.map encNeed l)] none] [.agg [.v (.string a0), .v (.int .i64 a1), .v (.int .i64 a2), .v (.int .i64 a3), .v (.string a4), .sl 5 (List.map encNeed l)] none] [.u] := by
  refine runs_of [] rfl Try.func56 rfl pk_56 rfl rfl ?_
  simp [hl]
@[simp] theorem c_copyEntry (a0 : ByteArray) (a1 a2 a3 : Int) (a4 : ByteArray) (l : List PNeed) (hl : l.length ≤ 1000000) {K : List X → List X → Prop} : callK E 56 [.agg [.v (.string a0), .v (.int .i64 a1), .v (.int .i64 a2), .v (.int .i64 a3), .v (.string a4), .sl 5 (List.map encNeed l)] none] K = K [.agg [.v (.string a0), .v (.int .i64 a1), .v (.int .i64 a2), .v (.int .i64 a3), .v (.string a4), .sl 5 (List.map encNeed l)] none] [.u] := callK_of (r_copyEntry a0 a1 a2 a3 a4 l hl)

theorem r_l15Copy (a0 : ByteArray) (a1 a2 a3 : Int) (a4 : ByteArray) (l : List PNeed) (hl : l.length ≤ 1000000) : Runs E 58 [.agg [.v (.string a0), .v (.int .i64 a1), .v (.int .i64 a2), .v (.int .i64 a3), .v (.string a4), .sl 5 (List.map encNeed l)] none] [.agg [.v (.string a0), .v (.int .i64 a1), .v (.int .i64 a2), .v (.int .i64 a3), .v (.string a4), .sl 5 (List.map encNeed l)] none] [.u] := by
  refine runs_of [] rfl Try.func58 rfl pk_58 rfl rfl ?_
  simp
  simp only [memRoom, strRoom]; omega
@[simp] theorem c_l15Copy (a0 : ByteArray) (a1 a2 a3 : Int) (a4 : ByteArray) (l : List PNeed) (hl : l.length ≤ 1000000) {K : List X → List X → Prop} : callK E 58 [.agg [.v (.string a0), .v (.int .i64 a1), .v (.int .i64 a2), .v (.int .i64 a3), .v (.string a4), .sl 5 (List.map encNeed l)] none] K = K [.agg [.v (.string a0), .v (.int .i64 a1), .v (.int .i64 a2), .v (.int .i64 a3), .v (.string a4), .sl 5 (List.map encNeed l)] none] [.u] := callK_of (r_l15Copy a0 a1 a2 a3 a4 l hl)

def okF (l : List PEntry) : Prop := ∀ e ∈ l, e.f5.length ≤ 1000000
/-- The entry that is found. -/
def feE (l : List PEntry) (q : PEntry → Bool) : PEntry := match l.findIdx? q with
  | some k => l[k]?.getD ⟨.empty, 0, 0, 0, .empty, []⟩
  | none => ⟨.empty, 0, 0, 0, .empty, []⟩

theorem at_cases {α : Type} (q : α → Bool) (l : List α) : (∃ k, ∃ h : k < l.length, l.findIdx? q = some k ∧ at? q l = k ∧ q l[k] = true ∧ l.any q = true) ∨ (l.findIdx? q = none ∧ at? q l = -1 ∧ l.any q = false) := by
  cases hf : l.findIdx? q with
  | some k =>
    left
    obtain ⟨hk, h1, _⟩ := List.findIdx?_eq_some_iff_getElem.1 hf
    exact ⟨k, hk, rfl, by simp [at?, hf], h1, List.any_eq_true.2 ⟨_, List.getElem_mem hk, h1⟩⟩
  | none =>
    right
    refine ⟨rfl, by simp [at?, hf], ?_⟩
    rw [List.findIdx?_eq_none_iff] at hf
    cases ha : l.any q with
    | false => rfl
    | true =>
      obtain ⟨x, hx, hq⟩ := List.any_eq_true.1 ha
      rw [hf x hx] at hq; cases hq

theorem r_implFindEntry (l : List PEntry) (p : ByteArray) (a b c : Int) (s : ByteArray) (hl : l.length ≤ 1000000) (hd : okF l) :
    Runs E 14 [.d (.sl 6 (List.map encEntry l)) none, .d (.v (.string p)) none, .agg [.v (.int .i64 a), .v (.int .i64 b), .v (.int .i64 c), .v (.string s)] none] [.agg (encEntry (feE l (isE p a b c s))) none, .d (.v (.bool (l.any (isE p a b c s)))) none] [.u, .u, .u] := by
  refine runs_of [] rfl Try.func14 rfl pk_14 rfl rfl ?_
  have hl8 : 80 * l.length ≤ 140737488355328 := by omega
  rcases at_cases (isE p a b c s) l with ⟨k, hk, h1, h2, h3, h4⟩ | ⟨h1, h2, h4⟩
  · have hn : ¬ ((k : Nat) : Int) < 0 := by omega
    have h5 := hd _ (List.getElem_mem hk)
    simp [hl8, h2, hn, hk, h4, feE, h1, h5]
  · simp [hl8, h2, h4, feE, h1]
@[simp] theorem c_implFindEntry (l : List PEntry) (p : ByteArray) (a b c : Int) (s : ByteArray) (hl : l.length ≤ 1000000) (hd : okF l) {K : List X → List X → Prop} :
    callK E 14 [.d (.sl 6 (List.map encEntry l)) none, .d (.v (.string p)) none, .agg [.v (.int .i64 a), .v (.int .i64 b), .v (.int .i64 c), .v (.string s)] none] K = K [.agg (encEntry (feE l (isE p a b c s))) none, .d (.v (.bool (l.any (isE p a b c s)))) none] [.u, .u, .u] := callK_of (r_implFindEntry l p a b c s hl hd)

theorem r_specFindEntry (l : List PEntry) (p : ByteArray) (a b c : Int) (s : ByteArray) (hl : l.length ≤ 1000000) (hd : okF l) :
    Runs E 15 [.d (.sl 6 (List.map encEntry l)) none, .d (.v (.string p)) none, .agg [.v (.int .i64 a), .v (.int .i64 b), .v (.int .i64 c), .v (.string s)] none] [.agg (encEntry (feE l (isE p a b c s))) none, .d (.v (.bool (l.any (isE p a b c s)))) none] [.u, .u, .u] := by
  refine runs_of [] rfl Try.func15 rfl pk_15 rfl rfl ?_
  have hl8 : 80 * l.length ≤ 140737488355328 := by omega
  rcases at_cases (isE p a b c s) l with ⟨k, hk, h1, h2, h3, h4⟩ | ⟨h1, h2, h4⟩
  · have hn : ¬ ((k : Nat) : Int) < 0 := by omega
    have h5 := hd _ (List.getElem_mem hk)
    simp [hl8, h2, hn, hk, h4, feE, h1, h5]
  · simp [hl8, h2, h4, feE, h1]
@[simp] theorem c_specFindEntry (l : List PEntry) (p : ByteArray) (a b c : Int) (s : ByteArray) (hl : l.length ≤ 1000000) (hd : okF l) {K : List X → List X → Prop} :
    callK E 15 [.d (.sl 6 (List.map encEntry l)) none, .d (.v (.string p)) none, .agg [.v (.int .i64 a), .v (.int .i64 b), .v (.int .i64 c), .v (.string s)] none] K = K [.agg (encEntry (feE l (isE p a b c s))) none, .d (.v (.bool (l.any (isE p a b c s)))) none] [.u, .u, .u] := callK_of (r_specFindEntry l p a b c s hl hd)

theorem r_DrawFindEntry (b : List Int) (hl : b.length ≤ 140737488355328) : ∃ q : {q : List PEntry × ByteArray × PVersion // q.1.length ≤ 8 ∧ (∀ e ∈ q.1, okD e)}, Runs E 13 [.d (.sl 1 (List.map encB b)) none] [.d (.sl 6 (List.map encEntry q.1.1)) none, .d (.v (.string q.1.2.1)) none, .agg (encVersion q.1.2.2) none] [.u] := by
  refine runs_ex [(5, [23, 24, 25, 26, 27, 2, 3]), (7, [30, 31, 32, 33, 34, 2, 3])] (fun q : {q : List PEntry × ByteArray × PVersion // q.1.length ≤ 8 ∧ (∀ e ∈ q.1, okD e)} => [.d (.sl 6 (List.map encEntry q.1.1)) none, .d (.v (.string q.1.2.1)) none, .agg (encVersion q.1.2.2) none]) rfl Try.func13 rfl pk_13 rfl rfl ?_
  obtain ⟨u1, u2, u3, u4, _⟩ := ldQ_spec (b := b) (i := 0) (h := nwH b) hl (Nat.zero_le _)
  obtain ⟨q1, hq1⟩ : ∃ p, ldQ b 0 (nwH b) = p := ⟨_, rfl⟩
  rw [hq1] at u1 u2 u3 u4
  have i1 := bw_le b q1.2.1 q1.2.2 4 hl u4 (by omega)
  obtain ⟨q2, hq2⟩ : ∃ p, bwQ b q1.2.1 q1.2.2 4 = p := ⟨_, rfl⟩
  rw [hq2] at i1
  have i3 := bw_le b q2.2.1 q2.2.2 q1.1.length hl i1 (by omega)
  have k3 := bw_lt b q2.2.1 q2.2.2 q1.1.length hl i1 (by omega)
  obtain ⟨q3, hq3⟩ : ∃ p, bwQ b q2.2.1 q2.2.2 q1.1.length = p := ⟨_, rfl⟩
  rw [hq3] at i3 k3
  have hlt : q3.1 < q1.1.length := by omega
  obtain ⟨s4, i4, _⟩ := dnQ_spec (b := b) (h := q2.2.2) hl i1
  obtain ⟨q4, hq4⟩ : ∃ p, dnQ b q2.2.1 q2.2.2 = p := ⟨_, rfl⟩
  rw [hq4] at s4 i4
  have hd0 : ∀ K : List X → List X → Prop, callK E 51 [.box [.sl 1 (List.map encB b), .v (.int .i64 0), .v (.int .i64 (nwH b))]] K = _ := fun K => c_l15Draw b 0 (nwH b) hl (Nat.zero_le _)
  simp [hl, hd0, hq1, u4, hq2]
  refine cond_by (fun hh => ?_) (fun hh => ?_)
  · simp [hl, i1, u2, hq3, hlt]
    exact ⟨q1.1, rfl, ⟨_, _, _, _⟩, rfl, rfl, rfl, ⟨u1, u3⟩, rfl⟩
  · simp [hl, i1, hq4]
    exact ⟨q1.1, rfl, ⟨_, _, _, _⟩, rfl, rfl, rfl, ⟨u1, u3⟩, rfl⟩
noncomputable def dfQ (b : List Int) : List PEntry × ByteArray × PVersion := chq fun q => q.1.length ≤ 8 ∧ (∀ e ∈ q.1, okD e) ∧ Runs E 13 [.d (.sl 1 (List.map encB b)) none] [.d (.sl 6 (List.map encEntry q.1)) none, .d (.v (.string q.2.1)) none, .agg (encVersion q.2.2) none] [.u]
theorem dfQ_spec (b : List Int) (hl : b.length ≤ 140737488355328) : (dfQ b).1.length ≤ 8 ∧ (∀ e ∈ (dfQ b).1, okD e) ∧ Runs E 13 [.d (.sl 1 (List.map encB b)) none] [.d (.sl 6 (List.map encEntry (dfQ b).1)) none, .d (.v (.string (dfQ b).2.1)) none, .agg (encVersion (dfQ b).2.2) none] [.u] := by
  refine chq_spec (P := fun q : List PEntry × ByteArray × PVersion => q.1.length ≤ 8 ∧ (∀ e ∈ q.1, okD e) ∧ Runs E 13 [.d (.sl 1 (List.map encB b)) none] [.d (.sl 6 (List.map encEntry q.1)) none, .d (.v (.string q.2.1)) none, .agg (encVersion q.2.2) none] [.u]) ?_
  obtain ⟨⟨q, h1, h2⟩, h3⟩ := r_DrawFindEntry b hl
  exact ⟨q, h1, h2, h3⟩
@[simp] theorem c_DrawFindEntry (b : List Int) (hl : b.length ≤ 140737488355328) {K : List X → List X → Prop} : callK E 13 [.d (.sl 1 (List.map encB b)) none] K = K [.d (.sl 6 (List.map encEntry (dfQ b).1)) none, .d (.v (.string (dfQ b).2.1)) none, .agg (encVersion (dfQ b).2.2) none] [.u] := callK_of (dfQ_spec b hl).2.2

theorem lack_one (l : List PEntry) (n : PNeed) : lack l [n] = if l.any (isE n.f0 n.f1 n.f2 n.f3 n.f4) then [] else [n] := by
  rcases at_cases (isE n.f0 n.f1 n.f2 n.f3 n.f4) l with ⟨k, hk, h1, h2, h3, h4⟩ | ⟨h1, h2, h4⟩
  · have hn : ¬ ((k : Nat) : Int) < 0 := by omega
    simp [lack, lackB, h2, h4, hn]
  · simp [lack, lackB, h2, h4]

theorem feE_spec {l : List PEntry} {p : ByteArray} {a b c : Int} {s : ByteArray} (h : l.any (isE p a b c s) = true) : (feE l (isE p a b c s)).f0 = p ∧ (feE l (isE p a b c s)).f1 = a ∧ (feE l (isE p a b c s)).f2 = b ∧ (feE l (isE p a b c s)).f3 = c ∧ (feE l (isE p a b c s)).f4 = s := by
  rcases at_cases (isE p a b c s) l with ⟨k, hk, h1, h2, h3, h4⟩ | ⟨h1, h2, h4⟩
  · have : feE l (isE p a b c s) = l[k] := by simp [feE, h1, hk]
    rw [this]
    simpa [isE] using h3
  · rw [h4] at h; cases h

set_option maxHeartbeats 1000000 in
theorem r_law3 (b : List Int) (hl : b.length ≤ 140737488355328) : Runs E 3 [.d (.sl 1 (List.map encB b)) none] [.d (.v (.bool true)) none] [.u] := by
  refine runs_of [(14, [55, 56, 57, 58, 59, 60, 61, 62])] rfl Try.func3 rfl pk_3 rfl rfl ?_
  by_cases hbig : 1048576 < (b.length : Int)
  · simp [hl, hbig]
  obtain ⟨u1, u2, _⟩ := dfQ_spec b hl
  obtain ⟨q, hq⟩ : ∃ q, dfQ b = q := ⟨_, rfl⟩
  rw [hq] at u1 u2
  obtain ⟨l, p, ⟨v0, v1, v2, v3⟩⟩ := q
  simp only at u1 u2
  have hl6 : l.length ≤ 1000000 := by omega
  have hd : okF l := fun e he => Nat.le_trans (u2 e he) (by omega)
  have hl8 : 80 * l.length ≤ 140737488355328 := by omega
  simp [hl, hbig, hq, hl6, hd, hl8]
  have hll : l.length ≤ 140737488355328 := by omega
  have hv1 := filter_len (isP p) l l.length
  rw [List.take_length] at hv1
  obtain ⟨e, he⟩ : ∃ e, feE l (isE p v0 v1 v2 v3) = e := ⟨_, rfl⟩
  obtain ⟨ok, hok⟩ : ∃ ok, l.any (isE p v0 v1 v2 v3) = ok := ⟨_, rfl⟩
  have hfe : ok = true → e.f0 = p ∧ e.f1 = v0 ∧ e.f2 = v1 ∧ e.f3 = v2 ∧ e.f4 = v3 := by
    intro h; rw [← he]; exact feE_spec (by rw [hok]; exact h)
  have hlk := lack_one l ⟨p, v0, v1, v2, v3⟩
  simp only [hok] at hlk
  rw [he, hok]
  refine loop_by (fun k : Nat => [(3, .d (.sl 6 (List.map encEntry l)) none), (4, .d (.v (.string p)) none), (5, .box [.v (.int .i64 v0), .v (.int .i64 v1), .v (.int .i64 v2), .v (.string v3)]), (6, .box (encEntry e)), (7, .d (.v (.bool ok)) none), (9, .d (.v (.bool ok)) none), (10, .d (.sl 4 (List.map encVersion (versOf l p))) none),
      (11, .d (.v (.int .i64 ((l.take k).filter (isP p)).length)) none), (12, .d (.v (.bool ((l.take k).any (isE p v0 v1 v2 v3)))) none), (13, .d (.v (.int .i64 k)) none)])
    (fun k => k ≤ l.length) (fun k => l.length - k) 0 (Nat.zero_le _) ?_ ?_
  · simp
  rintro k hk
  by_cases hlt : k < l.length
  · have hw := wrap_nat (k := k) (by omega)
    have hf := filter_take (isP p) l hlt
    have hfl := filter_len (isP p) l k
    have hw2 := wrap_nat (k := ((l.take k).filter (isP p)).length) (by omega)
    have ha : (l.take (k + 1)).any (isE p v0 v1 v2 v3) = ((l.take k).any (isE p v0 v1 v2 v3) || isE p v0 v1 v2 v3 l[k]) := by
      rw [List.take_succ_eq_append_getElem hlt, List.any_append]; simp only [List.any_cons, List.any_nil, Bool.or_false]
    obtain ⟨bn, hbn⟩ : ∃ bn, (l.take k).any (isE p v0 v1 v2 v3) = bn := ⟨_, rfl⟩
    simp only [hbn] at ha ⊢
    by_cases hq : l[k].f0 = p
    · rw [if_pos (by simp [isP, hq])] at hf
      cases bn with
      | true =>
        simp [hlt, hq, hw, hw2]
        exact ⟨k + 1, by omega, by omega, by simp [hf], by simpa using ha, by simp⟩
      | false =>
        simp [hlt, hq, hw, hw2]
        exact ⟨k + 1, by omega, by omega, by simp [hf], by rw [ha]; simp [isE, hq], by simp⟩
    · rw [if_neg (by simp [isP, hq])] at hf
      simp [hlt, hq, hw]
      exact ⟨k + 1, by omega, by omega, by rw [hf, List.append_nil], by rw [ha, isE_no (fun h => hq h.1), Bool.or_false], by simp⟩
  · have hkl : l.take k = l := List.take_of_length_le (by omega)
    have hc : ∀ K : List X → List X → Prop, callK E 17 [.d (.sl 6 (List.map encEntry l)) none, .d (.sl 5 [[.v (.string p), .v (.int .i64 v0), .v (.int .i64 v1), .v (.int .i64 v2), .v (.string v3)]]) none] K = K [.d (.sl 5 (List.map encNeed (if ok = true then [] else [⟨p, v0, v1, v2, v3⟩]))) none] [.u, .u] := by
      intro K
      rw [← hlk]
      exact c_implLacking l [⟨p, v0, v1, v2, v3⟩] hl8 (by simp)
    have hvl : (versOf l p).length = (l.filter (isP p)).length := by simp [versOf]
    cases ok with
    | true =>
      obtain ⟨e1, e2, e3, e4, e5⟩ := hfe rfl
      simp [hlt, hkl, hc, hl8, hok, e1, e2, e3, e4, e5, hvl]
    | false =>
      simp [hlt, hkl, hc, hl8, hok, hvl]
end Go.Proofs.Ytfgaikcoodagiaa

/- The law FnExactFindEntry: for every input the call returns true, and each argument reads behind the call as it read before. No condition. -/
import Derived.Test.YtfgaikcoodagiaaRows
import Derived.ProofKit
import Derived.Test.YtfgaikcoodagiaaEv7
import Derived.Test.YtfgaikcoodagiaaF6
set_option linter.all false
namespace Go.Proofs.Ytfgaikcoodagiaa.law6
open Go.ChangeShapes Go.WideShapes Go.ChangeAt Go.RowKit Go.Ev
set_option linter.unusedVariables false
set_option linter.unusedSimpArgs false
theorem op_Need {row : List D} (h : okL [.s, .i .i64, .i .i64, .i .i64, .s] row) : ∃ x : PNeed, row = encNeed x ∧ PNeed.small x := by
  obtain ⟨d0, r0, rfl, k0, h0⟩ := okL_cons h
  obtain ⟨a0, rfl, s0⟩ := ok_s2 k0
  obtain ⟨d1, r1, rfl, k1, h1⟩ := okL_cons h0
  obtain ⟨a1, rfl⟩ := ok_i k1
  obtain ⟨d2, r2, rfl, k2, h2⟩ := okL_cons h1
  obtain ⟨a2, rfl⟩ := ok_i k2
  obtain ⟨d3, r3, rfl, k3, h3⟩ := okL_cons h2
  obtain ⟨a3, rfl⟩ := ok_i k3
  obtain ⟨d4, r4, rfl, k4, h4⟩ := okL_cons h3
  obtain ⟨a4, rfl, s4⟩ := ok_s2 k4
  obtain rfl := okL_nil h4
  exact ⟨⟨a0, a1, a2, a3, a4⟩, rfl, ⟨s0, s4⟩⟩
theorem op_Entry {row : List D} (h : okL [.s, .i .i64, .i .i64, .i .i64, .s, .sl 56 [.s, .i .i64, .i .i64, .i .i64, .s]] row) : ∃ x : PEntry, row = encEntry x ∧ PEntry.small x := by
  obtain ⟨d0, r0, rfl, k0, h0⟩ := okL_cons h
  obtain ⟨a0, rfl, s0⟩ := ok_s2 k0
  obtain ⟨d1, r1, rfl, k1, h1⟩ := okL_cons h0
  obtain ⟨a1, rfl⟩ := ok_i k1
  obtain ⟨d2, r2, rfl, k2, h2⟩ := okL_cons h1
  obtain ⟨a2, rfl⟩ := ok_i k2
  obtain ⟨d3, r3, rfl, k3, h3⟩ := okL_cons h2
  obtain ⟨a3, rfl⟩ := ok_i k3
  obtain ⟨d4, r4, rfl, k4, h4⟩ := okL_cons h3
  obtain ⟨a4, rfl, s4⟩ := ok_s2 k4
  obtain ⟨d5, r5, rfl, k5, h5⟩ := okL_cons h4
  obtain ⟨a5, rfl, b5, c5⟩ := ok_sl (α := PNeed) encNeed (PNeed.small) (fun row h => op_Need h) k5
  obtain rfl := okL_nil h5
  exact ⟨⟨a0, a1, a2, a3, a4, a5⟩, rfl, ⟨s0, s4, b5, c5⟩⟩
theorem own : ownKnob Try.prog.godebug = none := by kernel_rfl
theorem laidOut : laidOutB Try.prog = true := by kernel_rfl
theorem shp_39 : shp Try.prog 9 39 = some [.sl 80 [.s, .i .i64, .i .i64, .i .i64, .s, .sl 56 [.s, .i .i64, .i .i64, .i .i64, .s]]] := by kernel_rfl
theorem shp_9 : shp Try.prog 9 9 = some [.s] := by kernel_rfl
theorem shp_53 : shp Try.prog 9 53 = some [.i .i64, .i .i64, .i .i64, .s] := by kernel_rfl
set_option maxRecDepth 100000 in
theorem lifted (os : Os) (started : os.Started) (H : Type) (enc : TypeId × Value → H) :
    ReturnsInHanded {} Try.checked os 6 .any (Rows.fnExactFindEntrySpec.pre6 enc Try.prog Try.f6 Rows.fnExactFindEntryRow.domain false) (Rows.fnExactFindEntrySpec.post enc Try.prog Try.f6 false true false false) := by
  refine returnsInHanded_of_change_sized (C := Try.checked) own started (by kernel_rfl) Try.func6
    (ChangeSpec.witness6 (enc := enc) (C := Try.checked) false ⟨#[], #[.slice none 0 0, .string .empty, .agg #[.int .i64 0, .int .i64 0, .int .i64 0, .string .empty]], []⟩ 8 (by kernel_rfl) (by kernel_rfl) (by kernel_rfl) (by kernel_rfl)) ?_
  intro W base args ds gs before hval0 hW hcnd hz _
  have hval : ∀ (j : Nat) t v, Try.f6.params[j]? = some t → args[j]? = some v → Value.okWide Try.prog W .any base t v := hval0
  have hW' := hW
  obtain ⟨p, q, hA0, hV, rfl, hfz, hnd⟩ := hW
  have hA : DataW.TrodAll enc Try.prog W 0 (fun _ => true) true Try.f6.params.toList args.toList ds p := hA0
  rw [Try.params6] at hA hval
  obtain ⟨v0, v1, v2, d0, d1, d2, p0, p1, p2, rfl, rfl, rfl, h0, h1, h2⟩ := trodAll_three hA
  obtain ⟨rfl, rfl⟩ := trodVars_none hV
  have hlt0 : ∀ x ∈ p0, x.block < W.heap.size := fun x hx => hW'.lt x (by simp [hx])
  have hk0 := h0
  have hw0 : ∀ m ∈ d0.weights Try.prog 39, m ≤ reachBytes := fun m hm => by
    have := List.all_eq_true.1 hz m (DataW.weights_mem_each (j := 0) (t := 39) (d := d0) (by rfl) (by rfl) m hm)
    simpa using this
  obtain ⟨fuel0, hf0⟩ := h0
  obtain ⟨ds0, op0⟩ := open_any 9 39 _ shp_39 fuel0 _ _ hf0 hw0
  obtain ⟨sA0, sL0, sC0, rfl⟩ := okWide_slice Try.underlying39 (hval 0 39 v0 rfl rfl)
  have op0' : Opened W _ [.slice sA0 sL0 sC0] ds0 := op0
  have hok0 := op0'.1
  have hlt1 : ∀ x ∈ p1, x.block < W.heap.size := fun x hx => hW'.lt x (by simp [hx])
  have hk1 := h1
  have hw1 : ∀ m ∈ d1.weights Try.prog 9, m ≤ reachBytes := fun m hm => by
    have := List.all_eq_true.1 hz m (DataW.weights_mem_each (j := 1) (t := 9) (d := d1) (by rfl) (by rfl) m hm)
    simpa using this
  obtain ⟨fuel1, hf1⟩ := h1
  obtain ⟨ds1, op1⟩ := open_any 9 9 _ shp_9 fuel1 _ _ hf1 hw1
  obtain ⟨sA1, rfl⟩ := okWide_string Try.underlying9 (hval 1 9 v1 rfl rfl)
  have op1' : Opened W _ [_] ds1 := op1
  have hok1 := op1'.1
  have hlt2 : ∀ x ∈ p2, x.block < W.heap.size := fun x hx => hW'.lt x (by simp [hx])
  have hk2 := h2
  have hw2 : ∀ m ∈ d2.weights Try.prog 53, m ≤ reachBytes := fun m hm => by
    have := List.all_eq_true.1 hz m (DataW.weights_mem_each (j := 2) (t := 53) (d := d2) (by rfl) (by rfl) m hm)
    simpa using this
  obtain ⟨fuel2, hf2⟩ := h2
  obtain ⟨ds2, op2⟩ := open_any 9 53 _ shp_53 fuel2 _ _ hf2 hw2
  obtain ⟨cs2, rfl, _⟩ := okWide_struct Try.underlying53 (hval 2 53 v2 rfl rfl)
  have op2' : Opened W _ cs2.toList ds2 := op2
  have hok2 := op2'.1
  obtain ⟨x0d0, x0r0, rfl, x0k0, x0h0⟩ := okL_cons hok0
  obtain ⟨x0a0, rfl, x0b0, x0c0⟩ := ok_sl (α := PEntry) encEntry (PEntry.small) (fun row h => op_Entry h) x0k0
  obtain rfl := okL_nil x0h0
  obtain ⟨x1d0, x1r0, rfl, x1k0, x1h0⟩ := okL_cons hok1
  obtain ⟨x1a0, rfl, x1s0⟩ := ok_s2 x1k0
  obtain rfl := okL_nil x1h0
  obtain ⟨x2d0, x2r0, rfl, x2k0, x2h0⟩ := okL_cons hok2
  obtain ⟨x2a0, rfl⟩ := ok_i x2k0
  obtain ⟨x2d1, x2r1, rfl, x2k1, x2h1⟩ := okL_cons x2h0
  obtain ⟨x2a1, rfl⟩ := ok_i x2k1
  obtain ⟨x2d2, x2r2, rfl, x2k2, x2h2⟩ := okL_cons x2h1
  obtain ⟨x2a2, rfl⟩ := ok_i x2k2
  obtain ⟨x2d3, x2r3, rfl, x2k3, x2h3⟩ := okL_cons x2h2
  obtain ⟨x2a3, rfl, x2s3⟩ := ok_s2 x2k3
  obtain rfl := okL_nil x2h3
  have hr := r_law6 x0a0 x1a0 x2a0 x2a1 x2a2 x2a3 x0b0 x0c0 x1s0 x2s3
  have hcall := law_calls (V := env) (W := W) (vals := [.slice sA0 sL0 sC0, .string sA1, .agg cs2]) (fun k => does (f := 6) rfl k) hr rfl (by simp) rfl rfl (by
    intro i x v ty h1 h2 h3
    match i, h1, h2, h3 with
    | 0, h1, h2, h3 =>
      cases h1; cases h2; cases h3
      exact argOk_one rfl rfl rfl op0'
    | 1, h1, h2, h3 =>
      cases h1; cases h2; cases h3
      exact argOk_one rfl rfl rfl op1'
    | 2, h1, h2, h3 =>
      cases h1; cases h2; cases h3
      exact argOk_agg (scs := _) rfl rfl rfl op2'
    | i + 3, h1, h2, h3 => cases h1)
  refine hcall.mono fun e W1 ⟨he, hb⟩ => ?_
  subst he
  refine ⟨_, rfl, [d0, d1, d2], [], _, [], p0 ++ p1 ++ p2, [], hW', trodAll_mk1 (shut_bool Try.underlying4 true), ?_, rfl, hb.frame _, fun h => by cases h⟩
  rw [List.append_assoc]
  exact trodAll_mk3 (Below.trod laidOut (by kernel_rfl) (of_decide_eq_true (by kernel_rfl)) hk0 hb hlt0) (Below.trod laidOut (by kernel_rfl) (of_decide_eq_true (by kernel_rfl)) hk1 hb hlt1) (Below.trod laidOut (by kernel_rfl) (of_decide_eq_true (by kernel_rfl)) hk2 hb hlt2)
theorem holds : Rows.FnExactFindEntrySaid :=
  OpenClaim.holds_of_wide 6 Try.f6 rfl rfl rfl rfl rfl rfl rfl ⟨rfl, rfl, rfl, rfl, rfl⟩ rfl rfl rfl rfl rfl (by kernel_rfl) Try.func6 (by kernel_rfl)
    (of_decide_eq_true (by kernel_rfl)) (by unfold Func.isWrapper; first | (rw [if_pos (by decide +kernel)]; kernel_rfl) | (rw [if_neg (by decide +kernel)]; exact ⟨rfl, rfl⟩))
    (fun os started H enc _ => lifted os started H enc)
end Go.Proofs.Ytfgaikcoodagiaa.law6

/- The law FnExactVersionsOf: for every input the call returns true, and each argument reads behind the call as it read before. No condition. -/
import Derived.Test.YtfgaikcoodagiaaRows
import Derived.ProofKit
import Derived.Test.YtfgaikcoodagiaaEv5
import Derived.Test.YtfgaikcoodagiaaW5
set_option linter.all false
namespace Go.Proofs.Ytfgaikcoodagiaa.law5
open Go.ChangeShapes Go.WideShapes Go.ChangeAt Go.RowKit Go.Ev
set_option linter.unusedVariables false
set_option linter.unusedSimpArgs false
theorem op_Need {row : List D} (h : okL [.s, .i .i64, .i .i64, .i .i64, .s] row) : ∃ x : PNeed, row = encNeed x ∧ PNeed.small x := by
  obtain ⟨d0, r0, rfl, k0, h0⟩ := okL_cons h
  obtain ⟨a0, rfl, s0⟩ := ok_s2 k0
  obtain ⟨d1, r1, rfl, k1, h1⟩ := okL_cons h0
  obtain ⟨a1, rfl⟩ := ok_i k1
  obtain ⟨d2, r2, rfl, k2, h2⟩ := okL_cons h1
  obtain ⟨a2, rfl⟩ := ok_i k2
  obtain ⟨d3, r3, rfl, k3, h3⟩ := okL_cons h2
  obtain ⟨a3, rfl⟩ := ok_i k3
  obtain ⟨d4, r4, rfl, k4, h4⟩ := okL_cons h3
  obtain ⟨a4, rfl, s4⟩ := ok_s2 k4
  obtain rfl := okL_nil h4
  exact ⟨⟨a0, a1, a2, a3, a4⟩, rfl, ⟨s0, s4⟩⟩
theorem op_Entry {row : List D} (h : okL [.s, .i .i64, .i .i64, .i .i64, .s, .sl 56 [.s, .i .i64, .i .i64, .i .i64, .s]] row) : ∃ x : PEntry, row = encEntry x ∧ PEntry.small x := by
  obtain ⟨d0, r0, rfl, k0, h0⟩ := okL_cons h
  obtain ⟨a0, rfl, s0⟩ := ok_s2 k0
  obtain ⟨d1, r1, rfl, k1, h1⟩ := okL_cons h0
  obtain ⟨a1, rfl⟩ := ok_i k1
  obtain ⟨d2, r2, rfl, k2, h2⟩ := okL_cons h1
  obtain ⟨a2, rfl⟩ := ok_i k2
  obtain ⟨d3, r3, rfl, k3, h3⟩ := okL_cons h2
  obtain ⟨a3, rfl⟩ := ok_i k3
  obtain ⟨d4, r4, rfl, k4, h4⟩ := okL_cons h3
  obtain ⟨a4, rfl, s4⟩ := ok_s2 k4
  obtain ⟨d5, r5, rfl, k5, h5⟩ := okL_cons h4
  obtain ⟨a5, rfl, b5, c5⟩ := ok_sl (α := PNeed) encNeed (PNeed.small) (fun row h => op_Need h) k5
  obtain rfl := okL_nil h5
  exact ⟨⟨a0, a1, a2, a3, a4, a5⟩, rfl, ⟨s0, s4, b5, c5⟩⟩
theorem own : ownKnob Try.prog.godebug = none := by kernel_rfl
theorem laidOut : laidOutB Try.prog = true := by kernel_rfl
theorem shp_39 : shp Try.prog 9 39 = some [.sl 80 [.s, .i .i64, .i .i64, .i .i64, .s, .sl 56 [.s, .i .i64, .i .i64, .i .i64, .s]]] := by kernel_rfl
theorem shp_9 : shp Try.prog 9 9 = some [.s] := by kernel_rfl
set_option maxRecDepth 100000 in
theorem lifted (os : Os) (started : os.Started) (H : Type) (enc : TypeId × Value → H) :
    ReturnsInHanded {} Try.checked os 5 .any (Rows.fnExactVersionsOfSpec.pre6 enc Try.prog Try.f5 Rows.fnExactVersionsOfRow.domain false) (Rows.fnExactVersionsOfSpec.post enc Try.prog Try.f5 false true false false) := by
  refine returnsInHanded_of_change_sized (C := Try.checked) own started (by kernel_rfl) Try.func5
    (ChangeSpec.witness6 (enc := enc) (C := Try.checked) false ⟨#[], #[.slice none 0 0, .string .empty], []⟩ 8 (by kernel_rfl) (by kernel_rfl) (by kernel_rfl) (by kernel_rfl)) ?_
  intro W base args ds gs before hval0 hW hcnd hz _
  have hval : ∀ (j : Nat) t v, Try.f5.params[j]? = some t → args[j]? = some v → Value.okWide Try.prog W .any base t v := hval0
  have hW' := hW
  obtain ⟨p, q, hA0, hV, rfl, hfz, hnd⟩ := hW
  have hA : DataW.TrodAll enc Try.prog W 0 (fun _ => true) true Try.f5.params.toList args.toList ds p := hA0
  rw [Try.params5] at hA hval
  obtain ⟨v0, v1, d0, d1, p0, p1, rfl, rfl, rfl, h0, h1⟩ := trodAll_two hA
  obtain ⟨rfl, rfl⟩ := trodVars_none hV
  have hlt0 : ∀ x ∈ p0, x.block < W.heap.size := fun x hx => hW'.lt x (by simp [hx])
  have hk0 := h0
  have hw0 : ∀ m ∈ d0.weights Try.prog 39, m ≤ reachBytes := fun m hm => by
    have := List.all_eq_true.1 hz m (DataW.weights_mem_each (j := 0) (t := 39) (d := d0) (by rfl) (by rfl) m hm)
    simpa using this
  obtain ⟨fuel0, hf0⟩ := h0
  obtain ⟨ds0, op0⟩ := open_any 9 39 _ shp_39 fuel0 _ _ hf0 hw0
  obtain ⟨sA0, sL0, sC0, rfl⟩ := okWide_slice Try.underlying39 (hval 0 39 v0 rfl rfl)
  have op0' : Opened W _ [.slice sA0 sL0 sC0] ds0 := op0
  have hok0 := op0'.1
  have hlt1 : ∀ x ∈ p1, x.block < W.heap.size := fun x hx => hW'.lt x (by simp [hx])
  have hk1 := h1
  have hw1 : ∀ m ∈ d1.weights Try.prog 9, m ≤ reachBytes := fun m hm => by
    have := List.all_eq_true.1 hz m (DataW.weights_mem_each (j := 1) (t := 9) (d := d1) (by rfl) (by rfl) m hm)
    simpa using this
  obtain ⟨fuel1, hf1⟩ := h1
  obtain ⟨ds1, op1⟩ := open_any 9 9 _ shp_9 fuel1 _ _ hf1 hw1
  obtain ⟨sA1, rfl⟩ := okWide_string Try.underlying9 (hval 1 9 v1 rfl rfl)
  have op1' : Opened W _ [_] ds1 := op1
  have hok1 := op1'.1
  obtain ⟨x0d0, x0r0, rfl, x0k0, x0h0⟩ := okL_cons hok0
  obtain ⟨x0a0, rfl, x0b0, x0c0⟩ := ok_sl (α := PEntry) encEntry (PEntry.small) (fun row h => op_Entry h) x0k0
  obtain rfl := okL_nil x0h0
  obtain ⟨x1d0, x1r0, rfl, x1k0, x1h0⟩ := okL_cons hok1
  obtain ⟨x1a0, rfl, x1s0⟩ := ok_s2 x1k0
  obtain rfl := okL_nil x1h0
  have hr := r_law5 x0a0 x1a0 x0b0 x0c0 x1s0
  have hcall := law_calls (V := env) (W := W) (vals := [.slice sA0 sL0 sC0, .string sA1]) (fun k => does (f := 5) rfl k) hr rfl (by simp) rfl rfl (by
    intro i x v ty h1 h2 h3
    match i, h1, h2, h3 with
    | 0, h1, h2, h3 =>
      cases h1; cases h2; cases h3
      exact argOk_one rfl rfl rfl op0'
    | 1, h1, h2, h3 =>
      cases h1; cases h2; cases h3
      exact argOk_one rfl rfl rfl op1'
    | i + 2, h1, h2, h3 => cases h1)
  refine hcall.mono fun e W1 ⟨he, hb⟩ => ?_
  subst he
  refine ⟨_, rfl, [d0, d1], [], _, [], p0 ++ p1, [], hW', trodAll_mk1 (shut_bool Try.underlying4 true), ?_, rfl, hb.frame _, fun h => by cases h⟩
  exact trodAll_mk2 (Below.trod laidOut (by kernel_rfl) (of_decide_eq_true (by kernel_rfl)) hk0 hb hlt0) (Below.trod laidOut (by kernel_rfl) (of_decide_eq_true (by kernel_rfl)) hk1 hb hlt1)
theorem holds : Rows.FnExactVersionsOfSaid :=
  OpenClaim.holds_of_wide 5 Try.f5 rfl rfl rfl rfl rfl rfl rfl ⟨rfl, rfl, rfl, rfl, rfl⟩ rfl rfl rfl rfl rfl (by kernel_rfl) Try.func5 (by kernel_rfl)
    (of_decide_eq_true (by kernel_rfl)) (by unfold Func.isWrapper; first | (rw [if_pos (by decide +kernel)]; kernel_rfl) | (rw [if_neg (by decide +kernel)]; exact ⟨rfl, rfl⟩))
    (fun os started H enc _ => lifted os started H enc)
end Go.Proofs.Ytfgaikcoodagiaa.law5

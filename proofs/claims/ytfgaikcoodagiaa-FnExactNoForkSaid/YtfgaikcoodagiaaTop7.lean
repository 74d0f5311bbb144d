/- The law FnExactNoFork: for every input the call returns true, and each argument reads behind the call as it read before. No condition. -/
import Derived.Test.YtfgaikcoodagiaaRows
import Derived.ProofKit
import Derived.Test.YtfgaikcoodagiaaEv7
import Derived.Test.YtfgaikcoodagiaaF7
set_option linter.all false
namespace Go.Proofs.Ytfgaikcoodagiaa.law7
open Go.ChangeShapes Go.WideShapes Go.ChangeAt Go.RowKit Go.Ev
set_option linter.unusedVariables false
set_option linter.unusedSimpArgs false
theorem op_Head {row : List D} (h : okL [.i .i64, .s] row) : ∃ x : PHead, row = encHead x ∧ (fun _ => True) x := by
  obtain ⟨d0, r0, rfl, k0, h0⟩ := okL_cons h
  obtain ⟨a0, rfl⟩ := ok_i k0
  obtain ⟨d1, r1, rfl, k1, h1⟩ := okL_cons h0
  obtain ⟨a1, rfl⟩ := ok_s k1
  obtain rfl := okL_nil h1
  exact ⟨⟨a0, a1⟩, rfl, trivial⟩
theorem op_Mirror {row : List D} (h : okL [.i .i64, .sl 16 [.s], .i .i64, .s, .sl 1 [.i .u8], .i .i64, .i .i64, .s] row) : ∃ x : PMirror, row = encMirror x ∧ PMirror.ok x := by
  obtain ⟨d0, r0, rfl, k0, h0⟩ := okL_cons h
  obtain ⟨a0, rfl⟩ := ok_i k0
  obtain ⟨d1, r1, rfl, k1, h1⟩ := okL_cons h0
  obtain ⟨a1, rfl, b1, c1⟩ := ok_sl (α := ByteArray) encS (fun _ => True) (fun row h => op_S h) k1
  obtain ⟨d2, r2, rfl, k2, h2⟩ := okL_cons h1
  obtain ⟨a2, rfl⟩ := ok_i k2
  obtain ⟨d3, r3, rfl, k3, h3⟩ := okL_cons h2
  obtain ⟨a3, rfl⟩ := ok_s k3
  obtain ⟨d4, r4, rfl, k4, h4⟩ := okL_cons h3
  obtain ⟨a4, rfl, b4, c4⟩ := ok_sl (α := Int) encB (fun _ => True) (fun row h => op_B h) k4
  obtain ⟨d5, r5, rfl, k5, h5⟩ := okL_cons h4
  obtain ⟨a5, rfl⟩ := ok_i k5
  obtain ⟨d6, r6, rfl, k6, h6⟩ := okL_cons h5
  obtain ⟨a6, rfl⟩ := ok_i k6
  obtain ⟨d7, r7, rfl, k7, h7⟩ := okL_cons h6
  obtain ⟨a7, rfl⟩ := ok_s k7
  obtain rfl := okL_nil h7
  exact ⟨⟨a0, a1, a2, a3, a4, a5, a6, a7⟩, rfl, ⟨b1, (by simpa using b4)⟩⟩
theorem op_Msg {row : List D} (h : okL [.i .i64, .i .i64, .i .i64, .i .i64, .s, .i .i64, .sl 16 [.s]] row) : ∃ x : PMsg, row = encMsg x ∧ PMsg.ok x := by
  obtain ⟨d0, r0, rfl, k0, h0⟩ := okL_cons h
  obtain ⟨a0, rfl⟩ := ok_i k0
  obtain ⟨d1, r1, rfl, k1, h1⟩ := okL_cons h0
  obtain ⟨a1, rfl⟩ := ok_i k1
  obtain ⟨d2, r2, rfl, k2, h2⟩ := okL_cons h1
  obtain ⟨a2, rfl⟩ := ok_i k2
  obtain ⟨d3, r3, rfl, k3, h3⟩ := okL_cons h2
  obtain ⟨a3, rfl⟩ := ok_i k3
  obtain ⟨d4, r4, rfl, k4, h4⟩ := okL_cons h3
  obtain ⟨a4, rfl⟩ := ok_s k4
  obtain ⟨d5, r5, rfl, k5, h5⟩ := okL_cons h4
  obtain ⟨a5, rfl⟩ := ok_i k5
  obtain ⟨d6, r6, rfl, k6, h6⟩ := okL_cons h5
  obtain ⟨a6, rfl, b6, c6⟩ := ok_sl (α := ByteArray) encS (fun _ => True) (fun row h => op_S h) k6
  obtain rfl := okL_nil h6
  exact ⟨⟨a0, a1, a2, a3, a4, a5, a6⟩, rfl, b6⟩
theorem own : ownKnob Try.prog.godebug = none := by kernel_rfl
theorem laidOut : laidOutB Try.prog = true := by kernel_rfl
theorem shp_65 : shp Try.prog 9 65 = some [.sl 16 [.s], .sl 24 [.i .i64, .s], .sl 112 [.i .i64, .sl 16 [.s], .i .i64, .s, .sl 1 [.i .u8], .i .i64, .i .i64, .s], .sl 8 [.i .i64], .sl 80 [.i .i64, .i .i64, .i .i64, .i .i64, .s, .i .i64, .sl 16 [.s]]] := by kernel_rfl
set_option maxRecDepth 100000 in
theorem lifted (os : Os) (started : os.Started) (H : Type) (enc : TypeId × Value → H) :
    ReturnsInHanded {} Try.checked os 7 .any (Rows.fnExactNoForkSpec.pre6 enc Try.prog Try.f7 Rows.fnExactNoForkRow.domain false) (Rows.fnExactNoForkSpec.post enc Try.prog Try.f7 false true false false) := by
  refine returnsInHanded_of_change_sized (C := Try.checked) own started (by kernel_rfl) Try.func7
    (ChangeSpec.witness6 (enc := enc) (C := Try.checked) false ⟨#[], #[.agg #[.slice none 0 0, .slice none 0 0, .slice none 0 0, .slice none 0 0, .slice none 0 0]], []⟩ 8 (by kernel_rfl) (by kernel_rfl) (by kernel_rfl) (by kernel_rfl)) ?_
  intro W base args ds gs before hval0 hW hcnd hz _
  have hval : ∀ (j : Nat) t v, Try.f7.params[j]? = some t → args[j]? = some v → Value.okWide Try.prog W .any base t v := hval0
  have hW' := hW
  obtain ⟨p, q, hA0, hV, rfl, hfz, hnd⟩ := hW
  have hA : DataW.TrodAll enc Try.prog W 0 (fun _ => true) true Try.f7.params.toList args.toList ds p := hA0
  rw [Try.params7] at hA hval
  obtain ⟨v0, d0, rfl, rfl, h0⟩ := trodAll_one hA
  obtain ⟨rfl, rfl⟩ := trodVars_none hV
  have hlt0 : ∀ x ∈ p, x.block < W.heap.size := fun x hx => hW'.lt x (by simp [hx])
  have hk0 := h0
  have hw0 : ∀ m ∈ d0.weights Try.prog 65, m ≤ reachBytes := fun m hm => by
    have := List.all_eq_true.1 hz m (DataW.weights_mem_each (j := 0) (t := 65) (d := d0) (by rfl) (by rfl) m hm)
    simpa using this
  obtain ⟨fuel0, hf0⟩ := h0
  obtain ⟨ds0, op0⟩ := open_any 9 65 _ shp_65 fuel0 _ _ hf0 hw0
  obtain ⟨cs0, rfl, _⟩ := okWide_struct Try.underlying65 (hval 0 65 v0 rfl rfl)
  have op0' : Opened W _ cs0.toList ds0 := op0
  have hok0 := op0'.1
  obtain ⟨x0d0, x0r0, rfl, x0k0, x0h0⟩ := okL_cons hok0
  obtain ⟨x0a0, rfl, x0b0, x0c0⟩ := ok_sl (α := ByteArray) encS (fun _ => True) (fun row h => op_S h) x0k0
  obtain ⟨x0d1, x0r1, rfl, x0k1, x0h1⟩ := okL_cons x0h0
  obtain ⟨x0a1, rfl, x0b1, x0c1⟩ := ok_sl (α := PHead) encHead (fun _ => True) (fun row h => op_Head h) x0k1
  obtain ⟨x0d2, x0r2, rfl, x0k2, x0h2⟩ := okL_cons x0h1
  obtain ⟨x0a2, rfl, x0b2, x0c2⟩ := ok_sl (α := PMirror) encMirror (PMirror.ok) (fun row h => op_Mirror h) x0k2
  obtain ⟨x0d3, x0r3, rfl, x0k3, x0h3⟩ := okL_cons x0h2
  obtain ⟨x0a3, rfl, x0b3, x0c3⟩ := ok_sl (α := Int) encI (fun _ => True) (fun row h => op_I h) x0k3
  obtain ⟨x0d4, x0r4, rfl, x0k4, x0h4⟩ := okL_cons x0h3
  obtain ⟨x0a4, rfl, x0b4, x0c4⟩ := ok_sl (α := PMsg) encMsg (PMsg.ok) (fun row h => op_Msg h) x0k4
  obtain rfl := okL_nil x0h4
  have hr := r_law7 x0a0 x0a1 x0a2 x0a3 x0a4 x0b0 x0b1 x0b2 x0c2 x0b3 x0b4 x0c4
  have hcall := law_calls (V := env) (W := W) (vals := [.agg cs0]) (fun k => does (f := 7) rfl k) hr rfl (by simp) rfl rfl (by
    intro i x v ty h1 h2 h3
    match i, h1, h2, h3 with
    | 0, h1, h2, h3 =>
      cases h1; cases h2; cases h3
      exact argOk_agg rfl rfl rfl op0'
    | i + 1, h1, h2, h3 => cases h1)
  refine hcall.mono fun e W1 ⟨he, hb⟩ => ?_
  subst he
  refine ⟨_, rfl, [d0], [], _, [], p, [], hW', trodAll_mk1 (shut_bool Try.underlying4 true), ?_, rfl, hb.frame _, fun h => by cases h⟩
  exact trodAll_mk1 (Below.trod laidOut (by kernel_rfl) (of_decide_eq_true (by kernel_rfl)) hk0 hb hlt0)
theorem holds : Rows.FnExactNoForkSaid :=
  OpenClaim.holds_of_wide 7 Try.f7 rfl rfl rfl rfl rfl rfl rfl ⟨rfl, rfl, rfl, rfl, rfl⟩ rfl rfl rfl rfl rfl (by kernel_rfl) Try.func7 (by kernel_rfl)
    (of_decide_eq_true (by kernel_rfl)) (by unfold Func.isWrapper; first | (rw [if_pos (by decide +kernel)]; kernel_rfl) | (rw [if_neg (by decide +kernel)]; exact ⟨rfl, rfl⟩))
    (fun os started H enc _ => lifted os started H enc)
end Go.Proofs.Ytfgaikcoodagiaa.law7

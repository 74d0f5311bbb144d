/- The law FnFound: for every input the call returns true, and each argument reads behind the call as it read before. No condition. -/
import Derived.Test.YtfgaikcoodagiaaRows
import Derived.ProofKit
import Derived.Test.YtfgaikcoodagiaaEv5
import Derived.Test.YtfgaikcoodagiaaD4
set_option linter.all false
namespace Go.Proofs.Ytfgaikcoodagiaa.law3
open Go.ChangeShapes Go.WideShapes Go.ChangeAt Go.RowKit Go.Ev
set_option linter.unusedVariables false
set_option linter.unusedSimpArgs false
theorem own : ownKnob Try.prog.godebug = none := by kernel_rfl
theorem laidOut : laidOutB Try.prog = true := by kernel_rfl
theorem shp_22 : shp Try.prog 9 22 = some [.sl 1 [.i .u8]] := by kernel_rfl
set_option maxRecDepth 100000 in
theorem lifted (os : Os) (started : os.Started) (H : Type) (enc : TypeId × Value → H) :
    ReturnsInHanded {} Try.checked os 3 .any (Rows.fnFoundSpec.pre6 enc Try.prog Try.f3 Rows.fnFoundRow.domain false) (Rows.fnFoundSpec.post enc Try.prog Try.f3 false true false false) := by
  refine returnsInHanded_of_change_sized (C := Try.checked) own started (by kernel_rfl) Try.func3
    (ChangeSpec.witness6 (enc := enc) (C := Try.checked) false ⟨#[], #[.slice none 0 0], []⟩ 8 (by kernel_rfl) (by kernel_rfl) (by kernel_rfl) (by kernel_rfl)) ?_
  intro W base args ds gs before hval0 hW hcnd hz _
  have hval : ∀ (j : Nat) t v, Try.f3.params[j]? = some t → args[j]? = some v → Value.okWide Try.prog W .any base t v := hval0
  have hW' := hW
  obtain ⟨p, q, hA0, hV, rfl, hfz, hnd⟩ := hW
  have hA : DataW.TrodAll enc Try.prog W 0 (fun _ => true) true Try.f3.params.toList args.toList ds p := hA0
  rw [Try.params3] at hA hval
  obtain ⟨v0, d0, rfl, rfl, h0⟩ := trodAll_one hA
  obtain ⟨rfl, rfl⟩ := trodVars_none hV
  have hlt0 : ∀ x ∈ p, x.block < W.heap.size := fun x hx => hW'.lt x (by simp [hx])
  have hk0 := h0
  have hw0 : ∀ m ∈ d0.weights Try.prog 22, m ≤ reachBytes := fun m hm => by
    have := List.all_eq_true.1 hz m (DataW.weights_mem_each (j := 0) (t := 22) (d := d0) (by rfl) (by rfl) m hm)
    simpa using this
  obtain ⟨fuel0, hf0⟩ := h0
  obtain ⟨ds0, op0⟩ := open_any 9 22 _ shp_22 fuel0 _ _ hf0 hw0
  obtain ⟨sA0, sL0, sC0, rfl⟩ := okWide_slice Try.underlying22 (hval 0 22 v0 rfl rfl)
  have op0' : Opened W _ [.slice sA0 sL0 sC0] ds0 := op0
  have hok0 := op0'.1
  obtain ⟨x0d0, x0r0, rfl, x0k0, x0h0⟩ := okL_cons hok0
  obtain ⟨x0a0, rfl, x0b0, x0c0⟩ := ok_sl (α := Int) encB (fun _ => True) (fun row h => op_B h) x0k0
  obtain rfl := okL_nil x0h0
  have hr := r_law3 x0a0 (by simpa using x0b0)
  have hcall := law_calls (V := env) (W := W) (vals := [.slice sA0 sL0 sC0]) (fun k => does (f := 3) rfl k) hr rfl (by simp) rfl rfl (by
    intro i x v ty h1 h2 h3
    match i, h1, h2, h3 with
    | 0, h1, h2, h3 =>
      cases h1; cases h2; cases h3
      exact argOk_one rfl rfl rfl op0'
    | i + 1, h1, h2, h3 => cases h1)
  refine hcall.mono fun e W1 ⟨he, hb⟩ => ?_
  subst he
  refine ⟨_, rfl, [d0], [], _, [], p, [], hW', trodAll_mk1 (shut_bool Try.underlying4 true), ?_, rfl, hb.frame _, fun h => by cases h⟩
  exact trodAll_mk1 (Below.trod laidOut (by kernel_rfl) (of_decide_eq_true (by kernel_rfl)) hk0 hb hlt0)
theorem holds : Rows.FnFoundSaid :=
  OpenClaim.holds_of_wide 3 Try.f3 rfl rfl rfl rfl rfl rfl rfl ⟨rfl, rfl, rfl, rfl, rfl⟩ rfl rfl rfl rfl rfl (by kernel_rfl) Try.func3 (by kernel_rfl)
    (of_decide_eq_true (by kernel_rfl)) (by unfold Func.isWrapper; first | (rw [if_pos (by decide +kernel)]; kernel_rfl) | (rw [if_neg (by decide +kernel)]; exact ⟨rfl, rfl⟩))
    (fun os started H enc _ => lifted os started H enc)
end Go.Proofs.Ytfgaikcoodagiaa.law3

/- The law FnExactClosed: for every input the call returns true, and each argument reads behind the call as it read before. No condition. -/
import Derived.Test.YtojciiiilfmjgaaDoorRows
import Derived.Test.YtojciiiilfmjgaaDoorCards
import Derived.Test.YtojciiiilfmjgaaDoorTie
import Derived.OpenShut
import Derived.LaidMore
import Derived.Lay
import Derived.SevenTiedAt
import Derived.Stop.Joined
import Derived.ProofKit
import Derived.Test.YtojciiiilfmjgaaDoorEv7
import Derived.Test.YtojciiiilfmjgaaDoorF4
set_option linter.all false
namespace Go.Proofs.YtojciiiilfmjgaaDoor.law4
open Go.ChangeShapes Go.WideShapes Go.ChangeAt Go.RowKit Go.Ev
set_option linter.unusedVariables false
set_option linter.unusedSimpArgs false
theorem op_Need {row : List D} (h : okL [.s, .i .i64, .i .i64, .i .i64, .s] row) : ∃ x : PNeed, row = encNeed x ∧ PNeed.small x := by
  obtain ⟨d0, r0, rfl, k0, h0⟩ := okL_cons h
  obtain ⟨a0, rfl, s0⟩ := ok_s2 k0
  obtain ⟨d1, r1, rfl, k1, h1⟩ := okL_cons h0
  obtain ⟨a1, rfl⟩ := ok_i k1
  obtain ⟨d2, r2, rfl, k2, h2⟩ := okL_cons h1
  obtain ⟨a2, rfl⟩ := ok_i k2
  obtain ⟨d3, r3, rfl, k3, h3⟩ := okL_cons h2
  obtain ⟨a3, rfl⟩ := ok_i k3
  obtain ⟨d4, r4, rfl, k4, h4⟩ := okL_cons h3
  obtain ⟨a4, rfl, s4⟩ := ok_s2 k4
  obtain rfl := okL_nil h4
  exact ⟨⟨a0, a1, a2, a3, a4⟩, rfl, ⟨s0, s4⟩⟩
theorem op_Entry {row : List D} (h : okL [.s, .i .i64, .i .i64, .i .i64, .s, .sl 56 [.s, .i .i64, .i .i64, .i .i64, .s]] row) : ∃ x : PEntry, row = encEntry x ∧ PEntry.small x := by
  obtain ⟨d0, r0, rfl, k0, h0⟩ := okL_cons h
  obtain ⟨a0, rfl, s0⟩ := ok_s2 k0
  obtain ⟨d1, r1, rfl, k1, h1⟩ := okL_cons h0
  obtain ⟨a1, rfl⟩ := ok_i k1
  obtain ⟨d2, r2, rfl, k2, h2⟩ := okL_cons h1
  obtain ⟨a2, rfl⟩ := ok_i k2
  obtain ⟨d3, r3, rfl, k3, h3⟩ := okL_cons h2
  obtain ⟨a3, rfl⟩ := ok_i k3
  obtain ⟨d4, r4, rfl, k4, h4⟩ := okL_cons h3
  obtain ⟨a4, rfl, s4⟩ := ok_s2 k4
  obtain ⟨d5, r5, rfl, k5, h5⟩ := okL_cons h4
  obtain ⟨a5, rfl, b5, c5⟩ := ok_sl (α := PNeed) encNeed (PNeed.small) (fun row h => op_Need h) k5
  obtain rfl := okL_nil h5
  exact ⟨⟨a0, a1, a2, a3, a4, a5⟩, rfl, ⟨s0, s4, b5, c5⟩⟩
theorem own : ownKnob Tryd.prog.godebug = none := by kernel_rfl
theorem laidOut : laidOutB Tryd.prog = true := by kernel_rfl
theorem shp_28 : shp Tryd.prog 9 28 = some [.sl 80 [.s, .i .i64, .i .i64, .i .i64, .s, .sl 56 [.s, .i .i64, .i .i64, .i .i64, .s]]] := by kernel_rfl
theorem shp_22 : shp Tryd.prog 9 22 = some [.sl 56 [.s, .i .i64, .i .i64, .i .i64, .s]] := by kernel_rfl
set_option maxRecDepth 100000 in
theorem lifted (os : Os) (started : os.Started) (H : Type) (enc : TypeId × Value → H) :
    ReturnsInHanded {} Tryd.checked os 4 .any (fun w args => (Rows.fnExactClosedSpec.pre enc Tryd.prog Tryd.f4 Rows.fnExactClosedRow.domain false w args ∧ laidMetH Tryd.prog Rows.fnExactClosedRow.laid w) ∧ sizedMet enc Tryd.prog Tryd.f4 (OpenSpec.ofChange Rows.fnExactClosedSpec) false w args) (Rows.fnExactClosedSpec.post enc Tryd.prog Tryd.f4 false true false false) := by
  refine returnsInHanded_of_change_and (C := Tryd.checked) (X := fun w _ => laidMetH Tryd.prog Rows.fnExactClosedRow.laid w) (fun _ _ _ hh h => h.of_heap hh) own started (by kernel_rfl) Tryd.func4
    (ChangeSpec.witness_shaped (enc := enc) (C := Tryd.checked) (os := os) (X := fun w _ => laidMetH Tryd.prog Rows.fnExactClosedRow.laid w) false (World.laidAll Tryd.prog os Rows.fnExactClosedRow.laid) #[.slice none 0 0, .slice none 0 0] 8 (World.laidAll_os _ _ _)
      (World.shaped_of_ZipB (by kernel_rfl) (by kernel_rfl)) (by kernel_rfl) (by kernel_rfl) (by kernel_rfl) (by rw [MakeChecks.laidMetH_plain _ _ _ (by kernel_rfl)]; exact laidMet_laidAll _ (by kernel_rfl) (by kernel_rfl))) ?_
  intro W base args ds gs before hval0 hW hcnd hz hL _
  have hval : ∀ (j : Nat) t v, Tryd.f4.params[j]? = some t → args[j]? = some v → Value.okWide Tryd.prog W .any base t v := hval0
  have hW' := hW
  obtain ⟨p, q, hA0, hV, rfl, hfz, hnd⟩ := hW
  have hA : DataW.TrodAll enc Tryd.prog W 0 (fun _ => true) true Tryd.f4.params.toList args.toList ds p := hA0
  rw [Tryd.params4] at hA hval
  obtain ⟨v0, v1, d0, d1, p0, p1, rfl, rfl, rfl, h0, h1⟩ := trodAll_two hA
  obtain ⟨rfl, rfl⟩ := trodVars_none hV
  have hlt0 : ∀ x ∈ p0, x.block < W.heap.size := fun x hx => hW'.lt x (by simp [hx])
  have hk0 := h0
  have hw0 : ∀ m ∈ d0.weights Tryd.prog 28, m ≤ reachBytes := fun m hm => by
    have := List.all_eq_true.1 hz m (DataW.weights_mem_each (j := 0) (t := 28) (d := d0) (by rfl) (by rfl) m hm)
    simpa using this
  obtain ⟨fuel0, hf0⟩ := h0
  obtain ⟨ds0, op0⟩ := open_any 9 28 _ shp_28 fuel0 _ _ hf0 hw0
  obtain ⟨sA0, sL0, sC0, rfl⟩ := okWide_slice Tryd.underlying28 (hval 0 28 v0 rfl rfl)
  have op0' : Opened W _ [.slice sA0 sL0 sC0] ds0 := op0
  have hok0 := op0'.1
  have hlt1 : ∀ x ∈ p1, x.block < W.heap.size := fun x hx => hW'.lt x (by simp [hx])
  have hk1 := h1
  have hw1 : ∀ m ∈ d1.weights Tryd.prog 22, m ≤ reachBytes := fun m hm => by
    have := List.all_eq_true.1 hz m (DataW.weights_mem_each (j := 1) (t := 22) (d := d1) (by rfl) (by rfl) m hm)
    simpa using this
  obtain ⟨fuel1, hf1⟩ := h1
  obtain ⟨ds1, op1⟩ := open_any 9 22 _ shp_22 fuel1 _ _ hf1 hw1
  obtain ⟨sA1, sL1, sC1, rfl⟩ := okWide_slice Tryd.underlying22 (hval 1 22 v1 rfl rfl)
  have op1' : Opened W _ [.slice sA1 sL1 sC1] ds1 := op1
  have hok1 := op1'.1
  obtain ⟨x0d0, x0r0, rfl, x0k0, x0h0⟩ := okL_cons hok0
  obtain ⟨x0a0, rfl, x0b0, x0c0⟩ := ok_sl (α := PEntry) encEntry (PEntry.small) (fun row h => op_Entry h) x0k0
  obtain rfl := okL_nil x0h0
  obtain ⟨x1d0, x1r0, rfl, x1k0, x1h0⟩ := okL_cons hok1
  obtain ⟨x1a0, rfl, x1b0, x1c0⟩ := ok_sl (α := PNeed) encNeed (PNeed.small) (fun row h => op_Need h) x1k0
  obtain rfl := okL_nil x1h0
  have hr := r_lawClosed x0a0 x1a0 x0b0 x0c0 x1b0 x1c0
  have hcall := law_calls (V := env) (W := W) (vals := [.slice sA0 sL0 sC0, .slice sA1 sL1 sC1]) (fun k => does (f := 4) rfl k) hr rfl tabs_ok (by simp) rfl rfl (by
    intro i x v ty h1 h2 h3
    match i, h1, h2, h3 with
    | 0, h1, h2, h3 =>
      cases h1; cases h2; cases h3
      exact argOk_one rfl rfl rfl op0'
    | 1, h1, h2, h3 =>
      cases h1; cases h2; cases h3
      exact argOk_one rfl rfl rfl op1'
    | i + 2, h1, h2, h3 => cases h1)
  refine hcall.mono fun e W1 ⟨he, hb⟩ => ?_
  subst he
  refine ⟨_, rfl, [d0, d1], [], _, [], p0 ++ p1, [], hW', trodAll_mk1 (shut_bool Tryd.underlying4 true), ?_, rfl, hb.frame _, fun h => by cases h⟩
  exact trodAll_mk2 (Below.trod laidOut (by kernel_rfl) (of_decide_eq_true (by kernel_rfl)) hk0 hb hlt0) (Below.trod laidOut (by kernel_rfl) (of_decide_eq_true (by kernel_rfl)) hk1 hb hlt1)
theorem holds : Rows.FnExactClosedSaid :=
  OpenClaim.holds_of_wide 4 Tryd.f4 rfl rfl rfl rfl rfl rfl rfl ⟨rfl, rfl, rfl, rfl, rfl⟩ rfl rfl rfl rfl rfl (by kernel_rfl) Tryd.func4 (by kernel_rfl)
    (of_decide_eq_true (by kernel_rfl)) (by unfold Func.isWrapper; first | (rw [if_pos (by decide +kernel)]; kernel_rfl) | (rw [if_neg (by decide +kernel)]; exact ⟨rfl, rfl⟩))
    (fun os started H enc _ => lifted os started H enc)
theorem card_holds : Rows.FnExactClosedCardSaid :=
  Claim7.holds_tied_plain_at .later [] [.data, .pinned] true (true, "71f6f016ff28c1e5e461d36c897b9d6ff132ffe912a7f6e9e43940f1995e5e62") false holds (fun _ h => by cases h) (by kernel_rfl) (fun _ h => by cases h) fnExactClosed_row_tie rfl ⟨rfl, rfl⟩ (by kernel_rfl) rfl
    (fun f fn hf hfn => by
      obtain rfl : f = 4 := Option.some.inj ((show Tryd.prog.funcNamed "loop.example/g00233/laws.FnExactClosed" = some 4 by kernel_rfl).symm.trans hf) |>.symm
      obtain rfl : fn = Tryd.f4 := (Option.some.inj (Tryd.func4.symm.trans hfn)).symm
      exact ⟨by kernel_rfl, fun j t ht => by
        rw [Tryd.params4] at ht
        have hm : t ∈ [28, 22] := by simpa using Array.mem_of_getElem? ht
        have hall : ([28, 22].all fun u => !Tryd.prog.wantsStandIn u) = true := by kernel_rfl
        exact (show Tryd.prog.wantsStandIn t = false by simpa using List.all_eq_true.1 hall t hm)⟩)
    (by kernel_rfl)
end Go.Proofs.YtojciiiilfmjgaaDoor.law4

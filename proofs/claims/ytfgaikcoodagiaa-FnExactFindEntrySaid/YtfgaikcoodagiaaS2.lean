/- Functions that were checked. -/
import Derived.Test.YtfgaikcoodagiaaS1
import Derived.Test.YtfgaikcoodagiaaEv7
set_option linter.all false
namespace Go.Proofs.Ytfgaikcoodagiaa
open Go.Ev
set_option maxRecDepth 20000
def sgs : List (Nat × Sig) := [
  (32, { pms := [.rd, .rd], tys := [53, 3], res := [.c (.view []) .no] }),
  (60, { pms := [.rd, .rd], tys := [89, 3], res := [.c (.view []) .no] }),
  (19, { pms := [.rd, .rd], tys := [40, 3], res := [.c (.view []) .no] }),
  (59, { pms := [.rd, .rd], tys := [86, 3], res := [.c (.view []) .no] }),
  (18, { pms := [.rd, .rd], tys := [39, 3], res := [.c (.view []) .no] }),
  (33, { pms := [.rd], tys := [53], res := [.agg [.view [], .view [], .view [], .view []] .no] }),
  (62, { pms := [.rd], tys := [89], res := [.agg [.view [], .view [], .view [], .view [], .view []] .no] }),
  (22, { pms := [.rd], tys := [40], res := [.c (.own [.view [], .view [], .view [], .view [], .view []]) .no] }),
  (61, { pms := [.rd], tys := [86], res := [.agg [.view [], .view [], .view [], .view [], .view [], .own [.view [], .view [], .view [], .view [], .view []]] .no] }),
  (21, { pms := [.rd], tys := [39], res := [.c (.own [.view [], .view [], .view [], .view [], .view [], .own [.view [], .view [], .view [], .view [], .view []]]) .no] }),
  (57, { pms := [.rd, .rd, .rd], tys := [24, 9, 26], res := [.c (.view []) .no] }),
  (58, { pms := [.rd], tys := [31], res := [.agg [.view [], .view [], .view [], .view [], .view [], .own [.view [], .view [], .view [], .view [], .view []]] .no] }),
  (15, { pms := [.rd, .rd, .rd], tys := [24, 9, 26], res := [.agg [.view [], .view [], .view [], .view [], .view [], .own [.view [], .view [], .view [], .view [], .view []]] .no, .c (.view []) .no] }),
  (55, { pms := [.rd, .rd, .rd], tys := [24, 9, 26], res := [.c (.view []) .no] }),
  (94, { pms := [.rd], tys := [29], res := [.c (.own [.view [], .view [], .view [], .view [], .view []]) .no] }),
  (56, { pms := [.rd], tys := [31], res := [.agg [.view [], .view [], .view [], .view [], .view [], .own [.view [], .view [], .view [], .view [], .view []]] .no] }),
  (14, { pms := [.rd, .rd, .rd], tys := [24, 9, 26], res := [.agg [.view [], .view [], .view [], .view [], .view [], .own [.view [], .view [], .view [], .view [], .view []]] .no, .c (.view []) .no] }),
  (65, { pms := [.rd, .rd], tys := [26, 26], res := [.c (.view []) .no] }),
  (63, { pms := [.rd, .rd], tys := [38, 38], res := [.c (.view []) .no] }),
  (23, { pms := [.rd, .rd], tys := [29, 29], res := [.c (.view []) .no] }),
  (34, { pms := [.rd, .rd], tys := [31, 31], res := [.c (.view []) .no] }),
  (24, { pms := [.rd, .rd], tys := [24, 24], res := [.c (.view []) .no] }),
  (64, { pms := [.rd], tys := [3], res := [.c (.view []) .no] }),
  (26, { pms := [.mut (.own [.view [], .view [], .view [], .view [], .view []]), .rd], tys := [29, 3], res := [.c (.view []) .no] }),
  (25, { pms := [.mut (.own [.view [], .view [], .view [], .view [], .view [], .own [.view [], .view [], .view [], .view [], .view []]]), .rd], tys := [24, 3], res := [.c (.view []) .no] }),
  (35, { pms := [.magg 2 [.view [], .view [], .view [], .view [], .view [], .own [.view [], .view [], .view [], .view [], .view []]], .rd], tys := [31, 3], res := [.c (.view []) .no] }),
  (27, { pms := [.rd, .rd], tys := [29, 3], res := [.c (.view []) .no] }),
  (36, { pms := [.rd, .rd], tys := [31, 3], res := [.c (.view []) .no] }),
  (6, { pms := [.rd, .rd, .rd], tys := [39, 9, 53], res := [.c (.view []) .no] }),
  (66, { pms := [.rd, .rd], tys := [59, 3], res := [.c (.view []) .no] }),
  (95, { pms := [.rd, .rd], tys := [130, 3], res := [.c (.view []) .no] }),
  (67, { pms := [.rd, .rd], tys := [60, 3], res := [.c (.view []) .no] }),
  (117, { pms := [.rd, .rd], tys := [133, 3], res := [.c (.view []) .no] }),
  (118, { pms := [.rd, .rd], tys := [22, 3], res := [.c (.view []) .no] }),
  (109, { pms := [.rd, .rd], tys := [135, 3], res := [.c (.view []) .no] }),
  (96, { pms := [.rd, .rd], tys := [137, 3], res := [.c (.view []) .no] }),
  (68, { pms := [.rd, .rd], tys := [61, 3], res := [.c (.view []) .no] }),
  (69, { pms := [.rd, .rd], tys := [62, 3], res := [.c (.view []) .no] }),
  (97, { pms := [.rd, .rd], tys := [140, 3], res := [.c (.view []) .no] }),
  (70, { pms := [.rd, .rd], tys := [63, 3], res := [.c (.view []) .no] }),
  (37, { pms := [.rd, .rd], tys := [65, 3], res := [.c (.view []) .no] }),
  (72, { pms := [.rd], tys := [59], res := [.c (.own [.view []]) .no] }),
  (98, { pms := [.rd], tys := [130], res := [.agg [.view [], .view []] .no] }),
  (73, { pms := [.rd], tys := [60], res := [.c (.own [.view [], .view []]) .no] }),
  (119, { pms := [.rd], tys := [133], res := [.agg [.own [.view []], .view [], .view []] .no] }),
  (120, { pms := [.rd], tys := [22], res := [.c (.own [.view []]) .no] }),
  (110, { pms := [.rd], tys := [135], res := [.agg [.own [.view []], .view [], .view [], .own [.view []], .view []] .no] }),
  (99, { pms := [.rd], tys := [137], res := [.agg [.view [], .own [.view []], .view [], .view [], .own [.view []], .view [], .view [], .view []] .no] }),
  (74, { pms := [.rd], tys := [61], res := [.c (.own [.view [], .own [.view []], .view [], .view [], .own [.view []], .view [], .view [], .view []]) .no] }),
  (75, { pms := [.rd], tys := [62], res := [.c (.own [.view []]) .no] }),
  (100, { pms := [.rd], tys := [140], res := [.agg [.view [], .view [], .view [], .view [], .view [], .view [], .own [.view []]] .no] }),
  (76, { pms := [.rd], tys := [63], res := [.c (.own [.view [], .view [], .view [], .view [], .view [], .view [], .own [.view []]]) .no] }),
  (39, { pms := [.rd], tys := [65], res := [.agg [.own [.view []], .own [.view [], .view []], .own [.view [], .own [.view []], .view [], .view [], .own [.view []], .view [], .view [], .view []], .own [.view []], .own [.view [], .view [], .view [], .view [], .view [], .view [], .own [.view []]]] .no] }),
  (71, { pms := [.rd], tys := [68], res := [.agg [.view [], .view []] .no, .agg [.view [], .view []] .no, .c (.view []) .no] }),
  (38, { pms := [.rd], tys := [72], res := [.c (.view []) .no] }),
  (77, { pms := [.rd], tys := [68], res := [.agg [.view [], .view []] .no, .agg [.view [], .view []] .no, .c (.view []) .no] }),
  (40, { pms := [.rd], tys := [72], res := [.c (.view []) .no] }),
  (78, { pms := [.rd, .rd], tys := [59, 59], res := [.c (.view []) .no] }),
  (101, { pms := [.rd, .rd], tys := [101, 101], res := [.c (.view []) .no] }),
  (79, { pms := [.rd, .rd], tys := [68, 68], res := [.c (.view []) .no] }),
  (121, { pms := [.rd, .rd], tys := [115, 115], res := [.c (.view []) .no] }),
  (122, { pms := [.rd, .rd], tys := [22, 22], res := [.c (.view []) .no] }),
  (111, { pms := [.rd, .rd], tys := [117, 117], res := [.c (.view []) .no] }),
  (102, { pms := [.rd, .rd], tys := [119, 119], res := [.c (.view []) .no] }),
  (80, { pms := [.rd, .rd], tys := [69, 69], res := [.c (.view []) .no] }),
  (81, { pms := [.rd, .rd], tys := [62, 62], res := [.c (.view []) .no] }),
  (103, { pms := [.rd, .rd], tys := [144, 144], res := [.c (.view []) .no] }),
  (82, { pms := [.rd, .rd], tys := [70, 70], res := [.c (.view []) .no] }),
  (41, { pms := [.rd, .rd], tys := [72, 72], res := [.c (.view []) .no] }),
  (7, { pms := [.rd], tys := [65], res := [.c (.view []) .no] }),
  (29, { pms := [.rd, .rd], tys := [34, 34], res := [.c (.view []) .no] })]
def Sg (f : Nat) : Option Sig := sgOf sgs f
noncomputable def E : Prog := ⟨tab, fun f => Try.prog.funcs[f]?, fun f => (Sg f).map fun s => s.pms.map PM.pk, fun f => if f = 94 then some (cloneF 5 56 [.zs, .zi .i64, .zi .i64, .zi .i64, .zs]) else none⟩
@[simp] theorem E_τ : E.τ = tab := rfl
/-- laws.szVersion -/
@[simp] theorem pk_32 : E.pks 32 = some [.val, .val] := rfl
theorem kn_32 : Known env E Sg 32 { pms := [.rd, .rd], tys := [53, 3], res := [.c (.view []) .no] } := known_of 0 Try.func32 rfl rfl Try.func32 (by kernel_rfl)
/-- laws.szNeed -/
@[simp] theorem pk_60 : E.pks 60 = some [.val, .val] := rfl
theorem kn_60 : Known env E Sg 60 { pms := [.rd, .rd], tys := [89, 3], res := [.c (.view []) .no] } := known_of 0 Try.func60 rfl rfl Try.func60 (by kernel_rfl)
/-- laws.szNeedS -/
@[simp] theorem pk_19 : E.pks 19 = some [.val, .val] := rfl
theorem kn_19 : Known env E Sg 19 { pms := [.rd, .rd], tys := [40, 3], res := [.c (.view []) .no] } := known_of 0 Try.func19 rfl rfl Try.func19 (by kernel_rfl)
/-- laws.szEntry -/
@[simp] theorem pk_59 : E.pks 59 = some [.val, .val] := rfl
theorem kn_59 : Known env E Sg 59 { pms := [.rd, .rd], tys := [86, 3], res := [.c (.view []) .no] } := known_of 0 Try.func59 rfl rfl Try.func59 (by kernel_rfl)
/-- laws.szEntryS -/
@[simp] theorem pk_18 : E.pks 18 = some [.val, .val] := rfl
theorem kn_18 : Known env E Sg 18 { pms := [.rd, .rd], tys := [39, 3], res := [.c (.view []) .no] } := known_of 0 Try.func18 rfl rfl Try.func18 (by kernel_rfl)
/-- laws.toVersion -/
@[simp] theorem pk_33 : E.pks 33 = some [.val] := rfl
theorem kn_33 : Known env E Sg 33 { pms := [.rd], tys := [53], res := [.agg [.view [], .view [], .view [], .view []] .no] } := known_of 0 Try.func33 rfl rfl Try.func33 (by kernel_rfl)
/-- laws.toNeed -/
@[simp] theorem pk_62 : E.pks 62 = some [.val] := rfl
theorem kn_62 : Known env E Sg 62 { pms := [.rd], tys := [89], res := [.agg [.view [], .view [], .view [], .view [], .view []] .no] } := known_of 0 Try.func62 rfl rfl Try.func62 (by kernel_rfl)
/-- laws.toNeedS -/
@[simp] theorem pk_22 : E.pks 22 = some [.val] := rfl
theorem kn_22 : Known env E Sg 22 { pms := [.rd], tys := [40], res := [.c (.own [.view [], .view [], .view [], .view [], .view []]) .no] } := known_of 1 Try.func22 rfl rfl Try.func22 (by kernel_rfl)
/-- laws.toEntry -/
@[simp] theorem pk_61 : E.pks 61 = some [.val] := rfl
theorem kn_61 : Known env E Sg 61 { pms := [.rd], tys := [86], res := [.agg [.view [], .view [], .view [], .view [], .view [], .own [.view [], .view [], .view [], .view [], .view []]] .no] } := known_of 1 Try.func61 rfl rfl Try.func61 (by kernel_rfl)
/-- laws.toEntryS -/
@[simp] theorem pk_21 : E.pks 21 = some [.val] := rfl
theorem kn_21 : Known env E Sg 21 { pms := [.rd], tys := [39], res := [.c (.own [.view [], .view [], .view [], .view [], .view [], .own [.view [], .view [], .view [], .view [], .view []]]) .no] } := known_of 1 Try.func21 rfl rfl Try.func21 (by kernel_rfl)
/-- spec.l15At -/
@[simp] theorem pk_57 : E.pks 57 = some [.val, .val, .val] := rfl
theorem kn_57 : Known env E Sg 57 { pms := [.rd, .rd, .rd], tys := [24, 9, 26], res := [.c (.view []) .no] } := known_of 0 Try.func57 rfl rfl Try.func57 (by kernel_rfl)
/-- spec.l15Copy -/
@[simp] theorem pk_58 : E.pks 58 = some [.val] := rfl
theorem kn_58 : Known env E Sg 58 { pms := [.rd], tys := [31], res := [.agg [.view [], .view [], .view [], .view [], .view [], .own [.view [], .view [], .view [], .view [], .view []]] .no] } := known_of 1 Try.func58 rfl rfl Try.func58 (by kernel_rfl)
/-- spec.FindEntry -/
@[simp] theorem pk_15 : E.pks 15 = some [.val, .val, .val] := rfl
theorem kn_15 : Known env E Sg 15 { pms := [.rd, .rd, .rd], tys := [24, 9, 26], res := [.agg [.view [], .view [], .view [], .view [], .view [], .own [.view [], .view [], .view [], .view [], .view []]] .no, .c (.view []) .no] } := known_of 1 Try.func15 rfl rfl Try.func15 (by kernel_rfl)
/-- impl.findEntry -/
@[simp] theorem pk_55 : E.pks 55 = some [.val, .val, .val] := rfl
theorem kn_55 : Known env E Sg 55 { pms := [.rd, .rd, .rd], tys := [24, 9, 26], res := [.c (.view []) .no] } := known_of 0 Try.func55 rfl rfl Try.func55 (by kernel_rfl)
/-- slices.Clone[[]impl.Need,impl.Need] -/
@[simp] theorem pk_94 : E.pks 94 = some [.val] := rfl
theorem cl_94 : Does env 94 { pms := [.rd], tys := [29], res := [.c (.own [.view [], .view [], .view [], .view [], .view []]) .no] } (cloneF 5 56 [.zs, .zi .i64, .zi .i64, .zi .i64, .zs]) :=
  does_clone (X := ⟨tab, fun _ => none, 8, polG tab (tkF 1 Try.f94) false⟩) (et := 38) rfl rfl (by decide) ⟨rfl, rfl, rfl⟩ ⟨rfl, rfl, rfl⟩ ⟨⟨_, rfl⟩, rfl, rfl⟩ ⟨rfl, rfl, rfl⟩ rfl rfl rfl rfl rfl rfl rfl rfl (fun _ => rfl) (by kernel_rfl)
    (fun rows hr => clone_ev (τ := tab) rfl (by
      obtain ⟨h1, h2, h3⟩ := hr
      have h3 := List.all_eq_true.1 h3
      simp [h1, h2]
      exact h3))
theorem kn_94 : Known env E Sg 94 { pms := [.rd], tys := [29], res := [.c (.own [.view [], .view [], .view [], .view [], .view []]) .no] } := ⟨rfl, _, _, Try.func94, rfl, by decide, .inl ⟨_, rfl, cl_94⟩⟩
@[simp] theorem c_clone_94 {rows : List (List D)} {K : List X → List X → Prop} (h1 : rows.length * 56 ≤ memRoom) (h2 : rows.length ≤ strRoom) (h3 : rows.all (fits [.zs, .zi .i64, .zi .i64, .zi .i64, .zs]) = true) : callK E 94 [.d (.sl 5 rows) none] K = K [.d (.sl 5 rows) none] [.u] := callK_of (prim_runs rfl (cloneF_eq h1 h2 h3))
/-- impl.copyEntry -/
@[simp] theorem pk_56 : E.pks 56 = some [.val] := rfl
theorem kn_56 : Known env E Sg 56 { pms := [.rd], tys := [31], res := [.agg [.view [], .view [], .view [], .view [], .view [], .own [.view [], .view [], .view [], .view [], .view []]] .no] } := known_of 1 Try.func56 rfl rfl Try.func56 (by kernel_rfl)
/-- impl.FindEntry -/
@[simp] theorem pk_14 : E.pks 14 = some [.val, .val, .val] := rfl
theorem kn_14 : Known env E Sg 14 { pms := [.rd, .rd, .rd], tys := [24, 9, 26], res := [.agg [.view [], .view [], .view [], .view [], .view [], .own [.view [], .view [], .view [], .view [], .view []]] .no, .c (.view []) .no] } := known_of 1 Try.func14 rfl rfl Try.func14 (by kernel_rfl)
/-- laws.eqVersion -/
@[simp] theorem pk_65 : E.pks 65 = some [.val, .val] := rfl
theorem kn_65 : Known env E Sg 65 { pms := [.rd, .rd], tys := [26, 26], res := [.c (.view []) .no] } := known_of 0 Try.func65 rfl rfl Try.func65 (by kernel_rfl)
/-- laws.eqNeed -/
@[simp] theorem pk_63 : E.pks 63 = some [.val, .val] := rfl
theorem kn_63 : Known env E Sg 63 { pms := [.rd, .rd], tys := [38, 38], res := [.c (.view []) .no] } := known_of 0 Try.func63 rfl rfl Try.func63 (by kernel_rfl)
/-- laws.eqNeedS -/
@[simp] theorem pk_23 : E.pks 23 = some [.val, .val] := rfl
theorem kn_23 : Known env E Sg 23 { pms := [.rd, .rd], tys := [29, 29], res := [.c (.view []) .no] } := known_of 0 Try.func23 rfl rfl Try.func23 (by kernel_rfl)
/-- laws.eqEntry -/
@[simp] theorem pk_34 : E.pks 34 = some [.val, .val] := rfl
theorem kn_34 : Known env E Sg 34 { pms := [.rd, .rd], tys := [31, 31], res := [.c (.view []) .no] } := known_of 0 Try.func34 rfl rfl Try.func34 (by kernel_rfl)
/-- laws.eqEntryS -/
@[simp] theorem pk_24 : E.pks 24 = some [.val, .val] := rfl
theorem kn_24 : Known env E Sg 24 { pms := [.rd, .rd], tys := [24, 24], res := [.c (.view []) .no] } := known_of 0 Try.func24 rfl rfl Try.func24 (by kernel_rfl)
/-- laws.markText -/
@[simp] theorem pk_64 : E.pks 64 = some [.val] := rfl
theorem kn_64 : Known env E Sg 64 { pms := [.rd], tys := [3], res := [.c (.view []) .no] } := known_of 0 Try.func64 rfl rfl Try.func64 (by kernel_rfl)
/-- laws.markNeedS -/
@[simp] theorem pk_26 : E.pks 26 = some [.mut, .val] := rfl
theorem kn_26 : Known env E Sg 26 { pms := [.mut (.own [.view [], .view [], .view [], .view [], .view []]), .rd], tys := [29, 3], res := [.c (.view []) .no] } := known_of 0 Try.func26 rfl rfl Try.func26 (by kernel_rfl)
/-- laws.markEntryS -/
@[simp] theorem pk_25 : E.pks 25 = some [.mut, .val] := rfl
theorem kn_25 : Known env E Sg 25 { pms := [.mut (.own [.view [], .view [], .view [], .view [], .view [], .own [.view [], .view [], .view [], .view [], .view []]]), .rd], tys := [24, 3], res := [.c (.view []) .no] } := known_of 0 Try.func25 rfl rfl Try.func25 (by kernel_rfl)
/-- laws.markEntry -/
@[simp] theorem pk_35 : E.pks 35 = some [.magg 2, .val] := rfl
theorem kn_35 : Known env E Sg 35 { pms := [.magg 2 [.view [], .view [], .view [], .view [], .view [], .own [.view [], .view [], .view [], .view [], .view []]], .rd], tys := [31, 3], res := [.c (.view []) .no] } := ⟨rfl, Try.f35, _, Try.func35, rfl, by decide, .inr ⟨rfl, Try.func35, .inr ⟨{ ty := 31, tk := 3, b := 2, k := 4, ms := [.view [], .view [], .view [], .view [], .view [], .own [.view [], .view [], .view [], .view [], .view []]], cv := .int .i64 0, hc := rfl, p0 := ⟨rfl, rfl, rfl⟩, p1 := ⟨rfl, rfl, rfl⟩, cvs := ⟨_, _, rfl⟩, ma := .step { t5 := 5, t6 := 6, t7 := 7, t8 := 8, ty := 31, f := 2, off := 5, ty' := 29, tk := 3, g := 26, cols := [.view [], .view [], .view [], .view [], .view []], sgg := { pms := [.mut (.own [.view [], .view [], .view [], .view [], .view []]), .rd], tys := [29, 3], res := [.c (.view []) .no] }, p1 := ⟨rfl, rfl, rfl⟩, p2 := ⟨rfl, rfl, rfl⟩, p3 := ⟨rfl, rfl, rfl⟩, p4 := ⟨rfl, rfl, rfl⟩, pc := ⟨rfl, rfl, rfl⟩, p5 := ⟨rfl, rfl, rfl⟩, h1 := ⟨rfl, rfl⟩, h2 := ⟨rfl, rfl⟩, h3 := rfl, h4 := ⟨rfl, rfl, rfl, rfl⟩, ne := rfl } (.fin ⟨rfl, rfl, rfl⟩ ⟨rfl, rfl, rfl⟩ rfl), hres := rfl, hsg := rfl, hek := ⟨rfl, rfl, rfl⟩, hp := rfl, ne := rfl }⟩⟩⟩
/-- laws.heldNeedS -/
@[simp] theorem pk_27 : E.pks 27 = some [.val, .val] := rfl
theorem kn_27 : Known env E Sg 27 { pms := [.rd, .rd], tys := [29, 3], res := [.c (.view []) .no] } := known_of 0 Try.func27 rfl rfl Try.func27 (by kernel_rfl)
/-- laws.heldEntry -/
@[simp] theorem pk_36 : E.pks 36 = some [.val, .val] := rfl
theorem kn_36 : Known env E Sg 36 { pms := [.rd, .rd], tys := [31, 3], res := [.c (.view []) .no] } := known_of 0 Try.func36 rfl rfl Try.func36 (by kernel_rfl)
/-- laws.FnExactFindEntry -/
@[simp] theorem pk_6 : E.pks 6 = some [.val, .val, .val] := rfl
theorem kn_6 : Known env E Sg 6 { pms := [.rd, .rd, .rd], tys := [39, 9, 53], res := [.c (.view []) .no] } := known_of 1 Try.func6 rfl rfl Try.func6 (by kernel_rfl)
/-- laws.szStringS -/
@[simp] theorem pk_66 : E.pks 66 = some [.val, .val] := rfl
theorem kn_66 : Known env E Sg 66 { pms := [.rd, .rd], tys := [59, 3], res := [.c (.view []) .no] } := known_of 0 Try.func66 rfl rfl Try.func66 (by kernel_rfl)
/-- laws.szHead -/
@[simp] theorem pk_95 : E.pks 95 = some [.val, .val] := rfl
theorem kn_95 : Known env E Sg 95 { pms := [.rd, .rd], tys := [130, 3], res := [.c (.view []) .no] } := known_of 0 Try.func95 rfl rfl Try.func95 (by kernel_rfl)
/-- laws.szHeadS -/
@[simp] theorem pk_67 : E.pks 67 = some [.val, .val] := rfl
theorem kn_67 : Known env E Sg 67 { pms := [.rd, .rd], tys := [60, 3], res := [.c (.view []) .no] } := known_of 0 Try.func67 rfl rfl Try.func67 (by kernel_rfl)
/-- laws.szLog -/
@[simp] theorem pk_117 : E.pks 117 = some [.val, .val] := rfl
theorem kn_117 : Known env E Sg 117 { pms := [.rd, .rd], tys := [133, 3], res := [.c (.view []) .no] } := known_of 0 Try.func117 rfl rfl Try.func117 (by kernel_rfl)
/-- laws.szByteS -/
@[simp] theorem pk_118 : E.pks 118 = some [.val, .val] := rfl
theorem kn_118 : Known env E Sg 118 { pms := [.rd, .rd], tys := [22, 3], res := [.c (.view []) .no] } := known_of 0 Try.func118 rfl rfl Try.func118 (by kernel_rfl)
/-- laws.szStore -/
@[simp] theorem pk_109 : E.pks 109 = some [.val, .val] := rfl
theorem kn_109 : Known env E Sg 109 { pms := [.rd, .rd], tys := [135, 3], res := [.c (.view []) .no] } := known_of 0 Try.func109 rfl rfl Try.func109 (by kernel_rfl)
/-- laws.szMirror -/
@[simp] theorem pk_96 : E.pks 96 = some [.val, .val] := rfl
theorem kn_96 : Known env E Sg 96 { pms := [.rd, .rd], tys := [137, 3], res := [.c (.view []) .no] } := known_of 0 Try.func96 rfl rfl Try.func96 (by kernel_rfl)
/-- laws.szMirrorS -/
@[simp] theorem pk_68 : E.pks 68 = some [.val, .val] := rfl
theorem kn_68 : Known env E Sg 68 { pms := [.rd, .rd], tys := [61, 3], res := [.c (.view []) .no] } := known_of 0 Try.func68 rfl rfl Try.func68 (by kernel_rfl)
/-- laws.szIntS -/
@[simp] theorem pk_69 : E.pks 69 = some [.val, .val] := rfl
theorem kn_69 : Known env E Sg 69 { pms := [.rd, .rd], tys := [62, 3], res := [.c (.view []) .no] } := known_of 0 Try.func69 rfl rfl Try.func69 (by kernel_rfl)
/-- laws.szMsg -/
@[simp] theorem pk_97 : E.pks 97 = some [.val, .val] := rfl
theorem kn_97 : Known env E Sg 97 { pms := [.rd, .rd], tys := [140, 3], res := [.c (.view []) .no] } := known_of 0 Try.func97 rfl rfl Try.func97 (by kernel_rfl)
/-- laws.szMsgS -/
@[simp] theorem pk_70 : E.pks 70 = some [.val, .val] := rfl
theorem kn_70 : Known env E Sg 70 { pms := [.rd, .rd], tys := [63, 3], res := [.c (.view []) .no] } := known_of 0 Try.func70 rfl rfl Try.func70 (by kernel_rfl)
/-- laws.szWorld -/
@[simp] theorem pk_37 : E.pks 37 = some [.val, .val] := rfl
theorem kn_37 : Known env E Sg 37 { pms := [.rd, .rd], tys := [65, 3], res := [.c (.view []) .no] } := known_of 0 Try.func37 rfl rfl Try.func37 (by kernel_rfl)
/-- laws.toStringS -/
@[simp] theorem pk_72 : E.pks 72 = some [.val] := rfl
theorem kn_72 : Known env E Sg 72 { pms := [.rd], tys := [59], res := [.c (.own [.view []]) .no] } := known_of 1 Try.func72 rfl rfl Try.func72 (by kernel_rfl)
/-- laws.toHead -/
@[simp] theorem pk_98 : E.pks 98 = some [.val] := rfl
theorem kn_98 : Known env E Sg 98 { pms := [.rd], tys := [130], res := [.agg [.view [], .view []] .no] } := known_of 0 Try.func98 rfl rfl Try.func98 (by kernel_rfl)
/-- laws.toHeadS -/
@[simp] theorem pk_73 : E.pks 73 = some [.val] := rfl
theorem kn_73 : Known env E Sg 73 { pms := [.rd], tys := [60], res := [.c (.own [.view [], .view []]) .no] } := known_of 1 Try.func73 rfl rfl Try.func73 (by kernel_rfl)
/-- laws.toLog -/
@[simp] theorem pk_119 : E.pks 119 = some [.val] := rfl
theorem kn_119 : Known env E Sg 119 { pms := [.rd], tys := [133], res := [.agg [.own [.view []], .view [], .view []] .no] } := known_of 1 Try.func119 rfl rfl Try.func119 (by kernel_rfl)
/-- laws.toByteS -/
@[simp] theorem pk_120 : E.pks 120 = some [.val] := rfl
theorem kn_120 : Known env E Sg 120 { pms := [.rd], tys := [22], res := [.c (.own [.view []]) .no] } := known_of 1 Try.func120 rfl rfl Try.func120 (by kernel_rfl)
/-- laws.toStore -/
@[simp] theorem pk_110 : E.pks 110 = some [.val] := rfl
theorem kn_110 : Known env E Sg 110 { pms := [.rd], tys := [135], res := [.agg [.own [.view []], .view [], .view [], .own [.view []], .view []] .no] } := known_of 1 Try.func110 rfl rfl Try.func110 (by kernel_rfl)
/-- laws.toMirror -/
@[simp] theorem pk_99 : E.pks 99 = some [.val] := rfl
theorem kn_99 : Known env E Sg 99 { pms := [.rd], tys := [137], res := [.agg [.view [], .own [.view []], .view [], .view [], .own [.view []], .view [], .view [], .view []] .no] } := known_of 1 Try.func99 rfl rfl Try.func99 (by kernel_rfl)
/-- laws.toMirrorS -/
@[simp] theorem pk_74 : E.pks 74 = some [.val] := rfl
theorem kn_74 : Known env E Sg 74 { pms := [.rd], tys := [61], res := [.c (.own [.view [], .own [.view []], .view [], .view [], .own [.view []], .view [], .view [], .view []]) .no] } := known_of 1 Try.func74 rfl rfl Try.func74 (by kernel_rfl)
/-- laws.toIntS -/
@[simp] theorem pk_75 : E.pks 75 = some [.val] := rfl
theorem kn_75 : Known env E Sg 75 { pms := [.rd], tys := [62], res := [.c (.own [.view []]) .no] } := known_of 1 Try.func75 rfl rfl Try.func75 (by kernel_rfl)
/-- laws.toMsg -/
@[simp] theorem pk_100 : E.pks 100 = some [.val] := rfl
theorem kn_100 : Known env E Sg 100 { pms := [.rd], tys := [140], res := [.agg [.view [], .view [], .view [], .view [], .view [], .view [], .own [.view []]] .no] } := known_of 1 Try.func100 rfl rfl Try.func100 (by kernel_rfl)
/-- laws.toMsgS -/
@[simp] theorem pk_76 : E.pks 76 = some [.val] := rfl
theorem kn_76 : Known env E Sg 76 { pms := [.rd], tys := [63], res := [.c (.own [.view [], .view [], .view [], .view [], .view [], .view [], .own [.view []]]) .no] } := known_of 1 Try.func76 rfl rfl Try.func76 (by kernel_rfl)
/-- laws.toWorld -/
@[simp] theorem pk_39 : E.pks 39 = some [.val] := rfl
theorem kn_39 : Known env E Sg 39 { pms := [.rd], tys := [65], res := [.agg [.own [.view []], .own [.view [], .view []], .own [.view [], .own [.view []], .view [], .view [], .own [.view []], .view [], .view [], .view []], .own [.view []], .own [.view [], .view [], .view [], .view [], .view [], .view [], .own [.view []]]] .no] } := known_of 1 Try.func39 rfl rfl Try.func39 (by kernel_rfl)
/-- spec.Fork -/
@[simp] theorem pk_71 : E.pks 71 = some [.val] := rfl
theorem kn_71 : Known env E Sg 71 { pms := [.rd], tys := [68], res := [.agg [.view [], .view []] .no, .agg [.view [], .view []] .no, .c (.view []) .no] } := known_of 0 Try.func71 rfl rfl Try.func71 (by kernel_rfl)
/-- spec.NoFork -/
@[simp] theorem pk_38 : E.pks 38 = some [.val] := rfl
theorem kn_38 : Known env E Sg 38 { pms := [.rd], tys := [72], res := [.c (.view []) .no] } := known_of 0 Try.func38 rfl rfl Try.func38 (by kernel_rfl)
/-- impl.Fork -/
@[simp] theorem pk_77 : E.pks 77 = some [.val] := rfl
theorem kn_77 : Known env E Sg 77 { pms := [.rd], tys := [68], res := [.agg [.view [], .view []] .no, .agg [.view [], .view []] .no, .c (.view []) .no] } := known_of 0 Try.func77 rfl rfl Try.func77 (by kernel_rfl)
/-- impl.NoFork -/
@[simp] theorem pk_40 : E.pks 40 = some [.val] := rfl
theorem kn_40 : Known env E Sg 40 { pms := [.rd], tys := [72], res := [.c (.view []) .no] } := known_of 0 Try.func40 rfl rfl Try.func40 (by kernel_rfl)
/-- laws.eqStringS -/
@[simp] theorem pk_78 : E.pks 78 = some [.val, .val] := rfl
theorem kn_78 : Known env E Sg 78 { pms := [.rd, .rd], tys := [59, 59], res := [.c (.view []) .no] } := known_of 0 Try.func78 rfl rfl Try.func78 (by kernel_rfl)
/-- laws.eqHead -/
@[simp] theorem pk_101 : E.pks 101 = some [.val, .val] := rfl
theorem kn_101 : Known env E Sg 101 { pms := [.rd, .rd], tys := [101, 101], res := [.c (.view []) .no] } := known_of 0 Try.func101 rfl rfl Try.func101 (by kernel_rfl)
/-- laws.eqHeadS -/
@[simp] theorem pk_79 : E.pks 79 = some [.val, .val] := rfl
theorem kn_79 : Known env E Sg 79 { pms := [.rd, .rd], tys := [68, 68], res := [.c (.view []) .no] } := known_of 0 Try.func79 rfl rfl Try.func79 (by kernel_rfl)
/-- laws.eqLog -/
@[simp] theorem pk_121 : E.pks 121 = some [.val, .val] := rfl
theorem kn_121 : Known env E Sg 121 { pms := [.rd, .rd], tys := [115, 115], res := [.c (.view []) .no] } := known_of 0 Try.func121 rfl rfl Try.func121 (by kernel_rfl)
/-- laws.eqByteS -/
@[simp] theorem pk_122 : E.pks 122 = some [.val, .val] := rfl
theorem kn_122 : Known env E Sg 122 { pms := [.rd, .rd], tys := [22, 22], res := [.c (.view []) .no] } := known_of 0 Try.func122 rfl rfl Try.func122 (by kernel_rfl)
/-- laws.eqStore -/
@[simp] theorem pk_111 : E.pks 111 = some [.val, .val] := rfl
theorem kn_111 : Known env E Sg 111 { pms := [.rd, .rd], tys := [117, 117], res := [.c (.view []) .no] } := known_of 0 Try.func111 rfl rfl Try.func111 (by kernel_rfl)
/-- laws.eqMirror -/
@[simp] theorem pk_102 : E.pks 102 = some [.val, .val] := rfl
theorem kn_102 : Known env E Sg 102 { pms := [.rd, .rd], tys := [119, 119], res := [.c (.view []) .no] } := known_of 0 Try.func102 rfl rfl Try.func102 (by kernel_rfl)
/-- laws.eqMirrorS -/
@[simp] theorem pk_80 : E.pks 80 = some [.val, .val] := rfl
theorem kn_80 : Known env E Sg 80 { pms := [.rd, .rd], tys := [69, 69], res := [.c (.view []) .no] } := known_of 0 Try.func80 rfl rfl Try.func80 (by kernel_rfl)
/-- laws.eqIntS -/
@[simp] theorem pk_81 : E.pks 81 = some [.val, .val] := rfl
theorem kn_81 : Known env E Sg 81 { pms := [.rd, .rd], tys := [62, 62], res := [.c (.view []) .no] } := known_of 0 Try.func81 rfl rfl Try.func81 (by kernel_rfl)
/-- laws.eqMsg -/
@[simp] theorem pk_103 : E.pks 103 = some [.val, .val] := rfl
theorem kn_103 : Known env E Sg 103 { pms := [.rd, .rd], tys := [144, 144], res := [.c (.view []) .no] } := known_of 0 Try.func103 rfl rfl Try.func103 (by kernel_rfl)
/-- laws.eqMsgS -/
@[simp] theorem pk_82 : E.pks 82 = some [.val, .val] := rfl
theorem kn_82 : Known env E Sg 82 { pms := [.rd, .rd], tys := [70, 70], res := [.c (.view []) .no] } := known_of 0 Try.func82 rfl rfl Try.func82 (by kernel_rfl)
/-- laws.eqWorld -/
@[simp] theorem pk_41 : E.pks 41 = some [.val, .val] := rfl
theorem kn_41 : Known env E Sg 41 { pms := [.rd, .rd], tys := [72, 72], res := [.c (.view []) .no] } := known_of 0 Try.func41 rfl rfl Try.func41 (by kernel_rfl)
/-- laws.FnExactNoFork -/
@[simp] theorem pk_7 : E.pks 7 = some [.val] := rfl
theorem kn_7 : Known env E Sg 7 { pms := [.rd], tys := [65], res := [.c (.view []) .no] } := known_of 0 Try.func7 rfl rfl Try.func7 (by kernel_rfl)
/-- laws.eqVersionS -/
@[simp] theorem pk_29 : E.pks 29 = some [.val, .val] := rfl
theorem kn_29 : Known env E Sg 29 { pms := [.rd, .rd], tys := [34, 34], res := [.c (.view []) .no] } := known_of 0 Try.func29 rfl rfl Try.func29 (by kernel_rfl)
theorem kn : ∀ f sg, Sg f = some sg → Known env E Sg f sg := by
  refine known_all sgs ?_
  intro q hq
  simp only [sgs, List.mem_cons, List.not_mem_nil, or_false] at hq
  rcases hq with rfl | rfl | rfl | rfl | rfl | rfl | rfl | rfl | rfl | rfl | rfl | rfl | rfl | rfl | rfl | rfl | rfl | rfl | rfl | rfl | rfl | rfl | rfl | rfl | rfl | rfl | rfl | rfl | rfl | rfl | rfl | rfl | rfl | rfl | rfl | rfl | rfl | rfl | rfl | rfl | rfl | rfl | rfl | rfl | rfl | rfl | rfl | rfl | rfl | rfl | rfl | rfl | rfl | rfl | rfl | rfl | rfl | rfl | rfl | rfl | rfl | rfl | rfl | rfl | rfl | rfl | rfl | rfl | rfl | rfl | rfl
  · exact kn_32
  · exact kn_60
  · exact kn_19
  · exact kn_59
  · exact kn_18
  · exact kn_33
  · exact kn_62
  · exact kn_22
  · exact kn_61
  · exact kn_21
  · exact kn_57
  · exact kn_58
  · exact kn_15
  · exact kn_55
  · exact kn_94
  · exact kn_56
  · exact kn_14
  · exact kn_65
  · exact kn_63
  · exact kn_23
  · exact kn_34
  · exact kn_24
  · exact kn_64
  · exact kn_26
  · exact kn_25
  · exact kn_35
  · exact kn_27
  · exact kn_36
  · exact kn_6
  · exact kn_66
  · exact kn_95
  · exact kn_67
  · exact kn_117
  · exact kn_118
  · exact kn_109
  · exact kn_96
  · exact kn_68
  · exact kn_69
  · exact kn_97
  · exact kn_70
  · exact kn_37
  · exact kn_72
  · exact kn_98
  · exact kn_73
  · exact kn_119
  · exact kn_120
  · exact kn_110
  · exact kn_99
  · exact kn_74
  · exact kn_75
  · exact kn_100
  · exact kn_76
  · exact kn_39
  · exact kn_71
  · exact kn_38
  · exact kn_77
  · exact kn_40
  · exact kn_78
  · exact kn_101
  · exact kn_79
  · exact kn_121
  · exact kn_122
  · exact kn_111
  · exact kn_102
  · exact kn_80
  · exact kn_81
  · exact kn_103
  · exact kn_82
  · exact kn_41
  · exact kn_7
  · exact kn_29
/-- What a checked function does. -/
theorem does {f : Nat} {sg : Sig} (h : Sg f = some sg) (k : Nat) : Does env f sg (evF E k f) := does_all rfl kn k f sg h
end Go.Proofs.Ytfgaikcoodagiaa

/- Functions that were checked. -/
import Derived.Test.YtfgaikcoodagiaaS1
import Derived.Test.YtfgaikcoodagiaaEv5
set_option linter.all false
namespace Go.Proofs.Ytfgaikcoodagiaa
open Go.Ev
set_option maxRecDepth 20000
def sgs : List (Nat × Sig) := [
  (12, { pms := [.rd], tys := [22], res := [.c (.view []) .no] }),
  (50, { pms := [.rd], tys := [22], res := [.box [.view [.arg 0], .view [], .view []]] }),
  (90, { pms := [.ptr [.view [.arg 0], .view [], .view []] [.view [.arg 0], .view [], .view []]], tys := [76], res := [.c (.view []) .no] }),
  (53, { pms := [.ptr [.view [.arg 0], .view [], .view []] [.view [.arg 0], .view [], .view []], .rd], tys := [76, 3], res := [.c (.view []) .no] }),
  (105, { pms := [.ptr [.view [.arg 0], .view [], .view []] [.view [.arg 0], .view [], .view []], .rd], tys := [76, 59], res := [.c (.view []) .no] }),
  (91, { pms := [.ptr [.view [.arg 0], .view [], .view []] [.view [.arg 0], .view [], .view []]], tys := [76], res := [.c (.view []) .no] }),
  (106, { pms := [.ptr [.view [.arg 0], .view [], .view []] [.view [.arg 0], .view [], .view []], .rd], tys := [76, 62], res := [.c (.view []) .no] }),
  (92, { pms := [.ptr [.view [.arg 0], .view [], .view []] [.view [.arg 0], .view [], .view []]], tys := [76], res := [.agg [.view [], .view [], .view [], .view []] .no] }),
  (113, { pms := [.rd, .rd], tys := [9, 5], res := [.c (.own [.view []]) .no] }),
  (116, { pms := [.rd, .rd, .rd], tys := [3, 3, 3], res := [.c (.view []) .no] }),
  (114, { pms := [.rd], tys := [9], res := [.c (.view []) .no] }),
  (107, { pms := [.rd], tys := [9], res := [.c (.view []) .no] }),
  (123, { pms := [.rd], tys := [9], res := [.c (.view []) .no] }),
  (115, { pms := [.rd], tys := [9], res := [.c (.view []) .no] }),
  (108, { pms := [.rd], tys := [9], res := [.c (.view []) .no] }),
  (93, { pms := [.rd], tys := [9], res := [.c (.view []) .no] }),
  (52, { pms := [.ptr [.view [.arg 0], .view [], .view []] [.view [.arg 0], .view [], .view []], .rd], tys := [76, 3], res := [.c (.view []) .no] }),
  (54, { pms := [.ptr [.view [.arg 0], .view [], .view []] [.view [.arg 0], .view [], .view []]], tys := [76], res := [.agg [.view [], .view [], .view [], .view [], .view []] .no] }),
  (89, { pms := [.rd, .rd], tys := [29, 38], res := [.c (.own [.view [], .view [], .view [], .view [], .view []]) .no] }),
  (57, { pms := [.rd, .rd, .rd], tys := [24, 9, 26], res := [.c (.view []) .no] }),
  (51, { pms := [.ptr [.view [.arg 0], .view [], .view []] [.view [.arg 0], .view [], .view []]], tys := [76], res := [.c (.view []) .no] }),
  (13, { pms := [.rd], tys := [22], res := [.c (.view []) .no, .c (.view []) .no, .agg [.view [], .view [], .view [], .view []] .no] }),
  (55, { pms := [.rd, .rd, .rd], tys := [24, 9, 26], res := [.c (.view []) .no] }),
  (94, { pms := [.rd], tys := [29], res := [.c (.own [.view [], .view [], .view [], .view [], .view []]) .no] }),
  (56, { pms := [.rd], tys := [31], res := [.agg [.view [], .view [], .view [], .view [], .view [], .own [.view [], .view [], .view [], .view [], .view []]] .no] }),
  (14, { pms := [.rd, .rd, .rd], tys := [24, 9, 26], res := [.agg [.view [], .view [], .view [], .view [], .view [], .own [.view [], .view [], .view [], .view [], .view []]] .no, .c (.view []) .no] }),
  (58, { pms := [.rd], tys := [31], res := [.agg [.view [], .view [], .view [], .view [], .view [], .own [.view [], .view [], .view [], .view [], .view []]] .no] }),
  (15, { pms := [.rd, .rd, .rd], tys := [24, 9, 26], res := [.agg [.view [], .view [], .view [], .view [], .view [], .own [.view [], .view [], .view [], .view [], .view []]] .no, .c (.view []) .no] }),
  (16, { pms := [.rd, .rd], tys := [24, 9], res := [.c (.own [.view [], .view [], .view [], .view []]) .no] }),
  (17, { pms := [.rd, .rd], tys := [24, 29], res := [.c (.own [.view [], .view [], .view [], .view [], .view []]) .no] }),
  (3, { pms := [.rd], tys := [22], res := [.c (.view []) .no] }),
  (32, { pms := [.rd, .rd], tys := [53, 3], res := [.c (.view []) .no] }),
  (60, { pms := [.rd, .rd], tys := [89, 3], res := [.c (.view []) .no] }),
  (19, { pms := [.rd, .rd], tys := [40, 3], res := [.c (.view []) .no] }),
  (59, { pms := [.rd, .rd], tys := [86, 3], res := [.c (.view []) .no] }),
  (18, { pms := [.rd, .rd], tys := [39, 3], res := [.c (.view []) .no] }),
  (33, { pms := [.rd], tys := [53], res := [.agg [.view [], .view [], .view [], .view []] .no] }),
  (62, { pms := [.rd], tys := [89], res := [.agg [.view [], .view [], .view [], .view [], .view []] .no] }),
  (22, { pms := [.rd], tys := [40], res := [.c (.own [.view [], .view [], .view [], .view [], .view []]) .no] }),
  (61, { pms := [.rd], tys := [86], res := [.agg [.view [], .view [], .view [], .view [], .view [], .own [.view [], .view [], .view [], .view [], .view []]] .no] }),
  (21, { pms := [.rd], tys := [39], res := [.c (.own [.view [], .view [], .view [], .view [], .view [], .own [.view [], .view [], .view [], .view [], .view []]]) .no] }),
  (20, { pms := [.rd, .rd], tys := [24, 29], res := [.c (.own [.view [], .view [], .view [], .view [], .view []]) .no] }),
  (65, { pms := [.rd, .rd], tys := [26, 26], res := [.c (.view []) .no] }),
  (63, { pms := [.rd, .rd], tys := [38, 38], res := [.c (.view []) .no] }),
  (23, { pms := [.rd, .rd], tys := [29, 29], res := [.c (.view []) .no] }),
  (34, { pms := [.rd, .rd], tys := [31, 31], res := [.c (.view []) .no] }),
  (24, { pms := [.rd, .rd], tys := [24, 24], res := [.c (.view []) .no] }),
  (64, { pms := [.rd], tys := [3], res := [.c (.view []) .no] }),
  (26, { pms := [.mut (.own [.view [], .view [], .view [], .view [], .view []]), .rd], tys := [29, 3], res := [.c (.view []) .no] }),
  (25, { pms := [.mut (.own [.view [], .view [], .view [], .view [], .view [], .own [.view [], .view [], .view [], .view [], .view []]]), .rd], tys := [24, 3], res := [.c (.view []) .no] }),
  (27, { pms := [.rd, .rd], tys := [29, 3], res := [.c (.view []) .no] }),
  (4, { pms := [.rd, .rd], tys := [39, 40], res := [.c (.view []) .no] }),
  (28, { pms := [.rd, .rd], tys := [24, 9], res := [.c (.own [.view [], .view [], .view [], .view []]) .no] }),
  (29, { pms := [.rd, .rd], tys := [34, 34], res := [.c (.view []) .no] }),
  (30, { pms := [.mut (.own [.view [], .view [], .view [], .view []]), .rd], tys := [34, 3], res := [.c (.view []) .no] }),
  (31, { pms := [.rd, .rd], tys := [34, 3], res := [.c (.view []) .no] }),
  (5, { pms := [.rd, .rd], tys := [39, 9], res := [.c (.view []) .no] })]
def Sg (f : Nat) : Option Sig := sgOf sgs f
noncomputable def E : Prog := ⟨tab, fun f => Try.prog.funcs[f]?, fun f => (Sg f).map fun s => s.pms.map PM.pk, fun f => if f = 94 then some (cloneF 5 56 [.zs, .zi .i64, .zi .i64, .zi .i64, .zs]) else none⟩
@[simp] theorem E_τ : E.τ = tab := rfl
/-- laws.big -/
@[simp] theorem pk_12 : E.pks 12 = some [.val] := rfl
theorem kn_12 : Known env E Sg 12 { pms := [.rd], tys := [22], res := [.c (.view []) .no] } := known_of 0 Try.func12 rfl rfl Try.func12 (by kernel_rfl)
/-- spec.l1New -/
@[simp] theorem pk_50 : E.pks 50 = some [.val] := rfl
theorem kn_50 : Known env E Sg 50 { pms := [.rd], tys := [22], res := [.box [.view [.arg 0], .view [], .view []]] } := known_of 0 Try.func50 rfl rfl Try.func50 (by kernel_rfl)
/-- spec.l1Byte -/
@[simp] theorem pk_90 : E.pks 90 = some [.ptr 3] := rfl
theorem kn_90 : Known env E Sg 90 { pms := [.ptr [.view [.arg 0], .view [], .view []] [.view [.arg 0], .view [], .view []]], tys := [76], res := [.c (.view []) .no] } := known_of 0 Try.func90 rfl rfl Try.func90 (by kernel_rfl)
/-- spec.l1Below -/
@[simp] theorem pk_53 : E.pks 53 = some [.ptr 3, .val] := rfl
theorem kn_53 : Known env E Sg 53 { pms := [.ptr [.view [.arg 0], .view [], .view []] [.view [.arg 0], .view [], .view []], .rd], tys := [76, 3], res := [.c (.view []) .no] } := known_of 0 Try.func53 rfl rfl Try.func53 (by kernel_rfl)
/-- spec.l1Str -/
@[simp] theorem pk_105 : E.pks 105 = some [.ptr 3, .val] := rfl
theorem kn_105 : Known env E Sg 105 { pms := [.ptr [.view [.arg 0], .view [], .view []] [.view [.arg 0], .view [], .view []], .rd], tys := [76, 59], res := [.c (.view []) .no] } := known_of 0 Try.func105 rfl rfl Try.func105 (by kernel_rfl)
/-- spec.l4Path -/
@[simp] theorem pk_91 : E.pks 91 = some [.ptr 3] := rfl
theorem kn_91 : Known env E Sg 91 { pms := [.ptr [.view [.arg 0], .view [], .view []] [.view [.arg 0], .view [], .view []]], tys := [76], res := [.c (.view []) .no] } := known_of 0 Try.func91 rfl rfl Try.func91 (by kernel_rfl)
/-- spec.l1Int -/
@[simp] theorem pk_106 : E.pks 106 = some [.ptr 3, .val] := rfl
theorem kn_106 : Known env E Sg 106 { pms := [.ptr [.view [.arg 0], .view [], .view []] [.view [.arg 0], .view [], .view []], .rd], tys := [76, 62], res := [.c (.view []) .no] } := known_of 0 Try.func106 rfl rfl Try.func106 (by kernel_rfl)
/-- spec.l3Draw -/
@[simp] theorem pk_92 : E.pks 92 = some [.ptr 3] := rfl
theorem kn_92 : Known env E Sg 92 { pms := [.ptr [.view [.arg 0], .view [], .view []] [.view [.arg 0], .view [], .view []]], tys := [76], res := [.agg [.view [], .view [], .view [], .view []] .no] } := known_of 0 Try.func92 rfl rfl Try.func92 (by kernel_rfl)
/-- spec.l3Split -/
@[simp] theorem pk_113 : E.pks 113 = some [.val, .val] := rfl
theorem kn_113 : Known env E Sg 113 { pms := [.rd, .rd], tys := [9, 5], res := [.c (.own [.view []]) .no] } := known_of 1 Try.func113 rfl rfl Try.func113 (by kernel_rfl)
/-- spec.l1In -/
@[simp] theorem pk_116 : E.pks 116 = some [.val, .val, .val] := rfl
theorem kn_116 : Known env E Sg 116 { pms := [.rd, .rd, .rd], tys := [3, 3, 3], res := [.c (.view []) .no] } := known_of 0 Try.func116 rfl rfl Try.func116 (by kernel_rfl)
/-- spec.l4Part -/
@[simp] theorem pk_114 : E.pks 114 = some [.val] := rfl
theorem kn_114 : Known env E Sg 114 { pms := [.rd], tys := [9], res := [.c (.view []) .no] } := known_of 0 Try.func114 rfl rfl Try.func114 (by kernel_rfl)
/-- spec.PathOk -/
@[simp] theorem pk_107 : E.pks 107 = some [.val] := rfl
theorem kn_107 : Known env E Sg 107 { pms := [.rd], tys := [9], res := [.c (.view []) .no] } := known_of 0 Try.func107 rfl rfl Try.func107 (by kernel_rfl)
/-- spec.l3Digits -/
@[simp] theorem pk_123 : E.pks 123 = some [.val] := rfl
theorem kn_123 : Known env E Sg 123 { pms := [.rd], tys := [9], res := [.c (.view []) .no] } := known_of 0 Try.func123 rfl rfl Try.func123 (by kernel_rfl)
/-- spec.l3Number -/
@[simp] theorem pk_115 : E.pks 115 = some [.val] := rfl
theorem kn_115 : Known env E Sg 115 { pms := [.rd], tys := [9], res := [.c (.view []) .no] } := known_of 0 Try.func115 rfl rfl Try.func115 (by kernel_rfl)
/-- spec.l4Major -/
@[simp] theorem pk_108 : E.pks 108 = some [.val] := rfl
theorem kn_108 : Known env E Sg 108 { pms := [.rd], tys := [9], res := [.c (.view []) .no] } := known_of 0 Try.func108 rfl rfl Try.func108 (by kernel_rfl)
/-- spec.MajorOf -/
@[simp] theorem pk_93 : E.pks 93 = some [.val] := rfl
theorem kn_93 : Known env E Sg 93 { pms := [.rd], tys := [9], res := [.c (.view []) .no] } := known_of 0 Try.func93 rfl rfl Try.func93 (by kernel_rfl)
/-- spec.l1Once -/
@[simp] theorem pk_52 : E.pks 52 = some [.ptr 3, .val] := rfl
theorem kn_52 : Known env E Sg 52 { pms := [.ptr [.view [.arg 0], .view [], .view []] [.view [.arg 0], .view [], .view []], .rd], tys := [76, 3], res := [.c (.view []) .no] } := known_of 0 Try.func52 rfl rfl Try.func52 (by kernel_rfl)
/-- spec.l5Need -/
@[simp] theorem pk_54 : E.pks 54 = some [.ptr 3] := rfl
theorem kn_54 : Known env E Sg 54 { pms := [.ptr [.view [.arg 0], .view [], .view []] [.view [.arg 0], .view [], .view []]], tys := [76], res := [.agg [.view [], .view [], .view [], .view [], .view []] .no] } := known_of 0 Try.func54 rfl rfl Try.func54 (by kernel_rfl)
/-- spec.l5Put -/
@[simp] theorem pk_89 : E.pks 89 = some [.val, .val] := rfl
theorem kn_89 : Known env E Sg 89 { pms := [.rd, .rd], tys := [29, 38], res := [.c (.own [.view [], .view [], .view [], .view [], .view []]) .no] } := known_of 1 Try.func89 rfl rfl Try.func89 (by kernel_rfl)
/-- spec.l15At -/
@[simp] theorem pk_57 : E.pks 57 = some [.val, .val, .val] := rfl
theorem kn_57 : Known env E Sg 57 { pms := [.rd, .rd, .rd], tys := [24, 9, 26], res := [.c (.view []) .no] } := known_of 0 Try.func57 rfl rfl Try.func57 (by kernel_rfl)
/-- spec.l15Draw -/
@[simp] theorem pk_51 : E.pks 51 = some [.ptr 3] := rfl
theorem kn_51 : Known env E Sg 51 { pms := [.ptr [.view [.arg 0], .view [], .view []] [.view [.arg 0], .view [], .view []]], tys := [76], res := [.c (.view []) .no] } := known_of 0 Try.func51 rfl rfl Try.func51 (by kernel_rfl)
/-- spec.DrawFindEntry -/
@[simp] theorem pk_13 : E.pks 13 = some [.val] := rfl
theorem kn_13 : Known env E Sg 13 { pms := [.rd], tys := [22], res := [.c (.view []) .no, .c (.view []) .no, .agg [.view [], .view [], .view [], .view []] .no] } := known_of 0 Try.func13 rfl rfl Try.func13 (by kernel_rfl)
/-- impl.findEntry -/
@[simp] theorem pk_55 : E.pks 55 = some [.val, .val, .val] := rfl
theorem kn_55 : Known env E Sg 55 { pms := [.rd, .rd, .rd], tys := [24, 9, 26], res := [.c (.view []) .no] } := known_of 0 Try.func55 rfl rfl Try.func55 (by kernel_rfl)
/-- slices.Clone[[]impl.Need,impl.Need] -/
@[simp] theorem pk_94 : E.pks 94 = some [.val] := rfl
theorem cl_94 : Does env 94 { pms := [.rd], tys := [29], res := [.c (.own [.view [], .view [], .view [], .view [], .view []]) .no] } (cloneF 5 56 [.zs, .zi .i64, .zi .i64, .zi .i64, .zs]) :=
  does_clone (X := ⟨tab, fun _ => none, 8, polG tab (tkF 1 Try.f94) false⟩) (et := 38) rfl rfl (by decide) ⟨rfl, rfl, rfl⟩ ⟨rfl, rfl, rfl⟩ ⟨⟨_, rfl⟩, rfl, rfl⟩ ⟨rfl, rfl, rfl⟩ rfl rfl rfl rfl rfl rfl rfl rfl (fun _ => rfl) (by kernel_rfl)
    (fun rows hr => clone_ev (τ := tab) rfl (by
      obtain ⟨h1, h2, h3⟩ := hr
      have h3 := List.all_eq_true.1 h3
      simp [h1, h2]
      exact h3))
theorem kn_94 : Known env E Sg 94 { pms := [.rd], tys := [29], res := [.c (.own [.view [], .view [], .view [], .view [], .view []]) .no] } := ⟨rfl, _, _, Try.func94, rfl, by decide, .inl ⟨_, rfl, cl_94⟩⟩
@[simp] theorem c_clone_94 {rows : List (List D)} {K : List X → List X → Prop} (h1 : rows.length * 56 ≤ memRoom) (h2 : rows.length ≤ strRoom) (h3 : rows.all (fits [.zs, .zi .i64, .zi .i64, .zi .i64, .zs]) = true) : callK E 94 [.d (.sl 5 rows) none] K = K [.d (.sl 5 rows) none] [.u] := callK_of (prim_runs rfl (cloneF_eq h1 h2 h3))
/-- impl.copyEntry -/
@[simp] theorem pk_56 : E.pks 56 = some [.val] := rfl
theorem kn_56 : Known env E Sg 56 { pms := [.rd], tys := [31], res := [.agg [.view [], .view [], .view [], .view [], .view [], .own [.view [], .view [], .view [], .view [], .view []]] .no] } := known_of 1 Try.func56 rfl rfl Try.func56 (by kernel_rfl)
/-- impl.FindEntry -/
@[simp] theorem pk_14 : E.pks 14 = some [.val, .val, .val] := rfl
theorem kn_14 : Known env E Sg 14 { pms := [.rd, .rd, .rd], tys := [24, 9, 26], res := [.agg [.view [], .view [], .view [], .view [], .view [], .own [.view [], .view [], .view [], .view [], .view []]] .no, .c (.view []) .no] } := known_of 1 Try.func14 rfl rfl Try.func14 (by kernel_rfl)
/-- spec.l15Copy -/
@[simp] theorem pk_58 : E.pks 58 = some [.val] := rfl
theorem kn_58 : Known env E Sg 58 { pms := [.rd], tys := [31], res := [.agg [.view [], .view [], .view [], .view [], .view [], .own [.view [], .view [], .view [], .view [], .view []]] .no] } := known_of 1 Try.func58 rfl rfl Try.func58 (by kernel_rfl)
/-- spec.FindEntry -/
@[simp] theorem pk_15 : E.pks 15 = some [.val, .val, .val] := rfl
theorem kn_15 : Known env E Sg 15 { pms := [.rd, .rd, .rd], tys := [24, 9, 26], res := [.agg [.view [], .view [], .view [], .view [], .view [], .own [.view [], .view [], .view [], .view [], .view []]] .no, .c (.view []) .no] } := known_of 1 Try.func15 rfl rfl Try.func15 (by kernel_rfl)
/-- impl.VersionsOf -/
@[simp] theorem pk_16 : E.pks 16 = some [.val, .val] := rfl
theorem kn_16 : Known env E Sg 16 { pms := [.rd, .rd], tys := [24, 9], res := [.c (.own [.view [], .view [], .view [], .view []]) .no] } := known_of 1 Try.func16 rfl rfl Try.func16 (by kernel_rfl)
/-- impl.Lacking -/
@[simp] theorem pk_17 : E.pks 17 = some [.val, .val] := rfl
theorem kn_17 : Known env E Sg 17 { pms := [.rd, .rd], tys := [24, 29], res := [.c (.own [.view [], .view [], .view [], .view [], .view []]) .no] } := known_of 1 Try.func17 rfl rfl Try.func17 (by kernel_rfl)
/-- laws.FnFound -/
@[simp] theorem pk_3 : E.pks 3 = some [.val] := rfl
theorem kn_3 : Known env E Sg 3 { pms := [.rd], tys := [22], res := [.c (.view []) .no] } := known_of 0 Try.func3 rfl rfl Try.func3 (by kernel_rfl)
/-- laws.szVersion -/
@[simp] theorem pk_32 : E.pks 32 = some [.val, .val] := rfl
theorem kn_32 : Known env E Sg 32 { pms := [.rd, .rd], tys := [53, 3], res := [.c (.view []) .no] } := known_of 0 Try.func32 rfl rfl Try.func32 (by kernel_rfl)
/-- laws.szNeed -/
@[simp] theorem pk_60 : E.pks 60 = some [.val, .val] := rfl
theorem kn_60 : Known env E Sg 60 { pms := [.rd, .rd], tys := [89, 3], res := [.c (.view []) .no] } := known_of 0 Try.func60 rfl rfl Try.func60 (by kernel_rfl)
/-- laws.szNeedS -/
@[simp] theorem pk_19 : E.pks 19 = some [.val, .val] := rfl
theorem kn_19 : Known env E Sg 19 { pms := [.rd, .rd], tys := [40, 3], res := [.c (.view []) .no] } := known_of 0 Try.func19 rfl rfl Try.func19 (by kernel_rfl)
/-- laws.szEntry -/
@[simp] theorem pk_59 : E.pks 59 = some [.val, .val] := rfl
theorem kn_59 : Known env E Sg 59 { pms := [.rd, .rd], tys := [86, 3], res := [.c (.view []) .no] } := known_of 0 Try.func59 rfl rfl Try.func59 (by kernel_rfl)
/-- laws.szEntryS -/
@[simp] theorem pk_18 : E.pks 18 = some [.val, .val] := rfl
theorem kn_18 : Known env E Sg 18 { pms := [.rd, .rd], tys := [39, 3], res := [.c (.view []) .no] } := known_of 0 Try.func18 rfl rfl Try.func18 (by kernel_rfl)
/-- laws.toVersion -/
@[simp] theorem pk_33 : E.pks 33 = some [.val] := rfl
theorem kn_33 : Known env E Sg 33 { pms := [.rd], tys := [53], res := [.agg [.view [], .view [], .view [], .view []] .no] } := known_of 0 Try.func33 rfl rfl Try.func33 (by kernel_rfl)
/-- laws.toNeed -/
@[simp] theorem pk_62 : E.pks 62 = some [.val] := rfl
theorem kn_62 : Known env E Sg 62 { pms := [.rd], tys := [89], res := [.agg [.view [], .view [], .view [], .view [], .view []] .no] } := known_of 0 Try.func62 rfl rfl Try.func62 (by kernel_rfl)
/-- laws.toNeedS -/
@[simp] theorem pk_22 : E.pks 22 = some [.val] := rfl
theorem kn_22 : Known env E Sg 22 { pms := [.rd], tys := [40], res := [.c (.own [.view [], .view [], .view [], .view [], .view []]) .no] } := known_of 1 Try.func22 rfl rfl Try.func22 (by kernel_rfl)
/-- laws.toEntry -/
@[simp] theorem pk_61 : E.pks 61 = some [.val] := rfl
theorem kn_61 : Known env E Sg 61 { pms := [.rd], tys := [86], res := [.agg [.view [], .view [], .view [], .view [], .view [], .own [.view [], .view [], .view [], .view [], .view []]] .no] } := known_of 1 Try.func61 rfl rfl Try.func61 (by kernel_rfl)
/-- laws.toEntryS -/
@[simp] theorem pk_21 : E.pks 21 = some [.val] := rfl
theorem kn_21 : Known env E Sg 21 { pms := [.rd], tys := [39], res := [.c (.own [.view [], .view [], .view [], .view [], .view [], .own [.view [], .view [], .view [], .view [], .view []]]) .no] } := known_of 1 Try.func21 rfl rfl Try.func21 (by kernel_rfl)
/-- spec.Lacking -/
@[simp] theorem pk_20 : E.pks 20 = some [.val, .val] := rfl
theorem kn_20 : Known env E Sg 20 { pms := [.rd, .rd], tys := [24, 29], res := [.c (.own [.view [], .view [], .view [], .view [], .view []]) .no] } := known_of 1 Try.func20 rfl rfl Try.func20 (by kernel_rfl)
/-- laws.eqVersion -/
@[simp] theorem pk_65 : E.pks 65 = some [.val, .val] := rfl
theorem kn_65 : Known env E Sg 65 { pms := [.rd, .rd], tys := [26, 26], res := [.c (.view []) .no] } := known_of 0 Try.func65 rfl rfl Try.func65 (by kernel_rfl)
/-- laws.eqNeed -/
@[simp] theorem pk_63 : E.pks 63 = some [.val, .val] := rfl
theorem kn_63 : Known env E Sg 63 { pms := [.rd, .rd], tys := [38, 38], res := [.c (.view []) .no] } := known_of 0 Try.func63 rfl rfl Try.func63 (by kernel_rfl)
/-- laws.eqNeedS -/
@[simp] theorem pk_23 : E.pks 23 = some [.val, .val] := rfl
theorem kn_23 : Known env E Sg 23 { pms := [.rd, .rd], tys := [29, 29], res := [.c (.view []) .no] } := known_of 0 Try.func23 rfl rfl Try.func23 (by kernel_rfl)
/-- laws.eqEntry -/
@[simp] theorem pk_34 : E.pks 34 = some [.val, .val] := rfl
theorem kn_34 : Known env E Sg 34 { pms := [.rd, .rd], tys := [31, 31], res := [.c (.view []) .no] } := known_of 0 Try.func34 rfl rfl Try.func34 (by kernel_rfl)
/-- laws.eqEntryS -/
@[simp] theorem pk_24 : E.pks 24 = some [.val, .val] := rfl
theorem kn_24 : Known env E Sg 24 { pms := [.rd, .rd], tys := [24, 24], res := [.c (.view []) .no] } := known_of 0 Try.func24 rfl rfl Try.func24 (by kernel_rfl)
/-- laws.markText -/
@[simp] theorem pk_64 : E.pks 64 = some [.val] := rfl
theorem kn_64 : Known env E Sg 64 { pms := [.rd], tys := [3], res := [.c (.view []) .no] } := known_of 0 Try.func64 rfl rfl Try.func64 (by kernel_rfl)
/-- laws.markNeedS -/
@[simp] theorem pk_26 : E.pks 26 = some [.mut, .val] := rfl
theorem kn_26 : Known env E Sg 26 { pms := [.mut (.own [.view [], .view [], .view [], .view [], .view []]), .rd], tys := [29, 3], res := [.c (.view []) .no] } := known_of 0 Try.func26 rfl rfl Try.func26 (by kernel_rfl)
/-- laws.markEntryS -/
@[simp] theorem pk_25 : E.pks 25 = some [.mut, .val] := rfl
theorem kn_25 : Known env E Sg 25 { pms := [.mut (.own [.view [], .view [], .view [], .view [], .view [], .own [.view [], .view [], .view [], .view [], .view []]]), .rd], tys := [24, 3], res := [.c (.view []) .no] } := known_of 0 Try.func25 rfl rfl Try.func25 (by kernel_rfl)
/-- laws.heldNeedS -/
@[simp] theorem pk_27 : E.pks 27 = some [.val, .val] := rfl
theorem kn_27 : Known env E Sg 27 { pms := [.rd, .rd], tys := [29, 3], res := [.c (.view []) .no] } := known_of 0 Try.func27 rfl rfl Try.func27 (by kernel_rfl)
/-- laws.FnExactLacking -/
@[simp] theorem pk_4 : E.pks 4 = some [.val, .val] := rfl
theorem kn_4 : Known env E Sg 4 { pms := [.rd, .rd], tys := [39, 40], res := [.c (.view []) .no] } := known_of 0 Try.func4 rfl rfl Try.func4 (by kernel_rfl)
/-- spec.VersionsOf -/
@[simp] theorem pk_28 : E.pks 28 = some [.val, .val] := rfl
theorem kn_28 : Known env E Sg 28 { pms := [.rd, .rd], tys := [24, 9], res := [.c (.own [.view [], .view [], .view [], .view []]) .no] } := known_of 1 Try.func28 rfl rfl Try.func28 (by kernel_rfl)
/-- laws.eqVersionS -/
@[simp] theorem pk_29 : E.pks 29 = some [.val, .val] := rfl
theorem kn_29 : Known env E Sg 29 { pms := [.rd, .rd], tys := [34, 34], res := [.c (.view []) .no] } := known_of 0 Try.func29 rfl rfl Try.func29 (by kernel_rfl)
/-- laws.markVersionS -/
@[simp] theorem pk_30 : E.pks 30 = some [.mut, .val] := rfl
theorem kn_30 : Known env E Sg 30 { pms := [.mut (.own [.view [], .view [], .view [], .view []]), .rd], tys := [34, 3], res := [.c (.view []) .no] } := known_of 0 Try.func30 rfl rfl Try.func30 (by kernel_rfl)
/-- laws.heldVersionS -/
@[simp] theorem pk_31 : E.pks 31 = some [.val, .val] := rfl
theorem kn_31 : Known env E Sg 31 { pms := [.rd, .rd], tys := [34, 3], res := [.c (.view []) .no] } := known_of 0 Try.func31 rfl rfl Try.func31 (by kernel_rfl)
/-- laws.FnExactVersionsOf -/
@[simp] theorem pk_5 : E.pks 5 = some [.val, .val] := rfl
theorem kn_5 : Known env E Sg 5 { pms := [.rd, .rd], tys := [39, 9], res := [.c (.view []) .no] } := known_of 0 Try.func5 rfl rfl Try.func5 (by kernel_rfl)
theorem kn : ∀ f sg, Sg f = some sg → Known env E Sg f sg := by
  refine known_all sgs ?_
  intro q hq
  simp only [sgs, List.mem_cons, List.not_mem_nil, or_false] at hq
  rcases hq with rfl | rfl | rfl | rfl | rfl | rfl | rfl | rfl | rfl | rfl | rfl | rfl | rfl | rfl | rfl | rfl | rfl | rfl | rfl | rfl | rfl | rfl | rfl | rfl | rfl | rfl | rfl | rfl | rfl | rfl | rfl | rfl | rfl | rfl | rfl | rfl | rfl | rfl | rfl | rfl | rfl | rfl | rfl | rfl | rfl | rfl | rfl | rfl | rfl | rfl | rfl | rfl | rfl | rfl | rfl | rfl | rfl
  · exact kn_12
  · exact kn_50
  · exact kn_90
  · exact kn_53
  · exact kn_105
  · exact kn_91
  · exact kn_106
  · exact kn_92
  · exact kn_113
  · exact kn_116
  · exact kn_114
  · exact kn_107
  · exact kn_123
  · exact kn_115
  · exact kn_108
  · exact kn_93
  · exact kn_52
  · exact kn_54
  · exact kn_89
  · exact kn_57
  · exact kn_51
  · exact kn_13
  · exact kn_55
  · exact kn_94
  · exact kn_56
  · exact kn_14
  · exact kn_58
  · exact kn_15
  · exact kn_16
  · exact kn_17
  · exact kn_3
  · exact kn_32
  · exact kn_60
  · exact kn_19
  · exact kn_59
  · exact kn_18
  · exact kn_33
  · exact kn_62
  · exact kn_22
  · exact kn_61
  · exact kn_21
  · exact kn_20
  · exact kn_65
  · exact kn_63
  · exact kn_23
  · exact kn_34
  · exact kn_24
  · exact kn_64
  · exact kn_26
  · exact kn_25
  · exact kn_27
  · exact kn_4
  · exact kn_28
  · exact kn_29
  · exact kn_30
  · exact kn_31
  · exact kn_5
/-- What a checked function does. -/
theorem does {f : Nat} {sg : Sig} (h : Sg f = some sg) (k : Nat) : Does env f sg (evF E k f) := does_all rfl kn k f sg h
end Go.Proofs.Ytfgaikcoodagiaa

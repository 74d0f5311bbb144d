/- Functions that were checked. -/
import Derived.Test.YtojciiiilfmjgaaDoorS1
import Derived.Test.YtojciiiilfmjgaaDoorEv7
import Derived.Test.YtojciiiilfmjgaaDoorP2
import Derived.Test.YtojciiiilfmjgaaDoorSH
set_option linter.all false
namespace Go.Proofs.YtojciiiilfmjgaaDoor
open Go.Ev
set_option maxRecDepth 20000
def sgs : List (Nat × Sig) := [
  (27, { pms := [.rd, .rd], tys := [37, 3], res := [.c (.view []) .no] }),
  (15, { pms := [.rd, .rd], tys := [39, 3], res := [.c (.view []) .no] }),
  (5, { pms := [.rd, .rd], tys := [22, 3], res := [.c (.view []) .no] }),
  (29, { pms := [.rd], tys := [37], res := [.agg [.view [], .view [], .view [], .view []] .no] }),
  (17, { pms := [.rd], tys := [39], res := [.agg [.view [], .view [], .view [], .view [], .view []] .no] }),
  (7, { pms := [.rd], tys := [22], res := [.c (.own [.view [], .view [], .view [], .view [], .view []]) .no] }),
  (33, { pms := [.rd, .rd], tys := [9, 5], res := [.c (.own [.view []]) .no] }),
  (46, { pms := [.rd, .rd, .rd], tys := [3, 3, 3], res := [.c (.view []) .no] }),
  (42, { pms := [.rd], tys := [9], res := [.c (.view []) .no] }),
  (38, { pms := [.rd], tys := [9], res := [.c (.view []) .no] }),
  (34, { pms := [.rd, .rd], tys := [9, 9], res := [.c (.view []) .no] }),
  (28, { pms := [.rd, .rd], tys := [9, 9], res := [.c (.view []) .no] }),
  (16, { pms := [.rd, .rd], tys := [40, 40], res := [.c (.view []) .no] }),
  (6, { pms := [.rd, .rd], tys := [25, 25], res := [.c (.view []) .no] }),
  (39, { pms := [.rd], tys := [3], res := [.c (.view []) .no] }),
  (36, { pms := [.rd, .rd], tys := [3, 3], res := [.c (.view []) .no] }),
  (43, { pms := [.rd, .rd, .rd, .rd], tys := [9, 9, 3, 3], res := [.c (.own [.view []]) .no] }),
  (40, { pms := [.rd, .rd], tys := [9, 9], res := [.c (.own [.view []]) .no] }),
  (56, { pms := [.rd], tys := [5], res := [.c (.view []) .no] }),
  (50, { pms := [.rd], tys := [9], res := [.c (.view []) .no] }),
  (44, { pms := [.rd], tys := [9], res := [.c (.view []) .no] }),
  (51, { pms := [.rd], tys := [9], res := [.c (.view []) .no] }),
  (45, { pms := [.rd, .rd], tys := [9, 9], res := [.c (.view []) .no] }),
  (35, { pms := [.rd], tys := [67], res := [.c (.view []) .no] }),
  (41, { pms := [.rd, .rd], tys := [9, 9], res := [.c (.view []) .no] }),
  (37, { pms := [.rd, .rd], tys := [9, 9], res := [.c (.view []) .no] }),
  (31, { pms := [.rd, .rd], tys := [40, 40], res := [.c (.view []) .no] }),
  (20, { pms := [.rd, .rd], tys := [40, 40], res := [.c (.view []) .no] }),
  (19, { pms := [.rd, .rptr 5], tys := [42, 0], res := [.c (.view []) .no] }),
  (30, { pms := [.rd, .fn [19]], tys := [25, 46], res := [.c (.view []) .no] }),
  (18, { pms := [.rd, .fn [19]], tys := [25, 46], res := [.c (.view []) .no] }),
  (8, { pms := [.rd, .rd], tys := [25, 25], res := [.c (.view []) .no] }),
  (32, { pms := [.rd, .rd], tys := [40, 40], res := [.c (.view []) .no] }),
  (21, { pms := [.rd, .rd], tys := [42, 42], res := [.c (.view []) .no] }),
  (9, { pms := [.rd, .rd], tys := [25, 25], res := [.c (.view []) .no] }),
  (3, { pms := [.rd, .rd], tys := [22, 22], res := [.c (.view []) .no] }),
  (22, { pms := [.rd, .rd], tys := [50, 3], res := [.c (.view []) .no] }),
  (10, { pms := [.rd, .rd], tys := [28, 3], res := [.c (.view []) .no] }),
  (24, { pms := [.rd], tys := [50], res := [.agg [.view [], .view [], .view [], .view [], .view [], .own [.view [], .view [], .view [], .view [], .view []]] .no] }),
  (12, { pms := [.rd], tys := [28], res := [.c (.own [.view [], .view [], .view [], .view [], .view [], .own [.view [], .view [], .view [], .view [], .view []]]) .no] }),
  (23, { pms := [.rd, .rd, .rd], tys := [31, 9, 40], res := [.c (.view []) .no] }),
  (11, { pms := [.rd, .rd], tys := [31, 25], res := [.c (.view []) .no] }),
  (25, { pms := [.rd, .rd, .rd], tys := [31, 9, 40], res := [.c (.view []) .no] }),
  (13, { pms := [.rd, .rd], tys := [31, 25], res := [.c (.view []) .no] }),
  (26, { pms := [.rd, .rd], tys := [53, 53], res := [.c (.view []) .no] }),
  (14, { pms := [.rd, .rd], tys := [31, 31], res := [.c (.view []) .no] }),
  (4, { pms := [.rd, .rd], tys := [28, 22], res := [.c (.view []) .no] })]
def Sg (f : Nat) : Option Sig := sgOf sgs f
noncomputable def E : Prog := ⟨tab, fun f => Tryd.prog.funcs[f]?, fun f => (Sg f).map fun s => s.pms.map PM.pk, fun f => if f = 43 then some splitF else none⟩
@[simp] theorem E_τ : E.τ = tab := rfl
/-- laws.szVersion -/
@[simp] theorem pk_27 : E.pks 27 = some [.val, .val] := rfl
theorem kn_27 : Known env E Sg 27 { pms := [.rd, .rd], tys := [37, 3], res := [.c (.view []) .no] } := known_of 0 Tryd.func27 rfl rfl Tryd.func27 (by kernel_rfl)
/-- laws.szNeed -/
@[simp] theorem pk_15 : E.pks 15 = some [.val, .val] := rfl
theorem kn_15 : Known env E Sg 15 { pms := [.rd, .rd], tys := [39, 3], res := [.c (.view []) .no] } := known_of 0 Tryd.func15 rfl rfl Tryd.func15 (by kernel_rfl)
/-- laws.szNeedS -/
@[simp] theorem pk_5 : E.pks 5 = some [.val, .val] := rfl
theorem kn_5 : Known env E Sg 5 { pms := [.rd, .rd], tys := [22, 3], res := [.c (.view []) .no] } := known_of 0 Tryd.func5 rfl rfl Tryd.func5 (by kernel_rfl)
/-- laws.toVersion -/
@[simp] theorem pk_29 : E.pks 29 = some [.val] := rfl
theorem kn_29 : Known env E Sg 29 { pms := [.rd], tys := [37], res := [.agg [.view [], .view [], .view [], .view []] .no] } := known_of 0 Tryd.func29 rfl rfl Tryd.func29 (by kernel_rfl)
/-- laws.toNeed -/
@[simp] theorem pk_17 : E.pks 17 = some [.val] := rfl
theorem kn_17 : Known env E Sg 17 { pms := [.rd], tys := [39], res := [.agg [.view [], .view [], .view [], .view [], .view []] .no] } := known_of 0 Tryd.func17 rfl rfl Tryd.func17 (by kernel_rfl)
/-- laws.toNeedS -/
@[simp] theorem pk_7 : E.pks 7 = some [.val] := rfl
theorem kn_7 : Known env E Sg 7 { pms := [.rd], tys := [22], res := [.c (.own [.view [], .view [], .view [], .view [], .view []]) .no] } := known_of 1 Tryd.func7 rfl rfl Tryd.func7 (by kernel_rfl)
/-- spec.l3Split -/
@[simp] theorem pk_33 : E.pks 33 = some [.val, .val] := rfl
theorem kn_33 : Known env E Sg 33 { pms := [.rd, .rd], tys := [9, 5], res := [.c (.own [.view []]) .no] } := known_of 1 Tryd.func33 rfl rfl Tryd.func33 (by kernel_rfl)
/-- spec.l1In -/
@[simp] theorem pk_46 : E.pks 46 = some [.val, .val, .val] := rfl
theorem kn_46 : Known env E Sg 46 { pms := [.rd, .rd, .rd], tys := [3, 3, 3], res := [.c (.view []) .no] } := known_of 0 Tryd.func46 rfl rfl Tryd.func46 (by kernel_rfl)
/-- spec.l3Digits -/
@[simp] theorem pk_42 : E.pks 42 = some [.val] := rfl
theorem kn_42 : Known env E Sg 42 { pms := [.rd], tys := [9], res := [.c (.view []) .no] } := known_of 0 Tryd.func42 rfl rfl Tryd.func42 (by kernel_rfl)
/-- spec.l3Number -/
@[simp] theorem pk_38 : E.pks 38 = some [.val] := rfl
theorem kn_38 : Known env E Sg 38 { pms := [.rd], tys := [9], res := [.c (.view []) .no] } := known_of 0 Tryd.func38 rfl rfl Tryd.func38 (by kernel_rfl)
/-- spec.l3LessPart -/
@[simp] theorem pk_34 : E.pks 34 = some [.val, .val] := rfl
theorem kn_34 : Known env E Sg 34 { pms := [.rd, .rd], tys := [9, 9], res := [.c (.view []) .no] } := known_of 0 Tryd.func34 rfl rfl Tryd.func34 (by kernel_rfl)
/-- spec.l3LessPre -/
@[simp] theorem pk_28 : E.pks 28 = some [.val, .val] := rfl
theorem kn_28 : Known env E Sg 28 { pms := [.rd, .rd], tys := [9, 9], res := [.c (.view []) .no] } := known_of 0 Tryd.func28 rfl rfl Tryd.func28 (by kernel_rfl)
/-- spec.LessVersion -/
@[simp] theorem pk_16 : E.pks 16 = some [.val, .val] := rfl
theorem kn_16 : Known env E Sg 16 { pms := [.rd, .rd], tys := [40, 40], res := [.c (.view []) .no] } := known_of 0 Tryd.func16 rfl rfl Tryd.func16 (by kernel_rfl)
/-- spec.Covers -/
@[simp] theorem pk_6 : E.pks 6 = some [.val, .val] := rfl
theorem kn_6 : Known env E Sg 6 { pms := [.rd, .rd], tys := [25, 25], res := [.c (.view []) .no] } := known_of 0 Tryd.func6 rfl rfl Tryd.func6 (by kernel_rfl)
/-- cmp.isNaN[int] -/
@[simp] theorem pk_39 : E.pks 39 = some [.val] := rfl
theorem kn_39 : Known env E Sg 39 { pms := [.rd], tys := [3], res := [.c (.view []) .no] } := known_of 0 Tryd.func39 rfl rfl Tryd.func39 (by kernel_rfl)
/-- cmp.Compare[int] -/
@[simp] theorem pk_36 : E.pks 36 = some [.val, .val] := rfl
theorem kn_36 : Known env E Sg 36 { pms := [.rd, .rd], tys := [3, 3], res := [.c (.view []) .no] } := known_of 0 Tryd.func36 rfl rfl Tryd.func36 (by kernel_rfl)
/-- strings.genSplit -/
@[simp] theorem pk_43 : E.pks 43 = some [.val, .val, .val, .val] := rfl
theorem cl_43 : Does env 43 { pms := [.rd, .rd, .rd, .rd], tys := [9, 9, 3, 3], res := [.c (.own [.view []]) .no] } splitF := does_split (P := Tryd.prog) rfl Tryd.lays221 rfl (by kernel_rfl) Tryd.func43 rfl (by decide)
theorem kn_43 : Known env E Sg 43 { pms := [.rd, .rd, .rd, .rd], tys := [9, 9, 3, 3], res := [.c (.own [.view []]) .no] } := ⟨rfl, _, _, Tryd.func43, rfl, by decide, .inl ⟨_, rfl, cl_43⟩⟩
@[simp] theorem c_prim_43 {c : UInt8} {s : ByteArray} {K : List X → List X → Prop} (h : s.size < 4294967281) : callK E 43 [.d (.v (.string s)) none, .d (.v (.string ⟨#[c]⟩)) none, .d (.v (.int .i64 0)) none, .d (.v (.int .i64 (-1))) none] K = K [.d (.sl 1 (rowsOf (splitP c s))) none] [.u, .u, .u, .u] := callK_of (prim_runs rfl (splitF_eq h))
/-- strings.Split -/
@[simp] theorem pk_40 : E.pks 40 = some [.val, .val] := rfl
theorem kn_40 : Known env E Sg 40 { pms := [.rd, .rd], tys := [9, 9], res := [.c (.own [.view []]) .no] } := known_of 1 Tryd.func40 rfl rfl Tryd.func40 (by kernel_rfl)
/-- impl.isFigure -/
@[simp] theorem pk_56 : E.pks 56 = some [.val] := rfl
theorem kn_56 : Known env E Sg 56 { pms := [.rd], tys := [5], res := [.c (.view []) .no] } := known_of 0 Tryd.func56 rfl rfl Tryd.func56 (by kernel_rfl)
/-- impl.isFigures -/
@[simp] theorem pk_50 : E.pks 50 = some [.val] := rfl
theorem kn_50 : Known env E Sg 50 { pms := [.rd], tys := [9], res := [.c (.view []) .no] } := known_of 0 Tryd.func50 rfl rfl Tryd.func50 (by kernel_rfl)
/-- impl.isNumber -/
@[simp] theorem pk_44 : E.pks 44 = some [.val] := rfl
theorem kn_44 : Known env E Sg 44 { pms := [.rd], tys := [9], res := [.c (.view []) .no] } := known_of 0 Tryd.func44 rfl rfl Tryd.func44 (by kernel_rfl)
/-- cmp.isNaN[string] -/
@[simp] theorem pk_51 : E.pks 51 = some [.val] := rfl
theorem kn_51 : Known env E Sg 51 { pms := [.rd], tys := [9], res := [.c (.view []) .no] } := known_of 0 Tryd.func51 rfl rfl Tryd.func51 (by kernel_rfl)
/-- cmp.Compare[string] -/
@[simp] theorem pk_45 : E.pks 45 = some [.val, .val] := rfl
theorem kn_45 : Known env E Sg 45 { pms := [.rd, .rd], tys := [9, 9], res := [.c (.view []) .no] } := known_of 0 Tryd.func45 rfl rfl Tryd.func45 (by kernel_rfl)
/-- cmp.Or[int] -/
@[simp] theorem pk_35 : E.pks 35 = some [.val] := rfl
theorem kn_35 : Known env E Sg 35 { pms := [.rd], tys := [67], res := [.c (.view []) .no] } := known_of 0 Tryd.func35 rfl rfl Tryd.func35 (by kernel_rfl)
/-- impl.comparePart -/
@[simp] theorem pk_41 : E.pks 41 = some [.val, .val] := rfl
theorem kn_41 : Known env E Sg 41 { pms := [.rd, .rd], tys := [9, 9], res := [.c (.view []) .no] } := known_of 0 Tryd.func41 rfl rfl Tryd.func41 (by kernel_rfl)
/-- impl.comparePre -/
@[simp] theorem pk_37 : E.pks 37 = some [.val, .val] := rfl
theorem kn_37 : Known env E Sg 37 { pms := [.rd, .rd], tys := [9, 9], res := [.c (.view []) .no] } := known_of 0 Tryd.func37 rfl rfl Tryd.func37 (by kernel_rfl)
/-- impl.compare -/
@[simp] theorem pk_31 : E.pks 31 = some [.val, .val] := rfl
theorem kn_31 : Known env E Sg 31 { pms := [.rd, .rd], tys := [40, 40], res := [.c (.view []) .no] } := known_of 0 Tryd.func31 rfl rfl Tryd.func31 (by kernel_rfl)
/-- impl.LessVersion -/
@[simp] theorem pk_20 : E.pks 20 = some [.val, .val] := rfl
theorem kn_20 : Known env E Sg 20 { pms := [.rd, .rd], tys := [40, 40], res := [.c (.view []) .no] } := known_of 0 Tryd.func20 rfl rfl Tryd.func20 (by kernel_rfl)
/-- impl.Covers$1 -/
@[simp] theorem pk_19 : E.pks 19 = some [.val, .rptr 5] := rfl
theorem kn_19 : Known env E Sg 19 { pms := [.rd, .rptr 5], tys := [42, 0], res := [.c (.view []) .no] } := known_of 0 Tryd.func19 rfl rfl Tryd.func19 (by kernel_rfl)
/-- slices.IndexFunc[[]impl.Need,impl.Need] -/
@[simp] theorem pk_30 : E.pks 30 = some [.val, .val] := rfl
theorem kn_30 : Known env E Sg 30 { pms := [.rd, .fn [19]], tys := [25, 46], res := [.c (.view []) .no] } := known_of 0 Tryd.func30 rfl rfl Tryd.func30 (by kernel_rfl)
/-- slices.ContainsFunc[[]impl.Need,impl.Need] -/
@[simp] theorem pk_18 : E.pks 18 = some [.val, .val] := rfl
theorem kn_18 : Known env E Sg 18 { pms := [.rd, .fn [19]], tys := [25, 46], res := [.c (.view []) .no] } := known_of 0 Tryd.func18 rfl rfl Tryd.func18 (by kernel_rfl)
/-- impl.Covers -/
@[simp] theorem pk_8 : E.pks 8 = some [.val, .val] := rfl
theorem kn_8 : Known env E Sg 8 { pms := [.rd, .rd], tys := [25, 25], res := [.c (.view []) .no] } := known_of 0 Tryd.func8 rfl rfl Tryd.func8 (by kernel_rfl)
/-- laws.eqVersion -/
@[simp] theorem pk_32 : E.pks 32 = some [.val, .val] := rfl
theorem kn_32 : Known env E Sg 32 { pms := [.rd, .rd], tys := [40, 40], res := [.c (.view []) .no] } := known_of 0 Tryd.func32 rfl rfl Tryd.func32 (by kernel_rfl)
/-- laws.eqNeed -/
@[simp] theorem pk_21 : E.pks 21 = some [.val, .val] := rfl
theorem kn_21 : Known env E Sg 21 { pms := [.rd, .rd], tys := [42, 42], res := [.c (.view []) .no] } := known_of 0 Tryd.func21 rfl rfl Tryd.func21 (by kernel_rfl)
/-- laws.eqNeedS -/
@[simp] theorem pk_9 : E.pks 9 = some [.val, .val] := rfl
theorem kn_9 : Known env E Sg 9 { pms := [.rd, .rd], tys := [25, 25], res := [.c (.view []) .no] } := known_of 0 Tryd.func9 rfl rfl Tryd.func9 (by kernel_rfl)
/-- laws.FnExactCovers -/
@[simp] theorem pk_3 : E.pks 3 = some [.val, .val] := rfl
theorem kn_3 : Known env E Sg 3 { pms := [.rd, .rd], tys := [22, 22], res := [.c (.view []) .no] } := known_of 0 Tryd.func3 rfl rfl Tryd.func3 (by kernel_rfl)
/-- laws.szEntry -/
@[simp] theorem pk_22 : E.pks 22 = some [.val, .val] := rfl
theorem kn_22 : Known env E Sg 22 { pms := [.rd, .rd], tys := [50, 3], res := [.c (.view []) .no] } := known_of 0 Tryd.func22 rfl rfl Tryd.func22 (by kernel_rfl)
/-- laws.szEntryS -/
@[simp] theorem pk_10 : E.pks 10 = some [.val, .val] := rfl
theorem kn_10 : Known env E Sg 10 { pms := [.rd, .rd], tys := [28, 3], res := [.c (.view []) .no] } := known_of 0 Tryd.func10 rfl rfl Tryd.func10 (by kernel_rfl)
/-- laws.toEntry -/
@[simp] theorem pk_24 : E.pks 24 = some [.val] := rfl
theorem kn_24 : Known env E Sg 24 { pms := [.rd], tys := [50], res := [.agg [.view [], .view [], .view [], .view [], .view [], .own [.view [], .view [], .view [], .view [], .view []]] .no] } := known_of 1 Tryd.func24 rfl rfl Tryd.func24 (by kernel_rfl)
/-- laws.toEntryS -/
@[simp] theorem pk_12 : E.pks 12 = some [.val] := rfl
theorem kn_12 : Known env E Sg 12 { pms := [.rd], tys := [28], res := [.c (.own [.view [], .view [], .view [], .view [], .view [], .own [.view [], .view [], .view [], .view [], .view []]]) .no] } := known_of 1 Tryd.func12 rfl rfl Tryd.func12 (by kernel_rfl)
/-- spec.l15At -/
@[simp] theorem pk_23 : E.pks 23 = some [.val, .val, .val] := rfl
theorem kn_23 : Known env E Sg 23 { pms := [.rd, .rd, .rd], tys := [31, 9, 40], res := [.c (.view []) .no] } := known_of 0 Tryd.func23 rfl rfl Tryd.func23 (by kernel_rfl)
/-- spec.Closed -/
@[simp] theorem pk_11 : E.pks 11 = some [.val, .val] := rfl
theorem kn_11 : Known env E Sg 11 { pms := [.rd, .rd], tys := [31, 25], res := [.c (.view []) .no] } := known_of 0 Tryd.func11 rfl rfl Tryd.func11 (by kernel_rfl)
/-- impl.findEntry -/
@[simp] theorem pk_25 : E.pks 25 = some [.val, .val, .val] := rfl
theorem kn_25 : Known env E Sg 25 { pms := [.rd, .rd, .rd], tys := [31, 9, 40], res := [.c (.view []) .no] } := known_of 0 Tryd.func25 rfl rfl Tryd.func25 (by kernel_rfl)
/-- impl.Closed -/
@[simp] theorem pk_13 : E.pks 13 = some [.val, .val] := rfl
theorem kn_13 : Known env E Sg 13 { pms := [.rd, .rd], tys := [31, 25], res := [.c (.view []) .no] } := known_of 0 Tryd.func13 rfl rfl Tryd.func13 (by kernel_rfl)
/-- laws.eqEntry -/
@[simp] theorem pk_26 : E.pks 26 = some [.val, .val] := rfl
theorem kn_26 : Known env E Sg 26 { pms := [.rd, .rd], tys := [53, 53], res := [.c (.view []) .no] } := known_of 0 Tryd.func26 rfl rfl Tryd.func26 (by kernel_rfl)
/-- laws.eqEntryS -/
@[simp] theorem pk_14 : E.pks 14 = some [.val, .val] := rfl
theorem kn_14 : Known env E Sg 14 { pms := [.rd, .rd], tys := [31, 31], res := [.c (.view []) .no] } := known_of 0 Tryd.func14 rfl rfl Tryd.func14 (by kernel_rfl)
/-- laws.FnExactClosed -/
@[simp] theorem pk_4 : E.pks 4 = some [.val, .val] := rfl
theorem kn_4 : Known env E Sg 4 { pms := [.rd, .rd], tys := [28, 22], res := [.c (.view []) .no] } := known_of 0 Tryd.func4 rfl rfl Tryd.func4 (by kernel_rfl)
theorem kn : ∀ f sg, Sg f = some sg → Known env E Sg f sg := by
  refine known_all sgs ?_
  intro q hq
  simp only [sgs, List.mem_cons, List.not_mem_nil, or_false] at hq
  rcases hq with rfl | rfl | rfl | rfl | rfl | rfl | rfl | rfl | rfl | rfl | rfl | rfl | rfl | rfl | rfl | rfl | rfl | rfl | rfl | rfl | rfl | rfl | rfl | rfl | rfl | rfl | rfl | rfl | rfl | rfl | rfl | rfl | rfl | rfl | rfl | rfl | rfl | rfl | rfl | rfl | rfl | rfl | rfl | rfl | rfl | rfl | rfl
  · exact kn_27
  · exact kn_15
  · exact kn_5
  · exact kn_29
  · exact kn_17
  · exact kn_7
  · exact kn_33
  · exact kn_46
  · exact kn_42
  · exact kn_38
  · exact kn_34
  · exact kn_28
  · exact kn_16
  · exact kn_6
  · exact kn_39
  · exact kn_36
  · exact kn_43
  · exact kn_40
  · exact kn_56
  · exact kn_50
  · exact kn_44
  · exact kn_51
  · exact kn_45
  · exact kn_35
  · exact kn_41
  · exact kn_37
  · exact kn_31
  · exact kn_20
  · exact kn_19
  · exact kn_30
  · exact kn_18
  · exact kn_8
  · exact kn_32
  · exact kn_21
  · exact kn_9
  · exact kn_3
  · exact kn_22
  · exact kn_10
  · exact kn_24
  · exact kn_12
  · exact kn_23
  · exact kn_11
  · exact kn_25
  · exact kn_13
  · exact kn_26
  · exact kn_14
  · exact kn_4
/-- What a checked function does. -/
theorem does {f : Nat} {sg : Sig} (h : Sg f = some sg) (k : Nat) : Does env f sg (evF E k f) := does_all rfl kn k f sg h
end Go.Proofs.YtojciiiilfmjgaaDoor

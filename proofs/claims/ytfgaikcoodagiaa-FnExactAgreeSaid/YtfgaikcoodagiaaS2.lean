/- Functions that were checked. -/
import Derived.Test.YtfgaikcoodagiaaS1
set_option linter.all false
namespace Go.Proofs.Ytfgaikcoodagiaa
open Go.Ev
def sgs : List (Nat × Sig) := [
  (66, { pms := [.rd, .rd], tys := [59, 3], res := [.c (.view []) .no] }),
  (95, { pms := [.rd, .rd], tys := [130, 3], res := [.c (.view []) .no] }),
  (67, { pms := [.rd, .rd], tys := [60, 3], res := [.c (.view []) .no] }),
  (117, { pms := [.rd, .rd], tys := [133, 3], res := [.c (.view []) .no] }),
  (118, { pms := [.rd, .rd], tys := [22, 3], res := [.c (.view []) .no] }),
  (109, { pms := [.rd, .rd], tys := [135, 3], res := [.c (.view []) .no] }),
  (96, { pms := [.rd, .rd], tys := [137, 3], res := [.c (.view []) .no] }),
  (68, { pms := [.rd, .rd], tys := [61, 3], res := [.c (.view []) .no] }),
  (69, { pms := [.rd, .rd], tys := [62, 3], res := [.c (.view []) .no] }),
  (97, { pms := [.rd, .rd], tys := [140, 3], res := [.c (.view []) .no] }),
  (70, { pms := [.rd, .rd], tys := [63, 3], res := [.c (.view []) .no] }),
  (37, { pms := [.rd, .rd], tys := [65, 3], res := [.c (.view []) .no] }),
  (72, { pms := [.rd], tys := [59], res := [.c (.view []) .no] }),
  (98, { pms := [.rd], tys := [130], res := [.agg [.view [], .view []] .no] }),
  (73, { pms := [.rd], tys := [60], res := [.c (.view []) .no] }),
  (119, { pms := [.rd], tys := [133], res := [.agg [.view [], .view [], .view []] .no] }),
  (120, { pms := [.rd], tys := [22], res := [.c (.view []) .no] }),
  (110, { pms := [.rd], tys := [135], res := [.agg [.view [], .view [], .view [], .view [], .view []] .no] }),
  (99, { pms := [.rd], tys := [137], res := [.agg [.view [], .view [], .view [], .view [], .view [], .view [], .view [], .view []] .no] }),
  (74, { pms := [.rd], tys := [61], res := [.c (.view []) .no] }),
  (75, { pms := [.rd], tys := [62], res := [.c (.view []) .no] }),
  (100, { pms := [.rd], tys := [140], res := [.agg [.view [], .view [], .view [], .view [], .view [], .view [], .view []] .no] }),
  (76, { pms := [.rd], tys := [63], res := [.c (.view []) .no] }),
  (39, { pms := [.rd], tys := [65], res := [.agg [.view [], .view [], .view [], .view [], .view []] .no] }),
  (83, { pms := [.rd, .rd], tys := [59, 59], res := [.c (.view []) .no] }),
  (42, { pms := [.rd], tys := [72], res := [.c (.view []) .no] }),
  (84, { pms := [.rd, .rd], tys := [59, 59], res := [.c (.view []) .no] }),
  (43, { pms := [.rd], tys := [72], res := [.c (.view []) .no] }),
  (78, { pms := [.rd, .rd], tys := [59, 59], res := [.c (.view []) .no] }),
  (101, { pms := [.rd, .rd], tys := [101, 101], res := [.c (.view []) .no] }),
  (79, { pms := [.rd, .rd], tys := [68, 68], res := [.c (.view []) .no] }),
  (121, { pms := [.rd, .rd], tys := [115, 115], res := [.c (.view []) .no] }),
  (122, { pms := [.rd, .rd], tys := [22, 22], res := [.c (.view []) .no] }),
  (111, { pms := [.rd, .rd], tys := [117, 117], res := [.c (.view []) .no] }),
  (102, { pms := [.rd, .rd], tys := [119, 119], res := [.c (.view []) .no] }),
  (80, { pms := [.rd, .rd], tys := [69, 69], res := [.c (.view []) .no] }),
  (81, { pms := [.rd, .rd], tys := [62, 62], res := [.c (.view []) .no] }),
  (103, { pms := [.rd, .rd], tys := [144, 144], res := [.c (.view []) .no] }),
  (82, { pms := [.rd, .rd], tys := [70, 70], res := [.c (.view []) .no] }),
  (41, { pms := [.rd, .rd], tys := [72, 72], res := [.c (.view []) .no] }),
  (8, { pms := [.rd], tys := [65], res := [.c (.view []) .no] }),
  (85, { pms := [.rd, .rd], tys := [68, 101], res := [.c (.view []) .no] }),
  (44, { pms := [.rd], tys := [72], res := [.c (.view []) .no] }),
  (112, { pms := [.rd, .rd], tys := [68, 101], res := [.c (.view []) .no] }),
  (104, { pms := [.rd, .rd], tys := [68, 101], res := [.c (.view []) .no] }),
  (86, { pms := [.rd, .rd], tys := [68, 101], res := [.c (.view []) .no] }),
  (45, { pms := [.rd], tys := [72], res := [.c (.view []) .no] }),
  (9, { pms := [.rd], tys := [65], res := [.c (.view []) .no] }),
  (87, { pms := [.rd, .rd], tys := [59, 59], res := [.c (.view []) .no] }),
  (46, { pms := [.rd], tys := [72], res := [.c (.view []) .no] }),
  (88, { pms := [.rd, .rd], tys := [59, 59], res := [.c (.view []) .no] }),
  (47, { pms := [.rd], tys := [72], res := [.c (.view []) .no] }),
  (10, { pms := [.rd], tys := [65], res := [.c (.view []) .no] }),
  (48, { pms := [.rd], tys := [72], res := [.c (.view []) .no] }),
  (49, { pms := [.rd], tys := [72], res := [.c (.view []) .no] }),
  (11, { pms := [.rd], tys := [65], res := [.c (.view []) .no] })]
def Sg (f : Nat) : Option Sig := sgOf sgs f
noncomputable def E : Prog := ⟨tab, fun f => Try.prog.funcs[f]?, fun f => (Sg f).map fun s => s.pms.map PM.pk, fun _ => none⟩
@[simp] theorem E_τ : E.τ = tab := rfl
/-- laws.szStringS -/
@[simp] theorem pk_66 : E.pks 66 = some [.val, .val] := rfl
theorem kn_66 : Known env E Sg 66 { pms := [.rd, .rd], tys := [59, 3], res := [.c (.view []) .no] } := known_of 0 Try.func66 rfl rfl Try.func66 (by kernel_rfl)
/-- laws.szHead -/
@[simp] theorem pk_95 : E.pks 95 = some [.val, .val] := rfl
theorem kn_95 : Known env E Sg 95 { pms := [.rd, .rd], tys := [130, 3], res := [.c (.view []) .no] } := known_of 0 Try.func95 rfl rfl Try.func95 (by kernel_rfl)
/-- laws.szHeadS -/
@[simp] theorem pk_67 : E.pks 67 = some [.val, .val] := rfl
theorem kn_67 : Known env E Sg 67 { pms := [.rd, .rd], tys := [60, 3], res := [.c (.view []) .no] } := known_of 0 Try.func67 rfl rfl Try.func67 (by kernel_rfl)
/-- laws.szLog -/
@[simp] theorem pk_117 : E.pks 117 = some [.val, .val] := rfl
theorem kn_117 : Known env E Sg 117 { pms := [.rd, .rd], tys := [133, 3], res := [.c (.view []) .no] } := known_of 0 Try.func117 rfl rfl Try.func117 (by kernel_rfl)
/-- laws.szByteS -/
@[simp] theorem pk_118 : E.pks 118 = some [.val, .val] := rfl
theorem kn_118 : Known env E Sg 118 { pms := [.rd, .rd], tys := [22, 3], res := [.c (.view []) .no] } := known_of 0 Try.func118 rfl rfl Try.func118 (by kernel_rfl)
/-- laws.szStore -/
@[simp] theorem pk_109 : E.pks 109 = some [.val, .val] := rfl
theorem kn_109 : Known env E Sg 109 { pms := [.rd, .rd], tys := [135, 3], res := [.c (.view []) .no] } := known_of 0 Try.func109 rfl rfl Try.func109 (by kernel_rfl)
/-- laws.szMirror -/
@[simp] theorem pk_96 : E.pks 96 = some [.val, .val] := rfl
theorem kn_96 : Known env E Sg 96 { pms := [.rd, .rd], tys := [137, 3], res := [.c (.view []) .no] } := known_of 0 Try.func96 rfl rfl Try.func96 (by kernel_rfl)
/-- laws.szMirrorS -/
@[simp] theorem pk_68 : E.pks 68 = some [.val, .val] := rfl
theorem kn_68 : Known env E Sg 68 { pms := [.rd, .rd], tys := [61, 3], res := [.c (.view []) .no] } := known_of 0 Try.func68 rfl rfl Try.func68 (by kernel_rfl)
/-- laws.szIntS -/
@[simp] theorem pk_69 : E.pks 69 = some [.val, .val] := rfl
theorem kn_69 : Known env E Sg 69 { pms := [.rd, .rd], tys := [62, 3], res := [.c (.view []) .no] } := known_of 0 Try.func69 rfl rfl Try.func69 (by kernel_rfl)
/-- laws.szMsg -/
@[simp] theorem pk_97 : E.pks 97 = some [.val, .val] := rfl
theorem kn_97 : Known env E Sg 97 { pms := [.rd, .rd], tys := [140, 3], res := [.c (.view []) .no] } := known_of 0 Try.func97 rfl rfl Try.func97 (by kernel_rfl)
/-- laws.szMsgS -/
@[simp] theorem pk_70 : E.pks 70 = some [.val, .val] := rfl
theorem kn_70 : Known env E Sg 70 { pms := [.rd, .rd], tys := [63, 3], res := [.c (.view []) .no] } := known_of 0 Try.func70 rfl rfl Try.func70 (by kernel_rfl)
/-- laws.szWorld -/
@[simp] theorem pk_37 : E.pks 37 = some [.val, .val] := rfl
theorem kn_37 : Known env E Sg 37 { pms := [.rd, .rd], tys := [65, 3], res := [.c (.view []) .no] } := known_of 0 Try.func37 rfl rfl Try.func37 (by kernel_rfl)
/-- laws.toStringS -/
@[simp] theorem pk_72 : E.pks 72 = some [.val] := rfl
theorem kn_72 : Known env E Sg 72 { pms := [.rd], tys := [59], res := [.c (.view []) .no] } := known_of 0 Try.func72 rfl rfl Try.func72 (by kernel_rfl)
/-- laws.toHead -/
@[simp] theorem pk_98 : E.pks 98 = some [.val] := rfl
theorem kn_98 : Known env E Sg 98 { pms := [.rd], tys := [130], res := [.agg [.view [], .view []] .no] } := known_of 0 Try.func98 rfl rfl Try.func98 (by kernel_rfl)
/-- laws.toHeadS -/
@[simp] theorem pk_73 : E.pks 73 = some [.val] := rfl
theorem kn_73 : Known env E Sg 73 { pms := [.rd], tys := [60], res := [.c (.view []) .no] } := known_of 0 Try.func73 rfl rfl Try.func73 (by kernel_rfl)
/-- laws.toLog -/
@[simp] theorem pk_119 : E.pks 119 = some [.val] := rfl
theorem kn_119 : Known env E Sg 119 { pms := [.rd], tys := [133], res := [.agg [.view [], .view [], .view []] .no] } := known_of 0 Try.func119 rfl rfl Try.func119 (by kernel_rfl)
/-- laws.toByteS -/
@[simp] theorem pk_120 : E.pks 120 = some [.val] := rfl
theorem kn_120 : Known env E Sg 120 { pms := [.rd], tys := [22], res := [.c (.view []) .no] } := known_of 0 Try.func120 rfl rfl Try.func120 (by kernel_rfl)
/-- laws.toStore -/
@[simp] theorem pk_110 : E.pks 110 = some [.val] := rfl
theorem kn_110 : Known env E Sg 110 { pms := [.rd], tys := [135], res := [.agg [.view [], .view [], .view [], .view [], .view []] .no] } := known_of 0 Try.func110 rfl rfl Try.func110 (by kernel_rfl)
/-- laws.toMirror -/
@[simp] theorem pk_99 : E.pks 99 = some [.val] := rfl
theorem kn_99 : Known env E Sg 99 { pms := [.rd], tys := [137], res := [.agg [.view [], .view [], .view [], .view [], .view [], .view [], .view [], .view []] .no] } := known_of 0 Try.func99 rfl rfl Try.func99 (by kernel_rfl)
/-- laws.toMirrorS -/
@[simp] theorem pk_74 : E.pks 74 = some [.val] := rfl
theorem kn_74 : Known env E Sg 74 { pms := [.rd], tys := [61], res := [.c (.view []) .no] } := known_of 0 Try.func74 rfl rfl Try.func74 (by kernel_rfl)
/-- laws.toIntS -/
@[simp] theorem pk_75 : E.pks 75 = some [.val] := rfl
theorem kn_75 : Known env E Sg 75 { pms := [.rd], tys := [62], res := [.c (.view []) .no] } := known_of 0 Try.func75 rfl rfl Try.func75 (by kernel_rfl)
/-- laws.toMsg -/
@[simp] theorem pk_100 : E.pks 100 = some [.val] := rfl
theorem kn_100 : Known env E Sg 100 { pms := [.rd], tys := [140], res := [.agg [.view [], .view [], .view [], .view [], .view [], .view [], .view []] .no] } := known_of 0 Try.func100 rfl rfl Try.func100 (by kernel_rfl)
/-- laws.toMsgS -/
@[simp] theorem pk_76 : E.pks 76 = some [.val] := rfl
theorem kn_76 : Known env E Sg 76 { pms := [.rd], tys := [63], res := [.c (.view []) .no] } := known_of 0 Try.func76 rfl rfl Try.func76 (by kernel_rfl)
/-- laws.toWorld -/
@[simp] theorem pk_39 : E.pks 39 = some [.val] := rfl
theorem kn_39 : Known env E Sg 39 { pms := [.rd], tys := [65], res := [.agg [.view [], .view [], .view [], .view [], .view []] .no] } := known_of 0 Try.func39 rfl rfl Try.func39 (by kernel_rfl)
/-- spec.l8Same -/
@[simp] theorem pk_83 : E.pks 83 = some [.val, .val] := rfl
theorem kn_83 : Known env E Sg 83 { pms := [.rd, .rd], tys := [59, 59], res := [.c (.view []) .no] } := known_of 0 Try.func83 rfl rfl Try.func83 (by kernel_rfl)
/-- spec.Level -/
@[simp] theorem pk_42 : E.pks 42 = some [.val] := rfl
theorem kn_42 : Known env E Sg 42 { pms := [.rd], tys := [72], res := [.c (.view []) .no] } := known_of 0 Try.func42 rfl rfl Try.func42 (by kernel_rfl)
/-- slices.Equal[[]string,string] -/
@[simp] theorem pk_84 : E.pks 84 = some [.val, .val] := rfl
theorem kn_84 : Known env E Sg 84 { pms := [.rd, .rd], tys := [59, 59], res := [.c (.view []) .no] } := known_of 0 Try.func84 rfl rfl Try.func84 (by kernel_rfl)
/-- impl.Level -/
@[simp] theorem pk_43 : E.pks 43 = some [.val] := rfl
theorem kn_43 : Known env E Sg 43 { pms := [.rd], tys := [72], res := [.c (.view []) .no] } := known_of 0 Try.func43 rfl rfl Try.func43 (by kernel_rfl)
/-- laws.eqStringS -/
@[simp] theorem pk_78 : E.pks 78 = some [.val, .val] := rfl
theorem kn_78 : Known env E Sg 78 { pms := [.rd, .rd], tys := [59, 59], res := [.c (.view []) .no] } := known_of 0 Try.func78 rfl rfl Try.func78 (by kernel_rfl)
/-- laws.eqHead -/
@[simp] theorem pk_101 : E.pks 101 = some [.val, .val] := rfl
theorem kn_101 : Known env E Sg 101 { pms := [.rd, .rd], tys := [101, 101], res := [.c (.view []) .no] } := known_of 0 Try.func101 rfl rfl Try.func101 (by kernel_rfl)
/-- laws.eqHeadS -/
@[simp] theorem pk_79 : E.pks 79 = some [.val, .val] := rfl
theorem kn_79 : Known env E Sg 79 { pms := [.rd, .rd], tys := [68, 68], res := [.c (.view []) .no] } := known_of 0 Try.func79 rfl rfl Try.func79 (by kernel_rfl)
/-- laws.eqLog -/
@[simp] theorem pk_121 : E.pks 121 = some [.val, .val] := rfl
theorem kn_121 : Known env E Sg 121 { pms := [.rd, .rd], tys := [115, 115], res := [.c (.view []) .no] } := known_of 0 Try.func121 rfl rfl Try.func121 (by kernel_rfl)
/-- laws.eqByteS -/
@[simp] theorem pk_122 : E.pks 122 = some [.val, .val] := rfl
theorem kn_122 : Known env E Sg 122 { pms := [.rd, .rd], tys := [22, 22], res := [.c (.view []) .no] } := known_of 0 Try.func122 rfl rfl Try.func122 (by kernel_rfl)
/-- laws.eqStore -/
@[simp] theorem pk_111 : E.pks 111 = some [.val, .val] := rfl
theorem kn_111 : Known env E Sg 111 { pms := [.rd, .rd], tys := [117, 117], res := [.c (.view []) .no] } := known_of 0 Try.func111 rfl rfl Try.func111 (by kernel_rfl)
/-- laws.eqMirror -/
@[simp] theorem pk_102 : E.pks 102 = some [.val, .val] := rfl
theorem kn_102 : Known env E Sg 102 { pms := [.rd, .rd], tys := [119, 119], res := [.c (.view []) .no] } := known_of 0 Try.func102 rfl rfl Try.func102 (by kernel_rfl)
/-- laws.eqMirrorS -/
@[simp] theorem pk_80 : E.pks 80 = some [.val, .val] := rfl
theorem kn_80 : Known env E Sg 80 { pms := [.rd, .rd], tys := [69, 69], res := [.c (.view []) .no] } := known_of 0 Try.func80 rfl rfl Try.func80 (by kernel_rfl)
/-- laws.eqIntS -/
@[simp] theorem pk_81 : E.pks 81 = some [.val, .val] := rfl
theorem kn_81 : Known env E Sg 81 { pms := [.rd, .rd], tys := [62, 62], res := [.c (.view []) .no] } := known_of 0 Try.func81 rfl rfl Try.func81 (by kernel_rfl)
/-- laws.eqMsg -/
@[simp] theorem pk_103 : E.pks 103 = some [.val, .val] := rfl
theorem kn_103 : Known env E Sg 103 { pms := [.rd, .rd], tys := [144, 144], res := [.c (.view []) .no] } := known_of 0 Try.func103 rfl rfl Try.func103 (by kernel_rfl)
/-- laws.eqMsgS -/
@[simp] theorem pk_82 : E.pks 82 = some [.val, .val] := rfl
theorem kn_82 : Known env E Sg 82 { pms := [.rd, .rd], tys := [70, 70], res := [.c (.view []) .no] } := known_of 0 Try.func82 rfl rfl Try.func82 (by kernel_rfl)
/-- laws.eqWorld -/
@[simp] theorem pk_41 : E.pks 41 = some [.val, .val] := rfl
theorem kn_41 : Known env E Sg 41 { pms := [.rd, .rd], tys := [72, 72], res := [.c (.view []) .no] } := known_of 0 Try.func41 rfl rfl Try.func41 (by kernel_rfl)
/-- laws.FnExactLevel -/
@[simp] theorem pk_8 : E.pks 8 = some [.val] := rfl
theorem kn_8 : Known env E Sg 8 { pms := [.rd], tys := [65], res := [.c (.view []) .no] } := known_of 0 Try.func8 rfl rfl Try.func8 (by kernel_rfl)
/-- spec.IsSigned -/
@[simp] theorem pk_85 : E.pks 85 = some [.val, .val] := rfl
theorem kn_85 : Known env E Sg 85 { pms := [.rd, .rd], tys := [68, 101], res := [.c (.view []) .no] } := known_of 0 Try.func85 rfl rfl Try.func85 (by kernel_rfl)
/-- spec.AllSigned -/
@[simp] theorem pk_44 : E.pks 44 = some [.val] := rfl
theorem kn_44 : Known env E Sg 44 { pms := [.rd], tys := [72], res := [.c (.view []) .no] } := known_of 0 Try.func44 rfl rfl Try.func44 (by kernel_rfl)
/-- slices.Index[[]impl.Head,impl.Head] -/
@[simp] theorem pk_112 : E.pks 112 = some [.val, .val] := rfl
theorem kn_112 : Known env E Sg 112 { pms := [.rd, .rd], tys := [68, 101], res := [.c (.view []) .no] } := known_of 0 Try.func112 rfl rfl Try.func112 (by kernel_rfl)
/-- slices.Contains[[]impl.Head,impl.Head] -/
@[simp] theorem pk_104 : E.pks 104 = some [.val, .val] := rfl
theorem kn_104 : Known env E Sg 104 { pms := [.rd, .rd], tys := [68, 101], res := [.c (.view []) .no] } := known_of 0 Try.func104 rfl rfl Try.func104 (by kernel_rfl)
/-- impl.IsSigned -/
@[simp] theorem pk_86 : E.pks 86 = some [.val, .val] := rfl
theorem kn_86 : Known env E Sg 86 { pms := [.rd, .rd], tys := [68, 101], res := [.c (.view []) .no] } := known_of 0 Try.func86 rfl rfl Try.func86 (by kernel_rfl)
/-- impl.AllSigned -/
@[simp] theorem pk_45 : E.pks 45 = some [.val] := rfl
theorem kn_45 : Known env E Sg 45 { pms := [.rd], tys := [72], res := [.c (.view []) .no] } := known_of 0 Try.func45 rfl rfl Try.func45 (by kernel_rfl)
/-- laws.FnExactAllSigned -/
@[simp] theorem pk_9 : E.pks 9 = some [.val] := rfl
theorem kn_9 : Known env E Sg 9 { pms := [.rd], tys := [65], res := [.c (.view []) .no] } := known_of 0 Try.func9 rfl rfl Try.func9 (by kernel_rfl)
/-- spec.l20Begins -/
@[simp] theorem pk_87 : E.pks 87 = some [.val, .val] := rfl
theorem kn_87 : Known env E Sg 87 { pms := [.rd, .rd], tys := [59, 59], res := [.c (.view []) .no] } := known_of 0 Try.func87 rfl rfl Try.func87 (by kernel_rfl)
/-- spec.Beginnings -/
@[simp] theorem pk_46 : E.pks 46 = some [.val] := rfl
theorem kn_46 : Known env E Sg 46 { pms := [.rd], tys := [72], res := [.c (.view []) .no] } := known_of 0 Try.func46 rfl rfl Try.func46 (by kernel_rfl)
/-- impl.isBeginning -/
@[simp] theorem pk_88 : E.pks 88 = some [.val, .val] := rfl
theorem kn_88 : Known env E Sg 88 { pms := [.rd, .rd], tys := [59, 59], res := [.c (.view []) .no] } := known_of 0 Try.func88 rfl rfl Try.func88 (by kernel_rfl)
/-- impl.Beginnings -/
@[simp] theorem pk_47 : E.pks 47 = some [.val] := rfl
theorem kn_47 : Known env E Sg 47 { pms := [.rd], tys := [72], res := [.c (.view []) .no] } := known_of 0 Try.func47 rfl rfl Try.func47 (by kernel_rfl)
/-- laws.FnExactBeginnings -/
@[simp] theorem pk_10 : E.pks 10 = some [.val] := rfl
theorem kn_10 : Known env E Sg 10 { pms := [.rd], tys := [65], res := [.c (.view []) .no] } := known_of 0 Try.func10 rfl rfl Try.func10 (by kernel_rfl)
/-- spec.Agree -/
@[simp] theorem pk_48 : E.pks 48 = some [.val] := rfl
theorem kn_48 : Known env E Sg 48 { pms := [.rd], tys := [72], res := [.c (.view []) .no] } := known_of 0 Try.func48 rfl rfl Try.func48 (by kernel_rfl)
/-- impl.Agree -/
@[simp] theorem pk_49 : E.pks 49 = some [.val] := rfl
theorem kn_49 : Known env E Sg 49 { pms := [.rd], tys := [72], res := [.c (.view []) .no] } := known_of 0 Try.func49 rfl rfl Try.func49 (by kernel_rfl)
/-- laws.FnExactAgree -/
@[simp] theorem pk_11 : E.pks 11 = some [.val] := rfl
theorem kn_11 : Known env E Sg 11 { pms := [.rd], tys := [65], res := [.c (.view []) .no] } := known_of 0 Try.func11 rfl rfl Try.func11 (by kernel_rfl)
theorem kn : ∀ f sg, Sg f = some sg → Known env E Sg f sg := by
  refine known_all sgs ?_
  intro q hq
  simp only [sgs, List.mem_cons, List.not_mem_nil, or_false] at hq
  rcases hq with rfl | rfl | rfl | rfl | rfl | rfl | rfl | rfl | rfl | rfl | rfl | rfl | rfl | rfl | rfl | rfl | rfl | rfl | rfl | rfl | rfl | rfl | rfl | rfl | rfl | rfl | rfl | rfl | rfl | rfl | rfl | rfl | rfl | rfl | rfl | rfl | rfl | rfl | rfl | rfl | rfl | rfl | rfl | rfl | rfl | rfl | rfl | rfl | rfl | rfl | rfl | rfl | rfl | rfl | rfl | rfl
  · exact kn_66
  · exact kn_95
  · exact kn_67
  · exact kn_117
  · exact kn_118
  · exact kn_109
  · exact kn_96
  · exact kn_68
  · exact kn_69
  · exact kn_97
  · exact kn_70
  · exact kn_37
  · exact kn_72
  · exact kn_98
  · exact kn_73
  · exact kn_119
  · exact kn_120
  · exact kn_110
  · exact kn_99
  · exact kn_74
  · exact kn_75
  · exact kn_100
  · exact kn_76
  · exact kn_39
  · exact kn_83
  · exact kn_42
  · exact kn_84
  · exact kn_43
  · exact kn_78
  · exact kn_101
  · exact kn_79
  · exact kn_121
  · exact kn_122
  · exact kn_111
  · exact kn_102
  · exact kn_80
  · exact kn_81
  · exact kn_103
  · exact kn_82
  · exact kn_41
  · exact kn_8
  · exact kn_85
  · exact kn_44
  · exact kn_112
  · exact kn_104
  · exact kn_86
  · exact kn_45
  · exact kn_9
  · exact kn_87
  · exact kn_46
  · exact kn_88
  · exact kn_47
  · exact kn_10
  · exact kn_48
  · exact kn_49
  · exact kn_11
/-- What a checked function does. -/
theorem does {f : Nat} {sg : Sig} (h : Sg f = some sg) (k : Nat) : Does env f sg (evF E k f) := does_all rfl kn k f sg h
end Go.Proofs.Ytfgaikcoodagiaa

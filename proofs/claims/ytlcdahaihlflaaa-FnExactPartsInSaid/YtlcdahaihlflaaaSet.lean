/-
  The types that the rules ask for, out of the translation; made by mksetup.py. The check against the program is a closed fact.
-/
import Derived.Test.YtlcdahaihlflaaaProg
import Derived.Test.YtlcdahaihlflaaaLgK4
import Derived.KernelRfl
namespace Go.Proofs.Ytlcdahaihlflaaa
open Go Go.Lg

def tabL : List (Nat × TyI) := [
 (2, ⟨.int .i64, 8, [.int .i64]⟩),
 (3, ⟨.int .i64, 8, [.int .i64]⟩),
 (4, ⟨.bool, 1, [.bool]⟩),
 (5, ⟨.int .u8, 1, [.int .u8]⟩),
 (9, ⟨.string, 16, [.str]⟩),
 (12, ⟨.int .u64, 8, [.int .u64]⟩),
 (21, ⟨.int .i32, 4, [.int .i32]⟩),
 (22, ⟨.slice 2, 24, [.slice]⟩),
 (23, ⟨.struct [(0, 22)], 24, [.slice]⟩),
 (24, ⟨.struct [(0, 22)], 24, [.slice]⟩),
 (25, ⟨.slice 115, 24, [.slice]⟩),
 (26, ⟨.struct [(0, 24), (1, 22), (2, 25)], 72, [.slice, .slice, .slice]⟩),
 (27, ⟨.struct [(0, 24), (1, 22), (2, 25)], 72, [.slice, .slice, .slice]⟩),
 (29, ⟨.slice 22, 24, [.slice]⟩),
 (31, ⟨.struct [(0, 22)], 24, [.slice]⟩),
 (32, ⟨.slice 84, 24, [.slice]⟩),
 (33, ⟨.struct [(0, 31), (1, 22), (2, 32)], 72, [.slice, .slice, .slice]⟩),
 (34, ⟨.struct [(0, 31), (1, 22), (2, 32)], 72, [.slice, .slice, .slice]⟩),
 (41, ⟨.slice 94, 24, [.slice]⟩),
 (42, ⟨.slice 132, 24, [.slice]⟩),
 (43, ⟨.struct [(0, 22), (1, 42)], 48, [.slice, .slice]⟩),
 (44, ⟨.struct [(0, 22), (1, 42)], 48, [.slice, .slice]⟩),
 (48, ⟨.slice 136, 24, [.slice]⟩),
 (49, ⟨.struct [(0, 22), (1, 48)], 48, [.slice, .slice]⟩),
 (50, ⟨.struct [(0, 22), (1, 48)], 48, [.slice, .slice]⟩),
 (54, ⟨.slice 98, 24, [.slice]⟩),
 (64, ⟨.slice 146, 24, [.slice]⟩),
 (65, ⟨.struct [(0, 24), (1, 64)], 48, [.slice, .slice]⟩),
 (66, ⟨.struct [(0, 24), (1, 64)], 48, [.slice, .slice]⟩),
 (69, ⟨.slice 148, 24, [.slice]⟩),
 (70, ⟨.struct [(0, 31), (1, 69)], 48, [.slice, .slice]⟩),
 (71, ⟨.struct [(0, 31), (1, 69)], 48, [.slice, .slice]⟩),
 (83, ⟨.struct [(0, 2), (1, 29), (2, 22)], 56, [.int .i64, .slice, .slice]⟩),
 (84, ⟨.struct [(0, 2), (1, 29), (2, 22)], 56, [.int .i64, .slice, .slice]⟩),
 (85, ⟨.other, 8, [.ptr]⟩),
 (86, ⟨.array 48 22, 1152, [.slice, .slice, .slice, .slice, .slice, .slice, .slice, .slice, .slice, .slice, .slice, .slice, .slice, .slice, .slice, .slice, .slice, .slice, .slice, .slice, .slice, .slice, .slice, .slice, .slice, .slice, .slice, .slice, .slice, .slice, .slice, .slice, .slice, .slice, .slice, .slice, .slice, .slice, .slice, .slice, .slice, .slice, .slice, .slice, .slice, .slice, .slice, .slice]⟩),
 (87, ⟨.struct [(0, 31), (1, 86)], 1176, [.slice, .slice, .slice, .slice, .slice, .slice, .slice, .slice, .slice, .slice, .slice, .slice, .slice, .slice, .slice, .slice, .slice, .slice, .slice, .slice, .slice, .slice, .slice, .slice, .slice, .slice, .slice, .slice, .slice, .slice, .slice, .slice, .slice, .slice, .slice, .slice, .slice, .slice, .slice, .slice, .slice, .slice, .slice, .slice, .slice, .slice, .slice, .slice, .slice]⟩),
 (88, ⟨.struct [(0, 31), (1, 86)], 1176, [.slice, .slice, .slice, .slice, .slice, .slice, .slice, .slice, .slice, .slice, .slice, .slice, .slice, .slice, .slice, .slice, .slice, .slice, .slice, .slice, .slice, .slice, .slice, .slice, .slice, .slice, .slice, .slice, .slice, .slice, .slice, .slice, .slice, .slice, .slice, .slice, .slice, .slice, .slice, .slice, .slice, .slice, .slice, .slice, .slice, .slice, .slice, .slice, .slice]⟩),
 (93, ⟨.struct [(0, 22), (1, 22)], 48, [.slice, .slice]⟩),
 (94, ⟨.struct [(0, 22), (1, 22)], 48, [.slice, .slice]⟩),
 (98, ⟨.struct [(0, 22), (1, 22)], 48, [.slice, .slice]⟩),
 (105, ⟨.slice 150, 24, [.slice]⟩),
 (115, ⟨.struct [(0, 2), (1, 29), (2, 22)], 56, [.int .i64, .slice, .slice]⟩),
 (124, ⟨.struct [], 0, []⟩),
 (125, ⟨.struct [], 0, []⟩),
 (131, ⟨.struct [(0, 2), (1, 2), (2, 4), (3, 22)], 48, [.int .i64, .int .i64, .bool, .slice]⟩),
 (132, ⟨.struct [(0, 2), (1, 2), (2, 4), (3, 22)], 48, [.int .i64, .int .i64, .bool, .slice]⟩),
 (136, ⟨.struct [(0, 2), (1, 2), (2, 4), (3, 22)], 48, [.int .i64, .int .i64, .bool, .slice]⟩),
 (141, ⟨.other, 8, [.fn]⟩),
 (146, ⟨.struct [(0, 22), (1, 22)], 48, [.slice, .slice]⟩),
 (148, ⟨.struct [(0, 22), (1, 22)], 48, [.slice, .slice]⟩),
 (149, ⟨.struct [(0, 22), (1, 22), (2, 2), (3, 2)], 64, [.slice, .slice, .int .i64, .int .i64]⟩),
 (150, ⟨.struct [(0, 22), (1, 22), (2, 2), (3, 2)], 64, [.slice, .slice, .int .i64, .int .i64]⟩),
 (157, ⟨.slice 158, 24, [.slice]⟩),
 (158, ⟨.slice 4, 24, [.slice]⟩),
 (167, ⟨.other, 8, [.ptr]⟩),
 (168, ⟨.array 48 4, 48, [.bool, .bool, .bool, .bool, .bool, .bool, .bool, .bool, .bool, .bool, .bool, .bool, .bool, .bool, .bool, .bool, .bool, .bool, .bool, .bool, .bool, .bool, .bool, .bool, .bool, .bool, .bool, .bool, .bool, .bool, .bool, .bool, .bool, .bool, .bool, .bool, .bool, .bool, .bool, .bool, .bool, .bool, .bool, .bool, .bool, .bool, .bool, .bool]⟩),
 (169, ⟨.slice 3, 24, [.slice]⟩),
 (184, ⟨.array 24 22, 576, [.slice, .slice, .slice, .slice, .slice, .slice, .slice, .slice, .slice, .slice, .slice, .slice, .slice, .slice, .slice, .slice, .slice, .slice, .slice, .slice, .slice, .slice, .slice, .slice]⟩),
 (185, ⟨.array 24 22, 576, [.slice, .slice, .slice, .slice, .slice, .slice, .slice, .slice, .slice, .slice, .slice, .slice, .slice, .slice, .slice, .slice, .slice, .slice, .slice, .slice, .slice, .slice, .slice, .slice]⟩),
 (189, ⟨.other, 8, [.ptr]⟩),
 (194, ⟨.other, 8, [.ptr]⟩),
 (195, ⟨.struct [(0, 29)], 24, [.slice]⟩),
 (196, ⟨.struct [(0, 29)], 24, [.slice]⟩),
 (204, ⟨.struct [(0, 31), (1, 22), (2, 3)], 56, [.slice, .slice, .int .i64]⟩),
 (205, ⟨.struct [(0, 31), (1, 22), (2, 3)], 56, [.slice, .slice, .int .i64]⟩),
 (216, ⟨.other, 8, [.ptr]⟩),
 (227, ⟨.int .u32, 4, [.int .u32]⟩),
 (231, ⟨.other, 8, [.ptr]⟩),
 (237, ⟨.other, 8, [.ptr]⟩),
 (238, ⟨.struct [(0, 29)], 24, [.slice]⟩),
 (239, ⟨.struct [(0, 29)], 24, [.slice]⟩)]
theorem tab_check : (tabL.all fun p => tyCheck Try.prog p.1 p.2) = true := by kernel_rfl
theorem mixed : Try.prog.follows .mixedOrders = true := by kernel_rfl
noncomputable def S : Setup := { P := Try.prog, tab := Lg.look tabL, ok := tabOk tab_check, mixed := mixed }
theorem tab2 : S.tab 2 = some ⟨.int .i64, 8, [.int .i64]⟩ := rfl
theorem kd2 : S.kd 2 = some (.int .i64) := rfl
theorem tab3 : S.tab 3 = some ⟨.int .i64, 8, [.int .i64]⟩ := rfl
theorem kd3 : S.kd 3 = some (.int .i64) := rfl
theorem tab4 : S.tab 4 = some ⟨.bool, 1, [.bool]⟩ := rfl
theorem kd4 : S.kd 4 = some (.bool) := rfl
theorem tab5 : S.tab 5 = some ⟨.int .u8, 1, [.int .u8]⟩ := rfl
theorem kd5 : S.kd 5 = some (.int .u8) := rfl
theorem tab9 : S.tab 9 = some ⟨.string, 16, [.str]⟩ := rfl
theorem kd9 : S.kd 9 = some (.string) := rfl
theorem tab12 : S.tab 12 = some ⟨.int .u64, 8, [.int .u64]⟩ := rfl
theorem kd12 : S.kd 12 = some (.int .u64) := rfl
theorem tab21 : S.tab 21 = some ⟨.int .i32, 4, [.int .i32]⟩ := rfl
theorem kd21 : S.kd 21 = some (.int .i32) := rfl
theorem tab22 : S.tab 22 = some ⟨.slice 2, 24, [.slice]⟩ := rfl
theorem kd22 : S.kd 22 = some (.slice 2) := rfl
theorem tab23 : S.tab 23 = some ⟨.struct [(0, 22)], 24, [.slice]⟩ := rfl
theorem kd23 : S.kd 23 = some (.struct [(0, 22)]) := rfl
theorem tab24 : S.tab 24 = some ⟨.struct [(0, 22)], 24, [.slice]⟩ := rfl
theorem kd24 : S.kd 24 = some (.struct [(0, 22)]) := rfl
theorem tab25 : S.tab 25 = some ⟨.slice 115, 24, [.slice]⟩ := rfl
theorem kd25 : S.kd 25 = some (.slice 115) := rfl
theorem tab26 : S.tab 26 = some ⟨.struct [(0, 24), (1, 22), (2, 25)], 72, [.slice, .slice, .slice]⟩ := rfl
theorem kd26 : S.kd 26 = some (.struct [(0, 24), (1, 22), (2, 25)]) := rfl
theorem tab27 : S.tab 27 = some ⟨.struct [(0, 24), (1, 22), (2, 25)], 72, [.slice, .slice, .slice]⟩ := rfl
theorem kd27 : S.kd 27 = some (.struct [(0, 24), (1, 22), (2, 25)]) := rfl
theorem tab29 : S.tab 29 = some ⟨.slice 22, 24, [.slice]⟩ := rfl
theorem kd29 : S.kd 29 = some (.slice 22) := rfl
theorem tab31 : S.tab 31 = some ⟨.struct [(0, 22)], 24, [.slice]⟩ := rfl
theorem kd31 : S.kd 31 = some (.struct [(0, 22)]) := rfl
theorem tab32 : S.tab 32 = some ⟨.slice 84, 24, [.slice]⟩ := rfl
theorem kd32 : S.kd 32 = some (.slice 84) := rfl
theorem tab33 : S.tab 33 = some ⟨.struct [(0, 31), (1, 22), (2, 32)], 72, [.slice, .slice, .slice]⟩ := rfl
theorem kd33 : S.kd 33 = some (.struct [(0, 31), (1, 22), (2, 32)]) := rfl
theorem tab34 : S.tab 34 = some ⟨.struct [(0, 31), (1, 22), (2, 32)], 72, [.slice, .slice, .slice]⟩ := rfl
theorem kd34 : S.kd 34 = some (.struct [(0, 31), (1, 22), (2, 32)]) := rfl
theorem tab41 : S.tab 41 = some ⟨.slice 94, 24, [.slice]⟩ := rfl
theorem kd41 : S.kd 41 = some (.slice 94) := rfl
theorem tab42 : S.tab 42 = some ⟨.slice 132, 24, [.slice]⟩ := rfl
theorem kd42 : S.kd 42 = some (.slice 132) := rfl
theorem tab43 : S.tab 43 = some ⟨.struct [(0, 22), (1, 42)], 48, [.slice, .slice]⟩ := rfl
theorem kd43 : S.kd 43 = some (.struct [(0, 22), (1, 42)]) := rfl
theorem tab44 : S.tab 44 = some ⟨.struct [(0, 22), (1, 42)], 48, [.slice, .slice]⟩ := rfl
theorem kd44 : S.kd 44 = some (.struct [(0, 22), (1, 42)]) := rfl
theorem tab48 : S.tab 48 = some ⟨.slice 136, 24, [.slice]⟩ := rfl
theorem kd48 : S.kd 48 = some (.slice 136) := rfl
theorem tab49 : S.tab 49 = some ⟨.struct [(0, 22), (1, 48)], 48, [.slice, .slice]⟩ := rfl
theorem kd49 : S.kd 49 = some (.struct [(0, 22), (1, 48)]) := rfl
theorem tab50 : S.tab 50 = some ⟨.struct [(0, 22), (1, 48)], 48, [.slice, .slice]⟩ := rfl
theorem kd50 : S.kd 50 = some (.struct [(0, 22), (1, 48)]) := rfl
theorem tab54 : S.tab 54 = some ⟨.slice 98, 24, [.slice]⟩ := rfl
theorem kd54 : S.kd 54 = some (.slice 98) := rfl
theorem tab64 : S.tab 64 = some ⟨.slice 146, 24, [.slice]⟩ := rfl
theorem kd64 : S.kd 64 = some (.slice 146) := rfl
theorem tab65 : S.tab 65 = some ⟨.struct [(0, 24), (1, 64)], 48, [.slice, .slice]⟩ := rfl
theorem kd65 : S.kd 65 = some (.struct [(0, 24), (1, 64)]) := rfl
theorem tab66 : S.tab 66 = some ⟨.struct [(0, 24), (1, 64)], 48, [.slice, .slice]⟩ := rfl
theorem kd66 : S.kd 66 = some (.struct [(0, 24), (1, 64)]) := rfl
theorem tab69 : S.tab 69 = some ⟨.slice 148, 24, [.slice]⟩ := rfl
theorem kd69 : S.kd 69 = some (.slice 148) := rfl
theorem tab70 : S.tab 70 = some ⟨.struct [(0, 31), (1, 69)], 48, [.slice, .slice]⟩ := rfl
theorem kd70 : S.kd 70 = some (.struct [(0, 31), (1, 69)]) := rfl
theorem tab71 : S.tab 71 = some ⟨.struct [(0, 31), (1, 69)], 48, [.slice, .slice]⟩ := rfl
theorem kd71 : S.kd 71 = some (.struct [(0, 31), (1, 69)]) := rfl
theorem tab83 : S.tab 83 = some ⟨.struct [(0, 2), (1, 29), (2, 22)], 56, [.int .i64, .slice, .slice]⟩ := rfl
theorem kd83 : S.kd 83 = some (.struct [(0, 2), (1, 29), (2, 22)]) := rfl
theorem tab84 : S.tab 84 = some ⟨.struct [(0, 2), (1, 29), (2, 22)], 56, [.int .i64, .slice, .slice]⟩ := rfl
theorem kd84 : S.kd 84 = some (.struct [(0, 2), (1, 29), (2, 22)]) := rfl
theorem tab85 : S.tab 85 = some ⟨.other, 8, [.ptr]⟩ := rfl
theorem kd85 : S.kd 85 = some (.other) := rfl
theorem tab86 : S.tab 86 = some ⟨.array 48 22, 1152, [.slice, .slice, .slice, .slice, .slice, .slice, .slice, .slice, .slice, .slice, .slice, .slice, .slice, .slice, .slice, .slice, .slice, .slice, .slice, .slice, .slice, .slice, .slice, .slice, .slice, .slice, .slice, .slice, .slice, .slice, .slice, .slice, .slice, .slice, .slice, .slice, .slice, .slice, .slice, .slice, .slice, .slice, .slice, .slice, .slice, .slice, .slice, .slice]⟩ := rfl
theorem kd86 : S.kd 86 = some (.array 48 22) := rfl
theorem tab87 : S.tab 87 = some ⟨.struct [(0, 31), (1, 86)], 1176, [.slice, .slice, .slice, .slice, .slice, .slice, .slice, .slice, .slice, .slice, .slice, .slice, .slice, .slice, .slice, .slice, .slice, .slice, .slice, .slice, .slice, .slice, .slice, .slice, .slice, .slice, .slice, .slice, .slice, .slice, .slice, .slice, .slice, .slice, .slice, .slice, .slice, .slice, .slice, .slice, .slice, .slice, .slice, .slice, .slice, .slice, .slice, .slice, .slice]⟩ := rfl
theorem kd87 : S.kd 87 = some (.struct [(0, 31), (1, 86)]) := rfl
theorem tab88 : S.tab 88 = some ⟨.struct [(0, 31), (1, 86)], 1176, [.slice, .slice, .slice, .slice, .slice, .slice, .slice, .slice, .slice, .slice, .slice, .slice, .slice, .slice, .slice, .slice, .slice, .slice, .slice, .slice, .slice, .slice, .slice, .slice, .slice, .slice, .slice, .slice, .slice, .slice, .slice, .slice, .slice, .slice, .slice, .slice, .slice, .slice, .slice, .slice, .slice, .slice, .slice, .slice, .slice, .slice, .slice, .slice, .slice]⟩ := rfl
theorem kd88 : S.kd 88 = some (.struct [(0, 31), (1, 86)]) := rfl
theorem tab93 : S.tab 93 = some ⟨.struct [(0, 22), (1, 22)], 48, [.slice, .slice]⟩ := rfl
theorem kd93 : S.kd 93 = some (.struct [(0, 22), (1, 22)]) := rfl
theorem tab94 : S.tab 94 = some ⟨.struct [(0, 22), (1, 22)], 48, [.slice, .slice]⟩ := rfl
theorem kd94 : S.kd 94 = some (.struct [(0, 22), (1, 22)]) := rfl
theorem tab98 : S.tab 98 = some ⟨.struct [(0, 22), (1, 22)], 48, [.slice, .slice]⟩ := rfl
theorem kd98 : S.kd 98 = some (.struct [(0, 22), (1, 22)]) := rfl
theorem tab105 : S.tab 105 = some ⟨.slice 150, 24, [.slice]⟩ := rfl
theorem kd105 : S.kd 105 = some (.slice 150) := rfl
theorem tab115 : S.tab 115 = some ⟨.struct [(0, 2), (1, 29), (2, 22)], 56, [.int .i64, .slice, .slice]⟩ := rfl
theorem kd115 : S.kd 115 = some (.struct [(0, 2), (1, 29), (2, 22)]) := rfl
theorem tab124 : S.tab 124 = some ⟨.struct [], 0, []⟩ := rfl
theorem kd124 : S.kd 124 = some (.struct []) := rfl
theorem tab125 : S.tab 125 = some ⟨.struct [], 0, []⟩ := rfl
theorem kd125 : S.kd 125 = some (.struct []) := rfl
theorem tab131 : S.tab 131 = some ⟨.struct [(0, 2), (1, 2), (2, 4), (3, 22)], 48, [.int .i64, .int .i64, .bool, .slice]⟩ := rfl
theorem kd131 : S.kd 131 = some (.struct [(0, 2), (1, 2), (2, 4), (3, 22)]) := rfl
theorem tab132 : S.tab 132 = some ⟨.struct [(0, 2), (1, 2), (2, 4), (3, 22)], 48, [.int .i64, .int .i64, .bool, .slice]⟩ := rfl
theorem kd132 : S.kd 132 = some (.struct [(0, 2), (1, 2), (2, 4), (3, 22)]) := rfl
theorem tab136 : S.tab 136 = some ⟨.struct [(0, 2), (1, 2), (2, 4), (3, 22)], 48, [.int .i64, .int .i64, .bool, .slice]⟩ := rfl
theorem kd136 : S.kd 136 = some (.struct [(0, 2), (1, 2), (2, 4), (3, 22)]) := rfl
theorem tab141 : S.tab 141 = some ⟨.other, 8, [.fn]⟩ := rfl
theorem kd141 : S.kd 141 = some (.other) := rfl
theorem tab146 : S.tab 146 = some ⟨.struct [(0, 22), (1, 22)], 48, [.slice, .slice]⟩ := rfl
theorem kd146 : S.kd 146 = some (.struct [(0, 22), (1, 22)]) := rfl
theorem tab148 : S.tab 148 = some ⟨.struct [(0, 22), (1, 22)], 48, [.slice, .slice]⟩ := rfl
theorem kd148 : S.kd 148 = some (.struct [(0, 22), (1, 22)]) := rfl
theorem tab149 : S.tab 149 = some ⟨.struct [(0, 22), (1, 22), (2, 2), (3, 2)], 64, [.slice, .slice, .int .i64, .int .i64]⟩ := rfl
theorem kd149 : S.kd 149 = some (.struct [(0, 22), (1, 22), (2, 2), (3, 2)]) := rfl
theorem tab150 : S.tab 150 = some ⟨.struct [(0, 22), (1, 22), (2, 2), (3, 2)], 64, [.slice, .slice, .int .i64, .int .i64]⟩ := rfl
theorem kd150 : S.kd 150 = some (.struct [(0, 22), (1, 22), (2, 2), (3, 2)]) := rfl
theorem tab157 : S.tab 157 = some ⟨.slice 158, 24, [.slice]⟩ := rfl
theorem kd157 : S.kd 157 = some (.slice 158) := rfl
theorem tab158 : S.tab 158 = some ⟨.slice 4, 24, [.slice]⟩ := rfl
theorem kd158 : S.kd 158 = some (.slice 4) := rfl
theorem tab167 : S.tab 167 = some ⟨.other, 8, [.ptr]⟩ := rfl
theorem kd167 : S.kd 167 = some (.other) := rfl
theorem tab168 : S.tab 168 = some ⟨.array 48 4, 48, [.bool, .bool, .bool, .bool, .bool, .bool, .bool, .bool, .bool, .bool, .bool, .bool, .bool, .bool, .bool, .bool, .bool, .bool, .bool, .bool, .bool, .bool, .bool, .bool, .bool, .bool, .bool, .bool, .bool, .bool, .bool, .bool, .bool, .bool, .bool, .bool, .bool, .bool, .bool, .bool, .bool, .bool, .bool, .bool, .bool, .bool, .bool, .bool]⟩ := rfl
theorem kd168 : S.kd 168 = some (.array 48 4) := rfl
theorem tab169 : S.tab 169 = some ⟨.slice 3, 24, [.slice]⟩ := rfl
theorem kd169 : S.kd 169 = some (.slice 3) := rfl
theorem tab184 : S.tab 184 = some ⟨.array 24 22, 576, [.slice, .slice, .slice, .slice, .slice, .slice, .slice, .slice, .slice, .slice, .slice, .slice, .slice, .slice, .slice, .slice, .slice, .slice, .slice, .slice, .slice, .slice, .slice, .slice]⟩ := rfl
theorem kd184 : S.kd 184 = some (.array 24 22) := rfl
theorem tab185 : S.tab 185 = some ⟨.array 24 22, 576, [.slice, .slice, .slice, .slice, .slice, .slice, .slice, .slice, .slice, .slice, .slice, .slice, .slice, .slice, .slice, .slice, .slice, .slice, .slice, .slice, .slice, .slice, .slice, .slice]⟩ := rfl
theorem kd185 : S.kd 185 = some (.array 24 22) := rfl
theorem tab189 : S.tab 189 = some ⟨.other, 8, [.ptr]⟩ := rfl
theorem kd189 : S.kd 189 = some (.other) := rfl
theorem tab194 : S.tab 194 = some ⟨.other, 8, [.ptr]⟩ := rfl
theorem kd194 : S.kd 194 = some (.other) := rfl
theorem tab195 : S.tab 195 = some ⟨.struct [(0, 29)], 24, [.slice]⟩ := rfl
theorem kd195 : S.kd 195 = some (.struct [(0, 29)]) := rfl
theorem tab196 : S.tab 196 = some ⟨.struct [(0, 29)], 24, [.slice]⟩ := rfl
theorem kd196 : S.kd 196 = some (.struct [(0, 29)]) := rfl
theorem tab204 : S.tab 204 = some ⟨.struct [(0, 31), (1, 22), (2, 3)], 56, [.slice, .slice, .int .i64]⟩ := rfl
theorem kd204 : S.kd 204 = some (.struct [(0, 31), (1, 22), (2, 3)]) := rfl
theorem tab205 : S.tab 205 = some ⟨.struct [(0, 31), (1, 22), (2, 3)], 56, [.slice, .slice, .int .i64]⟩ := rfl
theorem kd205 : S.kd 205 = some (.struct [(0, 31), (1, 22), (2, 3)]) := rfl
theorem tab216 : S.tab 216 = some ⟨.other, 8, [.ptr]⟩ := rfl
theorem kd216 : S.kd 216 = some (.other) := rfl
theorem tab227 : S.tab 227 = some ⟨.int .u32, 4, [.int .u32]⟩ := rfl
theorem kd227 : S.kd 227 = some (.int .u32) := rfl
theorem tab231 : S.tab 231 = some ⟨.other, 8, [.ptr]⟩ := rfl
theorem kd231 : S.kd 231 = some (.other) := rfl
theorem tab237 : S.tab 237 = some ⟨.other, 8, [.ptr]⟩ := rfl
theorem kd237 : S.kd 237 = some (.other) := rfl
theorem tab238 : S.tab 238 = some ⟨.struct [(0, 29)], 24, [.slice]⟩ := rfl
theorem kd238 : S.kd 238 = some (.struct [(0, 29)]) := rfl
theorem tab239 : S.tab 239 = some ⟨.struct [(0, 29)], 24, [.slice]⟩ := rfl
theorem kd239 : S.kd 239 = some (.struct [(0, 29)]) := rfl
attribute [go_sem] tab2 kd2 tab3 kd3 tab4 kd4 tab5 kd5 tab9 kd9 tab12 kd12 tab21 kd21 tab22 kd22 tab23 kd23 tab24 kd24 tab25 kd25 tab26 kd26 tab27 kd27 tab29 kd29 tab31 kd31 tab32 kd32 tab33 kd33 tab34 kd34 tab41 kd41 tab42 kd42 tab43 kd43 tab44 kd44 tab48 kd48 tab49 kd49 tab50 kd50 tab54 kd54 tab64 kd64 tab65 kd65 tab66 kd66 tab69 kd69 tab70 kd70 tab71 kd71 tab83 kd83 tab84 kd84 tab85 kd85 tab86 kd86 tab87 kd87 tab88 kd88 tab93 kd93 tab94 kd94 tab98 kd98 tab105 kd105 tab115 kd115 tab124 kd124 tab125 kd125 tab131 kd131 tab132 kd132 tab136 kd136 tab141 kd141 tab146 kd146 tab148 kd148 tab149 kd149 tab150 kd150 tab157 kd157 tab158 kd158 tab167 kd167 tab168 kd168 tab169 kd169 tab184 kd184 tab185 kd185 tab189 kd189 tab194 kd194 tab195 kd195 tab196 kd196 tab204 kd204 tab205 kd205 tab216 kd216 tab227 kd227 tab231 kd231 tab237 kd237 tab238 kd238 tab239 kd239
end Go.Proofs.Ytlcdahaihlflaaa

/-
  The types that the rules ask for, out of the translation; made by mksetup.py. The check against the program is a closed fact.
-/
import Derived.Test.YtobbdopkdhjghaaProg
import Derived.Test.YtobbdopkdhjghaaLgK4
import Derived.KernelRfl
namespace Go.Proofs.Ytobbdopkdhjghaa
open Go Go.Lg

def tabL : List (Nat × TyI) := [
  (2, ⟨.int .i64, 8, [.int .i64]⟩),
  (3, ⟨.int .i64, 8, [.int .i64]⟩),
  (4, ⟨.bool, 1, [.bool]⟩),
  (5, ⟨.int .u8, 1, [.int .u8]⟩),
  (9, ⟨.string, 16, [.str]⟩),
  (12, ⟨.int .u64, 8, [.int .u64]⟩),
  (21, ⟨.int .i32, 4, [.int .i32]⟩),
  (22, ⟨.slice 2, 24, [.slice]⟩),
  (23, ⟨.struct [(0, 22)], 24, [.slice]⟩),
  (24, ⟨.struct [(0, 22)], 24, [.slice]⟩),
  (26, ⟨.slice 22, 24, [.slice]⟩),
  (28, ⟨.struct [(0, 22)], 24, [.slice]⟩),
  (44, ⟨.slice 215, 24, [.slice]⟩),
  (45, ⟨.struct [(0, 24), (1, 44)], 48, [.slice, .slice]⟩),
  (46, ⟨.struct [(0, 24), (1, 44)], 48, [.slice, .slice]⟩),
  (49, ⟨.slice 143, 24, [.slice]⟩),
  (50, ⟨.struct [(0, 28), (1, 49)], 48, [.slice, .slice]⟩),
  (51, ⟨.struct [(0, 28), (1, 49)], 48, [.slice, .slice]⟩),
  (58, ⟨.slice 231, 24, [.slice]⟩),
  (59, ⟨.struct [(0, 2), (1, 58), (2, 22)], 56, [.int .i64, .slice, .slice]⟩),
  (60, ⟨.struct [(0, 2), (1, 58), (2, 22)], 56, [.int .i64, .slice, .slice]⟩),
  (62, ⟨.slice 155, 24, [.slice]⟩),
  (63, ⟨.struct [(0, 2), (1, 62), (2, 22)], 56, [.int .i64, .slice, .slice]⟩),
  (64, ⟨.struct [(0, 2), (1, 62), (2, 22)], 56, [.int .i64, .slice, .slice]⟩),
  (71, ⟨.slice 172, 24, [.slice]⟩),
  (75, ⟨.slice 174, 24, [.slice]⟩),
  (81, ⟨.slice 5, 24, [.slice]⟩),
  (83, ⟨.struct [(0, 22), (1, 22)], 48, [.slice, .slice]⟩),
  (84, ⟨.struct [(0, 22), (1, 22)], 48, [.slice, .slice]⟩),
  (94, ⟨.slice 192, 24, [.slice]⟩),
  (95, ⟨.slice 255, 24, [.slice]⟩),
  (96, ⟨.struct [(0, 22), (1, 95)], 48, [.slice, .slice]⟩),
  (97, ⟨.struct [(0, 22), (1, 95)], 48, [.slice, .slice]⟩),
  (100, ⟨.slice 258, 24, [.slice]⟩),
  (101, ⟨.struct [(0, 22), (1, 100)], 48, [.slice, .slice]⟩),
  (102, ⟨.struct [(0, 22), (1, 100)], 48, [.slice, .slice]⟩),
  (105, ⟨.slice 84, 24, [.slice]⟩),
  (117, ⟨.struct [(0, 28), (1, 22)], 48, [.slice, .slice]⟩),
  (118, ⟨.struct [(0, 28), (1, 22)], 48, [.slice, .slice]⟩),
  (122, ⟨.slice 26, 24, [.slice]⟩),
  (125, ⟨.array 61 26, 1464, [.slice, .slice, .slice, .slice, .slice, .slice, .slice, .slice, .slice, .slice, .slice, .slice, .slice, .slice, .slice, .slice, .slice, .slice, .slice, .slice, .slice, .slice, .slice, .slice, .slice, .slice, .slice, .slice, .slice, .slice, .slice, .slice, .slice, .slice, .slice, .slice, .slice, .slice, .slice, .slice, .slice, .slice, .slice, .slice, .slice, .slice, .slice, .slice, .slice, .slice, .slice, .slice, .slice, .slice, .slice, .slice, .slice, .slice, .slice, .slice, .slice]⟩),
  (126, ⟨.array 61 26, 1464, [.slice, .slice, .slice, .slice, .slice, .slice, .slice, .slice, .slice, .slice, .slice, .slice, .slice, .slice, .slice, .slice, .slice, .slice, .slice, .slice, .slice, .slice, .slice, .slice, .slice, .slice, .slice, .slice, .slice, .slice, .slice, .slice, .slice, .slice, .slice, .slice, .slice, .slice, .slice, .slice, .slice, .slice, .slice, .slice, .slice, .slice, .slice, .slice, .slice, .slice, .slice, .slice, .slice, .slice, .slice, .slice, .slice, .slice, .slice, .slice, .slice]⟩),
  (143, ⟨.struct [(0, 22), (1, 22)], 48, [.slice, .slice]⟩),
  (146, ⟨.slice 151, 24, [.slice]⟩),
  (150, ⟨.struct [(0, 2), (1, 2)], 16, [.int .i64, .int .i64]⟩),
  (151, ⟨.struct [(0, 2), (1, 2)], 16, [.int .i64, .int .i64]⟩),
  (154, ⟨.struct [(0, 2), (1, 22), (2, 2)], 40, [.int .i64, .slice, .int .i64]⟩),
  (155, ⟨.struct [(0, 2), (1, 22), (2, 2)], 40, [.int .i64, .slice, .int .i64]⟩),
  (157, ⟨.other, 8, [.ptr]⟩),
  (158, ⟨.array 16 4, 16, [.bool, .bool, .bool, .bool, .bool, .bool, .bool, .bool, .bool, .bool, .bool, .bool, .bool, .bool, .bool, .bool]⟩),
  (159, ⟨.array 16 158, 256, List.replicate 256 (.bool)⟩),
  (163, ⟨.array 16 2, 128, [.int .i64, .int .i64, .int .i64, .int .i64, .int .i64, .int .i64, .int .i64, .int .i64, .int .i64, .int .i64, .int .i64, .int .i64, .int .i64, .int .i64, .int .i64, .int .i64]⟩),
  (164, ⟨.array 16 163, 2048, List.replicate 256 (.int .i64)⟩),
  (171, ⟨.struct [(0, 2), (1, 22)], 32, [.int .i64, .slice]⟩),
  (172, ⟨.struct [(0, 2), (1, 22)], 32, [.int .i64, .slice]⟩),
  (174, ⟨.struct [(0, 2), (1, 22)], 32, [.int .i64, .slice]⟩),
  (180, ⟨.other, 8, [.ptr]⟩),
  (192, ⟨.struct [(0, 22), (1, 22)], 48, [.slice, .slice]⟩),
  (205, ⟨.slice 3, 24, [.slice]⟩),
  (209, ⟨.other, 8, [.ptr]⟩),
  (213, ⟨.int .u64, 8, [.int .u64]⟩),
  (215, ⟨.struct [(0, 22), (1, 22)], 48, [.slice, .slice]⟩),
  (228, ⟨.other, 16, [.iface]⟩),
  (231, ⟨.struct [(0, 2), (1, 22), (2, 2)], 40, [.int .i64, .slice, .int .i64]⟩),
  (244, ⟨.struct [(0, 81), (1, 3), (2, 2)], 40, [.slice, .int .i64, .int .i64]⟩),
  (245, ⟨.struct [(0, 81), (1, 3), (2, 2)], 40, [.slice, .int .i64, .int .i64]⟩),
  (254, ⟨.struct [(0, 2), (1, 2), (2, 4), (3, 22)], 48, [.int .i64, .int .i64, .bool, .slice]⟩),
  (255, ⟨.struct [(0, 2), (1, 2), (2, 4), (3, 22)], 48, [.int .i64, .int .i64, .bool, .slice]⟩),
  (258, ⟨.struct [(0, 2), (1, 2), (2, 4), (3, 22)], 48, [.int .i64, .int .i64, .bool, .slice]⟩),
  (263, ⟨.other, 8, [.fn]⟩),
  (268, ⟨.struct [(0, 28), (1, 22), (2, 3)], 56, [.slice, .slice, .int .i64]⟩),
  (269, ⟨.struct [(0, 28), (1, 22), (2, 3)], 56, [.slice, .slice, .int .i64]⟩),
  (272, ⟨.int .i64, 8, [.int .i64]⟩),
  (280, ⟨.int .u32, 4, [.int .u32]⟩),
  (282, ⟨.int .u64, 8, [.int .u64]⟩),
  (297, ⟨.struct [(0, 2), (1, 22)], 32, [.int .i64, .slice]⟩),
  (303, ⟨.array 24 22, 576, [.slice, .slice, .slice, .slice, .slice, .slice, .slice, .slice, .slice, .slice, .slice, .slice, .slice, .slice, .slice, .slice, .slice, .slice, .slice, .slice, .slice, .slice, .slice, .slice]⟩),
  (304, ⟨.array 24 22, 576, [.slice, .slice, .slice, .slice, .slice, .slice, .slice, .slice, .slice, .slice, .slice, .slice, .slice, .slice, .slice, .slice, .slice, .slice, .slice, .slice, .slice, .slice, .slice, .slice]⟩),
  (308, ⟨.other, 8, [.ptr]⟩),
  (309, ⟨.other, 8, [.ptr]⟩),
  (310, ⟨.int .u64, 8, [.int .u64]⟩),
  (314, ⟨.other, 8, [.ptr]⟩),
  (326, ⟨.other, 8, [.ptr]⟩),
  (342, ⟨.other, 8, [.ptr]⟩),
  (348, ⟨.other, 8, [.ptr]⟩),
  (349, ⟨.struct [(0, 26)], 24, [.slice]⟩),
  (350, ⟨.struct [(0, 26)], 24, [.slice]⟩)]
theorem tab_check : (tabL.all fun p => tyCheck Try.prog p.1 p.2) = true := by kernel_rfl
theorem mixed : Try.prog.follows .mixedOrders = true := by kernel_rfl
noncomputable def S : Setup := { P := Try.prog, tab := Lg.look tabL, ok := tabOk tab_check, mixed := mixed }
theorem tab2 : S.tab 2 = some ⟨.int .i64, 8, [.int .i64]⟩ := rfl
theorem kd2 : S.kd 2 = some (.int .i64) := rfl
theorem tab3 : S.tab 3 = some ⟨.int .i64, 8, [.int .i64]⟩ := rfl
theorem kd3 : S.kd 3 = some (.int .i64) := rfl
theorem tab4 : S.tab 4 = some ⟨.bool, 1, [.bool]⟩ := rfl
theorem kd4 : S.kd 4 = some (.bool) := rfl
theorem tab5 : S.tab 5 = some ⟨.int .u8, 1, [.int .u8]⟩ := rfl
theorem kd5 : S.kd 5 = some (.int .u8) := rfl
theorem tab9 : S.tab 9 = some ⟨.string, 16, [.str]⟩ := rfl
theorem kd9 : S.kd 9 = some (.string) := rfl
theorem tab12 : S.tab 12 = some ⟨.int .u64, 8, [.int .u64]⟩ := rfl
theorem kd12 : S.kd 12 = some (.int .u64) := rfl
theorem tab21 : S.tab 21 = some ⟨.int .i32, 4, [.int .i32]⟩ := rfl
theorem kd21 : S.kd 21 = some (.int .i32) := rfl
theorem tab22 : S.tab 22 = some ⟨.slice 2, 24, [.slice]⟩ := rfl
theorem kd22 : S.kd 22 = some (.slice 2) := rfl
theorem tab23 : S.tab 23 = some ⟨.struct [(0, 22)], 24, [.slice]⟩ := rfl
theorem kd23 : S.kd 23 = some (.struct [(0, 22)]) := rfl
theorem tab24 : S.tab 24 = some ⟨.struct [(0, 22)], 24, [.slice]⟩ := rfl
theorem kd24 : S.kd 24 = some (.struct [(0, 22)]) := rfl
theorem tab26 : S.tab 26 = some ⟨.slice 22, 24, [.slice]⟩ := rfl
theorem kd26 : S.kd 26 = some (.slice 22) := rfl
theorem tab28 : S.tab 28 = some ⟨.struct [(0, 22)], 24, [.slice]⟩ := rfl
theorem kd28 : S.kd 28 = some (.struct [(0, 22)]) := rfl
theorem tab44 : S.tab 44 = some ⟨.slice 215, 24, [.slice]⟩ := rfl
theorem kd44 : S.kd 44 = some (.slice 215) := rfl
theorem tab45 : S.tab 45 = some ⟨.struct [(0, 24), (1, 44)], 48, [.slice, .slice]⟩ := rfl
theorem kd45 : S.kd 45 = some (.struct [(0, 24), (1, 44)]) := rfl
theorem tab46 : S.tab 46 = some ⟨.struct [(0, 24), (1, 44)], 48, [.slice, .slice]⟩ := rfl
theorem kd46 : S.kd 46 = some (.struct [(0, 24), (1, 44)]) := rfl
theorem tab49 : S.tab 49 = some ⟨.slice 143, 24, [.slice]⟩ := rfl
theorem kd49 : S.kd 49 = some (.slice 143) := rfl
theorem tab50 : S.tab 50 = some ⟨.struct [(0, 28), (1, 49)], 48, [.slice, .slice]⟩ := rfl
theorem kd50 : S.kd 50 = some (.struct [(0, 28), (1, 49)]) := rfl
theorem tab51 : S.tab 51 = some ⟨.struct [(0, 28), (1, 49)], 48, [.slice, .slice]⟩ := rfl
theorem kd51 : S.kd 51 = some (.struct [(0, 28), (1, 49)]) := rfl
theorem tab58 : S.tab 58 = some ⟨.slice 231, 24, [.slice]⟩ := rfl
theorem kd58 : S.kd 58 = some (.slice 231) := rfl
theorem tab59 : S.tab 59 = some ⟨.struct [(0, 2), (1, 58), (2, 22)], 56, [.int .i64, .slice, .slice]⟩ := rfl
theorem kd59 : S.kd 59 = some (.struct [(0, 2), (1, 58), (2, 22)]) := rfl
theorem tab60 : S.tab 60 = some ⟨.struct [(0, 2), (1, 58), (2, 22)], 56, [.int .i64, .slice, .slice]⟩ := rfl
theorem kd60 : S.kd 60 = some (.struct [(0, 2), (1, 58), (2, 22)]) := rfl
theorem tab62 : S.tab 62 = some ⟨.slice 155, 24, [.slice]⟩ := rfl
theorem kd62 : S.kd 62 = some (.slice 155) := rfl
theorem tab63 : S.tab 63 = some ⟨.struct [(0, 2), (1, 62), (2, 22)], 56, [.int .i64, .slice, .slice]⟩ := rfl
theorem kd63 : S.kd 63 = some (.struct [(0, 2), (1, 62), (2, 22)]) := rfl
theorem tab64 : S.tab 64 = some ⟨.struct [(0, 2), (1, 62), (2, 22)], 56, [.int .i64, .slice, .slice]⟩ := rfl
theorem kd64 : S.kd 64 = some (.struct [(0, 2), (1, 62), (2, 22)]) := rfl
theorem tab71 : S.tab 71 = some ⟨.slice 172, 24, [.slice]⟩ := rfl
theorem kd71 : S.kd 71 = some (.slice 172) := rfl
theorem tab75 : S.tab 75 = some ⟨.slice 174, 24, [.slice]⟩ := rfl
theorem kd75 : S.kd 75 = some (.slice 174) := rfl
theorem tab81 : S.tab 81 = some ⟨.slice 5, 24, [.slice]⟩ := rfl
theorem kd81 : S.kd 81 = some (.slice 5) := rfl
theorem tab83 : S.tab 83 = some ⟨.struct [(0, 22), (1, 22)], 48, [.slice, .slice]⟩ := rfl
theorem kd83 : S.kd 83 = some (.struct [(0, 22), (1, 22)]) := rfl
theorem tab84 : S.tab 84 = some ⟨.struct [(0, 22), (1, 22)], 48, [.slice, .slice]⟩ := rfl
theorem kd84 : S.kd 84 = some (.struct [(0, 22), (1, 22)]) := rfl
theorem tab94 : S.tab 94 = some ⟨.slice 192, 24, [.slice]⟩ := rfl
theorem kd94 : S.kd 94 = some (.slice 192) := rfl
theorem tab95 : S.tab 95 = some ⟨.slice 255, 24, [.slice]⟩ := rfl
theorem kd95 : S.kd 95 = some (.slice 255) := rfl
theorem tab96 : S.tab 96 = some ⟨.struct [(0, 22), (1, 95)], 48, [.slice, .slice]⟩ := rfl
theorem kd96 : S.kd 96 = some (.struct [(0, 22), (1, 95)]) := rfl
theorem tab97 : S.tab 97 = some ⟨.struct [(0, 22), (1, 95)], 48, [.slice, .slice]⟩ := rfl
theorem kd97 : S.kd 97 = some (.struct [(0, 22), (1, 95)]) := rfl
theorem tab100 : S.tab 100 = some ⟨.slice 258, 24, [.slice]⟩ := rfl
theorem kd100 : S.kd 100 = some (.slice 258) := rfl
theorem tab101 : S.tab 101 = some ⟨.struct [(0, 22), (1, 100)], 48, [.slice, .slice]⟩ := rfl
theorem kd101 : S.kd 101 = some (.struct [(0, 22), (1, 100)]) := rfl
theorem tab102 : S.tab 102 = some ⟨.struct [(0, 22), (1, 100)], 48, [.slice, .slice]⟩ := rfl
theorem kd102 : S.kd 102 = some (.struct [(0, 22), (1, 100)]) := rfl
theorem tab105 : S.tab 105 = some ⟨.slice 84, 24, [.slice]⟩ := rfl
theorem kd105 : S.kd 105 = some (.slice 84) := rfl
theorem tab117 : S.tab 117 = some ⟨.struct [(0, 28), (1, 22)], 48, [.slice, .slice]⟩ := rfl
theorem kd117 : S.kd 117 = some (.struct [(0, 28), (1, 22)]) := rfl
theorem tab118 : S.tab 118 = some ⟨.struct [(0, 28), (1, 22)], 48, [.slice, .slice]⟩ := rfl
theorem kd118 : S.kd 118 = some (.struct [(0, 28), (1, 22)]) := rfl
theorem tab122 : S.tab 122 = some ⟨.slice 26, 24, [.slice]⟩ := rfl
theorem kd122 : S.kd 122 = some (.slice 26) := rfl
theorem tab125 : S.tab 125 = some ⟨.array 61 26, 1464, [.slice, .slice, .slice, .slice, .slice, .slice, .slice, .slice, .slice, .slice, .slice, .slice, .slice, .slice, .slice, .slice, .slice, .slice, .slice, .slice, .slice, .slice, .slice, .slice, .slice, .slice, .slice, .slice, .slice, .slice, .slice, .slice, .slice, .slice, .slice, .slice, .slice, .slice, .slice, .slice, .slice, .slice, .slice, .slice, .slice, .slice, .slice, .slice, .slice, .slice, .slice, .slice, .slice, .slice, .slice, .slice, .slice, .slice, .slice, .slice, .slice]⟩ := rfl
theorem kd125 : S.kd 125 = some (.array 61 26) := rfl
theorem tab126 : S.tab 126 = some ⟨.array 61 26, 1464, [.slice, .slice, .slice, .slice, .slice, .slice, .slice, .slice, .slice, .slice, .slice, .slice, .slice, .slice, .slice, .slice, .slice, .slice, .slice, .slice, .slice, .slice, .slice, .slice, .slice, .slice, .slice, .slice, .slice, .slice, .slice, .slice, .slice, .slice, .slice, .slice, .slice, .slice, .slice, .slice, .slice, .slice, .slice, .slice, .slice, .slice, .slice, .slice, .slice, .slice, .slice, .slice, .slice, .slice, .slice, .slice, .slice, .slice, .slice, .slice, .slice]⟩ := rfl
theorem kd126 : S.kd 126 = some (.array 61 26) := rfl
theorem tab143 : S.tab 143 = some ⟨.struct [(0, 22), (1, 22)], 48, [.slice, .slice]⟩ := rfl
theorem kd143 : S.kd 143 = some (.struct [(0, 22), (1, 22)]) := rfl
theorem tab146 : S.tab 146 = some ⟨.slice 151, 24, [.slice]⟩ := rfl
theorem kd146 : S.kd 146 = some (.slice 151) := rfl
theorem tab150 : S.tab 150 = some ⟨.struct [(0, 2), (1, 2)], 16, [.int .i64, .int .i64]⟩ := rfl
theorem kd150 : S.kd 150 = some (.struct [(0, 2), (1, 2)]) := rfl
theorem tab151 : S.tab 151 = some ⟨.struct [(0, 2), (1, 2)], 16, [.int .i64, .int .i64]⟩ := rfl
theorem kd151 : S.kd 151 = some (.struct [(0, 2), (1, 2)]) := rfl
theorem tab154 : S.tab 154 = some ⟨.struct [(0, 2), (1, 22), (2, 2)], 40, [.int .i64, .slice, .int .i64]⟩ := rfl
theorem kd154 : S.kd 154 = some (.struct [(0, 2), (1, 22), (2, 2)]) := rfl
theorem tab155 : S.tab 155 = some ⟨.struct [(0, 2), (1, 22), (2, 2)], 40, [.int .i64, .slice, .int .i64]⟩ := rfl
theorem kd155 : S.kd 155 = some (.struct [(0, 2), (1, 22), (2, 2)]) := rfl
theorem tab157 : S.tab 157 = some ⟨.other, 8, [.ptr]⟩ := rfl
theorem kd157 : S.kd 157 = some (.other) := rfl
theorem tab158 : S.tab 158 = some ⟨.array 16 4, 16, [.bool, .bool, .bool, .bool, .bool, .bool, .bool, .bool, .bool, .bool, .bool, .bool, .bool, .bool, .bool, .bool]⟩ := rfl
theorem kd158 : S.kd 158 = some (.array 16 4) := rfl
theorem tab159 : S.tab 159 = some ⟨.array 16 158, 256, List.replicate 256 (.bool)⟩ := rfl
theorem kd159 : S.kd 159 = some (.array 16 158) := rfl
theorem tab163 : S.tab 163 = some ⟨.array 16 2, 128, [.int .i64, .int .i64, .int .i64, .int .i64, .int .i64, .int .i64, .int .i64, .int .i64, .int .i64, .int .i64, .int .i64, .int .i64, .int .i64, .int .i64, .int .i64, .int .i64]⟩ := rfl
theorem kd163 : S.kd 163 = some (.array 16 2) := rfl
theorem tab164 : S.tab 164 = some ⟨.array 16 163, 2048, List.replicate 256 (.int .i64)⟩ := rfl
theorem kd164 : S.kd 164 = some (.array 16 163) := rfl
theorem tab171 : S.tab 171 = some ⟨.struct [(0, 2), (1, 22)], 32, [.int .i64, .slice]⟩ := rfl
theorem kd171 : S.kd 171 = some (.struct [(0, 2), (1, 22)]) := rfl
theorem tab172 : S.tab 172 = some ⟨.struct [(0, 2), (1, 22)], 32, [.int .i64, .slice]⟩ := rfl
theorem kd172 : S.kd 172 = some (.struct [(0, 2), (1, 22)]) := rfl
theorem tab174 : S.tab 174 = some ⟨.struct [(0, 2), (1, 22)], 32, [.int .i64, .slice]⟩ := rfl
theorem kd174 : S.kd 174 = some (.struct [(0, 2), (1, 22)]) := rfl
theorem tab180 : S.tab 180 = some ⟨.other, 8, [.ptr]⟩ := rfl
theorem kd180 : S.kd 180 = some (.other) := rfl
theorem tab192 : S.tab 192 = some ⟨.struct [(0, 22), (1, 22)], 48, [.slice, .slice]⟩ := rfl
theorem kd192 : S.kd 192 = some (.struct [(0, 22), (1, 22)]) := rfl
theorem tab205 : S.tab 205 = some ⟨.slice 3, 24, [.slice]⟩ := rfl
theorem kd205 : S.kd 205 = some (.slice 3) := rfl
theorem tab209 : S.tab 209 = some ⟨.other, 8, [.ptr]⟩ := rfl
theorem kd209 : S.kd 209 = some (.other) := rfl
theorem tab213 : S.tab 213 = some ⟨.int .u64, 8, [.int .u64]⟩ := rfl
theorem kd213 : S.kd 213 = some (.int .u64) := rfl
theorem tab215 : S.tab 215 = some ⟨.struct [(0, 22), (1, 22)], 48, [.slice, .slice]⟩ := rfl
theorem kd215 : S.kd 215 = some (.struct [(0, 22), (1, 22)]) := rfl
theorem tab228 : S.tab 228 = some ⟨.other, 16, [.iface]⟩ := rfl
theorem kd228 : S.kd 228 = some (.other) := rfl
theorem tab231 : S.tab 231 = some ⟨.struct [(0, 2), (1, 22), (2, 2)], 40, [.int .i64, .slice, .int .i64]⟩ := rfl
theorem kd231 : S.kd 231 = some (.struct [(0, 2), (1, 22), (2, 2)]) := rfl
theorem tab244 : S.tab 244 = some ⟨.struct [(0, 81), (1, 3), (2, 2)], 40, [.slice, .int .i64, .int .i64]⟩ := rfl
theorem kd244 : S.kd 244 = some (.struct [(0, 81), (1, 3), (2, 2)]) := rfl
theorem tab245 : S.tab 245 = some ⟨.struct [(0, 81), (1, 3), (2, 2)], 40, [.slice, .int .i64, .int .i64]⟩ := rfl
theorem kd245 : S.kd 245 = some (.struct [(0, 81), (1, 3), (2, 2)]) := rfl
theorem tab254 : S.tab 254 = some ⟨.struct [(0, 2), (1, 2), (2, 4), (3, 22)], 48, [.int .i64, .int .i64, .bool, .slice]⟩ := rfl
theorem kd254 : S.kd 254 = some (.struct [(0, 2), (1, 2), (2, 4), (3, 22)]) := rfl
theorem tab255 : S.tab 255 = some ⟨.struct [(0, 2), (1, 2), (2, 4), (3, 22)], 48, [.int .i64, .int .i64, .bool, .slice]⟩ := rfl
theorem kd255 : S.kd 255 = some (.struct [(0, 2), (1, 2), (2, 4), (3, 22)]) := rfl
theorem tab258 : S.tab 258 = some ⟨.struct [(0, 2), (1, 2), (2, 4), (3, 22)], 48, [.int .i64, .int .i64, .bool, .slice]⟩ := rfl
theorem kd258 : S.kd 258 = some (.struct [(0, 2), (1, 2), (2, 4), (3, 22)]) := rfl
theorem tab263 : S.tab 263 = some ⟨.other, 8, [.fn]⟩ := rfl
theorem kd263 : S.kd 263 = some (.other) := rfl
theorem tab268 : S.tab 268 = some ⟨.struct [(0, 28), (1, 22), (2, 3)], 56, [.slice, .slice, .int .i64]⟩ := rfl
theorem kd268 : S.kd 268 = some (.struct [(0, 28), (1, 22), (2, 3)]) := rfl
theorem tab269 : S.tab 269 = some ⟨.struct [(0, 28), (1, 22), (2, 3)], 56, [.slice, .slice, .int .i64]⟩ := rfl
theorem kd269 : S.kd 269 = some (.struct [(0, 28), (1, 22), (2, 3)]) := rfl
theorem tab272 : S.tab 272 = some ⟨.int .i64, 8, [.int .i64]⟩ := rfl
theorem kd272 : S.kd 272 = some (.int .i64) := rfl
theorem tab280 : S.tab 280 = some ⟨.int .u32, 4, [.int .u32]⟩ := rfl
theorem kd280 : S.kd 280 = some (.int .u32) := rfl
theorem tab282 : S.tab 282 = some ⟨.int .u64, 8, [.int .u64]⟩ := rfl
theorem kd282 : S.kd 282 = some (.int .u64) := rfl
theorem tab297 : S.tab 297 = some ⟨.struct [(0, 2), (1, 22)], 32, [.int .i64, .slice]⟩ := rfl
theorem kd297 : S.kd 297 = some (.struct [(0, 2), (1, 22)]) := rfl
theorem tab303 : S.tab 303 = some ⟨.array 24 22, 576, [.slice, .slice, .slice, .slice, .slice, .slice, .slice, .slice, .slice, .slice, .slice, .slice, .slice, .slice, .slice, .slice, .slice, .slice, .slice, .slice, .slice, .slice, .slice, .slice]⟩ := rfl
theorem kd303 : S.kd 303 = some (.array 24 22) := rfl
theorem tab304 : S.tab 304 = some ⟨.array 24 22, 576, [.slice, .slice, .slice, .slice, .slice, .slice, .slice, .slice, .slice, .slice, .slice, .slice, .slice, .slice, .slice, .slice, .slice, .slice, .slice, .slice, .slice, .slice, .slice, .slice]⟩ := rfl
theorem kd304 : S.kd 304 = some (.array 24 22) := rfl
theorem tab308 : S.tab 308 = some ⟨.other, 8, [.ptr]⟩ := rfl
theorem kd308 : S.kd 308 = some (.other) := rfl
theorem tab309 : S.tab 309 = some ⟨.other, 8, [.ptr]⟩ := rfl
theorem kd309 : S.kd 309 = some (.other) := rfl
theorem tab310 : S.tab 310 = some ⟨.int .u64, 8, [.int .u64]⟩ := rfl
theorem kd310 : S.kd 310 = some (.int .u64) := rfl
theorem tab314 : S.tab 314 = some ⟨.other, 8, [.ptr]⟩ := rfl
theorem kd314 : S.kd 314 = some (.other) := rfl
theorem tab326 : S.tab 326 = some ⟨.other, 8, [.ptr]⟩ := rfl
theorem kd326 : S.kd 326 = some (.other) := rfl
theorem tab342 : S.tab 342 = some ⟨.other, 8, [.ptr]⟩ := rfl
theorem kd342 : S.kd 342 = some (.other) := rfl
theorem tab348 : S.tab 348 = some ⟨.other, 8, [.ptr]⟩ := rfl
theorem kd348 : S.kd 348 = some (.other) := rfl
theorem tab349 : S.tab 349 = some ⟨.struct [(0, 26)], 24, [.slice]⟩ := rfl
theorem kd349 : S.kd 349 = some (.struct [(0, 26)]) := rfl
theorem tab350 : S.tab 350 = some ⟨.struct [(0, 26)], 24, [.slice]⟩ := rfl
theorem kd350 : S.kd 350 = some (.struct [(0, 26)]) := rfl
attribute [go_sem] tab2 kd2 tab3 kd3 tab4 kd4 tab5 kd5 tab9 kd9 tab12 kd12 tab21 kd21 tab22 kd22 tab23 kd23 tab24 kd24 tab26 kd26 tab28 kd28 tab44 kd44 tab45 kd45 tab46 kd46 tab49 kd49 tab50 kd50 tab51 kd51 tab58 kd58 tab59 kd59 tab60 kd60 tab62 kd62 tab63 kd63 tab64 kd64 tab71 kd71 tab75 kd75 tab81 kd81 tab83 kd83 tab84 kd84 tab94 kd94 tab95 kd95 tab96 kd96 tab97 kd97 tab100 kd100 tab101 kd101 tab102 kd102 tab105 kd105 tab117 kd117 tab118 kd118 tab122 kd122 tab125 kd125 tab126 kd126 tab143 kd143 tab146 kd146 tab150 kd150 tab151 kd151 tab154 kd154 tab155 kd155 tab157 kd157 tab158 kd158 tab159 kd159 tab163 kd163 tab164 kd164 tab171 kd171 tab172 kd172 tab174 kd174 tab180 kd180 tab192 kd192 tab205 kd205 tab209 kd209 tab213 kd213 tab215 kd215 tab228 kd228 tab231 kd231 tab244 kd244 tab245 kd245 tab254 kd254 tab255 kd255 tab258 kd258 tab263 kd263 tab268 kd268 tab269 kd269 tab272 kd272 tab280 kd280 tab282 kd282 tab297 kd297 tab303 kd303 tab304 kd304 tab308 kd308 tab309 kd309 tab310 kd310 tab314 kd314 tab326 kd326 tab342 kd342 tab348 kd348 tab349 kd349 tab350 kd350
end Go.Proofs.Ytobbdopkdhjghaa

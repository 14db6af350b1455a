/-
  The types that the rules ask for, out of the translation; made by mksetup.py. The check against the program is a closed fact.
-/
import Derived.Test.YtenjmepbaajkjaaProg
import Derived.Test.YtenjmepbaajkjaaLgK4
import Derived.KernelRfl
namespace Go.Proofs.Ytenjmepbaajkjaa
open Go Go.Lg

def tabL : List (Nat × TyI) := [
  (2, ⟨.int .i64, 8, [.int .i64]⟩),
  (3, ⟨.int .i64, 8, [.int .i64]⟩),
  (4, ⟨.bool, 1, [.bool]⟩),
  (5, ⟨.int .u8, 1, [.int .u8]⟩),
  (9, ⟨.string, 16, [.str]⟩),
  (12, ⟨.int .u64, 8, [.int .u64]⟩),
  (21, ⟨.int .i32, 4, [.int .i32]⟩),
  (22, ⟨.slice 2, 24, [.slice]⟩),
  (23, ⟨.struct [(0, 22)], 24, [.slice]⟩),
  (24, ⟨.struct [(0, 22)], 24, [.slice]⟩),
  (25, ⟨.slice 92, 24, [.slice]⟩),
  (26, ⟨.slice 200, 24, [.slice]⟩),
  (27, ⟨.struct [(0, 22), (1, 26)], 48, [.slice, .slice]⟩),
  (28, ⟨.struct [(0, 22), (1, 26)], 48, [.slice, .slice]⟩),
  (33, ⟨.struct [(0, 22)], 24, [.slice]⟩),
  (35, ⟨.slice 97, 24, [.slice]⟩),
  (37, ⟨.slice 135, 24, [.slice]⟩),
  (38, ⟨.struct [(0, 22), (1, 37)], 48, [.slice, .slice]⟩),
  (39, ⟨.struct [(0, 22), (1, 37)], 48, [.slice, .slice]⟩),
  (45, ⟨.slice 222, 24, [.slice]⟩),
  (46, ⟨.struct [(0, 24), (1, 45)], 48, [.slice, .slice]⟩),
  (47, ⟨.struct [(0, 24), (1, 45)], 48, [.slice, .slice]⟩),
  (50, ⟨.slice 142, 24, [.slice]⟩),
  (51, ⟨.struct [(0, 33), (1, 50)], 48, [.slice, .slice]⟩),
  (52, ⟨.struct [(0, 33), (1, 50)], 48, [.slice, .slice]⟩),
  (59, ⟨.slice 231, 24, [.slice]⟩),
  (60, ⟨.struct [(0, 2), (1, 59), (2, 22)], 56, [.int .i64, .slice, .slice]⟩),
  (61, ⟨.struct [(0, 2), (1, 59), (2, 22)], 56, [.int .i64, .slice, .slice]⟩),
  (63, ⟨.slice 152, 24, [.slice]⟩),
  (64, ⟨.struct [(0, 2), (1, 63), (2, 22)], 56, [.int .i64, .slice, .slice]⟩),
  (65, ⟨.struct [(0, 2), (1, 63), (2, 22)], 56, [.int .i64, .slice, .slice]⟩),
  (76, ⟨.slice 165, 24, [.slice]⟩),
  (85, ⟨.slice 22, 24, [.slice]⟩),
  (91, ⟨.struct [(0, 22), (1, 22)], 48, [.slice, .slice]⟩),
  (92, ⟨.struct [(0, 22), (1, 22)], 48, [.slice, .slice]⟩),
  (94, ⟨.struct [(0, 22), (1, 22)], 48, [.slice, .slice]⟩),
  (97, ⟨.struct [(0, 22), (1, 22)], 48, [.slice, .slice]⟩),
  (104, ⟨.slice 248, 24, [.slice]⟩),
  (105, ⟨.struct [(0, 24), (1, 22), (2, 25), (3, 104)], 96, [.slice, .slice, .slice, .slice]⟩),
  (106, ⟨.struct [(0, 24), (1, 22), (2, 25), (3, 104)], 96, [.slice, .slice, .slice, .slice]⟩),
  (109, ⟨.slice 94, 24, [.slice]⟩),
  (110, ⟨.struct [(0, 33), (1, 22), (2, 35), (3, 109)], 96, [.slice, .slice, .slice, .slice]⟩),
  (111, ⟨.struct [(0, 33), (1, 22), (2, 35), (3, 109)], 96, [.slice, .slice, .slice, .slice]⟩),
  (119, ⟨.slice 5, 24, [.slice]⟩),
  (121, ⟨.struct [(0, 33), (1, 109)], 48, [.slice, .slice]⟩),
  (122, ⟨.struct [(0, 33), (1, 109)], 48, [.slice, .slice]⟩),
  (134, ⟨.struct [(0, 2), (1, 2), (2, 4), (3, 22)], 48, [.int .i64, .int .i64, .bool, .slice]⟩),
  (135, ⟨.struct [(0, 2), (1, 2), (2, 4), (3, 22)], 48, [.int .i64, .int .i64, .bool, .slice]⟩),
  (141, ⟨.struct [(0, 22), (1, 22), (2, 35)], 72, [.slice, .slice, .slice]⟩),
  (142, ⟨.struct [(0, 22), (1, 22), (2, 35)], 72, [.slice, .slice, .slice]⟩),
  (151, ⟨.struct [(0, 2), (1, 22), (2, 2)], 40, [.int .i64, .slice, .int .i64]⟩),
  (152, ⟨.struct [(0, 2), (1, 22), (2, 2)], 40, [.int .i64, .slice, .int .i64]⟩),
  (161, ⟨.slice 239, 24, [.slice]⟩),
  (164, ⟨.struct [(0, 22), (1, 22), (2, 161), (3, 22)], 96, [.slice, .slice, .slice, .slice]⟩),
  (165, ⟨.struct [(0, 22), (1, 22), (2, 161), (3, 22)], 96, [.slice, .slice, .slice, .slice]⟩),
  (166, ⟨.other, 8, [.ptr]⟩),
  (167, ⟨.struct [(0, 22), (1, 4)], 32, [.slice, .bool]⟩),
  (168, ⟨.struct [(0, 22), (1, 4)], 32, [.slice, .bool]⟩),
  (172, ⟨.other, 8, [.ptr]⟩),
  (173, ⟨.struct [(0, 33), (1, 85), (2, 85), (3, 22)], 96, [.slice, .slice, .slice, .slice]⟩),
  (174, ⟨.struct [(0, 33), (1, 85), (2, 85), (3, 22)], 96, [.slice, .slice, .slice, .slice]⟩),
  (188, ⟨.array 61 2, 488, [.int .i64, .int .i64, .int .i64, .int .i64, .int .i64, .int .i64, .int .i64, .int .i64, .int .i64, .int .i64, .int .i64, .int .i64, .int .i64, .int .i64, .int .i64, .int .i64, .int .i64, .int .i64, .int .i64, .int .i64, .int .i64, .int .i64, .int .i64, .int .i64, .int .i64, .int .i64, .int .i64, .int .i64, .int .i64, .int .i64, .int .i64, .int .i64, .int .i64, .int .i64, .int .i64, .int .i64, .int .i64, .int .i64, .int .i64, .int .i64, .int .i64, .int .i64, .int .i64, .int .i64, .int .i64, .int .i64, .int .i64, .int .i64, .int .i64, .int .i64, .int .i64, .int .i64, .int .i64, .int .i64, .int .i64, .int .i64, .int .i64, .int .i64, .int .i64, .int .i64, .int .i64]⟩),
  (192, ⟨.other, 8, [.ptr]⟩),
  (200, ⟨.struct [(0, 2), (1, 2), (2, 4), (3, 22)], 48, [.int .i64, .int .i64, .bool, .slice]⟩),
  (215, ⟨.array 24 22, 576, [.slice, .slice, .slice, .slice, .slice, .slice, .slice, .slice, .slice, .slice, .slice, .slice, .slice, .slice, .slice, .slice, .slice, .slice, .slice, .slice, .slice, .slice, .slice, .slice]⟩),
  (216, ⟨.array 24 22, 576, [.slice, .slice, .slice, .slice, .slice, .slice, .slice, .slice, .slice, .slice, .slice, .slice, .slice, .slice, .slice, .slice, .slice, .slice, .slice, .slice, .slice, .slice, .slice, .slice]⟩),
  (221, ⟨.struct [(0, 22), (1, 22), (2, 25)], 72, [.slice, .slice, .slice]⟩),
  (222, ⟨.struct [(0, 22), (1, 22), (2, 25)], 72, [.slice, .slice, .slice]⟩),
  (231, ⟨.struct [(0, 2), (1, 22), (2, 2)], 40, [.int .i64, .slice, .int .i64]⟩),
  (238, ⟨.struct [(0, 2), (1, 22)], 32, [.int .i64, .slice]⟩),
  (239, ⟨.struct [(0, 2), (1, 22)], 32, [.int .i64, .slice]⟩),
  (244, ⟨.slice 3, 24, [.slice]⟩),
  (248, ⟨.struct [(0, 22), (1, 22)], 48, [.slice, .slice]⟩),
  (252, ⟨.struct [], 0, []⟩),
  (253, ⟨.struct [], 0, []⟩),
  (255, ⟨.int .u32, 4, [.int .u32]⟩),
  (256, ⟨.int .u32, 4, [.int .u32]⟩),
  (261, ⟨.other, 8, [.ptr]⟩),
  (262, ⟨.struct [(0, 119), (1, 3), (2, 2)], 40, [.slice, .int .i64, .int .i64]⟩),
  (263, ⟨.struct [(0, 119), (1, 3), (2, 2)], 40, [.slice, .int .i64, .int .i64]⟩),
  (268, ⟨.struct [(0, 33), (1, 109)], 48, [.slice, .slice]⟩),
  (269, ⟨.struct [(0, 33), (1, 109)], 48, [.slice, .slice]⟩),
  (279, ⟨.struct [(0, 33), (1, 22), (2, 3)], 56, [.slice, .slice, .int .i64]⟩),
  (280, ⟨.struct [(0, 33), (1, 22), (2, 3)], 56, [.slice, .slice, .int .i64]⟩),
  (291, ⟨.other, 16, [.iface]⟩),
  (292, ⟨.other, 8, [.ptr]⟩),
  (293, ⟨.int .i8, 1, [.int .i8]⟩),
  (294, ⟨.array 60 293, 60, [.int .i8, .int .i8, .int .i8, .int .i8, .int .i8, .int .i8, .int .i8, .int .i8, .int .i8, .int .i8, .int .i8, .int .i8, .int .i8, .int .i8, .int .i8, .int .i8, .int .i8, .int .i8, .int .i8, .int .i8, .int .i8, .int .i8, .int .i8, .int .i8, .int .i8, .int .i8, .int .i8, .int .i8, .int .i8, .int .i8, .int .i8, .int .i8, .int .i8, .int .i8, .int .i8, .int .i8, .int .i8, .int .i8, .int .i8, .int .i8, .int .i8, .int .i8, .int .i8, .int .i8, .int .i8, .int .i8, .int .i8, .int .i8, .int .i8, .int .i8, .int .i8, .int .i8, .int .i8, .int .i8, .int .i8, .int .i8, .int .i8, .int .i8, .int .i8, .int .i8]⟩),
  (300, ⟨.slice 256, 24, [.slice]⟩),
  (302, ⟨.int .u64, 8, [.int .u64]⟩),
  (310, ⟨.other, 8, [.ptr]⟩),
  (313, ⟨.other, 8, [.ptr]⟩),
  (316, ⟨.slice 244, 24, [.slice]⟩),
  (317, ⟨.struct [(0, 33), (1, 22), (2, 22), (3, 22), (4, 316), (5, 316), (6, 85)], 168, [.slice, .slice, .slice, .slice, .slice, .slice, .slice]⟩),
  (318, ⟨.struct [(0, 33), (1, 22), (2, 22), (3, 22), (4, 316), (5, 316), (6, 85)], 168, [.slice, .slice, .slice, .slice, .slice, .slice, .slice]⟩),
  (332, ⟨.other, 8, [.ptr]⟩),
  (340, ⟨.other, 8, [.ptr]⟩),
  (341, ⟨.struct [(0, 85)], 24, [.slice]⟩),
  (342, ⟨.struct [(0, 85)], 24, [.slice]⟩)]
theorem tab_check : (tabL.all fun p => tyCheck Try.prog p.1 p.2) = true := by kernel_rfl
theorem mixed : Try.prog.follows .mixedOrders = true := by kernel_rfl
noncomputable def S : Setup := { P := Try.prog, tab := Lg.look tabL, ok := tabOk tab_check, mixed := mixed }
theorem tab2 : S.tab 2 = some ⟨.int .i64, 8, [.int .i64]⟩ := rfl
theorem kd2 : S.kd 2 = some (.int .i64) := rfl
theorem tab3 : S.tab 3 = some ⟨.int .i64, 8, [.int .i64]⟩ := rfl
theorem kd3 : S.kd 3 = some (.int .i64) := rfl
theorem tab4 : S.tab 4 = some ⟨.bool, 1, [.bool]⟩ := rfl
theorem kd4 : S.kd 4 = some (.bool) := rfl
theorem tab5 : S.tab 5 = some ⟨.int .u8, 1, [.int .u8]⟩ := rfl
theorem kd5 : S.kd 5 = some (.int .u8) := rfl
theorem tab9 : S.tab 9 = some ⟨.string, 16, [.str]⟩ := rfl
theorem kd9 : S.kd 9 = some (.string) := rfl
theorem tab12 : S.tab 12 = some ⟨.int .u64, 8, [.int .u64]⟩ := rfl
theorem kd12 : S.kd 12 = some (.int .u64) := rfl
theorem tab21 : S.tab 21 = some ⟨.int .i32, 4, [.int .i32]⟩ := rfl
theorem kd21 : S.kd 21 = some (.int .i32) := rfl
theorem tab22 : S.tab 22 = some ⟨.slice 2, 24, [.slice]⟩ := rfl
theorem kd22 : S.kd 22 = some (.slice 2) := rfl
theorem tab23 : S.tab 23 = some ⟨.struct [(0, 22)], 24, [.slice]⟩ := rfl
theorem kd23 : S.kd 23 = some (.struct [(0, 22)]) := rfl
theorem tab24 : S.tab 24 = some ⟨.struct [(0, 22)], 24, [.slice]⟩ := rfl
theorem kd24 : S.kd 24 = some (.struct [(0, 22)]) := rfl
theorem tab25 : S.tab 25 = some ⟨.slice 92, 24, [.slice]⟩ := rfl
theorem kd25 : S.kd 25 = some (.slice 92) := rfl
theorem tab26 : S.tab 26 = some ⟨.slice 200, 24, [.slice]⟩ := rfl
theorem kd26 : S.kd 26 = some (.slice 200) := rfl
theorem tab27 : S.tab 27 = some ⟨.struct [(0, 22), (1, 26)], 48, [.slice, .slice]⟩ := rfl
theorem kd27 : S.kd 27 = some (.struct [(0, 22), (1, 26)]) := rfl
theorem tab28 : S.tab 28 = some ⟨.struct [(0, 22), (1, 26)], 48, [.slice, .slice]⟩ := rfl
theorem kd28 : S.kd 28 = some (.struct [(0, 22), (1, 26)]) := rfl
theorem tab33 : S.tab 33 = some ⟨.struct [(0, 22)], 24, [.slice]⟩ := rfl
theorem kd33 : S.kd 33 = some (.struct [(0, 22)]) := rfl
theorem tab35 : S.tab 35 = some ⟨.slice 97, 24, [.slice]⟩ := rfl
theorem kd35 : S.kd 35 = some (.slice 97) := rfl
theorem tab37 : S.tab 37 = some ⟨.slice 135, 24, [.slice]⟩ := rfl
theorem kd37 : S.kd 37 = some (.slice 135) := rfl
theorem tab38 : S.tab 38 = some ⟨.struct [(0, 22), (1, 37)], 48, [.slice, .slice]⟩ := rfl
theorem kd38 : S.kd 38 = some (.struct [(0, 22), (1, 37)]) := rfl
theorem tab39 : S.tab 39 = some ⟨.struct [(0, 22), (1, 37)], 48, [.slice, .slice]⟩ := rfl
theorem kd39 : S.kd 39 = some (.struct [(0, 22), (1, 37)]) := rfl
theorem tab45 : S.tab 45 = some ⟨.slice 222, 24, [.slice]⟩ := rfl
theorem kd45 : S.kd 45 = some (.slice 222) := rfl
theorem tab46 : S.tab 46 = some ⟨.struct [(0, 24), (1, 45)], 48, [.slice, .slice]⟩ := rfl
theorem kd46 : S.kd 46 = some (.struct [(0, 24), (1, 45)]) := rfl
theorem tab47 : S.tab 47 = some ⟨.struct [(0, 24), (1, 45)], 48, [.slice, .slice]⟩ := rfl
theorem kd47 : S.kd 47 = some (.struct [(0, 24), (1, 45)]) := rfl
theorem tab50 : S.tab 50 = some ⟨.slice 142, 24, [.slice]⟩ := rfl
theorem kd50 : S.kd 50 = some (.slice 142) := rfl
theorem tab51 : S.tab 51 = some ⟨.struct [(0, 33), (1, 50)], 48, [.slice, .slice]⟩ := rfl
theorem kd51 : S.kd 51 = some (.struct [(0, 33), (1, 50)]) := rfl
theorem tab52 : S.tab 52 = some ⟨.struct [(0, 33), (1, 50)], 48, [.slice, .slice]⟩ := rfl
theorem kd52 : S.kd 52 = some (.struct [(0, 33), (1, 50)]) := rfl
theorem tab59 : S.tab 59 = some ⟨.slice 231, 24, [.slice]⟩ := rfl
theorem kd59 : S.kd 59 = some (.slice 231) := rfl
theorem tab60 : S.tab 60 = some ⟨.struct [(0, 2), (1, 59), (2, 22)], 56, [.int .i64, .slice, .slice]⟩ := rfl
theorem kd60 : S.kd 60 = some (.struct [(0, 2), (1, 59), (2, 22)]) := rfl
theorem tab61 : S.tab 61 = some ⟨.struct [(0, 2), (1, 59), (2, 22)], 56, [.int .i64, .slice, .slice]⟩ := rfl
theorem kd61 : S.kd 61 = some (.struct [(0, 2), (1, 59), (2, 22)]) := rfl
theorem tab63 : S.tab 63 = some ⟨.slice 152, 24, [.slice]⟩ := rfl
theorem kd63 : S.kd 63 = some (.slice 152) := rfl
theorem tab64 : S.tab 64 = some ⟨.struct [(0, 2), (1, 63), (2, 22)], 56, [.int .i64, .slice, .slice]⟩ := rfl
theorem kd64 : S.kd 64 = some (.struct [(0, 2), (1, 63), (2, 22)]) := rfl
theorem tab65 : S.tab 65 = some ⟨.struct [(0, 2), (1, 63), (2, 22)], 56, [.int .i64, .slice, .slice]⟩ := rfl
theorem kd65 : S.kd 65 = some (.struct [(0, 2), (1, 63), (2, 22)]) := rfl
theorem tab76 : S.tab 76 = some ⟨.slice 165, 24, [.slice]⟩ := rfl
theorem kd76 : S.kd 76 = some (.slice 165) := rfl
theorem tab85 : S.tab 85 = some ⟨.slice 22, 24, [.slice]⟩ := rfl
theorem kd85 : S.kd 85 = some (.slice 22) := rfl
theorem tab91 : S.tab 91 = some ⟨.struct [(0, 22), (1, 22)], 48, [.slice, .slice]⟩ := rfl
theorem kd91 : S.kd 91 = some (.struct [(0, 22), (1, 22)]) := rfl
theorem tab92 : S.tab 92 = some ⟨.struct [(0, 22), (1, 22)], 48, [.slice, .slice]⟩ := rfl
theorem kd92 : S.kd 92 = some (.struct [(0, 22), (1, 22)]) := rfl
theorem tab94 : S.tab 94 = some ⟨.struct [(0, 22), (1, 22)], 48, [.slice, .slice]⟩ := rfl
theorem kd94 : S.kd 94 = some (.struct [(0, 22), (1, 22)]) := rfl
theorem tab97 : S.tab 97 = some ⟨.struct [(0, 22), (1, 22)], 48, [.slice, .slice]⟩ := rfl
theorem kd97 : S.kd 97 = some (.struct [(0, 22), (1, 22)]) := rfl
theorem tab104 : S.tab 104 = some ⟨.slice 248, 24, [.slice]⟩ := rfl
theorem kd104 : S.kd 104 = some (.slice 248) := rfl
theorem tab105 : S.tab 105 = some ⟨.struct [(0, 24), (1, 22), (2, 25), (3, 104)], 96, [.slice, .slice, .slice, .slice]⟩ := rfl
theorem kd105 : S.kd 105 = some (.struct [(0, 24), (1, 22), (2, 25), (3, 104)]) := rfl
theorem tab106 : S.tab 106 = some ⟨.struct [(0, 24), (1, 22), (2, 25), (3, 104)], 96, [.slice, .slice, .slice, .slice]⟩ := rfl
theorem kd106 : S.kd 106 = some (.struct [(0, 24), (1, 22), (2, 25), (3, 104)]) := rfl
theorem tab109 : S.tab 109 = some ⟨.slice 94, 24, [.slice]⟩ := rfl
theorem kd109 : S.kd 109 = some (.slice 94) := rfl
theorem tab110 : S.tab 110 = some ⟨.struct [(0, 33), (1, 22), (2, 35), (3, 109)], 96, [.slice, .slice, .slice, .slice]⟩ := rfl
theorem kd110 : S.kd 110 = some (.struct [(0, 33), (1, 22), (2, 35), (3, 109)]) := rfl
theorem tab111 : S.tab 111 = some ⟨.struct [(0, 33), (1, 22), (2, 35), (3, 109)], 96, [.slice, .slice, .slice, .slice]⟩ := rfl
theorem kd111 : S.kd 111 = some (.struct [(0, 33), (1, 22), (2, 35), (3, 109)]) := rfl
theorem tab119 : S.tab 119 = some ⟨.slice 5, 24, [.slice]⟩ := rfl
theorem kd119 : S.kd 119 = some (.slice 5) := rfl
theorem tab121 : S.tab 121 = some ⟨.struct [(0, 33), (1, 109)], 48, [.slice, .slice]⟩ := rfl
theorem kd121 : S.kd 121 = some (.struct [(0, 33), (1, 109)]) := rfl
theorem tab122 : S.tab 122 = some ⟨.struct [(0, 33), (1, 109)], 48, [.slice, .slice]⟩ := rfl
theorem kd122 : S.kd 122 = some (.struct [(0, 33), (1, 109)]) := rfl
theorem tab134 : S.tab 134 = some ⟨.struct [(0, 2), (1, 2), (2, 4), (3, 22)], 48, [.int .i64, .int .i64, .bool, .slice]⟩ := rfl
theorem kd134 : S.kd 134 = some (.struct [(0, 2), (1, 2), (2, 4), (3, 22)]) := rfl
theorem tab135 : S.tab 135 = some ⟨.struct [(0, 2), (1, 2), (2, 4), (3, 22)], 48, [.int .i64, .int .i64, .bool, .slice]⟩ := rfl
theorem kd135 : S.kd 135 = some (.struct [(0, 2), (1, 2), (2, 4), (3, 22)]) := rfl
theorem tab141 : S.tab 141 = some ⟨.struct [(0, 22), (1, 22), (2, 35)], 72, [.slice, .slice, .slice]⟩ := rfl
theorem kd141 : S.kd 141 = some (.struct [(0, 22), (1, 22), (2, 35)]) := rfl
theorem tab142 : S.tab 142 = some ⟨.struct [(0, 22), (1, 22), (2, 35)], 72, [.slice, .slice, .slice]⟩ := rfl
theorem kd142 : S.kd 142 = some (.struct [(0, 22), (1, 22), (2, 35)]) := rfl
theorem tab151 : S.tab 151 = some ⟨.struct [(0, 2), (1, 22), (2, 2)], 40, [.int .i64, .slice, .int .i64]⟩ := rfl
theorem kd151 : S.kd 151 = some (.struct [(0, 2), (1, 22), (2, 2)]) := rfl
theorem tab152 : S.tab 152 = some ⟨.struct [(0, 2), (1, 22), (2, 2)], 40, [.int .i64, .slice, .int .i64]⟩ := rfl
theorem kd152 : S.kd 152 = some (.struct [(0, 2), (1, 22), (2, 2)]) := rfl
theorem tab161 : S.tab 161 = some ⟨.slice 239, 24, [.slice]⟩ := rfl
theorem kd161 : S.kd 161 = some (.slice 239) := rfl
theorem tab164 : S.tab 164 = some ⟨.struct [(0, 22), (1, 22), (2, 161), (3, 22)], 96, [.slice, .slice, .slice, .slice]⟩ := rfl
theorem kd164 : S.kd 164 = some (.struct [(0, 22), (1, 22), (2, 161), (3, 22)]) := rfl
theorem tab165 : S.tab 165 = some ⟨.struct [(0, 22), (1, 22), (2, 161), (3, 22)], 96, [.slice, .slice, .slice, .slice]⟩ := rfl
theorem kd165 : S.kd 165 = some (.struct [(0, 22), (1, 22), (2, 161), (3, 22)]) := rfl
theorem tab166 : S.tab 166 = some ⟨.other, 8, [.ptr]⟩ := rfl
theorem kd166 : S.kd 166 = some (.other) := rfl
theorem tab167 : S.tab 167 = some ⟨.struct [(0, 22), (1, 4)], 32, [.slice, .bool]⟩ := rfl
theorem kd167 : S.kd 167 = some (.struct [(0, 22), (1, 4)]) := rfl
theorem tab168 : S.tab 168 = some ⟨.struct [(0, 22), (1, 4)], 32, [.slice, .bool]⟩ := rfl
theorem kd168 : S.kd 168 = some (.struct [(0, 22), (1, 4)]) := rfl
theorem tab172 : S.tab 172 = some ⟨.other, 8, [.ptr]⟩ := rfl
theorem kd172 : S.kd 172 = some (.other) := rfl
theorem tab173 : S.tab 173 = some ⟨.struct [(0, 33), (1, 85), (2, 85), (3, 22)], 96, [.slice, .slice, .slice, .slice]⟩ := rfl
theorem kd173 : S.kd 173 = some (.struct [(0, 33), (1, 85), (2, 85), (3, 22)]) := rfl
theorem tab174 : S.tab 174 = some ⟨.struct [(0, 33), (1, 85), (2, 85), (3, 22)], 96, [.slice, .slice, .slice, .slice]⟩ := rfl
theorem kd174 : S.kd 174 = some (.struct [(0, 33), (1, 85), (2, 85), (3, 22)]) := rfl
theorem tab188 : S.tab 188 = some ⟨.array 61 2, 488, [.int .i64, .int .i64, .int .i64, .int .i64, .int .i64, .int .i64, .int .i64, .int .i64, .int .i64, .int .i64, .int .i64, .int .i64, .int .i64, .int .i64, .int .i64, .int .i64, .int .i64, .int .i64, .int .i64, .int .i64, .int .i64, .int .i64, .int .i64, .int .i64, .int .i64, .int .i64, .int .i64, .int .i64, .int .i64, .int .i64, .int .i64, .int .i64, .int .i64, .int .i64, .int .i64, .int .i64, .int .i64, .int .i64, .int .i64, .int .i64, .int .i64, .int .i64, .int .i64, .int .i64, .int .i64, .int .i64, .int .i64, .int .i64, .int .i64, .int .i64, .int .i64, .int .i64, .int .i64, .int .i64, .int .i64, .int .i64, .int .i64, .int .i64, .int .i64, .int .i64, .int .i64]⟩ := rfl
theorem kd188 : S.kd 188 = some (.array 61 2) := rfl
theorem tab192 : S.tab 192 = some ⟨.other, 8, [.ptr]⟩ := rfl
theorem kd192 : S.kd 192 = some (.other) := rfl
theorem tab200 : S.tab 200 = some ⟨.struct [(0, 2), (1, 2), (2, 4), (3, 22)], 48, [.int .i64, .int .i64, .bool, .slice]⟩ := rfl
theorem kd200 : S.kd 200 = some (.struct [(0, 2), (1, 2), (2, 4), (3, 22)]) := rfl
theorem tab215 : S.tab 215 = some ⟨.array 24 22, 576, [.slice, .slice, .slice, .slice, .slice, .slice, .slice, .slice, .slice, .slice, .slice, .slice, .slice, .slice, .slice, .slice, .slice, .slice, .slice, .slice, .slice, .slice, .slice, .slice]⟩ := rfl
theorem kd215 : S.kd 215 = some (.array 24 22) := rfl
theorem tab216 : S.tab 216 = some ⟨.array 24 22, 576, [.slice, .slice, .slice, .slice, .slice, .slice, .slice, .slice, .slice, .slice, .slice, .slice, .slice, .slice, .slice, .slice, .slice, .slice, .slice, .slice, .slice, .slice, .slice, .slice]⟩ := rfl
theorem kd216 : S.kd 216 = some (.array 24 22) := rfl
theorem tab221 : S.tab 221 = some ⟨.struct [(0, 22), (1, 22), (2, 25)], 72, [.slice, .slice, .slice]⟩ := rfl
theorem kd221 : S.kd 221 = some (.struct [(0, 22), (1, 22), (2, 25)]) := rfl
theorem tab222 : S.tab 222 = some ⟨.struct [(0, 22), (1, 22), (2, 25)], 72, [.slice, .slice, .slice]⟩ := rfl
theorem kd222 : S.kd 222 = some (.struct [(0, 22), (1, 22), (2, 25)]) := rfl
theorem tab231 : S.tab 231 = some ⟨.struct [(0, 2), (1, 22), (2, 2)], 40, [.int .i64, .slice, .int .i64]⟩ := rfl
theorem kd231 : S.kd 231 = some (.struct [(0, 2), (1, 22), (2, 2)]) := rfl
theorem tab238 : S.tab 238 = some ⟨.struct [(0, 2), (1, 22)], 32, [.int .i64, .slice]⟩ := rfl
theorem kd238 : S.kd 238 = some (.struct [(0, 2), (1, 22)]) := rfl
theorem tab239 : S.tab 239 = some ⟨.struct [(0, 2), (1, 22)], 32, [.int .i64, .slice]⟩ := rfl
theorem kd239 : S.kd 239 = some (.struct [(0, 2), (1, 22)]) := rfl
theorem tab244 : S.tab 244 = some ⟨.slice 3, 24, [.slice]⟩ := rfl
theorem kd244 : S.kd 244 = some (.slice 3) := rfl
theorem tab248 : S.tab 248 = some ⟨.struct [(0, 22), (1, 22)], 48, [.slice, .slice]⟩ := rfl
theorem kd248 : S.kd 248 = some (.struct [(0, 22), (1, 22)]) := rfl
theorem tab252 : S.tab 252 = some ⟨.struct [], 0, []⟩ := rfl
theorem kd252 : S.kd 252 = some (.struct []) := rfl
theorem tab253 : S.tab 253 = some ⟨.struct [], 0, []⟩ := rfl
theorem kd253 : S.kd 253 = some (.struct []) := rfl
theorem tab255 : S.tab 255 = some ⟨.int .u32, 4, [.int .u32]⟩ := rfl
theorem kd255 : S.kd 255 = some (.int .u32) := rfl
theorem tab256 : S.tab 256 = some ⟨.int .u32, 4, [.int .u32]⟩ := rfl
theorem kd256 : S.kd 256 = some (.int .u32) := rfl
theorem tab261 : S.tab 261 = some ⟨.other, 8, [.ptr]⟩ := rfl
theorem kd261 : S.kd 261 = some (.other) := rfl
theorem tab262 : S.tab 262 = some ⟨.struct [(0, 119), (1, 3), (2, 2)], 40, [.slice, .int .i64, .int .i64]⟩ := rfl
theorem kd262 : S.kd 262 = some (.struct [(0, 119), (1, 3), (2, 2)]) := rfl
theorem tab263 : S.tab 263 = some ⟨.struct [(0, 119), (1, 3), (2, 2)], 40, [.slice, .int .i64, .int .i64]⟩ := rfl
theorem kd263 : S.kd 263 = some (.struct [(0, 119), (1, 3), (2, 2)]) := rfl
theorem tab268 : S.tab 268 = some ⟨.struct [(0, 33), (1, 109)], 48, [.slice, .slice]⟩ := rfl
theorem kd268 : S.kd 268 = some (.struct [(0, 33), (1, 109)]) := rfl
theorem tab269 : S.tab 269 = some ⟨.struct [(0, 33), (1, 109)], 48, [.slice, .slice]⟩ := rfl
theorem kd269 : S.kd 269 = some (.struct [(0, 33), (1, 109)]) := rfl
theorem tab279 : S.tab 279 = some ⟨.struct [(0, 33), (1, 22), (2, 3)], 56, [.slice, .slice, .int .i64]⟩ := rfl
theorem kd279 : S.kd 279 = some (.struct [(0, 33), (1, 22), (2, 3)]) := rfl
theorem tab280 : S.tab 280 = some ⟨.struct [(0, 33), (1, 22), (2, 3)], 56, [.slice, .slice, .int .i64]⟩ := rfl
theorem kd280 : S.kd 280 = some (.struct [(0, 33), (1, 22), (2, 3)]) := rfl
theorem tab291 : S.tab 291 = some ⟨.other, 16, [.iface]⟩ := rfl
theorem kd291 : S.kd 291 = some (.other) := rfl
theorem tab292 : S.tab 292 = some ⟨.other, 8, [.ptr]⟩ := rfl
theorem kd292 : S.kd 292 = some (.other) := rfl
theorem tab293 : S.tab 293 = some ⟨.int .i8, 1, [.int .i8]⟩ := rfl
theorem kd293 : S.kd 293 = some (.int .i8) := rfl
theorem tab294 : S.tab 294 = some ⟨.array 60 293, 60, [.int .i8, .int .i8, .int .i8, .int .i8, .int .i8, .int .i8, .int .i8, .int .i8, .int .i8, .int .i8, .int .i8, .int .i8, .int .i8, .int .i8, .int .i8, .int .i8, .int .i8, .int .i8, .int .i8, .int .i8, .int .i8, .int .i8, .int .i8, .int .i8, .int .i8, .int .i8, .int .i8, .int .i8, .int .i8, .int .i8, .int .i8, .int .i8, .int .i8, .int .i8, .int .i8, .int .i8, .int .i8, .int .i8, .int .i8, .int .i8, .int .i8, .int .i8, .int .i8, .int .i8, .int .i8, .int .i8, .int .i8, .int .i8, .int .i8, .int .i8, .int .i8, .int .i8, .int .i8, .int .i8, .int .i8, .int .i8, .int .i8, .int .i8, .int .i8, .int .i8]⟩ := rfl
theorem kd294 : S.kd 294 = some (.array 60 293) := rfl
theorem tab300 : S.tab 300 = some ⟨.slice 256, 24, [.slice]⟩ := rfl
theorem kd300 : S.kd 300 = some (.slice 256) := rfl
theorem tab302 : S.tab 302 = some ⟨.int .u64, 8, [.int .u64]⟩ := rfl
theorem kd302 : S.kd 302 = some (.int .u64) := rfl
theorem tab310 : S.tab 310 = some ⟨.other, 8, [.ptr]⟩ := rfl
theorem kd310 : S.kd 310 = some (.other) := rfl
theorem tab313 : S.tab 313 = some ⟨.other, 8, [.ptr]⟩ := rfl
theorem kd313 : S.kd 313 = some (.other) := rfl
theorem tab316 : S.tab 316 = some ⟨.slice 244, 24, [.slice]⟩ := rfl
theorem kd316 : S.kd 316 = some (.slice 244) := rfl
theorem tab317 : S.tab 317 = some ⟨.struct [(0, 33), (1, 22), (2, 22), (3, 22), (4, 316), (5, 316), (6, 85)], 168, [.slice, .slice, .slice, .slice, .slice, .slice, .slice]⟩ := rfl
theorem kd317 : S.kd 317 = some (.struct [(0, 33), (1, 22), (2, 22), (3, 22), (4, 316), (5, 316), (6, 85)]) := rfl
theorem tab318 : S.tab 318 = some ⟨.struct [(0, 33), (1, 22), (2, 22), (3, 22), (4, 316), (5, 316), (6, 85)], 168, [.slice, .slice, .slice, .slice, .slice, .slice, .slice]⟩ := rfl
theorem kd318 : S.kd 318 = some (.struct [(0, 33), (1, 22), (2, 22), (3, 22), (4, 316), (5, 316), (6, 85)]) := rfl
theorem tab332 : S.tab 332 = some ⟨.other, 8, [.ptr]⟩ := rfl
theorem kd332 : S.kd 332 = some (.other) := rfl
theorem tab340 : S.tab 340 = some ⟨.other, 8, [.ptr]⟩ := rfl
theorem kd340 : S.kd 340 = some (.other) := rfl
theorem tab341 : S.tab 341 = some ⟨.struct [(0, 85)], 24, [.slice]⟩ := rfl
theorem kd341 : S.kd 341 = some (.struct [(0, 85)]) := rfl
theorem tab342 : S.tab 342 = some ⟨.struct [(0, 85)], 24, [.slice]⟩ := rfl
theorem kd342 : S.kd 342 = some (.struct [(0, 85)]) := rfl
attribute [go_sem] tab2 kd2 tab3 kd3 tab4 kd4 tab5 kd5 tab9 kd9 tab12 kd12 tab21 kd21 tab22 kd22 tab23 kd23 tab24 kd24 tab25 kd25 tab26 kd26 tab27 kd27 tab28 kd28 tab33 kd33 tab35 kd35 tab37 kd37 tab38 kd38 tab39 kd39 tab45 kd45 tab46 kd46 tab47 kd47 tab50 kd50 tab51 kd51 tab52 kd52 tab59 kd59 tab60 kd60 tab61 kd61 tab63 kd63 tab64 kd64 tab65 kd65 tab76 kd76 tab85 kd85 tab91 kd91 tab92 kd92 tab94 kd94 tab97 kd97 tab104 kd104 tab105 kd105 tab106 kd106 tab109 kd109 tab110 kd110 tab111 kd111 tab119 kd119 tab121 kd121 tab122 kd122 tab134 kd134 tab135 kd135 tab141 kd141 tab142 kd142 tab151 kd151 tab152 kd152 tab161 kd161 tab164 kd164 tab165 kd165 tab166 kd166 tab167 kd167 tab168 kd168 tab172 kd172 tab173 kd173 tab174 kd174 tab188 kd188 tab192 kd192 tab200 kd200 tab215 kd215 tab216 kd216 tab221 kd221 tab222 kd222 tab231 kd231 tab238 kd238 tab239 kd239 tab244 kd244 tab248 kd248 tab252 kd252 tab253 kd253 tab255 kd255 tab256 kd256 tab261 kd261 tab262 kd262 tab263 kd263 tab268 kd268 tab269 kd269 tab279 kd279 tab280 kd280 tab291 kd291 tab292 kd292 tab293 kd293 tab294 kd294 tab300 kd300 tab302 kd302 tab310 kd310 tab313 kd313 tab316 kd316 tab317 kd317 tab318 kd318 tab332 kd332 tab340 kd340 tab341 kd341 tab342 kd342
end Go.Proofs.Ytenjmepbaajkjaa

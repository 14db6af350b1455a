/-
  The types that the rules ask for, out of the translation; made by mksetup.py. The check against the program is a closed fact.
-/
import Derived.Test.YtgbcnhbmfjkhmaaProg
import Derived.Test.YtgbcnhbmfjkhmaaLgK4
import Derived.KernelRfl
namespace Go.Proofs.Ytgbcnhbmfjkhmaa
open Go Go.Lg

def tabL : List (Nat × TyI) := [
  (2, ⟨.int .i64, 8, [.int .i64]⟩),
  (3, ⟨.int .i64, 8, [.int .i64]⟩),
  (4, ⟨.bool, 1, [.bool]⟩),
  (5, ⟨.int .u8, 1, [.int .u8]⟩),
  (9, ⟨.string, 16, [.str]⟩),
  (12, ⟨.int .u64, 8, [.int .u64]⟩),
  (21, ⟨.int .i32, 4, [.int .i32]⟩),
  (22, ⟨.slice 2, 24, [.slice]⟩),
  (23, ⟨.struct [(0, 22)], 24, [.slice]⟩),
  (24, ⟨.struct [(0, 22)], 24, [.slice]⟩),
  (25, ⟨.slice 203, 24, [.slice]⟩),
  (26, ⟨.struct [(0, 2), (1, 25), (2, 22)], 56, [.int .i64, .slice, .slice]⟩),
  (27, ⟨.struct [(0, 2), (1, 25), (2, 22)], 56, [.int .i64, .slice, .slice]⟩),
  (30, ⟨.slice 139, 24, [.slice]⟩),
  (31, ⟨.struct [(0, 2), (1, 30), (2, 22)], 56, [.int .i64, .slice, .slice]⟩),
  (32, ⟨.struct [(0, 2), (1, 30), (2, 22)], 56, [.int .i64, .slice, .slice]⟩),
  (35, ⟨.struct [(0, 22)], 24, [.slice]⟩),
  (43, ⟨.slice 22, 24, [.slice]⟩),
  (51, ⟨.slice 73, 24, [.slice]⟩),
  (52, ⟨.slice 222, 24, [.slice]⟩),
  (53, ⟨.struct [(0, 22), (1, 52)], 48, [.slice, .slice]⟩),
  (54, ⟨.struct [(0, 22), (1, 52)], 48, [.slice, .slice]⟩),
  (57, ⟨.slice 225, 24, [.slice]⟩),
  (58, ⟨.struct [(0, 22), (1, 57)], 48, [.slice, .slice]⟩),
  (59, ⟨.struct [(0, 22), (1, 57)], 48, [.slice, .slice]⟩),
  (62, ⟨.slice 79, 24, [.slice]⟩),
  (72, ⟨.struct [(0, 22), (1, 22)], 48, [.slice, .slice]⟩),
  (73, ⟨.struct [(0, 22), (1, 22)], 48, [.slice, .slice]⟩),
  (75, ⟨.struct [(0, 22), (1, 22)], 48, [.slice, .slice]⟩),
  (79, ⟨.struct [(0, 22), (1, 22)], 48, [.slice, .slice]⟩),
  (86, ⟨.slice 238, 24, [.slice]⟩),
  (87, ⟨.struct [(0, 24), (1, 86)], 48, [.slice, .slice]⟩),
  (88, ⟨.struct [(0, 24), (1, 86)], 48, [.slice, .slice]⟩),
  (90, ⟨.slice 75, 24, [.slice]⟩),
  (91, ⟨.struct [(0, 35), (1, 90)], 48, [.slice, .slice]⟩),
  (92, ⟨.struct [(0, 35), (1, 90)], 48, [.slice, .slice]⟩),
  (95, ⟨.slice 159, 24, [.slice]⟩),
  (96, ⟨.struct [(0, 35), (1, 95)], 48, [.slice, .slice]⟩),
  (97, ⟨.struct [(0, 35), (1, 95)], 48, [.slice, .slice]⟩),
  (104, ⟨.slice 248, 24, [.slice]⟩),
  (105, ⟨.struct [(0, 24), (1, 104)], 48, [.slice, .slice]⟩),
  (106, ⟨.struct [(0, 24), (1, 104)], 48, [.slice, .slice]⟩),
  (107, ⟨.slice 172, 24, [.slice]⟩),
  (113, ⟨.slice 174, 24, [.slice]⟩),
  (123, ⟨.struct [(0, 24), (1, 22), (2, 51), (3, 104)], 96, [.slice, .slice, .slice, .slice]⟩),
  (124, ⟨.struct [(0, 24), (1, 22), (2, 51), (3, 104)], 96, [.slice, .slice, .slice, .slice]⟩),
  (127, ⟨.struct [(0, 35), (1, 22), (2, 62), (3, 90)], 96, [.slice, .slice, .slice, .slice]⟩),
  (128, ⟨.struct [(0, 35), (1, 22), (2, 62), (3, 90)], 96, [.slice, .slice, .slice, .slice]⟩),
  (138, ⟨.struct [(0, 2), (1, 22), (2, 2)], 40, [.int .i64, .slice, .int .i64]⟩),
  (139, ⟨.struct [(0, 2), (1, 22), (2, 2)], 40, [.int .i64, .slice, .int .i64]⟩),
  (158, ⟨.struct [(0, 22), (1, 22), (2, 62)], 72, [.slice, .slice, .slice]⟩),
  (159, ⟨.struct [(0, 22), (1, 22), (2, 62)], 72, [.slice, .slice, .slice]⟩),
  (171, ⟨.struct [(0, 2), (1, 22)], 32, [.int .i64, .slice]⟩),
  (172, ⟨.struct [(0, 2), (1, 22)], 32, [.int .i64, .slice]⟩),
  (174, ⟨.struct [(0, 2), (1, 22)], 32, [.int .i64, .slice]⟩),
  (184, ⟨.array 61 2, 488, [.int .i64, .int .i64, .int .i64, .int .i64, .int .i64, .int .i64, .int .i64, .int .i64, .int .i64, .int .i64, .int .i64, .int .i64, .int .i64, .int .i64, .int .i64, .int .i64, .int .i64, .int .i64, .int .i64, .int .i64, .int .i64, .int .i64, .int .i64, .int .i64, .int .i64, .int .i64, .int .i64, .int .i64, .int .i64, .int .i64, .int .i64, .int .i64, .int .i64, .int .i64, .int .i64, .int .i64, .int .i64, .int .i64, .int .i64, .int .i64, .int .i64, .int .i64, .int .i64, .int .i64, .int .i64, .int .i64, .int .i64, .int .i64, .int .i64, .int .i64, .int .i64, .int .i64, .int .i64, .int .i64, .int .i64, .int .i64, .int .i64, .int .i64, .int .i64, .int .i64, .int .i64]⟩),
  (185, ⟨.array 16 184, 7808, List.replicate 976 (.int .i64)⟩),
  (186, ⟨.array 16 184, 7808, List.replicate 976 (.int .i64)⟩),
  (192, ⟨.slice 43, 24, [.slice]⟩),
  (195, ⟨.array 61 43, 1464, [.slice, .slice, .slice, .slice, .slice, .slice, .slice, .slice, .slice, .slice, .slice, .slice, .slice, .slice, .slice, .slice, .slice, .slice, .slice, .slice, .slice, .slice, .slice, .slice, .slice, .slice, .slice, .slice, .slice, .slice, .slice, .slice, .slice, .slice, .slice, .slice, .slice, .slice, .slice, .slice, .slice, .slice, .slice, .slice, .slice, .slice, .slice, .slice, .slice, .slice, .slice, .slice, .slice, .slice, .slice, .slice, .slice, .slice, .slice, .slice, .slice]⟩),
  (196, ⟨.array 61 43, 1464, [.slice, .slice, .slice, .slice, .slice, .slice, .slice, .slice, .slice, .slice, .slice, .slice, .slice, .slice, .slice, .slice, .slice, .slice, .slice, .slice, .slice, .slice, .slice, .slice, .slice, .slice, .slice, .slice, .slice, .slice, .slice, .slice, .slice, .slice, .slice, .slice, .slice, .slice, .slice, .slice, .slice, .slice, .slice, .slice, .slice, .slice, .slice, .slice, .slice, .slice, .slice, .slice, .slice, .slice, .slice, .slice, .slice, .slice, .slice, .slice, .slice]⟩),
  (203, ⟨.struct [(0, 2), (1, 22), (2, 2)], 40, [.int .i64, .slice, .int .i64]⟩),
  (216, ⟨.other, 8, [.ptr]⟩),
  (217, ⟨.struct [(0, 35), (1, 43), (2, 43), (3, 22)], 96, [.slice, .slice, .slice, .slice]⟩),
  (218, ⟨.struct [(0, 35), (1, 43), (2, 43), (3, 22)], 96, [.slice, .slice, .slice, .slice]⟩),
  (221, ⟨.struct [(0, 2), (1, 2), (2, 4), (3, 22)], 48, [.int .i64, .int .i64, .bool, .slice]⟩),
  (222, ⟨.struct [(0, 2), (1, 2), (2, 4), (3, 22)], 48, [.int .i64, .int .i64, .bool, .slice]⟩),
  (225, ⟨.struct [(0, 2), (1, 2), (2, 4), (3, 22)], 48, [.int .i64, .int .i64, .bool, .slice]⟩),
  (232, ⟨.other, 8, [.fn]⟩),
  (237, ⟨.struct [(0, 22), (1, 22), (2, 51)], 72, [.slice, .slice, .slice]⟩),
  (238, ⟨.struct [(0, 22), (1, 22), (2, 51)], 72, [.slice, .slice, .slice]⟩),
  (248, ⟨.struct [(0, 22), (1, 22)], 48, [.slice, .slice]⟩),
  (257, ⟨.int .u32, 4, [.int .u32]⟩),
  (258, ⟨.int .u32, 4, [.int .u32]⟩),
  (263, ⟨.other, 8, [.ptr]⟩),
  (266, ⟨.struct [], 0, []⟩),
  (267, ⟨.struct [], 0, []⟩),
  (268, ⟨.other, 8, [.ptr]⟩),
  (272, ⟨.int .u64, 8, [.int .u64]⟩),
  (281, ⟨.slice 3, 24, [.slice]⟩),
  (291, ⟨.array 24 22, 576, [.slice, .slice, .slice, .slice, .slice, .slice, .slice, .slice, .slice, .slice, .slice, .slice, .slice, .slice, .slice, .slice, .slice, .slice, .slice, .slice, .slice, .slice, .slice, .slice]⟩),
  (292, ⟨.array 24 22, 576, [.slice, .slice, .slice, .slice, .slice, .slice, .slice, .slice, .slice, .slice, .slice, .slice, .slice, .slice, .slice, .slice, .slice, .slice, .slice, .slice, .slice, .slice, .slice, .slice]⟩),
  (295, ⟨.other, 8, [.ptr]⟩),
  (305, ⟨.struct [(0, 2), (1, 22)], 32, [.int .i64, .slice]⟩),
  (307, ⟨.slice 258, 24, [.slice]⟩),
  (310, ⟨.other, 16, [.iface]⟩),
  (311, ⟨.other, 8, [.ptr]⟩),
  (312, ⟨.int .i8, 1, [.int .i8]⟩),
  (313, ⟨.array 60 312, 60, [.int .i8, .int .i8, .int .i8, .int .i8, .int .i8, .int .i8, .int .i8, .int .i8, .int .i8, .int .i8, .int .i8, .int .i8, .int .i8, .int .i8, .int .i8, .int .i8, .int .i8, .int .i8, .int .i8, .int .i8, .int .i8, .int .i8, .int .i8, .int .i8, .int .i8, .int .i8, .int .i8, .int .i8, .int .i8, .int .i8, .int .i8, .int .i8, .int .i8, .int .i8, .int .i8, .int .i8, .int .i8, .int .i8, .int .i8, .int .i8, .int .i8, .int .i8, .int .i8, .int .i8, .int .i8, .int .i8, .int .i8, .int .i8, .int .i8, .int .i8, .int .i8, .int .i8, .int .i8, .int .i8, .int .i8, .int .i8, .int .i8, .int .i8, .int .i8, .int .i8]⟩),
  (319, ⟨.int .i64, 8, [.int .i64]⟩),
  (328, ⟨.int .u64, 8, [.int .u64]⟩),
  (331, ⟨.struct [(0, 35), (1, 22), (2, 3)], 56, [.slice, .slice, .int .i64]⟩),
  (332, ⟨.struct [(0, 35), (1, 22), (2, 3)], 56, [.slice, .slice, .int .i64]⟩),
  (342, ⟨.other, 8, [.ptr]⟩),
  (345, ⟨.slice 281, 24, [.slice]⟩),
  (346, ⟨.struct [(0, 35), (1, 22), (2, 22), (3, 22), (4, 345), (5, 345), (6, 43)], 168, [.slice, .slice, .slice, .slice, .slice, .slice, .slice]⟩),
  (347, ⟨.struct [(0, 35), (1, 22), (2, 22), (3, 22), (4, 345), (5, 345), (6, 43)], 168, [.slice, .slice, .slice, .slice, .slice, .slice, .slice]⟩),
  (348, ⟨.int .u64, 8, [.int .u64]⟩),
  (352, ⟨.other, 8, [.ptr]⟩),
  (354, ⟨.other, 8, [.ptr]⟩),
  (363, ⟨.other, 8, [.ptr]⟩),
  (375, ⟨.other, 8, [.ptr]⟩),
  (382, ⟨.other, 8, [.ptr]⟩),
  (383, ⟨.struct [(0, 43)], 24, [.slice]⟩),
  (384, ⟨.struct [(0, 43)], 24, [.slice]⟩)]
theorem tab_check : (tabL.all fun p => tyCheck Try.prog p.1 p.2) = true := by kernel_rfl
theorem mixed : Try.prog.follows .mixedOrders = true := by kernel_rfl
noncomputable def S : Setup := { P := Try.prog, tab := Lg.look tabL, ok := tabOk tab_check, mixed := mixed }
theorem tab2 : S.tab 2 = some ⟨.int .i64, 8, [.int .i64]⟩ := rfl
theorem kd2 : S.kd 2 = some (.int .i64) := rfl
theorem tab3 : S.tab 3 = some ⟨.int .i64, 8, [.int .i64]⟩ := rfl
theorem kd3 : S.kd 3 = some (.int .i64) := rfl
theorem tab4 : S.tab 4 = some ⟨.bool, 1, [.bool]⟩ := rfl
theorem kd4 : S.kd 4 = some (.bool) := rfl
theorem tab5 : S.tab 5 = some ⟨.int .u8, 1, [.int .u8]⟩ := rfl
theorem kd5 : S.kd 5 = some (.int .u8) := rfl
theorem tab9 : S.tab 9 = some ⟨.string, 16, [.str]⟩ := rfl
theorem kd9 : S.kd 9 = some (.string) := rfl
theorem tab12 : S.tab 12 = some ⟨.int .u64, 8, [.int .u64]⟩ := rfl
theorem kd12 : S.kd 12 = some (.int .u64) := rfl
theorem tab21 : S.tab 21 = some ⟨.int .i32, 4, [.int .i32]⟩ := rfl
theorem kd21 : S.kd 21 = some (.int .i32) := rfl
theorem tab22 : S.tab 22 = some ⟨.slice 2, 24, [.slice]⟩ := rfl
theorem kd22 : S.kd 22 = some (.slice 2) := rfl
theorem tab23 : S.tab 23 = some ⟨.struct [(0, 22)], 24, [.slice]⟩ := rfl
theorem kd23 : S.kd 23 = some (.struct [(0, 22)]) := rfl
theorem tab24 : S.tab 24 = some ⟨.struct [(0, 22)], 24, [.slice]⟩ := rfl
theorem kd24 : S.kd 24 = some (.struct [(0, 22)]) := rfl
theorem tab25 : S.tab 25 = some ⟨.slice 203, 24, [.slice]⟩ := rfl
theorem kd25 : S.kd 25 = some (.slice 203) := rfl
theorem tab26 : S.tab 26 = some ⟨.struct [(0, 2), (1, 25), (2, 22)], 56, [.int .i64, .slice, .slice]⟩ := rfl
theorem kd26 : S.kd 26 = some (.struct [(0, 2), (1, 25), (2, 22)]) := rfl
theorem tab27 : S.tab 27 = some ⟨.struct [(0, 2), (1, 25), (2, 22)], 56, [.int .i64, .slice, .slice]⟩ := rfl
theorem kd27 : S.kd 27 = some (.struct [(0, 2), (1, 25), (2, 22)]) := rfl
theorem tab30 : S.tab 30 = some ⟨.slice 139, 24, [.slice]⟩ := rfl
theorem kd30 : S.kd 30 = some (.slice 139) := rfl
theorem tab31 : S.tab 31 = some ⟨.struct [(0, 2), (1, 30), (2, 22)], 56, [.int .i64, .slice, .slice]⟩ := rfl
theorem kd31 : S.kd 31 = some (.struct [(0, 2), (1, 30), (2, 22)]) := rfl
theorem tab32 : S.tab 32 = some ⟨.struct [(0, 2), (1, 30), (2, 22)], 56, [.int .i64, .slice, .slice]⟩ := rfl
theorem kd32 : S.kd 32 = some (.struct [(0, 2), (1, 30), (2, 22)]) := rfl
theorem tab35 : S.tab 35 = some ⟨.struct [(0, 22)], 24, [.slice]⟩ := rfl
theorem kd35 : S.kd 35 = some (.struct [(0, 22)]) := rfl
theorem tab43 : S.tab 43 = some ⟨.slice 22, 24, [.slice]⟩ := rfl
theorem kd43 : S.kd 43 = some (.slice 22) := rfl
theorem tab51 : S.tab 51 = some ⟨.slice 73, 24, [.slice]⟩ := rfl
theorem kd51 : S.kd 51 = some (.slice 73) := rfl
theorem tab52 : S.tab 52 = some ⟨.slice 222, 24, [.slice]⟩ := rfl
theorem kd52 : S.kd 52 = some (.slice 222) := rfl
theorem tab53 : S.tab 53 = some ⟨.struct [(0, 22), (1, 52)], 48, [.slice, .slice]⟩ := rfl
theorem kd53 : S.kd 53 = some (.struct [(0, 22), (1, 52)]) := rfl
theorem tab54 : S.tab 54 = some ⟨.struct [(0, 22), (1, 52)], 48, [.slice, .slice]⟩ := rfl
theorem kd54 : S.kd 54 = some (.struct [(0, 22), (1, 52)]) := rfl
theorem tab57 : S.tab 57 = some ⟨.slice 225, 24, [.slice]⟩ := rfl
theorem kd57 : S.kd 57 = some (.slice 225) := rfl
theorem tab58 : S.tab 58 = some ⟨.struct [(0, 22), (1, 57)], 48, [.slice, .slice]⟩ := rfl
theorem kd58 : S.kd 58 = some (.struct [(0, 22), (1, 57)]) := rfl
theorem tab59 : S.tab 59 = some ⟨.struct [(0, 22), (1, 57)], 48, [.slice, .slice]⟩ := rfl
theorem kd59 : S.kd 59 = some (.struct [(0, 22), (1, 57)]) := rfl
theorem tab62 : S.tab 62 = some ⟨.slice 79, 24, [.slice]⟩ := rfl
theorem kd62 : S.kd 62 = some (.slice 79) := rfl
theorem tab72 : S.tab 72 = some ⟨.struct [(0, 22), (1, 22)], 48, [.slice, .slice]⟩ := rfl
theorem kd72 : S.kd 72 = some (.struct [(0, 22), (1, 22)]) := rfl
theorem tab73 : S.tab 73 = some ⟨.struct [(0, 22), (1, 22)], 48, [.slice, .slice]⟩ := rfl
theorem kd73 : S.kd 73 = some (.struct [(0, 22), (1, 22)]) := rfl
theorem tab75 : S.tab 75 = some ⟨.struct [(0, 22), (1, 22)], 48, [.slice, .slice]⟩ := rfl
theorem kd75 : S.kd 75 = some (.struct [(0, 22), (1, 22)]) := rfl
theorem tab79 : S.tab 79 = some ⟨.struct [(0, 22), (1, 22)], 48, [.slice, .slice]⟩ := rfl
theorem kd79 : S.kd 79 = some (.struct [(0, 22), (1, 22)]) := rfl
theorem tab86 : S.tab 86 = some ⟨.slice 238, 24, [.slice]⟩ := rfl
theorem kd86 : S.kd 86 = some (.slice 238) := rfl
theorem tab87 : S.tab 87 = some ⟨.struct [(0, 24), (1, 86)], 48, [.slice, .slice]⟩ := rfl
theorem kd87 : S.kd 87 = some (.struct [(0, 24), (1, 86)]) := rfl
theorem tab88 : S.tab 88 = some ⟨.struct [(0, 24), (1, 86)], 48, [.slice, .slice]⟩ := rfl
theorem kd88 : S.kd 88 = some (.struct [(0, 24), (1, 86)]) := rfl
theorem tab90 : S.tab 90 = some ⟨.slice 75, 24, [.slice]⟩ := rfl
theorem kd90 : S.kd 90 = some (.slice 75) := rfl
theorem tab91 : S.tab 91 = some ⟨.struct [(0, 35), (1, 90)], 48, [.slice, .slice]⟩ := rfl
theorem kd91 : S.kd 91 = some (.struct [(0, 35), (1, 90)]) := rfl
theorem tab92 : S.tab 92 = some ⟨.struct [(0, 35), (1, 90)], 48, [.slice, .slice]⟩ := rfl
theorem kd92 : S.kd 92 = some (.struct [(0, 35), (1, 90)]) := rfl
theorem tab95 : S.tab 95 = some ⟨.slice 159, 24, [.slice]⟩ := rfl
theorem kd95 : S.kd 95 = some (.slice 159) := rfl
theorem tab96 : S.tab 96 = some ⟨.struct [(0, 35), (1, 95)], 48, [.slice, .slice]⟩ := rfl
theorem kd96 : S.kd 96 = some (.struct [(0, 35), (1, 95)]) := rfl
theorem tab97 : S.tab 97 = some ⟨.struct [(0, 35), (1, 95)], 48, [.slice, .slice]⟩ := rfl
theorem kd97 : S.kd 97 = some (.struct [(0, 35), (1, 95)]) := rfl
theorem tab104 : S.tab 104 = some ⟨.slice 248, 24, [.slice]⟩ := rfl
theorem kd104 : S.kd 104 = some (.slice 248) := rfl
theorem tab105 : S.tab 105 = some ⟨.struct [(0, 24), (1, 104)], 48, [.slice, .slice]⟩ := rfl
theorem kd105 : S.kd 105 = some (.struct [(0, 24), (1, 104)]) := rfl
theorem tab106 : S.tab 106 = some ⟨.struct [(0, 24), (1, 104)], 48, [.slice, .slice]⟩ := rfl
theorem kd106 : S.kd 106 = some (.struct [(0, 24), (1, 104)]) := rfl
theorem tab107 : S.tab 107 = some ⟨.slice 172, 24, [.slice]⟩ := rfl
theorem kd107 : S.kd 107 = some (.slice 172) := rfl
theorem tab113 : S.tab 113 = some ⟨.slice 174, 24, [.slice]⟩ := rfl
theorem kd113 : S.kd 113 = some (.slice 174) := rfl
theorem tab123 : S.tab 123 = some ⟨.struct [(0, 24), (1, 22), (2, 51), (3, 104)], 96, [.slice, .slice, .slice, .slice]⟩ := rfl
theorem kd123 : S.kd 123 = some (.struct [(0, 24), (1, 22), (2, 51), (3, 104)]) := rfl
theorem tab124 : S.tab 124 = some ⟨.struct [(0, 24), (1, 22), (2, 51), (3, 104)], 96, [.slice, .slice, .slice, .slice]⟩ := rfl
theorem kd124 : S.kd 124 = some (.struct [(0, 24), (1, 22), (2, 51), (3, 104)]) := rfl
theorem tab127 : S.tab 127 = some ⟨.struct [(0, 35), (1, 22), (2, 62), (3, 90)], 96, [.slice, .slice, .slice, .slice]⟩ := rfl
theorem kd127 : S.kd 127 = some (.struct [(0, 35), (1, 22), (2, 62), (3, 90)]) := rfl
theorem tab128 : S.tab 128 = some ⟨.struct [(0, 35), (1, 22), (2, 62), (3, 90)], 96, [.slice, .slice, .slice, .slice]⟩ := rfl
theorem kd128 : S.kd 128 = some (.struct [(0, 35), (1, 22), (2, 62), (3, 90)]) := rfl
theorem tab138 : S.tab 138 = some ⟨.struct [(0, 2), (1, 22), (2, 2)], 40, [.int .i64, .slice, .int .i64]⟩ := rfl
theorem kd138 : S.kd 138 = some (.struct [(0, 2), (1, 22), (2, 2)]) := rfl
theorem tab139 : S.tab 139 = some ⟨.struct [(0, 2), (1, 22), (2, 2)], 40, [.int .i64, .slice, .int .i64]⟩ := rfl
theorem kd139 : S.kd 139 = some (.struct [(0, 2), (1, 22), (2, 2)]) := rfl
theorem tab158 : S.tab 158 = some ⟨.struct [(0, 22), (1, 22), (2, 62)], 72, [.slice, .slice, .slice]⟩ := rfl
theorem kd158 : S.kd 158 = some (.struct [(0, 22), (1, 22), (2, 62)]) := rfl
theorem tab159 : S.tab 159 = some ⟨.struct [(0, 22), (1, 22), (2, 62)], 72, [.slice, .slice, .slice]⟩ := rfl
theorem kd159 : S.kd 159 = some (.struct [(0, 22), (1, 22), (2, 62)]) := rfl
theorem tab171 : S.tab 171 = some ⟨.struct [(0, 2), (1, 22)], 32, [.int .i64, .slice]⟩ := rfl
theorem kd171 : S.kd 171 = some (.struct [(0, 2), (1, 22)]) := rfl
theorem tab172 : S.tab 172 = some ⟨.struct [(0, 2), (1, 22)], 32, [.int .i64, .slice]⟩ := rfl
theorem kd172 : S.kd 172 = some (.struct [(0, 2), (1, 22)]) := rfl
theorem tab174 : S.tab 174 = some ⟨.struct [(0, 2), (1, 22)], 32, [.int .i64, .slice]⟩ := rfl
theorem kd174 : S.kd 174 = some (.struct [(0, 2), (1, 22)]) := rfl
theorem tab184 : S.tab 184 = some ⟨.array 61 2, 488, [.int .i64, .int .i64, .int .i64, .int .i64, .int .i64, .int .i64, .int .i64, .int .i64, .int .i64, .int .i64, .int .i64, .int .i64, .int .i64, .int .i64, .int .i64, .int .i64, .int .i64, .int .i64, .int .i64, .int .i64, .int .i64, .int .i64, .int .i64, .int .i64, .int .i64, .int .i64, .int .i64, .int .i64, .int .i64, .int .i64, .int .i64, .int .i64, .int .i64, .int .i64, .int .i64, .int .i64, .int .i64, .int .i64, .int .i64, .int .i64, .int .i64, .int .i64, .int .i64, .int .i64, .int .i64, .int .i64, .int .i64, .int .i64, .int .i64, .int .i64, .int .i64, .int .i64, .int .i64, .int .i64, .int .i64, .int .i64, .int .i64, .int .i64, .int .i64, .int .i64, .int .i64]⟩ := rfl
theorem kd184 : S.kd 184 = some (.array 61 2) := rfl
theorem tab185 : S.tab 185 = some ⟨.array 16 184, 7808, List.replicate 976 (.int .i64)⟩ := rfl
theorem kd185 : S.kd 185 = some (.array 16 184) := rfl
theorem tab186 : S.tab 186 = some ⟨.array 16 184, 7808, List.replicate 976 (.int .i64)⟩ := rfl
theorem kd186 : S.kd 186 = some (.array 16 184) := rfl
theorem tab192 : S.tab 192 = some ⟨.slice 43, 24, [.slice]⟩ := rfl
theorem kd192 : S.kd 192 = some (.slice 43) := rfl
theorem tab195 : S.tab 195 = some ⟨.array 61 43, 1464, [.slice, .slice, .slice, .slice, .slice, .slice, .slice, .slice, .slice, .slice, .slice, .slice, .slice, .slice, .slice, .slice, .slice, .slice, .slice, .slice, .slice, .slice, .slice, .slice, .slice, .slice, .slice, .slice, .slice, .slice, .slice, .slice, .slice, .slice, .slice, .slice, .slice, .slice, .slice, .slice, .slice, .slice, .slice, .slice, .slice, .slice, .slice, .slice, .slice, .slice, .slice, .slice, .slice, .slice, .slice, .slice, .slice, .slice, .slice, .slice, .slice]⟩ := rfl
theorem kd195 : S.kd 195 = some (.array 61 43) := rfl
theorem tab196 : S.tab 196 = some ⟨.array 61 43, 1464, [.slice, .slice, .slice, .slice, .slice, .slice, .slice, .slice, .slice, .slice, .slice, .slice, .slice, .slice, .slice, .slice, .slice, .slice, .slice, .slice, .slice, .slice, .slice, .slice, .slice, .slice, .slice, .slice, .slice, .slice, .slice, .slice, .slice, .slice, .slice, .slice, .slice, .slice, .slice, .slice, .slice, .slice, .slice, .slice, .slice, .slice, .slice, .slice, .slice, .slice, .slice, .slice, .slice, .slice, .slice, .slice, .slice, .slice, .slice, .slice, .slice]⟩ := rfl
theorem kd196 : S.kd 196 = some (.array 61 43) := rfl
theorem tab203 : S.tab 203 = some ⟨.struct [(0, 2), (1, 22), (2, 2)], 40, [.int .i64, .slice, .int .i64]⟩ := rfl
theorem kd203 : S.kd 203 = some (.struct [(0, 2), (1, 22), (2, 2)]) := rfl
theorem tab216 : S.tab 216 = some ⟨.other, 8, [.ptr]⟩ := rfl
theorem kd216 : S.kd 216 = some (.other) := rfl
theorem tab217 : S.tab 217 = some ⟨.struct [(0, 35), (1, 43), (2, 43), (3, 22)], 96, [.slice, .slice, .slice, .slice]⟩ := rfl
theorem kd217 : S.kd 217 = some (.struct [(0, 35), (1, 43), (2, 43), (3, 22)]) := rfl
theorem tab218 : S.tab 218 = some ⟨.struct [(0, 35), (1, 43), (2, 43), (3, 22)], 96, [.slice, .slice, .slice, .slice]⟩ := rfl
theorem kd218 : S.kd 218 = some (.struct [(0, 35), (1, 43), (2, 43), (3, 22)]) := rfl
theorem tab221 : S.tab 221 = some ⟨.struct [(0, 2), (1, 2), (2, 4), (3, 22)], 48, [.int .i64, .int .i64, .bool, .slice]⟩ := rfl
theorem kd221 : S.kd 221 = some (.struct [(0, 2), (1, 2), (2, 4), (3, 22)]) := rfl
theorem tab222 : S.tab 222 = some ⟨.struct [(0, 2), (1, 2), (2, 4), (3, 22)], 48, [.int .i64, .int .i64, .bool, .slice]⟩ := rfl
theorem kd222 : S.kd 222 = some (.struct [(0, 2), (1, 2), (2, 4), (3, 22)]) := rfl
theorem tab225 : S.tab 225 = some ⟨.struct [(0, 2), (1, 2), (2, 4), (3, 22)], 48, [.int .i64, .int .i64, .bool, .slice]⟩ := rfl
theorem kd225 : S.kd 225 = some (.struct [(0, 2), (1, 2), (2, 4), (3, 22)]) := rfl
theorem tab232 : S.tab 232 = some ⟨.other, 8, [.fn]⟩ := rfl
theorem kd232 : S.kd 232 = some (.other) := rfl
theorem tab237 : S.tab 237 = some ⟨.struct [(0, 22), (1, 22), (2, 51)], 72, [.slice, .slice, .slice]⟩ := rfl
theorem kd237 : S.kd 237 = some (.struct [(0, 22), (1, 22), (2, 51)]) := rfl
theorem tab238 : S.tab 238 = some ⟨.struct [(0, 22), (1, 22), (2, 51)], 72, [.slice, .slice, .slice]⟩ := rfl
theorem kd238 : S.kd 238 = some (.struct [(0, 22), (1, 22), (2, 51)]) := rfl
theorem tab248 : S.tab 248 = some ⟨.struct [(0, 22), (1, 22)], 48, [.slice, .slice]⟩ := rfl
theorem kd248 : S.kd 248 = some (.struct [(0, 22), (1, 22)]) := rfl
theorem tab257 : S.tab 257 = some ⟨.int .u32, 4, [.int .u32]⟩ := rfl
theorem kd257 : S.kd 257 = some (.int .u32) := rfl
theorem tab258 : S.tab 258 = some ⟨.int .u32, 4, [.int .u32]⟩ := rfl
theorem kd258 : S.kd 258 = some (.int .u32) := rfl
theorem tab263 : S.tab 263 = some ⟨.other, 8, [.ptr]⟩ := rfl
theorem kd263 : S.kd 263 = some (.other) := rfl
theorem tab266 : S.tab 266 = some ⟨.struct [], 0, []⟩ := rfl
theorem kd266 : S.kd 266 = some (.struct []) := rfl
theorem tab267 : S.tab 267 = some ⟨.struct [], 0, []⟩ := rfl
theorem kd267 : S.kd 267 = some (.struct []) := rfl
theorem tab268 : S.tab 268 = some ⟨.other, 8, [.ptr]⟩ := rfl
theorem kd268 : S.kd 268 = some (.other) := rfl
theorem tab272 : S.tab 272 = some ⟨.int .u64, 8, [.int .u64]⟩ := rfl
theorem kd272 : S.kd 272 = some (.int .u64) := rfl
theorem tab281 : S.tab 281 = some ⟨.slice 3, 24, [.slice]⟩ := rfl
theorem kd281 : S.kd 281 = some (.slice 3) := rfl
theorem tab291 : S.tab 291 = some ⟨.array 24 22, 576, [.slice, .slice, .slice, .slice, .slice, .slice, .slice, .slice, .slice, .slice, .slice, .slice, .slice, .slice, .slice, .slice, .slice, .slice, .slice, .slice, .slice, .slice, .slice, .slice]⟩ := rfl
theorem kd291 : S.kd 291 = some (.array 24 22) := rfl
theorem tab292 : S.tab 292 = some ⟨.array 24 22, 576, [.slice, .slice, .slice, .slice, .slice, .slice, .slice, .slice, .slice, .slice, .slice, .slice, .slice, .slice, .slice, .slice, .slice, .slice, .slice, .slice, .slice, .slice, .slice, .slice]⟩ := rfl
theorem kd292 : S.kd 292 = some (.array 24 22) := rfl
theorem tab295 : S.tab 295 = some ⟨.other, 8, [.ptr]⟩ := rfl
theorem kd295 : S.kd 295 = some (.other) := rfl
theorem tab305 : S.tab 305 = some ⟨.struct [(0, 2), (1, 22)], 32, [.int .i64, .slice]⟩ := rfl
theorem kd305 : S.kd 305 = some (.struct [(0, 2), (1, 22)]) := rfl
theorem tab307 : S.tab 307 = some ⟨.slice 258, 24, [.slice]⟩ := rfl
theorem kd307 : S.kd 307 = some (.slice 258) := rfl
theorem tab310 : S.tab 310 = some ⟨.other, 16, [.iface]⟩ := rfl
theorem kd310 : S.kd 310 = some (.other) := rfl
theorem tab311 : S.tab 311 = some ⟨.other, 8, [.ptr]⟩ := rfl
theorem kd311 : S.kd 311 = some (.other) := rfl
theorem tab312 : S.tab 312 = some ⟨.int .i8, 1, [.int .i8]⟩ := rfl
theorem kd312 : S.kd 312 = some (.int .i8) := rfl
theorem tab313 : S.tab 313 = some ⟨.array 60 312, 60, [.int .i8, .int .i8, .int .i8, .int .i8, .int .i8, .int .i8, .int .i8, .int .i8, .int .i8, .int .i8, .int .i8, .int .i8, .int .i8, .int .i8, .int .i8, .int .i8, .int .i8, .int .i8, .int .i8, .int .i8, .int .i8, .int .i8, .int .i8, .int .i8, .int .i8, .int .i8, .int .i8, .int .i8, .int .i8, .int .i8, .int .i8, .int .i8, .int .i8, .int .i8, .int .i8, .int .i8, .int .i8, .int .i8, .int .i8, .int .i8, .int .i8, .int .i8, .int .i8, .int .i8, .int .i8, .int .i8, .int .i8, .int .i8, .int .i8, .int .i8, .int .i8, .int .i8, .int .i8, .int .i8, .int .i8, .int .i8, .int .i8, .int .i8, .int .i8, .int .i8]⟩ := rfl
theorem kd313 : S.kd 313 = some (.array 60 312) := rfl
theorem tab319 : S.tab 319 = some ⟨.int .i64, 8, [.int .i64]⟩ := rfl
theorem kd319 : S.kd 319 = some (.int .i64) := rfl
theorem tab328 : S.tab 328 = some ⟨.int .u64, 8, [.int .u64]⟩ := rfl
theorem kd328 : S.kd 328 = some (.int .u64) := rfl
theorem tab331 : S.tab 331 = some ⟨.struct [(0, 35), (1, 22), (2, 3)], 56, [.slice, .slice, .int .i64]⟩ := rfl
theorem kd331 : S.kd 331 = some (.struct [(0, 35), (1, 22), (2, 3)]) := rfl
theorem tab332 : S.tab 332 = some ⟨.struct [(0, 35), (1, 22), (2, 3)], 56, [.slice, .slice, .int .i64]⟩ := rfl
theorem kd332 : S.kd 332 = some (.struct [(0, 35), (1, 22), (2, 3)]) := rfl
theorem tab342 : S.tab 342 = some ⟨.other, 8, [.ptr]⟩ := rfl
theorem kd342 : S.kd 342 = some (.other) := rfl
theorem tab345 : S.tab 345 = some ⟨.slice 281, 24, [.slice]⟩ := rfl
theorem kd345 : S.kd 345 = some (.slice 281) := rfl
theorem tab346 : S.tab 346 = some ⟨.struct [(0, 35), (1, 22), (2, 22), (3, 22), (4, 345), (5, 345), (6, 43)], 168, [.slice, .slice, .slice, .slice, .slice, .slice, .slice]⟩ := rfl
theorem kd346 : S.kd 346 = some (.struct [(0, 35), (1, 22), (2, 22), (3, 22), (4, 345), (5, 345), (6, 43)]) := rfl
theorem tab347 : S.tab 347 = some ⟨.struct [(0, 35), (1, 22), (2, 22), (3, 22), (4, 345), (5, 345), (6, 43)], 168, [.slice, .slice, .slice, .slice, .slice, .slice, .slice]⟩ := rfl
theorem kd347 : S.kd 347 = some (.struct [(0, 35), (1, 22), (2, 22), (3, 22), (4, 345), (5, 345), (6, 43)]) := rfl
theorem tab348 : S.tab 348 = some ⟨.int .u64, 8, [.int .u64]⟩ := rfl
theorem kd348 : S.kd 348 = some (.int .u64) := rfl
theorem tab352 : S.tab 352 = some ⟨.other, 8, [.ptr]⟩ := rfl
theorem kd352 : S.kd 352 = some (.other) := rfl
theorem tab354 : S.tab 354 = some ⟨.other, 8, [.ptr]⟩ := rfl
theorem kd354 : S.kd 354 = some (.other) := rfl
theorem tab363 : S.tab 363 = some ⟨.other, 8, [.ptr]⟩ := rfl
theorem kd363 : S.kd 363 = some (.other) := rfl
theorem tab375 : S.tab 375 = some ⟨.other, 8, [.ptr]⟩ := rfl
theorem kd375 : S.kd 375 = some (.other) := rfl
theorem tab382 : S.tab 382 = some ⟨.other, 8, [.ptr]⟩ := rfl
theorem kd382 : S.kd 382 = some (.other) := rfl
theorem tab383 : S.tab 383 = some ⟨.struct [(0, 43)], 24, [.slice]⟩ := rfl
theorem kd383 : S.kd 383 = some (.struct [(0, 43)]) := rfl
theorem tab384 : S.tab 384 = some ⟨.struct [(0, 43)], 24, [.slice]⟩ := rfl
theorem kd384 : S.kd 384 = some (.struct [(0, 43)]) := rfl
attribute [go_sem] tab2 kd2 tab3 kd3 tab4 kd4 tab5 kd5 tab9 kd9 tab12 kd12 tab21 kd21 tab22 kd22 tab23 kd23 tab24 kd24 tab25 kd25 tab26 kd26 tab27 kd27 tab30 kd30 tab31 kd31 tab32 kd32 tab35 kd35 tab43 kd43 tab51 kd51 tab52 kd52 tab53 kd53 tab54 kd54 tab57 kd57 tab58 kd58 tab59 kd59 tab62 kd62 tab72 kd72 tab73 kd73 tab75 kd75 tab79 kd79 tab86 kd86 tab87 kd87 tab88 kd88 tab90 kd90 tab91 kd91 tab92 kd92 tab95 kd95 tab96 kd96 tab97 kd97 tab104 kd104 tab105 kd105 tab106 kd106 tab107 kd107 tab113 kd113 tab123 kd123 tab124 kd124 tab127 kd127 tab128 kd128 tab138 kd138 tab139 kd139 tab158 kd158 tab159 kd159 tab171 kd171 tab172 kd172 tab174 kd174 tab184 kd184 tab185 kd185 tab186 kd186 tab192 kd192 tab195 kd195 tab196 kd196 tab203 kd203 tab216 kd216 tab217 kd217 tab218 kd218 tab221 kd221 tab222 kd222 tab225 kd225 tab232 kd232 tab237 kd237 tab238 kd238 tab248 kd248 tab257 kd257 tab258 kd258 tab263 kd263 tab266 kd266 tab267 kd267 tab268 kd268 tab272 kd272 tab281 kd281 tab291 kd291 tab292 kd292 tab295 kd295 tab305 kd305 tab307 kd307 tab310 kd310 tab311 kd311 tab312 kd312 tab313 kd313 tab319 kd319 tab328 kd328 tab331 kd331 tab332 kd332 tab342 kd342 tab345 kd345 tab346 kd346 tab347 kd347 tab348 kd348 tab352 kd352 tab354 kd354 tab363 kd363 tab375 kd375 tab382 kd382 tab383 kd383 tab384 kd384
end Go.Proofs.Ytgbcnhbmfjkhmaa

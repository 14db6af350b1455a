/-
  The types that the rules ask for, out of the translation; made by mksetup.py. The check against the program is a closed fact.
-/
import Derived.Test.YtekomfgofjbemaaProg
import Derived.Test.YtekomfgofjbemaaLgAttr
import Derived.KernelRfl
namespace Go.Proofs.Ytekomfgofjbemaa
open Go Go.Lg

def tabL : List (Nat × TyI) := [
  (2, ⟨.int .i64, 8, [.int .i64]⟩),
  (3, ⟨.int .i64, 8, [.int .i64]⟩),
  (4, ⟨.bool, 1, [.bool]⟩),
  (5, ⟨.int .u8, 1, [.int .u8]⟩),
  (9, ⟨.string, 16, [.str]⟩),
  (12, ⟨.int .u64, 8, [.int .u64]⟩),
  (21, ⟨.int .i32, 4, [.int .i32]⟩),
  (22, ⟨.slice 2, 24, [.slice]⟩),
  (23, ⟨.struct [(0, 22)], 24, [.slice]⟩),
  (24, ⟨.struct [(0, 22)], 24, [.slice]⟩),
  (25, ⟨.slice 170, 24, [.slice]⟩),
  (26, ⟨.struct [(0, 2), (1, 25), (2, 22)], 56, [.int .i64, .slice, .slice]⟩),
  (27, ⟨.struct [(0, 2), (1, 25), (2, 22)], 56, [.int .i64, .slice, .slice]⟩),
  (31, ⟨.struct [(0, 22)], 24, [.slice]⟩),
  (33, ⟨.slice 123, 24, [.slice]⟩),
  (34, ⟨.struct [(0, 2), (1, 33), (2, 22)], 56, [.int .i64, .slice, .slice]⟩),
  (35, ⟨.struct [(0, 2), (1, 33), (2, 22)], 56, [.int .i64, .slice, .slice]⟩),
  (40, ⟨.slice 74, 24, [.slice]⟩),
  (41, ⟨.struct [(0, 22), (1, 22), (2, 40)], 72, [.slice, .slice, .slice]⟩),
  (42, ⟨.struct [(0, 22), (1, 22), (2, 40)], 72, [.slice, .slice, .slice]⟩),
  (45, ⟨.slice 77, 24, [.slice]⟩),
  (46, ⟨.struct [(0, 22), (1, 22), (2, 45)], 72, [.slice, .slice, .slice]⟩),
  (47, ⟨.struct [(0, 22), (1, 22), (2, 45)], 72, [.slice, .slice, .slice]⟩),
  (51, ⟨.slice 42, 24, [.slice]⟩),
  (52, ⟨.struct [(0, 24), (1, 51)], 48, [.slice, .slice]⟩),
  (53, ⟨.struct [(0, 24), (1, 51)], 48, [.slice, .slice]⟩),
  (56, ⟨.slice 47, 24, [.slice]⟩),
  (57, ⟨.struct [(0, 31), (1, 56)], 48, [.slice, .slice]⟩),
  (58, ⟨.struct [(0, 31), (1, 56)], 48, [.slice, .slice]⟩),
  (62, ⟨.slice 184, 24, [.slice]⟩),
  (63, ⟨.struct [(0, 24), (1, 22), (2, 62)], 72, [.slice, .slice, .slice]⟩),
  (64, ⟨.struct [(0, 24), (1, 22), (2, 62)], 72, [.slice, .slice, .slice]⟩),
  (67, ⟨.slice 144, 24, [.slice]⟩),
  (68, ⟨.struct [(0, 31), (1, 22), (2, 67)], 72, [.slice, .slice, .slice]⟩),
  (69, ⟨.struct [(0, 31), (1, 22), (2, 67)], 72, [.slice, .slice, .slice]⟩),
  (73, ⟨.struct [(0, 22), (1, 22)], 48, [.slice, .slice]⟩),
  (74, ⟨.struct [(0, 22), (1, 22)], 48, [.slice, .slice]⟩),
  (77, ⟨.struct [(0, 22), (1, 22)], 48, [.slice, .slice]⟩),
  (81, ⟨.struct [(0, 2), (1, 2), (2, 4), (3, 22)], 48, [.int .i64, .int .i64, .bool, .slice]⟩),
  (82, ⟨.struct [(0, 2), (1, 2), (2, 4), (3, 22)], 48, [.int .i64, .int .i64, .bool, .slice]⟩),
  (88, ⟨.struct [(0, 2), (1, 2), (2, 4), (3, 22)], 48, [.int .i64, .int .i64, .bool, .slice]⟩),
  (94, ⟨.slice 82, 24, [.slice]⟩),
  (95, ⟨.struct [(0, 22), (1, 94)], 48, [.slice, .slice]⟩),
  (96, ⟨.struct [(0, 22), (1, 94)], 48, [.slice, .slice]⟩),
  (99, ⟨.slice 88, 24, [.slice]⟩),
  (100, ⟨.struct [(0, 22), (1, 99)], 48, [.slice, .slice]⟩),
  (101, ⟨.struct [(0, 22), (1, 99)], 48, [.slice, .slice]⟩),
  (109, ⟨.slice 5, 24, [.slice]⟩),
  (122, ⟨.struct [(0, 2), (1, 22), (2, 2)], 40, [.int .i64, .slice, .int .i64]⟩),
  (123, ⟨.struct [(0, 2), (1, 22), (2, 2)], 40, [.int .i64, .slice, .int .i64]⟩),
  (134, ⟨.slice 22, 24, [.slice]⟩),
  (143, ⟨.struct [(0, 2), (1, 134), (2, 22)], 56, [.int .i64, .slice, .slice]⟩),
  (144, ⟨.struct [(0, 2), (1, 134), (2, 22)], 56, [.int .i64, .slice, .slice]⟩),
  (160, ⟨.array 61 2, 488, [.int .i64, .int .i64, .int .i64, .int .i64, .int .i64, .int .i64, .int .i64, .int .i64, .int .i64, .int .i64, .int .i64, .int .i64, .int .i64, .int .i64, .int .i64, .int .i64, .int .i64, .int .i64, .int .i64, .int .i64, .int .i64, .int .i64, .int .i64, .int .i64, .int .i64, .int .i64, .int .i64, .int .i64, .int .i64, .int .i64, .int .i64, .int .i64, .int .i64, .int .i64, .int .i64, .int .i64, .int .i64, .int .i64, .int .i64, .int .i64, .int .i64, .int .i64, .int .i64, .int .i64, .int .i64, .int .i64, .int .i64, .int .i64, .int .i64, .int .i64, .int .i64, .int .i64, .int .i64, .int .i64, .int .i64, .int .i64, .int .i64, .int .i64, .int .i64, .int .i64, .int .i64]⟩),
  (164, ⟨.other, 8, [.ptr]⟩),
  (170, ⟨.struct [(0, 2), (1, 22), (2, 2)], 40, [.int .i64, .slice, .int .i64]⟩),
  (184, ⟨.struct [(0, 2), (1, 134), (2, 22)], 56, [.int .i64, .slice, .slice]⟩),
  (187, ⟨.struct [(0, 22), (1, 22)], 48, [.slice, .slice]⟩),
  (203, ⟨.array 24 22, 576, [.slice, .slice, .slice, .slice, .slice, .slice, .slice, .slice, .slice, .slice, .slice, .slice, .slice, .slice, .slice, .slice, .slice, .slice, .slice, .slice, .slice, .slice, .slice, .slice]⟩),
  (204, ⟨.array 24 22, 576, [.slice, .slice, .slice, .slice, .slice, .slice, .slice, .slice, .slice, .slice, .slice, .slice, .slice, .slice, .slice, .slice, .slice, .slice, .slice, .slice, .slice, .slice, .slice, .slice]⟩),
  (208, ⟨.int .u32, 4, [.int .u32]⟩),
  (209, ⟨.int .u32, 4, [.int .u32]⟩),
  (213, ⟨.other, 8, [.ptr]⟩),
  (214, ⟨.struct [(0, 109), (1, 3), (2, 2)], 40, [.slice, .int .i64, .int .i64]⟩),
  (215, ⟨.struct [(0, 109), (1, 3), (2, 2)], 40, [.slice, .int .i64, .int .i64]⟩),
  (222, ⟨.struct [(0, 31), (1, 22), (2, 3)], 56, [.slice, .slice, .int .i64]⟩),
  (223, ⟨.struct [(0, 31), (1, 22), (2, 3)], 56, [.slice, .slice, .int .i64]⟩),
  (230, ⟨.slice 209, 24, [.slice]⟩),
  (231, ⟨.slice 3, 24, [.slice]⟩),
  (234, ⟨.int .u64, 8, [.int .u64]⟩),
  (235, ⟨.other, 8, [.ptr]⟩),
  (248, ⟨.other, 8, [.ptr]⟩),
  (256, ⟨.other, 8, [.ptr]⟩),
  (257, ⟨.struct [(0, 134)], 24, [.slice]⟩),
  (258, ⟨.struct [(0, 134)], 24, [.slice]⟩)]
theorem tab_check : (tabL.all fun p => tyCheck Try.prog p.1 p.2) = true := by kernel_rfl
theorem mixed : Try.prog.follows .mixedOrders = true := by kernel_rfl
noncomputable def S : Setup := { P := Try.prog, tab := Lg.look tabL, ok := tabOk tab_check, mixed := mixed }
theorem tab2 : S.tab 2 = some ⟨.int .i64, 8, [.int .i64]⟩ := rfl
theorem kd2 : S.kd 2 = some (.int .i64) := rfl
theorem tab3 : S.tab 3 = some ⟨.int .i64, 8, [.int .i64]⟩ := rfl
theorem kd3 : S.kd 3 = some (.int .i64) := rfl
theorem tab4 : S.tab 4 = some ⟨.bool, 1, [.bool]⟩ := rfl
theorem kd4 : S.kd 4 = some (.bool) := rfl
theorem tab5 : S.tab 5 = some ⟨.int .u8, 1, [.int .u8]⟩ := rfl
theorem kd5 : S.kd 5 = some (.int .u8) := rfl
theorem tab9 : S.tab 9 = some ⟨.string, 16, [.str]⟩ := rfl
theorem kd9 : S.kd 9 = some (.string) := rfl
theorem tab12 : S.tab 12 = some ⟨.int .u64, 8, [.int .u64]⟩ := rfl
theorem kd12 : S.kd 12 = some (.int .u64) := rfl
theorem tab21 : S.tab 21 = some ⟨.int .i32, 4, [.int .i32]⟩ := rfl
theorem kd21 : S.kd 21 = some (.int .i32) := rfl
theorem tab22 : S.tab 22 = some ⟨.slice 2, 24, [.slice]⟩ := rfl
theorem kd22 : S.kd 22 = some (.slice 2) := rfl
theorem tab23 : S.tab 23 = some ⟨.struct [(0, 22)], 24, [.slice]⟩ := rfl
theorem kd23 : S.kd 23 = some (.struct [(0, 22)]) := rfl
theorem tab24 : S.tab 24 = some ⟨.struct [(0, 22)], 24, [.slice]⟩ := rfl
theorem kd24 : S.kd 24 = some (.struct [(0, 22)]) := rfl
theorem tab25 : S.tab 25 = some ⟨.slice 170, 24, [.slice]⟩ := rfl
theorem kd25 : S.kd 25 = some (.slice 170) := rfl
theorem tab26 : S.tab 26 = some ⟨.struct [(0, 2), (1, 25), (2, 22)], 56, [.int .i64, .slice, .slice]⟩ := rfl
theorem kd26 : S.kd 26 = some (.struct [(0, 2), (1, 25), (2, 22)]) := rfl
theorem tab27 : S.tab 27 = some ⟨.struct [(0, 2), (1, 25), (2, 22)], 56, [.int .i64, .slice, .slice]⟩ := rfl
theorem kd27 : S.kd 27 = some (.struct [(0, 2), (1, 25), (2, 22)]) := rfl
theorem tab31 : S.tab 31 = some ⟨.struct [(0, 22)], 24, [.slice]⟩ := rfl
theorem kd31 : S.kd 31 = some (.struct [(0, 22)]) := rfl
theorem tab33 : S.tab 33 = some ⟨.slice 123, 24, [.slice]⟩ := rfl
theorem kd33 : S.kd 33 = some (.slice 123) := rfl
theorem tab34 : S.tab 34 = some ⟨.struct [(0, 2), (1, 33), (2, 22)], 56, [.int .i64, .slice, .slice]⟩ := rfl
theorem kd34 : S.kd 34 = some (.struct [(0, 2), (1, 33), (2, 22)]) := rfl
theorem tab35 : S.tab 35 = some ⟨.struct [(0, 2), (1, 33), (2, 22)], 56, [.int .i64, .slice, .slice]⟩ := rfl
theorem kd35 : S.kd 35 = some (.struct [(0, 2), (1, 33), (2, 22)]) := rfl
theorem tab40 : S.tab 40 = some ⟨.slice 74, 24, [.slice]⟩ := rfl
theorem kd40 : S.kd 40 = some (.slice 74) := rfl
theorem tab41 : S.tab 41 = some ⟨.struct [(0, 22), (1, 22), (2, 40)], 72, [.slice, .slice, .slice]⟩ := rfl
theorem kd41 : S.kd 41 = some (.struct [(0, 22), (1, 22), (2, 40)]) := rfl
theorem tab42 : S.tab 42 = some ⟨.struct [(0, 22), (1, 22), (2, 40)], 72, [.slice, .slice, .slice]⟩ := rfl
theorem kd42 : S.kd 42 = some (.struct [(0, 22), (1, 22), (2, 40)]) := rfl
theorem tab45 : S.tab 45 = some ⟨.slice 77, 24, [.slice]⟩ := rfl
theorem kd45 : S.kd 45 = some (.slice 77) := rfl
theorem tab46 : S.tab 46 = some ⟨.struct [(0, 22), (1, 22), (2, 45)], 72, [.slice, .slice, .slice]⟩ := rfl
theorem kd46 : S.kd 46 = some (.struct [(0, 22), (1, 22), (2, 45)]) := rfl
theorem tab47 : S.tab 47 = some ⟨.struct [(0, 22), (1, 22), (2, 45)], 72, [.slice, .slice, .slice]⟩ := rfl
theorem kd47 : S.kd 47 = some (.struct [(0, 22), (1, 22), (2, 45)]) := rfl
theorem tab51 : S.tab 51 = some ⟨.slice 42, 24, [.slice]⟩ := rfl
theorem kd51 : S.kd 51 = some (.slice 42) := rfl
theorem tab52 : S.tab 52 = some ⟨.struct [(0, 24), (1, 51)], 48, [.slice, .slice]⟩ := rfl
theorem kd52 : S.kd 52 = some (.struct [(0, 24), (1, 51)]) := rfl
theorem tab53 : S.tab 53 = some ⟨.struct [(0, 24), (1, 51)], 48, [.slice, .slice]⟩ := rfl
theorem kd53 : S.kd 53 = some (.struct [(0, 24), (1, 51)]) := rfl
theorem tab56 : S.tab 56 = some ⟨.slice 47, 24, [.slice]⟩ := rfl
theorem kd56 : S.kd 56 = some (.slice 47) := rfl
theorem tab57 : S.tab 57 = some ⟨.struct [(0, 31), (1, 56)], 48, [.slice, .slice]⟩ := rfl
theorem kd57 : S.kd 57 = some (.struct [(0, 31), (1, 56)]) := rfl
theorem tab58 : S.tab 58 = some ⟨.struct [(0, 31), (1, 56)], 48, [.slice, .slice]⟩ := rfl
theorem kd58 : S.kd 58 = some (.struct [(0, 31), (1, 56)]) := rfl
theorem tab62 : S.tab 62 = some ⟨.slice 184, 24, [.slice]⟩ := rfl
theorem kd62 : S.kd 62 = some (.slice 184) := rfl
theorem tab63 : S.tab 63 = some ⟨.struct [(0, 24), (1, 22), (2, 62)], 72, [.slice, .slice, .slice]⟩ := rfl
theorem kd63 : S.kd 63 = some (.struct [(0, 24), (1, 22), (2, 62)]) := rfl
theorem tab64 : S.tab 64 = some ⟨.struct [(0, 24), (1, 22), (2, 62)], 72, [.slice, .slice, .slice]⟩ := rfl
theorem kd64 : S.kd 64 = some (.struct [(0, 24), (1, 22), (2, 62)]) := rfl
theorem tab67 : S.tab 67 = some ⟨.slice 144, 24, [.slice]⟩ := rfl
theorem kd67 : S.kd 67 = some (.slice 144) := rfl
theorem tab68 : S.tab 68 = some ⟨.struct [(0, 31), (1, 22), (2, 67)], 72, [.slice, .slice, .slice]⟩ := rfl
theorem kd68 : S.kd 68 = some (.struct [(0, 31), (1, 22), (2, 67)]) := rfl
theorem tab69 : S.tab 69 = some ⟨.struct [(0, 31), (1, 22), (2, 67)], 72, [.slice, .slice, .slice]⟩ := rfl
theorem kd69 : S.kd 69 = some (.struct [(0, 31), (1, 22), (2, 67)]) := rfl
theorem tab73 : S.tab 73 = some ⟨.struct [(0, 22), (1, 22)], 48, [.slice, .slice]⟩ := rfl
theorem kd73 : S.kd 73 = some (.struct [(0, 22), (1, 22)]) := rfl
theorem tab74 : S.tab 74 = some ⟨.struct [(0, 22), (1, 22)], 48, [.slice, .slice]⟩ := rfl
theorem kd74 : S.kd 74 = some (.struct [(0, 22), (1, 22)]) := rfl
theorem tab77 : S.tab 77 = some ⟨.struct [(0, 22), (1, 22)], 48, [.slice, .slice]⟩ := rfl
theorem kd77 : S.kd 77 = some (.struct [(0, 22), (1, 22)]) := rfl
theorem tab81 : S.tab 81 = some ⟨.struct [(0, 2), (1, 2), (2, 4), (3, 22)], 48, [.int .i64, .int .i64, .bool, .slice]⟩ := rfl
theorem kd81 : S.kd 81 = some (.struct [(0, 2), (1, 2), (2, 4), (3, 22)]) := rfl
theorem tab82 : S.tab 82 = some ⟨.struct [(0, 2), (1, 2), (2, 4), (3, 22)], 48, [.int .i64, .int .i64, .bool, .slice]⟩ := rfl
theorem kd82 : S.kd 82 = some (.struct [(0, 2), (1, 2), (2, 4), (3, 22)]) := rfl
theorem tab88 : S.tab 88 = some ⟨.struct [(0, 2), (1, 2), (2, 4), (3, 22)], 48, [.int .i64, .int .i64, .bool, .slice]⟩ := rfl
theorem kd88 : S.kd 88 = some (.struct [(0, 2), (1, 2), (2, 4), (3, 22)]) := rfl
theorem tab94 : S.tab 94 = some ⟨.slice 82, 24, [.slice]⟩ := rfl
theorem kd94 : S.kd 94 = some (.slice 82) := rfl
theorem tab95 : S.tab 95 = some ⟨.struct [(0, 22), (1, 94)], 48, [.slice, .slice]⟩ := rfl
theorem kd95 : S.kd 95 = some (.struct [(0, 22), (1, 94)]) := rfl
theorem tab96 : S.tab 96 = some ⟨.struct [(0, 22), (1, 94)], 48, [.slice, .slice]⟩ := rfl
theorem kd96 : S.kd 96 = some (.struct [(0, 22), (1, 94)]) := rfl
theorem tab99 : S.tab 99 = some ⟨.slice 88, 24, [.slice]⟩ := rfl
theorem kd99 : S.kd 99 = some (.slice 88) := rfl
theorem tab100 : S.tab 100 = some ⟨.struct [(0, 22), (1, 99)], 48, [.slice, .slice]⟩ := rfl
theorem kd100 : S.kd 100 = some (.struct [(0, 22), (1, 99)]) := rfl
theorem tab101 : S.tab 101 = some ⟨.struct [(0, 22), (1, 99)], 48, [.slice, .slice]⟩ := rfl
theorem kd101 : S.kd 101 = some (.struct [(0, 22), (1, 99)]) := rfl
theorem tab109 : S.tab 109 = some ⟨.slice 5, 24, [.slice]⟩ := rfl
theorem kd109 : S.kd 109 = some (.slice 5) := rfl
theorem tab122 : S.tab 122 = some ⟨.struct [(0, 2), (1, 22), (2, 2)], 40, [.int .i64, .slice, .int .i64]⟩ := rfl
theorem kd122 : S.kd 122 = some (.struct [(0, 2), (1, 22), (2, 2)]) := rfl
theorem tab123 : S.tab 123 = some ⟨.struct [(0, 2), (1, 22), (2, 2)], 40, [.int .i64, .slice, .int .i64]⟩ := rfl
theorem kd123 : S.kd 123 = some (.struct [(0, 2), (1, 22), (2, 2)]) := rfl
theorem tab134 : S.tab 134 = some ⟨.slice 22, 24, [.slice]⟩ := rfl
theorem kd134 : S.kd 134 = some (.slice 22) := rfl
theorem tab143 : S.tab 143 = some ⟨.struct [(0, 2), (1, 134), (2, 22)], 56, [.int .i64, .slice, .slice]⟩ := rfl
theorem kd143 : S.kd 143 = some (.struct [(0, 2), (1, 134), (2, 22)]) := rfl
theorem tab144 : S.tab 144 = some ⟨.struct [(0, 2), (1, 134), (2, 22)], 56, [.int .i64, .slice, .slice]⟩ := rfl
theorem kd144 : S.kd 144 = some (.struct [(0, 2), (1, 134), (2, 22)]) := rfl
theorem tab160 : S.tab 160 = some ⟨.array 61 2, 488, [.int .i64, .int .i64, .int .i64, .int .i64, .int .i64, .int .i64, .int .i64, .int .i64, .int .i64, .int .i64, .int .i64, .int .i64, .int .i64, .int .i64, .int .i64, .int .i64, .int .i64, .int .i64, .int .i64, .int .i64, .int .i64, .int .i64, .int .i64, .int .i64, .int .i64, .int .i64, .int .i64, .int .i64, .int .i64, .int .i64, .int .i64, .int .i64, .int .i64, .int .i64, .int .i64, .int .i64, .int .i64, .int .i64, .int .i64, .int .i64, .int .i64, .int .i64, .int .i64, .int .i64, .int .i64, .int .i64, .int .i64, .int .i64, .int .i64, .int .i64, .int .i64, .int .i64, .int .i64, .int .i64, .int .i64, .int .i64, .int .i64, .int .i64, .int .i64, .int .i64, .int .i64]⟩ := rfl
theorem kd160 : S.kd 160 = some (.array 61 2) := rfl
theorem tab164 : S.tab 164 = some ⟨.other, 8, [.ptr]⟩ := rfl
theorem kd164 : S.kd 164 = some (.other) := rfl
theorem tab170 : S.tab 170 = some ⟨.struct [(0, 2), (1, 22), (2, 2)], 40, [.int .i64, .slice, .int .i64]⟩ := rfl
theorem kd170 : S.kd 170 = some (.struct [(0, 2), (1, 22), (2, 2)]) := rfl
theorem tab184 : S.tab 184 = some ⟨.struct [(0, 2), (1, 134), (2, 22)], 56, [.int .i64, .slice, .slice]⟩ := rfl
theorem kd184 : S.kd 184 = some (.struct [(0, 2), (1, 134), (2, 22)]) := rfl
theorem tab187 : S.tab 187 = some ⟨.struct [(0, 22), (1, 22)], 48, [.slice, .slice]⟩ := rfl
theorem kd187 : S.kd 187 = some (.struct [(0, 22), (1, 22)]) := rfl
theorem tab203 : S.tab 203 = some ⟨.array 24 22, 576, [.slice, .slice, .slice, .slice, .slice, .slice, .slice, .slice, .slice, .slice, .slice, .slice, .slice, .slice, .slice, .slice, .slice, .slice, .slice, .slice, .slice, .slice, .slice, .slice]⟩ := rfl
theorem kd203 : S.kd 203 = some (.array 24 22) := rfl
theorem tab204 : S.tab 204 = some ⟨.array 24 22, 576, [.slice, .slice, .slice, .slice, .slice, .slice, .slice, .slice, .slice, .slice, .slice, .slice, .slice, .slice, .slice, .slice, .slice, .slice, .slice, .slice, .slice, .slice, .slice, .slice]⟩ := rfl
theorem kd204 : S.kd 204 = some (.array 24 22) := rfl
theorem tab208 : S.tab 208 = some ⟨.int .u32, 4, [.int .u32]⟩ := rfl
theorem kd208 : S.kd 208 = some (.int .u32) := rfl
theorem tab209 : S.tab 209 = some ⟨.int .u32, 4, [.int .u32]⟩ := rfl
theorem kd209 : S.kd 209 = some (.int .u32) := rfl
theorem tab213 : S.tab 213 = some ⟨.other, 8, [.ptr]⟩ := rfl
theorem kd213 : S.kd 213 = some (.other) := rfl
theorem tab214 : S.tab 214 = some ⟨.struct [(0, 109), (1, 3), (2, 2)], 40, [.slice, .int .i64, .int .i64]⟩ := rfl
theorem kd214 : S.kd 214 = some (.struct [(0, 109), (1, 3), (2, 2)]) := rfl
theorem tab215 : S.tab 215 = some ⟨.struct [(0, 109), (1, 3), (2, 2)], 40, [.slice, .int .i64, .int .i64]⟩ := rfl
theorem kd215 : S.kd 215 = some (.struct [(0, 109), (1, 3), (2, 2)]) := rfl
theorem tab222 : S.tab 222 = some ⟨.struct [(0, 31), (1, 22), (2, 3)], 56, [.slice, .slice, .int .i64]⟩ := rfl
theorem kd222 : S.kd 222 = some (.struct [(0, 31), (1, 22), (2, 3)]) := rfl
theorem tab223 : S.tab 223 = some ⟨.struct [(0, 31), (1, 22), (2, 3)], 56, [.slice, .slice, .int .i64]⟩ := rfl
theorem kd223 : S.kd 223 = some (.struct [(0, 31), (1, 22), (2, 3)]) := rfl
theorem tab230 : S.tab 230 = some ⟨.slice 209, 24, [.slice]⟩ := rfl
theorem kd230 : S.kd 230 = some (.slice 209) := rfl
theorem tab231 : S.tab 231 = some ⟨.slice 3, 24, [.slice]⟩ := rfl
theorem kd231 : S.kd 231 = some (.slice 3) := rfl
theorem tab234 : S.tab 234 = some ⟨.int .u64, 8, [.int .u64]⟩ := rfl
theorem kd234 : S.kd 234 = some (.int .u64) := rfl
theorem tab235 : S.tab 235 = some ⟨.other, 8, [.ptr]⟩ := rfl
theorem kd235 : S.kd 235 = some (.other) := rfl
theorem tab248 : S.tab 248 = some ⟨.other, 8, [.ptr]⟩ := rfl
theorem kd248 : S.kd 248 = some (.other) := rfl
theorem tab256 : S.tab 256 = some ⟨.other, 8, [.ptr]⟩ := rfl
theorem kd256 : S.kd 256 = some (.other) := rfl
theorem tab257 : S.tab 257 = some ⟨.struct [(0, 134)], 24, [.slice]⟩ := rfl
theorem kd257 : S.kd 257 = some (.struct [(0, 134)]) := rfl
theorem tab258 : S.tab 258 = some ⟨.struct [(0, 134)], 24, [.slice]⟩ := rfl
theorem kd258 : S.kd 258 = some (.struct [(0, 134)]) := rfl
attribute [go_sem] tab2 kd2 tab3 kd3 tab4 kd4 tab5 kd5 tab9 kd9 tab12 kd12 tab21 kd21 tab22 kd22 tab23 kd23 tab24 kd24 tab25 kd25 tab26 kd26 tab27 kd27 tab31 kd31 tab33 kd33 tab34 kd34 tab35 kd35 tab40 kd40 tab41 kd41 tab42 kd42 tab45 kd45 tab46 kd46 tab47 kd47 tab51 kd51 tab52 kd52 tab53 kd53 tab56 kd56 tab57 kd57 tab58 kd58 tab62 kd62 tab63 kd63 tab64 kd64 tab67 kd67 tab68 kd68 tab69 kd69 tab73 kd73 tab74 kd74 tab77 kd77 tab81 kd81 tab82 kd82 tab88 kd88 tab94 kd94 tab95 kd95 tab96 kd96 tab99 kd99 tab100 kd100 tab101 kd101 tab109 kd109 tab122 kd122 tab123 kd123 tab134 kd134 tab143 kd143 tab144 kd144 tab160 kd160 tab164 kd164 tab170 kd170 tab184 kd184 tab187 kd187 tab203 kd203 tab204 kd204 tab208 kd208 tab209 kd209 tab213 kd213 tab214 kd214 tab215 kd215 tab222 kd222 tab223 kd223 tab230 kd230 tab231 kd231 tab234 kd234 tab235 kd235 tab248 kd248 tab256 kd256 tab257 kd257 tab258 kd258
end Go.Proofs.Ytekomfgofjbemaa

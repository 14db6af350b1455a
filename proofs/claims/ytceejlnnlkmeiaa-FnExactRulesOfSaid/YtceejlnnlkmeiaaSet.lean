/-
  The types that the rules ask for, out of the translation; made by mksetup.py. The check against the program is a closed fact.
-/
import Derived.Test.YtceejlnnlkmeiaaProg
import Derived.Test.YtceejlnnlkmeiaaLgAttr
import Derived.KernelRfl
namespace Go.Proofs.Ytceejlnnlkmeiaa
open Go Go.Lg

def tabL : List (Nat × TyI) := [
  (2, ⟨.int .i64, 8, [.int .i64]⟩),
  (3, ⟨.int .i64, 8, [.int .i64]⟩),
  (4, ⟨.bool, 1, [.bool]⟩),
  (5, ⟨.int .u8, 1, [.int .u8]⟩),
  (9, ⟨.string, 16, [.str]⟩),
  (12, ⟨.int .u64, 8, [.int .u64]⟩),
  (21, ⟨.int .i32, 4, [.int .i32]⟩),
  (22, ⟨.slice 2, 24, [.slice]⟩),
  (23, ⟨.slice 128, 24, [.slice]⟩),
  (32, ⟨.struct [(0, 22)], 24, [.slice]⟩),
  (33, ⟨.struct [(0, 22)], 24, [.slice]⟩),
  (34, ⟨.slice 192, 24, [.slice]⟩),
  (35, ⟨.struct [(0, 33), (1, 34)], 48, [.slice, .slice]⟩),
  (36, ⟨.struct [(0, 33), (1, 34)], 48, [.slice, .slice]⟩),
  (38, ⟨.slice 137, 24, [.slice]⟩),
  (40, ⟨.struct [(0, 22)], 24, [.slice]⟩),
  (41, ⟨.slice 110, 24, [.slice]⟩),
  (42, ⟨.struct [(0, 40), (1, 41)], 48, [.slice, .slice]⟩),
  (43, ⟨.struct [(0, 40), (1, 41)], 48, [.slice, .slice]⟩),
  (51, ⟨.slice 203, 24, [.slice]⟩),
  (52, ⟨.struct [(0, 2), (1, 51), (2, 22)], 56, [.int .i64, .slice, .slice]⟩),
  (53, ⟨.struct [(0, 2), (1, 51), (2, 22)], 56, [.int .i64, .slice, .slice]⟩),
  (56, ⟨.slice 149, 24, [.slice]⟩),
  (57, ⟨.struct [(0, 2), (1, 56), (2, 22)], 56, [.int .i64, .slice, .slice]⟩),
  (58, ⟨.struct [(0, 2), (1, 56), (2, 22)], 56, [.int .i64, .slice, .slice]⟩),
  (68, ⟨.slice 212, 24, [.slice]⟩),
  (69, ⟨.struct [(0, 33), (1, 68)], 48, [.slice, .slice]⟩),
  (70, ⟨.struct [(0, 33), (1, 68)], 48, [.slice, .slice]⟩),
  (74, ⟨.slice 156, 24, [.slice]⟩),
  (75, ⟨.struct [(0, 40), (1, 74)], 48, [.slice, .slice]⟩),
  (76, ⟨.struct [(0, 40), (1, 74)], 48, [.slice, .slice]⟩),
  (81, ⟨.slice 161, 24, [.slice]⟩),
  (83, ⟨.struct [(0, 40), (1, 22), (2, 38), (3, 41)], 96, [.slice, .slice, .slice, .slice]⟩),
  (84, ⟨.struct [(0, 40), (1, 22), (2, 38), (3, 41)], 96, [.slice, .slice, .slice, .slice]⟩),
  (93, ⟨.slice 226, 24, [.slice]⟩),
  (94, ⟨.struct [(0, 33), (1, 22), (2, 93)], 72, [.slice, .slice, .slice]⟩),
  (95, ⟨.struct [(0, 33), (1, 22), (2, 93)], 72, [.slice, .slice, .slice]⟩),
  (98, ⟨.slice 173, 24, [.slice]⟩),
  (99, ⟨.struct [(0, 40), (1, 22), (2, 98)], 72, [.slice, .slice, .slice]⟩),
  (100, ⟨.struct [(0, 40), (1, 22), (2, 98)], 72, [.slice, .slice, .slice]⟩),
  (105, ⟨.slice 5, 24, [.slice]⟩),
  (109, ⟨.struct [(0, 22), (1, 22)], 48, [.slice, .slice]⟩),
  (110, ⟨.struct [(0, 22), (1, 22)], 48, [.slice, .slice]⟩),
  (116, ⟨.slice 22, 24, [.slice]⟩),
  (124, ⟨.slice 188, 24, [.slice]⟩),
  (127, ⟨.struct [(0, 22), (1, 22), (2, 124), (3, 22)], 96, [.slice, .slice, .slice, .slice]⟩),
  (128, ⟨.struct [(0, 22), (1, 22), (2, 124), (3, 22)], 96, [.slice, .slice, .slice, .slice]⟩),
  (129, ⟨.other, 8, [.ptr]⟩),
  (130, ⟨.struct [(0, 22), (1, 4)], 32, [.slice, .bool]⟩),
  (131, ⟨.struct [(0, 22), (1, 4)], 32, [.slice, .bool]⟩),
  (137, ⟨.struct [(0, 22), (1, 22)], 48, [.slice, .slice]⟩),
  (148, ⟨.struct [(0, 2), (1, 22), (2, 2)], 40, [.int .i64, .slice, .int .i64]⟩),
  (149, ⟨.struct [(0, 2), (1, 22), (2, 2)], 40, [.int .i64, .slice, .int .i64]⟩),
  (155, ⟨.struct [(0, 22), (1, 22), (2, 38)], 72, [.slice, .slice, .slice]⟩),
  (156, ⟨.struct [(0, 22), (1, 22), (2, 38)], 72, [.slice, .slice, .slice]⟩),
  (161, ⟨.struct [(0, 22), (1, 22)], 48, [.slice, .slice]⟩),
  (172, ⟨.struct [(0, 2), (1, 116), (2, 22)], 56, [.int .i64, .slice, .slice]⟩),
  (173, ⟨.struct [(0, 2), (1, 116), (2, 22)], 56, [.int .i64, .slice, .slice]⟩),
  (177, ⟨.other, 8, [.ptr]⟩),
  (182, ⟨.other, 8, [.ptr]⟩),
  (183, ⟨.struct [(0, 40), (1, 116), (2, 116), (3, 22)], 96, [.slice, .slice, .slice, .slice]⟩),
  (184, ⟨.struct [(0, 40), (1, 116), (2, 116), (3, 22)], 96, [.slice, .slice, .slice, .slice]⟩),
  (187, ⟨.struct [(0, 2), (1, 22)], 32, [.int .i64, .slice]⟩),
  (188, ⟨.struct [(0, 2), (1, 22)], 32, [.int .i64, .slice]⟩),
  (192, ⟨.struct [(0, 22), (1, 22)], 48, [.slice, .slice]⟩),
  (196, ⟨.struct [(0, 40), (1, 41)], 48, [.slice, .slice]⟩),
  (197, ⟨.struct [(0, 40), (1, 41)], 48, [.slice, .slice]⟩),
  (203, ⟨.struct [(0, 2), (1, 22), (2, 2)], 40, [.int .i64, .slice, .int .i64]⟩),
  (211, ⟨.struct [(0, 22), (1, 22), (2, 81)], 72, [.slice, .slice, .slice]⟩),
  (212, ⟨.struct [(0, 22), (1, 22), (2, 81)], 72, [.slice, .slice, .slice]⟩),
  (226, ⟨.struct [(0, 2), (1, 116), (2, 22)], 56, [.int .i64, .slice, .slice]⟩),
  (232, ⟨.struct [(0, 105), (1, 3), (2, 2)], 40, [.slice, .int .i64, .int .i64]⟩),
  (233, ⟨.struct [(0, 105), (1, 3), (2, 2)], 40, [.slice, .int .i64, .int .i64]⟩),
  (246, ⟨.slice 3, 24, [.slice]⟩),
  (266, ⟨.struct [(0, 40), (1, 22), (2, 3)], 56, [.slice, .slice, .int .i64]⟩),
  (267, ⟨.struct [(0, 40), (1, 22), (2, 3)], 56, [.slice, .slice, .int .i64]⟩),
  (273, ⟨.int .u64, 8, [.int .u64]⟩),
  (274, ⟨.other, 8, [.ptr]⟩),
  (284, ⟨.int .u32, 4, [.int .u32]⟩),
  (288, ⟨.other, 8, [.ptr]⟩),
  (295, ⟨.other, 8, [.ptr]⟩)]
theorem tab_check : (tabL.all fun p => tyCheck Try.prog p.1 p.2) = true := by kernel_rfl
theorem mixed : Try.prog.follows .mixedOrders = true := by kernel_rfl
noncomputable def S : Setup := { P := Try.prog, tab := Lg.look tabL, ok := tabOk tab_check, mixed := mixed }
theorem tab2 : S.tab 2 = some ⟨.int .i64, 8, [.int .i64]⟩ := rfl
theorem kd2 : S.kd 2 = some (.int .i64) := rfl
theorem tab3 : S.tab 3 = some ⟨.int .i64, 8, [.int .i64]⟩ := rfl
theorem kd3 : S.kd 3 = some (.int .i64) := rfl
theorem tab4 : S.tab 4 = some ⟨.bool, 1, [.bool]⟩ := rfl
theorem kd4 : S.kd 4 = some (.bool) := rfl
theorem tab5 : S.tab 5 = some ⟨.int .u8, 1, [.int .u8]⟩ := rfl
theorem kd5 : S.kd 5 = some (.int .u8) := rfl
theorem tab9 : S.tab 9 = some ⟨.string, 16, [.str]⟩ := rfl
theorem kd9 : S.kd 9 = some (.string) := rfl
theorem tab12 : S.tab 12 = some ⟨.int .u64, 8, [.int .u64]⟩ := rfl
theorem kd12 : S.kd 12 = some (.int .u64) := rfl
theorem tab21 : S.tab 21 = some ⟨.int .i32, 4, [.int .i32]⟩ := rfl
theorem kd21 : S.kd 21 = some (.int .i32) := rfl
theorem tab22 : S.tab 22 = some ⟨.slice 2, 24, [.slice]⟩ := rfl
theorem kd22 : S.kd 22 = some (.slice 2) := rfl
theorem tab23 : S.tab 23 = some ⟨.slice 128, 24, [.slice]⟩ := rfl
theorem kd23 : S.kd 23 = some (.slice 128) := rfl
theorem tab32 : S.tab 32 = some ⟨.struct [(0, 22)], 24, [.slice]⟩ := rfl
theorem kd32 : S.kd 32 = some (.struct [(0, 22)]) := rfl
theorem tab33 : S.tab 33 = some ⟨.struct [(0, 22)], 24, [.slice]⟩ := rfl
theorem kd33 : S.kd 33 = some (.struct [(0, 22)]) := rfl
theorem tab34 : S.tab 34 = some ⟨.slice 192, 24, [.slice]⟩ := rfl
theorem kd34 : S.kd 34 = some (.slice 192) := rfl
theorem tab35 : S.tab 35 = some ⟨.struct [(0, 33), (1, 34)], 48, [.slice, .slice]⟩ := rfl
theorem kd35 : S.kd 35 = some (.struct [(0, 33), (1, 34)]) := rfl
theorem tab36 : S.tab 36 = some ⟨.struct [(0, 33), (1, 34)], 48, [.slice, .slice]⟩ := rfl
theorem kd36 : S.kd 36 = some (.struct [(0, 33), (1, 34)]) := rfl
theorem tab38 : S.tab 38 = some ⟨.slice 137, 24, [.slice]⟩ := rfl
theorem kd38 : S.kd 38 = some (.slice 137) := rfl
theorem tab40 : S.tab 40 = some ⟨.struct [(0, 22)], 24, [.slice]⟩ := rfl
theorem kd40 : S.kd 40 = some (.struct [(0, 22)]) := rfl
theorem tab41 : S.tab 41 = some ⟨.slice 110, 24, [.slice]⟩ := rfl
theorem kd41 : S.kd 41 = some (.slice 110) := rfl
theorem tab42 : S.tab 42 = some ⟨.struct [(0, 40), (1, 41)], 48, [.slice, .slice]⟩ := rfl
theorem kd42 : S.kd 42 = some (.struct [(0, 40), (1, 41)]) := rfl
theorem tab43 : S.tab 43 = some ⟨.struct [(0, 40), (1, 41)], 48, [.slice, .slice]⟩ := rfl
theorem kd43 : S.kd 43 = some (.struct [(0, 40), (1, 41)]) := rfl
theorem tab51 : S.tab 51 = some ⟨.slice 203, 24, [.slice]⟩ := rfl
theorem kd51 : S.kd 51 = some (.slice 203) := rfl
theorem tab52 : S.tab 52 = some ⟨.struct [(0, 2), (1, 51), (2, 22)], 56, [.int .i64, .slice, .slice]⟩ := rfl
theorem kd52 : S.kd 52 = some (.struct [(0, 2), (1, 51), (2, 22)]) := rfl
theorem tab53 : S.tab 53 = some ⟨.struct [(0, 2), (1, 51), (2, 22)], 56, [.int .i64, .slice, .slice]⟩ := rfl
theorem kd53 : S.kd 53 = some (.struct [(0, 2), (1, 51), (2, 22)]) := rfl
theorem tab56 : S.tab 56 = some ⟨.slice 149, 24, [.slice]⟩ := rfl
theorem kd56 : S.kd 56 = some (.slice 149) := rfl
theorem tab57 : S.tab 57 = some ⟨.struct [(0, 2), (1, 56), (2, 22)], 56, [.int .i64, .slice, .slice]⟩ := rfl
theorem kd57 : S.kd 57 = some (.struct [(0, 2), (1, 56), (2, 22)]) := rfl
theorem tab58 : S.tab 58 = some ⟨.struct [(0, 2), (1, 56), (2, 22)], 56, [.int .i64, .slice, .slice]⟩ := rfl
theorem kd58 : S.kd 58 = some (.struct [(0, 2), (1, 56), (2, 22)]) := rfl
theorem tab68 : S.tab 68 = some ⟨.slice 212, 24, [.slice]⟩ := rfl
theorem kd68 : S.kd 68 = some (.slice 212) := rfl
theorem tab69 : S.tab 69 = some ⟨.struct [(0, 33), (1, 68)], 48, [.slice, .slice]⟩ := rfl
theorem kd69 : S.kd 69 = some (.struct [(0, 33), (1, 68)]) := rfl
theorem tab70 : S.tab 70 = some ⟨.struct [(0, 33), (1, 68)], 48, [.slice, .slice]⟩ := rfl
theorem kd70 : S.kd 70 = some (.struct [(0, 33), (1, 68)]) := rfl
theorem tab74 : S.tab 74 = some ⟨.slice 156, 24, [.slice]⟩ := rfl
theorem kd74 : S.kd 74 = some (.slice 156) := rfl
theorem tab75 : S.tab 75 = some ⟨.struct [(0, 40), (1, 74)], 48, [.slice, .slice]⟩ := rfl
theorem kd75 : S.kd 75 = some (.struct [(0, 40), (1, 74)]) := rfl
theorem tab76 : S.tab 76 = some ⟨.struct [(0, 40), (1, 74)], 48, [.slice, .slice]⟩ := rfl
theorem kd76 : S.kd 76 = some (.struct [(0, 40), (1, 74)]) := rfl
theorem tab81 : S.tab 81 = some ⟨.slice 161, 24, [.slice]⟩ := rfl
theorem kd81 : S.kd 81 = some (.slice 161) := rfl
theorem tab83 : S.tab 83 = some ⟨.struct [(0, 40), (1, 22), (2, 38), (3, 41)], 96, [.slice, .slice, .slice, .slice]⟩ := rfl
theorem kd83 : S.kd 83 = some (.struct [(0, 40), (1, 22), (2, 38), (3, 41)]) := rfl
theorem tab84 : S.tab 84 = some ⟨.struct [(0, 40), (1, 22), (2, 38), (3, 41)], 96, [.slice, .slice, .slice, .slice]⟩ := rfl
theorem kd84 : S.kd 84 = some (.struct [(0, 40), (1, 22), (2, 38), (3, 41)]) := rfl
theorem tab93 : S.tab 93 = some ⟨.slice 226, 24, [.slice]⟩ := rfl
theorem kd93 : S.kd 93 = some (.slice 226) := rfl
theorem tab94 : S.tab 94 = some ⟨.struct [(0, 33), (1, 22), (2, 93)], 72, [.slice, .slice, .slice]⟩ := rfl
theorem kd94 : S.kd 94 = some (.struct [(0, 33), (1, 22), (2, 93)]) := rfl
theorem tab95 : S.tab 95 = some ⟨.struct [(0, 33), (1, 22), (2, 93)], 72, [.slice, .slice, .slice]⟩ := rfl
theorem kd95 : S.kd 95 = some (.struct [(0, 33), (1, 22), (2, 93)]) := rfl
theorem tab98 : S.tab 98 = some ⟨.slice 173, 24, [.slice]⟩ := rfl
theorem kd98 : S.kd 98 = some (.slice 173) := rfl
theorem tab99 : S.tab 99 = some ⟨.struct [(0, 40), (1, 22), (2, 98)], 72, [.slice, .slice, .slice]⟩ := rfl
theorem kd99 : S.kd 99 = some (.struct [(0, 40), (1, 22), (2, 98)]) := rfl
theorem tab100 : S.tab 100 = some ⟨.struct [(0, 40), (1, 22), (2, 98)], 72, [.slice, .slice, .slice]⟩ := rfl
theorem kd100 : S.kd 100 = some (.struct [(0, 40), (1, 22), (2, 98)]) := rfl
theorem tab105 : S.tab 105 = some ⟨.slice 5, 24, [.slice]⟩ := rfl
theorem kd105 : S.kd 105 = some (.slice 5) := rfl
theorem tab109 : S.tab 109 = some ⟨.struct [(0, 22), (1, 22)], 48, [.slice, .slice]⟩ := rfl
theorem kd109 : S.kd 109 = some (.struct [(0, 22), (1, 22)]) := rfl
theorem tab110 : S.tab 110 = some ⟨.struct [(0, 22), (1, 22)], 48, [.slice, .slice]⟩ := rfl
theorem kd110 : S.kd 110 = some (.struct [(0, 22), (1, 22)]) := rfl
theorem tab116 : S.tab 116 = some ⟨.slice 22, 24, [.slice]⟩ := rfl
theorem kd116 : S.kd 116 = some (.slice 22) := rfl
theorem tab124 : S.tab 124 = some ⟨.slice 188, 24, [.slice]⟩ := rfl
theorem kd124 : S.kd 124 = some (.slice 188) := rfl
theorem tab127 : S.tab 127 = some ⟨.struct [(0, 22), (1, 22), (2, 124), (3, 22)], 96, [.slice, .slice, .slice, .slice]⟩ := rfl
theorem kd127 : S.kd 127 = some (.struct [(0, 22), (1, 22), (2, 124), (3, 22)]) := rfl
theorem tab128 : S.tab 128 = some ⟨.struct [(0, 22), (1, 22), (2, 124), (3, 22)], 96, [.slice, .slice, .slice, .slice]⟩ := rfl
theorem kd128 : S.kd 128 = some (.struct [(0, 22), (1, 22), (2, 124), (3, 22)]) := rfl
theorem tab129 : S.tab 129 = some ⟨.other, 8, [.ptr]⟩ := rfl
theorem kd129 : S.kd 129 = some (.other) := rfl
theorem tab130 : S.tab 130 = some ⟨.struct [(0, 22), (1, 4)], 32, [.slice, .bool]⟩ := rfl
theorem kd130 : S.kd 130 = some (.struct [(0, 22), (1, 4)]) := rfl
theorem tab131 : S.tab 131 = some ⟨.struct [(0, 22), (1, 4)], 32, [.slice, .bool]⟩ := rfl
theorem kd131 : S.kd 131 = some (.struct [(0, 22), (1, 4)]) := rfl
theorem tab137 : S.tab 137 = some ⟨.struct [(0, 22), (1, 22)], 48, [.slice, .slice]⟩ := rfl
theorem kd137 : S.kd 137 = some (.struct [(0, 22), (1, 22)]) := rfl
theorem tab148 : S.tab 148 = some ⟨.struct [(0, 2), (1, 22), (2, 2)], 40, [.int .i64, .slice, .int .i64]⟩ := rfl
theorem kd148 : S.kd 148 = some (.struct [(0, 2), (1, 22), (2, 2)]) := rfl
theorem tab149 : S.tab 149 = some ⟨.struct [(0, 2), (1, 22), (2, 2)], 40, [.int .i64, .slice, .int .i64]⟩ := rfl
theorem kd149 : S.kd 149 = some (.struct [(0, 2), (1, 22), (2, 2)]) := rfl
theorem tab155 : S.tab 155 = some ⟨.struct [(0, 22), (1, 22), (2, 38)], 72, [.slice, .slice, .slice]⟩ := rfl
theorem kd155 : S.kd 155 = some (.struct [(0, 22), (1, 22), (2, 38)]) := rfl
theorem tab156 : S.tab 156 = some ⟨.struct [(0, 22), (1, 22), (2, 38)], 72, [.slice, .slice, .slice]⟩ := rfl
theorem kd156 : S.kd 156 = some (.struct [(0, 22), (1, 22), (2, 38)]) := rfl
theorem tab161 : S.tab 161 = some ⟨.struct [(0, 22), (1, 22)], 48, [.slice, .slice]⟩ := rfl
theorem kd161 : S.kd 161 = some (.struct [(0, 22), (1, 22)]) := rfl
theorem tab172 : S.tab 172 = some ⟨.struct [(0, 2), (1, 116), (2, 22)], 56, [.int .i64, .slice, .slice]⟩ := rfl
theorem kd172 : S.kd 172 = some (.struct [(0, 2), (1, 116), (2, 22)]) := rfl
theorem tab173 : S.tab 173 = some ⟨.struct [(0, 2), (1, 116), (2, 22)], 56, [.int .i64, .slice, .slice]⟩ := rfl
theorem kd173 : S.kd 173 = some (.struct [(0, 2), (1, 116), (2, 22)]) := rfl
theorem tab177 : S.tab 177 = some ⟨.other, 8, [.ptr]⟩ := rfl
theorem kd177 : S.kd 177 = some (.other) := rfl
theorem tab182 : S.tab 182 = some ⟨.other, 8, [.ptr]⟩ := rfl
theorem kd182 : S.kd 182 = some (.other) := rfl
theorem tab183 : S.tab 183 = some ⟨.struct [(0, 40), (1, 116), (2, 116), (3, 22)], 96, [.slice, .slice, .slice, .slice]⟩ := rfl
theorem kd183 : S.kd 183 = some (.struct [(0, 40), (1, 116), (2, 116), (3, 22)]) := rfl
theorem tab184 : S.tab 184 = some ⟨.struct [(0, 40), (1, 116), (2, 116), (3, 22)], 96, [.slice, .slice, .slice, .slice]⟩ := rfl
theorem kd184 : S.kd 184 = some (.struct [(0, 40), (1, 116), (2, 116), (3, 22)]) := rfl
theorem tab187 : S.tab 187 = some ⟨.struct [(0, 2), (1, 22)], 32, [.int .i64, .slice]⟩ := rfl
theorem kd187 : S.kd 187 = some (.struct [(0, 2), (1, 22)]) := rfl
theorem tab188 : S.tab 188 = some ⟨.struct [(0, 2), (1, 22)], 32, [.int .i64, .slice]⟩ := rfl
theorem kd188 : S.kd 188 = some (.struct [(0, 2), (1, 22)]) := rfl
theorem tab192 : S.tab 192 = some ⟨.struct [(0, 22), (1, 22)], 48, [.slice, .slice]⟩ := rfl
theorem kd192 : S.kd 192 = some (.struct [(0, 22), (1, 22)]) := rfl
theorem tab196 : S.tab 196 = some ⟨.struct [(0, 40), (1, 41)], 48, [.slice, .slice]⟩ := rfl
theorem kd196 : S.kd 196 = some (.struct [(0, 40), (1, 41)]) := rfl
theorem tab197 : S.tab 197 = some ⟨.struct [(0, 40), (1, 41)], 48, [.slice, .slice]⟩ := rfl
theorem kd197 : S.kd 197 = some (.struct [(0, 40), (1, 41)]) := rfl
theorem tab203 : S.tab 203 = some ⟨.struct [(0, 2), (1, 22), (2, 2)], 40, [.int .i64, .slice, .int .i64]⟩ := rfl
theorem kd203 : S.kd 203 = some (.struct [(0, 2), (1, 22), (2, 2)]) := rfl
theorem tab211 : S.tab 211 = some ⟨.struct [(0, 22), (1, 22), (2, 81)], 72, [.slice, .slice, .slice]⟩ := rfl
theorem kd211 : S.kd 211 = some (.struct [(0, 22), (1, 22), (2, 81)]) := rfl
theorem tab212 : S.tab 212 = some ⟨.struct [(0, 22), (1, 22), (2, 81)], 72, [.slice, .slice, .slice]⟩ := rfl
theorem kd212 : S.kd 212 = some (.struct [(0, 22), (1, 22), (2, 81)]) := rfl
theorem tab226 : S.tab 226 = some ⟨.struct [(0, 2), (1, 116), (2, 22)], 56, [.int .i64, .slice, .slice]⟩ := rfl
theorem kd226 : S.kd 226 = some (.struct [(0, 2), (1, 116), (2, 22)]) := rfl
theorem tab232 : S.tab 232 = some ⟨.struct [(0, 105), (1, 3), (2, 2)], 40, [.slice, .int .i64, .int .i64]⟩ := rfl
theorem kd232 : S.kd 232 = some (.struct [(0, 105), (1, 3), (2, 2)]) := rfl
theorem tab233 : S.tab 233 = some ⟨.struct [(0, 105), (1, 3), (2, 2)], 40, [.slice, .int .i64, .int .i64]⟩ := rfl
theorem kd233 : S.kd 233 = some (.struct [(0, 105), (1, 3), (2, 2)]) := rfl
theorem tab246 : S.tab 246 = some ⟨.slice 3, 24, [.slice]⟩ := rfl
theorem kd246 : S.kd 246 = some (.slice 3) := rfl
theorem tab266 : S.tab 266 = some ⟨.struct [(0, 40), (1, 22), (2, 3)], 56, [.slice, .slice, .int .i64]⟩ := rfl
theorem kd266 : S.kd 266 = some (.struct [(0, 40), (1, 22), (2, 3)]) := rfl
theorem tab267 : S.tab 267 = some ⟨.struct [(0, 40), (1, 22), (2, 3)], 56, [.slice, .slice, .int .i64]⟩ := rfl
theorem kd267 : S.kd 267 = some (.struct [(0, 40), (1, 22), (2, 3)]) := rfl
theorem tab273 : S.tab 273 = some ⟨.int .u64, 8, [.int .u64]⟩ := rfl
theorem kd273 : S.kd 273 = some (.int .u64) := rfl
theorem tab274 : S.tab 274 = some ⟨.other, 8, [.ptr]⟩ := rfl
theorem kd274 : S.kd 274 = some (.other) := rfl
theorem tab284 : S.tab 284 = some ⟨.int .u32, 4, [.int .u32]⟩ := rfl
theorem kd284 : S.kd 284 = some (.int .u32) := rfl
theorem tab288 : S.tab 288 = some ⟨.other, 8, [.ptr]⟩ := rfl
theorem kd288 : S.kd 288 = some (.other) := rfl
theorem tab295 : S.tab 295 = some ⟨.other, 8, [.ptr]⟩ := rfl
theorem kd295 : S.kd 295 = some (.other) := rfl
attribute [go_sem] tab2 kd2 tab3 kd3 tab4 kd4 tab5 kd5 tab9 kd9 tab12 kd12 tab21 kd21 tab22 kd22 tab23 kd23 tab32 kd32 tab33 kd33 tab34 kd34 tab35 kd35 tab36 kd36 tab38 kd38 tab40 kd40 tab41 kd41 tab42 kd42 tab43 kd43 tab51 kd51 tab52 kd52 tab53 kd53 tab56 kd56 tab57 kd57 tab58 kd58 tab68 kd68 tab69 kd69 tab70 kd70 tab74 kd74 tab75 kd75 tab76 kd76 tab81 kd81 tab83 kd83 tab84 kd84 tab93 kd93 tab94 kd94 tab95 kd95 tab98 kd98 tab99 kd99 tab100 kd100 tab105 kd105 tab109 kd109 tab110 kd110 tab116 kd116 tab124 kd124 tab127 kd127 tab128 kd128 tab129 kd129 tab130 kd130 tab131 kd131 tab137 kd137 tab148 kd148 tab149 kd149 tab155 kd155 tab156 kd156 tab161 kd161 tab172 kd172 tab173 kd173 tab177 kd177 tab182 kd182 tab183 kd183 tab184 kd184 tab187 kd187 tab188 kd188 tab192 kd192 tab196 kd196 tab197 kd197 tab203 kd203 tab211 kd211 tab212 kd212 tab226 kd226 tab232 kd232 tab233 kd233 tab246 kd246 tab266 kd266 tab267 kd267 tab273 kd273 tab274 kd274 tab284 kd284 tab288 kd288 tab295 kd295
end Go.Proofs.Ytceejlnnlkmeiaa

/-
  The types that the rules ask for, out of the translation; made by mksetup.py. The check against the program is a closed fact.
-/
import Derived.Test.YtlpaodfkmafjjaaProg
import Derived.Test.YtlpaodfkmafjjaaLgAttr
import Derived.KernelRfl
namespace Go.Proofs.Ytlpaodfkmafjjaa
open Go Go.Lg

def tabL : List (Nat × TyI) := [
  (2, ⟨.int .i64, 8, [.int .i64]⟩),
  (3, ⟨.int .i64, 8, [.int .i64]⟩),
  (4, ⟨.bool, 1, [.bool]⟩),
  (5, ⟨.int .u8, 1, [.int .u8]⟩),
  (9, ⟨.string, 16, [.str]⟩),
  (12, ⟨.int .u64, 8, [.int .u64]⟩),
  (21, ⟨.int .i32, 4, [.int .i32]⟩),
  (22, ⟨.slice 2, 24, [.slice]⟩),
  (23, ⟨.struct [(0, 22)], 24, [.slice]⟩),
  (24, ⟨.struct [(0, 22)], 24, [.slice]⟩),
  (25, ⟨.struct [(0, 22), (1, 22)], 48, [.slice, .slice]⟩),
  (26, ⟨.struct [(0, 22), (1, 22)], 48, [.slice, .slice]⟩),
  (30, ⟨.struct [(0, 22)], 24, [.slice]⟩),
  (32, ⟨.struct [(0, 22), (1, 22)], 48, [.slice, .slice]⟩),
  (37, ⟨.slice 26, 24, [.slice]⟩),
  (38, ⟨.struct [(0, 2), (1, 2), (2, 4), (3, 22)], 48, [.int .i64, .int .i64, .bool, .slice]⟩),
  (39, ⟨.struct [(0, 2), (1, 2), (2, 4), (3, 22)], 48, [.int .i64, .int .i64, .bool, .slice]⟩),
  (43, ⟨.slice 32, 24, [.slice]⟩),
  (46, ⟨.struct [(0, 2), (1, 2), (2, 4), (3, 22)], 48, [.int .i64, .int .i64, .bool, .slice]⟩),
  (52, ⟨.slice 39, 24, [.slice]⟩),
  (53, ⟨.struct [(0, 22), (1, 52)], 48, [.slice, .slice]⟩),
  (54, ⟨.struct [(0, 22), (1, 52)], 48, [.slice, .slice]⟩),
  (57, ⟨.slice 46, 24, [.slice]⟩),
  (58, ⟨.struct [(0, 22), (1, 57)], 48, [.slice, .slice]⟩),
  (59, ⟨.struct [(0, 22), (1, 57)], 48, [.slice, .slice]⟩),
  (68, ⟨.slice 184, 24, [.slice]⟩),
  (69, ⟨.struct [(0, 2), (1, 68), (2, 22)], 56, [.int .i64, .slice, .slice]⟩),
  (70, ⟨.struct [(0, 2), (1, 68), (2, 22)], 56, [.int .i64, .slice, .slice]⟩),
  (72, ⟨.slice 130, 24, [.slice]⟩),
  (73, ⟨.struct [(0, 2), (1, 72), (2, 22)], 56, [.int .i64, .slice, .slice]⟩),
  (74, ⟨.struct [(0, 2), (1, 72), (2, 22)], 56, [.int .i64, .slice, .slice]⟩),
  (87, ⟨.slice 201, 24, [.slice]⟩),
  (88, ⟨.struct [(0, 24), (1, 87)], 48, [.slice, .slice]⟩),
  (89, ⟨.struct [(0, 24), (1, 87)], 48, [.slice, .slice]⟩),
  (92, ⟨.slice 149, 24, [.slice]⟩),
  (93, ⟨.struct [(0, 30), (1, 92)], 48, [.slice, .slice]⟩),
  (94, ⟨.struct [(0, 30), (1, 92)], 48, [.slice, .slice]⟩),
  (99, ⟨.slice 209, 24, [.slice]⟩),
  (100, ⟨.struct [(0, 30), (1, 99)], 48, [.slice, .slice]⟩),
  (101, ⟨.struct [(0, 30), (1, 99)], 48, [.slice, .slice]⟩),
  (107, ⟨.slice 214, 24, [.slice]⟩),
  (108, ⟨.struct [(0, 24), (1, 107)], 48, [.slice, .slice]⟩),
  (109, ⟨.struct [(0, 24), (1, 107)], 48, [.slice, .slice]⟩),
  (116, ⟨.slice 22, 24, [.slice]⟩),
  (129, ⟨.struct [(0, 2), (1, 22), (2, 2)], 40, [.int .i64, .slice, .int .i64]⟩),
  (130, ⟨.struct [(0, 2), (1, 22), (2, 2)], 40, [.int .i64, .slice, .int .i64]⟩),
  (141, ⟨.array 61 2, 488, [.int .i64, .int .i64, .int .i64, .int .i64, .int .i64, .int .i64, .int .i64, .int .i64, .int .i64, .int .i64, .int .i64, .int .i64, .int .i64, .int .i64, .int .i64, .int .i64, .int .i64, .int .i64, .int .i64, .int .i64, .int .i64, .int .i64, .int .i64, .int .i64, .int .i64, .int .i64, .int .i64, .int .i64, .int .i64, .int .i64, .int .i64, .int .i64, .int .i64, .int .i64, .int .i64, .int .i64, .int .i64, .int .i64, .int .i64, .int .i64, .int .i64, .int .i64, .int .i64, .int .i64, .int .i64, .int .i64, .int .i64, .int .i64, .int .i64, .int .i64, .int .i64, .int .i64, .int .i64, .int .i64, .int .i64, .int .i64, .int .i64, .int .i64, .int .i64, .int .i64, .int .i64]⟩),
  (148, ⟨.struct [(0, 22), (1, 22), (2, 43)], 72, [.slice, .slice, .slice]⟩),
  (149, ⟨.struct [(0, 22), (1, 22), (2, 43)], 72, [.slice, .slice, .slice]⟩),
  (179, ⟨.array 24 22, 576, [.slice, .slice, .slice, .slice, .slice, .slice, .slice, .slice, .slice, .slice, .slice, .slice, .slice, .slice, .slice, .slice, .slice, .slice, .slice, .slice, .slice, .slice, .slice, .slice]⟩),
  (180, ⟨.array 24 22, 576, [.slice, .slice, .slice, .slice, .slice, .slice, .slice, .slice, .slice, .slice, .slice, .slice, .slice, .slice, .slice, .slice, .slice, .slice, .slice, .slice, .slice, .slice, .slice, .slice]⟩),
  (184, ⟨.struct [(0, 2), (1, 22), (2, 2)], 40, [.int .i64, .slice, .int .i64]⟩),
  (193, ⟨.other, 8, [.ptr]⟩),
  (195, ⟨.int .u32, 4, [.int .u32]⟩),
  (196, ⟨.int .u32, 4, [.int .u32]⟩),
  (200, ⟨.struct [(0, 22), (1, 22), (2, 37)], 72, [.slice, .slice, .slice]⟩),
  (201, ⟨.struct [(0, 22), (1, 22), (2, 37)], 72, [.slice, .slice, .slice]⟩),
  (209, ⟨.struct [(0, 22), (1, 22)], 48, [.slice, .slice]⟩),
  (214, ⟨.struct [(0, 22), (1, 22)], 48, [.slice, .slice]⟩),
  (217, ⟨.struct [(0, 30), (1, 99)], 48, [.slice, .slice]⟩),
  (218, ⟨.struct [(0, 30), (1, 99)], 48, [.slice, .slice]⟩),
  (225, ⟨.struct [(0, 30), (1, 22), (2, 3)], 56, [.slice, .slice, .int .i64]⟩),
  (226, ⟨.struct [(0, 30), (1, 22), (2, 3)], 56, [.slice, .slice, .int .i64]⟩),
  (231, ⟨.slice 196, 24, [.slice]⟩),
  (232, ⟨.slice 3, 24, [.slice]⟩),
  (235, ⟨.int .u64, 8, [.int .u64]⟩),
  (241, ⟨.other, 8, [.ptr]⟩),
  (255, ⟨.other, 8, [.ptr]⟩),
  (262, ⟨.other, 8, [.ptr]⟩),
  (263, ⟨.struct [(0, 116)], 24, [.slice]⟩),
  (264, ⟨.struct [(0, 116)], 24, [.slice]⟩)]
theorem tab_check : (tabL.all fun p => tyCheck Try.prog p.1 p.2) = true := by kernel_rfl
theorem mixed : Try.prog.follows .mixedOrders = true := by kernel_rfl
noncomputable def S : Setup := { P := Try.prog, tab := Lg.look tabL, ok := tabOk tab_check, mixed := mixed }
theorem tab2 : S.tab 2 = some ⟨.int .i64, 8, [.int .i64]⟩ := rfl
theorem kd2 : S.kd 2 = some (.int .i64) := rfl
theorem tab3 : S.tab 3 = some ⟨.int .i64, 8, [.int .i64]⟩ := rfl
theorem kd3 : S.kd 3 = some (.int .i64) := rfl
theorem tab4 : S.tab 4 = some ⟨.bool, 1, [.bool]⟩ := rfl
theorem kd4 : S.kd 4 = some (.bool) := rfl
theorem tab5 : S.tab 5 = some ⟨.int .u8, 1, [.int .u8]⟩ := rfl
theorem kd5 : S.kd 5 = some (.int .u8) := rfl
theorem tab9 : S.tab 9 = some ⟨.string, 16, [.str]⟩ := rfl
theorem kd9 : S.kd 9 = some (.string) := rfl
theorem tab12 : S.tab 12 = some ⟨.int .u64, 8, [.int .u64]⟩ := rfl
theorem kd12 : S.kd 12 = some (.int .u64) := rfl
theorem tab21 : S.tab 21 = some ⟨.int .i32, 4, [.int .i32]⟩ := rfl
theorem kd21 : S.kd 21 = some (.int .i32) := rfl
theorem tab22 : S.tab 22 = some ⟨.slice 2, 24, [.slice]⟩ := rfl
theorem kd22 : S.kd 22 = some (.slice 2) := rfl
theorem tab23 : S.tab 23 = some ⟨.struct [(0, 22)], 24, [.slice]⟩ := rfl
theorem kd23 : S.kd 23 = some (.struct [(0, 22)]) := rfl
theorem tab24 : S.tab 24 = some ⟨.struct [(0, 22)], 24, [.slice]⟩ := rfl
theorem kd24 : S.kd 24 = some (.struct [(0, 22)]) := rfl
theorem tab25 : S.tab 25 = some ⟨.struct [(0, 22), (1, 22)], 48, [.slice, .slice]⟩ := rfl
theorem kd25 : S.kd 25 = some (.struct [(0, 22), (1, 22)]) := rfl
theorem tab26 : S.tab 26 = some ⟨.struct [(0, 22), (1, 22)], 48, [.slice, .slice]⟩ := rfl
theorem kd26 : S.kd 26 = some (.struct [(0, 22), (1, 22)]) := rfl
theorem tab30 : S.tab 30 = some ⟨.struct [(0, 22)], 24, [.slice]⟩ := rfl
theorem kd30 : S.kd 30 = some (.struct [(0, 22)]) := rfl
theorem tab32 : S.tab 32 = some ⟨.struct [(0, 22), (1, 22)], 48, [.slice, .slice]⟩ := rfl
theorem kd32 : S.kd 32 = some (.struct [(0, 22), (1, 22)]) := rfl
theorem tab37 : S.tab 37 = some ⟨.slice 26, 24, [.slice]⟩ := rfl
theorem kd37 : S.kd 37 = some (.slice 26) := rfl
theorem tab38 : S.tab 38 = some ⟨.struct [(0, 2), (1, 2), (2, 4), (3, 22)], 48, [.int .i64, .int .i64, .bool, .slice]⟩ := rfl
theorem kd38 : S.kd 38 = some (.struct [(0, 2), (1, 2), (2, 4), (3, 22)]) := rfl
theorem tab39 : S.tab 39 = some ⟨.struct [(0, 2), (1, 2), (2, 4), (3, 22)], 48, [.int .i64, .int .i64, .bool, .slice]⟩ := rfl
theorem kd39 : S.kd 39 = some (.struct [(0, 2), (1, 2), (2, 4), (3, 22)]) := rfl
theorem tab43 : S.tab 43 = some ⟨.slice 32, 24, [.slice]⟩ := rfl
theorem kd43 : S.kd 43 = some (.slice 32) := rfl
theorem tab46 : S.tab 46 = some ⟨.struct [(0, 2), (1, 2), (2, 4), (3, 22)], 48, [.int .i64, .int .i64, .bool, .slice]⟩ := rfl
theorem kd46 : S.kd 46 = some (.struct [(0, 2), (1, 2), (2, 4), (3, 22)]) := rfl
theorem tab52 : S.tab 52 = some ⟨.slice 39, 24, [.slice]⟩ := rfl
theorem kd52 : S.kd 52 = some (.slice 39) := rfl
theorem tab53 : S.tab 53 = some ⟨.struct [(0, 22), (1, 52)], 48, [.slice, .slice]⟩ := rfl
theorem kd53 : S.kd 53 = some (.struct [(0, 22), (1, 52)]) := rfl
theorem tab54 : S.tab 54 = some ⟨.struct [(0, 22), (1, 52)], 48, [.slice, .slice]⟩ := rfl
theorem kd54 : S.kd 54 = some (.struct [(0, 22), (1, 52)]) := rfl
theorem tab57 : S.tab 57 = some ⟨.slice 46, 24, [.slice]⟩ := rfl
theorem kd57 : S.kd 57 = some (.slice 46) := rfl
theorem tab58 : S.tab 58 = some ⟨.struct [(0, 22), (1, 57)], 48, [.slice, .slice]⟩ := rfl
theorem kd58 : S.kd 58 = some (.struct [(0, 22), (1, 57)]) := rfl
theorem tab59 : S.tab 59 = some ⟨.struct [(0, 22), (1, 57)], 48, [.slice, .slice]⟩ := rfl
theorem kd59 : S.kd 59 = some (.struct [(0, 22), (1, 57)]) := rfl
theorem tab68 : S.tab 68 = some ⟨.slice 184, 24, [.slice]⟩ := rfl
theorem kd68 : S.kd 68 = some (.slice 184) := rfl
theorem tab69 : S.tab 69 = some ⟨.struct [(0, 2), (1, 68), (2, 22)], 56, [.int .i64, .slice, .slice]⟩ := rfl
theorem kd69 : S.kd 69 = some (.struct [(0, 2), (1, 68), (2, 22)]) := rfl
theorem tab70 : S.tab 70 = some ⟨.struct [(0, 2), (1, 68), (2, 22)], 56, [.int .i64, .slice, .slice]⟩ := rfl
theorem kd70 : S.kd 70 = some (.struct [(0, 2), (1, 68), (2, 22)]) := rfl
theorem tab72 : S.tab 72 = some ⟨.slice 130, 24, [.slice]⟩ := rfl
theorem kd72 : S.kd 72 = some (.slice 130) := rfl
theorem tab73 : S.tab 73 = some ⟨.struct [(0, 2), (1, 72), (2, 22)], 56, [.int .i64, .slice, .slice]⟩ := rfl
theorem kd73 : S.kd 73 = some (.struct [(0, 2), (1, 72), (2, 22)]) := rfl
theorem tab74 : S.tab 74 = some ⟨.struct [(0, 2), (1, 72), (2, 22)], 56, [.int .i64, .slice, .slice]⟩ := rfl
theorem kd74 : S.kd 74 = some (.struct [(0, 2), (1, 72), (2, 22)]) := rfl
theorem tab87 : S.tab 87 = some ⟨.slice 201, 24, [.slice]⟩ := rfl
theorem kd87 : S.kd 87 = some (.slice 201) := rfl
theorem tab88 : S.tab 88 = some ⟨.struct [(0, 24), (1, 87)], 48, [.slice, .slice]⟩ := rfl
theorem kd88 : S.kd 88 = some (.struct [(0, 24), (1, 87)]) := rfl
theorem tab89 : S.tab 89 = some ⟨.struct [(0, 24), (1, 87)], 48, [.slice, .slice]⟩ := rfl
theorem kd89 : S.kd 89 = some (.struct [(0, 24), (1, 87)]) := rfl
theorem tab92 : S.tab 92 = some ⟨.slice 149, 24, [.slice]⟩ := rfl
theorem kd92 : S.kd 92 = some (.slice 149) := rfl
theorem tab93 : S.tab 93 = some ⟨.struct [(0, 30), (1, 92)], 48, [.slice, .slice]⟩ := rfl
theorem kd93 : S.kd 93 = some (.struct [(0, 30), (1, 92)]) := rfl
theorem tab94 : S.tab 94 = some ⟨.struct [(0, 30), (1, 92)], 48, [.slice, .slice]⟩ := rfl
theorem kd94 : S.kd 94 = some (.struct [(0, 30), (1, 92)]) := rfl
theorem tab99 : S.tab 99 = some ⟨.slice 209, 24, [.slice]⟩ := rfl
theorem kd99 : S.kd 99 = some (.slice 209) := rfl
theorem tab100 : S.tab 100 = some ⟨.struct [(0, 30), (1, 99)], 48, [.slice, .slice]⟩ := rfl
theorem kd100 : S.kd 100 = some (.struct [(0, 30), (1, 99)]) := rfl
theorem tab101 : S.tab 101 = some ⟨.struct [(0, 30), (1, 99)], 48, [.slice, .slice]⟩ := rfl
theorem kd101 : S.kd 101 = some (.struct [(0, 30), (1, 99)]) := rfl
theorem tab107 : S.tab 107 = some ⟨.slice 214, 24, [.slice]⟩ := rfl
theorem kd107 : S.kd 107 = some (.slice 214) := rfl
theorem tab108 : S.tab 108 = some ⟨.struct [(0, 24), (1, 107)], 48, [.slice, .slice]⟩ := rfl
theorem kd108 : S.kd 108 = some (.struct [(0, 24), (1, 107)]) := rfl
theorem tab109 : S.tab 109 = some ⟨.struct [(0, 24), (1, 107)], 48, [.slice, .slice]⟩ := rfl
theorem kd109 : S.kd 109 = some (.struct [(0, 24), (1, 107)]) := rfl
theorem tab116 : S.tab 116 = some ⟨.slice 22, 24, [.slice]⟩ := rfl
theorem kd116 : S.kd 116 = some (.slice 22) := rfl
theorem tab129 : S.tab 129 = some ⟨.struct [(0, 2), (1, 22), (2, 2)], 40, [.int .i64, .slice, .int .i64]⟩ := rfl
theorem kd129 : S.kd 129 = some (.struct [(0, 2), (1, 22), (2, 2)]) := rfl
theorem tab130 : S.tab 130 = some ⟨.struct [(0, 2), (1, 22), (2, 2)], 40, [.int .i64, .slice, .int .i64]⟩ := rfl
theorem kd130 : S.kd 130 = some (.struct [(0, 2), (1, 22), (2, 2)]) := rfl
theorem tab141 : S.tab 141 = some ⟨.array 61 2, 488, [.int .i64, .int .i64, .int .i64, .int .i64, .int .i64, .int .i64, .int .i64, .int .i64, .int .i64, .int .i64, .int .i64, .int .i64, .int .i64, .int .i64, .int .i64, .int .i64, .int .i64, .int .i64, .int .i64, .int .i64, .int .i64, .int .i64, .int .i64, .int .i64, .int .i64, .int .i64, .int .i64, .int .i64, .int .i64, .int .i64, .int .i64, .int .i64, .int .i64, .int .i64, .int .i64, .int .i64, .int .i64, .int .i64, .int .i64, .int .i64, .int .i64, .int .i64, .int .i64, .int .i64, .int .i64, .int .i64, .int .i64, .int .i64, .int .i64, .int .i64, .int .i64, .int .i64, .int .i64, .int .i64, .int .i64, .int .i64, .int .i64, .int .i64, .int .i64, .int .i64, .int .i64]⟩ := rfl
theorem kd141 : S.kd 141 = some (.array 61 2) := rfl
theorem tab148 : S.tab 148 = some ⟨.struct [(0, 22), (1, 22), (2, 43)], 72, [.slice, .slice, .slice]⟩ := rfl
theorem kd148 : S.kd 148 = some (.struct [(0, 22), (1, 22), (2, 43)]) := rfl
theorem tab149 : S.tab 149 = some ⟨.struct [(0, 22), (1, 22), (2, 43)], 72, [.slice, .slice, .slice]⟩ := rfl
theorem kd149 : S.kd 149 = some (.struct [(0, 22), (1, 22), (2, 43)]) := rfl
theorem tab179 : S.tab 179 = some ⟨.array 24 22, 576, [.slice, .slice, .slice, .slice, .slice, .slice, .slice, .slice, .slice, .slice, .slice, .slice, .slice, .slice, .slice, .slice, .slice, .slice, .slice, .slice, .slice, .slice, .slice, .slice]⟩ := rfl
theorem kd179 : S.kd 179 = some (.array 24 22) := rfl
theorem tab180 : S.tab 180 = some ⟨.array 24 22, 576, [.slice, .slice, .slice, .slice, .slice, .slice, .slice, .slice, .slice, .slice, .slice, .slice, .slice, .slice, .slice, .slice, .slice, .slice, .slice, .slice, .slice, .slice, .slice, .slice]⟩ := rfl
theorem kd180 : S.kd 180 = some (.array 24 22) := rfl
theorem tab184 : S.tab 184 = some ⟨.struct [(0, 2), (1, 22), (2, 2)], 40, [.int .i64, .slice, .int .i64]⟩ := rfl
theorem kd184 : S.kd 184 = some (.struct [(0, 2), (1, 22), (2, 2)]) := rfl
theorem tab193 : S.tab 193 = some ⟨.other, 8, [.ptr]⟩ := rfl
theorem kd193 : S.kd 193 = some (.other) := rfl
theorem tab195 : S.tab 195 = some ⟨.int .u32, 4, [.int .u32]⟩ := rfl
theorem kd195 : S.kd 195 = some (.int .u32) := rfl
theorem tab196 : S.tab 196 = some ⟨.int .u32, 4, [.int .u32]⟩ := rfl
theorem kd196 : S.kd 196 = some (.int .u32) := rfl
theorem tab200 : S.tab 200 = some ⟨.struct [(0, 22), (1, 22), (2, 37)], 72, [.slice, .slice, .slice]⟩ := rfl
theorem kd200 : S.kd 200 = some (.struct [(0, 22), (1, 22), (2, 37)]) := rfl
theorem tab201 : S.tab 201 = some ⟨.struct [(0, 22), (1, 22), (2, 37)], 72, [.slice, .slice, .slice]⟩ := rfl
theorem kd201 : S.kd 201 = some (.struct [(0, 22), (1, 22), (2, 37)]) := rfl
theorem tab209 : S.tab 209 = some ⟨.struct [(0, 22), (1, 22)], 48, [.slice, .slice]⟩ := rfl
theorem kd209 : S.kd 209 = some (.struct [(0, 22), (1, 22)]) := rfl
theorem tab214 : S.tab 214 = some ⟨.struct [(0, 22), (1, 22)], 48, [.slice, .slice]⟩ := rfl
theorem kd214 : S.kd 214 = some (.struct [(0, 22), (1, 22)]) := rfl
theorem tab217 : S.tab 217 = some ⟨.struct [(0, 30), (1, 99)], 48, [.slice, .slice]⟩ := rfl
theorem kd217 : S.kd 217 = some (.struct [(0, 30), (1, 99)]) := rfl
theorem tab218 : S.tab 218 = some ⟨.struct [(0, 30), (1, 99)], 48, [.slice, .slice]⟩ := rfl
theorem kd218 : S.kd 218 = some (.struct [(0, 30), (1, 99)]) := rfl
theorem tab225 : S.tab 225 = some ⟨.struct [(0, 30), (1, 22), (2, 3)], 56, [.slice, .slice, .int .i64]⟩ := rfl
theorem kd225 : S.kd 225 = some (.struct [(0, 30), (1, 22), (2, 3)]) := rfl
theorem tab226 : S.tab 226 = some ⟨.struct [(0, 30), (1, 22), (2, 3)], 56, [.slice, .slice, .int .i64]⟩ := rfl
theorem kd226 : S.kd 226 = some (.struct [(0, 30), (1, 22), (2, 3)]) := rfl
theorem tab231 : S.tab 231 = some ⟨.slice 196, 24, [.slice]⟩ := rfl
theorem kd231 : S.kd 231 = some (.slice 196) := rfl
theorem tab232 : S.tab 232 = some ⟨.slice 3, 24, [.slice]⟩ := rfl
theorem kd232 : S.kd 232 = some (.slice 3) := rfl
theorem tab235 : S.tab 235 = some ⟨.int .u64, 8, [.int .u64]⟩ := rfl
theorem kd235 : S.kd 235 = some (.int .u64) := rfl
theorem tab241 : S.tab 241 = some ⟨.other, 8, [.ptr]⟩ := rfl
theorem kd241 : S.kd 241 = some (.other) := rfl
theorem tab255 : S.tab 255 = some ⟨.other, 8, [.ptr]⟩ := rfl
theorem kd255 : S.kd 255 = some (.other) := rfl
theorem tab262 : S.tab 262 = some ⟨.other, 8, [.ptr]⟩ := rfl
theorem kd262 : S.kd 262 = some (.other) := rfl
theorem tab263 : S.tab 263 = some ⟨.struct [(0, 116)], 24, [.slice]⟩ := rfl
theorem kd263 : S.kd 263 = some (.struct [(0, 116)]) := rfl
theorem tab264 : S.tab 264 = some ⟨.struct [(0, 116)], 24, [.slice]⟩ := rfl
theorem kd264 : S.kd 264 = some (.struct [(0, 116)]) := rfl
attribute [go_sem] tab2 kd2 tab3 kd3 tab4 kd4 tab5 kd5 tab9 kd9 tab12 kd12 tab21 kd21 tab22 kd22 tab23 kd23 tab24 kd24 tab25 kd25 tab26 kd26 tab30 kd30 tab32 kd32 tab37 kd37 tab38 kd38 tab39 kd39 tab43 kd43 tab46 kd46 tab52 kd52 tab53 kd53 tab54 kd54 tab57 kd57 tab58 kd58 tab59 kd59 tab68 kd68 tab69 kd69 tab70 kd70 tab72 kd72 tab73 kd73 tab74 kd74 tab87 kd87 tab88 kd88 tab89 kd89 tab92 kd92 tab93 kd93 tab94 kd94 tab99 kd99 tab100 kd100 tab101 kd101 tab107 kd107 tab108 kd108 tab109 kd109 tab116 kd116 tab129 kd129 tab130 kd130 tab141 kd141 tab148 kd148 tab149 kd149 tab179 kd179 tab180 kd180 tab184 kd184 tab193 kd193 tab195 kd195 tab196 kd196 tab200 kd200 tab201 kd201 tab209 kd209 tab214 kd214 tab217 kd217 tab218 kd218 tab225 kd225 tab226 kd226 tab231 kd231 tab232 kd232 tab235 kd235 tab241 kd241 tab255 kd255 tab262 kd262 tab263 kd263 tab264 kd264
end Go.Proofs.Ytlpaodfkmafjjaa

/-
  The types that the rules ask for, out of the translation; made by mksetup.py. The check against the program is a closed fact.
-/
import Derived.Test.YtmogobaaophknaaProg
import Derived.Test.YtmogobaaophknaaLgK4
import Derived.KernelRfl
namespace Go.Proofs.Ytmogobaaophknaa
open Go Go.Lg

def tabL : List (Nat × TyI) := [
 (2, ⟨.int .i64, 8, [.int .i64]⟩),
 (3, ⟨.int .i64, 8, [.int .i64]⟩),
 (4, ⟨.bool, 1, [.bool]⟩),
 (5, ⟨.int .u8, 1, [.int .u8]⟩),
 (9, ⟨.string, 16, [.str]⟩),
 (12, ⟨.int .u64, 8, [.int .u64]⟩),
 (21, ⟨.int .i32, 4, [.int .i32]⟩),
 (22, ⟨.slice 5, 24, [.slice]⟩),
 (24, ⟨.other, 8, [.ptr]⟩),
 (26, ⟨.int .u64, 8, [.int .u64]⟩),
 (27, ⟨.slice 2, 24, [.slice]⟩),
 (28, ⟨.struct [(0, 27)], 24, [.slice]⟩),
 (29, ⟨.struct [(0, 27)], 24, [.slice]⟩),
 (30, ⟨.slice 47, 24, [.slice]⟩),
 (31, ⟨.struct [(0, 29), (1, 30)], 48, [.slice, .slice]⟩),
 (32, ⟨.struct [(0, 29), (1, 30)], 48, [.slice, .slice]⟩),
 (34, ⟨.slice 51, 24, [.slice]⟩),
 (37, ⟨.slice 27, 24, [.slice]⟩),
 (40, ⟨.slice 4, 24, [.slice]⟩),
 (41, ⟨.struct [(0, 22), (1, 3), (2, 26)], 40, [.slice, .int .i64, .int .u64]⟩),
 (42, ⟨.struct [(0, 22), (1, 3), (2, 26)], 40, [.slice, .int .i64, .int .u64]⟩),
 (46, ⟨.struct [(0, 27), (1, 27)], 48, [.slice, .slice]⟩),
 (47, ⟨.struct [(0, 27), (1, 27)], 48, [.slice, .slice]⟩),
 (50, ⟨.struct [(0, 27), (1, 27), (2, 2), (3, 2)], 64, [.slice, .slice, .int .i64, .int .i64]⟩),
 (51, ⟨.struct [(0, 27), (1, 27), (2, 2), (3, 2)], 64, [.slice, .slice, .int .i64, .int .i64]⟩),
 (57, ⟨.int .u64, 8, [.int .u64]⟩),
 (68, ⟨.slice 40, 24, [.slice]⟩),
 (76, ⟨.other, 8, [.ptr]⟩),
 (77, ⟨.array 48 27, 1152, [.slice, .slice, .slice, .slice, .slice, .slice, .slice, .slice, .slice, .slice, .slice, .slice, .slice, .slice, .slice, .slice, .slice, .slice, .slice, .slice, .slice, .slice, .slice, .slice, .slice, .slice, .slice, .slice, .slice, .slice, .slice, .slice, .slice, .slice, .slice, .slice, .slice, .slice, .slice, .slice, .slice, .slice, .slice, .slice, .slice, .slice, .slice, .slice]⟩),
 (78, ⟨.struct [(0, 29), (1, 77)], 1176, [.slice, .slice, .slice, .slice, .slice, .slice, .slice, .slice, .slice, .slice, .slice, .slice, .slice, .slice, .slice, .slice, .slice, .slice, .slice, .slice, .slice, .slice, .slice, .slice, .slice, .slice, .slice, .slice, .slice, .slice, .slice, .slice, .slice, .slice, .slice, .slice, .slice, .slice, .slice, .slice, .slice, .slice, .slice, .slice, .slice, .slice, .slice, .slice, .slice]⟩),
 (79, ⟨.struct [(0, 29), (1, 77)], 1176, [.slice, .slice, .slice, .slice, .slice, .slice, .slice, .slice, .slice, .slice, .slice, .slice, .slice, .slice, .slice, .slice, .slice, .slice, .slice, .slice, .slice, .slice, .slice, .slice, .slice, .slice, .slice, .slice, .slice, .slice, .slice, .slice, .slice, .slice, .slice, .slice, .slice, .slice, .slice, .slice, .slice, .slice, .slice, .slice, .slice, .slice, .slice, .slice, .slice]⟩),
 (86, ⟨.struct [], 0, []⟩),
 (87, ⟨.struct [], 0, []⟩),
 (94, ⟨.struct [(0, 29), (1, 27), (2, 3)], 56, [.slice, .slice, .int .i64]⟩),
 (95, ⟨.struct [(0, 29), (1, 27), (2, 3)], 56, [.slice, .slice, .int .i64]⟩),
 (98, ⟨.other, 8, [.ptr]⟩),
 (99, ⟨.array 48 4, 48, [.bool, .bool, .bool, .bool, .bool, .bool, .bool, .bool, .bool, .bool, .bool, .bool, .bool, .bool, .bool, .bool, .bool, .bool, .bool, .bool, .bool, .bool, .bool, .bool, .bool, .bool, .bool, .bool, .bool, .bool, .bool, .bool, .bool, .bool, .bool, .bool, .bool, .bool, .bool, .bool, .bool, .bool, .bool, .bool, .bool, .bool, .bool, .bool]⟩),
 (100, ⟨.slice 3, 24, [.slice]⟩),
 (103, ⟨.other, 8, [.ptr]⟩),
 (112, ⟨.int .u32, 4, [.int .u32]⟩),
 (116, ⟨.other, 8, [.ptr]⟩),
 (123, ⟨.other, 8, [.ptr]⟩)]
theorem tab_check : (tabL.all fun p => tyCheck Try.prog p.1 p.2) = true := by kernel_rfl
theorem mixed : Try.prog.follows .mixedOrders = true := by kernel_rfl
noncomputable def S : Setup := { P := Try.prog, tab := Lg.look tabL, ok := tabOk tab_check, mixed := mixed }
theorem tab2 : S.tab 2 = some ⟨.int .i64, 8, [.int .i64]⟩ := rfl
theorem kd2 : S.kd 2 = some (.int .i64) := rfl
theorem tab3 : S.tab 3 = some ⟨.int .i64, 8, [.int .i64]⟩ := rfl
theorem kd3 : S.kd 3 = some (.int .i64) := rfl
theorem tab4 : S.tab 4 = some ⟨.bool, 1, [.bool]⟩ := rfl
theorem kd4 : S.kd 4 = some (.bool) := rfl
theorem tab5 : S.tab 5 = some ⟨.int .u8, 1, [.int .u8]⟩ := rfl
theorem kd5 : S.kd 5 = some (.int .u8) := rfl
theorem tab9 : S.tab 9 = some ⟨.string, 16, [.str]⟩ := rfl
theorem kd9 : S.kd 9 = some (.string) := rfl
theorem tab12 : S.tab 12 = some ⟨.int .u64, 8, [.int .u64]⟩ := rfl
theorem kd12 : S.kd 12 = some (.int .u64) := rfl
theorem tab21 : S.tab 21 = some ⟨.int .i32, 4, [.int .i32]⟩ := rfl
theorem kd21 : S.kd 21 = some (.int .i32) := rfl
theorem tab22 : S.tab 22 = some ⟨.slice 5, 24, [.slice]⟩ := rfl
theorem kd22 : S.kd 22 = some (.slice 5) := rfl
theorem tab24 : S.tab 24 = some ⟨.other, 8, [.ptr]⟩ := rfl
theorem kd24 : S.kd 24 = some (.other) := rfl
theorem tab26 : S.tab 26 = some ⟨.int .u64, 8, [.int .u64]⟩ := rfl
theorem kd26 : S.kd 26 = some (.int .u64) := rfl
theorem tab27 : S.tab 27 = some ⟨.slice 2, 24, [.slice]⟩ := rfl
theorem kd27 : S.kd 27 = some (.slice 2) := rfl
theorem tab28 : S.tab 28 = some ⟨.struct [(0, 27)], 24, [.slice]⟩ := rfl
theorem kd28 : S.kd 28 = some (.struct [(0, 27)]) := rfl
theorem tab29 : S.tab 29 = some ⟨.struct [(0, 27)], 24, [.slice]⟩ := rfl
theorem kd29 : S.kd 29 = some (.struct [(0, 27)]) := rfl
theorem tab30 : S.tab 30 = some ⟨.slice 47, 24, [.slice]⟩ := rfl
theorem kd30 : S.kd 30 = some (.slice 47) := rfl
theorem tab31 : S.tab 31 = some ⟨.struct [(0, 29), (1, 30)], 48, [.slice, .slice]⟩ := rfl
theorem kd31 : S.kd 31 = some (.struct [(0, 29), (1, 30)]) := rfl
theorem tab32 : S.tab 32 = some ⟨.struct [(0, 29), (1, 30)], 48, [.slice, .slice]⟩ := rfl
theorem kd32 : S.kd 32 = some (.struct [(0, 29), (1, 30)]) := rfl
theorem tab34 : S.tab 34 = some ⟨.slice 51, 24, [.slice]⟩ := rfl
theorem kd34 : S.kd 34 = some (.slice 51) := rfl
theorem tab37 : S.tab 37 = some ⟨.slice 27, 24, [.slice]⟩ := rfl
theorem kd37 : S.kd 37 = some (.slice 27) := rfl
theorem tab40 : S.tab 40 = some ⟨.slice 4, 24, [.slice]⟩ := rfl
theorem kd40 : S.kd 40 = some (.slice 4) := rfl
theorem tab41 : S.tab 41 = some ⟨.struct [(0, 22), (1, 3), (2, 26)], 40, [.slice, .int .i64, .int .u64]⟩ := rfl
theorem kd41 : S.kd 41 = some (.struct [(0, 22), (1, 3), (2, 26)]) := rfl
theorem tab42 : S.tab 42 = some ⟨.struct [(0, 22), (1, 3), (2, 26)], 40, [.slice, .int .i64, .int .u64]⟩ := rfl
theorem kd42 : S.kd 42 = some (.struct [(0, 22), (1, 3), (2, 26)]) := rfl
theorem tab46 : S.tab 46 = some ⟨.struct [(0, 27), (1, 27)], 48, [.slice, .slice]⟩ := rfl
theorem kd46 : S.kd 46 = some (.struct [(0, 27), (1, 27)]) := rfl
theorem tab47 : S.tab 47 = some ⟨.struct [(0, 27), (1, 27)], 48, [.slice, .slice]⟩ := rfl
theorem kd47 : S.kd 47 = some (.struct [(0, 27), (1, 27)]) := rfl
theorem tab50 : S.tab 50 = some ⟨.struct [(0, 27), (1, 27), (2, 2), (3, 2)], 64, [.slice, .slice, .int .i64, .int .i64]⟩ := rfl
theorem kd50 : S.kd 50 = some (.struct [(0, 27), (1, 27), (2, 2), (3, 2)]) := rfl
theorem tab51 : S.tab 51 = some ⟨.struct [(0, 27), (1, 27), (2, 2), (3, 2)], 64, [.slice, .slice, .int .i64, .int .i64]⟩ := rfl
theorem kd51 : S.kd 51 = some (.struct [(0, 27), (1, 27), (2, 2), (3, 2)]) := rfl
theorem tab57 : S.tab 57 = some ⟨.int .u64, 8, [.int .u64]⟩ := rfl
theorem kd57 : S.kd 57 = some (.int .u64) := rfl
theorem tab68 : S.tab 68 = some ⟨.slice 40, 24, [.slice]⟩ := rfl
theorem kd68 : S.kd 68 = some (.slice 40) := rfl
theorem tab76 : S.tab 76 = some ⟨.other, 8, [.ptr]⟩ := rfl
theorem kd76 : S.kd 76 = some (.other) := rfl
theorem tab77 : S.tab 77 = some ⟨.array 48 27, 1152, [.slice, .slice, .slice, .slice, .slice, .slice, .slice, .slice, .slice, .slice, .slice, .slice, .slice, .slice, .slice, .slice, .slice, .slice, .slice, .slice, .slice, .slice, .slice, .slice, .slice, .slice, .slice, .slice, .slice, .slice, .slice, .slice, .slice, .slice, .slice, .slice, .slice, .slice, .slice, .slice, .slice, .slice, .slice, .slice, .slice, .slice, .slice, .slice]⟩ := rfl
theorem kd77 : S.kd 77 = some (.array 48 27) := rfl
theorem tab78 : S.tab 78 = some ⟨.struct [(0, 29), (1, 77)], 1176, [.slice, .slice, .slice, .slice, .slice, .slice, .slice, .slice, .slice, .slice, .slice, .slice, .slice, .slice, .slice, .slice, .slice, .slice, .slice, .slice, .slice, .slice, .slice, .slice, .slice, .slice, .slice, .slice, .slice, .slice, .slice, .slice, .slice, .slice, .slice, .slice, .slice, .slice, .slice, .slice, .slice, .slice, .slice, .slice, .slice, .slice, .slice, .slice, .slice]⟩ := rfl
theorem kd78 : S.kd 78 = some (.struct [(0, 29), (1, 77)]) := rfl
theorem tab79 : S.tab 79 = some ⟨.struct [(0, 29), (1, 77)], 1176, [.slice, .slice, .slice, .slice, .slice, .slice, .slice, .slice, .slice, .slice, .slice, .slice, .slice, .slice, .slice, .slice, .slice, .slice, .slice, .slice, .slice, .slice, .slice, .slice, .slice, .slice, .slice, .slice, .slice, .slice, .slice, .slice, .slice, .slice, .slice, .slice, .slice, .slice, .slice, .slice, .slice, .slice, .slice, .slice, .slice, .slice, .slice, .slice, .slice]⟩ := rfl
theorem kd79 : S.kd 79 = some (.struct [(0, 29), (1, 77)]) := rfl
theorem tab86 : S.tab 86 = some ⟨.struct [], 0, []⟩ := rfl
theorem kd86 : S.kd 86 = some (.struct []) := rfl
theorem tab87 : S.tab 87 = some ⟨.struct [], 0, []⟩ := rfl
theorem kd87 : S.kd 87 = some (.struct []) := rfl
theorem tab94 : S.tab 94 = some ⟨.struct [(0, 29), (1, 27), (2, 3)], 56, [.slice, .slice, .int .i64]⟩ := rfl
theorem kd94 : S.kd 94 = some (.struct [(0, 29), (1, 27), (2, 3)]) := rfl
theorem tab95 : S.tab 95 = some ⟨.struct [(0, 29), (1, 27), (2, 3)], 56, [.slice, .slice, .int .i64]⟩ := rfl
theorem kd95 : S.kd 95 = some (.struct [(0, 29), (1, 27), (2, 3)]) := rfl
theorem tab98 : S.tab 98 = some ⟨.other, 8, [.ptr]⟩ := rfl
theorem kd98 : S.kd 98 = some (.other) := rfl
theorem tab99 : S.tab 99 = some ⟨.array 48 4, 48, [.bool, .bool, .bool, .bool, .bool, .bool, .bool, .bool, .bool, .bool, .bool, .bool, .bool, .bool, .bool, .bool, .bool, .bool, .bool, .bool, .bool, .bool, .bool, .bool, .bool, .bool, .bool, .bool, .bool, .bool, .bool, .bool, .bool, .bool, .bool, .bool, .bool, .bool, .bool, .bool, .bool, .bool, .bool, .bool, .bool, .bool, .bool, .bool]⟩ := rfl
theorem kd99 : S.kd 99 = some (.array 48 4) := rfl
theorem tab100 : S.tab 100 = some ⟨.slice 3, 24, [.slice]⟩ := rfl
theorem kd100 : S.kd 100 = some (.slice 3) := rfl
theorem tab103 : S.tab 103 = some ⟨.other, 8, [.ptr]⟩ := rfl
theorem kd103 : S.kd 103 = some (.other) := rfl
theorem tab112 : S.tab 112 = some ⟨.int .u32, 4, [.int .u32]⟩ := rfl
theorem kd112 : S.kd 112 = some (.int .u32) := rfl
theorem tab116 : S.tab 116 = some ⟨.other, 8, [.ptr]⟩ := rfl
theorem kd116 : S.kd 116 = some (.other) := rfl
theorem tab123 : S.tab 123 = some ⟨.other, 8, [.ptr]⟩ := rfl
theorem kd123 : S.kd 123 = some (.other) := rfl
attribute [go_sem] tab2 kd2 tab3 kd3 tab4 kd4 tab5 kd5 tab9 kd9 tab12 kd12 tab21 kd21 tab22 kd22 tab24 kd24 tab26 kd26 tab27 kd27 tab28 kd28 tab29 kd29 tab30 kd30 tab31 kd31 tab32 kd32 tab34 kd34 tab37 kd37 tab40 kd40 tab41 kd41 tab42 kd42 tab46 kd46 tab47 kd47 tab50 kd50 tab51 kd51 tab57 kd57 tab68 kd68 tab76 kd76 tab77 kd77 tab78 kd78 tab79 kd79 tab86 kd86 tab87 kd87 tab94 kd94 tab95 kd95 tab98 kd98 tab99 kd99 tab100 kd100 tab103 kd103 tab112 kd112 tab116 kd116 tab123 kd123
end Go.Proofs.Ytmogobaaophknaa

/-
  The types that the rules ask for, out of the translation; made by mksetup.py. The check against the program is a closed fact.
-/
import Derived.Test.YtldlochhiiogbaaProg
import Derived.Test.YtldlochhiiogbaaLgK4
import Derived.KernelRfl
namespace Go.Proofs.Ytldlochhiiogbaa
open Go Go.Lg

def tabL : List (Nat × TyI) := [
  (2, ⟨.int .i64, 8, [.int .i64]⟩),
  (3, ⟨.int .i64, 8, [.int .i64]⟩),
  (4, ⟨.bool, 1, [.bool]⟩),
  (5, ⟨.int .u8, 1, [.int .u8]⟩),
  (9, ⟨.string, 16, [.str]⟩),
  (12, ⟨.int .u64, 8, [.int .u64]⟩),
  (21, ⟨.int .i32, 4, [.int .i32]⟩),
  (22, ⟨.slice 2, 24, [.slice]⟩),
  (23, ⟨.struct [(0, 22)], 24, [.slice]⟩),
  (24, ⟨.struct [(0, 22)], 24, [.slice]⟩),
  (26, ⟨.slice 22, 24, [.slice]⟩),
  (29, ⟨.struct [(0, 22)], 24, [.slice]⟩),
  (36, ⟨.slice 80, 24, [.slice]⟩),
  (37, ⟨.struct [(0, 24), (1, 36)], 48, [.slice, .slice]⟩),
  (38, ⟨.struct [(0, 24), (1, 36)], 48, [.slice, .slice]⟩),
  (41, ⟨.slice 82, 24, [.slice]⟩),
  (42, ⟨.struct [(0, 29), (1, 41)], 48, [.slice, .slice]⟩),
  (43, ⟨.struct [(0, 29), (1, 41)], 48, [.slice, .slice]⟩),
  (51, ⟨.slice 26, 24, [.slice]⟩),
  (55, ⟨.array 61 26, 1464, [.slice, .slice, .slice, .slice, .slice, .slice, .slice, .slice, .slice, .slice, .slice, .slice, .slice, .slice, .slice, .slice, .slice, .slice, .slice, .slice, .slice, .slice, .slice, .slice, .slice, .slice, .slice, .slice, .slice, .slice, .slice, .slice, .slice, .slice, .slice, .slice, .slice, .slice, .slice, .slice, .slice, .slice, .slice, .slice, .slice, .slice, .slice, .slice, .slice, .slice, .slice, .slice, .slice, .slice, .slice, .slice, .slice, .slice, .slice, .slice, .slice]⟩),
  (56, ⟨.array 61 26, 1464, [.slice, .slice, .slice, .slice, .slice, .slice, .slice, .slice, .slice, .slice, .slice, .slice, .slice, .slice, .slice, .slice, .slice, .slice, .slice, .slice, .slice, .slice, .slice, .slice, .slice, .slice, .slice, .slice, .slice, .slice, .slice, .slice, .slice, .slice, .slice, .slice, .slice, .slice, .slice, .slice, .slice, .slice, .slice, .slice, .slice, .slice, .slice, .slice, .slice, .slice, .slice, .slice, .slice, .slice, .slice, .slice, .slice, .slice, .slice, .slice, .slice]⟩),
  (73, ⟨.other, 8, [.ptr]⟩),
  (77, ⟨.int .u64, 8, [.int .u64]⟩),
  (79, ⟨.struct [(0, 22), (1, 22)], 48, [.slice, .slice]⟩),
  (80, ⟨.struct [(0, 22), (1, 22)], 48, [.slice, .slice]⟩),
  (82, ⟨.struct [(0, 22), (1, 22)], 48, [.slice, .slice]⟩),
  (90, ⟨.int .i64, 8, [.int .i64]⟩),
  (98, ⟨.int .u32, 4, [.int .u32]⟩),
  (100, ⟨.int .u64, 8, [.int .u64]⟩),
  (104, ⟨.int .u64, 8, [.int .u64]⟩),
  (108, ⟨.other, 8, [.ptr]⟩),
  (114, ⟨.other, 8, [.ptr]⟩),
  (118, ⟨.struct [(0, 29), (1, 22), (2, 3)], 56, [.slice, .slice, .int .i64]⟩),
  (119, ⟨.struct [(0, 29), (1, 22), (2, 3)], 56, [.slice, .slice, .int .i64]⟩),
  (121, ⟨.other, 8, [.ptr]⟩),
  (133, ⟨.other, 8, [.ptr]⟩),
  (139, ⟨.other, 8, [.ptr]⟩)]
theorem tab_check : (tabL.all fun p => tyCheck Try.prog p.1 p.2) = true := by kernel_rfl
theorem mixed : Try.prog.follows .mixedOrders = true := by kernel_rfl
noncomputable def S : Setup := { P := Try.prog, tab := Lg.look tabL, ok := tabOk tab_check, mixed := mixed }
theorem tab2 : S.tab 2 = some ⟨.int .i64, 8, [.int .i64]⟩ := rfl
theorem kd2 : S.kd 2 = some (.int .i64) := rfl
theorem tab3 : S.tab 3 = some ⟨.int .i64, 8, [.int .i64]⟩ := rfl
theorem kd3 : S.kd 3 = some (.int .i64) := rfl
theorem tab4 : S.tab 4 = some ⟨.bool, 1, [.bool]⟩ := rfl
theorem kd4 : S.kd 4 = some (.bool) := rfl
theorem tab5 : S.tab 5 = some ⟨.int .u8, 1, [.int .u8]⟩ := rfl
theorem kd5 : S.kd 5 = some (.int .u8) := rfl
theorem tab9 : S.tab 9 = some ⟨.string, 16, [.str]⟩ := rfl
theorem kd9 : S.kd 9 = some (.string) := rfl
theorem tab12 : S.tab 12 = some ⟨.int .u64, 8, [.int .u64]⟩ := rfl
theorem kd12 : S.kd 12 = some (.int .u64) := rfl
theorem tab21 : S.tab 21 = some ⟨.int .i32, 4, [.int .i32]⟩ := rfl
theorem kd21 : S.kd 21 = some (.int .i32) := rfl
theorem tab22 : S.tab 22 = some ⟨.slice 2, 24, [.slice]⟩ := rfl
theorem kd22 : S.kd 22 = some (.slice 2) := rfl
theorem tab23 : S.tab 23 = some ⟨.struct [(0, 22)], 24, [.slice]⟩ := rfl
theorem kd23 : S.kd 23 = some (.struct [(0, 22)]) := rfl
theorem tab24 : S.tab 24 = some ⟨.struct [(0, 22)], 24, [.slice]⟩ := rfl
theorem kd24 : S.kd 24 = some (.struct [(0, 22)]) := rfl
theorem tab26 : S.tab 26 = some ⟨.slice 22, 24, [.slice]⟩ := rfl
theorem kd26 : S.kd 26 = some (.slice 22) := rfl
theorem tab29 : S.tab 29 = some ⟨.struct [(0, 22)], 24, [.slice]⟩ := rfl
theorem kd29 : S.kd 29 = some (.struct [(0, 22)]) := rfl
theorem tab36 : S.tab 36 = some ⟨.slice 80, 24, [.slice]⟩ := rfl
theorem kd36 : S.kd 36 = some (.slice 80) := rfl
theorem tab37 : S.tab 37 = some ⟨.struct [(0, 24), (1, 36)], 48, [.slice, .slice]⟩ := rfl
theorem kd37 : S.kd 37 = some (.struct [(0, 24), (1, 36)]) := rfl
theorem tab38 : S.tab 38 = some ⟨.struct [(0, 24), (1, 36)], 48, [.slice, .slice]⟩ := rfl
theorem kd38 : S.kd 38 = some (.struct [(0, 24), (1, 36)]) := rfl
theorem tab41 : S.tab 41 = some ⟨.slice 82, 24, [.slice]⟩ := rfl
theorem kd41 : S.kd 41 = some (.slice 82) := rfl
theorem tab42 : S.tab 42 = some ⟨.struct [(0, 29), (1, 41)], 48, [.slice, .slice]⟩ := rfl
theorem kd42 : S.kd 42 = some (.struct [(0, 29), (1, 41)]) := rfl
theorem tab43 : S.tab 43 = some ⟨.struct [(0, 29), (1, 41)], 48, [.slice, .slice]⟩ := rfl
theorem kd43 : S.kd 43 = some (.struct [(0, 29), (1, 41)]) := rfl
theorem tab51 : S.tab 51 = some ⟨.slice 26, 24, [.slice]⟩ := rfl
theorem kd51 : S.kd 51 = some (.slice 26) := rfl
theorem tab55 : S.tab 55 = some ⟨.array 61 26, 1464, [.slice, .slice, .slice, .slice, .slice, .slice, .slice, .slice, .slice, .slice, .slice, .slice, .slice, .slice, .slice, .slice, .slice, .slice, .slice, .slice, .slice, .slice, .slice, .slice, .slice, .slice, .slice, .slice, .slice, .slice, .slice, .slice, .slice, .slice, .slice, .slice, .slice, .slice, .slice, .slice, .slice, .slice, .slice, .slice, .slice, .slice, .slice, .slice, .slice, .slice, .slice, .slice, .slice, .slice, .slice, .slice, .slice, .slice, .slice, .slice, .slice]⟩ := rfl
theorem kd55 : S.kd 55 = some (.array 61 26) := rfl
theorem tab56 : S.tab 56 = some ⟨.array 61 26, 1464, [.slice, .slice, .slice, .slice, .slice, .slice, .slice, .slice, .slice, .slice, .slice, .slice, .slice, .slice, .slice, .slice, .slice, .slice, .slice, .slice, .slice, .slice, .slice, .slice, .slice, .slice, .slice, .slice, .slice, .slice, .slice, .slice, .slice, .slice, .slice, .slice, .slice, .slice, .slice, .slice, .slice, .slice, .slice, .slice, .slice, .slice, .slice, .slice, .slice, .slice, .slice, .slice, .slice, .slice, .slice, .slice, .slice, .slice, .slice, .slice, .slice]⟩ := rfl
theorem kd56 : S.kd 56 = some (.array 61 26) := rfl
theorem tab73 : S.tab 73 = some ⟨.other, 8, [.ptr]⟩ := rfl
theorem kd73 : S.kd 73 = some (.other) := rfl
theorem tab77 : S.tab 77 = some ⟨.int .u64, 8, [.int .u64]⟩ := rfl
theorem kd77 : S.kd 77 = some (.int .u64) := rfl
theorem tab79 : S.tab 79 = some ⟨.struct [(0, 22), (1, 22)], 48, [.slice, .slice]⟩ := rfl
theorem kd79 : S.kd 79 = some (.struct [(0, 22), (1, 22)]) := rfl
theorem tab80 : S.tab 80 = some ⟨.struct [(0, 22), (1, 22)], 48, [.slice, .slice]⟩ := rfl
theorem kd80 : S.kd 80 = some (.struct [(0, 22), (1, 22)]) := rfl
theorem tab82 : S.tab 82 = some ⟨.struct [(0, 22), (1, 22)], 48, [.slice, .slice]⟩ := rfl
theorem kd82 : S.kd 82 = some (.struct [(0, 22), (1, 22)]) := rfl
theorem tab90 : S.tab 90 = some ⟨.int .i64, 8, [.int .i64]⟩ := rfl
theorem kd90 : S.kd 90 = some (.int .i64) := rfl
theorem tab98 : S.tab 98 = some ⟨.int .u32, 4, [.int .u32]⟩ := rfl
theorem kd98 : S.kd 98 = some (.int .u32) := rfl
theorem tab100 : S.tab 100 = some ⟨.int .u64, 8, [.int .u64]⟩ := rfl
theorem kd100 : S.kd 100 = some (.int .u64) := rfl
theorem tab104 : S.tab 104 = some ⟨.int .u64, 8, [.int .u64]⟩ := rfl
theorem kd104 : S.kd 104 = some (.int .u64) := rfl
theorem tab108 : S.tab 108 = some ⟨.other, 8, [.ptr]⟩ := rfl
theorem kd108 : S.kd 108 = some (.other) := rfl
theorem tab114 : S.tab 114 = some ⟨.other, 8, [.ptr]⟩ := rfl
theorem kd114 : S.kd 114 = some (.other) := rfl
theorem tab118 : S.tab 118 = some ⟨.struct [(0, 29), (1, 22), (2, 3)], 56, [.slice, .slice, .int .i64]⟩ := rfl
theorem kd118 : S.kd 118 = some (.struct [(0, 29), (1, 22), (2, 3)]) := rfl
theorem tab119 : S.tab 119 = some ⟨.struct [(0, 29), (1, 22), (2, 3)], 56, [.slice, .slice, .int .i64]⟩ := rfl
theorem kd119 : S.kd 119 = some (.struct [(0, 29), (1, 22), (2, 3)]) := rfl
theorem tab121 : S.tab 121 = some ⟨.other, 8, [.ptr]⟩ := rfl
theorem kd121 : S.kd 121 = some (.other) := rfl
theorem tab133 : S.tab 133 = some ⟨.other, 8, [.ptr]⟩ := rfl
theorem kd133 : S.kd 133 = some (.other) := rfl
theorem tab139 : S.tab 139 = some ⟨.other, 8, [.ptr]⟩ := rfl
theorem kd139 : S.kd 139 = some (.other) := rfl
attribute [go_sem] tab2 kd2 tab3 kd3 tab4 kd4 tab5 kd5 tab9 kd9 tab12 kd12 tab21 kd21 tab22 kd22 tab23 kd23 tab24 kd24 tab26 kd26 tab29 kd29 tab36 kd36 tab37 kd37 tab38 kd38 tab41 kd41 tab42 kd42 tab43 kd43 tab51 kd51 tab55 kd55 tab56 kd56 tab73 kd73 tab77 kd77 tab79 kd79 tab80 kd80 tab82 kd82 tab90 kd90 tab98 kd98 tab100 kd100 tab104 kd104 tab108 kd108 tab114 kd114 tab118 kd118 tab119 kd119 tab121 kd121 tab133 kd133 tab139 kd139
end Go.Proofs.Ytldlochhiiogbaa

/-
  The types that the rules ask for, out of the translation; made by mksetup.py. The check against the program is a closed fact.
-/
import Derived.Test.YtbagmcibfokonaaProg
import Derived.Test.YtbagmcibfokonaaLgAttr
import Derived.KernelRfl
namespace Go.Proofs.Ytbagmcibfokonaa
open Go Go.Lg

def tabL : List (Nat × TyI) := [
  (2, ⟨.int .i64, 8, [.int .i64]⟩),
  (3, ⟨.int .i64, 8, [.int .i64]⟩),
  (4, ⟨.bool, 1, [.bool]⟩),
  (5, ⟨.int .u8, 1, [.int .u8]⟩),
  (9, ⟨.string, 16, [.str]⟩),
  (12, ⟨.int .u64, 8, [.int .u64]⟩),
  (21, ⟨.int .i32, 4, [.int .i32]⟩),
  (22, ⟨.slice 2, 24, [.slice]⟩),
  (23, ⟨.struct [(0, 22)], 24, [.slice]⟩),
  (24, ⟨.struct [(0, 22)], 24, [.slice]⟩),
  (27, ⟨.struct [(0, 22)], 24, [.slice]⟩),
  (33, ⟨.slice 22, 24, [.slice]⟩),
  (34, ⟨.struct [(0, 2), (1, 22), (2, 33), (3, 22)], 80, [.int .i64, .slice, .slice, .slice]⟩),
  (35, ⟨.struct [(0, 2), (1, 22), (2, 33), (3, 22)], 80, [.int .i64, .slice, .slice, .slice]⟩),
  (38, ⟨.struct [(0, 2), (1, 22), (2, 33), (3, 22)], 80, [.int .i64, .slice, .slice, .slice]⟩),
  (42, ⟨.struct [(0, 22), (1, 22)], 48, [.slice, .slice]⟩),
  (43, ⟨.struct [(0, 22), (1, 22)], 48, [.slice, .slice]⟩),
  (46, ⟨.struct [(0, 22), (1, 22)], 48, [.slice, .slice]⟩),
  (50, ⟨.slice 35, 24, [.slice]⟩),
  (51, ⟨.struct [(0, 50)], 24, [.slice]⟩),
  (52, ⟨.struct [(0, 50)], 24, [.slice]⟩),
  (55, ⟨.slice 38, 24, [.slice]⟩),
  (56, ⟨.struct [(0, 55)], 24, [.slice]⟩),
  (57, ⟨.struct [(0, 55)], 24, [.slice]⟩),
  (62, ⟨.slice 43, 24, [.slice]⟩),
  (65, ⟨.slice 46, 24, [.slice]⟩),
  (69, ⟨.slice 96, 24, [.slice]⟩),
  (92, ⟨.slice 110, 24, [.slice]⟩),
  (95, ⟨.struct [(0, 22), (1, 22), (2, 92), (3, 22)], 96, [.slice, .slice, .slice, .slice]⟩),
  (96, ⟨.struct [(0, 22), (1, 22), (2, 92), (3, 22)], 96, [.slice, .slice, .slice, .slice]⟩),
  (97, ⟨.other, 8, [.ptr]⟩),
  (98, ⟨.struct [(0, 22), (1, 4)], 32, [.slice, .bool]⟩),
  (99, ⟨.struct [(0, 22), (1, 4)], 32, [.slice, .bool]⟩),
  (109, ⟨.struct [(0, 2), (1, 22)], 32, [.int .i64, .slice]⟩),
  (110, ⟨.struct [(0, 2), (1, 22)], 32, [.int .i64, .slice]⟩),
  (114, ⟨.struct [(0, 27), (1, 22), (2, 3)], 56, [.slice, .slice, .int .i64]⟩),
  (115, ⟨.struct [(0, 27), (1, 22), (2, 3)], 56, [.slice, .slice, .int .i64]⟩),
  (119, ⟨.other, 8, [.ptr]⟩),
  (128, ⟨.int .u32, 4, [.int .u32]⟩),
  (132, ⟨.other, 8, [.ptr]⟩),
  (138, ⟨.other, 8, [.ptr]⟩)]
theorem tab_check : (tabL.all fun p => tyCheck Try.prog p.1 p.2) = true := by kernel_rfl
theorem mixed : Try.prog.follows .mixedOrders = true := by kernel_rfl
noncomputable def S : Setup := { P := Try.prog, tab := Lg.look tabL, ok := tabOk tab_check, mixed := mixed }
theorem tab2 : S.tab 2 = some ⟨.int .i64, 8, [.int .i64]⟩ := rfl
theorem kd2 : S.kd 2 = some (.int .i64) := rfl
theorem tab3 : S.tab 3 = some ⟨.int .i64, 8, [.int .i64]⟩ := rfl
theorem kd3 : S.kd 3 = some (.int .i64) := rfl
theorem tab4 : S.tab 4 = some ⟨.bool, 1, [.bool]⟩ := rfl
theorem kd4 : S.kd 4 = some (.bool) := rfl
theorem tab5 : S.tab 5 = some ⟨.int .u8, 1, [.int .u8]⟩ := rfl
theorem kd5 : S.kd 5 = some (.int .u8) := rfl
theorem tab9 : S.tab 9 = some ⟨.string, 16, [.str]⟩ := rfl
theorem kd9 : S.kd 9 = some (.string) := rfl
theorem tab12 : S.tab 12 = some ⟨.int .u64, 8, [.int .u64]⟩ := rfl
theorem kd12 : S.kd 12 = some (.int .u64) := rfl
theorem tab21 : S.tab 21 = some ⟨.int .i32, 4, [.int .i32]⟩ := rfl
theorem kd21 : S.kd 21 = some (.int .i32) := rfl
theorem tab22 : S.tab 22 = some ⟨.slice 2, 24, [.slice]⟩ := rfl
theorem kd22 : S.kd 22 = some (.slice 2) := rfl
theorem tab23 : S.tab 23 = some ⟨.struct [(0, 22)], 24, [.slice]⟩ := rfl
theorem kd23 : S.kd 23 = some (.struct [(0, 22)]) := rfl
theorem tab24 : S.tab 24 = some ⟨.struct [(0, 22)], 24, [.slice]⟩ := rfl
theorem kd24 : S.kd 24 = some (.struct [(0, 22)]) := rfl
theorem tab27 : S.tab 27 = some ⟨.struct [(0, 22)], 24, [.slice]⟩ := rfl
theorem kd27 : S.kd 27 = some (.struct [(0, 22)]) := rfl
theorem tab33 : S.tab 33 = some ⟨.slice 22, 24, [.slice]⟩ := rfl
theorem kd33 : S.kd 33 = some (.slice 22) := rfl
theorem tab34 : S.tab 34 = some ⟨.struct [(0, 2), (1, 22), (2, 33), (3, 22)], 80, [.int .i64, .slice, .slice, .slice]⟩ := rfl
theorem kd34 : S.kd 34 = some (.struct [(0, 2), (1, 22), (2, 33), (3, 22)]) := rfl
theorem tab35 : S.tab 35 = some ⟨.struct [(0, 2), (1, 22), (2, 33), (3, 22)], 80, [.int .i64, .slice, .slice, .slice]⟩ := rfl
theorem kd35 : S.kd 35 = some (.struct [(0, 2), (1, 22), (2, 33), (3, 22)]) := rfl
theorem tab38 : S.tab 38 = some ⟨.struct [(0, 2), (1, 22), (2, 33), (3, 22)], 80, [.int .i64, .slice, .slice, .slice]⟩ := rfl
theorem kd38 : S.kd 38 = some (.struct [(0, 2), (1, 22), (2, 33), (3, 22)]) := rfl
theorem tab42 : S.tab 42 = some ⟨.struct [(0, 22), (1, 22)], 48, [.slice, .slice]⟩ := rfl
theorem kd42 : S.kd 42 = some (.struct [(0, 22), (1, 22)]) := rfl
theorem tab43 : S.tab 43 = some ⟨.struct [(0, 22), (1, 22)], 48, [.slice, .slice]⟩ := rfl
theorem kd43 : S.kd 43 = some (.struct [(0, 22), (1, 22)]) := rfl
theorem tab46 : S.tab 46 = some ⟨.struct [(0, 22), (1, 22)], 48, [.slice, .slice]⟩ := rfl
theorem kd46 : S.kd 46 = some (.struct [(0, 22), (1, 22)]) := rfl
theorem tab50 : S.tab 50 = some ⟨.slice 35, 24, [.slice]⟩ := rfl
theorem kd50 : S.kd 50 = some (.slice 35) := rfl
theorem tab51 : S.tab 51 = some ⟨.struct [(0, 50)], 24, [.slice]⟩ := rfl
theorem kd51 : S.kd 51 = some (.struct [(0, 50)]) := rfl
theorem tab52 : S.tab 52 = some ⟨.struct [(0, 50)], 24, [.slice]⟩ := rfl
theorem kd52 : S.kd 52 = some (.struct [(0, 50)]) := rfl
theorem tab55 : S.tab 55 = some ⟨.slice 38, 24, [.slice]⟩ := rfl
theorem kd55 : S.kd 55 = some (.slice 38) := rfl
theorem tab56 : S.tab 56 = some ⟨.struct [(0, 55)], 24, [.slice]⟩ := rfl
theorem kd56 : S.kd 56 = some (.struct [(0, 55)]) := rfl
theorem tab57 : S.tab 57 = some ⟨.struct [(0, 55)], 24, [.slice]⟩ := rfl
theorem kd57 : S.kd 57 = some (.struct [(0, 55)]) := rfl
theorem tab62 : S.tab 62 = some ⟨.slice 43, 24, [.slice]⟩ := rfl
theorem kd62 : S.kd 62 = some (.slice 43) := rfl
theorem tab65 : S.tab 65 = some ⟨.slice 46, 24, [.slice]⟩ := rfl
theorem kd65 : S.kd 65 = some (.slice 46) := rfl
theorem tab69 : S.tab 69 = some ⟨.slice 96, 24, [.slice]⟩ := rfl
theorem kd69 : S.kd 69 = some (.slice 96) := rfl
theorem tab92 : S.tab 92 = some ⟨.slice 110, 24, [.slice]⟩ := rfl
theorem kd92 : S.kd 92 = some (.slice 110) := rfl
theorem tab95 : S.tab 95 = some ⟨.struct [(0, 22), (1, 22), (2, 92), (3, 22)], 96, [.slice, .slice, .slice, .slice]⟩ := rfl
theorem kd95 : S.kd 95 = some (.struct [(0, 22), (1, 22), (2, 92), (3, 22)]) := rfl
theorem tab96 : S.tab 96 = some ⟨.struct [(0, 22), (1, 22), (2, 92), (3, 22)], 96, [.slice, .slice, .slice, .slice]⟩ := rfl
theorem kd96 : S.kd 96 = some (.struct [(0, 22), (1, 22), (2, 92), (3, 22)]) := rfl
theorem tab97 : S.tab 97 = some ⟨.other, 8, [.ptr]⟩ := rfl
theorem kd97 : S.kd 97 = some (.other) := rfl
theorem tab98 : S.tab 98 = some ⟨.struct [(0, 22), (1, 4)], 32, [.slice, .bool]⟩ := rfl
theorem kd98 : S.kd 98 = some (.struct [(0, 22), (1, 4)]) := rfl
theorem tab99 : S.tab 99 = some ⟨.struct [(0, 22), (1, 4)], 32, [.slice, .bool]⟩ := rfl
theorem kd99 : S.kd 99 = some (.struct [(0, 22), (1, 4)]) := rfl
theorem tab109 : S.tab 109 = some ⟨.struct [(0, 2), (1, 22)], 32, [.int .i64, .slice]⟩ := rfl
theorem kd109 : S.kd 109 = some (.struct [(0, 2), (1, 22)]) := rfl
theorem tab110 : S.tab 110 = some ⟨.struct [(0, 2), (1, 22)], 32, [.int .i64, .slice]⟩ := rfl
theorem kd110 : S.kd 110 = some (.struct [(0, 2), (1, 22)]) := rfl
theorem tab114 : S.tab 114 = some ⟨.struct [(0, 27), (1, 22), (2, 3)], 56, [.slice, .slice, .int .i64]⟩ := rfl
theorem kd114 : S.kd 114 = some (.struct [(0, 27), (1, 22), (2, 3)]) := rfl
theorem tab115 : S.tab 115 = some ⟨.struct [(0, 27), (1, 22), (2, 3)], 56, [.slice, .slice, .int .i64]⟩ := rfl
theorem kd115 : S.kd 115 = some (.struct [(0, 27), (1, 22), (2, 3)]) := rfl
theorem tab119 : S.tab 119 = some ⟨.other, 8, [.ptr]⟩ := rfl
theorem kd119 : S.kd 119 = some (.other) := rfl
theorem tab128 : S.tab 128 = some ⟨.int .u32, 4, [.int .u32]⟩ := rfl
theorem kd128 : S.kd 128 = some (.int .u32) := rfl
theorem tab132 : S.tab 132 = some ⟨.other, 8, [.ptr]⟩ := rfl
theorem kd132 : S.kd 132 = some (.other) := rfl
theorem tab138 : S.tab 138 = some ⟨.other, 8, [.ptr]⟩ := rfl
theorem kd138 : S.kd 138 = some (.other) := rfl
attribute [go_sem] tab2 kd2 tab3 kd3 tab4 kd4 tab5 kd5 tab9 kd9 tab12 kd12 tab21 kd21 tab22 kd22 tab23 kd23 tab24 kd24 tab27 kd27 tab33 kd33 tab34 kd34 tab35 kd35 tab38 kd38 tab42 kd42 tab43 kd43 tab46 kd46 tab50 kd50 tab51 kd51 tab52 kd52 tab55 kd55 tab56 kd56 tab57 kd57 tab62 kd62 tab65 kd65 tab69 kd69 tab92 kd92 tab95 kd95 tab96 kd96 tab97 kd97 tab98 kd98 tab99 kd99 tab109 kd109 tab110 kd110 tab114 kd114 tab115 kd115 tab119 kd119 tab128 kd128 tab132 kd132 tab138 kd138
end Go.Proofs.Ytbagmcibfokonaa

/-
  The types that the rules ask for, out of the translation; made by mksetup.py. The check against the program is a closed fact.
-/
import Derived.Test.YtfokjjlbdaabaaaProg
import Derived.Test.YtfokjjlbdaabaaaLgK4
import Derived.KernelRfl
namespace Go.Proofs.Ytfokjjlbdaabaaa
open Go Go.Lg

def tabL : List (Nat × TyI) := [
  (2, ⟨.int .i64, 8, [.int .i64]⟩),
  (3, ⟨.int .i64, 8, [.int .i64]⟩),
  (4, ⟨.bool, 1, [.bool]⟩),
  (5, ⟨.int .u8, 1, [.int .u8]⟩),
  (9, ⟨.string, 16, [.str]⟩),
  (12, ⟨.int .u64, 8, [.int .u64]⟩),
  (21, ⟨.int .i32, 4, [.int .i32]⟩),
  (22, ⟨.slice 5, 24, [.slice]⟩),
  (24, ⟨.slice 2, 24, [.slice]⟩),
  (25, ⟨.struct [(0, 24)], 24, [.slice]⟩),
  (26, ⟨.struct [(0, 24)], 24, [.slice]⟩),
  (27, ⟨.slice 35, 24, [.slice]⟩),
  (28, ⟨.struct [(0, 26), (1, 27)], 48, [.slice, .slice]⟩),
  (29, ⟨.struct [(0, 26), (1, 27)], 48, [.slice, .slice]⟩),
  (34, ⟨.struct [(0, 24), (1, 24)], 48, [.slice, .slice]⟩),
  (35, ⟨.struct [(0, 24), (1, 24)], 48, [.slice, .slice]⟩),
  (45, ⟨.other, 8, [.ptr]⟩),
  (59, ⟨.struct [(0, 26), (1, 24)], 48, [.slice, .slice]⟩),
  (60, ⟨.struct [(0, 26), (1, 24)], 48, [.slice, .slice]⟩),
  (63, ⟨.struct [(0, 22), (1, 3), (2, 2)], 40, [.slice, .int .i64, .int .i64]⟩),
  (64, ⟨.struct [(0, 22), (1, 3), (2, 2)], 40, [.slice, .int .i64, .int .i64]⟩),
  (67, ⟨.struct [(0, 26), (1, 27)], 48, [.slice, .slice]⟩),
  (68, ⟨.struct [(0, 26), (1, 27)], 48, [.slice, .slice]⟩),
  (75, ⟨.slice 24, 24, [.slice]⟩),
  (87, ⟨.slice 3, 24, [.slice]⟩),
  (100, ⟨.struct [(0, 26), (1, 24), (2, 3)], 56, [.slice, .slice, .int .i64]⟩),
  (101, ⟨.struct [(0, 26), (1, 24), (2, 3)], 56, [.slice, .slice, .int .i64]⟩),
  (108, ⟨.int .u64, 8, [.int .u64]⟩),
  (109, ⟨.other, 8, [.ptr]⟩),
  (116, ⟨.int .i64, 8, [.int .i64]⟩),
  (124, ⟨.int .u32, 4, [.int .u32]⟩),
  (126, ⟨.int .u64, 8, [.int .u64]⟩),
  (127, ⟨.int .u64, 8, [.int .u64]⟩),
  (131, ⟨.other, 8, [.ptr]⟩),
  (133, ⟨.other, 8, [.ptr]⟩),
  (145, ⟨.other, 8, [.ptr]⟩),
  (150, ⟨.other, 8, [.ptr]⟩)]
theorem tab_check : (tabL.all fun p => tyCheck Try.prog p.1 p.2) = true := by kernel_rfl
theorem mixed : Try.prog.follows .mixedOrders = true := by kernel_rfl
noncomputable def S : Setup := { P := Try.prog, tab := Lg.look tabL, ok := tabOk tab_check, mixed := mixed }
theorem tab2 : S.tab 2 = some ⟨.int .i64, 8, [.int .i64]⟩ := rfl
theorem kd2 : S.kd 2 = some (.int .i64) := rfl
theorem tab3 : S.tab 3 = some ⟨.int .i64, 8, [.int .i64]⟩ := rfl
theorem kd3 : S.kd 3 = some (.int .i64) := rfl
theorem tab4 : S.tab 4 = some ⟨.bool, 1, [.bool]⟩ := rfl
theorem kd4 : S.kd 4 = some (.bool) := rfl
theorem tab5 : S.tab 5 = some ⟨.int .u8, 1, [.int .u8]⟩ := rfl
theorem kd5 : S.kd 5 = some (.int .u8) := rfl
theorem tab9 : S.tab 9 = some ⟨.string, 16, [.str]⟩ := rfl
theorem kd9 : S.kd 9 = some (.string) := rfl
theorem tab12 : S.tab 12 = some ⟨.int .u64, 8, [.int .u64]⟩ := rfl
theorem kd12 : S.kd 12 = some (.int .u64) := rfl
theorem tab21 : S.tab 21 = some ⟨.int .i32, 4, [.int .i32]⟩ := rfl
theorem kd21 : S.kd 21 = some (.int .i32) := rfl
theorem tab22 : S.tab 22 = some ⟨.slice 5, 24, [.slice]⟩ := rfl
theorem kd22 : S.kd 22 = some (.slice 5) := rfl
theorem tab24 : S.tab 24 = some ⟨.slice 2, 24, [.slice]⟩ := rfl
theorem kd24 : S.kd 24 = some (.slice 2) := rfl
theorem tab25 : S.tab 25 = some ⟨.struct [(0, 24)], 24, [.slice]⟩ := rfl
theorem kd25 : S.kd 25 = some (.struct [(0, 24)]) := rfl
theorem tab26 : S.tab 26 = some ⟨.struct [(0, 24)], 24, [.slice]⟩ := rfl
theorem kd26 : S.kd 26 = some (.struct [(0, 24)]) := rfl
theorem tab27 : S.tab 27 = some ⟨.slice 35, 24, [.slice]⟩ := rfl
theorem kd27 : S.kd 27 = some (.slice 35) := rfl
theorem tab28 : S.tab 28 = some ⟨.struct [(0, 26), (1, 27)], 48, [.slice, .slice]⟩ := rfl
theorem kd28 : S.kd 28 = some (.struct [(0, 26), (1, 27)]) := rfl
theorem tab29 : S.tab 29 = some ⟨.struct [(0, 26), (1, 27)], 48, [.slice, .slice]⟩ := rfl
theorem kd29 : S.kd 29 = some (.struct [(0, 26), (1, 27)]) := rfl
theorem tab34 : S.tab 34 = some ⟨.struct [(0, 24), (1, 24)], 48, [.slice, .slice]⟩ := rfl
theorem kd34 : S.kd 34 = some (.struct [(0, 24), (1, 24)]) := rfl
theorem tab35 : S.tab 35 = some ⟨.struct [(0, 24), (1, 24)], 48, [.slice, .slice]⟩ := rfl
theorem kd35 : S.kd 35 = some (.struct [(0, 24), (1, 24)]) := rfl
theorem tab45 : S.tab 45 = some ⟨.other, 8, [.ptr]⟩ := rfl
theorem kd45 : S.kd 45 = some (.other) := rfl
theorem tab59 : S.tab 59 = some ⟨.struct [(0, 26), (1, 24)], 48, [.slice, .slice]⟩ := rfl
theorem kd59 : S.kd 59 = some (.struct [(0, 26), (1, 24)]) := rfl
theorem tab60 : S.tab 60 = some ⟨.struct [(0, 26), (1, 24)], 48, [.slice, .slice]⟩ := rfl
theorem kd60 : S.kd 60 = some (.struct [(0, 26), (1, 24)]) := rfl
theorem tab63 : S.tab 63 = some ⟨.struct [(0, 22), (1, 3), (2, 2)], 40, [.slice, .int .i64, .int .i64]⟩ := rfl
theorem kd63 : S.kd 63 = some (.struct [(0, 22), (1, 3), (2, 2)]) := rfl
theorem tab64 : S.tab 64 = some ⟨.struct [(0, 22), (1, 3), (2, 2)], 40, [.slice, .int .i64, .int .i64]⟩ := rfl
theorem kd64 : S.kd 64 = some (.struct [(0, 22), (1, 3), (2, 2)]) := rfl
theorem tab67 : S.tab 67 = some ⟨.struct [(0, 26), (1, 27)], 48, [.slice, .slice]⟩ := rfl
theorem kd67 : S.kd 67 = some (.struct [(0, 26), (1, 27)]) := rfl
theorem tab68 : S.tab 68 = some ⟨.struct [(0, 26), (1, 27)], 48, [.slice, .slice]⟩ := rfl
theorem kd68 : S.kd 68 = some (.struct [(0, 26), (1, 27)]) := rfl
theorem tab75 : S.tab 75 = some ⟨.slice 24, 24, [.slice]⟩ := rfl
theorem kd75 : S.kd 75 = some (.slice 24) := rfl
theorem tab87 : S.tab 87 = some ⟨.slice 3, 24, [.slice]⟩ := rfl
theorem kd87 : S.kd 87 = some (.slice 3) := rfl
theorem tab100 : S.tab 100 = some ⟨.struct [(0, 26), (1, 24), (2, 3)], 56, [.slice, .slice, .int .i64]⟩ := rfl
theorem kd100 : S.kd 100 = some (.struct [(0, 26), (1, 24), (2, 3)]) := rfl
theorem tab101 : S.tab 101 = some ⟨.struct [(0, 26), (1, 24), (2, 3)], 56, [.slice, .slice, .int .i64]⟩ := rfl
theorem kd101 : S.kd 101 = some (.struct [(0, 26), (1, 24), (2, 3)]) := rfl
theorem tab108 : S.tab 108 = some ⟨.int .u64, 8, [.int .u64]⟩ := rfl
theorem kd108 : S.kd 108 = some (.int .u64) := rfl
theorem tab109 : S.tab 109 = some ⟨.other, 8, [.ptr]⟩ := rfl
theorem kd109 : S.kd 109 = some (.other) := rfl
theorem tab116 : S.tab 116 = some ⟨.int .i64, 8, [.int .i64]⟩ := rfl
theorem kd116 : S.kd 116 = some (.int .i64) := rfl
theorem tab124 : S.tab 124 = some ⟨.int .u32, 4, [.int .u32]⟩ := rfl
theorem kd124 : S.kd 124 = some (.int .u32) := rfl
theorem tab126 : S.tab 126 = some ⟨.int .u64, 8, [.int .u64]⟩ := rfl
theorem kd126 : S.kd 126 = some (.int .u64) := rfl
theorem tab127 : S.tab 127 = some ⟨.int .u64, 8, [.int .u64]⟩ := rfl
theorem kd127 : S.kd 127 = some (.int .u64) := rfl
theorem tab131 : S.tab 131 = some ⟨.other, 8, [.ptr]⟩ := rfl
theorem kd131 : S.kd 131 = some (.other) := rfl
theorem tab133 : S.tab 133 = some ⟨.other, 8, [.ptr]⟩ := rfl
theorem kd133 : S.kd 133 = some (.other) := rfl
theorem tab145 : S.tab 145 = some ⟨.other, 8, [.ptr]⟩ := rfl
theorem kd145 : S.kd 145 = some (.other) := rfl
theorem tab150 : S.tab 150 = some ⟨.other, 8, [.ptr]⟩ := rfl
theorem kd150 : S.kd 150 = some (.other) := rfl
attribute [go_sem] tab2 kd2 tab3 kd3 tab4 kd4 tab5 kd5 tab9 kd9 tab12 kd12 tab21 kd21 tab22 kd22 tab24 kd24 tab25 kd25 tab26 kd26 tab27 kd27 tab28 kd28 tab29 kd29 tab34 kd34 tab35 kd35 tab45 kd45 tab59 kd59 tab60 kd60 tab63 kd63 tab64 kd64 tab67 kd67 tab68 kd68 tab75 kd75 tab87 kd87 tab100 kd100 tab101 kd101 tab108 kd108 tab109 kd109 tab116 kd116 tab124 kd124 tab126 kd126 tab127 kd127 tab131 kd131 tab133 kd133 tab145 kd145 tab150 kd150
end Go.Proofs.Ytfokjjlbdaabaaa

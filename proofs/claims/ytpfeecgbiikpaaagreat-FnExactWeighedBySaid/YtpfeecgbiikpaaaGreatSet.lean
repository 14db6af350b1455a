/-
  The types that the rules ask for, out of the translation; made by mksetup.py. The check against the program is a closed fact.
-/
import Derived.Test.YtpfeecgbiikpaaaGreatProg
import Derived.Test.YtpfeecgbiikpaaaGreatLgK4
import Derived.KernelRfl
namespace Go.Proofs.YtpfeecgbiikpaaaGreat
open Go Go.Lg

def tabL : List (Nat × TyI) := [
  (2, ⟨.int .i64, 8, [.int .i64]⟩),
  (3, ⟨.int .i64, 8, [.int .i64]⟩),
  (4, ⟨.bool, 1, [.bool]⟩),
  (5, ⟨.int .u8, 1, [.int .u8]⟩),
  (9, ⟨.string, 16, [.str]⟩),
  (12, ⟨.int .u64, 8, [.int .u64]⟩),
  (21, ⟨.int .i32, 4, [.int .i32]⟩),
  (22, ⟨.slice 2, 24, [.slice]⟩),
  (23, ⟨.struct [(0, 22)], 24, [.slice]⟩),
  (24, ⟨.struct [(0, 22)], 24, [.slice]⟩),
  (25, ⟨.slice 111, 24, [.slice]⟩),
  (26, ⟨.struct [(0, 24), (1, 25)], 48, [.slice, .slice]⟩),
  (27, ⟨.struct [(0, 24), (1, 25)], 48, [.slice, .slice]⟩),
  (28, ⟨.slice 67, 24, [.slice]⟩),
  (33, ⟨.struct [(0, 22)], 24, [.slice]⟩),
  (34, ⟨.slice 112, 24, [.slice]⟩),
  (35, ⟨.struct [(0, 33), (1, 34)], 48, [.slice, .slice]⟩),
  (36, ⟨.struct [(0, 33), (1, 34)], 48, [.slice, .slice]⟩),
  (39, ⟨.slice 77, 24, [.slice]⟩),
  (51, ⟨.slice 93, 24, [.slice]⟩),
  (54, ⟨.slice 99, 24, [.slice]⟩),
  (66, ⟨.struct [(0, 2), (1, 22)], 32, [.int .i64, .slice]⟩),
  (67, ⟨.struct [(0, 2), (1, 22)], 32, [.int .i64, .slice]⟩),
  (68, ⟨.slice 114, 24, [.slice]⟩),
  (77, ⟨.struct [(0, 2), (1, 22)], 32, [.int .i64, .slice]⟩),
  (92, ⟨.struct [(0, 22), (1, 22), (2, 28), (3, 22)], 96, [.slice, .slice, .slice, .slice]⟩),
  (93, ⟨.struct [(0, 22), (1, 22), (2, 28), (3, 22)], 96, [.slice, .slice, .slice, .slice]⟩),
  (94, ⟨.slice 22, 24, [.slice]⟩),
  (98, ⟨.struct [(0, 22), (1, 22), (2, 39), (3, 22)], 96, [.slice, .slice, .slice, .slice]⟩),
  (99, ⟨.struct [(0, 22), (1, 22), (2, 39), (3, 22)], 96, [.slice, .slice, .slice, .slice]⟩),
  (110, ⟨.struct [(0, 22), (1, 22)], 48, [.slice, .slice]⟩),
  (111, ⟨.struct [(0, 22), (1, 22)], 48, [.slice, .slice]⟩),
  (112, ⟨.struct [(0, 22), (1, 22)], 48, [.slice, .slice]⟩),
  (113, ⟨.struct [(0, 22), (1, 22), (2, 2), (3, 2)], 64, [.slice, .slice, .int .i64, .int .i64]⟩),
  (114, ⟨.struct [(0, 22), (1, 22), (2, 2), (3, 2)], 64, [.slice, .slice, .int .i64, .int .i64]⟩),
  (129, ⟨.slice 4, 24, [.slice]⟩),
  (140, ⟨.slice 129, 24, [.slice]⟩),
  (155, ⟨.other, 8, [.ptr]⟩),
  (156, ⟨.struct [(0, 94)], 24, [.slice]⟩),
  (157, ⟨.struct [(0, 94)], 24, [.slice]⟩),
  (159, ⟨.other, 8, [.ptr]⟩),
  (160, ⟨.array 48 22, 1152, [.slice, .slice, .slice, .slice, .slice, .slice, .slice, .slice, .slice, .slice, .slice, .slice, .slice, .slice, .slice, .slice, .slice, .slice, .slice, .slice, .slice, .slice, .slice, .slice, .slice, .slice, .slice, .slice, .slice, .slice, .slice, .slice, .slice, .slice, .slice, .slice, .slice, .slice, .slice, .slice, .slice, .slice, .slice, .slice, .slice, .slice, .slice, .slice]⟩),
  (161, ⟨.struct [(0, 33), (1, 160)], 1176, [.slice, .slice, .slice, .slice, .slice, .slice, .slice, .slice, .slice, .slice, .slice, .slice, .slice, .slice, .slice, .slice, .slice, .slice, .slice, .slice, .slice, .slice, .slice, .slice, .slice, .slice, .slice, .slice, .slice, .slice, .slice, .slice, .slice, .slice, .slice, .slice, .slice, .slice, .slice, .slice, .slice, .slice, .slice, .slice, .slice, .slice, .slice, .slice, .slice]⟩),
  (162, ⟨.struct [(0, 33), (1, 160)], 1176, [.slice, .slice, .slice, .slice, .slice, .slice, .slice, .slice, .slice, .slice, .slice, .slice, .slice, .slice, .slice, .slice, .slice, .slice, .slice, .slice, .slice, .slice, .slice, .slice, .slice, .slice, .slice, .slice, .slice, .slice, .slice, .slice, .slice, .slice, .slice, .slice, .slice, .slice, .slice, .slice, .slice, .slice, .slice, .slice, .slice, .slice, .slice, .slice, .slice]⟩),
  (165, ⟨.slice 3, 24, [.slice]⟩),
  (172, ⟨.int .u64, 8, [.int .u64]⟩),
  (179, ⟨.struct [], 0, []⟩),
  (180, ⟨.struct [], 0, []⟩),
  (190, ⟨.struct [(0, 2), (1, 22)], 32, [.int .i64, .slice]⟩),
  (191, ⟨.int .u32, 4, [.int .u32]⟩),
  (194, ⟨.int .u64, 8, [.int .u64]⟩),
  (197, ⟨.struct [(0, 33), (1, 22), (2, 3)], 56, [.slice, .slice, .int .i64]⟩),
  (198, ⟨.struct [(0, 33), (1, 22), (2, 3)], 56, [.slice, .slice, .int .i64]⟩),
  (201, ⟨.other, 8, [.ptr]⟩),
  (202, ⟨.array 48 4, 48, [.bool, .bool, .bool, .bool, .bool, .bool, .bool, .bool, .bool, .bool, .bool, .bool, .bool, .bool, .bool, .bool, .bool, .bool, .bool, .bool, .bool, .bool, .bool, .bool, .bool, .bool, .bool, .bool, .bool, .bool, .bool, .bool, .bool, .bool, .bool, .bool, .bool, .bool, .bool, .bool, .bool, .bool, .bool, .bool, .bool, .bool, .bool, .bool]⟩),
  (207, ⟨.other, 8, [.ptr]⟩),
  (218, ⟨.other, 8, [.ptr]⟩),
  (224, ⟨.other, 8, [.ptr]⟩)]
theorem tab_check : (tabL.all fun p => tyCheck Tryz.prog p.1 p.2) = true := by kernel_rfl
theorem mixed : Tryz.prog.follows .mixedOrders = true := by kernel_rfl
noncomputable def S : Setup := { P := Tryz.prog, tab := Lg.look tabL, ok := tabOk tab_check, mixed := mixed }
theorem tab2 : S.tab 2 = some ⟨.int .i64, 8, [.int .i64]⟩ := rfl
theorem kd2 : S.kd 2 = some (.int .i64) := rfl
theorem tab3 : S.tab 3 = some ⟨.int .i64, 8, [.int .i64]⟩ := rfl
theorem kd3 : S.kd 3 = some (.int .i64) := rfl
theorem tab4 : S.tab 4 = some ⟨.bool, 1, [.bool]⟩ := rfl
theorem kd4 : S.kd 4 = some (.bool) := rfl
theorem tab5 : S.tab 5 = some ⟨.int .u8, 1, [.int .u8]⟩ := rfl
theorem kd5 : S.kd 5 = some (.int .u8) := rfl
theorem tab9 : S.tab 9 = some ⟨.string, 16, [.str]⟩ := rfl
theorem kd9 : S.kd 9 = some (.string) := rfl
theorem tab12 : S.tab 12 = some ⟨.int .u64, 8, [.int .u64]⟩ := rfl
theorem kd12 : S.kd 12 = some (.int .u64) := rfl
theorem tab21 : S.tab 21 = some ⟨.int .i32, 4, [.int .i32]⟩ := rfl
theorem kd21 : S.kd 21 = some (.int .i32) := rfl
theorem tab22 : S.tab 22 = some ⟨.slice 2, 24, [.slice]⟩ := rfl
theorem kd22 : S.kd 22 = some (.slice 2) := rfl
theorem tab23 : S.tab 23 = some ⟨.struct [(0, 22)], 24, [.slice]⟩ := rfl
theorem kd23 : S.kd 23 = some (.struct [(0, 22)]) := rfl
theorem tab24 : S.tab 24 = some ⟨.struct [(0, 22)], 24, [.slice]⟩ := rfl
theorem kd24 : S.kd 24 = some (.struct [(0, 22)]) := rfl
theorem tab25 : S.tab 25 = some ⟨.slice 111, 24, [.slice]⟩ := rfl
theorem kd25 : S.kd 25 = some (.slice 111) := rfl
theorem tab26 : S.tab 26 = some ⟨.struct [(0, 24), (1, 25)], 48, [.slice, .slice]⟩ := rfl
theorem kd26 : S.kd 26 = some (.struct [(0, 24), (1, 25)]) := rfl
theorem tab27 : S.tab 27 = some ⟨.struct [(0, 24), (1, 25)], 48, [.slice, .slice]⟩ := rfl
theorem kd27 : S.kd 27 = some (.struct [(0, 24), (1, 25)]) := rfl
theorem tab28 : S.tab 28 = some ⟨.slice 67, 24, [.slice]⟩ := rfl
theorem kd28 : S.kd 28 = some (.slice 67) := rfl
theorem tab33 : S.tab 33 = some ⟨.struct [(0, 22)], 24, [.slice]⟩ := rfl
theorem kd33 : S.kd 33 = some (.struct [(0, 22)]) := rfl
theorem tab34 : S.tab 34 = some ⟨.slice 112, 24, [.slice]⟩ := rfl
theorem kd34 : S.kd 34 = some (.slice 112) := rfl
theorem tab35 : S.tab 35 = some ⟨.struct [(0, 33), (1, 34)], 48, [.slice, .slice]⟩ := rfl
theorem kd35 : S.kd 35 = some (.struct [(0, 33), (1, 34)]) := rfl
theorem tab36 : S.tab 36 = some ⟨.struct [(0, 33), (1, 34)], 48, [.slice, .slice]⟩ := rfl
theorem kd36 : S.kd 36 = some (.struct [(0, 33), (1, 34)]) := rfl
theorem tab39 : S.tab 39 = some ⟨.slice 77, 24, [.slice]⟩ := rfl
theorem kd39 : S.kd 39 = some (.slice 77) := rfl
theorem tab51 : S.tab 51 = some ⟨.slice 93, 24, [.slice]⟩ := rfl
theorem kd51 : S.kd 51 = some (.slice 93) := rfl
theorem tab54 : S.tab 54 = some ⟨.slice 99, 24, [.slice]⟩ := rfl
theorem kd54 : S.kd 54 = some (.slice 99) := rfl
theorem tab66 : S.tab 66 = some ⟨.struct [(0, 2), (1, 22)], 32, [.int .i64, .slice]⟩ := rfl
theorem kd66 : S.kd 66 = some (.struct [(0, 2), (1, 22)]) := rfl
theorem tab67 : S.tab 67 = some ⟨.struct [(0, 2), (1, 22)], 32, [.int .i64, .slice]⟩ := rfl
theorem kd67 : S.kd 67 = some (.struct [(0, 2), (1, 22)]) := rfl
theorem tab68 : S.tab 68 = some ⟨.slice 114, 24, [.slice]⟩ := rfl
theorem kd68 : S.kd 68 = some (.slice 114) := rfl
theorem tab77 : S.tab 77 = some ⟨.struct [(0, 2), (1, 22)], 32, [.int .i64, .slice]⟩ := rfl
theorem kd77 : S.kd 77 = some (.struct [(0, 2), (1, 22)]) := rfl
theorem tab92 : S.tab 92 = some ⟨.struct [(0, 22), (1, 22), (2, 28), (3, 22)], 96, [.slice, .slice, .slice, .slice]⟩ := rfl
theorem kd92 : S.kd 92 = some (.struct [(0, 22), (1, 22), (2, 28), (3, 22)]) := rfl
theorem tab93 : S.tab 93 = some ⟨.struct [(0, 22), (1, 22), (2, 28), (3, 22)], 96, [.slice, .slice, .slice, .slice]⟩ := rfl
theorem kd93 : S.kd 93 = some (.struct [(0, 22), (1, 22), (2, 28), (3, 22)]) := rfl
theorem tab94 : S.tab 94 = some ⟨.slice 22, 24, [.slice]⟩ := rfl
theorem kd94 : S.kd 94 = some (.slice 22) := rfl
theorem tab98 : S.tab 98 = some ⟨.struct [(0, 22), (1, 22), (2, 39), (3, 22)], 96, [.slice, .slice, .slice, .slice]⟩ := rfl
theorem kd98 : S.kd 98 = some (.struct [(0, 22), (1, 22), (2, 39), (3, 22)]) := rfl
theorem tab99 : S.tab 99 = some ⟨.struct [(0, 22), (1, 22), (2, 39), (3, 22)], 96, [.slice, .slice, .slice, .slice]⟩ := rfl
theorem kd99 : S.kd 99 = some (.struct [(0, 22), (1, 22), (2, 39), (3, 22)]) := rfl
theorem tab110 : S.tab 110 = some ⟨.struct [(0, 22), (1, 22)], 48, [.slice, .slice]⟩ := rfl
theorem kd110 : S.kd 110 = some (.struct [(0, 22), (1, 22)]) := rfl
theorem tab111 : S.tab 111 = some ⟨.struct [(0, 22), (1, 22)], 48, [.slice, .slice]⟩ := rfl
theorem kd111 : S.kd 111 = some (.struct [(0, 22), (1, 22)]) := rfl
theorem tab112 : S.tab 112 = some ⟨.struct [(0, 22), (1, 22)], 48, [.slice, .slice]⟩ := rfl
theorem kd112 : S.kd 112 = some (.struct [(0, 22), (1, 22)]) := rfl
theorem tab113 : S.tab 113 = some ⟨.struct [(0, 22), (1, 22), (2, 2), (3, 2)], 64, [.slice, .slice, .int .i64, .int .i64]⟩ := rfl
theorem kd113 : S.kd 113 = some (.struct [(0, 22), (1, 22), (2, 2), (3, 2)]) := rfl
theorem tab114 : S.tab 114 = some ⟨.struct [(0, 22), (1, 22), (2, 2), (3, 2)], 64, [.slice, .slice, .int .i64, .int .i64]⟩ := rfl
theorem kd114 : S.kd 114 = some (.struct [(0, 22), (1, 22), (2, 2), (3, 2)]) := rfl
theorem tab129 : S.tab 129 = some ⟨.slice 4, 24, [.slice]⟩ := rfl
theorem kd129 : S.kd 129 = some (.slice 4) := rfl
theorem tab140 : S.tab 140 = some ⟨.slice 129, 24, [.slice]⟩ := rfl
theorem kd140 : S.kd 140 = some (.slice 129) := rfl
theorem tab155 : S.tab 155 = some ⟨.other, 8, [.ptr]⟩ := rfl
theorem kd155 : S.kd 155 = some (.other) := rfl
theorem tab156 : S.tab 156 = some ⟨.struct [(0, 94)], 24, [.slice]⟩ := rfl
theorem kd156 : S.kd 156 = some (.struct [(0, 94)]) := rfl
theorem tab157 : S.tab 157 = some ⟨.struct [(0, 94)], 24, [.slice]⟩ := rfl
theorem kd157 : S.kd 157 = some (.struct [(0, 94)]) := rfl
theorem tab159 : S.tab 159 = some ⟨.other, 8, [.ptr]⟩ := rfl
theorem kd159 : S.kd 159 = some (.other) := rfl
theorem tab160 : S.tab 160 = some ⟨.array 48 22, 1152, [.slice, .slice, .slice, .slice, .slice, .slice, .slice, .slice, .slice, .slice, .slice, .slice, .slice, .slice, .slice, .slice, .slice, .slice, .slice, .slice, .slice, .slice, .slice, .slice, .slice, .slice, .slice, .slice, .slice, .slice, .slice, .slice, .slice, .slice, .slice, .slice, .slice, .slice, .slice, .slice, .slice, .slice, .slice, .slice, .slice, .slice, .slice, .slice]⟩ := rfl
theorem kd160 : S.kd 160 = some (.array 48 22) := rfl
theorem tab161 : S.tab 161 = some ⟨.struct [(0, 33), (1, 160)], 1176, [.slice, .slice, .slice, .slice, .slice, .slice, .slice, .slice, .slice, .slice, .slice, .slice, .slice, .slice, .slice, .slice, .slice, .slice, .slice, .slice, .slice, .slice, .slice, .slice, .slice, .slice, .slice, .slice, .slice, .slice, .slice, .slice, .slice, .slice, .slice, .slice, .slice, .slice, .slice, .slice, .slice, .slice, .slice, .slice, .slice, .slice, .slice, .slice, .slice]⟩ := rfl
theorem kd161 : S.kd 161 = some (.struct [(0, 33), (1, 160)]) := rfl
theorem tab162 : S.tab 162 = some ⟨.struct [(0, 33), (1, 160)], 1176, [.slice, .slice, .slice, .slice, .slice, .slice, .slice, .slice, .slice, .slice, .slice, .slice, .slice, .slice, .slice, .slice, .slice, .slice, .slice, .slice, .slice, .slice, .slice, .slice, .slice, .slice, .slice, .slice, .slice, .slice, .slice, .slice, .slice, .slice, .slice, .slice, .slice, .slice, .slice, .slice, .slice, .slice, .slice, .slice, .slice, .slice, .slice, .slice, .slice]⟩ := rfl
theorem kd162 : S.kd 162 = some (.struct [(0, 33), (1, 160)]) := rfl
theorem tab165 : S.tab 165 = some ⟨.slice 3, 24, [.slice]⟩ := rfl
theorem kd165 : S.kd 165 = some (.slice 3) := rfl
theorem tab172 : S.tab 172 = some ⟨.int .u64, 8, [.int .u64]⟩ := rfl
theorem kd172 : S.kd 172 = some (.int .u64) := rfl
theorem tab179 : S.tab 179 = some ⟨.struct [], 0, []⟩ := rfl
theorem kd179 : S.kd 179 = some (.struct []) := rfl
theorem tab180 : S.tab 180 = some ⟨.struct [], 0, []⟩ := rfl
theorem kd180 : S.kd 180 = some (.struct []) := rfl
theorem tab190 : S.tab 190 = some ⟨.struct [(0, 2), (1, 22)], 32, [.int .i64, .slice]⟩ := rfl
theorem kd190 : S.kd 190 = some (.struct [(0, 2), (1, 22)]) := rfl
theorem tab191 : S.tab 191 = some ⟨.int .u32, 4, [.int .u32]⟩ := rfl
theorem kd191 : S.kd 191 = some (.int .u32) := rfl
theorem tab194 : S.tab 194 = some ⟨.int .u64, 8, [.int .u64]⟩ := rfl
theorem kd194 : S.kd 194 = some (.int .u64) := rfl
theorem tab197 : S.tab 197 = some ⟨.struct [(0, 33), (1, 22), (2, 3)], 56, [.slice, .slice, .int .i64]⟩ := rfl
theorem kd197 : S.kd 197 = some (.struct [(0, 33), (1, 22), (2, 3)]) := rfl
theorem tab198 : S.tab 198 = some ⟨.struct [(0, 33), (1, 22), (2, 3)], 56, [.slice, .slice, .int .i64]⟩ := rfl
theorem kd198 : S.kd 198 = some (.struct [(0, 33), (1, 22), (2, 3)]) := rfl
theorem tab201 : S.tab 201 = some ⟨.other, 8, [.ptr]⟩ := rfl
theorem kd201 : S.kd 201 = some (.other) := rfl
theorem tab202 : S.tab 202 = some ⟨.array 48 4, 48, [.bool, .bool, .bool, .bool, .bool, .bool, .bool, .bool, .bool, .bool, .bool, .bool, .bool, .bool, .bool, .bool, .bool, .bool, .bool, .bool, .bool, .bool, .bool, .bool, .bool, .bool, .bool, .bool, .bool, .bool, .bool, .bool, .bool, .bool, .bool, .bool, .bool, .bool, .bool, .bool, .bool, .bool, .bool, .bool, .bool, .bool, .bool, .bool]⟩ := rfl
theorem kd202 : S.kd 202 = some (.array 48 4) := rfl
theorem tab207 : S.tab 207 = some ⟨.other, 8, [.ptr]⟩ := rfl
theorem kd207 : S.kd 207 = some (.other) := rfl
theorem tab218 : S.tab 218 = some ⟨.other, 8, [.ptr]⟩ := rfl
theorem kd218 : S.kd 218 = some (.other) := rfl
theorem tab224 : S.tab 224 = some ⟨.other, 8, [.ptr]⟩ := rfl
theorem kd224 : S.kd 224 = some (.other) := rfl
attribute [go_sem] tab2 kd2 tab3 kd3 tab4 kd4 tab5 kd5 tab9 kd9 tab12 kd12 tab21 kd21 tab22 kd22 tab23 kd23 tab24 kd24 tab25 kd25 tab26 kd26 tab27 kd27 tab28 kd28 tab33 kd33 tab34 kd34 tab35 kd35 tab36 kd36 tab39 kd39 tab51 kd51 tab54 kd54 tab66 kd66 tab67 kd67 tab68 kd68 tab77 kd77 tab92 kd92 tab93 kd93 tab94 kd94 tab98 kd98 tab99 kd99 tab110 kd110 tab111 kd111 tab112 kd112 tab113 kd113 tab114 kd114 tab129 kd129 tab140 kd140 tab155 kd155 tab156 kd156 tab157 kd157 tab159 kd159 tab160 kd160 tab161 kd161 tab162 kd162 tab165 kd165 tab172 kd172 tab179 kd179 tab180 kd180 tab190 kd190 tab191 kd191 tab194 kd194 tab197 kd197 tab198 kd198 tab201 kd201 tab202 kd202 tab207 kd207 tab218 kd218 tab224 kd224
end Go.Proofs.YtpfeecgbiikpaaaGreat

/-
  The types that the rules ask for, out of the translation; made by mksetup.py. The check against the program is a closed fact.
-/
import Derived.Test.YtpennhjjnlkbiaaGreatProg
import Derived.Test.YtpennhjjnlkbiaaGreatLgK4
import Derived.KernelRfl
namespace Go.Proofs.YtpennhjjnlkbiaaGreat
open Go Go.Lg

def tabL:List (Nat×TyI):=[
 (2,⟨.int .i64,8,[.int .i64]⟩),
 (3,⟨.int .i64,8,[.int .i64]⟩),
 (4,⟨.bool,1,[.bool]⟩),
 (5,⟨.int .u8,1,[.int .u8]⟩),
 (9,⟨.string,16,[.str]⟩),
 (12,⟨.int .u64,8,[.int .u64]⟩),
 (21,⟨.int .i32,4,[.int .i32]⟩),
 (22,⟨.slice 2,24,[.slice]⟩),
 (23,⟨.struct [(0,22)],24,[.slice]⟩),
 (24,⟨.struct [(0,22)],24,[.slice]⟩),
 (25,⟨.slice 91,24,[.slice]⟩),
 (26,⟨.struct [(0,24),(1,25)],48,[.slice,.slice]⟩),
 (27,⟨.struct [(0,24),(1,25)],48,[.slice,.slice]⟩),
 (29,⟨.slice 71,24,[.slice]⟩),
 (32,⟨.struct [(0,22)],24,[.slice]⟩),
 (33,⟨.slice 92,24,[.slice]⟩),
 (34,⟨.struct [(0,32),(1,33)],48,[.slice,.slice]⟩),
 (35,⟨.struct [(0,32),(1,33)],48,[.slice,.slice]⟩),
 (47,⟨.slice 81,24,[.slice]⟩),
 (54,⟨.slice 94,24,[.slice]⟩),
 (70,⟨.struct [(0,2),(1,22)],32,[.int .i64,.slice]⟩),
 (71,⟨.struct [(0,2),(1,22)],32,[.int .i64,.slice]⟩),
 (76,⟨.slice 22,24,[.slice]⟩),
 (80,⟨.struct [(0,22),(1,22),(2,29),(3,22)],96,[.slice,.slice,.slice,.slice]⟩),
 (81,⟨.struct [(0,22),(1,22),(2,29),(3,22)],96,[.slice,.slice,.slice,.slice]⟩),
 (90,⟨.struct [(0,22),(1,22)],48,[.slice,.slice]⟩),
 (91,⟨.struct [(0,22),(1,22)],48,[.slice,.slice]⟩),
 (92,⟨.struct [(0,22),(1,22)],48,[.slice,.slice]⟩),
 (93,⟨.struct [(0,22),(1,22),(2,2),(3,2)],64,[.slice,.slice,.int .i64,.int .i64]⟩),
 (94,⟨.struct [(0,22),(1,22),(2,2),(3,2)],64,[.slice,.slice,.int .i64,.int .i64]⟩),
 (105,⟨.slice 4,24,[.slice]⟩),
 (117,⟨.slice 105,24,[.slice]⟩),
 (134,⟨.other,8,[.ptr]⟩),
 (135,⟨.struct [(0,76)],24,[.slice]⟩),
 (136,⟨.struct [(0,76)],24,[.slice]⟩),
 (139,⟨.other,8,[.ptr]⟩),
 (140,⟨.array 48 22,1152,[.slice,.slice,.slice,.slice,.slice,.slice,.slice,.slice,.slice,.slice,.slice,.slice,.slice,.slice,.slice,.slice,.slice,.slice,.slice,.slice,.slice,.slice,.slice,.slice,.slice,.slice,.slice,.slice,.slice,.slice,.slice,.slice,.slice,.slice,.slice,.slice,.slice,.slice,.slice,.slice,.slice,.slice,.slice,.slice,.slice,.slice,.slice,.slice]⟩),
 (141,⟨.struct [(0,32),(1,140)],1176,[.slice,.slice,.slice,.slice,.slice,.slice,.slice,.slice,.slice,.slice,.slice,.slice,.slice,.slice,.slice,.slice,.slice,.slice,.slice,.slice,.slice,.slice,.slice,.slice,.slice,.slice,.slice,.slice,.slice,.slice,.slice,.slice,.slice,.slice,.slice,.slice,.slice,.slice,.slice,.slice,.slice,.slice,.slice,.slice,.slice,.slice,.slice,.slice,.slice]⟩),
 (142,⟨.struct [(0,32),(1,140)],1176,[.slice,.slice,.slice,.slice,.slice,.slice,.slice,.slice,.slice,.slice,.slice,.slice,.slice,.slice,.slice,.slice,.slice,.slice,.slice,.slice,.slice,.slice,.slice,.slice,.slice,.slice,.slice,.slice,.slice,.slice,.slice,.slice,.slice,.slice,.slice,.slice,.slice,.slice,.slice,.slice,.slice,.slice,.slice,.slice,.slice,.slice,.slice,.slice,.slice]⟩),
 (145,⟨.slice 3,24,[.slice]⟩),
 (150,⟨.int .u64,8,[.int .u64]⟩),
 (158,⟨.struct [],0,[]⟩),
 (159,⟨.struct [],0,[]⟩),
 (170,⟨.int .u32,4,[.int .u32]⟩),
 (173,⟨.int .u64,8,[.int .u64]⟩),
 (176,⟨.struct [(0,32),(1,22),(2,3)],56,[.slice,.slice,.int .i64]⟩),
 (177,⟨.struct [(0,32),(1,22),(2,3)],56,[.slice,.slice,.int .i64]⟩),
 (180,⟨.other,8,[.ptr]⟩),
 (181,⟨.array 48 4,48,[.bool,.bool,.bool,.bool,.bool,.bool,.bool,.bool,.bool,.bool,.bool,.bool,.bool,.bool,.bool,.bool,.bool,.bool,.bool,.bool,.bool,.bool,.bool,.bool,.bool,.bool,.bool,.bool,.bool,.bool,.bool,.bool,.bool,.bool,.bool,.bool,.bool,.bool,.bool,.bool,.bool,.bool,.bool,.bool,.bool,.bool,.bool,.bool]⟩),
 (183,⟨.struct [(0,2),(1,22)],32,[.int .i64,.slice]⟩),
 (187,⟨.other,8,[.ptr]⟩),
 (200,⟨.other,8,[.ptr]⟩),
 (206,⟨.other,8,[.ptr]⟩)]
theorem tab_check:(tabL.all fun p=>tyCheck Tryz.prog p.1 p.2)=true:=by kernel_rfl
theorem mixed:Tryz.prog.follows .mixedOrders=true:=by kernel_rfl
noncomputable def S:Setup:={P:=Tryz.prog,tab:=Lg.look tabL,ok:=tabOk tab_check,mixed:=mixed}
theorem tab2:S.tab 2=some ⟨.int .i64,8,[.int .i64]⟩:=rfl
theorem kd2:S.kd 2=some (.int .i64):=rfl
theorem tab3:S.tab 3=some ⟨.int .i64,8,[.int .i64]⟩:=rfl
theorem kd3:S.kd 3=some (.int .i64):=rfl
theorem tab4:S.tab 4=some ⟨.bool,1,[.bool]⟩:=rfl
theorem kd4:S.kd 4=some (.bool):=rfl
theorem tab5:S.tab 5=some ⟨.int .u8,1,[.int .u8]⟩:=rfl
theorem kd5:S.kd 5=some (.int .u8):=rfl
theorem tab9:S.tab 9=some ⟨.string,16,[.str]⟩:=rfl
theorem kd9:S.kd 9=some (.string):=rfl
theorem tab12:S.tab 12=some ⟨.int .u64,8,[.int .u64]⟩:=rfl
theorem kd12:S.kd 12=some (.int .u64):=rfl
theorem tab21:S.tab 21=some ⟨.int .i32,4,[.int .i32]⟩:=rfl
theorem kd21:S.kd 21=some (.int .i32):=rfl
theorem tab22:S.tab 22=some ⟨.slice 2,24,[.slice]⟩:=rfl
theorem kd22:S.kd 22=some (.slice 2):=rfl
theorem tab23:S.tab 23=some ⟨.struct [(0,22)],24,[.slice]⟩:=rfl
theorem kd23:S.kd 23=some (.struct [(0,22)]):=rfl
theorem tab24:S.tab 24=some ⟨.struct [(0,22)],24,[.slice]⟩:=rfl
theorem kd24:S.kd 24=some (.struct [(0,22)]):=rfl
theorem tab25:S.tab 25=some ⟨.slice 91,24,[.slice]⟩:=rfl
theorem kd25:S.kd 25=some (.slice 91):=rfl
theorem tab26:S.tab 26=some ⟨.struct [(0,24),(1,25)],48,[.slice,.slice]⟩:=rfl
theorem kd26:S.kd 26=some (.struct [(0,24),(1,25)]):=rfl
theorem tab27:S.tab 27=some ⟨.struct [(0,24),(1,25)],48,[.slice,.slice]⟩:=rfl
theorem kd27:S.kd 27=some (.struct [(0,24),(1,25)]):=rfl
theorem tab29:S.tab 29=some ⟨.slice 71,24,[.slice]⟩:=rfl
theorem kd29:S.kd 29=some (.slice 71):=rfl
theorem tab32:S.tab 32=some ⟨.struct [(0,22)],24,[.slice]⟩:=rfl
theorem kd32:S.kd 32=some (.struct [(0,22)]):=rfl
theorem tab33:S.tab 33=some ⟨.slice 92,24,[.slice]⟩:=rfl
theorem kd33:S.kd 33=some (.slice 92):=rfl
theorem tab34:S.tab 34=some ⟨.struct [(0,32),(1,33)],48,[.slice,.slice]⟩:=rfl
theorem kd34:S.kd 34=some (.struct [(0,32),(1,33)]):=rfl
theorem tab35:S.tab 35=some ⟨.struct [(0,32),(1,33)],48,[.slice,.slice]⟩:=rfl
theorem kd35:S.kd 35=some (.struct [(0,32),(1,33)]):=rfl
theorem tab47:S.tab 47=some ⟨.slice 81,24,[.slice]⟩:=rfl
theorem kd47:S.kd 47=some (.slice 81):=rfl
theorem tab54:S.tab 54=some ⟨.slice 94,24,[.slice]⟩:=rfl
theorem kd54:S.kd 54=some (.slice 94):=rfl
theorem tab70:S.tab 70=some ⟨.struct [(0,2),(1,22)],32,[.int .i64,.slice]⟩:=rfl
theorem kd70:S.kd 70=some (.struct [(0,2),(1,22)]):=rfl
theorem tab71:S.tab 71=some ⟨.struct [(0,2),(1,22)],32,[.int .i64,.slice]⟩:=rfl
theorem kd71:S.kd 71=some (.struct [(0,2),(1,22)]):=rfl
theorem tab76:S.tab 76=some ⟨.slice 22,24,[.slice]⟩:=rfl
theorem kd76:S.kd 76=some (.slice 22):=rfl
theorem tab80:S.tab 80=some ⟨.struct [(0,22),(1,22),(2,29),(3,22)],96,[.slice,.slice,.slice,.slice]⟩:=rfl
theorem kd80:S.kd 80=some (.struct [(0,22),(1,22),(2,29),(3,22)]):=rfl
theorem tab81:S.tab 81=some ⟨.struct [(0,22),(1,22),(2,29),(3,22)],96,[.slice,.slice,.slice,.slice]⟩:=rfl
theorem kd81:S.kd 81=some (.struct [(0,22),(1,22),(2,29),(3,22)]):=rfl
theorem tab90:S.tab 90=some ⟨.struct [(0,22),(1,22)],48,[.slice,.slice]⟩:=rfl
theorem kd90:S.kd 90=some (.struct [(0,22),(1,22)]):=rfl
theorem tab91:S.tab 91=some ⟨.struct [(0,22),(1,22)],48,[.slice,.slice]⟩:=rfl
theorem kd91:S.kd 91=some (.struct [(0,22),(1,22)]):=rfl
theorem tab92:S.tab 92=some ⟨.struct [(0,22),(1,22)],48,[.slice,.slice]⟩:=rfl
theorem kd92:S.kd 92=some (.struct [(0,22),(1,22)]):=rfl
theorem tab93:S.tab 93=some ⟨.struct [(0,22),(1,22),(2,2),(3,2)],64,[.slice,.slice,.int .i64,.int .i64]⟩:=rfl
theorem kd93:S.kd 93=some (.struct [(0,22),(1,22),(2,2),(3,2)]):=rfl
theorem tab94:S.tab 94=some ⟨.struct [(0,22),(1,22),(2,2),(3,2)],64,[.slice,.slice,.int .i64,.int .i64]⟩:=rfl
theorem kd94:S.kd 94=some (.struct [(0,22),(1,22),(2,2),(3,2)]):=rfl
theorem tab105:S.tab 105=some ⟨.slice 4,24,[.slice]⟩:=rfl
theorem kd105:S.kd 105=some (.slice 4):=rfl
theorem tab117:S.tab 117=some ⟨.slice 105,24,[.slice]⟩:=rfl
theorem kd117:S.kd 117=some (.slice 105):=rfl
theorem tab134:S.tab 134=some ⟨.other,8,[.ptr]⟩:=rfl
theorem kd134:S.kd 134=some (.other):=rfl
theorem tab135:S.tab 135=some ⟨.struct [(0,76)],24,[.slice]⟩:=rfl
theorem kd135:S.kd 135=some (.struct [(0,76)]):=rfl
theorem tab136:S.tab 136=some ⟨.struct [(0,76)],24,[.slice]⟩:=rfl
theorem kd136:S.kd 136=some (.struct [(0,76)]):=rfl
theorem tab139:S.tab 139=some ⟨.other,8,[.ptr]⟩:=rfl
theorem kd139:S.kd 139=some (.other):=rfl
theorem tab140:S.tab 140=some ⟨.array 48 22,1152,[.slice,.slice,.slice,.slice,.slice,.slice,.slice,.slice,.slice,.slice,.slice,.slice,.slice,.slice,.slice,.slice,.slice,.slice,.slice,.slice,.slice,.slice,.slice,.slice,.slice,.slice,.slice,.slice,.slice,.slice,.slice,.slice,.slice,.slice,.slice,.slice,.slice,.slice,.slice,.slice,.slice,.slice,.slice,.slice,.slice,.slice,.slice,.slice]⟩:=rfl
theorem kd140:S.kd 140=some (.array 48 22):=rfl
theorem tab141:S.tab 141=some ⟨.struct [(0,32),(1,140)],1176,[.slice,.slice,.slice,.slice,.slice,.slice,.slice,.slice,.slice,.slice,.slice,.slice,.slice,.slice,.slice,.slice,.slice,.slice,.slice,.slice,.slice,.slice,.slice,.slice,.slice,.slice,.slice,.slice,.slice,.slice,.slice,.slice,.slice,.slice,.slice,.slice,.slice,.slice,.slice,.slice,.slice,.slice,.slice,.slice,.slice,.slice,.slice,.slice,.slice]⟩:=rfl
theorem kd141:S.kd 141=some (.struct [(0,32),(1,140)]):=rfl
theorem tab142:S.tab 142=some ⟨.struct [(0,32),(1,140)],1176,[.slice,.slice,.slice,.slice,.slice,.slice,.slice,.slice,.slice,.slice,.slice,.slice,.slice,.slice,.slice,.slice,.slice,.slice,.slice,.slice,.slice,.slice,.slice,.slice,.slice,.slice,.slice,.slice,.slice,.slice,.slice,.slice,.slice,.slice,.slice,.slice,.slice,.slice,.slice,.slice,.slice,.slice,.slice,.slice,.slice,.slice,.slice,.slice,.slice]⟩:=rfl
theorem kd142:S.kd 142=some (.struct [(0,32),(1,140)]):=rfl
theorem tab145:S.tab 145=some ⟨.slice 3,24,[.slice]⟩:=rfl
theorem kd145:S.kd 145=some (.slice 3):=rfl
theorem tab150:S.tab 150=some ⟨.int .u64,8,[.int .u64]⟩:=rfl
theorem kd150:S.kd 150=some (.int .u64):=rfl
theorem tab158:S.tab 158=some ⟨.struct [],0,[]⟩:=rfl
theorem kd158:S.kd 158=some (.struct []):=rfl
theorem tab159:S.tab 159=some ⟨.struct [],0,[]⟩:=rfl
theorem kd159:S.kd 159=some (.struct []):=rfl
theorem tab170:S.tab 170=some ⟨.int .u32,4,[.int .u32]⟩:=rfl
theorem kd170:S.kd 170=some (.int .u32):=rfl
theorem tab173:S.tab 173=some ⟨.int .u64,8,[.int .u64]⟩:=rfl
theorem kd173:S.kd 173=some (.int .u64):=rfl
theorem tab176:S.tab 176=some ⟨.struct [(0,32),(1,22),(2,3)],56,[.slice,.slice,.int .i64]⟩:=rfl
theorem kd176:S.kd 176=some (.struct [(0,32),(1,22),(2,3)]):=rfl
theorem tab177:S.tab 177=some ⟨.struct [(0,32),(1,22),(2,3)],56,[.slice,.slice,.int .i64]⟩:=rfl
theorem kd177:S.kd 177=some (.struct [(0,32),(1,22),(2,3)]):=rfl
theorem tab180:S.tab 180=some ⟨.other,8,[.ptr]⟩:=rfl
theorem kd180:S.kd 180=some (.other):=rfl
theorem tab181:S.tab 181=some ⟨.array 48 4,48,[.bool,.bool,.bool,.bool,.bool,.bool,.bool,.bool,.bool,.bool,.bool,.bool,.bool,.bool,.bool,.bool,.bool,.bool,.bool,.bool,.bool,.bool,.bool,.bool,.bool,.bool,.bool,.bool,.bool,.bool,.bool,.bool,.bool,.bool,.bool,.bool,.bool,.bool,.bool,.bool,.bool,.bool,.bool,.bool,.bool,.bool,.bool,.bool]⟩:=rfl
theorem kd181:S.kd 181=some (.array 48 4):=rfl
theorem tab183:S.tab 183=some ⟨.struct [(0,2),(1,22)],32,[.int .i64,.slice]⟩:=rfl
theorem kd183:S.kd 183=some (.struct [(0,2),(1,22)]):=rfl
theorem tab187:S.tab 187=some ⟨.other,8,[.ptr]⟩:=rfl
theorem kd187:S.kd 187=some (.other):=rfl
theorem tab200:S.tab 200=some ⟨.other,8,[.ptr]⟩:=rfl
theorem kd200:S.kd 200=some (.other):=rfl
theorem tab206:S.tab 206=some ⟨.other,8,[.ptr]⟩:=rfl
theorem kd206:S.kd 206=some (.other):=rfl
attribute [go_sem] tab2 kd2 tab3 kd3 tab4 kd4 tab5 kd5 tab9 kd9 tab12 kd12 tab21 kd21 tab22 kd22 tab23 kd23 tab24 kd24 tab25 kd25 tab26 kd26 tab27 kd27 tab29 kd29 tab32 kd32 tab33 kd33 tab34 kd34 tab35 kd35 tab47 kd47 tab54 kd54 tab70 kd70 tab71 kd71 tab76 kd76 tab80 kd80 tab81 kd81 tab90 kd90 tab91 kd91 tab92 kd92 tab93 kd93 tab94 kd94 tab105 kd105 tab117 kd117 tab134 kd134 tab135 kd135 tab136 kd136 tab139 kd139 tab140 kd140 tab141 kd141 tab142 kd142 tab145 kd145 tab150 kd150 tab158 kd158 tab159 kd159 tab170 kd170 tab173 kd173 tab176 kd176 tab177 kd177 tab180 kd180 tab181 kd181 tab183 kd183 tab187 kd187 tab200 kd200 tab206 kd206
end Go.Proofs.YtpennhjjnlkbiaaGreat

/-
  The types that the rules ask for, out of the translation; made by mksetup.py. The check against the program is a closed fact.
-/
import Derived.Test.YtjaicibmmcpeiaaProg
import Derived.Test.YtjaicibmmcpeiaaLgK5
import Derived.KernelRfl
namespace Go.Proofs.Ytjaicibmmcpeiaa
open Go Go.Lg

def tabL:List (Nat×TyI):=[
 (2,⟨.int .i64,8,[.int .i64]⟩),
 (3,⟨.int .i64,8,[.int .i64]⟩),
 (4,⟨.bool,1,[.bool]⟩),
 (5,⟨.int .u8,1,[.int .u8]⟩),
 (9,⟨.string,16,[.str]⟩),
 (12,⟨.int .u64,8,[.int .u64]⟩),
 (21,⟨.int .i32,4,[.int .i32]⟩),
 (22,⟨.slice 2,24,[.slice]⟩),
 (23,⟨.struct [(0,22)],24,[.slice]⟩),
 (24,⟨.struct [(0,22)],24,[.slice]⟩),
 (25,⟨.slice 124,24,[.slice]⟩),
 (26,⟨.struct [(0,2),(1,25),(2,22)],56,[.int .i64,.slice,.slice]⟩),
 (27,⟨.struct [(0,2),(1,25),(2,22)],56,[.int .i64,.slice,.slice]⟩),
 (30,⟨.slice 85,24,[.slice]⟩),
 (31,⟨.struct [(0,2),(1,30),(2,22)],56,[.int .i64,.slice,.slice]⟩),
 (32,⟨.struct [(0,2),(1,30),(2,22)],56,[.int .i64,.slice,.slice]⟩),
 (35,⟨.struct [(0,22)],24,[.slice]⟩),
 (43,⟨.struct [(0,22),(1,22)],48,[.slice,.slice]⟩),
 (44,⟨.struct [(0,22),(1,22)],48,[.slice,.slice]⟩),
 (46,⟨.struct [(0,22),(1,22)],48,[.slice,.slice]⟩),
 (50,⟨.struct [(0,22),(1,22)],48,[.slice,.slice]⟩),
 (59,⟨.slice 44,24,[.slice]⟩),
 (60,⟨.slice 142,24,[.slice]⟩),
 (61,⟨.struct [(0,24),(1,22),(2,59),(3,60)],96,[.slice,.slice,.slice,.slice]⟩),
 (62,⟨.struct [(0,24),(1,22),(2,59),(3,60)],96,[.slice,.slice,.slice,.slice]⟩),
 (65,⟨.slice 50,24,[.slice]⟩),
 (66,⟨.slice 46,24,[.slice]⟩),
 (67,⟨.struct [(0,35),(1,22),(2,65),(3,66)],96,[.slice,.slice,.slice,.slice]⟩),
 (68,⟨.struct [(0,35),(1,22),(2,65),(3,66)],96,[.slice,.slice,.slice,.slice]⟩),
 (76,⟨.slice 22,24,[.slice]⟩),
 (84,⟨.struct [(0,2),(1,22),(2,2)],40,[.int .i64,.slice,.int .i64]⟩),
 (85,⟨.struct [(0,2),(1,22),(2,2)],40,[.int .i64,.slice,.int .i64]⟩),
 (94,⟨.struct [(0,35),(1,66)],48,[.slice,.slice]⟩),
 (95,⟨.struct [(0,35),(1,66)],48,[.slice,.slice]⟩),
 (104,⟨.slice 109,24,[.slice]⟩),
 (108,⟨.struct [(0,2),(1,2)],16,[.int .i64,.int .i64]⟩),
 (109,⟨.struct [(0,2),(1,2)],16,[.int .i64,.int .i64]⟩),
 (111,⟨.other,8,[.ptr]⟩),
 (112,⟨.array 16 4,16,[.bool,.bool,.bool,.bool,.bool,.bool,.bool,.bool,.bool,.bool,.bool,.bool,.bool,.bool,.bool,.bool]⟩),
 (113,⟨.array 16 112,256,List.replicate 256 (.bool)⟩),
 (117,⟨.array 16 2,128,[.int .i64,.int .i64,.int .i64,.int .i64,.int .i64,.int .i64,.int .i64,.int .i64,.int .i64,.int .i64,.int .i64,.int .i64,.int .i64,.int .i64,.int .i64,.int .i64]⟩),
 (118,⟨.array 16 117,2048,List.replicate 256 (.int .i64)⟩),
 (124,⟨.struct [(0,2),(1,22),(2,2)],40,[.int .i64,.slice,.int .i64]⟩),
 (133,⟨.slice 137,24,[.slice]⟩),
 (136,⟨.int .u32,4,[.int .u32]⟩),
 (137,⟨.int .u32,4,[.int .u32]⟩),
 (142,⟨.struct [(0,22),(1,22)],48,[.slice,.slice]⟩),
 (147,⟨.struct [],0,[]⟩),
 (148,⟨.struct [],0,[]⟩),
 (152,⟨.int .u64,8,[.int .u64]⟩),
 (158,⟨.other,8,[.map]⟩),
 (169,⟨.other,16,[.iface]⟩),
 (170,⟨.other,8,[.ptr]⟩),
 (171,⟨.int .i8,1,[.int .i8]⟩),
 (172,⟨.array 60 171,60,[.int .i8,.int .i8,.int .i8,.int .i8,.int .i8,.int .i8,.int .i8,.int .i8,.int .i8,.int .i8,.int .i8,.int .i8,.int .i8,.int .i8,.int .i8,.int .i8,.int .i8,.int .i8,.int .i8,.int .i8,.int .i8,.int .i8,.int .i8,.int .i8,.int .i8,.int .i8,.int .i8,.int .i8,.int .i8,.int .i8,.int .i8,.int .i8,.int .i8,.int .i8,.int .i8,.int .i8,.int .i8,.int .i8,.int .i8,.int .i8,.int .i8,.int .i8,.int .i8,.int .i8,.int .i8,.int .i8,.int .i8,.int .i8,.int .i8,.int .i8,.int .i8,.int .i8,.int .i8,.int .i8,.int .i8,.int .i8,.int .i8,.int .i8,.int .i8,.int .i8]⟩),
 (178,⟨.int .i64,8,[.int .i64]⟩),
 (186,⟨.int .u64,8,[.int .u64]⟩),
 (190,⟨.struct [(0,35),(1,22),(2,3)],56,[.slice,.slice,.int .i64]⟩),
 (191,⟨.struct [(0,35),(1,22),(2,3)],56,[.slice,.slice,.int .i64]⟩),
 (193,⟨.other,8,[.ptr]⟩),
 (196,⟨.slice 208,24,[.slice]⟩),
 (197,⟨.struct [(0,35),(1,22),(2,22),(3,22),(4,196),(5,196),(6,76)],168,[.slice,.slice,.slice,.slice,.slice,.slice,.slice]⟩),
 (198,⟨.struct [(0,35),(1,22),(2,22),(3,22),(4,196),(5,196),(6,76)],168,[.slice,.slice,.slice,.slice,.slice,.slice,.slice]⟩),
 (199,⟨.int .u64,8,[.int .u64]⟩),
 (203,⟨.other,8,[.ptr]⟩),
 (207,⟨.other,8,[.ptr]⟩),
 (208,⟨.slice 3,24,[.slice]⟩),
 (213,⟨.other,8,[.ptr]⟩),
 (231,⟨.other,8,[.ptr]⟩),
 (237,⟨.other,8,[.ptr]⟩)]
theorem tab_check:(tabL.all fun p=>tyCheck Try.prog p.1 p.2)=true:=by kernel_rfl
theorem mixed:Try.prog.follows .mixedOrders=true:=by kernel_rfl
noncomputable def S:Setup:={P:=Try.prog,tab:=Lg.look tabL,ok:=tabOk tab_check,mixed:=mixed}
theorem tab2:S.tab 2=some ⟨.int .i64,8,[.int .i64]⟩:=rfl
theorem kd2:S.kd 2=some (.int .i64):=rfl
theorem tab3:S.tab 3=some ⟨.int .i64,8,[.int .i64]⟩:=rfl
theorem kd3:S.kd 3=some (.int .i64):=rfl
theorem tab4:S.tab 4=some ⟨.bool,1,[.bool]⟩:=rfl
theorem kd4:S.kd 4=some (.bool):=rfl
theorem tab5:S.tab 5=some ⟨.int .u8,1,[.int .u8]⟩:=rfl
theorem kd5:S.kd 5=some (.int .u8):=rfl
theorem tab9:S.tab 9=some ⟨.string,16,[.str]⟩:=rfl
theorem kd9:S.kd 9=some (.string):=rfl
theorem tab12:S.tab 12=some ⟨.int .u64,8,[.int .u64]⟩:=rfl
theorem kd12:S.kd 12=some (.int .u64):=rfl
theorem tab21:S.tab 21=some ⟨.int .i32,4,[.int .i32]⟩:=rfl
theorem kd21:S.kd 21=some (.int .i32):=rfl
theorem tab22:S.tab 22=some ⟨.slice 2,24,[.slice]⟩:=rfl
theorem kd22:S.kd 22=some (.slice 2):=rfl
theorem tab23:S.tab 23=some ⟨.struct [(0,22)],24,[.slice]⟩:=rfl
theorem kd23:S.kd 23=some (.struct [(0,22)]):=rfl
theorem tab24:S.tab 24=some ⟨.struct [(0,22)],24,[.slice]⟩:=rfl
theorem kd24:S.kd 24=some (.struct [(0,22)]):=rfl
theorem tab25:S.tab 25=some ⟨.slice 124,24,[.slice]⟩:=rfl
theorem kd25:S.kd 25=some (.slice 124):=rfl
theorem tab26:S.tab 26=some ⟨.struct [(0,2),(1,25),(2,22)],56,[.int .i64,.slice,.slice]⟩:=rfl
theorem kd26:S.kd 26=some (.struct [(0,2),(1,25),(2,22)]):=rfl
theorem tab27:S.tab 27=some ⟨.struct [(0,2),(1,25),(2,22)],56,[.int .i64,.slice,.slice]⟩:=rfl
theorem kd27:S.kd 27=some (.struct [(0,2),(1,25),(2,22)]):=rfl
theorem tab30:S.tab 30=some ⟨.slice 85,24,[.slice]⟩:=rfl
theorem kd30:S.kd 30=some (.slice 85):=rfl
theorem tab31:S.tab 31=some ⟨.struct [(0,2),(1,30),(2,22)],56,[.int .i64,.slice,.slice]⟩:=rfl
theorem kd31:S.kd 31=some (.struct [(0,2),(1,30),(2,22)]):=rfl
theorem tab32:S.tab 32=some ⟨.struct [(0,2),(1,30),(2,22)],56,[.int .i64,.slice,.slice]⟩:=rfl
theorem kd32:S.kd 32=some (.struct [(0,2),(1,30),(2,22)]):=rfl
theorem tab35:S.tab 35=some ⟨.struct [(0,22)],24,[.slice]⟩:=rfl
theorem kd35:S.kd 35=some (.struct [(0,22)]):=rfl
theorem tab43:S.tab 43=some ⟨.struct [(0,22),(1,22)],48,[.slice,.slice]⟩:=rfl
theorem kd43:S.kd 43=some (.struct [(0,22),(1,22)]):=rfl
theorem tab44:S.tab 44=some ⟨.struct [(0,22),(1,22)],48,[.slice,.slice]⟩:=rfl
theorem kd44:S.kd 44=some (.struct [(0,22),(1,22)]):=rfl
theorem tab46:S.tab 46=some ⟨.struct [(0,22),(1,22)],48,[.slice,.slice]⟩:=rfl
theorem kd46:S.kd 46=some (.struct [(0,22),(1,22)]):=rfl
theorem tab50:S.tab 50=some ⟨.struct [(0,22),(1,22)],48,[.slice,.slice]⟩:=rfl
theorem kd50:S.kd 50=some (.struct [(0,22),(1,22)]):=rfl
theorem tab59:S.tab 59=some ⟨.slice 44,24,[.slice]⟩:=rfl
theorem kd59:S.kd 59=some (.slice 44):=rfl
theorem tab60:S.tab 60=some ⟨.slice 142,24,[.slice]⟩:=rfl
theorem kd60:S.kd 60=some (.slice 142):=rfl
theorem tab61:S.tab 61=some ⟨.struct [(0,24),(1,22),(2,59),(3,60)],96,[.slice,.slice,.slice,.slice]⟩:=rfl
theorem kd61:S.kd 61=some (.struct [(0,24),(1,22),(2,59),(3,60)]):=rfl
theorem tab62:S.tab 62=some ⟨.struct [(0,24),(1,22),(2,59),(3,60)],96,[.slice,.slice,.slice,.slice]⟩:=rfl
theorem kd62:S.kd 62=some (.struct [(0,24),(1,22),(2,59),(3,60)]):=rfl
theorem tab65:S.tab 65=some ⟨.slice 50,24,[.slice]⟩:=rfl
theorem kd65:S.kd 65=some (.slice 50):=rfl
theorem tab66:S.tab 66=some ⟨.slice 46,24,[.slice]⟩:=rfl
theorem kd66:S.kd 66=some (.slice 46):=rfl
theorem tab67:S.tab 67=some ⟨.struct [(0,35),(1,22),(2,65),(3,66)],96,[.slice,.slice,.slice,.slice]⟩:=rfl
theorem kd67:S.kd 67=some (.struct [(0,35),(1,22),(2,65),(3,66)]):=rfl
theorem tab68:S.tab 68=some ⟨.struct [(0,35),(1,22),(2,65),(3,66)],96,[.slice,.slice,.slice,.slice]⟩:=rfl
theorem kd68:S.kd 68=some (.struct [(0,35),(1,22),(2,65),(3,66)]):=rfl
theorem tab76:S.tab 76=some ⟨.slice 22,24,[.slice]⟩:=rfl
theorem kd76:S.kd 76=some (.slice 22):=rfl
theorem tab84:S.tab 84=some ⟨.struct [(0,2),(1,22),(2,2)],40,[.int .i64,.slice,.int .i64]⟩:=rfl
theorem kd84:S.kd 84=some (.struct [(0,2),(1,22),(2,2)]):=rfl
theorem tab85:S.tab 85=some ⟨.struct [(0,2),(1,22),(2,2)],40,[.int .i64,.slice,.int .i64]⟩:=rfl
theorem kd85:S.kd 85=some (.struct [(0,2),(1,22),(2,2)]):=rfl
theorem tab94:S.tab 94=some ⟨.struct [(0,35),(1,66)],48,[.slice,.slice]⟩:=rfl
theorem kd94:S.kd 94=some (.struct [(0,35),(1,66)]):=rfl
theorem tab95:S.tab 95=some ⟨.struct [(0,35),(1,66)],48,[.slice,.slice]⟩:=rfl
theorem kd95:S.kd 95=some (.struct [(0,35),(1,66)]):=rfl
theorem tab104:S.tab 104=some ⟨.slice 109,24,[.slice]⟩:=rfl
theorem kd104:S.kd 104=some (.slice 109):=rfl
theorem tab108:S.tab 108=some ⟨.struct [(0,2),(1,2)],16,[.int .i64,.int .i64]⟩:=rfl
theorem kd108:S.kd 108=some (.struct [(0,2),(1,2)]):=rfl
theorem tab109:S.tab 109=some ⟨.struct [(0,2),(1,2)],16,[.int .i64,.int .i64]⟩:=rfl
theorem kd109:S.kd 109=some (.struct [(0,2),(1,2)]):=rfl
theorem tab111:S.tab 111=some ⟨.other,8,[.ptr]⟩:=rfl
theorem kd111:S.kd 111=some (.other):=rfl
theorem tab112:S.tab 112=some ⟨.array 16 4,16,[.bool,.bool,.bool,.bool,.bool,.bool,.bool,.bool,.bool,.bool,.bool,.bool,.bool,.bool,.bool,.bool]⟩:=rfl
theorem kd112:S.kd 112=some (.array 16 4):=rfl
theorem tab113:S.tab 113=some ⟨.array 16 112,256,List.replicate 256 (.bool)⟩:=rfl
theorem kd113:S.kd 113=some (.array 16 112):=rfl
theorem tab117:S.tab 117=some ⟨.array 16 2,128,[.int .i64,.int .i64,.int .i64,.int .i64,.int .i64,.int .i64,.int .i64,.int .i64,.int .i64,.int .i64,.int .i64,.int .i64,.int .i64,.int .i64,.int .i64,.int .i64]⟩:=rfl
theorem kd117:S.kd 117=some (.array 16 2):=rfl
theorem tab118:S.tab 118=some ⟨.array 16 117,2048,List.replicate 256 (.int .i64)⟩:=rfl
theorem kd118:S.kd 118=some (.array 16 117):=rfl
theorem tab124:S.tab 124=some ⟨.struct [(0,2),(1,22),(2,2)],40,[.int .i64,.slice,.int .i64]⟩:=rfl
theorem kd124:S.kd 124=some (.struct [(0,2),(1,22),(2,2)]):=rfl
theorem tab133:S.tab 133=some ⟨.slice 137,24,[.slice]⟩:=rfl
theorem kd133:S.kd 133=some (.slice 137):=rfl
theorem tab136:S.tab 136=some ⟨.int .u32,4,[.int .u32]⟩:=rfl
theorem kd136:S.kd 136=some (.int .u32):=rfl
theorem tab137:S.tab 137=some ⟨.int .u32,4,[.int .u32]⟩:=rfl
theorem kd137:S.kd 137=some (.int .u32):=rfl
theorem tab142:S.tab 142=some ⟨.struct [(0,22),(1,22)],48,[.slice,.slice]⟩:=rfl
theorem kd142:S.kd 142=some (.struct [(0,22),(1,22)]):=rfl
theorem tab147:S.tab 147=some ⟨.struct [],0,[]⟩:=rfl
theorem kd147:S.kd 147=some (.struct []):=rfl
theorem tab148:S.tab 148=some ⟨.struct [],0,[]⟩:=rfl
theorem kd148:S.kd 148=some (.struct []):=rfl
theorem tab152:S.tab 152=some ⟨.int .u64,8,[.int .u64]⟩:=rfl
theorem kd152:S.kd 152=some (.int .u64):=rfl
theorem tab158:S.tab 158=some ⟨.other,8,[.map]⟩:=rfl
theorem kd158:S.kd 158=some (.other):=rfl
theorem tab169:S.tab 169=some ⟨.other,16,[.iface]⟩:=rfl
theorem kd169:S.kd 169=some (.other):=rfl
theorem tab170:S.tab 170=some ⟨.other,8,[.ptr]⟩:=rfl
theorem kd170:S.kd 170=some (.other):=rfl
theorem tab171:S.tab 171=some ⟨.int .i8,1,[.int .i8]⟩:=rfl
theorem kd171:S.kd 171=some (.int .i8):=rfl
theorem tab172:S.tab 172=some ⟨.array 60 171,60,[.int .i8,.int .i8,.int .i8,.int .i8,.int .i8,.int .i8,.int .i8,.int .i8,.int .i8,.int .i8,.int .i8,.int .i8,.int .i8,.int .i8,.int .i8,.int .i8,.int .i8,.int .i8,.int .i8,.int .i8,.int .i8,.int .i8,.int .i8,.int .i8,.int .i8,.int .i8,.int .i8,.int .i8,.int .i8,.int .i8,.int .i8,.int .i8,.int .i8,.int .i8,.int .i8,.int .i8,.int .i8,.int .i8,.int .i8,.int .i8,.int .i8,.int .i8,.int .i8,.int .i8,.int .i8,.int .i8,.int .i8,.int .i8,.int .i8,.int .i8,.int .i8,.int .i8,.int .i8,.int .i8,.int .i8,.int .i8,.int .i8,.int .i8,.int .i8,.int .i8]⟩:=rfl
theorem kd172:S.kd 172=some (.array 60 171):=rfl
theorem tab178:S.tab 178=some ⟨.int .i64,8,[.int .i64]⟩:=rfl
theorem kd178:S.kd 178=some (.int .i64):=rfl
theorem tab186:S.tab 186=some ⟨.int .u64,8,[.int .u64]⟩:=rfl
theorem kd186:S.kd 186=some (.int .u64):=rfl
theorem tab190:S.tab 190=some ⟨.struct [(0,35),(1,22),(2,3)],56,[.slice,.slice,.int .i64]⟩:=rfl
theorem kd190:S.kd 190=some (.struct [(0,35),(1,22),(2,3)]):=rfl
theorem tab191:S.tab 191=some ⟨.struct [(0,35),(1,22),(2,3)],56,[.slice,.slice,.int .i64]⟩:=rfl
theorem kd191:S.kd 191=some (.struct [(0,35),(1,22),(2,3)]):=rfl
theorem tab193:S.tab 193=some ⟨.other,8,[.ptr]⟩:=rfl
theorem kd193:S.kd 193=some (.other):=rfl
theorem tab196:S.tab 196=some ⟨.slice 208,24,[.slice]⟩:=rfl
theorem kd196:S.kd 196=some (.slice 208):=rfl
theorem tab197:S.tab 197=some ⟨.struct [(0,35),(1,22),(2,22),(3,22),(4,196),(5,196),(6,76)],168,[.slice,.slice,.slice,.slice,.slice,.slice,.slice]⟩:=rfl
theorem kd197:S.kd 197=some (.struct [(0,35),(1,22),(2,22),(3,22),(4,196),(5,196),(6,76)]):=rfl
theorem tab198:S.tab 198=some ⟨.struct [(0,35),(1,22),(2,22),(3,22),(4,196),(5,196),(6,76)],168,[.slice,.slice,.slice,.slice,.slice,.slice,.slice]⟩:=rfl
theorem kd198:S.kd 198=some (.struct [(0,35),(1,22),(2,22),(3,22),(4,196),(5,196),(6,76)]):=rfl
theorem tab199:S.tab 199=some ⟨.int .u64,8,[.int .u64]⟩:=rfl
theorem kd199:S.kd 199=some (.int .u64):=rfl
theorem tab203:S.tab 203=some ⟨.other,8,[.ptr]⟩:=rfl
theorem kd203:S.kd 203=some (.other):=rfl
theorem tab207:S.tab 207=some ⟨.other,8,[.ptr]⟩:=rfl
theorem kd207:S.kd 207=some (.other):=rfl
theorem tab208:S.tab 208=some ⟨.slice 3,24,[.slice]⟩:=rfl
theorem kd208:S.kd 208=some (.slice 3):=rfl
theorem tab213:S.tab 213=some ⟨.other,8,[.ptr]⟩:=rfl
theorem kd213:S.kd 213=some (.other):=rfl
theorem tab231:S.tab 231=some ⟨.other,8,[.ptr]⟩:=rfl
theorem kd231:S.kd 231=some (.other):=rfl
theorem tab237:S.tab 237=some ⟨.other,8,[.ptr]⟩:=rfl
theorem kd237:S.kd 237=some (.other):=rfl
attribute [go_sem] tab2 kd2 tab3 kd3 tab4 kd4 tab5 kd5 tab9 kd9 tab12 kd12 tab21 kd21 tab22 kd22 tab23 kd23 tab24 kd24 tab25 kd25 tab26 kd26 tab27 kd27 tab30 kd30 tab31 kd31 tab32 kd32 tab35 kd35 tab43 kd43 tab44 kd44 tab46 kd46 tab50 kd50 tab59 kd59 tab60 kd60 tab61 kd61 tab62 kd62 tab65 kd65 tab66 kd66 tab67 kd67 tab68 kd68 tab76 kd76 tab84 kd84 tab85 kd85 tab94 kd94 tab95 kd95 tab104 kd104 tab108 kd108 tab109 kd109 tab111 kd111 tab112 kd112 tab113 kd113 tab117 kd117 tab118 kd118 tab124 kd124 tab133 kd133 tab136 kd136 tab137 kd137 tab142 kd142 tab147 kd147 tab148 kd148 tab152 kd152 tab158 kd158 tab169 kd169 tab170 kd170 tab171 kd171 tab172 kd172 tab178 kd178 tab186 kd186 tab190 kd190 tab191 kd191 tab193 kd193 tab196 kd196 tab197 kd197 tab198 kd198 tab199 kd199 tab203 kd203 tab207 kd207 tab208 kd208 tab213 kd213 tab231 kd231 tab237 kd237
end Go.Proofs.Ytjaicibmmcpeiaa

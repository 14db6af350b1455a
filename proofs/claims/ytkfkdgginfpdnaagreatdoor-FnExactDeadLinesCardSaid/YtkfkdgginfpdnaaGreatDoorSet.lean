/-
  The types that the rules ask for, out of the translation; made by mksetup.py. The check against the program is a closed fact.
-/
import Derived.Test.YtkfkdgginfpdnaaGreatDoorProg
import Derived.Test.YtkfkdgginfpdnaaGreatDoorLgK5
import Derived.KernelRfl
namespace Go.Proofs.YtkfkdgginfpdnaaGreatDoor
open Go Go.Lg

def tabL:List (Nat×TyI):=[
 (2,⟨.int .i64,8,[.int .i64]⟩),
 (3,⟨.int .i64,8,[.int .i64]⟩),
 (4,⟨.bool,1,[.bool]⟩),
 (5,⟨.int .u8,1,[.int .u8]⟩),
 (9,⟨.string,16,[.str]⟩),
 (12,⟨.int .u64,8,[.int .u64]⟩),
 (21,⟨.int .i32,4,[.int .i32]⟩),
 (22,⟨.slice 2,24,[.slice]⟩),
 (23,⟨.struct [(0,22)],24,[.slice]⟩),
 (24,⟨.struct [(0,22)],24,[.slice]⟩),
 (25,⟨.slice 100,24,[.slice]⟩),
 (26,⟨.struct [(0,24),(1,25)],48,[.slice,.slice]⟩),
 (27,⟨.struct [(0,24),(1,25)],48,[.slice,.slice]⟩),
 (30,⟨.struct [(0,22)],24,[.slice]⟩),
 (31,⟨.slice 105,24,[.slice]⟩),
 (32,⟨.struct [(0,30),(1,31)],48,[.slice,.slice]⟩),
 (33,⟨.struct [(0,30),(1,31)],48,[.slice,.slice]⟩),
 (41,⟨.slice 121,24,[.slice]⟩),
 (42,⟨.struct [(0,24),(1,22),(2,41)],72,[.slice,.slice,.slice]⟩),
 (43,⟨.struct [(0,24),(1,22),(2,41)],72,[.slice,.slice,.slice]⟩),
 (46,⟨.slice 124,24,[.slice]⟩),
 (47,⟨.struct [(0,30),(1,22),(2,46)],72,[.slice,.slice,.slice]⟩),
 (48,⟨.struct [(0,30),(1,22),(2,46)],72,[.slice,.slice,.slice]⟩),
 (56,⟨.slice 64,24,[.slice]⟩),
 (57,⟨.struct [(0,2),(1,56),(2,22)],56,[.int .i64,.slice,.slice]⟩),
 (58,⟨.struct [(0,2),(1,56),(2,22)],56,[.int .i64,.slice,.slice]⟩),
 (63,⟨.struct [(0,2),(1,22),(2,2)],40,[.int .i64,.slice,.int .i64]⟩),
 (64,⟨.struct [(0,2),(1,22),(2,2)],40,[.int .i64,.slice,.int .i64]⟩),
 (75,⟨.int .u32,4,[.int .u32]⟩),
 (76,⟨.int .u32,4,[.int .u32]⟩),
 (80,⟨.slice 22,24,[.slice]⟩),
 (83,⟨.slice 4,24,[.slice]⟩),
 (89,⟨.other,8,[.ptr]⟩),
 (99,⟨.struct [(0,22),(1,22)],48,[.slice,.slice]⟩),
 (100,⟨.struct [(0,22),(1,22)],48,[.slice,.slice]⟩),
 (105,⟨.struct [(0,22),(1,22)],48,[.slice,.slice]⟩),
 (115,⟨.slice 76,24,[.slice]⟩),
 (116,⟨.slice 3,24,[.slice]⟩),
 (120,⟨.struct [(0,2),(1,80),(2,22)],56,[.int .i64,.slice,.slice]⟩),
 (121,⟨.struct [(0,2),(1,80),(2,22)],56,[.int .i64,.slice,.slice]⟩),
 (124,⟨.struct [(0,2),(1,80),(2,22)],56,[.int .i64,.slice,.slice]⟩),
 (137,⟨.other,8,[.ptr]⟩),
 (138,⟨.slice 151,24,[.slice]⟩),
 (140,⟨.other,8,[.map]⟩),
 (141,⟨.struct [(0,30),(1,138),(2,138),(3,22),(4,80),(5,140)],128,[.slice,.slice,.slice,.slice,.slice,.map]⟩),
 (142,⟨.struct [(0,30),(1,138),(2,138),(3,22),(4,80),(5,140)],128,[.slice,.slice,.slice,.slice,.slice,.map]⟩),
 (145,⟨.struct [(0,80),(1,56),(2,138)],72,[.slice,.slice,.slice]⟩),
 (146,⟨.struct [(0,80),(1,56),(2,138)],72,[.slice,.slice,.slice]⟩),
 (150,⟨.struct [(0,2),(1,22)],32,[.int .i64,.slice]⟩),
 (151,⟨.struct [(0,2),(1,22)],32,[.int .i64,.slice]⟩),
 (171,⟨.int .u64,8,[.int .u64]⟩),
 (177,⟨.other,16,[.iface]⟩),
 (186,⟨.struct [(0,30),(1,22),(2,3)],56,[.slice,.slice,.int .i64]⟩),
 (187,⟨.struct [(0,30),(1,22),(2,3)],56,[.slice,.slice,.int .i64]⟩),
 (198,⟨.struct [(0,3),(1,9)],24,[.int .i64,.str]⟩),
 (199,⟨.struct [(0,3),(1,9)],24,[.int .i64,.str]⟩),
 (203,⟨.other,8,[.ptr]⟩),
 (207,⟨.int .i64,8,[.int .i64]⟩),
 (215,⟨.int .u64,8,[.int .u64]⟩),
 (222,⟨.int .u64,8,[.int .u64]⟩),
 (226,⟨.other,8,[.ptr]⟩),
 (228,⟨.slice 9,24,[.slice]⟩),
 (231,⟨.other,8,[.ptr]⟩),
 (235,⟨.other,8,[.ptr]⟩),
 (236,⟨.slice 5,24,[.slice]⟩),
 (237,⟨.struct [(0,235),(1,236)],32,[.ptr,.slice]⟩),
 (238,⟨.struct [(0,235),(1,236)],32,[.ptr,.slice]⟩),
 (241,⟨.other,16,[.iface]⟩),
 (245,⟨.other,8,[.ptr]⟩),
 (247,⟨.array 24 5,24,[.int .u8,.int .u8,.int .u8,.int .u8,.int .u8,.int .u8,.int .u8,.int .u8,.int .u8,.int .u8,.int .u8,.int .u8,.int .u8,.int .u8,.int .u8,.int .u8,.int .u8,.int .u8,.int .u8,.int .u8,.int .u8,.int .u8,.int .u8,.int .u8]⟩),
 (251,⟨.other,8,[.ptr]⟩),
 (256,⟨.array 20 215,160,[.int .u64,.int .u64,.int .u64,.int .u64,.int .u64,.int .u64,.int .u64,.int .u64,.int .u64,.int .u64,.int .u64,.int .u64,.int .u64,.int .u64,.int .u64,.int .u64,.int .u64,.int .u64,.int .u64,.int .u64]⟩),
 (257,⟨.array 65 5,65,[.int .u8,.int .u8,.int .u8,.int .u8,.int .u8,.int .u8,.int .u8,.int .u8,.int .u8,.int .u8,.int .u8,.int .u8,.int .u8,.int .u8,.int .u8,.int .u8,.int .u8,.int .u8,.int .u8,.int .u8,.int .u8,.int .u8,.int .u8,.int .u8,.int .u8,.int .u8,.int .u8,.int .u8,.int .u8,.int .u8,.int .u8,.int .u8,.int .u8,.int .u8,.int .u8,.int .u8,.int .u8,.int .u8,.int .u8,.int .u8,.int .u8,.int .u8,.int .u8,.int .u8,.int .u8,.int .u8,.int .u8,.int .u8,.int .u8,.int .u8,.int .u8,.int .u8,.int .u8,.int .u8,.int .u8,.int .u8,.int .u8,.int .u8,.int .u8,.int .u8,.int .u8,.int .u8,.int .u8,.int .u8,.int .u8]⟩),
 (259,⟨.array 32 5,32,[.int .u8,.int .u8,.int .u8,.int .u8,.int .u8,.int .u8,.int .u8,.int .u8,.int .u8,.int .u8,.int .u8,.int .u8,.int .u8,.int .u8,.int .u8,.int .u8,.int .u8,.int .u8,.int .u8,.int .u8,.int .u8,.int .u8,.int .u8,.int .u8,.int .u8,.int .u8,.int .u8,.int .u8,.int .u8,.int .u8,.int .u8,.int .u8]⟩),
 (260,⟨.array 64 5,64,[.int .u8,.int .u8,.int .u8,.int .u8,.int .u8,.int .u8,.int .u8,.int .u8,.int .u8,.int .u8,.int .u8,.int .u8,.int .u8,.int .u8,.int .u8,.int .u8,.int .u8,.int .u8,.int .u8,.int .u8,.int .u8,.int .u8,.int .u8,.int .u8,.int .u8,.int .u8,.int .u8,.int .u8,.int .u8,.int .u8,.int .u8,.int .u8,.int .u8,.int .u8,.int .u8,.int .u8,.int .u8,.int .u8,.int .u8,.int .u8,.int .u8,.int .u8,.int .u8,.int .u8,.int .u8,.int .u8,.int .u8,.int .u8,.int .u8,.int .u8,.int .u8,.int .u8,.int .u8,.int .u8,.int .u8,.int .u8,.int .u8,.int .u8,.int .u8,.int .u8,.int .u8,.int .u8,.int .u8,.int .u8]⟩)]
theorem tab_check:(tabL.all fun p=>tyCheck Tryz.prog p.1 p.2)=true:=by kernel_rfl
theorem mixed:Tryz.prog.follows .mixedOrders=true:=by kernel_rfl
noncomputable def S:Setup:={P:=Tryz.prog,tab:=Lg.look tabL,ok:=tabOk tab_check,mixed:=mixed}
theorem tab2:S.tab 2=some ⟨.int .i64,8,[.int .i64]⟩:=rfl
theorem kd2:S.kd 2=some (.int .i64):=rfl
theorem tab3:S.tab 3=some ⟨.int .i64,8,[.int .i64]⟩:=rfl
theorem kd3:S.kd 3=some (.int .i64):=rfl
theorem tab4:S.tab 4=some ⟨.bool,1,[.bool]⟩:=rfl
theorem kd4:S.kd 4=some (.bool):=rfl
theorem tab5:S.tab 5=some ⟨.int .u8,1,[.int .u8]⟩:=rfl
theorem kd5:S.kd 5=some (.int .u8):=rfl
theorem tab9:S.tab 9=some ⟨.string,16,[.str]⟩:=rfl
theorem kd9:S.kd 9=some (.string):=rfl
theorem tab12:S.tab 12=some ⟨.int .u64,8,[.int .u64]⟩:=rfl
theorem kd12:S.kd 12=some (.int .u64):=rfl
theorem tab21:S.tab 21=some ⟨.int .i32,4,[.int .i32]⟩:=rfl
theorem kd21:S.kd 21=some (.int .i32):=rfl
theorem tab22:S.tab 22=some ⟨.slice 2,24,[.slice]⟩:=rfl
theorem kd22:S.kd 22=some (.slice 2):=rfl
theorem tab23:S.tab 23=some ⟨.struct [(0,22)],24,[.slice]⟩:=rfl
theorem kd23:S.kd 23=some (.struct [(0,22)]):=rfl
theorem tab24:S.tab 24=some ⟨.struct [(0,22)],24,[.slice]⟩:=rfl
theorem kd24:S.kd 24=some (.struct [(0,22)]):=rfl
theorem tab25:S.tab 25=some ⟨.slice 100,24,[.slice]⟩:=rfl
theorem kd25:S.kd 25=some (.slice 100):=rfl
theorem tab26:S.tab 26=some ⟨.struct [(0,24),(1,25)],48,[.slice,.slice]⟩:=rfl
theorem kd26:S.kd 26=some (.struct [(0,24),(1,25)]):=rfl
theorem tab27:S.tab 27=some ⟨.struct [(0,24),(1,25)],48,[.slice,.slice]⟩:=rfl
theorem kd27:S.kd 27=some (.struct [(0,24),(1,25)]):=rfl
theorem tab30:S.tab 30=some ⟨.struct [(0,22)],24,[.slice]⟩:=rfl
theorem kd30:S.kd 30=some (.struct [(0,22)]):=rfl
theorem tab31:S.tab 31=some ⟨.slice 105,24,[.slice]⟩:=rfl
theorem kd31:S.kd 31=some (.slice 105):=rfl
theorem tab32:S.tab 32=some ⟨.struct [(0,30),(1,31)],48,[.slice,.slice]⟩:=rfl
theorem kd32:S.kd 32=some (.struct [(0,30),(1,31)]):=rfl
theorem tab33:S.tab 33=some ⟨.struct [(0,30),(1,31)],48,[.slice,.slice]⟩:=rfl
theorem kd33:S.kd 33=some (.struct [(0,30),(1,31)]):=rfl
theorem tab41:S.tab 41=some ⟨.slice 121,24,[.slice]⟩:=rfl
theorem kd41:S.kd 41=some (.slice 121):=rfl
theorem tab42:S.tab 42=some ⟨.struct [(0,24),(1,22),(2,41)],72,[.slice,.slice,.slice]⟩:=rfl
theorem kd42:S.kd 42=some (.struct [(0,24),(1,22),(2,41)]):=rfl
theorem tab43:S.tab 43=some ⟨.struct [(0,24),(1,22),(2,41)],72,[.slice,.slice,.slice]⟩:=rfl
theorem kd43:S.kd 43=some (.struct [(0,24),(1,22),(2,41)]):=rfl
theorem tab46:S.tab 46=some ⟨.slice 124,24,[.slice]⟩:=rfl
theorem kd46:S.kd 46=some (.slice 124):=rfl
theorem tab47:S.tab 47=some ⟨.struct [(0,30),(1,22),(2,46)],72,[.slice,.slice,.slice]⟩:=rfl
theorem kd47:S.kd 47=some (.struct [(0,30),(1,22),(2,46)]):=rfl
theorem tab48:S.tab 48=some ⟨.struct [(0,30),(1,22),(2,46)],72,[.slice,.slice,.slice]⟩:=rfl
theorem kd48:S.kd 48=some (.struct [(0,30),(1,22),(2,46)]):=rfl
theorem tab56:S.tab 56=some ⟨.slice 64,24,[.slice]⟩:=rfl
theorem kd56:S.kd 56=some (.slice 64):=rfl
theorem tab57:S.tab 57=some ⟨.struct [(0,2),(1,56),(2,22)],56,[.int .i64,.slice,.slice]⟩:=rfl
theorem kd57:S.kd 57=some (.struct [(0,2),(1,56),(2,22)]):=rfl
theorem tab58:S.tab 58=some ⟨.struct [(0,2),(1,56),(2,22)],56,[.int .i64,.slice,.slice]⟩:=rfl
theorem kd58:S.kd 58=some (.struct [(0,2),(1,56),(2,22)]):=rfl
theorem tab63:S.tab 63=some ⟨.struct [(0,2),(1,22),(2,2)],40,[.int .i64,.slice,.int .i64]⟩:=rfl
theorem kd63:S.kd 63=some (.struct [(0,2),(1,22),(2,2)]):=rfl
theorem tab64:S.tab 64=some ⟨.struct [(0,2),(1,22),(2,2)],40,[.int .i64,.slice,.int .i64]⟩:=rfl
theorem kd64:S.kd 64=some (.struct [(0,2),(1,22),(2,2)]):=rfl
theorem tab75:S.tab 75=some ⟨.int .u32,4,[.int .u32]⟩:=rfl
theorem kd75:S.kd 75=some (.int .u32):=rfl
theorem tab76:S.tab 76=some ⟨.int .u32,4,[.int .u32]⟩:=rfl
theorem kd76:S.kd 76=some (.int .u32):=rfl
theorem tab80:S.tab 80=some ⟨.slice 22,24,[.slice]⟩:=rfl
theorem kd80:S.kd 80=some (.slice 22):=rfl
theorem tab83:S.tab 83=some ⟨.slice 4,24,[.slice]⟩:=rfl
theorem kd83:S.kd 83=some (.slice 4):=rfl
theorem tab89:S.tab 89=some ⟨.other,8,[.ptr]⟩:=rfl
theorem kd89:S.kd 89=some (.other):=rfl
theorem tab99:S.tab 99=some ⟨.struct [(0,22),(1,22)],48,[.slice,.slice]⟩:=rfl
theorem kd99:S.kd 99=some (.struct [(0,22),(1,22)]):=rfl
theorem tab100:S.tab 100=some ⟨.struct [(0,22),(1,22)],48,[.slice,.slice]⟩:=rfl
theorem kd100:S.kd 100=some (.struct [(0,22),(1,22)]):=rfl
theorem tab105:S.tab 105=some ⟨.struct [(0,22),(1,22)],48,[.slice,.slice]⟩:=rfl
theorem kd105:S.kd 105=some (.struct [(0,22),(1,22)]):=rfl
theorem tab115:S.tab 115=some ⟨.slice 76,24,[.slice]⟩:=rfl
theorem kd115:S.kd 115=some (.slice 76):=rfl
theorem tab116:S.tab 116=some ⟨.slice 3,24,[.slice]⟩:=rfl
theorem kd116:S.kd 116=some (.slice 3):=rfl
theorem tab120:S.tab 120=some ⟨.struct [(0,2),(1,80),(2,22)],56,[.int .i64,.slice,.slice]⟩:=rfl
theorem kd120:S.kd 120=some (.struct [(0,2),(1,80),(2,22)]):=rfl
theorem tab121:S.tab 121=some ⟨.struct [(0,2),(1,80),(2,22)],56,[.int .i64,.slice,.slice]⟩:=rfl
theorem kd121:S.kd 121=some (.struct [(0,2),(1,80),(2,22)]):=rfl
theorem tab124:S.tab 124=some ⟨.struct [(0,2),(1,80),(2,22)],56,[.int .i64,.slice,.slice]⟩:=rfl
theorem kd124:S.kd 124=some (.struct [(0,2),(1,80),(2,22)]):=rfl
theorem tab137:S.tab 137=some ⟨.other,8,[.ptr]⟩:=rfl
theorem kd137:S.kd 137=some (.other):=rfl
theorem tab138:S.tab 138=some ⟨.slice 151,24,[.slice]⟩:=rfl
theorem kd138:S.kd 138=some (.slice 151):=rfl
theorem tab140:S.tab 140=some ⟨.other,8,[.map]⟩:=rfl
theorem kd140:S.kd 140=some (.other):=rfl
theorem tab141:S.tab 141=some ⟨.struct [(0,30),(1,138),(2,138),(3,22),(4,80),(5,140)],128,[.slice,.slice,.slice,.slice,.slice,.map]⟩:=rfl
theorem kd141:S.kd 141=some (.struct [(0,30),(1,138),(2,138),(3,22),(4,80),(5,140)]):=rfl
theorem tab142:S.tab 142=some ⟨.struct [(0,30),(1,138),(2,138),(3,22),(4,80),(5,140)],128,[.slice,.slice,.slice,.slice,.slice,.map]⟩:=rfl
theorem kd142:S.kd 142=some (.struct [(0,30),(1,138),(2,138),(3,22),(4,80),(5,140)]):=rfl
theorem tab145:S.tab 145=some ⟨.struct [(0,80),(1,56),(2,138)],72,[.slice,.slice,.slice]⟩:=rfl
theorem kd145:S.kd 145=some (.struct [(0,80),(1,56),(2,138)]):=rfl
theorem tab146:S.tab 146=some ⟨.struct [(0,80),(1,56),(2,138)],72,[.slice,.slice,.slice]⟩:=rfl
theorem kd146:S.kd 146=some (.struct [(0,80),(1,56),(2,138)]):=rfl
theorem tab150:S.tab 150=some ⟨.struct [(0,2),(1,22)],32,[.int .i64,.slice]⟩:=rfl
theorem kd150:S.kd 150=some (.struct [(0,2),(1,22)]):=rfl
theorem tab151:S.tab 151=some ⟨.struct [(0,2),(1,22)],32,[.int .i64,.slice]⟩:=rfl
theorem kd151:S.kd 151=some (.struct [(0,2),(1,22)]):=rfl
theorem tab171:S.tab 171=some ⟨.int .u64,8,[.int .u64]⟩:=rfl
theorem kd171:S.kd 171=some (.int .u64):=rfl
theorem tab177:S.tab 177=some ⟨.other,16,[.iface]⟩:=rfl
theorem kd177:S.kd 177=some (.other):=rfl
theorem tab186:S.tab 186=some ⟨.struct [(0,30),(1,22),(2,3)],56,[.slice,.slice,.int .i64]⟩:=rfl
theorem kd186:S.kd 186=some (.struct [(0,30),(1,22),(2,3)]):=rfl
theorem tab187:S.tab 187=some ⟨.struct [(0,30),(1,22),(2,3)],56,[.slice,.slice,.int .i64]⟩:=rfl
theorem kd187:S.kd 187=some (.struct [(0,30),(1,22),(2,3)]):=rfl
theorem tab198:S.tab 198=some ⟨.struct [(0,3),(1,9)],24,[.int .i64,.str]⟩:=rfl
theorem kd198:S.kd 198=some (.struct [(0,3),(1,9)]):=rfl
theorem tab199:S.tab 199=some ⟨.struct [(0,3),(1,9)],24,[.int .i64,.str]⟩:=rfl
theorem kd199:S.kd 199=some (.struct [(0,3),(1,9)]):=rfl
theorem tab203:S.tab 203=some ⟨.other,8,[.ptr]⟩:=rfl
theorem kd203:S.kd 203=some (.other):=rfl
theorem tab207:S.tab 207=some ⟨.int .i64,8,[.int .i64]⟩:=rfl
theorem kd207:S.kd 207=some (.int .i64):=rfl
theorem tab215:S.tab 215=some ⟨.int .u64,8,[.int .u64]⟩:=rfl
theorem kd215:S.kd 215=some (.int .u64):=rfl
theorem tab222:S.tab 222=some ⟨.int .u64,8,[.int .u64]⟩:=rfl
theorem kd222:S.kd 222=some (.int .u64):=rfl
theorem tab226:S.tab 226=some ⟨.other,8,[.ptr]⟩:=rfl
theorem kd226:S.kd 226=some (.other):=rfl
theorem tab228:S.tab 228=some ⟨.slice 9,24,[.slice]⟩:=rfl
theorem kd228:S.kd 228=some (.slice 9):=rfl
theorem tab231:S.tab 231=some ⟨.other,8,[.ptr]⟩:=rfl
theorem kd231:S.kd 231=some (.other):=rfl
theorem tab235:S.tab 235=some ⟨.other,8,[.ptr]⟩:=rfl
theorem kd235:S.kd 235=some (.other):=rfl
theorem tab236:S.tab 236=some ⟨.slice 5,24,[.slice]⟩:=rfl
theorem kd236:S.kd 236=some (.slice 5):=rfl
theorem tab237:S.tab 237=some ⟨.struct [(0,235),(1,236)],32,[.ptr,.slice]⟩:=rfl
theorem kd237:S.kd 237=some (.struct [(0,235),(1,236)]):=rfl
theorem tab238:S.tab 238=some ⟨.struct [(0,235),(1,236)],32,[.ptr,.slice]⟩:=rfl
theorem kd238:S.kd 238=some (.struct [(0,235),(1,236)]):=rfl
theorem tab241:S.tab 241=some ⟨.other,16,[.iface]⟩:=rfl
theorem kd241:S.kd 241=some (.other):=rfl
theorem tab245:S.tab 245=some ⟨.other,8,[.ptr]⟩:=rfl
theorem kd245:S.kd 245=some (.other):=rfl
theorem tab247:S.tab 247=some ⟨.array 24 5,24,[.int .u8,.int .u8,.int .u8,.int .u8,.int .u8,.int .u8,.int .u8,.int .u8,.int .u8,.int .u8,.int .u8,.int .u8,.int .u8,.int .u8,.int .u8,.int .u8,.int .u8,.int .u8,.int .u8,.int .u8,.int .u8,.int .u8,.int .u8,.int .u8]⟩:=rfl
theorem kd247:S.kd 247=some (.array 24 5):=rfl
theorem tab251:S.tab 251=some ⟨.other,8,[.ptr]⟩:=rfl
theorem kd251:S.kd 251=some (.other):=rfl
theorem tab256:S.tab 256=some ⟨.array 20 215,160,[.int .u64,.int .u64,.int .u64,.int .u64,.int .u64,.int .u64,.int .u64,.int .u64,.int .u64,.int .u64,.int .u64,.int .u64,.int .u64,.int .u64,.int .u64,.int .u64,.int .u64,.int .u64,.int .u64,.int .u64]⟩:=rfl
theorem kd256:S.kd 256=some (.array 20 215):=rfl
theorem tab257:S.tab 257=some ⟨.array 65 5,65,[.int .u8,.int .u8,.int .u8,.int .u8,.int .u8,.int .u8,.int .u8,.int .u8,.int .u8,.int .u8,.int .u8,.int .u8,.int .u8,.int .u8,.int .u8,.int .u8,.int .u8,.int .u8,.int .u8,.int .u8,.int .u8,.int .u8,.int .u8,.int .u8,.int .u8,.int .u8,.int .u8,.int .u8,.int .u8,.int .u8,.int .u8,.int .u8,.int .u8,.int .u8,.int .u8,.int .u8,.int .u8,.int .u8,.int .u8,.int .u8,.int .u8,.int .u8,.int .u8,.int .u8,.int .u8,.int .u8,.int .u8,.int .u8,.int .u8,.int .u8,.int .u8,.int .u8,.int .u8,.int .u8,.int .u8,.int .u8,.int .u8,.int .u8,.int .u8,.int .u8,.int .u8,.int .u8,.int .u8,.int .u8,.int .u8]⟩:=rfl
theorem kd257:S.kd 257=some (.array 65 5):=rfl
theorem tab259:S.tab 259=some ⟨.array 32 5,32,[.int .u8,.int .u8,.int .u8,.int .u8,.int .u8,.int .u8,.int .u8,.int .u8,.int .u8,.int .u8,.int .u8,.int .u8,.int .u8,.int .u8,.int .u8,.int .u8,.int .u8,.int .u8,.int .u8,.int .u8,.int .u8,.int .u8,.int .u8,.int .u8,.int .u8,.int .u8,.int .u8,.int .u8,.int .u8,.int .u8,.int .u8,.int .u8]⟩:=rfl
theorem kd259:S.kd 259=some (.array 32 5):=rfl
theorem tab260:S.tab 260=some ⟨.array 64 5,64,[.int .u8,.int .u8,.int .u8,.int .u8,.int .u8,.int .u8,.int .u8,.int .u8,.int .u8,.int .u8,.int .u8,.int .u8,.int .u8,.int .u8,.int .u8,.int .u8,.int .u8,.int .u8,.int .u8,.int .u8,.int .u8,.int .u8,.int .u8,.int .u8,.int .u8,.int .u8,.int .u8,.int .u8,.int .u8,.int .u8,.int .u8,.int .u8,.int .u8,.int .u8,.int .u8,.int .u8,.int .u8,.int .u8,.int .u8,.int .u8,.int .u8,.int .u8,.int .u8,.int .u8,.int .u8,.int .u8,.int .u8,.int .u8,.int .u8,.int .u8,.int .u8,.int .u8,.int .u8,.int .u8,.int .u8,.int .u8,.int .u8,.int .u8,.int .u8,.int .u8,.int .u8,.int .u8,.int .u8,.int .u8]⟩:=rfl
theorem kd260:S.kd 260=some (.array 64 5):=rfl
attribute [go_sem] tab2 kd2 tab3 kd3 tab4 kd4 tab5 kd5 tab9 kd9 tab12 kd12 tab21 kd21 tab22 kd22 tab23 kd23 tab24 kd24 tab25 kd25 tab26 kd26 tab27 kd27 tab30 kd30 tab31 kd31 tab32 kd32 tab33 kd33 tab41 kd41 tab42 kd42 tab43 kd43 tab46 kd46 tab47 kd47 tab48 kd48 tab56 kd56 tab57 kd57 tab58 kd58 tab63 kd63 tab64 kd64 tab75 kd75 tab76 kd76 tab80 kd80 tab83 kd83 tab89 kd89 tab99 kd99 tab100 kd100 tab105 kd105 tab115 kd115 tab116 kd116 tab120 kd120 tab121 kd121 tab124 kd124 tab137 kd137 tab138 kd138 tab140 kd140 tab141 kd141 tab142 kd142 tab145 kd145 tab146 kd146 tab150 kd150 tab151 kd151 tab171 kd171 tab177 kd177 tab186 kd186 tab187 kd187 tab198 kd198 tab199 kd199 tab203 kd203 tab207 kd207 tab215 kd215 tab222 kd222 tab226 kd226 tab228 kd228 tab231 kd231 tab235 kd235 tab236 kd236 tab237 kd237 tab238 kd238 tab241 kd241 tab245 kd245 tab247 kd247 tab251 kd251 tab256 kd256 tab257 kd257 tab259 kd259 tab260 kd260
end Go.Proofs.YtkfkdgginfpdnaaGreatDoor

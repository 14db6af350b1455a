/-
  The types that the rules ask for, out of the translation; made by mksetup.py. The check against the program is a closed fact.
-/
import Derived.Test.YtohnfgligddanaaGreatProg
import Derived.Test.YtohnfgligddanaaGreatLgK4
import Derived.KernelRfl
namespace Go.Proofs.YtohnfgligddanaaGreat
open Go Go.Lg

def tabL:List (Nat×TyI):=[
 (2,⟨.int .i64,8,[.int .i64]⟩),
 (3,⟨.int .i64,8,[.int .i64]⟩),
 (4,⟨.bool,1,[.bool]⟩),
 (5,⟨.int .u8,1,[.int .u8]⟩),
 (9,⟨.string,16,[.str]⟩),
 (12,⟨.int .u64,8,[.int .u64]⟩),
 (21,⟨.int .i32,4,[.int .i32]⟩),
 (22,⟨.slice 2,24,[.slice]⟩),
 (23,⟨.struct [(0,22)],24,[.slice]⟩),
 (24,⟨.struct [(0,22)],24,[.slice]⟩),
 (25,⟨.slice 72,24,[.slice]⟩),
 (26,⟨.struct [(0,24),(1,25)],48,[.slice,.slice]⟩),
 (27,⟨.struct [(0,24),(1,25)],48,[.slice,.slice]⟩),
 (28,⟨.slice 47,24,[.slice]⟩),
 (32,⟨.struct [(0,22)],24,[.slice]⟩),
 (33,⟨.slice 75,24,[.slice]⟩),
 (34,⟨.struct [(0,32),(1,33)],48,[.slice,.slice]⟩),
 (35,⟨.struct [(0,32),(1,33)],48,[.slice,.slice]⟩),
 (37,⟨.slice 58,24,[.slice]⟩),
 (45,⟨.slice 97,24,[.slice]⟩),
 (46,⟨.struct [(0,22),(1,22),(2,45),(3,22)],96,[.slice,.slice,.slice,.slice]⟩),
 (47,⟨.struct [(0,22),(1,22),(2,45),(3,22)],96,[.slice,.slice,.slice,.slice]⟩),
 (48,⟨.slice 77,24,[.slice]⟩),
 (51,⟨.slice 22,24,[.slice]⟩),
 (56,⟨.slice 112,24,[.slice]⟩),
 (57,⟨.struct [(0,22),(1,22),(2,56),(3,22)],96,[.slice,.slice,.slice,.slice]⟩),
 (58,⟨.struct [(0,22),(1,22),(2,56),(3,22)],96,[.slice,.slice,.slice,.slice]⟩),
 (71,⟨.struct [(0,22),(1,22)],48,[.slice,.slice]⟩),
 (72,⟨.struct [(0,22),(1,22)],48,[.slice,.slice]⟩),
 (75,⟨.struct [(0,22),(1,22)],48,[.slice,.slice]⟩),
 (76,⟨.struct [(0,22),(1,22),(2,2),(3,2)],64,[.slice,.slice,.int .i64,.int .i64]⟩),
 (77,⟨.struct [(0,22),(1,22),(2,2),(3,2)],64,[.slice,.slice,.int .i64,.int .i64]⟩),
 (96,⟨.struct [(0,2),(1,22)],32,[.int .i64,.slice]⟩),
 (97,⟨.struct [(0,2),(1,22)],32,[.int .i64,.slice]⟩),
 (104,⟨.other,8,[.ptr]⟩),
 (105,⟨.struct [(0,51)],24,[.slice]⟩),
 (106,⟨.struct [(0,51)],24,[.slice]⟩),
 (112,⟨.struct [(0,2),(1,22)],32,[.int .i64,.slice]⟩),
 (115,⟨.slice 116,24,[.slice]⟩),
 (116,⟨.slice 4,24,[.slice]⟩),
 (131,⟨.other,8,[.ptr]⟩),
 (132,⟨.array 48 22,1152,[.slice,.slice,.slice,.slice,.slice,.slice,.slice,.slice,.slice,.slice,.slice,.slice,.slice,.slice,.slice,.slice,.slice,.slice,.slice,.slice,.slice,.slice,.slice,.slice,.slice,.slice,.slice,.slice,.slice,.slice,.slice,.slice,.slice,.slice,.slice,.slice,.slice,.slice,.slice,.slice,.slice,.slice,.slice,.slice,.slice,.slice,.slice,.slice]⟩),
 (133,⟨.struct [(0,32),(1,132)],1176,[.slice,.slice,.slice,.slice,.slice,.slice,.slice,.slice,.slice,.slice,.slice,.slice,.slice,.slice,.slice,.slice,.slice,.slice,.slice,.slice,.slice,.slice,.slice,.slice,.slice,.slice,.slice,.slice,.slice,.slice,.slice,.slice,.slice,.slice,.slice,.slice,.slice,.slice,.slice,.slice,.slice,.slice,.slice,.slice,.slice,.slice,.slice,.slice,.slice]⟩),
 (134,⟨.struct [(0,32),(1,132)],1176,[.slice,.slice,.slice,.slice,.slice,.slice,.slice,.slice,.slice,.slice,.slice,.slice,.slice,.slice,.slice,.slice,.slice,.slice,.slice,.slice,.slice,.slice,.slice,.slice,.slice,.slice,.slice,.slice,.slice,.slice,.slice,.slice,.slice,.slice,.slice,.slice,.slice,.slice,.slice,.slice,.slice,.slice,.slice,.slice,.slice,.slice,.slice,.slice,.slice]⟩),
 (136,⟨.slice 3,24,[.slice]⟩),
 (148,⟨.struct [],0,[]⟩),
 (149,⟨.struct [],0,[]⟩),
 (157,⟨.struct [(0,32),(1,22),(2,3)],56,[.slice,.slice,.int .i64]⟩),
 (158,⟨.struct [(0,32),(1,22),(2,3)],56,[.slice,.slice,.int .i64]⟩),
 (162,⟨.other,8,[.ptr]⟩),
 (163,⟨.array 48 4,48,[.bool,.bool,.bool,.bool,.bool,.bool,.bool,.bool,.bool,.bool,.bool,.bool,.bool,.bool,.bool,.bool,.bool,.bool,.bool,.bool,.bool,.bool,.bool,.bool,.bool,.bool,.bool,.bool,.bool,.bool,.bool,.bool,.bool,.bool,.bool,.bool,.bool,.bool,.bool,.bool,.bool,.bool,.bool,.bool,.bool,.bool,.bool,.bool]⟩),
 (165,⟨.struct [(0,2),(1,22)],32,[.int .i64,.slice]⟩),
 (167,⟨.other,8,[.ptr]⟩),
 (177,⟨.int .u32,4,[.int .u32]⟩),
 (181,⟨.other,8,[.ptr]⟩),
 (187,⟨.other,8,[.ptr]⟩)]
theorem tab_check:(tabL.all fun p=>tyCheck Tryz.prog p.1 p.2)=true:=by kernel_rfl
theorem mixed:Tryz.prog.follows .mixedOrders=true:=by kernel_rfl
noncomputable def S:Setup:={P:=Tryz.prog,tab:=Lg.look tabL,ok:=tabOk tab_check,mixed:=mixed}
theorem tab2:S.tab 2=some ⟨.int .i64,8,[.int .i64]⟩:=rfl
theorem kd2:S.kd 2=some (.int .i64):=rfl
theorem tab3:S.tab 3=some ⟨.int .i64,8,[.int .i64]⟩:=rfl
theorem kd3:S.kd 3=some (.int .i64):=rfl
theorem tab4:S.tab 4=some ⟨.bool,1,[.bool]⟩:=rfl
theorem kd4:S.kd 4=some (.bool):=rfl
theorem tab5:S.tab 5=some ⟨.int .u8,1,[.int .u8]⟩:=rfl
theorem kd5:S.kd 5=some (.int .u8):=rfl
theorem tab9:S.tab 9=some ⟨.string,16,[.str]⟩:=rfl
theorem kd9:S.kd 9=some (.string):=rfl
theorem tab12:S.tab 12=some ⟨.int .u64,8,[.int .u64]⟩:=rfl
theorem kd12:S.kd 12=some (.int .u64):=rfl
theorem tab21:S.tab 21=some ⟨.int .i32,4,[.int .i32]⟩:=rfl
theorem kd21:S.kd 21=some (.int .i32):=rfl
theorem tab22:S.tab 22=some ⟨.slice 2,24,[.slice]⟩:=rfl
theorem kd22:S.kd 22=some (.slice 2):=rfl
theorem tab23:S.tab 23=some ⟨.struct [(0,22)],24,[.slice]⟩:=rfl
theorem kd23:S.kd 23=some (.struct [(0,22)]):=rfl
theorem tab24:S.tab 24=some ⟨.struct [(0,22)],24,[.slice]⟩:=rfl
theorem kd24:S.kd 24=some (.struct [(0,22)]):=rfl
theorem tab25:S.tab 25=some ⟨.slice 72,24,[.slice]⟩:=rfl
theorem kd25:S.kd 25=some (.slice 72):=rfl
theorem tab26:S.tab 26=some ⟨.struct [(0,24),(1,25)],48,[.slice,.slice]⟩:=rfl
theorem kd26:S.kd 26=some (.struct [(0,24),(1,25)]):=rfl
theorem tab27:S.tab 27=some ⟨.struct [(0,24),(1,25)],48,[.slice,.slice]⟩:=rfl
theorem kd27:S.kd 27=some (.struct [(0,24),(1,25)]):=rfl
theorem tab28:S.tab 28=some ⟨.slice 47,24,[.slice]⟩:=rfl
theorem kd28:S.kd 28=some (.slice 47):=rfl
theorem tab32:S.tab 32=some ⟨.struct [(0,22)],24,[.slice]⟩:=rfl
theorem kd32:S.kd 32=some (.struct [(0,22)]):=rfl
theorem tab33:S.tab 33=some ⟨.slice 75,24,[.slice]⟩:=rfl
theorem kd33:S.kd 33=some (.slice 75):=rfl
theorem tab34:S.tab 34=some ⟨.struct [(0,32),(1,33)],48,[.slice,.slice]⟩:=rfl
theorem kd34:S.kd 34=some (.struct [(0,32),(1,33)]):=rfl
theorem tab35:S.tab 35=some ⟨.struct [(0,32),(1,33)],48,[.slice,.slice]⟩:=rfl
theorem kd35:S.kd 35=some (.struct [(0,32),(1,33)]):=rfl
theorem tab37:S.tab 37=some ⟨.slice 58,24,[.slice]⟩:=rfl
theorem kd37:S.kd 37=some (.slice 58):=rfl
theorem tab45:S.tab 45=some ⟨.slice 97,24,[.slice]⟩:=rfl
theorem kd45:S.kd 45=some (.slice 97):=rfl
theorem tab46:S.tab 46=some ⟨.struct [(0,22),(1,22),(2,45),(3,22)],96,[.slice,.slice,.slice,.slice]⟩:=rfl
theorem kd46:S.kd 46=some (.struct [(0,22),(1,22),(2,45),(3,22)]):=rfl
theorem tab47:S.tab 47=some ⟨.struct [(0,22),(1,22),(2,45),(3,22)],96,[.slice,.slice,.slice,.slice]⟩:=rfl
theorem kd47:S.kd 47=some (.struct [(0,22),(1,22),(2,45),(3,22)]):=rfl
theorem tab48:S.tab 48=some ⟨.slice 77,24,[.slice]⟩:=rfl
theorem kd48:S.kd 48=some (.slice 77):=rfl
theorem tab51:S.tab 51=some ⟨.slice 22,24,[.slice]⟩:=rfl
theorem kd51:S.kd 51=some (.slice 22):=rfl
theorem tab56:S.tab 56=some ⟨.slice 112,24,[.slice]⟩:=rfl
theorem kd56:S.kd 56=some (.slice 112):=rfl
theorem tab57:S.tab 57=some ⟨.struct [(0,22),(1,22),(2,56),(3,22)],96,[.slice,.slice,.slice,.slice]⟩:=rfl
theorem kd57:S.kd 57=some (.struct [(0,22),(1,22),(2,56),(3,22)]):=rfl
theorem tab58:S.tab 58=some ⟨.struct [(0,22),(1,22),(2,56),(3,22)],96,[.slice,.slice,.slice,.slice]⟩:=rfl
theorem kd58:S.kd 58=some (.struct [(0,22),(1,22),(2,56),(3,22)]):=rfl
theorem tab71:S.tab 71=some ⟨.struct [(0,22),(1,22)],48,[.slice,.slice]⟩:=rfl
theorem kd71:S.kd 71=some (.struct [(0,22),(1,22)]):=rfl
theorem tab72:S.tab 72=some ⟨.struct [(0,22),(1,22)],48,[.slice,.slice]⟩:=rfl
theorem kd72:S.kd 72=some (.struct [(0,22),(1,22)]):=rfl
theorem tab75:S.tab 75=some ⟨.struct [(0,22),(1,22)],48,[.slice,.slice]⟩:=rfl
theorem kd75:S.kd 75=some (.struct [(0,22),(1,22)]):=rfl
theorem tab76:S.tab 76=some ⟨.struct [(0,22),(1,22),(2,2),(3,2)],64,[.slice,.slice,.int .i64,.int .i64]⟩:=rfl
theorem kd76:S.kd 76=some (.struct [(0,22),(1,22),(2,2),(3,2)]):=rfl
theorem tab77:S.tab 77=some ⟨.struct [(0,22),(1,22),(2,2),(3,2)],64,[.slice,.slice,.int .i64,.int .i64]⟩:=rfl
theorem kd77:S.kd 77=some (.struct [(0,22),(1,22),(2,2),(3,2)]):=rfl
theorem tab96:S.tab 96=some ⟨.struct [(0,2),(1,22)],32,[.int .i64,.slice]⟩:=rfl
theorem kd96:S.kd 96=some (.struct [(0,2),(1,22)]):=rfl
theorem tab97:S.tab 97=some ⟨.struct [(0,2),(1,22)],32,[.int .i64,.slice]⟩:=rfl
theorem kd97:S.kd 97=some (.struct [(0,2),(1,22)]):=rfl
theorem tab104:S.tab 104=some ⟨.other,8,[.ptr]⟩:=rfl
theorem kd104:S.kd 104=some (.other):=rfl
theorem tab105:S.tab 105=some ⟨.struct [(0,51)],24,[.slice]⟩:=rfl
theorem kd105:S.kd 105=some (.struct [(0,51)]):=rfl
theorem tab106:S.tab 106=some ⟨.struct [(0,51)],24,[.slice]⟩:=rfl
theorem kd106:S.kd 106=some (.struct [(0,51)]):=rfl
theorem tab112:S.tab 112=some ⟨.struct [(0,2),(1,22)],32,[.int .i64,.slice]⟩:=rfl
theorem kd112:S.kd 112=some (.struct [(0,2),(1,22)]):=rfl
theorem tab115:S.tab 115=some ⟨.slice 116,24,[.slice]⟩:=rfl
theorem kd115:S.kd 115=some (.slice 116):=rfl
theorem tab116:S.tab 116=some ⟨.slice 4,24,[.slice]⟩:=rfl
theorem kd116:S.kd 116=some (.slice 4):=rfl
theorem tab131:S.tab 131=some ⟨.other,8,[.ptr]⟩:=rfl
theorem kd131:S.kd 131=some (.other):=rfl
theorem tab132:S.tab 132=some ⟨.array 48 22,1152,[.slice,.slice,.slice,.slice,.slice,.slice,.slice,.slice,.slice,.slice,.slice,.slice,.slice,.slice,.slice,.slice,.slice,.slice,.slice,.slice,.slice,.slice,.slice,.slice,.slice,.slice,.slice,.slice,.slice,.slice,.slice,.slice,.slice,.slice,.slice,.slice,.slice,.slice,.slice,.slice,.slice,.slice,.slice,.slice,.slice,.slice,.slice,.slice]⟩:=rfl
theorem kd132:S.kd 132=some (.array 48 22):=rfl
theorem tab133:S.tab 133=some ⟨.struct [(0,32),(1,132)],1176,[.slice,.slice,.slice,.slice,.slice,.slice,.slice,.slice,.slice,.slice,.slice,.slice,.slice,.slice,.slice,.slice,.slice,.slice,.slice,.slice,.slice,.slice,.slice,.slice,.slice,.slice,.slice,.slice,.slice,.slice,.slice,.slice,.slice,.slice,.slice,.slice,.slice,.slice,.slice,.slice,.slice,.slice,.slice,.slice,.slice,.slice,.slice,.slice,.slice]⟩:=rfl
theorem kd133:S.kd 133=some (.struct [(0,32),(1,132)]):=rfl
theorem tab134:S.tab 134=some ⟨.struct [(0,32),(1,132)],1176,[.slice,.slice,.slice,.slice,.slice,.slice,.slice,.slice,.slice,.slice,.slice,.slice,.slice,.slice,.slice,.slice,.slice,.slice,.slice,.slice,.slice,.slice,.slice,.slice,.slice,.slice,.slice,.slice,.slice,.slice,.slice,.slice,.slice,.slice,.slice,.slice,.slice,.slice,.slice,.slice,.slice,.slice,.slice,.slice,.slice,.slice,.slice,.slice,.slice]⟩:=rfl
theorem kd134:S.kd 134=some (.struct [(0,32),(1,132)]):=rfl
theorem tab136:S.tab 136=some ⟨.slice 3,24,[.slice]⟩:=rfl
theorem kd136:S.kd 136=some (.slice 3):=rfl
theorem tab148:S.tab 148=some ⟨.struct [],0,[]⟩:=rfl
theorem kd148:S.kd 148=some (.struct []):=rfl
theorem tab149:S.tab 149=some ⟨.struct [],0,[]⟩:=rfl
theorem kd149:S.kd 149=some (.struct []):=rfl
theorem tab157:S.tab 157=some ⟨.struct [(0,32),(1,22),(2,3)],56,[.slice,.slice,.int .i64]⟩:=rfl
theorem kd157:S.kd 157=some (.struct [(0,32),(1,22),(2,3)]):=rfl
theorem tab158:S.tab 158=some ⟨.struct [(0,32),(1,22),(2,3)],56,[.slice,.slice,.int .i64]⟩:=rfl
theorem kd158:S.kd 158=some (.struct [(0,32),(1,22),(2,3)]):=rfl
theorem tab162:S.tab 162=some ⟨.other,8,[.ptr]⟩:=rfl
theorem kd162:S.kd 162=some (.other):=rfl
theorem tab163:S.tab 163=some ⟨.array 48 4,48,[.bool,.bool,.bool,.bool,.bool,.bool,.bool,.bool,.bool,.bool,.bool,.bool,.bool,.bool,.bool,.bool,.bool,.bool,.bool,.bool,.bool,.bool,.bool,.bool,.bool,.bool,.bool,.bool,.bool,.bool,.bool,.bool,.bool,.bool,.bool,.bool,.bool,.bool,.bool,.bool,.bool,.bool,.bool,.bool,.bool,.bool,.bool,.bool]⟩:=rfl
theorem kd163:S.kd 163=some (.array 48 4):=rfl
theorem tab165:S.tab 165=some ⟨.struct [(0,2),(1,22)],32,[.int .i64,.slice]⟩:=rfl
theorem kd165:S.kd 165=some (.struct [(0,2),(1,22)]):=rfl
theorem tab167:S.tab 167=some ⟨.other,8,[.ptr]⟩:=rfl
theorem kd167:S.kd 167=some (.other):=rfl
theorem tab177:S.tab 177=some ⟨.int .u32,4,[.int .u32]⟩:=rfl
theorem kd177:S.kd 177=some (.int .u32):=rfl
theorem tab181:S.tab 181=some ⟨.other,8,[.ptr]⟩:=rfl
theorem kd181:S.kd 181=some (.other):=rfl
theorem tab187:S.tab 187=some ⟨.other,8,[.ptr]⟩:=rfl
theorem kd187:S.kd 187=some (.other):=rfl
attribute [go_sem] tab2 kd2 tab3 kd3 tab4 kd4 tab5 kd5 tab9 kd9 tab12 kd12 tab21 kd21 tab22 kd22 tab23 kd23 tab24 kd24 tab25 kd25 tab26 kd26 tab27 kd27 tab28 kd28 tab32 kd32 tab33 kd33 tab34 kd34 tab35 kd35 tab37 kd37 tab45 kd45 tab46 kd46 tab47 kd47 tab48 kd48 tab51 kd51 tab56 kd56 tab57 kd57 tab58 kd58 tab71 kd71 tab72 kd72 tab75 kd75 tab76 kd76 tab77 kd77 tab96 kd96 tab97 kd97 tab104 kd104 tab105 kd105 tab106 kd106 tab112 kd112 tab115 kd115 tab116 kd116 tab131 kd131 tab132 kd132 tab133 kd133 tab134 kd134 tab136 kd136 tab148 kd148 tab149 kd149 tab157 kd157 tab158 kd158 tab162 kd162 tab163 kd163 tab165 kd165 tab167 kd167 tab177 kd177 tab181 kd181 tab187 kd187
end Go.Proofs.YtohnfgligddanaaGreat

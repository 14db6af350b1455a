/-
  The types that the rules ask for, out of the translation; made by mksetup.py. The check against the program is a closed fact.
-/
import Derived.Test.YtkkceakpegnmeaaGreatDoorProg
import Derived.Test.YtkkceakpegnmeaaGreatDoorLgK5
import Derived.KernelRfl
namespace Go.Proofs.YtkkceakpegnmeaaGreatDoor
open Go Go.Lg

def tabL:List (Nat×TyI):=[
 (2,⟨.int .i64,8,[.int .i64]⟩),
 (3,⟨.int .i64,8,[.int .i64]⟩),
 (4,⟨.bool,1,[.bool]⟩),
 (5,⟨.int .u8,1,[.int .u8]⟩),
 (9,⟨.string,16,[.str]⟩),
 (12,⟨.int .u64,8,[.int .u64]⟩),
 (21,⟨.int .i32,4,[.int .i32]⟩),
 (22,⟨.slice 2,24,[.slice]⟩),
 (23,⟨.struct [(0,22)],24,[.slice]⟩),
 (24,⟨.struct [(0,22)],24,[.slice]⟩),
 (25,⟨.slice 64,24,[.slice]⟩),
 (26,⟨.struct [(0,24),(1,25)],48,[.slice,.slice]⟩),
 (27,⟨.struct [(0,24),(1,25)],48,[.slice,.slice]⟩),
 (29,⟨.slice 76,24,[.slice]⟩),
 (30,⟨.struct [(0,2),(1,29),(2,22)],56,[.int .i64,.slice,.slice]⟩),
 (31,⟨.struct [(0,2),(1,29),(2,22)],56,[.int .i64,.slice,.slice]⟩),
 (34,⟨.struct [(0,22)],24,[.slice]⟩),
 (35,⟨.slice 65,24,[.slice]⟩),
 (36,⟨.struct [(0,34),(1,35)],48,[.slice,.slice]⟩),
 (37,⟨.struct [(0,34),(1,35)],48,[.slice,.slice]⟩),
 (47,⟨.slice 22,24,[.slice]⟩),
 (63,⟨.struct [(0,22),(1,22)],48,[.slice,.slice]⟩),
 (64,⟨.struct [(0,22),(1,22)],48,[.slice,.slice]⟩),
 (65,⟨.struct [(0,22),(1,22)],48,[.slice,.slice]⟩),
 (75,⟨.struct [(0,2),(1,22),(2,2)],40,[.int .i64,.slice,.int .i64]⟩),
 (76,⟨.struct [(0,2),(1,22),(2,2)],40,[.int .i64,.slice,.int .i64]⟩),
 (81,⟨.other,8,[.ptr]⟩),
 (82,⟨.slice 106,24,[.slice]⟩),
 (84,⟨.other,8,[.map]⟩),
 (85,⟨.struct [(0,34),(1,82),(2,82),(3,22),(4,47),(5,84)],128,[.slice,.slice,.slice,.slice,.slice,.map]⟩),
 (86,⟨.struct [(0,34),(1,82),(2,82),(3,22),(4,47),(5,84)],128,[.slice,.slice,.slice,.slice,.slice,.map]⟩),
 (99,⟨.other,16,[.iface]⟩),
 (105,⟨.struct [(0,2),(1,22)],32,[.int .i64,.slice]⟩),
 (106,⟨.struct [(0,2),(1,22)],32,[.int .i64,.slice]⟩),
 (118,⟨.int .u64,8,[.int .u64]⟩),
 (119,⟨.slice 3,24,[.slice]⟩),
 (125,⟨.struct [(0,3),(1,9)],24,[.int .i64,.str]⟩),
 (126,⟨.struct [(0,3),(1,9)],24,[.int .i64,.str]⟩),
 (130,⟨.struct [(0,34),(1,22),(2,3)],56,[.slice,.slice,.int .i64]⟩),
 (131,⟨.struct [(0,34),(1,22),(2,3)],56,[.slice,.slice,.int .i64]⟩),
 (134,⟨.int .i64,8,[.int .i64]⟩),
 (141,⟨.int .u32,4,[.int .u32]⟩),
 (143,⟨.int .u64,8,[.int .u64]⟩),
 (149,⟨.other,8,[.ptr]⟩),
 (151,⟨.int .u64,8,[.int .u64]⟩),
 (155,⟨.other,8,[.ptr]⟩),
 (160,⟨.slice 9,24,[.slice]⟩),
 (163,⟨.other,8,[.ptr]⟩),
 (171,⟨.other,8,[.ptr]⟩),
 (172,⟨.slice 5,24,[.slice]⟩),
 (173,⟨.struct [(0,171),(1,172)],32,[.ptr,.slice]⟩),
 (174,⟨.struct [(0,171),(1,172)],32,[.ptr,.slice]⟩),
 (177,⟨.other,16,[.iface]⟩),
 (181,⟨.other,8,[.ptr]⟩),
 (183,⟨.array 24 5,24,[.int .u8,.int .u8,.int .u8,.int .u8,.int .u8,.int .u8,.int .u8,.int .u8,.int .u8,.int .u8,.int .u8,.int .u8,.int .u8,.int .u8,.int .u8,.int .u8,.int .u8,.int .u8,.int .u8,.int .u8,.int .u8,.int .u8,.int .u8,.int .u8]⟩),
 (187,⟨.other,8,[.ptr]⟩),
 (192,⟨.array 20 143,160,[.int .u64,.int .u64,.int .u64,.int .u64,.int .u64,.int .u64,.int .u64,.int .u64,.int .u64,.int .u64,.int .u64,.int .u64,.int .u64,.int .u64,.int .u64,.int .u64,.int .u64,.int .u64,.int .u64,.int .u64]⟩),
 (193,⟨.array 65 5,65,[.int .u8,.int .u8,.int .u8,.int .u8,.int .u8,.int .u8,.int .u8,.int .u8,.int .u8,.int .u8,.int .u8,.int .u8,.int .u8,.int .u8,.int .u8,.int .u8,.int .u8,.int .u8,.int .u8,.int .u8,.int .u8,.int .u8,.int .u8,.int .u8,.int .u8,.int .u8,.int .u8,.int .u8,.int .u8,.int .u8,.int .u8,.int .u8,.int .u8,.int .u8,.int .u8,.int .u8,.int .u8,.int .u8,.int .u8,.int .u8,.int .u8,.int .u8,.int .u8,.int .u8,.int .u8,.int .u8,.int .u8,.int .u8,.int .u8,.int .u8,.int .u8,.int .u8,.int .u8,.int .u8,.int .u8,.int .u8,.int .u8,.int .u8,.int .u8,.int .u8,.int .u8,.int .u8,.int .u8,.int .u8,.int .u8]⟩),
 (195,⟨.array 32 5,32,[.int .u8,.int .u8,.int .u8,.int .u8,.int .u8,.int .u8,.int .u8,.int .u8,.int .u8,.int .u8,.int .u8,.int .u8,.int .u8,.int .u8,.int .u8,.int .u8,.int .u8,.int .u8,.int .u8,.int .u8,.int .u8,.int .u8,.int .u8,.int .u8,.int .u8,.int .u8,.int .u8,.int .u8,.int .u8,.int .u8,.int .u8,.int .u8]⟩),
 (196,⟨.array 64 5,64,[.int .u8,.int .u8,.int .u8,.int .u8,.int .u8,.int .u8,.int .u8,.int .u8,.int .u8,.int .u8,.int .u8,.int .u8,.int .u8,.int .u8,.int .u8,.int .u8,.int .u8,.int .u8,.int .u8,.int .u8,.int .u8,.int .u8,.int .u8,.int .u8,.int .u8,.int .u8,.int .u8,.int .u8,.int .u8,.int .u8,.int .u8,.int .u8,.int .u8,.int .u8,.int .u8,.int .u8,.int .u8,.int .u8,.int .u8,.int .u8,.int .u8,.int .u8,.int .u8,.int .u8,.int .u8,.int .u8,.int .u8,.int .u8,.int .u8,.int .u8,.int .u8,.int .u8,.int .u8,.int .u8,.int .u8,.int .u8,.int .u8,.int .u8,.int .u8,.int .u8,.int .u8,.int .u8,.int .u8,.int .u8]⟩)]
theorem tab_check:(tabL.all fun p=>tyCheck Tryz.prog p.1 p.2)=true:=by kernel_rfl
theorem mixed:Tryz.prog.follows .mixedOrders=true:=by kernel_rfl
noncomputable def S:Setup:={P:=Tryz.prog,tab:=Lg.look tabL,ok:=tabOk tab_check,mixed:=mixed}
theorem tab2:S.tab 2=some ⟨.int .i64,8,[.int .i64]⟩:=rfl
theorem kd2:S.kd 2=some (.int .i64):=rfl
theorem tab3:S.tab 3=some ⟨.int .i64,8,[.int .i64]⟩:=rfl
theorem kd3:S.kd 3=some (.int .i64):=rfl
theorem tab4:S.tab 4=some ⟨.bool,1,[.bool]⟩:=rfl
theorem kd4:S.kd 4=some (.bool):=rfl
theorem tab5:S.tab 5=some ⟨.int .u8,1,[.int .u8]⟩:=rfl
theorem kd5:S.kd 5=some (.int .u8):=rfl
theorem tab9:S.tab 9=some ⟨.string,16,[.str]⟩:=rfl
theorem kd9:S.kd 9=some (.string):=rfl
theorem tab12:S.tab 12=some ⟨.int .u64,8,[.int .u64]⟩:=rfl
theorem kd12:S.kd 12=some (.int .u64):=rfl
theorem tab21:S.tab 21=some ⟨.int .i32,4,[.int .i32]⟩:=rfl
theorem kd21:S.kd 21=some (.int .i32):=rfl
theorem tab22:S.tab 22=some ⟨.slice 2,24,[.slice]⟩:=rfl
theorem kd22:S.kd 22=some (.slice 2):=rfl
theorem tab23:S.tab 23=some ⟨.struct [(0,22)],24,[.slice]⟩:=rfl
theorem kd23:S.kd 23=some (.struct [(0,22)]):=rfl
theorem tab24:S.tab 24=some ⟨.struct [(0,22)],24,[.slice]⟩:=rfl
theorem kd24:S.kd 24=some (.struct [(0,22)]):=rfl
theorem tab25:S.tab 25=some ⟨.slice 64,24,[.slice]⟩:=rfl
theorem kd25:S.kd 25=some (.slice 64):=rfl
theorem tab26:S.tab 26=some ⟨.struct [(0,24),(1,25)],48,[.slice,.slice]⟩:=rfl
theorem kd26:S.kd 26=some (.struct [(0,24),(1,25)]):=rfl
theorem tab27:S.tab 27=some ⟨.struct [(0,24),(1,25)],48,[.slice,.slice]⟩:=rfl
theorem kd27:S.kd 27=some (.struct [(0,24),(1,25)]):=rfl
theorem tab29:S.tab 29=some ⟨.slice 76,24,[.slice]⟩:=rfl
theorem kd29:S.kd 29=some (.slice 76):=rfl
theorem tab30:S.tab 30=some ⟨.struct [(0,2),(1,29),(2,22)],56,[.int .i64,.slice,.slice]⟩:=rfl
theorem kd30:S.kd 30=some (.struct [(0,2),(1,29),(2,22)]):=rfl
theorem tab31:S.tab 31=some ⟨.struct [(0,2),(1,29),(2,22)],56,[.int .i64,.slice,.slice]⟩:=rfl
theorem kd31:S.kd 31=some (.struct [(0,2),(1,29),(2,22)]):=rfl
theorem tab34:S.tab 34=some ⟨.struct [(0,22)],24,[.slice]⟩:=rfl
theorem kd34:S.kd 34=some (.struct [(0,22)]):=rfl
theorem tab35:S.tab 35=some ⟨.slice 65,24,[.slice]⟩:=rfl
theorem kd35:S.kd 35=some (.slice 65):=rfl
theorem tab36:S.tab 36=some ⟨.struct [(0,34),(1,35)],48,[.slice,.slice]⟩:=rfl
theorem kd36:S.kd 36=some (.struct [(0,34),(1,35)]):=rfl
theorem tab37:S.tab 37=some ⟨.struct [(0,34),(1,35)],48,[.slice,.slice]⟩:=rfl
theorem kd37:S.kd 37=some (.struct [(0,34),(1,35)]):=rfl
theorem tab47:S.tab 47=some ⟨.slice 22,24,[.slice]⟩:=rfl
theorem kd47:S.kd 47=some (.slice 22):=rfl
theorem tab63:S.tab 63=some ⟨.struct [(0,22),(1,22)],48,[.slice,.slice]⟩:=rfl
theorem kd63:S.kd 63=some (.struct [(0,22),(1,22)]):=rfl
theorem tab64:S.tab 64=some ⟨.struct [(0,22),(1,22)],48,[.slice,.slice]⟩:=rfl
theorem kd64:S.kd 64=some (.struct [(0,22),(1,22)]):=rfl
theorem tab65:S.tab 65=some ⟨.struct [(0,22),(1,22)],48,[.slice,.slice]⟩:=rfl
theorem kd65:S.kd 65=some (.struct [(0,22),(1,22)]):=rfl
theorem tab75:S.tab 75=some ⟨.struct [(0,2),(1,22),(2,2)],40,[.int .i64,.slice,.int .i64]⟩:=rfl
theorem kd75:S.kd 75=some (.struct [(0,2),(1,22),(2,2)]):=rfl
theorem tab76:S.tab 76=some ⟨.struct [(0,2),(1,22),(2,2)],40,[.int .i64,.slice,.int .i64]⟩:=rfl
theorem kd76:S.kd 76=some (.struct [(0,2),(1,22),(2,2)]):=rfl
theorem tab81:S.tab 81=some ⟨.other,8,[.ptr]⟩:=rfl
theorem kd81:S.kd 81=some (.other):=rfl
theorem tab82:S.tab 82=some ⟨.slice 106,24,[.slice]⟩:=rfl
theorem kd82:S.kd 82=some (.slice 106):=rfl
theorem tab84:S.tab 84=some ⟨.other,8,[.map]⟩:=rfl
theorem kd84:S.kd 84=some (.other):=rfl
theorem tab85:S.tab 85=some ⟨.struct [(0,34),(1,82),(2,82),(3,22),(4,47),(5,84)],128,[.slice,.slice,.slice,.slice,.slice,.map]⟩:=rfl
theorem kd85:S.kd 85=some (.struct [(0,34),(1,82),(2,82),(3,22),(4,47),(5,84)]):=rfl
theorem tab86:S.tab 86=some ⟨.struct [(0,34),(1,82),(2,82),(3,22),(4,47),(5,84)],128,[.slice,.slice,.slice,.slice,.slice,.map]⟩:=rfl
theorem kd86:S.kd 86=some (.struct [(0,34),(1,82),(2,82),(3,22),(4,47),(5,84)]):=rfl
theorem tab99:S.tab 99=some ⟨.other,16,[.iface]⟩:=rfl
theorem kd99:S.kd 99=some (.other):=rfl
theorem tab105:S.tab 105=some ⟨.struct [(0,2),(1,22)],32,[.int .i64,.slice]⟩:=rfl
theorem kd105:S.kd 105=some (.struct [(0,2),(1,22)]):=rfl
theorem tab106:S.tab 106=some ⟨.struct [(0,2),(1,22)],32,[.int .i64,.slice]⟩:=rfl
theorem kd106:S.kd 106=some (.struct [(0,2),(1,22)]):=rfl
theorem tab118:S.tab 118=some ⟨.int .u64,8,[.int .u64]⟩:=rfl
theorem kd118:S.kd 118=some (.int .u64):=rfl
theorem tab119:S.tab 119=some ⟨.slice 3,24,[.slice]⟩:=rfl
theorem kd119:S.kd 119=some (.slice 3):=rfl
theorem tab125:S.tab 125=some ⟨.struct [(0,3),(1,9)],24,[.int .i64,.str]⟩:=rfl
theorem kd125:S.kd 125=some (.struct [(0,3),(1,9)]):=rfl
theorem tab126:S.tab 126=some ⟨.struct [(0,3),(1,9)],24,[.int .i64,.str]⟩:=rfl
theorem kd126:S.kd 126=some (.struct [(0,3),(1,9)]):=rfl
theorem tab130:S.tab 130=some ⟨.struct [(0,34),(1,22),(2,3)],56,[.slice,.slice,.int .i64]⟩:=rfl
theorem kd130:S.kd 130=some (.struct [(0,34),(1,22),(2,3)]):=rfl
theorem tab131:S.tab 131=some ⟨.struct [(0,34),(1,22),(2,3)],56,[.slice,.slice,.int .i64]⟩:=rfl
theorem kd131:S.kd 131=some (.struct [(0,34),(1,22),(2,3)]):=rfl
theorem tab134:S.tab 134=some ⟨.int .i64,8,[.int .i64]⟩:=rfl
theorem kd134:S.kd 134=some (.int .i64):=rfl
theorem tab141:S.tab 141=some ⟨.int .u32,4,[.int .u32]⟩:=rfl
theorem kd141:S.kd 141=some (.int .u32):=rfl
theorem tab143:S.tab 143=some ⟨.int .u64,8,[.int .u64]⟩:=rfl
theorem kd143:S.kd 143=some (.int .u64):=rfl
theorem tab149:S.tab 149=some ⟨.other,8,[.ptr]⟩:=rfl
theorem kd149:S.kd 149=some (.other):=rfl
theorem tab151:S.tab 151=some ⟨.int .u64,8,[.int .u64]⟩:=rfl
theorem kd151:S.kd 151=some (.int .u64):=rfl
theorem tab155:S.tab 155=some ⟨.other,8,[.ptr]⟩:=rfl
theorem kd155:S.kd 155=some (.other):=rfl
theorem tab160:S.tab 160=some ⟨.slice 9,24,[.slice]⟩:=rfl
theorem kd160:S.kd 160=some (.slice 9):=rfl
theorem tab163:S.tab 163=some ⟨.other,8,[.ptr]⟩:=rfl
theorem kd163:S.kd 163=some (.other):=rfl
theorem tab171:S.tab 171=some ⟨.other,8,[.ptr]⟩:=rfl
theorem kd171:S.kd 171=some (.other):=rfl
theorem tab172:S.tab 172=some ⟨.slice 5,24,[.slice]⟩:=rfl
theorem kd172:S.kd 172=some (.slice 5):=rfl
theorem tab173:S.tab 173=some ⟨.struct [(0,171),(1,172)],32,[.ptr,.slice]⟩:=rfl
theorem kd173:S.kd 173=some (.struct [(0,171),(1,172)]):=rfl
theorem tab174:S.tab 174=some ⟨.struct [(0,171),(1,172)],32,[.ptr,.slice]⟩:=rfl
theorem kd174:S.kd 174=some (.struct [(0,171),(1,172)]):=rfl
theorem tab177:S.tab 177=some ⟨.other,16,[.iface]⟩:=rfl
theorem kd177:S.kd 177=some (.other):=rfl
theorem tab181:S.tab 181=some ⟨.other,8,[.ptr]⟩:=rfl
theorem kd181:S.kd 181=some (.other):=rfl
theorem tab183:S.tab 183=some ⟨.array 24 5,24,[.int .u8,.int .u8,.int .u8,.int .u8,.int .u8,.int .u8,.int .u8,.int .u8,.int .u8,.int .u8,.int .u8,.int .u8,.int .u8,.int .u8,.int .u8,.int .u8,.int .u8,.int .u8,.int .u8,.int .u8,.int .u8,.int .u8,.int .u8,.int .u8]⟩:=rfl
theorem kd183:S.kd 183=some (.array 24 5):=rfl
theorem tab187:S.tab 187=some ⟨.other,8,[.ptr]⟩:=rfl
theorem kd187:S.kd 187=some (.other):=rfl
theorem tab192:S.tab 192=some ⟨.array 20 143,160,[.int .u64,.int .u64,.int .u64,.int .u64,.int .u64,.int .u64,.int .u64,.int .u64,.int .u64,.int .u64,.int .u64,.int .u64,.int .u64,.int .u64,.int .u64,.int .u64,.int .u64,.int .u64,.int .u64,.int .u64]⟩:=rfl
theorem kd192:S.kd 192=some (.array 20 143):=rfl
theorem tab193:S.tab 193=some ⟨.array 65 5,65,[.int .u8,.int .u8,.int .u8,.int .u8,.int .u8,.int .u8,.int .u8,.int .u8,.int .u8,.int .u8,.int .u8,.int .u8,.int .u8,.int .u8,.int .u8,.int .u8,.int .u8,.int .u8,.int .u8,.int .u8,.int .u8,.int .u8,.int .u8,.int .u8,.int .u8,.int .u8,.int .u8,.int .u8,.int .u8,.int .u8,.int .u8,.int .u8,.int .u8,.int .u8,.int .u8,.int .u8,.int .u8,.int .u8,.int .u8,.int .u8,.int .u8,.int .u8,.int .u8,.int .u8,.int .u8,.int .u8,.int .u8,.int .u8,.int .u8,.int .u8,.int .u8,.int .u8,.int .u8,.int .u8,.int .u8,.int .u8,.int .u8,.int .u8,.int .u8,.int .u8,.int .u8,.int .u8,.int .u8,.int .u8,.int .u8]⟩:=rfl
theorem kd193:S.kd 193=some (.array 65 5):=rfl
theorem tab195:S.tab 195=some ⟨.array 32 5,32,[.int .u8,.int .u8,.int .u8,.int .u8,.int .u8,.int .u8,.int .u8,.int .u8,.int .u8,.int .u8,.int .u8,.int .u8,.int .u8,.int .u8,.int .u8,.int .u8,.int .u8,.int .u8,.int .u8,.int .u8,.int .u8,.int .u8,.int .u8,.int .u8,.int .u8,.int .u8,.int .u8,.int .u8,.int .u8,.int .u8,.int .u8,.int .u8]⟩:=rfl
theorem kd195:S.kd 195=some (.array 32 5):=rfl
theorem tab196:S.tab 196=some ⟨.array 64 5,64,[.int .u8,.int .u8,.int .u8,.int .u8,.int .u8,.int .u8,.int .u8,.int .u8,.int .u8,.int .u8,.int .u8,.int .u8,.int .u8,.int .u8,.int .u8,.int .u8,.int .u8,.int .u8,.int .u8,.int .u8,.int .u8,.int .u8,.int .u8,.int .u8,.int .u8,.int .u8,.int .u8,.int .u8,.int .u8,.int .u8,.int .u8,.int .u8,.int .u8,.int .u8,.int .u8,.int .u8,.int .u8,.int .u8,.int .u8,.int .u8,.int .u8,.int .u8,.int .u8,.int .u8,.int .u8,.int .u8,.int .u8,.int .u8,.int .u8,.int .u8,.int .u8,.int .u8,.int .u8,.int .u8,.int .u8,.int .u8,.int .u8,.int .u8,.int .u8,.int .u8,.int .u8,.int .u8,.int .u8,.int .u8]⟩:=rfl
theorem kd196:S.kd 196=some (.array 64 5):=rfl
attribute [go_sem] tab2 kd2 tab3 kd3 tab4 kd4 tab5 kd5 tab9 kd9 tab12 kd12 tab21 kd21 tab22 kd22 tab23 kd23 tab24 kd24 tab25 kd25 tab26 kd26 tab27 kd27 tab29 kd29 tab30 kd30 tab31 kd31 tab34 kd34 tab35 kd35 tab36 kd36 tab37 kd37 tab47 kd47 tab63 kd63 tab64 kd64 tab65 kd65 tab75 kd75 tab76 kd76 tab81 kd81 tab82 kd82 tab84 kd84 tab85 kd85 tab86 kd86 tab99 kd99 tab105 kd105 tab106 kd106 tab118 kd118 tab119 kd119 tab125 kd125 tab126 kd126 tab130 kd130 tab131 kd131 tab134 kd134 tab141 kd141 tab143 kd143 tab149 kd149 tab151 kd151 tab155 kd155 tab160 kd160 tab163 kd163 tab171 kd171 tab172 kd172 tab173 kd173 tab174 kd174 tab177 kd177 tab181 kd181 tab183 kd183 tab187 kd187 tab192 kd192 tab193 kd193 tab195 kd195 tab196 kd196
end Go.Proofs.YtkkceakpegnmeaaGreatDoor

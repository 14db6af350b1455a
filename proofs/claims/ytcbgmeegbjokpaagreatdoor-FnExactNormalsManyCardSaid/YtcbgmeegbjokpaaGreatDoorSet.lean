/-
  The types that the rules ask for, out of the translation; made by mksetup.py. The check against the program is a closed fact.
-/
import Derived.Test.YtcbgmeegbjokpaaGreatDoorProg
import Derived.Test.YtcbgmeegbjokpaaGreatDoorLgK5
import Derived.KernelRfl
namespace Go.Proofs.YtcbgmeegbjokpaaGreatDoor
open Go Go.Lg

def tabL:List (Nat×TyI):=[
 (2,⟨.int .i64,8,[.int .i64]⟩),
 (3,⟨.int .i64,8,[.int .i64]⟩),
 (4,⟨.bool,1,[.bool]⟩),
 (5,⟨.int .u8,1,[.int .u8]⟩),
 (9,⟨.string,16,[.str]⟩),
 (12,⟨.int .u64,8,[.int .u64]⟩),
 (21,⟨.int .i32,4,[.int .i32]⟩),
 (22,⟨.slice 2,24,[.slice]⟩),
 (23,⟨.struct [(0,22)],24,[.slice]⟩),
 (24,⟨.struct [(0,22)],24,[.slice]⟩),
 (25,⟨.slice 61,24,[.slice]⟩),
 (26,⟨.struct [(0,24),(1,25)],48,[.slice,.slice]⟩),
 (27,⟨.struct [(0,24),(1,25)],48,[.slice,.slice]⟩),
 (30,⟨.struct [(0,22)],24,[.slice]⟩),
 (31,⟨.slice 72,24,[.slice]⟩),
 (32,⟨.struct [(0,30),(1,31)],48,[.slice,.slice]⟩),
 (33,⟨.struct [(0,30),(1,31)],48,[.slice,.slice]⟩),
 (41,⟨.slice 54,24,[.slice]⟩),
 (42,⟨.struct [(0,2),(1,41),(2,22)],56,[.int .i64,.slice,.slice]⟩),
 (43,⟨.struct [(0,2),(1,41),(2,22)],56,[.int .i64,.slice,.slice]⟩),
 (53,⟨.struct [(0,2),(1,22),(2,2)],40,[.int .i64,.slice,.int .i64]⟩),
 (54,⟨.struct [(0,2),(1,22),(2,2)],40,[.int .i64,.slice,.int .i64]⟩),
 (60,⟨.struct [(0,22),(1,22)],48,[.slice,.slice]⟩),
 (61,⟨.struct [(0,22),(1,22)],48,[.slice,.slice]⟩),
 (62,⟨.slice 22,24,[.slice]⟩),
 (72,⟨.struct [(0,22),(1,22)],48,[.slice,.slice]⟩),
 (74,⟨.array 61 2,488,[.int .i64,.int .i64,.int .i64,.int .i64,.int .i64,.int .i64,.int .i64,.int .i64,.int .i64,.int .i64,.int .i64,.int .i64,.int .i64,.int .i64,.int .i64,.int .i64,.int .i64,.int .i64,.int .i64,.int .i64,.int .i64,.int .i64,.int .i64,.int .i64,.int .i64,.int .i64,.int .i64,.int .i64,.int .i64,.int .i64,.int .i64,.int .i64,.int .i64,.int .i64,.int .i64,.int .i64,.int .i64,.int .i64,.int .i64,.int .i64,.int .i64,.int .i64,.int .i64,.int .i64,.int .i64,.int .i64,.int .i64,.int .i64,.int .i64,.int .i64,.int .i64,.int .i64,.int .i64,.int .i64,.int .i64,.int .i64,.int .i64,.int .i64,.int .i64,.int .i64,.int .i64]⟩),
 (75,⟨.array 16 74,7808,List.replicate 976 (.int .i64)⟩),
 (76,⟨.array 16 74,7808,List.replicate 976 (.int .i64)⟩),
 (96,⟨.other,8,[.ptr]⟩),
 (97,⟨.slice 124,24,[.slice]⟩),
 (99,⟨.other,8,[.map]⟩),
 (100,⟨.struct [(0,30),(1,97),(2,97),(3,22),(4,62),(5,99)],128,[.slice,.slice,.slice,.slice,.slice,.map]⟩),
 (101,⟨.struct [(0,30),(1,97),(2,97),(3,22),(4,62),(5,99)],128,[.slice,.slice,.slice,.slice,.slice,.map]⟩),
 (106,⟨.other,8,[.ptr]⟩),
 (117,⟨.other,16,[.iface]⟩),
 (123,⟨.struct [(0,2),(1,22)],32,[.int .i64,.slice]⟩),
 (124,⟨.struct [(0,2),(1,22)],32,[.int .i64,.slice]⟩),
 (134,⟨.int .u64,8,[.int .u64]⟩),
 (135,⟨.slice 3,24,[.slice]⟩),
 (141,⟨.struct [(0,3),(1,9)],24,[.int .i64,.str]⟩),
 (142,⟨.struct [(0,3),(1,9)],24,[.int .i64,.str]⟩),
 (149,⟨.struct [(0,30),(1,22),(2,3)],56,[.slice,.slice,.int .i64]⟩),
 (150,⟨.struct [(0,30),(1,22),(2,3)],56,[.slice,.slice,.int .i64]⟩),
 (152,⟨.int .i64,8,[.int .i64]⟩),
 (159,⟨.int .u32,4,[.int .u32]⟩),
 (161,⟨.int .u64,8,[.int .u64]⟩),
 (167,⟨.other,8,[.ptr]⟩),
 (169,⟨.int .u64,8,[.int .u64]⟩),
 (173,⟨.other,8,[.ptr]⟩),
 (177,⟨.slice 9,24,[.slice]⟩),
 (180,⟨.other,8,[.ptr]⟩),
 (188,⟨.other,8,[.ptr]⟩),
 (189,⟨.slice 5,24,[.slice]⟩),
 (190,⟨.struct [(0,188),(1,189)],32,[.ptr,.slice]⟩),
 (191,⟨.struct [(0,188),(1,189)],32,[.ptr,.slice]⟩),
 (194,⟨.other,16,[.iface]⟩),
 (198,⟨.other,8,[.ptr]⟩),
 (200,⟨.array 24 5,24,[.int .u8,.int .u8,.int .u8,.int .u8,.int .u8,.int .u8,.int .u8,.int .u8,.int .u8,.int .u8,.int .u8,.int .u8,.int .u8,.int .u8,.int .u8,.int .u8,.int .u8,.int .u8,.int .u8,.int .u8,.int .u8,.int .u8,.int .u8,.int .u8]⟩),
 (204,⟨.other,8,[.ptr]⟩),
 (209,⟨.array 20 161,160,[.int .u64,.int .u64,.int .u64,.int .u64,.int .u64,.int .u64,.int .u64,.int .u64,.int .u64,.int .u64,.int .u64,.int .u64,.int .u64,.int .u64,.int .u64,.int .u64,.int .u64,.int .u64,.int .u64,.int .u64]⟩),
 (210,⟨.array 65 5,65,[.int .u8,.int .u8,.int .u8,.int .u8,.int .u8,.int .u8,.int .u8,.int .u8,.int .u8,.int .u8,.int .u8,.int .u8,.int .u8,.int .u8,.int .u8,.int .u8,.int .u8,.int .u8,.int .u8,.int .u8,.int .u8,.int .u8,.int .u8,.int .u8,.int .u8,.int .u8,.int .u8,.int .u8,.int .u8,.int .u8,.int .u8,.int .u8,.int .u8,.int .u8,.int .u8,.int .u8,.int .u8,.int .u8,.int .u8,.int .u8,.int .u8,.int .u8,.int .u8,.int .u8,.int .u8,.int .u8,.int .u8,.int .u8,.int .u8,.int .u8,.int .u8,.int .u8,.int .u8,.int .u8,.int .u8,.int .u8,.int .u8,.int .u8,.int .u8,.int .u8,.int .u8,.int .u8,.int .u8,.int .u8,.int .u8]⟩),
 (212,⟨.array 32 5,32,[.int .u8,.int .u8,.int .u8,.int .u8,.int .u8,.int .u8,.int .u8,.int .u8,.int .u8,.int .u8,.int .u8,.int .u8,.int .u8,.int .u8,.int .u8,.int .u8,.int .u8,.int .u8,.int .u8,.int .u8,.int .u8,.int .u8,.int .u8,.int .u8,.int .u8,.int .u8,.int .u8,.int .u8,.int .u8,.int .u8,.int .u8,.int .u8]⟩),
 (213,⟨.array 64 5,64,[.int .u8,.int .u8,.int .u8,.int .u8,.int .u8,.int .u8,.int .u8,.int .u8,.int .u8,.int .u8,.int .u8,.int .u8,.int .u8,.int .u8,.int .u8,.int .u8,.int .u8,.int .u8,.int .u8,.int .u8,.int .u8,.int .u8,.int .u8,.int .u8,.int .u8,.int .u8,.int .u8,.int .u8,.int .u8,.int .u8,.int .u8,.int .u8,.int .u8,.int .u8,.int .u8,.int .u8,.int .u8,.int .u8,.int .u8,.int .u8,.int .u8,.int .u8,.int .u8,.int .u8,.int .u8,.int .u8,.int .u8,.int .u8,.int .u8,.int .u8,.int .u8,.int .u8,.int .u8,.int .u8,.int .u8,.int .u8,.int .u8,.int .u8,.int .u8,.int .u8,.int .u8,.int .u8,.int .u8,.int .u8]⟩)]
theorem tab_check:(tabL.all fun p=>tyCheck Tryz.prog p.1 p.2)=true:=by kernel_rfl
theorem mixed:Tryz.prog.follows .mixedOrders=true:=by kernel_rfl
noncomputable def S:Setup:={P:=Tryz.prog,tab:=Lg.look tabL,ok:=tabOk tab_check,mixed:=mixed}
theorem tab2:S.tab 2=some ⟨.int .i64,8,[.int .i64]⟩:=rfl
theorem kd2:S.kd 2=some (.int .i64):=rfl
theorem tab3:S.tab 3=some ⟨.int .i64,8,[.int .i64]⟩:=rfl
theorem kd3:S.kd 3=some (.int .i64):=rfl
theorem tab4:S.tab 4=some ⟨.bool,1,[.bool]⟩:=rfl
theorem kd4:S.kd 4=some (.bool):=rfl
theorem tab5:S.tab 5=some ⟨.int .u8,1,[.int .u8]⟩:=rfl
theorem kd5:S.kd 5=some (.int .u8):=rfl
theorem tab9:S.tab 9=some ⟨.string,16,[.str]⟩:=rfl
theorem kd9:S.kd 9=some (.string):=rfl
theorem tab12:S.tab 12=some ⟨.int .u64,8,[.int .u64]⟩:=rfl
theorem kd12:S.kd 12=some (.int .u64):=rfl
theorem tab21:S.tab 21=some ⟨.int .i32,4,[.int .i32]⟩:=rfl
theorem kd21:S.kd 21=some (.int .i32):=rfl
theorem tab22:S.tab 22=some ⟨.slice 2,24,[.slice]⟩:=rfl
theorem kd22:S.kd 22=some (.slice 2):=rfl
theorem tab23:S.tab 23=some ⟨.struct [(0,22)],24,[.slice]⟩:=rfl
theorem kd23:S.kd 23=some (.struct [(0,22)]):=rfl
theorem tab24:S.tab 24=some ⟨.struct [(0,22)],24,[.slice]⟩:=rfl
theorem kd24:S.kd 24=some (.struct [(0,22)]):=rfl
theorem tab25:S.tab 25=some ⟨.slice 61,24,[.slice]⟩:=rfl
theorem kd25:S.kd 25=some (.slice 61):=rfl
theorem tab26:S.tab 26=some ⟨.struct [(0,24),(1,25)],48,[.slice,.slice]⟩:=rfl
theorem kd26:S.kd 26=some (.struct [(0,24),(1,25)]):=rfl
theorem tab27:S.tab 27=some ⟨.struct [(0,24),(1,25)],48,[.slice,.slice]⟩:=rfl
theorem kd27:S.kd 27=some (.struct [(0,24),(1,25)]):=rfl
theorem tab30:S.tab 30=some ⟨.struct [(0,22)],24,[.slice]⟩:=rfl
theorem kd30:S.kd 30=some (.struct [(0,22)]):=rfl
theorem tab31:S.tab 31=some ⟨.slice 72,24,[.slice]⟩:=rfl
theorem kd31:S.kd 31=some (.slice 72):=rfl
theorem tab32:S.tab 32=some ⟨.struct [(0,30),(1,31)],48,[.slice,.slice]⟩:=rfl
theorem kd32:S.kd 32=some (.struct [(0,30),(1,31)]):=rfl
theorem tab33:S.tab 33=some ⟨.struct [(0,30),(1,31)],48,[.slice,.slice]⟩:=rfl
theorem kd33:S.kd 33=some (.struct [(0,30),(1,31)]):=rfl
theorem tab41:S.tab 41=some ⟨.slice 54,24,[.slice]⟩:=rfl
theorem kd41:S.kd 41=some (.slice 54):=rfl
theorem tab42:S.tab 42=some ⟨.struct [(0,2),(1,41),(2,22)],56,[.int .i64,.slice,.slice]⟩:=rfl
theorem kd42:S.kd 42=some (.struct [(0,2),(1,41),(2,22)]):=rfl
theorem tab43:S.tab 43=some ⟨.struct [(0,2),(1,41),(2,22)],56,[.int .i64,.slice,.slice]⟩:=rfl
theorem kd43:S.kd 43=some (.struct [(0,2),(1,41),(2,22)]):=rfl
theorem tab53:S.tab 53=some ⟨.struct [(0,2),(1,22),(2,2)],40,[.int .i64,.slice,.int .i64]⟩:=rfl
theorem kd53:S.kd 53=some (.struct [(0,2),(1,22),(2,2)]):=rfl
theorem tab54:S.tab 54=some ⟨.struct [(0,2),(1,22),(2,2)],40,[.int .i64,.slice,.int .i64]⟩:=rfl
theorem kd54:S.kd 54=some (.struct [(0,2),(1,22),(2,2)]):=rfl
theorem tab60:S.tab 60=some ⟨.struct [(0,22),(1,22)],48,[.slice,.slice]⟩:=rfl
theorem kd60:S.kd 60=some (.struct [(0,22),(1,22)]):=rfl
theorem tab61:S.tab 61=some ⟨.struct [(0,22),(1,22)],48,[.slice,.slice]⟩:=rfl
theorem kd61:S.kd 61=some (.struct [(0,22),(1,22)]):=rfl
theorem tab62:S.tab 62=some ⟨.slice 22,24,[.slice]⟩:=rfl
theorem kd62:S.kd 62=some (.slice 22):=rfl
theorem tab72:S.tab 72=some ⟨.struct [(0,22),(1,22)],48,[.slice,.slice]⟩:=rfl
theorem kd72:S.kd 72=some (.struct [(0,22),(1,22)]):=rfl
theorem tab74:S.tab 74=some ⟨.array 61 2,488,[.int .i64,.int .i64,.int .i64,.int .i64,.int .i64,.int .i64,.int .i64,.int .i64,.int .i64,.int .i64,.int .i64,.int .i64,.int .i64,.int .i64,.int .i64,.int .i64,.int .i64,.int .i64,.int .i64,.int .i64,.int .i64,.int .i64,.int .i64,.int .i64,.int .i64,.int .i64,.int .i64,.int .i64,.int .i64,.int .i64,.int .i64,.int .i64,.int .i64,.int .i64,.int .i64,.int .i64,.int .i64,.int .i64,.int .i64,.int .i64,.int .i64,.int .i64,.int .i64,.int .i64,.int .i64,.int .i64,.int .i64,.int .i64,.int .i64,.int .i64,.int .i64,.int .i64,.int .i64,.int .i64,.int .i64,.int .i64,.int .i64,.int .i64,.int .i64,.int .i64,.int .i64]⟩:=rfl
theorem kd74:S.kd 74=some (.array 61 2):=rfl
theorem tab75:S.tab 75=some ⟨.array 16 74,7808,List.replicate 976 (.int .i64)⟩:=rfl
theorem kd75:S.kd 75=some (.array 16 74):=rfl
theorem tab76:S.tab 76=some ⟨.array 16 74,7808,List.replicate 976 (.int .i64)⟩:=rfl
theorem kd76:S.kd 76=some (.array 16 74):=rfl
theorem tab96:S.tab 96=some ⟨.other,8,[.ptr]⟩:=rfl
theorem kd96:S.kd 96=some (.other):=rfl
theorem tab97:S.tab 97=some ⟨.slice 124,24,[.slice]⟩:=rfl
theorem kd97:S.kd 97=some (.slice 124):=rfl
theorem tab99:S.tab 99=some ⟨.other,8,[.map]⟩:=rfl
theorem kd99:S.kd 99=some (.other):=rfl
theorem tab100:S.tab 100=some ⟨.struct [(0,30),(1,97),(2,97),(3,22),(4,62),(5,99)],128,[.slice,.slice,.slice,.slice,.slice,.map]⟩:=rfl
theorem kd100:S.kd 100=some (.struct [(0,30),(1,97),(2,97),(3,22),(4,62),(5,99)]):=rfl
theorem tab101:S.tab 101=some ⟨.struct [(0,30),(1,97),(2,97),(3,22),(4,62),(5,99)],128,[.slice,.slice,.slice,.slice,.slice,.map]⟩:=rfl
theorem kd101:S.kd 101=some (.struct [(0,30),(1,97),(2,97),(3,22),(4,62),(5,99)]):=rfl
theorem tab106:S.tab 106=some ⟨.other,8,[.ptr]⟩:=rfl
theorem kd106:S.kd 106=some (.other):=rfl
theorem tab117:S.tab 117=some ⟨.other,16,[.iface]⟩:=rfl
theorem kd117:S.kd 117=some (.other):=rfl
theorem tab123:S.tab 123=some ⟨.struct [(0,2),(1,22)],32,[.int .i64,.slice]⟩:=rfl
theorem kd123:S.kd 123=some (.struct [(0,2),(1,22)]):=rfl
theorem tab124:S.tab 124=some ⟨.struct [(0,2),(1,22)],32,[.int .i64,.slice]⟩:=rfl
theorem kd124:S.kd 124=some (.struct [(0,2),(1,22)]):=rfl
theorem tab134:S.tab 134=some ⟨.int .u64,8,[.int .u64]⟩:=rfl
theorem kd134:S.kd 134=some (.int .u64):=rfl
theorem tab135:S.tab 135=some ⟨.slice 3,24,[.slice]⟩:=rfl
theorem kd135:S.kd 135=some (.slice 3):=rfl
theorem tab141:S.tab 141=some ⟨.struct [(0,3),(1,9)],24,[.int .i64,.str]⟩:=rfl
theorem kd141:S.kd 141=some (.struct [(0,3),(1,9)]):=rfl
theorem tab142:S.tab 142=some ⟨.struct [(0,3),(1,9)],24,[.int .i64,.str]⟩:=rfl
theorem kd142:S.kd 142=some (.struct [(0,3),(1,9)]):=rfl
theorem tab149:S.tab 149=some ⟨.struct [(0,30),(1,22),(2,3)],56,[.slice,.slice,.int .i64]⟩:=rfl
theorem kd149:S.kd 149=some (.struct [(0,30),(1,22),(2,3)]):=rfl
theorem tab150:S.tab 150=some ⟨.struct [(0,30),(1,22),(2,3)],56,[.slice,.slice,.int .i64]⟩:=rfl
theorem kd150:S.kd 150=some (.struct [(0,30),(1,22),(2,3)]):=rfl
theorem tab152:S.tab 152=some ⟨.int .i64,8,[.int .i64]⟩:=rfl
theorem kd152:S.kd 152=some (.int .i64):=rfl
theorem tab159:S.tab 159=some ⟨.int .u32,4,[.int .u32]⟩:=rfl
theorem kd159:S.kd 159=some (.int .u32):=rfl
theorem tab161:S.tab 161=some ⟨.int .u64,8,[.int .u64]⟩:=rfl
theorem kd161:S.kd 161=some (.int .u64):=rfl
theorem tab167:S.tab 167=some ⟨.other,8,[.ptr]⟩:=rfl
theorem kd167:S.kd 167=some (.other):=rfl
theorem tab169:S.tab 169=some ⟨.int .u64,8,[.int .u64]⟩:=rfl
theorem kd169:S.kd 169=some (.int .u64):=rfl
theorem tab173:S.tab 173=some ⟨.other,8,[.ptr]⟩:=rfl
theorem kd173:S.kd 173=some (.other):=rfl
theorem tab177:S.tab 177=some ⟨.slice 9,24,[.slice]⟩:=rfl
theorem kd177:S.kd 177=some (.slice 9):=rfl
theorem tab180:S.tab 180=some ⟨.other,8,[.ptr]⟩:=rfl
theorem kd180:S.kd 180=some (.other):=rfl
theorem tab188:S.tab 188=some ⟨.other,8,[.ptr]⟩:=rfl
theorem kd188:S.kd 188=some (.other):=rfl
theorem tab189:S.tab 189=some ⟨.slice 5,24,[.slice]⟩:=rfl
theorem kd189:S.kd 189=some (.slice 5):=rfl
theorem tab190:S.tab 190=some ⟨.struct [(0,188),(1,189)],32,[.ptr,.slice]⟩:=rfl
theorem kd190:S.kd 190=some (.struct [(0,188),(1,189)]):=rfl
theorem tab191:S.tab 191=some ⟨.struct [(0,188),(1,189)],32,[.ptr,.slice]⟩:=rfl
theorem kd191:S.kd 191=some (.struct [(0,188),(1,189)]):=rfl
theorem tab194:S.tab 194=some ⟨.other,16,[.iface]⟩:=rfl
theorem kd194:S.kd 194=some (.other):=rfl
theorem tab198:S.tab 198=some ⟨.other,8,[.ptr]⟩:=rfl
theorem kd198:S.kd 198=some (.other):=rfl
theorem tab200:S.tab 200=some ⟨.array 24 5,24,[.int .u8,.int .u8,.int .u8,.int .u8,.int .u8,.int .u8,.int .u8,.int .u8,.int .u8,.int .u8,.int .u8,.int .u8,.int .u8,.int .u8,.int .u8,.int .u8,.int .u8,.int .u8,.int .u8,.int .u8,.int .u8,.int .u8,.int .u8,.int .u8]⟩:=rfl
theorem kd200:S.kd 200=some (.array 24 5):=rfl
theorem tab204:S.tab 204=some ⟨.other,8,[.ptr]⟩:=rfl
theorem kd204:S.kd 204=some (.other):=rfl
theorem tab209:S.tab 209=some ⟨.array 20 161,160,[.int .u64,.int .u64,.int .u64,.int .u64,.int .u64,.int .u64,.int .u64,.int .u64,.int .u64,.int .u64,.int .u64,.int .u64,.int .u64,.int .u64,.int .u64,.int .u64,.int .u64,.int .u64,.int .u64,.int .u64]⟩:=rfl
theorem kd209:S.kd 209=some (.array 20 161):=rfl
theorem tab210:S.tab 210=some ⟨.array 65 5,65,[.int .u8,.int .u8,.int .u8,.int .u8,.int .u8,.int .u8,.int .u8,.int .u8,.int .u8,.int .u8,.int .u8,.int .u8,.int .u8,.int .u8,.int .u8,.int .u8,.int .u8,.int .u8,.int .u8,.int .u8,.int .u8,.int .u8,.int .u8,.int .u8,.int .u8,.int .u8,.int .u8,.int .u8,.int .u8,.int .u8,.int .u8,.int .u8,.int .u8,.int .u8,.int .u8,.int .u8,.int .u8,.int .u8,.int .u8,.int .u8,.int .u8,.int .u8,.int .u8,.int .u8,.int .u8,.int .u8,.int .u8,.int .u8,.int .u8,.int .u8,.int .u8,.int .u8,.int .u8,.int .u8,.int .u8,.int .u8,.int .u8,.int .u8,.int .u8,.int .u8,.int .u8,.int .u8,.int .u8,.int .u8,.int .u8]⟩:=rfl
theorem kd210:S.kd 210=some (.array 65 5):=rfl
theorem tab212:S.tab 212=some ⟨.array 32 5,32,[.int .u8,.int .u8,.int .u8,.int .u8,.int .u8,.int .u8,.int .u8,.int .u8,.int .u8,.int .u8,.int .u8,.int .u8,.int .u8,.int .u8,.int .u8,.int .u8,.int .u8,.int .u8,.int .u8,.int .u8,.int .u8,.int .u8,.int .u8,.int .u8,.int .u8,.int .u8,.int .u8,.int .u8,.int .u8,.int .u8,.int .u8,.int .u8]⟩:=rfl
theorem kd212:S.kd 212=some (.array 32 5):=rfl
theorem tab213:S.tab 213=some ⟨.array 64 5,64,[.int .u8,.int .u8,.int .u8,.int .u8,.int .u8,.int .u8,.int .u8,.int .u8,.int .u8,.int .u8,.int .u8,.int .u8,.int .u8,.int .u8,.int .u8,.int .u8,.int .u8,.int .u8,.int .u8,.int .u8,.int .u8,.int .u8,.int .u8,.int .u8,.int .u8,.int .u8,.int .u8,.int .u8,.int .u8,.int .u8,.int .u8,.int .u8,.int .u8,.int .u8,.int .u8,.int .u8,.int .u8,.int .u8,.int .u8,.int .u8,.int .u8,.int .u8,.int .u8,.int .u8,.int .u8,.int .u8,.int .u8,.int .u8,.int .u8,.int .u8,.int .u8,.int .u8,.int .u8,.int .u8,.int .u8,.int .u8,.int .u8,.int .u8,.int .u8,.int .u8,.int .u8,.int .u8,.int .u8,.int .u8]⟩:=rfl
theorem kd213:S.kd 213=some (.array 64 5):=rfl
attribute [go_sem] tab2 kd2 tab3 kd3 tab4 kd4 tab5 kd5 tab9 kd9 tab12 kd12 tab21 kd21 tab22 kd22 tab23 kd23 tab24 kd24 tab25 kd25 tab26 kd26 tab27 kd27 tab30 kd30 tab31 kd31 tab32 kd32 tab33 kd33 tab41 kd41 tab42 kd42 tab43 kd43 tab53 kd53 tab54 kd54 tab60 kd60 tab61 kd61 tab62 kd62 tab72 kd72 tab74 kd74 tab75 kd75 tab76 kd76 tab96 kd96 tab97 kd97 tab99 kd99 tab100 kd100 tab101 kd101 tab106 kd106 tab117 kd117 tab123 kd123 tab124 kd124 tab134 kd134 tab135 kd135 tab141 kd141 tab142 kd142 tab149 kd149 tab150 kd150 tab152 kd152 tab159 kd159 tab161 kd161 tab167 kd167 tab169 kd169 tab173 kd173 tab177 kd177 tab180 kd180 tab188 kd188 tab189 kd189 tab190 kd190 tab191 kd191 tab194 kd194 tab198 kd198 tab200 kd200 tab204 kd204 tab209 kd209 tab210 kd210 tab212 kd212 tab213 kd213
end Go.Proofs.YtcbgmeegbjokpaaGreatDoor

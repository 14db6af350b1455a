import Derived.Test.YtpennhjjnlkbiaaGreatProg
import Derived.Test.YtpennhjjnlkbiaaGreatLgK4
import Derived.KernelRfl
namespace Go.Proofs.YtpennhjjnlkbiaaGreat
open Go Go.Lg

def aXW:List (Nat×TyI):=[
 (2,⟨.int .i64,8,[.int .i64]⟩),
 (3,⟨.int .i64,8,[.int .i64]⟩),
 (4,⟨.bool,1,[.bool]⟩),
 (5,⟨.int .u8,1,[.int .u8]⟩),
 (9,⟨.string,16,[.str]⟩),
 (12,⟨.int .u64,8,[.int .u64]⟩),
 (21,⟨.int .i32,4,[.int .i32]⟩),
 (22,⟨.slice 2,24,[.slice]⟩),
 (23,⟨.struct [(0,22)],24,[.slice]⟩),
 (24,⟨.struct [(0,22)],24,[.slice]⟩),
 (25,⟨.slice 91,24,[.slice]⟩),
 (26,⟨.struct [(0,24),(1,25)],48,[.slice,.slice]⟩),
 (27,⟨.struct [(0,24),(1,25)],48,[.slice,.slice]⟩),
 (29,⟨.slice 71,24,[.slice]⟩),
 (32,⟨.struct [(0,22)],24,[.slice]⟩),
 (33,⟨.slice 92,24,[.slice]⟩),
 (34,⟨.struct [(0,32),(1,33)],48,[.slice,.slice]⟩),
 (35,⟨.struct [(0,32),(1,33)],48,[.slice,.slice]⟩),
 (47,⟨.slice 81,24,[.slice]⟩),
 (54,⟨.slice 94,24,[.slice]⟩),
 (70,⟨.struct [(0,2),(1,22)],32,[.int .i64,.slice]⟩),
 (71,⟨.struct [(0,2),(1,22)],32,[.int .i64,.slice]⟩),
 (76,⟨.slice 22,24,[.slice]⟩),
 (80,⟨.struct [(0,22),(1,22),(2,29),(3,22)],96,[.slice,.slice,.slice,.slice]⟩),
 (81,⟨.struct [(0,22),(1,22),(2,29),(3,22)],96,[.slice,.slice,.slice,.slice]⟩),
 (90,⟨.struct [(0,22),(1,22)],48,[.slice,.slice]⟩),
 (91,⟨.struct [(0,22),(1,22)],48,[.slice,.slice]⟩),
 (92,⟨.struct [(0,22),(1,22)],48,[.slice,.slice]⟩),
 (93,⟨.struct [(0,22),(1,22),(2,2),(3,2)],64,[.slice,.slice,.int .i64,.int .i64]⟩),
 (94,⟨.struct [(0,22),(1,22),(2,2),(3,2)],64,[.slice,.slice,.int .i64,.int .i64]⟩),
 (105,⟨.slice 4,24,[.slice]⟩),
 (117,⟨.slice 105,24,[.slice]⟩),
 (134,⟨.other,8,[.ptr]⟩),
 (135,⟨.struct [(0,76)],24,[.slice]⟩),
 (136,⟨.struct [(0,76)],24,[.slice]⟩),
 (139,⟨.other,8,[.ptr]⟩),
 (140,⟨.array 48 22,1152,[.slice,.slice,.slice,.slice,.slice,.slice,.slice,.slice,.slice,.slice,.slice,.slice,.slice,.slice,.slice,.slice,.slice,.slice,.slice,.slice,.slice,.slice,.slice,.slice,.slice,.slice,.slice,.slice,.slice,.slice,.slice,.slice,.slice,.slice,.slice,.slice,.slice,.slice,.slice,.slice,.slice,.slice,.slice,.slice,.slice,.slice,.slice,.slice]⟩),
 (141,⟨.struct [(0,32),(1,140)],1176,[.slice,.slice,.slice,.slice,.slice,.slice,.slice,.slice,.slice,.slice,.slice,.slice,.slice,.slice,.slice,.slice,.slice,.slice,.slice,.slice,.slice,.slice,.slice,.slice,.slice,.slice,.slice,.slice,.slice,.slice,.slice,.slice,.slice,.slice,.slice,.slice,.slice,.slice,.slice,.slice,.slice,.slice,.slice,.slice,.slice,.slice,.slice,.slice,.slice]⟩),
 (142,⟨.struct [(0,32),(1,140)],1176,[.slice,.slice,.slice,.slice,.slice,.slice,.slice,.slice,.slice,.slice,.slice,.slice,.slice,.slice,.slice,.slice,.slice,.slice,.slice,.slice,.slice,.slice,.slice,.slice,.slice,.slice,.slice,.slice,.slice,.slice,.slice,.slice,.slice,.slice,.slice,.slice,.slice,.slice,.slice,.slice,.slice,.slice,.slice,.slice,.slice,.slice,.slice,.slice,.slice]⟩),
 (145,⟨.slice 3,24,[.slice]⟩),
 (150,⟨.int .u64,8,[.int .u64]⟩),
 (158,⟨.struct [],0,[]⟩),
 (159,⟨.struct [],0,[]⟩),
 (170,⟨.int .u32,4,[.int .u32]⟩),
 (173,⟨.int .u64,8,[.int .u64]⟩),
 (176,⟨.struct [(0,32),(1,22),(2,3)],56,[.slice,.slice,.int .i64]⟩),
 (177,⟨.struct [(0,32),(1,22),(2,3)],56,[.slice,.slice,.int .i64]⟩),
 (180,⟨.other,8,[.ptr]⟩),
 (181,⟨.array 48 4,48,[.bool,.bool,.bool,.bool,.bool,.bool,.bool,.bool,.bool,.bool,.bool,.bool,.bool,.bool,.bool,.bool,.bool,.bool,.bool,.bool,.bool,.bool,.bool,.bool,.bool,.bool,.bool,.bool,.bool,.bool,.bool,.bool,.bool,.bool,.bool,.bool,.bool,.bool,.bool,.bool,.bool,.bool,.bool,.bool,.bool,.bool,.bool,.bool]⟩),
 (183,⟨.struct [(0,2),(1,22)],32,[.int .i64,.slice]⟩),
 (187,⟨.other,8,[.ptr]⟩),
 (200,⟨.other,8,[.ptr]⟩),
 (206,⟨.other,8,[.ptr]⟩)]
theorem aPr:(aXW.all λp=>aBN Tryz.prog p.1 p.2)=true:=by kernel_rfl
theorem mixed:Tryz.prog.follows .mixedOrders=true:=by kernel_rfl
noncomputable def S:Setup:={P:=Tryz.prog,tab:=Lg.look aXW,ok:=aYJ aPr,mixed:=mixed}
theorem aZq:S.tab 2=some ⟨.int .i64,8,[.int .i64]⟩:=rfl
theorem kd2:S.kd 2=some (.int .i64):=rfl
theorem aZn:S.tab 3=some ⟨.int .i64,8,[.int .i64]⟩:=rfl
theorem kd3:S.kd 3=some (.int .i64):=rfl
theorem aZA:S.tab 4=some ⟨.bool,1,[.bool]⟩:=rfl
theorem kd4:S.kd 4=some (.bool):=rfl
theorem aZi:S.tab 5=some ⟨.int .u8,1,[.int .u8]⟩:=rfl
theorem kd5:S.kd 5=some (.int .u8):=rfl
theorem aZa:S.tab 9=some ⟨.string,16,[.str]⟩:=rfl
theorem kd9:S.kd 9=some (.string):=rfl
theorem aXR:S.tab 12=some ⟨.int .u64,8,[.int .u64]⟩:=rfl
theorem aZr:S.kd 12=some (.int .u64):=rfl
theorem aYu:S.tab 21=some ⟨.int .i32,4,[.int .i32]⟩:=rfl
theorem aZb:S.kd 21=some (.int .i32):=rfl
theorem aYo:S.tab 22=some ⟨.slice 2,24,[.slice]⟩:=rfl
theorem aY7:S.kd 22=some (.slice 2):=rfl
theorem aYs:S.tab 23=some ⟨.struct [(0,22)],24,[.slice]⟩:=rfl
theorem aZf:S.kd 23=some (.struct [(0,22)]):=rfl
theorem aYA:S.tab 24=some ⟨.struct [(0,22)],24,[.slice]⟩:=rfl
theorem aZg:S.kd 24=some (.struct [(0,22)]):=rfl
theorem aXT:S.tab 25=some ⟨.slice 91,24,[.slice]⟩:=rfl
theorem aZj:S.kd 25=some (.slice 91):=rfl
theorem aXV:S.tab 26=some ⟨.struct [(0,24),(1,25)],48,[.slice,.slice]⟩:=rfl
theorem aZl:S.kd 26=some (.struct [(0,24),(1,25)]):=rfl
theorem aWi:S.tab 27=some ⟨.struct [(0,24),(1,25)],48,[.slice,.slice]⟩:=rfl
theorem aZv:S.kd 27=some (.struct [(0,24),(1,25)]):=rfl
theorem aYO:S.tab 29=some ⟨.slice 71,24,[.slice]⟩:=rfl
theorem aZx:S.kd 29=some (.slice 71):=rfl
theorem aX0:S.tab 32=some ⟨.struct [(0,22)],24,[.slice]⟩:=rfl
theorem aY8:S.kd 32=some (.struct [(0,22)]):=rfl
theorem aYX:S.tab 33=some ⟨.slice 92,24,[.slice]⟩:=rfl
theorem aZm:S.kd 33=some (.slice 92):=rfl
theorem aYD:S.tab 34=some ⟨.struct [(0,32),(1,33)],48,[.slice,.slice]⟩:=rfl
theorem aZt:S.kd 34=some (.struct [(0,32),(1,33)]):=rfl
theorem aYB:S.tab 35=some ⟨.struct [(0,32),(1,33)],48,[.slice,.slice]⟩:=rfl
theorem aZB:S.kd 35=some (.struct [(0,32),(1,33)]):=rfl
theorem aYg:S.tab 47=some ⟨.slice 81,24,[.slice]⟩:=rfl
theorem aZk:S.kd 47=some (.slice 81):=rfl
theorem aY6:S.tab 54=some ⟨.slice 94,24,[.slice]⟩:=rfl
theorem aY9:S.kd 54=some (.slice 94):=rfl
theorem aYp:S.tab 70=some ⟨.struct [(0,2),(1,22)],32,[.int .i64,.slice]⟩:=rfl
theorem aZh:S.kd 70=some (.struct [(0,2),(1,22)]):=rfl
theorem aX5:S.tab 71=some ⟨.struct [(0,2),(1,22)],32,[.int .i64,.slice]⟩:=rfl
theorem aZy:S.kd 71=some (.struct [(0,2),(1,22)]):=rfl
theorem aX1:S.tab 76=some ⟨.slice 22,24,[.slice]⟩:=rfl
theorem aZu:S.kd 76=some (.slice 22):=rfl
theorem aYm:S.tab 80=some ⟨.struct [(0,22),(1,22),(2,29),(3,22)],96,[.slice,.slice,.slice,.slice]⟩:=rfl
theorem aZd:S.kd 80=some (.struct [(0,22),(1,22),(2,29),(3,22)]):=rfl
theorem aYW:S.tab 81=some ⟨.struct [(0,22),(1,22),(2,29),(3,22)],96,[.slice,.slice,.slice,.slice]⟩:=rfl
theorem aZc:S.kd 81=some (.struct [(0,22),(1,22),(2,29),(3,22)]):=rfl
theorem aYj:S.tab 90=some ⟨.struct [(0,22),(1,22)],48,[.slice,.slice]⟩:=rfl
theorem aZo:S.kd 90=some (.struct [(0,22),(1,22)]):=rfl
theorem aWf:S.tab 91=some ⟨.struct [(0,22),(1,22)],48,[.slice,.slice]⟩:=rfl
theorem aZe:S.kd 91=some (.struct [(0,22),(1,22)]):=rfl
theorem aYv:S.tab 92=some ⟨.struct [(0,22),(1,22)],48,[.slice,.slice]⟩:=rfl
theorem aZp:S.kd 92=some (.struct [(0,22),(1,22)]):=rfl
theorem aYf:S.tab 93=some ⟨.struct [(0,22),(1,22),(2,2),(3,2)],64,[.slice,.slice,.int .i64,.int .i64]⟩:=rfl
theorem aZs:S.kd 93=some (.struct [(0,22),(1,22),(2,2),(3,2)]):=rfl
theorem aY1:S.tab 94=some ⟨.struct [(0,22),(1,22),(2,2),(3,2)],64,[.slice,.slice,.int .i64,.int .i64]⟩:=rfl
theorem aZw:S.kd 94=some (.struct [(0,22),(1,22),(2,2),(3,2)]):=rfl
theorem aWt:S.tab 105=some ⟨.slice 4,24,[.slice]⟩:=rfl
theorem aXX:S.kd 105=some (.slice 4):=rfl
theorem aXd:S.tab 117=some ⟨.slice 105,24,[.slice]⟩:=rfl
theorem aYt:S.kd 117=some (.slice 105):=rfl
theorem aXr:S.tab 134=some ⟨.other,8,[.ptr]⟩:=rfl
theorem aY2:S.kd 134=some (.other):=rfl
theorem aXC:S.tab 135=some ⟨.struct [(0,76)],24,[.slice]⟩:=rfl
theorem aYd:S.kd 135=some (.struct [(0,76)]):=rfl
theorem aWT:S.tab 136=some ⟨.struct [(0,76)],24,[.slice]⟩:=rfl
theorem aYw:S.kd 136=some (.struct [(0,76)]):=rfl
theorem aXn:S.tab 139=some ⟨.other,8,[.ptr]⟩:=rfl
theorem aYa:S.kd 139=some (.other):=rfl
theorem aWQ:S.tab 140=some ⟨.array 48 22,1152,[.slice,.slice,.slice,.slice,.slice,.slice,.slice,.slice,.slice,.slice,.slice,.slice,.slice,.slice,.slice,.slice,.slice,.slice,.slice,.slice,.slice,.slice,.slice,.slice,.slice,.slice,.slice,.slice,.slice,.slice,.slice,.slice,.slice,.slice,.slice,.slice,.slice,.slice,.slice,.slice,.slice,.slice,.slice,.slice,.slice,.slice,.slice,.slice]⟩:=rfl
theorem aYG:S.kd 140=some (.array 48 22):=rfl
theorem aWm:S.tab 141=some ⟨.struct [(0,32),(1,140)],1176,[.slice,.slice,.slice,.slice,.slice,.slice,.slice,.slice,.slice,.slice,.slice,.slice,.slice,.slice,.slice,.slice,.slice,.slice,.slice,.slice,.slice,.slice,.slice,.slice,.slice,.slice,.slice,.slice,.slice,.slice,.slice,.slice,.slice,.slice,.slice,.slice,.slice,.slice,.slice,.slice,.slice,.slice,.slice,.slice,.slice,.slice,.slice,.slice,.slice]⟩:=rfl
theorem aY5:S.kd 141=some (.struct [(0,32),(1,140)]):=rfl
theorem aXB:S.tab 142=some ⟨.struct [(0,32),(1,140)],1176,[.slice,.slice,.slice,.slice,.slice,.slice,.slice,.slice,.slice,.slice,.slice,.slice,.slice,.slice,.slice,.slice,.slice,.slice,.slice,.slice,.slice,.slice,.slice,.slice,.slice,.slice,.slice,.slice,.slice,.slice,.slice,.slice,.slice,.slice,.slice,.slice,.slice,.slice,.slice,.slice,.slice,.slice,.slice,.slice,.slice,.slice,.slice,.slice,.slice]⟩:=rfl
theorem aX2:S.kd 142=some (.struct [(0,32),(1,140)]):=rfl
theorem aXa:S.tab 145=some ⟨.slice 3,24,[.slice]⟩:=rfl
theorem aYR:S.kd 145=some (.slice 3):=rfl
theorem aW6:S.tab 150=some ⟨.int .u64,8,[.int .u64]⟩:=rfl
theorem aXP:S.kd 150=some (.int .u64):=rfl
theorem aW3:S.tab 158=some ⟨.struct [],0,[]⟩:=rfl
theorem aYF:S.kd 158=some (.struct []):=rfl
theorem aXj:S.tab 159=some ⟨.struct [],0,[]⟩:=rfl
theorem aX4:S.kd 159=some (.struct []):=rfl
theorem aW4:S.tab 170=some ⟨.int .u32,4,[.int .u32]⟩:=rfl
theorem aYL:S.kd 170=some (.int .u32):=rfl
theorem aXs:S.tab 173=some ⟨.int .u64,8,[.int .u64]⟩:=rfl
theorem aX9:S.kd 173=some (.int .u64):=rfl
theorem aXo:S.tab 176=some ⟨.struct [(0,32),(1,22),(2,3)],56,[.slice,.slice,.int .i64]⟩:=rfl
theorem aYV:S.kd 176=some (.struct [(0,32),(1,22),(2,3)]):=rfl
theorem aW1:S.tab 177=some ⟨.struct [(0,32),(1,22),(2,3)],56,[.slice,.slice,.int .i64]⟩:=rfl
theorem aXN:S.kd 177=some (.struct [(0,32),(1,22),(2,3)]):=rfl
theorem aWD:S.tab 180=some ⟨.other,8,[.ptr]⟩:=rfl
theorem aY3:S.kd 180=some (.other):=rfl
theorem aWn:S.tab 181=some ⟨.array 48 4,48,[.bool,.bool,.bool,.bool,.bool,.bool,.bool,.bool,.bool,.bool,.bool,.bool,.bool,.bool,.bool,.bool,.bool,.bool,.bool,.bool,.bool,.bool,.bool,.bool,.bool,.bool,.bool,.bool,.bool,.bool,.bool,.bool,.bool,.bool,.bool,.bool,.bool,.bool,.bool,.bool,.bool,.bool,.bool,.bool,.bool,.bool,.bool,.bool]⟩:=rfl
theorem aYi:S.kd 181=some (.array 48 4):=rfl
theorem aWE:S.tab 183=some ⟨.struct [(0,2),(1,22)],32,[.int .i64,.slice]⟩:=rfl
theorem aYq:S.kd 183=some (.struct [(0,2),(1,22)]):=rfl
theorem aXw:S.tab 187=some ⟨.other,8,[.ptr]⟩:=rfl
theorem aYZ:S.kd 187=some (.other):=rfl
theorem aWx:S.tab 200=some ⟨.other,8,[.ptr]⟩:=rfl
theorem aX7:S.kd 200=some (.other):=rfl
theorem aXi:S.tab 206=some ⟨.other,8,[.ptr]⟩:=rfl
theorem aYS:S.kd 206=some (.other):=rfl
attribute [go_sem] aZq kd2 aZn kd3 aZA kd4 aZi kd5 aZa kd9 aXR aZr aYu aZb aYo aY7 aYs aZf aYA aZg aXT aZj aXV aZl aWi aZv aYO aZx aX0 aY8 aYX aZm aYD aZt aYB aZB aYg aZk aY6 aY9 aYp aZh aX5 aZy aX1 aZu aYm aZd aYW aZc aYj aZo aWf aZe aYv aZp aYf aZs aY1 aZw aWt aXX aXd aYt aXr aY2 aXC aYd aWT aYw aXn aYa aWQ aYG aWm aY5 aXB aX2 aXa aYR aW6 aXP aW3 aYF aXj aX4 aW4 aYL aXs aX9 aXo aYV aW1 aXN aWD aY3 aWn aYi aWE aYq aXw aYZ aWx aX7 aXi aYS
end Go.Proofs.YtpennhjjnlkbiaaGreat

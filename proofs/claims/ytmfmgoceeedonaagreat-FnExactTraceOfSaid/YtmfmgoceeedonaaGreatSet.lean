import Derived.Test.YtmfmgoceeedonaaGreatProg
import Derived.Test.YtmfmgoceeedonaaGreatLgK5
import Derived.KernelRfl
namespace Go.Proofs.YtmfmgoceeedonaaGreat
open Go Go.Lg

def aZU:List (Nat×TyI):=[
 (2,⟨.int .i64,8,[.int .i64]⟩),
 (3,⟨.int .i64,8,[.int .i64]⟩),
 (4,⟨.bool,1,[.bool]⟩),
 (5,⟨.int .u8,1,[.int .u8]⟩),
 (9,⟨.string,16,[.str]⟩),
 (12,⟨.int .u64,8,[.int .u64]⟩),
 (21,⟨.int .i32,4,[.int .i32]⟩),
 (22,⟨.slice 2,24,[.slice]⟩),
 (23,⟨.struct [(0,22)],24,[.slice]⟩),
 (24,⟨.struct [(0,22)],24,[.slice]⟩),
 (25,⟨.slice 74,24,[.slice]⟩),
 (26,⟨.struct [(0,24),(1,25)],48,[.slice,.slice]⟩),
 (27,⟨.struct [(0,24),(1,25)],48,[.slice,.slice]⟩),
 (29,⟨.slice 53,24,[.slice]⟩),
 (32,⟨.struct [(0,22)],24,[.slice]⟩),
 (33,⟨.slice 76,24,[.slice]⟩),
 (34,⟨.struct [(0,32),(1,33)],48,[.slice,.slice]⟩),
 (35,⟨.struct [(0,32),(1,33)],48,[.slice,.slice]⟩),
 (44,⟨.slice 78,24,[.slice]⟩),
 (47,⟨.slice 22,24,[.slice]⟩),
 (51,⟨.slice 108,24,[.slice]⟩),
 (52,⟨.struct [(0,22),(1,22),(2,51),(3,22)],96,[.slice,.slice,.slice,.slice]⟩),
 (53,⟨.struct [(0,22),(1,22),(2,51),(3,22)],96,[.slice,.slice,.slice,.slice]⟩),
 (73,⟨.struct [(0,22),(1,22)],48,[.slice,.slice]⟩),
 (74,⟨.struct [(0,22),(1,22)],48,[.slice,.slice]⟩),
 (76,⟨.struct [(0,22),(1,22)],48,[.slice,.slice]⟩),
 (77,⟨.struct [(0,22),(1,22),(2,2),(3,2)],64,[.slice,.slice,.int .i64,.int .i64]⟩),
 (78,⟨.struct [(0,22),(1,22),(2,2),(3,2)],64,[.slice,.slice,.int .i64,.int .i64]⟩),
 (91,⟨.slice 92,24,[.slice]⟩),
 (92,⟨.slice 4,24,[.slice]⟩),
 (107,⟨.struct [(0,2),(1,22)],32,[.int .i64,.slice]⟩),
 (108,⟨.struct [(0,2),(1,22)],32,[.int .i64,.slice]⟩),
 (114,⟨.other,8,[.ptr]⟩),
 (115,⟨.struct [(0,47)],24,[.slice]⟩),
 (116,⟨.struct [(0,47)],24,[.slice]⟩),
 (129,⟨.other,8,[.ptr]⟩),
 (130,⟨.array 48 22,1152,[.slice,.slice,.slice,.slice,.slice,.slice,.slice,.slice,.slice,.slice,.slice,.slice,.slice,.slice,.slice,.slice,.slice,.slice,.slice,.slice,.slice,.slice,.slice,.slice,.slice,.slice,.slice,.slice,.slice,.slice,.slice,.slice,.slice,.slice,.slice,.slice,.slice,.slice,.slice,.slice,.slice,.slice,.slice,.slice,.slice,.slice,.slice,.slice]⟩),
 (131,⟨.struct [(0,32),(1,130)],1176,[.slice,.slice,.slice,.slice,.slice,.slice,.slice,.slice,.slice,.slice,.slice,.slice,.slice,.slice,.slice,.slice,.slice,.slice,.slice,.slice,.slice,.slice,.slice,.slice,.slice,.slice,.slice,.slice,.slice,.slice,.slice,.slice,.slice,.slice,.slice,.slice,.slice,.slice,.slice,.slice,.slice,.slice,.slice,.slice,.slice,.slice,.slice,.slice,.slice]⟩),
 (132,⟨.struct [(0,32),(1,130)],1176,[.slice,.slice,.slice,.slice,.slice,.slice,.slice,.slice,.slice,.slice,.slice,.slice,.slice,.slice,.slice,.slice,.slice,.slice,.slice,.slice,.slice,.slice,.slice,.slice,.slice,.slice,.slice,.slice,.slice,.slice,.slice,.slice,.slice,.slice,.slice,.slice,.slice,.slice,.slice,.slice,.slice,.slice,.slice,.slice,.slice,.slice,.slice,.slice,.slice]⟩),
 (136,⟨.slice 3,24,[.slice]⟩),
 (153,⟨.struct [],0,[]⟩),
 (154,⟨.struct [],0,[]⟩),
 (157,⟨.int .u64,8,[.int .u64]⟩),
 (168,⟨.struct [(0,32),(1,22),(2,3)],56,[.slice,.slice,.int .i64]⟩),
 (169,⟨.struct [(0,32),(1,22),(2,3)],56,[.slice,.slice,.int .i64]⟩),
 (172,⟨.other,8,[.ptr]⟩),
 (173,⟨.array 48 4,48,[.bool,.bool,.bool,.bool,.bool,.bool,.bool,.bool,.bool,.bool,.bool,.bool,.bool,.bool,.bool,.bool,.bool,.bool,.bool,.bool,.bool,.bool,.bool,.bool,.bool,.bool,.bool,.bool,.bool,.bool,.bool,.bool,.bool,.bool,.bool,.bool,.bool,.bool,.bool,.bool,.bool,.bool,.bool,.bool,.bool,.bool,.bool,.bool]⟩),
 (174,⟨.int .u32,4,[.int .u32]⟩),
 (177,⟨.int .u64,8,[.int .u64]⟩),
 (181,⟨.struct [(0,2),(1,22)],32,[.int .i64,.slice]⟩),
 (185,⟨.other,8,[.ptr]⟩),
 (199,⟨.other,8,[.ptr]⟩),
 (205,⟨.other,8,[.ptr]⟩)]
theorem aRr:(aZU.all λp=>aDA Tryz.prog p.1 p.2)=true:=by kernel_rfl
theorem mixed:Tryz.prog.follows .mixedOrders=true:=by kernel_rfl
noncomputable def S:Setup:={P:=Tryz.prog,tab:=Lg.look aZU,ok:=bAj aRr,mixed:=mixed}
theorem bAz:S.tab 2=some ⟨.int .i64,8,[.int .i64]⟩:=rfl
theorem bAD:S.tab 3=some ⟨.int .i64,8,[.int .i64]⟩:=rfl
theorem kd3:S.kd 3=some (.int .i64):=rfl
theorem bAC:S.tab 4=some ⟨.bool,1,[.bool]⟩:=rfl
theorem kd4:S.kd 4=some (.bool):=rfl
theorem aZM:S.tab 22=some ⟨.slice 2,24,[.slice]⟩:=rfl
theorem bAJ:S.kd 22=some (.slice 2):=rfl
theorem bAg:S.tab 24=some ⟨.struct [(0,22)],24,[.slice]⟩:=rfl
theorem bAI:S.kd 24=some (.struct [(0,22)]):=rfl
theorem bAp:S.tab 25=some ⟨.slice 74,24,[.slice]⟩:=rfl
theorem bAK:S.kd 25=some (.slice 74):=rfl
theorem aXT:S.tab 27=some ⟨.struct [(0,24),(1,25)],48,[.slice,.slice]⟩:=rfl
theorem bAu:S.kd 27=some (.struct [(0,24),(1,25)]):=rfl
theorem bAx:S.kd 29=some (.slice 53):=rfl
theorem aZ7:S.tab 32=some ⟨.struct [(0,22)],24,[.slice]⟩:=rfl
theorem bAH:S.kd 32=some (.struct [(0,22)]):=rfl
theorem aZW:S.tab 33=some ⟨.slice 76,24,[.slice]⟩:=rfl
theorem bAv:S.kd 33=some (.slice 76):=rfl
theorem aZN:S.tab 35=some ⟨.struct [(0,32),(1,33)],48,[.slice,.slice]⟩:=rfl
theorem bAL:S.kd 35=some (.struct [(0,32),(1,33)]):=rfl
theorem bAA:S.kd 44=some (.slice 78):=rfl
theorem bAa:S.tab 47=some ⟨.slice 22,24,[.slice]⟩:=rfl
theorem bAw:S.kd 47=some (.slice 22):=rfl
theorem bAk:S.tab 51=some ⟨.slice 108,24,[.slice]⟩:=rfl
theorem bAG:S.kd 51=some (.slice 108):=rfl
theorem bAe:S.tab 53=some ⟨.struct [(0,22),(1,22),(2,51),(3,22)],96,[.slice,.slice,.slice,.slice]⟩:=rfl
theorem bAM:S.kd 53=some (.struct [(0,22),(1,22),(2,51),(3,22)]):=rfl
theorem aYa:S.tab 74=some ⟨.struct [(0,22),(1,22)],48,[.slice,.slice]⟩:=rfl
theorem bAF:S.kd 74=some (.struct [(0,22),(1,22)]):=rfl
theorem bAh:S.tab 76=some ⟨.struct [(0,22),(1,22)],48,[.slice,.slice]⟩:=rfl
theorem bAO:S.kd 76=some (.struct [(0,22),(1,22)]):=rfl
theorem bAi:S.tab 78=some ⟨.struct [(0,22),(1,22),(2,2),(3,2)],64,[.slice,.slice,.int .i64,.int .i64]⟩:=rfl
theorem bAN:S.kd 78=some (.struct [(0,22),(1,22),(2,2),(3,2)]):=rfl
theorem bAE:S.kd 91=some (.slice 92):=rfl
theorem bAn:S.tab 92=some ⟨.slice 4,24,[.slice]⟩:=rfl
theorem bAB:S.kd 92=some (.slice 4):=rfl
theorem aYu:S.tab 108=some ⟨.struct [(0,2),(1,22)],32,[.int .i64,.slice]⟩:=rfl
theorem aZK:S.kd 108=some (.struct [(0,2),(1,22)]):=rfl
theorem aYv:S.tab 116=some ⟨.struct [(0,47)],24,[.slice]⟩:=rfl
theorem aZ8:S.kd 116=some (.struct [(0,47)]):=rfl
theorem aY7:S.tab 130=some ⟨.array 48 22,1152,[.slice,.slice,.slice,.slice,.slice,.slice,.slice,.slice,.slice,.slice,.slice,.slice,.slice,.slice,.slice,.slice,.slice,.slice,.slice,.slice,.slice,.slice,.slice,.slice,.slice,.slice,.slice,.slice,.slice,.slice,.slice,.slice,.slice,.slice,.slice,.slice,.slice,.slice,.slice,.slice,.slice,.slice,.slice,.slice,.slice,.slice,.slice,.slice]⟩:=rfl
theorem aZI:S.kd 130=some (.array 48 22):=rfl
theorem aY5:S.tab 132=some ⟨.struct [(0,32),(1,130)],1176,[.slice,.slice,.slice,.slice,.slice,.slice,.slice,.slice,.slice,.slice,.slice,.slice,.slice,.slice,.slice,.slice,.slice,.slice,.slice,.slice,.slice,.slice,.slice,.slice,.slice,.slice,.slice,.slice,.slice,.slice,.slice,.slice,.slice,.slice,.slice,.slice,.slice,.slice,.slice,.slice,.slice,.slice,.slice,.slice,.slice,.slice,.slice,.slice,.slice]⟩:=rfl
theorem bAt:S.kd 132=some (.struct [(0,32),(1,130)]):=rfl
theorem bAb:S.kd 136=some (.slice 3):=rfl
theorem aZA:S.tab 154=some ⟨.struct [],0,[]⟩:=rfl
theorem aZo:S.tab 157=some ⟨.int .u64,8,[.int .u64]⟩:=rfl
theorem bAs:S.kd 157=some (.int .u64):=rfl
theorem aYD:S.tab 169=some ⟨.struct [(0,32),(1,22),(2,3)],56,[.slice,.slice,.int .i64]⟩:=rfl
theorem bAo:S.kd 169=some (.struct [(0,32),(1,22),(2,3)]):=rfl
theorem aZs:S.tab 173=some ⟨.array 48 4,48,[.bool,.bool,.bool,.bool,.bool,.bool,.bool,.bool,.bool,.bool,.bool,.bool,.bool,.bool,.bool,.bool,.bool,.bool,.bool,.bool,.bool,.bool,.bool,.bool,.bool,.bool,.bool,.bool,.bool,.bool,.bool,.bool,.bool,.bool,.bool,.bool,.bool,.bool,.bool,.bool,.bool,.bool,.bool,.bool,.bool,.bool,.bool,.bool]⟩:=rfl
theorem aZ6:S.kd 173=some (.array 48 4):=rfl
theorem aZL:S.kd 181=some (.struct [(0,2),(1,22)]):=rfl
attribute [go_sem] bAz bAD kd3 bAC kd4 aZM bAJ bAg bAI bAp bAK aXT bAu bAx aZ7 bAH aZW bAv aZN bAL bAA bAa bAw bAk bAG bAe bAM aYa bAF bAh bAO bAi bAN bAE bAn bAB aYu aZK aYv aZ8 aY7 aZI aY5 bAt bAb aZA aZo bAs aYD bAo aZs aZ6 aZL
end Go.Proofs.YtmfmgoceeedonaaGreat

/- Part 7 of a proof: an abstract memory for the translated code, and what the functions that the law reaches do over it. -/
import Derived.Shelf.SlGeneric
import Derived.Shelf.Small.Strs
import Derived.Shelf.SlSortCmp.Whole1
import Derived.Test.YtbhdjfhhgnoiiaaGreatDoorProg
import Derived.Test.YtbhdjfhhgnoiiaaGreatDoorS6
set_option linter.unusedSimpArgs false
set_option linter.unusedVariables false
namespace Go.Proofs
open Go.Shelf
def lays137_ren:Go.Shelf.Ren:=⟨fun | 137=>245 | 217=>273 | 266=>288 | n=>n,fun | 9=>9 | 5=>5 | 3=>3 | n=>n,fun | n=>n⟩
theorem lays137:Go.Proofs.Lays.n137 Tryz.prog lays137_ren:={
 mixed:=by kernel_rfl
 f137:=Tryz.func245.trans (congrArg some (by kernel_rfl))
 f217:=Tryz.func273.trans (congrArg some (by kernel_rfl))
 f266:=Tryz.func288.trans (congrArg some (by kernel_rfl))
 t3:=Tryz.underlying3
 a3:=Tryz.isAgg3
 z3:=Tryz.sizeOf3
 v3:=Tryz.zeroValue3
 t5:=Tryz.underlying5
 a5:=Tryz.isAgg5
 z5:=Tryz.sizeOf5
 v5:=Tryz.zeroValue5
 t9:=Tryz.underlying9
 a9:=Tryz.isAgg9
 z9:=Tryz.sizeOf9
 v9:=Tryz.zeroValue9 }
def lays80_ren:Go.Shelf.Ren:=⟨fun | 6=>80 | 15=>139 | 14=>138 | 28=>199 | 29=>200 | 20=>191 | 21=>192 | 22=>193 | 23=>194 | 24=>195 | 25=>196 | 26=>197 | 27=>198 | 46=>246 | 47=>247 | 48=>248 | 49=>249 | 50=>250 | 57=>274 | n=>n,fun | 22=>37 | 24=>3 | 25=>139 | 3=>3 | 39=>163 | 0=>0 | 53=>233 | 55=>235 | 4=>4 | 46=>227 | 45=>226 | 50=>133 | 5=>5 | 9=>9 | 66=>258 | 70=>212 | 76=>282 | 77=>92 | n=>n,fun | n=>n⟩
theorem lays80:Go.Proofs.SlLaysF.n6 Tryz.prog lays80_ren:={
 mixed:=by kernel_rfl
 f6:=⟨Tryz.f80.name,by decide,Tryz.func80.trans (congrArg some (by kernel_rfl))⟩
 f14:=⟨Tryz.f138.name,by decide,Tryz.func138.trans (congrArg some (by kernel_rfl))⟩
 f15:=Tryz.func139.trans (congrArg some (by kernel_rfl))
 f20:=⟨Tryz.f191.name,by decide,Tryz.func191.trans (congrArg some (by kernel_rfl))⟩
 f21:=⟨Tryz.f192.name,by decide,Tryz.func192.trans (congrArg some (by kernel_rfl))⟩
 f22:=⟨Tryz.f193.name,by decide,Tryz.func193.trans (congrArg some (by kernel_rfl))⟩
 f23:=⟨Tryz.f194.name,by decide,Tryz.func194.trans (congrArg some (by kernel_rfl))⟩
 f24:=⟨Tryz.f195.name,by decide,Tryz.func195.trans (congrArg some (by kernel_rfl))⟩
 f25:=⟨Tryz.f196.name,by decide,Tryz.func196.trans (congrArg some (by kernel_rfl))⟩
 f26:=⟨Tryz.f197.name,by decide,Tryz.func197.trans (congrArg some (by kernel_rfl))⟩
 f27:=⟨Tryz.f198.name,by decide,Tryz.func198.trans (congrArg some (by kernel_rfl))⟩
 f28:=Tryz.func199.trans (congrArg some (by kernel_rfl))
 f29:=Tryz.func200.trans (congrArg some (by kernel_rfl))
 f46:=⟨Tryz.f246.name,by decide,Tryz.func246.trans (congrArg some (by kernel_rfl))⟩
 f47:=Tryz.func247.trans (congrArg some (by kernel_rfl))
 f48:=Tryz.func248.trans (congrArg some (by kernel_rfl))
 f49:=⟨Tryz.f249.name,by decide,Tryz.func249.trans (congrArg some (by kernel_rfl))⟩
 f50:=⟨Tryz.f250.name,by decide,Tryz.func250.trans (congrArg some (by kernel_rfl))⟩
 f57:=⟨Tryz.f274.name,by decide,Tryz.func274.trans (congrArg some (by kernel_rfl))⟩
 t0:=Tryz.underlying0
 a0:=Tryz.isAgg0
 z0:=Tryz.sizeOf0
 v0:=Tryz.zeroValue0
 t3:=Tryz.underlying3
 a3:=Tryz.isAgg3
 z3:=Tryz.sizeOf3
 v3:=Tryz.zeroValue3
 t4:=Tryz.underlying4
 a4:=Tryz.isAgg4
 z4:=Tryz.sizeOf4
 v4:=Tryz.zeroValue4
 t5:=Tryz.underlying5
 a5:=Tryz.isAgg5
 z5:=Tryz.sizeOf5
 v5:=Tryz.zeroValue5
 t9:=Tryz.underlying9
 a9:=Tryz.isAgg9
 z9:=Tryz.sizeOf9
 v9:=Tryz.zeroValue9
 t22:=Tryz.underlying37
 a22:=Tryz.isAgg37
 z22:=Tryz.sizeOf37
 v22:=Tryz.zeroValue37
 a24:=Tryz.isAgg3
 z24:=Tryz.sizeOf3
 t25:=Tryz.underlying139
 a25:=Tryz.isAgg139
 z25:=Tryz.sizeOf139
 v25:=Tryz.zeroValue139
 t39:=Tryz.underlying163
 a39:=Tryz.isAgg163
 z39:=Tryz.sizeOf163
 v39:=Tryz.zeroValue163
 t45:=Tryz.underlying226
 a45:=Tryz.isAgg226
 z45:=Tryz.sizeOf226
 v45:=Tryz.zeroValue226
 t46:=Tryz.underlying227
 a46:=Tryz.isAgg227
 z46:=Tryz.sizeOf227
 v46:=Tryz.zeroValue227
 t50:=Tryz.underlying133
 a50:=Tryz.isAgg133
 z50:=Tryz.sizeOf133
 v50:=Tryz.zeroValue133
 t53:=Tryz.underlying233
 a53:=Tryz.isAgg233
 z53:=Tryz.sizeOf233
 v53:=Tryz.zeroValue233
 t55:=Tryz.underlying235
 a55:=Tryz.isAgg235
 z55:=Tryz.sizeOf235
 v55:=Tryz.zeroValue235
 t66:=Tryz.underlying258
 a66:=Tryz.isAgg258
 z66:=Tryz.sizeOf258
 v66:=Tryz.zeroValue258
 t70:=Tryz.underlying212
 a70:=Tryz.isAgg212
 z70:=Tryz.sizeOf212
 v70:=Tryz.zeroValue212
 t76:=Tryz.underlying282
 a76:=Tryz.isAgg282
 z76:=Tryz.sizeOf282
 v76:=Tryz.zeroValue282
 t77:=Tryz.underlying92
 a77:=Tryz.isAgg92
 z77:=Tryz.sizeOf92
 v77:=Tryz.zeroValue92 }
end Go.Proofs
namespace Go.Tidy
open Go Go.Eng Go.Proofs
set_option maxRecDepth 100000
def x186:XCode:=.seq (.reg [oI 2 0])
 (.seq (.reg [oI 3 0])
 (.seq (.seq (.reg [oM 6 0,oN 7 6,oI 8 0])
 (.block 0 (.loop (.seq (.reg [oS 9 8 7])
 (.seq (.cond (.t 9) (.skip)
 (.exit 0))
 (.seq (.block 1 (.seq (.reg [oX 10 5 6 8,oA 11 5 10,⟨some 5,none,(.op (.alloc [(.int .i64 0),(.int .i64 0),(.int .i64 0),(.int .i64 0),(.int .i64 0)]))⟩,⟨none,none,(.op (.st 5 (.t 5) (.t 11)))⟩])
 (.reg [oM 12 3,oA 13 5 5,⟨some 14,none,(.call (.f 244) [(.t 13)])⟩,⟨some 15,none,(.op (.bin .add (.t 12) (.t 14)))⟩,oM 3 15])))
 (.reg [oD 16 8 1,oM 8 16])))))))
 (.seq (.reg [oM 17 3,oM 2 17])
 (.ret))))
def r186:List XRes:=[.t 2]
theorem res186:resolveF Tryz.prog 186 = some (x186,r186,18):=by kernel_rfl
def x187:XCode:=.seq (.reg [oB 2])
 (.seq (.seq (.reg [oM 6 0,⟨some 7,none,(.op (.bin .eql (.t 6) (.k (.string ⟨#[]⟩))))⟩,oM 8 7,xqM 9 8 false 0,⟨some 10,(some (8,false)),(.op (.lens (.t 9)))⟩,⟨some 11,(some (8,false)),(.op (.bin .gtr (.t 10) (.k (.int .i64 64))))⟩,oQ 12 8 11])
 (.cond (.t 12) (.seq (.reg [oB 2])
 (.ret))
 (.skip)))
 (.seq (.seq (.reg [oM 13 0,⟨some 14,none,(.op (.bts (.t 13)))⟩,oN 15 14,oI 16 0])
 (.block 0 (.loop (.seq (.reg [oS 17 16 15])
 (.seq (.cond (.t 17) (.skip)
 (.exit 0))
 (.seq (.block 1 (.seq (.reg [oM 18 16,oX 19 1 14 16,oL 20 19,oM 3 18,oM 4 20])
 (.seq (.reg [oM 21 4,⟨some 22,none,(.op (.bin .or (.t 21) (.k (.int .u8 32))))⟩,⟨some 23,none,(.op (.bin .geq (.t 22) (.k (.int .u8 97))))⟩,oM 24 23,xqM 25 24 true 4,⟨some 26,(some (24,true)),(.op (.bin .or (.t 25) (.k (.int .u8 32))))⟩,⟨some 27,(some (24,true)),(.op (.bin .leq (.t 26) (.k (.int .u8 122))))⟩,oP 28 24 27,oM 29 28,xqM 30 29 false 4,⟨some 31,(some (29,false)),(.op (.bin .eql (.t 30) (.k (.int .u8 95))))⟩,oQ 32 29 31,oM 5 32])
 (.seq (.reg [oM 33 5,⟨some 34,none,(.op (.un .not (.t 33)))⟩,oM 35 34,xqM 36 35 true 3,⟨some 37,(some (35,true)),(.op (.bin .eql (.t 36) (.k (.int .i64 0))))⟩,xqM 38 35 true 37,xqM 39 38 false 4,⟨some 40,(some (38,false)),(.call (.f 245) [(.k (.string ⟨#[48,49,50,51,52,53,54,55,56,57,46,36]⟩)),(.t 39)])⟩,⟨some 41,(some (38,false)),(.op (.bin .lss (.t 40) (.k (.int .i64 0))))⟩,⟨some 42,(some (35,true)),(.op (.pick (.t 38) (.k (.bool true)) (.t 41)))⟩,oP 43 35 42])
 (.cond (.t 43) (.seq (.reg [oB 2])
 (.ret))
 (.skip))))))
 (.reg [oD 44 16 1,oM 16 44])))))))
 (.seq (.reg [⟨some 2,none,(.op (.mov (.k (.bool true))))⟩])
 (.ret))))
def r187:List XRes:=[.t 2]
theorem res187:resolveF Tryz.prog 187 = some (x187,r187,45):=by kernel_rfl
def x245:XCode:=.seq (.reg [oI 4 0])
 (.seq (.reg [oM 5 0,oM 6 1,⟨some 7,none,(.call (.f 273) [(.t 5),(.t 6)])⟩,oM 4 7])
 (.ret))
def r245:List XRes:=[.t 4]
theorem res245:resolveF Tryz.prog 245 = some (x245,r245,8):=by kernel_rfl
def x132:XCode:=.seq (.reg [oO 1 0,oI 2 0,oB 3])
 (.seq (.block 0 (.seq (.reg [oF 5 0 1,oL 6 5,⟨some 7,none,(.call (.f 186) [(.t 6)])⟩,⟨some 8,none,(.op (.bin .gtr (.t 7) (.k (.int .i64 1048576))))⟩,oM 4 8])
 (.cond (.t 4) (.seq (.reg [oI 2 0,⟨some 3,none,(.op (.mov (.k (.bool true))))⟩])
 (.ret))
 (.seq (.reg [oF 10 1 1,oL 11 10,oN 12 11,⟨some 13,none,(.op (.bin .gtr (.t 12) (.k (.int .i64 4096))))⟩,oM 9 13])
 (.cond (.t 9) (.seq (.reg [oI 2 1,⟨some 3,none,(.op (.mov (.k (.bool true))))⟩])
 (.ret))
 (.seq (.reg [oF 15 2 1,oL 16 15,oN 17 16,⟨some 18,none,(.op (.bin .gtr (.t 17) (.k (.int .i64 1024))))⟩,oM 14 18])
 (.cond (.t 14) (.seq (.reg [oI 2 2,⟨some 3,none,(.op (.mov (.k (.bool true))))⟩])
 (.ret))
 (.skip))))))))
 (.seq (.reg [oI 2 0,oB 3])
 (.ret)))
def r132:List XRes:=[.t 2,.t 3]
theorem res132:resolveF Tryz.prog 132 = some (x132,r132,19):=by kernel_rfl
def x133:XCode:=.seq (.reg [oO 1 0,oI 2 0,oB 3])
 (.seq (.reg [oF 10 1 1,oL 11 10,oN 12 11,⟨some 13,none,(.op (.mkm (some (.t 12))))⟩,oM 4 13])
 (.seq (.seq (.reg [oF 14 1 1,oL 15 14,oN 16 15,oI 17 0])
 (.block 0 (.loop (.seq (.reg [oS 18 17 16])
 (.seq (.cond (.t 18) (.skip)
 (.exit 0))
 (.seq (.block 1 (.seq (.reg [oM 19 17,oX 20 4 15 17,oA 21 4 20,⟨some 6,none,(.op (.alloc [(.string ⟨#[]⟩),(.int .i64 0),(.int .i64 0),(.int .i64 0)]))⟩,oM 5 19,⟨none,none,(.op (.st 4 (.t 6) (.t 21)))⟩])
 (.seq (.reg [oF 22 0 6,oL 23 22,oF 24 1 6,oL 25 24,⟨some 26,none,(.op (.build [(.string ⟨#[]⟩),(.int .i64 0)] [(0,1,(.t 23)),(1,1,(.t 25))]))⟩,⟨some 7,none,(.op (.alloc [(.string ⟨#[]⟩),(.int .i64 0)]))⟩,⟨none,none,(.op (.st 2 (.t 7) (.t 26)))⟩])
 (.seq (.seq (.reg [oF 27 0 6,oL 28 27,⟨some 29,none,(.call (.f 187) [(.t 28)])⟩,⟨some 30,none,(.op (.un .not (.t 29)))⟩,oM 31 30,xqF 32 31 false 1 6,xqL 33 31 false 32,⟨some 34,(some (31,false)),(.op (.bin .lss (.t 33) (.k (.int .i64 0))))⟩,oQ 35 31 34,oM 36 35,xqF 37 36 false 1 6,xqL 38 36 false 37,⟨some 39,(some (36,false)),(.op (.bin .geq (.t 38) (.k (.int .i64 64))))⟩,oQ 40 36 39,oM 41 40,xqM 42 41 false 4,⟨some 43,(some (41,false)),(.op (.lda 2 (.t 7)))⟩,⟨some 44,(some (41,false)),(.op (.lku ⟨true,[2,1]⟩ (.int .i64 0) false (.t 42) (.t 43)))⟩,⟨some 45,(some (41,false)),(.op (.bin .gtr (.t 44) (.k (.int .i64 0))))⟩,oQ 46 41 45])
 (.cond (.t 46) (.seq (.reg [oM 47 5,oM 2 47,⟨some 3,none,(.op (.mov (.k (.bool true))))⟩])
 (.ret))
 (.skip)))
 (.drw none [oM 48 4,oA 49 2 7,⟨some 50,none,(.op (.lku ⟨true,[2,1]⟩ (.int .i64 0) false (.t 48) (.t 49)))⟩,oD 51 50 1,⟨some 52,none,(.op (.men ⟨true,[2,1]⟩ (.int .i64 0) (.t 48) (.t 49)))⟩,oT 53 1 52,⟨none,none,(.op (.mes (.t 48) (.t 53) (.t 51)))⟩])))))
 (.reg [oD 54 17 1,oM 17 54])))))))
 (.seq (.seq (.reg [oF 55 2 1,oL 56 55,oN 57 56,oI 58 0])
 (.block 2 (.loop (.seq (.reg [oS 59 58 57])
 (.seq (.cond (.t 59) (.skip)
 (.exit 2))
 (.seq (.block 3 (.seq (.reg [oM 60 58,oX 61 5 56 58,oA 62 5 61,⟨some 9,none,(.op (.alloc [(.string ⟨#[]⟩),(.int .i64 0),(.int .i64 0),(.int .i64 0),(.int .i64 0)]))⟩,oM 8 60,⟨none,none,(.op (.st 5 (.t 9) (.t 62)))⟩])
 (.seq (.drw none [oF 63 0 9,oL 64 63,⟨some 65,none,(.call (.f 187) [(.t 64)])⟩,⟨some 66,none,(.op (.un .not (.t 65)))⟩,oM 67 66,xqM 68 67 false 8,⟨some 69,(some (67,false)),(.op (.bin .gtr (.t 68) (.k (.int .i64 0))))⟩,xqM 70 67 false 69,xqF 71 70 true 0 9,xqL 72 70 true 71,xqF 73 70 true 2 1,xqL 74 70 true 73,xqM 75 70 true 8,⟨some 76,(some (70,true)),(.op (.bin .sub (.t 75) (.k (.int .i64 1))))⟩,⟨some 77,(some (70,true)),(.op (.iad 5 (.t 74) (.t 76)))⟩,xqF 78 70 true 0 77,xqL 79 70 true 78,⟨some 80,(some (70,true)),(.op (.bin .leq (.t 72) (.t 79)))⟩,⟨some 81,(some (67,false)),(.op (.pick (.t 70) (.t 80) (.k (.bool false))))⟩,oQ 82 67 81])
 (.cond (.t 82) (.seq (.reg [oF 83 1 1,oL 84 83,oN 85 84,oM 86 8,⟨some 87,none,(.op (.bin .add (.t 85) (.t 86)))⟩,oM 2 87,⟨some 3,none,(.op (.mov (.k (.bool true))))⟩])
 (.ret))
 (.skip)))))
 (.reg [oD 88 58 1,oM 58 88])))))))
 (.seq (.reg [oI 2 0,oB 3])
 (.ret)))))
def r133:List XRes:=[.t 2,.t 3]
theorem res133:resolveF Tryz.prog 133 = some (x133,r133,89):=by kernel_rfl
def x134:XCode:=.seq (.reg [oO 1 0,oI 2 0,oB 3])
 (.seq (.reg [oI 4 0])
 (.seq (.seq (.reg [oF 7 1 1,oL 8 7,oN 9 8,oI 10 0])
 (.block 0 (.loop (.seq (.reg [oS 11 10 9])
 (.seq (.cond (.t 11) (.skip)
 (.exit 0))
 (.seq (.block 1 (.seq (.reg [oM 12 10,oX 13 4 8 10,oA 14 4 13,⟨some 6,none,(.op (.alloc [(.string ⟨#[]⟩),(.int .i64 0),(.int .i64 0),(.int .i64 0)]))⟩,oM 5 12,⟨none,none,(.op (.st 4 (.t 6) (.t 14)))⟩])
 (.seq (.seq (.reg [oF 15 2 6,oL 16 15,oM 17 4,⟨some 18,none,(.op (.bin .neq (.t 16) (.t 17)))⟩,oM 19 18,xqF 20 19 false 3 6,xqL 21 19 false 20,⟨some 22,(some (19,false)),(.op (.bin .lss (.t 21) (.k (.int .i64 1))))⟩,oQ 23 19 22,oM 24 23,xqF 25 24 false 3 6,xqL 26 24 false 25,xqF 27 24 false 0 1,xqL 28 24 false 27,⟨some 29,(some (24,false)),(.op (.lenl (.t 28)))⟩,xqM 30 24 false 4,⟨some 31,(some (24,false)),(.op (.bin .sub (.t 29) (.t 30)))⟩,⟨some 32,(some (24,false)),(.op (.bin .gtr (.t 26) (.t 31)))⟩,oQ 33 24 32])
 (.cond (.t 33) (.seq (.reg [oM 34 5,oM 2 34,⟨some 3,none,(.op (.mov (.k (.bool true))))⟩])
 (.ret))
 (.skip)))
 (.reg [oM 35 4,oF 36 3 6,oL 37 36,⟨some 38,none,(.op (.bin .add (.t 35) (.t 37)))⟩,oM 4 38]))))
 (.reg [oD 39 10 1,oM 10 39])))))))
 (.seq (.drw none [oF 40 1 1,oL 41 40,oN 42 41,oM 43 4,oF 44 0 1,oL 45 44,oN 46 45,oS 47 43 46,oM 2 42,oM 3 47])
 (.ret))))
def r134:List XRes:=[.t 2,.t 3]
theorem res134:resolveF Tryz.prog 134 = some (x134,r134,48):=by kernel_rfl
def x135:XCode:=.seq (.reg [oO 1 0,oI 2 0,oB 3])
 (.seq (.reg [oI 4 0])
 (.seq (.seq (.reg [oF 7 2 1,oL 8 7,oN 9 8,oI 10 0])
 (.block 0 (.loop (.seq (.reg [oS 11 10 9])
 (.seq (.cond (.t 11) (.skip)
 (.exit 0))
 (.seq (.block 1 (.seq (.reg [oM 12 10,oX 13 5 8 10,oA 14 5 13,⟨some 6,none,(.op (.alloc [(.string ⟨#[]⟩),(.int .i64 0),(.int .i64 0),(.int .i64 0),(.int .i64 0)]))⟩,oM 5 12,⟨none,none,(.op (.st 5 (.t 6) (.t 14)))⟩])
 (.seq (.seq (.reg [oA 15 5 6,⟨some 16,none,(.call (.f 188) [(.t 15)])⟩,⟨some 17,none,(.op (.un .not (.t 16)))⟩])
 (.cond (.t 17) (.seq (.reg [oM 18 5,oM 2 18,⟨some 3,none,(.op (.mov (.k (.bool true))))⟩])
 (.ret))
 (.skip)))
 (.reg [oM 19 4,oA 20 5 6,⟨some 21,none,(.call (.f 189) [(.t 20)])⟩,⟨some 22,none,(.op (.bin .add (.t 19) (.t 21)))⟩,oM 4 22]))))
 (.reg [oD 23 10 1,oM 10 23])))))))
 (.seq (.reg [oF 24 2 1,oL 25 24,oN 26 25,oM 27 4,⟨some 28,none,(.op (.bin .gtr (.t 27) (.k (.int .i64 67108864))))⟩,oM 2 26,oM 3 28])
 (.ret))))
def r135:List XRes:=[.t 2,.t 3]
theorem res135:resolveF Tryz.prog 135 = some (x135,r135,29):=by kernel_rfl
def x136:XCode:=.seq (.reg [oO 1 0,oI 2 0,oB 3])
 (.seq (.drw none [oF 4 3 1,oL 5 4,⟨some 6,none,(.op (.bin .lss (.t 5) (.k (.int .i64 0))))⟩,oM 7 6,xqF 8 7 false 3 1,xqL 9 7 false 8,xqF 10 7 false 1 1,xqL 11 7 false 10,⟨some 12,(some (7,false)),(.op (.lenl (.t 11)))⟩,⟨some 13,(some (7,false)),(.op (.bin .geq (.t 9) (.t 12)))⟩,oQ 14 7 13,oI 2 0,oM 3 14])
 (.ret))
def r136:List XRes:=[.t 2,.t 3]
theorem res136:resolveF Tryz.prog 136 = some (x136,r136,15):=by kernel_rfl
def x137:XCode:=.seq (.reg [oO 1 0,oI 2 0,oB 3])
 (.seq (.seq (.reg [oF 6 0 1,oL 7 6,oN 8 7,oI 9 0])
 (.block 0 (.loop (.seq (.reg [oS 10 9 8])
 (.seq (.cond (.t 10) (.skip)
 (.exit 0))
 (.seq (.block 1 (.seq (.reg [oM 11 9,oX 12 5 7 9,oA 13 5 12,⟨some 5,none,(.op (.alloc [(.int .i64 0),(.int .i64 0),(.int .i64 0),(.int .i64 0),(.int .i64 0)]))⟩,oM 4 11,⟨none,none,(.op (.st 5 (.t 5) (.t 13)))⟩])
 (.seq (.reg [oA 14 5 5,⟨some 15,none,(.call (.f 190) [(.t 14)])⟩,⟨some 16,none,(.op (.un .not (.t 15)))⟩])
 (.cond (.t 16) (.seq (.reg [oM 17 4,oM 2 17,⟨some 3,none,(.op (.mov (.k (.bool true))))⟩])
 (.ret))
 (.skip)))))
 (.reg [oD 18 9 1,oM 9 18])))))))
 (.seq (.reg [oI 2 0,oB 3])
 (.ret)))
def r137:List XRes:=[.t 2,.t 3]
theorem res137:resolveF Tryz.prog 137 = some (x137,r137,19):=by kernel_rfl
def x79:XCode:=.seq (.reg [oO 1 0,oI 2 0,oI 3 0])
 (.seq (.seq (.reg [oA 17 4 1,⟨some 18,none,(.call (.f 132) [(.t 17)])⟩,oM 16 18,oT 19 0 16,oT 20 1 16,oM 4 19,oM 5 20])
 (.seq (.reg [oM 21 5])
 (.cond (.t 21) (.seq (.reg [oM 22 4,oM 2 22,oI 3 171])
 (.ret))
 (.skip))))
 (.seq (.seq (.reg [oA 24 4 1,⟨some 25,none,(.call (.f 133) [(.t 24)])⟩,oM 23 25,oT 26 0 23,oT 27 1 23,oM 6 26,oM 7 27])
 (.seq (.reg [oM 28 7])
 (.cond (.t 28) (.seq (.reg [oM 29 6,oM 2 29,oI 3 172])
 (.ret))
 (.skip))))
 (.seq (.seq (.reg [oA 31 4 1,⟨some 32,none,(.call (.f 134) [(.t 31)])⟩,oM 30 32,oT 33 0 30,oT 34 1 30,oM 8 33,oM 9 34])
 (.seq (.reg [oM 35 9])
 (.cond (.t 35) (.seq (.reg [oM 36 8,oM 2 36,oI 3 173])
 (.ret))
 (.skip))))
 (.seq (.seq (.reg [oA 38 4 1,⟨some 39,none,(.call (.f 135) [(.t 38)])⟩,oM 37 39,oT 40 0 37,oT 41 1 37,oM 10 40,oM 11 41])
 (.seq (.reg [oM 42 11])
 (.cond (.t 42) (.seq (.reg [oM 43 10,oM 2 43,oI 3 174])
 (.ret))
 (.skip))))
 (.seq (.seq (.reg [oA 45 4 1,⟨some 46,none,(.call (.f 136) [(.t 45)])⟩,oM 44 46,oT 47 0 44,oT 48 1 44,oM 12 47,oM 13 48])
 (.seq (.reg [oM 49 13])
 (.cond (.t 49) (.seq (.reg [oM 50 12,oM 2 50,oI 3 175])
 (.ret))
 (.skip))))
 (.seq (.seq (.reg [oA 52 4 1,⟨some 53,none,(.call (.f 137) [(.t 52)])⟩,oM 51 53,oT 54 0 51,oT 55 1 51,oM 14 54,oM 15 55])
 (.seq (.reg [oM 56 15])
 (.cond (.t 56) (.seq (.reg [oM 57 14,oM 2 57,oI 3 176])
 (.ret))
 (.skip))))
 (.seq (.reg [oI 2 0,oI 3 0])
 (.ret))))))))
def r79:List XRes:=[.t 2,.t 3]
theorem res79:resolveF Tryz.prog 79 = some (x79,r79,58):=by kernel_rfl
end Go.Tidy
namespace Go.Tidy
open Go Go.Eng Go.Proofs
set_option maxRecDepth 100000
def x235:XCode:=.seq (.reg [oO 1 0,oI 2 0])
 (.seq (.seq (.reg [oF 3 0 1,oL 4 3,oE 5 4 24])
 (.cond (.t 5) (.seq (.reg [oI 2 2])
 (.ret))
 (.skip)))
 (.seq (.reg [oI 2 1])
 (.ret)))
def r235:List XRes:=[.t 2]
theorem res235:resolveF Tryz.prog 235 = some (x235,r235,6):=by kernel_rfl
def x242:XCode:=.seq (.reg [oO 1 0,oB 2])
 (.seq (.reg [oF 3 0 1,oL 4 3,oE 5 4 5,oM 6 5,xqF 7 6 false 0 1,xqL 8 6 false 7,⟨some 9,(some (6,false)),(.op (.bin .eql (.t 8) (.k (.int .i64 6))))⟩,oQ 10 6 9,oM 2 10])
 (.ret))
def r242:List XRes:=[.t 2]
theorem res242:resolveF Tryz.prog 242 = some (x242,r242,11):=by kernel_rfl
def x203:XCode:=.seq (.reg [oI 2 0])
 (.seq (.seq (.reg [oM 4 0,⟨some 5,none,(.op (.bin .lss (.t 4) (.k (.int .i64 0))))⟩,oM 6 5,xqM 7 6 false 0,⟨some 8,(some (6,false)),(.op (.bin .gtr (.t 7) (.k (.int .i64 255))))⟩,oQ 9 6 8])
 (.cond (.t 9) (.seq (.reg [oI 2 0])
 (.ret))
 (.skip)))
 (.seq (.reg [oM 10 0,⟨some 11,none,(.op (.bin .and (.t 10) (.k (.int .i64 240))))⟩,oM 3 11])
 (.seq (.seq (.reg [oM 12 0,⟨some 13,none,(.op (.bin .and (.t 12) (.k (.int .i64 7))))⟩])
 (.block 0 (.seq (.block 7 (.seq (.block 6 (.seq (.block 5 (.seq (.block 4 (.seq (.block 3 (.seq (.block 2 (.seq (.block 1 (.seq (.seq (.seq (.reg [oE 15 13 0,oM 14 15])
 (.cond (.t 14) (.exit 1)
 (.skip)))
 (.seq (.seq (.reg [oE 17 13 1,oM 16 17])
 (.cond (.t 16) (.exit 2)
 (.skip)))
 (.seq (.seq (.reg [oE 19 13 3,oM 18 19])
 (.cond (.t 18) (.exit 3)
 (.skip)))
 (.seq (.seq (.reg [oE 21 13 2,oM 20 21])
 (.cond (.t 20) (.exit 4)
 (.skip)))
 (.seq (.seq (.seq (.reg [oE 23 13 4,oM 22 23])
 (.cond (.t 22) (.skip)
 (.reg [oE 24 13 7,oM 22 24])))
 (.cond (.t 22) (.exit 5)
 (.skip)))
 (.seq (.seq (.reg [oE 26 13 5,oM 25 26])
 (.cond (.t 25) (.exit 6)
 (.skip)))
 (.seq (.reg [oE 28 13 6,oM 27 28])
 (.cond (.t 27) (.exit 7)
 (.skip)))))))))
 (.exit 0)))
 (.seq (.seq (.reg [oM 29 0,oE 30 29 24])
 (.cond (.t 30) (.seq (.reg [oI 2 10])
 (.ret))
 (.skip)))
 (.exit 0))))
 (.seq (.seq (.reg [⟨some 31,none,(.op (.sla 1 7 (.g 1) none none))⟩,oM 32 0,⟨some 33,none,(.call (.f 148) [(.t 31),(.t 32)])⟩])
 (.cond (.t 33) (.seq (.reg [oI 2 4])
 (.ret))
 (.skip)))
 (.exit 0))))
 (.seq (.reg [oM 34 0,oE 35 34 219,oM 36 35,xqM 37 36 false 0,⟨some 38,(some (36,false)),(.op (.bin .eql (.t 37) (.k (.int .i64 195))))⟩,oQ 39 36 38])
 (.cond (.t 39) (.seq (.reg [oI 2 6])
 (.ret))
 (.skip)))))
 (.seq (.seq (.reg [⟨some 40,none,(.op (.sla 1 8 (.g 2) none none))⟩,oM 41 0,⟨some 42,none,(.call (.f 148) [(.t 40),(.t 41)])⟩])
 (.cond (.t 42) (.seq (.reg [oI 2 5])
 (.ret))
 (.skip)))
 (.exit 0))))
 (.seq (.seq (.seq (.reg [oM 43 0,oE 44 43 132,oM 45 44,xqM 46 45 false 0,⟨some 47,(some (45,false)),(.op (.bin .eql (.t 46) (.k (.int .i64 135))))⟩,oQ 48 45 47,oM 49 48,xqM 50 49 false 0,⟨some 51,(some (49,false)),(.op (.bin .eql (.t 50) (.k (.int .i64 212))))⟩,oQ 52 49 51,oM 53 52,xqM 54 53 false 0,⟨some 55,(some (53,false)),(.op (.bin .eql (.t 54) (.k (.int .i64 220))))⟩,oQ 56 53 55,oM 57 56,xqM 58 57 false 0,⟨some 59,(some (57,false)),(.op (.bin .eql (.t 58) (.k (.int .i64 215))))⟩,oQ 60 57 59])
 (.cond (.t 60) (.seq (.reg [oI 2 2])
 (.ret))
 (.skip)))
 (.seq (.reg [⟨some 61,none,(.op (.sla 1 12 (.g 3) none none))⟩,oM 62 3,⟨some 63,none,(.call (.f 148) [(.t 61),(.t 62)])⟩])
 (.cond (.t 63) (.seq (.reg [oI 2 3])
 (.ret))
 (.skip))))
 (.exit 0))))
 (.seq (.reg [oM 64 0])
 (.block 8 (.seq (.reg [oE 66 64 133,oM 65 66])
 (.cond (.t 65) (.seq (.reg [oI 2 9])
 (.ret))
 (.seq (.reg [oE 68 64 149,oM 67 68])
 (.cond (.t 67) (.seq (.reg [oI 2 1])
 (.ret))
 (.skip)))))))))
 (.seq (.seq (.seq (.reg [oM 69 0,oE 70 69 5,oM 71 70,xqM 72 71 false 0,⟨some 73,(some (71,false)),(.op (.bin .eql (.t 72) (.k (.int .i64 6))))⟩,oQ 74 71 73])
 (.cond (.t 74) (.seq (.reg [oI 2 7])
 (.ret))
 (.skip)))
 (.seq (.reg [⟨some 75,none,(.op (.sla 1 11 (.g 4) none none))⟩,oM 76 3,⟨some 77,none,(.call (.f 148) [(.t 75),(.t 76)])⟩])
 (.cond (.t 77) (.seq (.reg [oI 2 8])
 (.ret))
 (.skip))))
 (.exit 0)))))
 (.seq (.reg [oI 2 0])
 (.ret)))))
def r203:List XRes:=[.t 2]
theorem res203:resolveF Tryz.prog 203 = some (x203,r203,78):=by kernel_rfl
def x201:XCode:=.seq (.reg [oO 1 0,oB 2])
 (.seq (.seq (.reg [oF 4 3 1,oL 5 4,oE 6 5 0])
 (.cond (.t 6) (.seq (.reg [⟨some 2,none,(.op (.mov (.k (.bool true))))⟩])
 (.ret))
 (.skip)))
 (.seq (.seq (.reg [oF 7 0 1,oL 8 7,⟨some 9,none,(.op (.bin .and (.t 8) (.k (.int .i64 240))))⟩,oM 3 9])
 (.block 0 (.seq (.reg [oF 11 0 1,oL 12 11,⟨some 13,none,(.call (.f 203) [(.t 12)])⟩,⟨some 14,none,(.op (.bin .neq (.t 13) (.k (.int .i64 3))))⟩,oM 10 14])
 (.cond (.t 10) (.seq (.reg [oB 2])
 (.ret))
 (.seq (.reg [oM 16 3,oE 17 16 48,oM 18 17,xqM 19 18 false 3,⟨some 20,(some (18,false)),(.op (.bin .eql (.t 19) (.k (.int .i64 144))))⟩,oQ 21 18 20,oM 15 21])
 (.cond (.t 15) (.seq (.reg [oF 22 3 1,oL 23 22,oE 24 23 1,oM 2 24])
 (.ret))
 (.seq (.reg [oM 26 3,oE 27 26 176,oM 28 27,xqF 29 28 true 0 1,xqL 30 28 true 29,⟨some 31,(some (28,true)),(.op (.bin .and (.t 30) (.k (.int .i64 8))))⟩,⟨some 32,(some (28,true)),(.op (.bin .neq (.t 31) (.k (.int .i64 0))))⟩,oP 33 28 32,oM 25 33])
 (.cond (.t 25) (.seq (.reg [oF 34 3 1,oL 35 34,oE 36 35 8,oM 37 36,xqF 38 37 false 3 1,xqL 39 37 false 38,⟨some 40,(some (37,false)),(.op (.bin .eql (.t 39) (.k (.int .i64 16))))⟩,oQ 41 37 40,oM 42 41,xqF 43 42 false 3 1,xqL 44 42 false 43,⟨some 45,(some (42,false)),(.op (.bin .eql (.t 44) (.k (.int .i64 32))))⟩,xqM 46 42 false 45,xqF 47 46 true 0 1,xqL 48 46 true 47,⟨some 49,(some (46,true)),(.op (.bin .and (.t 48) (.k (.int .i64 7))))⟩,⟨some 50,(some (46,true)),(.op (.bin .eql (.t 49) (.k (.int .i64 7))))⟩,⟨some 51,(some (42,false)),(.op (.pick (.t 46) (.t 50) (.k (.bool false))))⟩,oQ 52 42 51,oM 2 52])
 (.ret))
 (.skip)))))))))
 (.seq (.reg [oB 2])
 (.ret))))
def r201:List XRes:=[.t 2]
theorem res201:resolveF Tryz.prog 201 = some (x201,r201,53):=by kernel_rfl
def x202:XCode:=.seq (.reg [oO 1 0,oB 2])
 (.seq (.block 0 (.seq (.reg [oF 4 0 1,oL 5 4,oE 6 5 219,oM 7 6,xqF 8 7 false 0 1,xqL 9 7 false 8,⟨some 10,(some (7,false)),(.op (.bin .eql (.t 9) (.k (.int .i64 195))))⟩,oQ 11 7 10,oM 3 11])
 (.cond (.t 3) (.seq (.drw none [⟨some 12,none,(.op (.sla 1 10 (.g 0) none none))⟩,oF 13 4 1,oL 14 13,⟨some 15,none,(.call (.f 148) [(.t 12),(.t 14)])⟩,oM 2 15])
 (.ret))
 (.seq (.reg [oF 17 0 1,oL 18 17,⟨some 19,none,(.call (.f 203) [(.t 18)])⟩,oE 20 19 2,oM 21 20,xqF 22 21 true 0 1,xqL 23 21 true 22,⟨some 24,(some (21,true)),(.op (.bin .and (.t 23) (.k (.int .i64 240))))⟩,⟨some 25,(some (21,true)),(.op (.bin .eql (.t 24) (.k (.int .i64 208))))⟩,oP 26 21 25,oM 16 26])
 (.cond (.t 16) (.seq (.reg [oF 27 4 1,oL 28 27,oE 29 28 16,oM 30 29,xqF 31 30 false 4 1,xqL 32 30 false 31,⟨some 33,(some (30,false)),(.op (.bin .eql (.t 32) (.k (.int .i64 32))))⟩,oQ 34 30 33,oM 35 34,xqF 36 35 false 4 1,xqL 37 35 false 36,⟨some 38,(some (35,false)),(.op (.bin .eql (.t 37) (.k (.int .i64 64))))⟩,oQ 39 35 38,oM 2 39])
 (.ret))
 (.skip))))))
 (.seq (.reg [oF 40 4 1,oL 41 40,oE 42 41 0,oM 2 42])
 (.ret)))
def r202:List XRes:=[.t 2]
theorem res202:resolveF Tryz.prog 202 = some (x202,r202,43):=by kernel_rfl
def x143:XCode:=.seq (.reg [oO 1 0,oI 2 0])
 (.seq (.reg [oF 8 0 1,oL 9 8,⟨some 10,none,(.call (.f 154) [(.t 9)])⟩,oM 7 10,oT 11 0 7,oT 12 1 7,⟨some 3,none,(.op (.alloc [(.int .i64 0),(.int .i64 0),(.bool false),(.bool false),(.bool false),(.bool false)]))⟩,⟨none,none,(.op (.st 6 (.t 3) (.t 11)))⟩,oM 4 12])
 (.seq (.seq (.reg [oM 13 4,⟨some 14,none,(.op (.bin .neq (.t 13) (.k (.int .i64 0))))⟩])
 (.cond (.t 14) (.seq (.reg [oM 15 4,oM 2 15])
 (.ret))
 (.skip)))
 (.seq (.reg [oF 16 0 1,oL 17 16,oE 18 17 133,oM 19 18,xqF 20 19 false 0 1,xqL 21 19 false 20,⟨some 22,(some (19,false)),(.op (.bin .eql (.t 21) (.k (.int .i64 24))))⟩,oQ 23 19 22,oM 5 23])
 (.seq (.reg [oF 24 4 1,oL 25 24,⟨some 26,none,(.op (.bin .geq (.t 25) (.k (.int .i64 (-2147483648)))))⟩,oM 27 26,xqF 28 27 true 4 1,xqL 29 27 true 28,⟨some 30,(some (27,true)),(.op (.bin .lss (.t 29) (.k (.int .i64 2147483648))))⟩,oP 31 27 30,oM 32 31,xqF 33 32 false 0 1,xqL 34 32 false 33,⟨some 35,(some (32,false)),(.op (.bin .eql (.t 34) (.k (.int .i64 24))))⟩,xqM 36 32 false 35,xqF 37 36 true 2 1,xqL 38 36 true 37,⟨some 39,(some (36,true)),(.op (.bin .eql (.t 38) (.k (.int .i64 0))))⟩,⟨some 40,(some (32,false)),(.op (.pick (.t 36) (.t 39) (.k (.bool false))))⟩,oQ 41 32 40,oM 6 41])
 (.seq (.block 0 (.seq (.reg [oF 43 2 3,oL 44 43,oM 45 44,xqF 46 45 true 1 1,xqL 47 45 true 46,⟨some 48,(some (45,true)),(.op (.bin .lss (.t 47) (.k (.int .i64 0))))⟩,xqM 49 45 true 48,xqF 50 49 false 1 1,xqL 51 49 false 50,⟨some 52,(some (49,false)),(.op (.bin .gtr (.t 51) (.k (.int .i64 10))))⟩,⟨some 53,(some (45,true)),(.op (.pick (.t 49) (.k (.bool true)) (.t 52)))⟩,oP 54 45 53,oM 55 54,xqF 56 55 false 2 3,xqL 57 55 false 56,⟨some 58,(some (55,false)),(.op (.un .not (.t 57)))⟩,xqM 59 55 false 58,xqF 60 59 true 1 1,xqL 61 59 true 60,⟨some 62,(some (59,true)),(.op (.bin .neq (.t 61) (.k (.int .i64 0))))⟩,⟨some 63,(some (55,false)),(.op (.pick (.t 59) (.t 62) (.k (.bool false))))⟩,oQ 64 55 63,oM 42 64])
 (.cond (.t 42) (.skip)
 (.seq (.reg [oF 66 3 3,oL 67 66,oM 68 67,xqF 69 68 true 2 1,xqL 70 68 true 69,⟨some 71,(some (68,true)),(.op (.bin .lss (.t 70) (.k (.int .i64 0))))⟩,xqM 72 68 true 71,xqF 73 72 false 2 1,xqL 74 72 false 73,⟨some 75,(some (72,false)),(.op (.bin .gtr (.t 74) (.k (.int .i64 10))))⟩,⟨some 76,(some (68,true)),(.op (.pick (.t 72) (.k (.bool true)) (.t 75)))⟩,oP 77 68 76,oM 65 77])
 (.cond (.t 65) (.skip)
 (.seq (.reg [oM 79 5,oM 80 79,xqF 81 80 true 2 1,xqL 82 80 true 81,⟨some 83,(some (80,true)),(.op (.bin .neq (.t 82) (.k (.int .i64 0))))⟩,oP 84 80 83,oM 85 84,xqF 86 85 true 2 1,xqL 87 85 true 86,⟨some 88,(some (85,true)),(.op (.bin .neq (.t 87) (.k (.int .i64 1))))⟩,oP 89 85 88,oM 90 89,xqF 91 90 false 3 3,xqL 92 90 false 91,⟨some 93,(some (90,false)),(.op (.un .not (.t 92)))⟩,xqM 94 90 false 93,xqM 95 94 true 5,⟨some 96,(some (94,true)),(.op (.un .not (.t 95)))⟩,⟨some 97,(some (90,false)),(.op (.pick (.t 94) (.t 96) (.k (.bool false))))⟩,xqM 98 90 false 97,xqF 99 98 true 2 1,xqL 100 98 true 99,⟨some 101,(some (98,true)),(.op (.bin .neq (.t 100) (.k (.int .i64 0))))⟩,⟨some 102,(some (90,false)),(.op (.pick (.t 98) (.t 101) (.k (.bool false))))⟩,oQ 103 90 102,oM 78 103])
 (.cond (.t 78) (.skip)
 (.seq (.reg [oF 105 4 3,oL 106 105,oM 107 106,xqF 108 107 true 3 1,xqL 109 107 true 108,⟨some 110,(some (107,true)),(.op (.bin .lss (.t 109) (.k (.int .i64 (-32768)))))⟩,xqM 111 107 true 110,xqF 112 111 false 3 1,xqL 113 111 false 112,⟨some 114,(some (111,false)),(.op (.bin .geq (.t 113) (.k (.int .i64 32768))))⟩,⟨some 115,(some (107,true)),(.op (.pick (.t 111) (.k (.bool true)) (.t 114)))⟩,oP 116 107 115,oM 117 116,xqF 118 117 false 4 3,xqL 119 117 false 118,⟨some 120,(some (117,false)),(.op (.un .not (.t 119)))⟩,xqM 121 117 false 120,⟨some 122,(some (121,true)),(.op (.lda 5 (.t 1)))⟩,⟨some 123,(some (121,true)),(.call (.f 201) [(.t 122)])⟩,⟨some 124,(some (121,true)),(.op (.un .not (.t 123)))⟩,⟨some 125,(some (117,false)),(.op (.pick (.t 121) (.t 124) (.k (.bool false))))⟩,oQ 126 117 125,oM 104 126])
 (.cond (.t 104) (.skip)
 (.seq (.reg [oF 128 5 3,oL 129 128,oM 130 129,xqM 131 130 true 6,⟨some 132,(some (130,true)),(.op (.un .not (.t 131)))⟩,oP 133 130 132,oM 134 133,xqF 135 134 false 5 3,xqL 136 134 false 135,⟨some 137,(some (134,false)),(.op (.un .not (.t 136)))⟩,xqM 138 134 false 137,⟨some 139,(some (138,true)),(.op (.lda 5 (.t 1)))⟩,⟨some 140,(some (138,true)),(.call (.f 202) [(.t 139)])⟩,⟨some 141,(some (138,true)),(.op (.un .not (.t 140)))⟩,⟨some 142,(some (134,false)),(.op (.pick (.t 138) (.t 141) (.k (.bool false))))⟩,oQ 143 134 142,oM 127 143])
 (.cond (.t 127) (.skip)
 (.seq (.reg [oI 2 0])
 (.ret)))))))))))))
 (.seq (.reg [oI 2 21])
 (.ret)))))))
def r143:List XRes:=[.t 2]
theorem res143:resolveF Tryz.prog 143 = some (x143,r143,144):=by kernel_rfl
def x145:XCode:=.seq (.reg [oO 1 0,oI 2 0])
 (.seq (.seq (.reg [oA 3 5 1,⟨some 4,none,(.call (.f 143) [(.t 3)])⟩,⟨some 5,none,(.op (.bin .neq (.t 4) (.k (.int .i64 0))))⟩])
 (.cond (.t 5) (.seq (.reg [oI 2 0])
 (.ret))
 (.skip)))
 (.seq (.seq (.reg [oF 6 0 1,oL 7 6,⟨some 8,none,(.call (.f 203) [(.t 7)])⟩])
 (.block 0 (.seq (.reg [oE 10 8 7,oM 9 10])
 (.cond (.t 9) (.seq (.reg [oI 2 1])
 (.ret))
 (.seq (.reg [oE 12 8 8,oM 11 12])
 (.cond (.t 11) (.seq (.reg [oI 2 2])
 (.ret))
 (.seq (.reg [oE 14 8 1,oM 13 14])
 (.cond (.t 13) (.seq (.reg [oI 2 4])
 (.ret))
 (.seq (.reg [oE 16 8 9,oM 15 16])
 (.cond (.t 15) (.seq (.reg [oF 17 2 1,oL 18 17,oE 19 18 1])
 (.cond (.t 19) (.seq (.reg [oI 2 3])
 (.ret))
 (.skip)))
 (.skip)))))))))))
 (.seq (.reg [oI 2 0])
 (.ret))))
def r145:List XRes:=[.t 2]
theorem res145:resolveF Tryz.prog 145 = some (x145,r145,20):=by kernel_rfl
def x154:XCode:=.seq (.reg [⟨some 2,none,(.op (.alloc [(.int .i64 0),(.int .i64 0),(.bool false),(.bool false),(.bool false),(.bool false)]))⟩,oI 3 0])
 (.seq (.reg [oM 6 0,⟨some 7,none,(.call (.f 203) [(.t 6)])⟩,⟨some 8,none,(.op (.build [(.int .i64 0),(.int .i64 0),(.bool false),(.bool false),(.bool false),(.bool false)] [(0,1,(.t 7)),(1,1,(.k (.int .i64 1)))]))⟩,⟨some 4,none,(.op (.alloc [(.int .i64 0),(.int .i64 0),(.bool false),(.bool false),(.bool false),(.bool false)]))⟩,⟨none,none,(.op (.st 6 (.t 4) (.t 8)))⟩])
 (.seq (.seq (.reg [oF 9 0 4,oL 10 9])
 (.block 0 (.seq (.block 10 (.seq (.block 9 (.seq (.block 8 (.seq (.block 7 (.seq (.block 6 (.seq (.block 5 (.seq (.block 4 (.seq (.block 3 (.seq (.block 2 (.seq (.block 1 (.seq (.seq (.seq (.reg [oE 12 10 0,oM 11 12])
 (.cond (.t 11) (.exit 1)
 (.skip)))
 (.seq (.seq (.reg [oE 14 10 3,oM 13 14])
 (.cond (.t 13) (.exit 2)
 (.skip)))
 (.seq (.seq (.reg [oE 16 10 8,oM 15 16])
 (.cond (.t 15) (.exit 3)
 (.skip)))
 (.seq (.seq (.reg [oE 18 10 6,oM 17 18])
 (.cond (.t 17) (.exit 4)
 (.skip)))
 (.seq (.seq (.reg [oE 20 10 4,oM 19 20])
 (.cond (.t 19) (.exit 5)
 (.skip)))
 (.seq (.seq (.reg [oE 22 10 5,oM 21 22])
 (.cond (.t 21) (.exit 6)
 (.skip)))
 (.seq (.seq (.reg [oE 24 10 10,oM 23 24])
 (.cond (.t 23) (.exit 7)
 (.skip)))
 (.seq (.seq (.reg [oE 26 10 2,oM 25 26])
 (.cond (.t 25) (.exit 8)
 (.skip)))
 (.seq (.seq (.reg [oE 28 10 9,oM 27 28])
 (.cond (.t 27) (.exit 9)
 (.skip)))
 (.seq (.reg [oE 30 10 7,oM 29 30])
 (.cond (.t 29) (.exit 10)
 (.skip))))))))))))
 (.exit 0)))
 (.seq (.seq (.reg [⟨some 31,none,(.op (.build [(.int .i64 0),(.int .i64 0),(.bool false),(.bool false),(.bool false),(.bool false)] []))⟩,⟨none,none,(.op (.st 6 (.t 2) (.t 31)))⟩,oI 3 20])
 (.ret))
 (.exit 0))))
 (.seq (.seq (.seq (.reg [oM 32 0,⟨some 33,none,(.op (.bin .and (.t 32) (.k (.int .i64 240))))⟩,oM 5 33])
 (.seq (.reg [oM 34 5,oE 35 34 32,oM 36 35,xqM 37 36 false 5,⟨some 38,(some (36,false)),(.op (.bin .eql (.t 37) (.k (.int .i64 48))))⟩,oQ 39 36 38,oM 40 39,xqM 41 40 false 5,⟨some 42,(some (40,false)),(.op (.bin .eql (.t 41) (.k (.int .i64 144))))⟩,oQ 43 40 42])
 (.cond (.t 43) (.reg [oF 44 1 4,⟨none,none,(.op (.st 1 (.t 44) (.k (.int .i64 2))))⟩])
 (.skip))))
 (.reg [oM 45 0,⟨some 46,none,(.op (.bin .and (.t 45) (.k (.int .i64 8))))⟩,⟨some 47,none,(.op (.bin .neq (.t 46) (.k (.int .i64 0))))⟩,oM 48 0,⟨some 49,none,(.op (.bin .and (.t 48) (.k (.int .i64 8))))⟩,oE 50 49 0,oF 51 2 4,⟨none,none,(.op (.st 1 (.t 51) (.k (.bool true))))⟩,oF 52 3 4,⟨none,none,(.op (.st 1 (.t 52) (.t 47)))⟩,oF 53 5 4,⟨none,none,(.op (.st 1 (.t 53) (.t 50)))⟩]))
 (.exit 0))))
 (.seq (.reg [oM 54 0,⟨some 55,none,(.op (.bin .and (.t 54) (.k (.int .i64 8))))⟩,⟨some 56,none,(.op (.bin .neq (.t 55) (.k (.int .i64 0))))⟩,oM 57 0,⟨some 58,none,(.op (.bin .and (.t 57) (.k (.int .i64 8))))⟩,oE 59 58 0,oF 60 2 4,⟨none,none,(.op (.st 1 (.t 60) (.k (.bool true))))⟩,oF 61 4 4,⟨none,none,(.op (.st 1 (.t 61) (.k (.bool true))))⟩,oF 62 3 4,⟨none,none,(.op (.st 1 (.t 62) (.t 56)))⟩,oF 63 5 4,⟨none,none,(.op (.st 1 (.t 63) (.t 59)))⟩])
 (.exit 0))))
 (.reg [oF 64 1 4,⟨none,none,(.op (.st 1 (.t 64) (.k (.int .i64 3))))⟩])))
 (.seq (.reg [oF 65 2 4,⟨none,none,(.op (.st 1 (.t 65) (.k (.bool true))))⟩,oF 66 3 4,⟨none,none,(.op (.st 1 (.t 66) (.k (.bool true))))⟩,oF 67 4 4,⟨none,none,(.op (.st 1 (.t 67) (.k (.bool true))))⟩])
 (.exit 0))))
 (.seq (.reg [oM 68 0,⟨some 69,none,(.op (.bin .and (.t 68) (.k (.int .i64 7))))⟩,oE 70 69 3,oM 71 0,⟨some 72,none,(.op (.bin .and (.t 71) (.k (.int .i64 7))))⟩,oE 73 72 2,oF 74 2 4,⟨none,none,(.op (.st 1 (.t 74) (.k (.bool true))))⟩,oF 75 4 4,⟨none,none,(.op (.st 1 (.t 75) (.k (.bool true))))⟩,oF 76 3 4,⟨none,none,(.op (.st 1 (.t 76) (.t 70)))⟩,oF 77 5 4,⟨none,none,(.op (.st 1 (.t 77) (.t 73)))⟩])
 (.exit 0))))
 (.reg [oF 78 5 4,⟨none,none,(.op (.st 1 (.t 78) (.k (.bool true))))⟩])))
 (.seq (.reg [oF 79 2 4,⟨none,none,(.op (.st 1 (.t 79) (.k (.bool true))))⟩])
 (.exit 0))))
 (.seq (.reg [oF 80 5 4,⟨none,none,(.op (.st 1 (.t 80) (.k (.bool true))))⟩])
 (.exit 0))))
 (.seq (.reg [oM 81 0,oE 82 81 5,oM 83 0,oE 84 83 6,oF 85 4 4,⟨none,none,(.op (.st 1 (.t 85) (.t 82)))⟩,oF 86 5 4,⟨none,none,(.op (.st 1 (.t 86) (.t 84)))⟩])
 (.exit 0)))))
 (.seq (.reg [oA 87 6 4,⟨none,none,(.op (.st 6 (.t 2) (.t 87)))⟩,oI 3 0])
 (.ret))))
def r154:List XRes:=[.lda 6 2,.t 3]
theorem res154:resolveF Tryz.prog 154 = some (x154,r154,88):=by kernel_rfl
def x149:XCode:=.seq (.reg [oO 1 0,⟨some 2,none,(.op (.mov (.k (.slice none 0 0))))⟩])
 (.seq (.seq (.reg [oA 3 5 1,⟨some 4,none,(.call (.f 143) [(.t 3)])⟩,⟨some 5,none,(.op (.bin .neq (.t 4) (.k (.int .i64 0))))⟩])
 (.cond (.t 5) (.seq (.reg [⟨some 2,none,(.op (.mov (.k (.slice none 0 0))))⟩])
 (.ret))
 (.skip)))
 (.seq (.seq (.reg [oF 6 0 1,oL 7 6,⟨some 8,none,(.call (.f 203) [(.t 7)])⟩])
 (.block 0 (.seq (.seq (.reg [oE 10 8 3,oM 9 10])
 (.cond (.t 9) (.skip)
 (.seq (.reg [oE 11 8 2,oM 9 11])
 (.cond (.t 9) (.skip)
 (.seq (.reg [oE 12 8 4,oM 9 12])
 (.cond (.t 9) (.skip)
 (.reg [oE 13 8 10,oM 9 13])))))))
 (.cond (.t 9) (.seq (.reg [oF 14 1 1,oL 15 14,⟨some 16,none,(.op (.bsl 1 1 [(.int .i64 0)] [(0,1,(.t 15))]))⟩,oM 2 16])
 (.ret))
 (.seq (.reg [oE 18 8 6,oM 17 18])
 (.cond (.t 17) (.block 1 (.seq (.reg [oF 20 4 1,oL 21 20,oE 22 21 241,oM 19 22])
 (.cond (.t 19) (.seq (.reg [⟨some 23,none,(.op (.bsl 1 1 [(.int .i64 0)] [(0,1,(.k (.int .i64 0)))]))⟩,oM 2 23])
 (.ret))
 (.seq (.reg [oF 25 4 1,oL 26 25,⟨some 27,none,(.op (.bin .and (.t 26) (.k (.int .i64 1))))⟩,⟨some 28,none,(.op (.bin .neq (.t 27) (.k (.int .i64 0))))⟩,oM 24 28])
 (.cond (.t 24) (.seq (.reg [oF 29 2 1,oL 30 29,⟨some 31,none,(.op (.bsl 1 1 [(.int .i64 0)] [(0,1,(.t 30))]))⟩,oM 2 31])
 (.ret))
 (.skip))))))
 (.seq (.reg [oE 33 8 9,oM 32 33])
 (.cond (.t 32) (.seq (.reg [⟨some 34,none,(.call (.f 205) [(.k (.int .i64 0)),(.k (.int .i64 5))])⟩,oM 2 34])
 (.ret))
 (.skip)))))))))
 (.seq (.reg [⟨some 2,none,(.op (.mov (.k (.slice none 0 0))))⟩])
 (.ret))))
def r149:List XRes:=[.t 2]
theorem res149:resolveF Tryz.prog 149 = some (x149,r149,35):=by kernel_rfl
def x148:XCode:=.seq (.reg [oB 4])
 (.seq (.reg [oM 5 0,oM 6 1,⟨some 7,none,(.call (.f 204) [(.t 5),(.t 6)])⟩,⟨some 8,none,(.op (.bin .geq (.t 7) (.k (.int .i64 0))))⟩,oM 4 8])
 (.ret))
def r148:List XRes:=[.t 4]
theorem res148:resolveF Tryz.prog 148 = some (x148,r148,9):=by kernel_rfl
def x204:XCode:=.seq (.reg [oI 4 0])
 (.seq (.seq (.reg [oM 6 0,oN 7 6,oI 8 0])
 (.block 0 (.loop (.seq (.reg [oS 9 8 7])
 (.seq (.cond (.t 9) (.skip)
 (.exit 0))
 (.seq (.block 1 (.seq (.reg [oM 10 8,oM 5 10])
 (.seq (.reg [oM 11 1,oM 12 0,oM 13 5,oX 14 1 12 13,oL 15 14,⟨some 16,none,(.op (.bin .eql (.t 11) (.t 15)))⟩])
 (.cond (.t 16) (.seq (.reg [oM 17 5,oM 4 17])
 (.ret))
 (.skip)))))
 (.reg [oD 18 8 1,oM 8 18])))))))
 (.seq (.reg [oI 4 (-1)])
 (.ret)))
def r204:List XRes:=[.t 4]
theorem res204:resolveF Tryz.prog 204 = some (x204,r204,19):=by kernel_rfl
def x205:XCode:=.seq (.reg [⟨some 4,none,(.op (.mov (.k (.slice none 0 0))))⟩])
 (.seq (.reg [⟨some 5,none,(.op (.mov (.k (.slice none 0 0))))⟩])
 (.seq (.seq (.reg [oM 7 0,oM 6 7])
 (.block 0 (.loop (.seq (.seq (.reg [oM 8 6,oM 9 1,⟨some 10,none,(.op (.bin .leq (.t 8) (.t 9)))⟩])
 (.cond (.t 10) (.skip)
 (.exit 0)))
 (.seq (.block 1 (.reg [oM 13 5,oM 14 6,⟨some 15,none,(.op (.bsl 1 1 [(.int .i64 0)] [(0,1,(.t 14))]))⟩,⟨some 16,none,(.op (.app 1 8 (.t 13) (.t 15)))⟩,oM 5 16]))
 (.reg [oM 11 6,oD 12 11 1,oM 6 12]))))))
 (.seq (.reg [oM 17 5,oM 4 17])
 (.ret))))
def r205:List XRes:=[.t 4]
theorem res205:resolveF Tryz.prog 205 = some (x205,r205,18):=by kernel_rfl
def x107:XCode:=.seq (.reg [oO 1 0,oB 2])
 (.seq (.reg [oF 3 0 1,oL 4 3,oE 5 4 24,oM 2 5])
 (.ret))
def r107:List XRes:=[.t 2]
theorem res107:resolveF Tryz.prog 107 = some (x107,r107,6):=by kernel_rfl
def x244:XCode:=.seq (.reg [oO 1 0,oI 2 0])
 (.seq (.seq (.reg [oF 3 0 1,oL 4 3,oE 5 4 24])
 (.cond (.t 5) (.seq (.reg [oI 2 2])
 (.ret))
 (.skip)))
 (.seq (.reg [oI 2 1])
 (.ret)))
def r244:List XRes:=[.t 2]
theorem res244:resolveF Tryz.prog 244 = some (x244,r244,6):=by kernel_rfl
def x189:XCode:=.seq (.reg [oO 1 0,oI 2 0])
 (.seq (.reg [oF 3 4 1,oL 4 3,oF 5 2 1,oL 6 5,oF 7 3 1,oL 8 7,oD 9 8 7,⟨some 10,none,(.op (.bin .andNot (.t 9) (.k (.int .i64 7))))⟩,⟨some 11,none,(.op (.bin .add (.t 6) (.t 10)))⟩,oD 12 11 8,⟨some 13,none,(.op (.bin .mul (.t 4) (.t 12)))⟩,oM 2 13])
 (.ret))
def r189:List XRes:=[.t 2]
theorem res189:resolveF Tryz.prog 189 = some (x189,r189,14):=by kernel_rfl
def x188:XCode:=.seq (.reg [oO 1 0,oB 2])
 (.seq (.reg [oF 5 2 1,oL 6 5,⟨some 7,none,(.op (.bin .geq (.t 6) (.k (.int .i64 1))))⟩,oM 8 7,xqF 9 8 true 2 1,xqL 10 8 true 9,⟨some 11,(some (8,true)),(.op (.bin .leq (.t 10) (.k (.int .i64 64))))⟩,oP 12 8 11,oM 13 12,xqF 14 13 true 3 1,xqL 15 13 true 14,⟨some 16,(some (13,true)),(.op (.bin .geq (.t 15) (.k (.int .i64 1))))⟩,oP 17 13 16,oM 18 17,xqF 19 18 true 3 1,xqL 20 18 true 19,⟨some 21,(some (18,true)),(.op (.bin .leq (.t 20) (.k (.int .i64 4096))))⟩,oP 22 18 21,oM 23 22,xqF 24 23 true 4 1,xqL 25 23 true 24,⟨some 26,(some (23,true)),(.op (.bin .geq (.t 25) (.k (.int .i64 1))))⟩,oP 27 23 26,oM 28 27,xqF 29 28 true 4 1,xqL 30 28 true 29,⟨some 31,(some (28,true)),(.op (.bin .leq (.t 30) (.k (.int .i64 65536))))⟩,oP 32 28 31,oM 3 32])
 (.seq (.reg [oF 33 1 1,oL 34 33,oE 35 34 1,oM 36 35,xqF 37 36 true 2 1,xqL 38 36 true 37,⟨some 39,(some (36,true)),(.op (.bin .eql (.t 38) (.k (.int .i64 4))))⟩,oP 40 36 39,oM 41 40,xqF 42 41 false 1 1,xqL 43 41 false 42,⟨some 44,(some (41,false)),(.op (.bin .eql (.t 43) (.k (.int .i64 2))))⟩,oQ 45 41 44,oM 4 45])
 (.seq (.reg [oM 46 3,oM 47 46,xqM 48 47 true 4,oP 49 47 48,oM 50 49,⟨some 51,(some (50,true)),(.op (.lda 5 (.t 1)))⟩,⟨some 52,(some (50,true)),(.call (.f 189) [(.t 51)])⟩,⟨some 53,(some (50,true)),(.op (.bin .leq (.t 52) (.k (.int .i64 16777216))))⟩,oP 54 50 53,oM 2 54])
 (.ret))))
def r188:List XRes:=[.t 2]
theorem res188:resolveF Tryz.prog 188 = some (x188,r188,55):=by kernel_rfl
def x190:XCode:=.seq (.reg [oO 1 0,oB 2])
 (.seq (.reg [oF 4 0 1,oL 5 4,oE 6 5 24,oM 7 6,xqF 8 7 false 4 1,xqL 9 7 false 8,⟨some 10,(some (7,false)),(.op (.bin .geq (.t 9) (.k (.int .i64 (-2147483648)))))⟩,xqM 11 7 false 10,xqF 12 11 true 4 1,xqL 13 11 true 12,⟨some 14,(some (11,true)),(.op (.bin .lss (.t 13) (.k (.int .i64 2147483648))))⟩,⟨some 15,(some (7,false)),(.op (.pick (.t 11) (.t 14) (.k (.bool false))))⟩,oQ 16 7 15,oM 3 16])
 (.seq (.reg [oM 17 3,oM 18 17,xqF 19 18 true 0 1,xqL 20 18 true 19,⟨some 21,(some (18,true)),(.op (.bin .geq (.t 20) (.k (.int .i64 0))))⟩,oP 22 18 21,oM 23 22,xqF 24 23 true 0 1,xqL 25 23 true 24,⟨some 26,(some (23,true)),(.op (.bin .leq (.t 25) (.k (.int .i64 255))))⟩,oP 27 23 26,oM 28 27,xqF 29 28 true 1 1,xqL 30 28 true 29,⟨some 31,(some (28,true)),(.op (.bin .geq (.t 30) (.k (.int .i64 0))))⟩,oP 32 28 31,oM 33 32,xqF 34 33 true 1 1,xqL 35 33 true 34,⟨some 36,(some (33,true)),(.op (.bin .leq (.t 35) (.k (.int .i64 15))))⟩,oP 37 33 36,oM 38 37,xqF 39 38 true 2 1,xqL 40 38 true 39,⟨some 41,(some (38,true)),(.op (.bin .geq (.t 40) (.k (.int .i64 0))))⟩,oP 42 38 41,oM 43 42,xqF 44 43 true 2 1,xqL 45 43 true 44,⟨some 46,(some (43,true)),(.op (.bin .leq (.t 45) (.k (.int .i64 15))))⟩,oP 47 43 46,oM 48 47,xqF 49 48 true 3 1,xqL 50 48 true 49,⟨some 51,(some (48,true)),(.op (.bin .geq (.t 50) (.k (.int .i64 (-32768)))))⟩,oP 52 48 51,oM 53 52,xqF 54 53 true 3 1,xqL 55 53 true 54,⟨some 56,(some (53,true)),(.op (.bin .lss (.t 55) (.k (.int .i64 32768))))⟩,oP 57 53 56,oM 2 57])
 (.ret)))
def r190:List XRes:=[.t 2]
theorem res190:resolveF Tryz.prog 190 = some (x190,r190,58):=by kernel_rfl
end Go.Tidy
namespace Go.Tidy
open Go Go.Eng Go.Proofs
variable {cx:Cx}
abbrev VI (n:Int):AV:=.v (.int .i64 n)
abbrev VB (b:Bool):AV:=.v (.bool b)
end Go.Tidy
namespace Go.Tidy
open Go Go.Eng Go.Proofs
variable {cx:Cx}
def SlI (h:AH) (v:AV) (xs:List Int):Prop:=xLenL v = some (VI xs.length) ∧ ∀ (i:Nat) x,xs[i]? = some x → ∃ p,xIad 1 v (VI i) = some p ∧ xLd1 h p = some (VI x)
theorem wrap_id {n:Int} (h1:-9223372036854775808 ≤ n) (h2:n < 9223372036854775808):IntKind.i64.wrap n = n:=by
 exact IntWalk.i64_in n (by omega)
def idx (x:Int):List Int → Int → Int
 | [],_=>-1
 | y :: r,n=>if x = y then n else idx x r (n + 1)
theorem c204 (hP:cx.P = Tryz.prog) (v:AV) (xs:List Int) (x:Int) (h:AH) (hv:SlI h v xs) (hl:xs.length < 2 ^ 62):SimCall cx 204 [v,VI x] h fun r h'=>h' = h ∧ r = VI (idx x xs 0):=by
 refine SimCall.by hP res204 ?_
 unfold x204 r204
 simp only [go_sem,hv.1]
 refine SimLoop.inv [0,0,4,0,0] (fun k s=>∃ i:Nat,k = xs.length - i ∧ i ≤ xs.length ∧ idx x xs 0 = idx x (xs.drop i) i ∧
  s = ⟨[v,VI x,.un,.un,.un,.un,v,VI xs.length,VI i,.un,.un,.un,.un,.un,.un,.un,.un,.un,.un],h⟩) ?_ xs.length ?_
 rotate_left
 ·exact ⟨0,by simp,by simp,by simp,by simp only [go_sem];rfl⟩
 rintro k s ⟨i,rfl,hi,hx,rfl⟩
 by_cases hlt:i < xs.length
 ·obtain ⟨p,hp1,hp2⟩:=hv.2 i _ (List.getElem?_eq_getElem hlt)
  have hlt':((i:Int) < xs.length):=by omega
  simp only [go_sem,hp1,hp2,hlt',decide_true]
  rw [List.drop_eq_getElem_cons hlt] at hx
  refine wx_if rfl (fun e=>?_) (fun e=>?_)
  ·simp only [go_sem]
   rw [hx,idx,if_pos (by simpa using e)]
  ·simp only [go_sem]
   refine ⟨xs.length - (i + 1),by omega,i + 1,rfl,by omega,?_,?_⟩
   ·rw [hx,idx,if_neg (by simpa using e)]
    simp
   ·rw [wrap_id (by omega) (by omega)]
    rfl
 ·have hlt':¬ ((i:Int) < xs.length):=by omega
  simp only [go_sem,hlt',decide_false]
  rw [hx,List.drop_eq_nil_of_le (by omega)]
  rfl
theorem idx_neg (x:Int):∀ (xs:List Int) (n:Int),0 ≤ n → (0 ≤ idx x xs n ↔ x ∈ xs)
 | [],n,h=>by simp [idx]
 | y :: r,n,h=>by
   rw [idx]
   split
   ·rename_i e;subst e;simp [h]
   ·rename_i e;rw [idx_neg x r (n + 1) (by omega)];simp [e]
theorem c148 (hP:cx.P = Tryz.prog) (v:AV) (xs:List Int) (x:Int) (h:AH) (hv:SlI h v xs) (hl:xs.length < 2 ^ 62):SimCall cx 148 [v,VI x] h fun r h'=>h' = h ∧ r = VB (decide (x ∈ xs)):=by
 refine SimCall.by hP res148 ?_
 unfold x148 r148
 simp only [go_sem]
 refine (c204 hP v xs x h hv hl).mono ?_
 rintro r h' ⟨rfl,rfl⟩
 simp only [go_sem]
 simp [idx_neg]
end Go.Tidy
namespace Go.Tidy
open Go Go.Eng Go.Proofs
structure On (cx:Cx):Prop where
 P:cx.P = Tryz.prog
 atomics:cx.G 0 = some [VI 0x00,VI 0x40,VI 0x50,VI 0xa0,VI 0x01,VI 0x41,VI 0x51,VI 0xa1,VI 0xe1,VI 0xf1]
 loads:cx.G 1 = some [VI 0x71,VI 0x69,VI 0x61,VI 0x79,VI 0x91,VI 0x89,VI 0x81]
 stores:cx.G 2 = some [VI 0x72,VI 0x6a,VI 0x62,VI 0x7a,VI 0x73,VI 0x6b,VI 0x63,VI 0x7b]
 arith:cx.G 3 = some [VI 0x00,VI 0x10,VI 0x20,VI 0x30,VI 0x40,VI 0x50,VI 0x60,VI 0x70,VI 0x90,VI 0xa0,VI 0xb0,VI 0xc0]
 compares:cx.G 4 = some [VI 0x10,VI 0x20,VI 0x30,VI 0x40,VI 0x50,VI 0x60,VI 0x70,VI 0xa0,VI 0xb0,VI 0xc0,VI 0xd0]
variable {cx:Cx}
theorem slI_ro (h:AH) (xs:List Int):SlI h (.ro 1 xs.length fun i=>((xs.map VI).drop (i * 1)).take 1) xs:=by
 refine ⟨rfl,fun i x hx=>?_⟩
 have hi:=(List.getElem?_eq_some_iff.1 hx).1
 refine ⟨.rp (((xs.map VI).drop (i * 1)).take 1),?_,?_⟩
 ·simp only [go_sem]
  rw [if_pos (by omega)]
  simp
 ·simp only [go_sem]
  simp [hx]
abbrev band (a b:Int):Int:=kand .i64 a b
def loadsL:List Int:=[0x71,0x69,0x61,0x79,0x91,0x89,0x81]
def storesL:List Int:=[0x72,0x6a,0x62,0x7a,0x73,0x6b,0x63,0x7b]
def arithL:List Int:=[0x00,0x10,0x20,0x30,0x40,0x50,0x60,0x70,0x90,0xa0,0xb0,0xc0]
def comparesL:List Int:=[0x10,0x20,0x30,0x40,0x50,0x60,0x70,0xa0,0xb0,0xc0,0xd0]
def form (op:Int):Int:=
 if op < 0 ∨ 255 < op then 0 else
 let c:=band op 7
 let storeL:Int:=if op ∈ storesL then 5 else 0
 let jumpL:Int:=if op = 5 ∨ op = 6 then 7 else if band op 240 ∈ comparesL then 8 else 0
 if c = 0 then (if op = 24 then 10 else 0)
 else if c = 1 then (if op ∈ loadsL then 4 else 0)
 else if c = 3 then (if op = 219 ∨ op = 195 then 6 else storeL)
 else if c = 2 then storeL
 else if c = 4 ∨ c = 7 then (if op = 132 ∨ op = 135 ∨ op = 212 ∨ op = 220 ∨ op = 215 then 2 else if band op 240 ∈ arithL then 3 else 0)
 else if c = 5 then (if op = 133 then 9 else if op = 149 then 1 else jumpL)
 else if c = 6 then jumpL
 else 0
set_option maxHeartbeats 2000000 in
set_option maxRecDepth 100000 in
theorem c203 (hO:On cx) (op:Int) (h:AH):SimCall cx 203 [VI op] h fun r h'=>h' = h ∧ r = VI (form op):=by
 refine SimCall.by hO.P res203 ?_
 unfold x203 r203
 simp only [go_sem]
 repeat' first
  | ((with_reducible show wx _ (XCode.cond _ _ _) _ _);refine wx_if rfl (fun _=>?_) (fun _=>?_))
  | ((with_reducible show SemL _ _ _ _);first | (apply SemL.sc1 rfl rfl rfl;(intro _;simp only [go_sem];rfl)) | refine SemL.pre ?_)
  | ((with_reducible show semK _ [] _ _);refine semK_of ?_)
  | ((with_reducible show SimCall _ 148 _ _ _);first
    | (refine (c148 hO.P _ loadsL op h (slI_ro h loadsL) (by decide)).mono ?_;rintro r h' ⟨rfl,rfl⟩)
    | (refine (c148 hO.P _ storesL op h (slI_ro h storesL) (by decide)).mono ?_;rintro r h' ⟨rfl,rfl⟩)
    | (refine (c148 hO.P _ arithL (band op 240) h (slI_ro h arithL) (by decide)).mono ?_;rintro r h' ⟨rfl,rfl⟩)
    | (refine (c148 hO.P _ comparesL (band op 240) h (slI_ro h comparesL) (by decide)).mono ?_;rintro r h' ⟨rfl,rfl⟩))
  | simp only [go_sem,hO.loads,hO.stores,hO.arith,hO.compares,Nat.reduceAdd,Nat.reduceMul,Nat.reduceEqDiff,reduceIte,Nat.zero_ne_one]
 all_goals
  simp only [decide_eq_true_eq,decide_eq_false_iff_not,AV.v.injEq,Value.int.injEq,true_and] at *
  unfold form
  simp_all
 all_goals rw [if_neg (by omega),if_pos (by omega)]
end Go.Tidy
namespace Go.Tidy
open Go Go.Eng Go.Proofs
structure Use where
 form:Int
 group:Int
 dst:Bool
 src:Bool
 off:Bool
 imm:Bool
def Use.av (u:Use):AV:=.agg [VI u.form,VI u.group,VB u.dst,VB u.src,VB u.off,VB u.imm]
def info (op:Int):Use:=
 let f:=form op
 if f = 0 then ⟨0,0,false,false,false,false⟩
 else ⟨f,if f = 3 ∧ (band op 240 = 32 ∨ band op 240 = 48 ∨ band op 240 = 144) then 2 else if f = 6 then 3 else 1,
  decide (f = 3 ∨ f = 8 ∨ f = 6 ∨ f = 4 ∨ f = 5 ∨ f = 10 ∨ f = 2),
  if f = 3 ∨ f = 8 then !decide (band op 8 = 0) else if f = 5 then decide (band op 7 = 3) else decide (f = 6 ∨ f = 4),
  if f = 7 then decide (op = 5) else decide (f = 8 ∨ f = 6 ∨ f = 4 ∨ f = 5),
  if f = 3 ∨ f = 8 then decide (band op 8 = 0) else if f = 5 then decide (band op 7 = 2) else if f = 7 then decide (op = 6) else decide (f = 10 ∨ f = 9)⟩
def infoE (op:Int):Int:=if form op = 0 then 20 else 0
structure Ins where
 op:Int
 dst:Int
 src:Int
 off:Int
 imm:Int
def Ins.row (i:Ins):List AV:=[VI i.op,VI i.dst,VI i.src,VI i.off,VI i.imm]
abbrev Ins.av (i:Ins):AV:=.agg [VI i.op,VI i.dst,VI i.src,VI i.off,VI i.imm]
def atomicsL:List Int:=[0x00,0x40,0x50,0xa0,0x01,0x41,0x51,0xa1,0xe1,0xf1]
def offsB (i:Ins):Bool:=
 if i.off = 0 then true
 else if ¬ form i.op = 3 then false
 else if band i.op 240 = 48 ∨ band i.op 240 = 144 then decide (i.off = 1)
 else if band i.op 240 = 176 ∧ ¬ band i.op 8 = 0 then decide (i.off = 8 ∨ i.off = 16 ∨ i.off = 32 ∧ band i.op 7 = 7)
 else false
def immsB (i:Ins):Bool:=
 if i.op = 219 ∨ i.op = 195 then decide (i.imm ∈ atomicsL)
 else if form i.op = 2 ∧ band i.op 240 = 208 then decide (i.imm = 16 ∨ i.imm = 32 ∨ i.imm = 64)
 else decide (i.imm = 0)
def may (i:Ins):Int:=
 if ¬ infoE i.op = 0 then infoE i.op
 else if ((info i.op).dst = true ∧ (i.dst < 0 ∨ 10 < i.dst)) ∨ ((info i.op).dst = false ∧ ¬ i.dst = 0) then 21
 else if (info i.op).src = true ∧ (i.src < 0 ∨ 10 < i.src) then 21
 else if ((i.op = 133 ∨ i.op = 24) ∧ ¬ i.src = 0 ∧ ¬ i.src = 1) ∨ ((info i.op).src = false ∧ ¬ (i.op = 133 ∨ i.op = 24) ∧ ¬ i.src = 0) then 21
 else if ((info i.op).off = true ∧ (i.off < -32768 ∨ 32768 ≤ i.off)) ∨ ((info i.op).off = false ∧ offsB i = false) then 21
 else if ((info i.op).imm = true ∧ ¬ ((-2147483648 ≤ i.imm ∧ i.imm < 2147483648) ∨ (i.op = 24 ∧ i.src = 0))) ∨ ((info i.op).imm = false ∧ immsB i = false) then 21
 else 0
def jumps (i:Ins):Int:=
 if ¬ may i = 0 then 0
 else if form i.op = 7 then 1
 else if form i.op = 8 then 2
 else if form i.op = 1 then 4
 else if form i.op = 9 ∧ i.src = 1 then 3
 else 0
def writes (i:Ins):List Int:=
 if ¬ may i = 0 then []
 else if form i.op = 3 ∨ form i.op = 2 ∨ form i.op = 4 ∨ form i.op = 10 then [i.dst]
 else if form i.op = 6 then (if i.imm = 241 then [0] else if ¬ band i.imm 1 = 0 then [i.src] else [])
 else if form i.op = 9 then [0,1,2,3,4,5]
 else []
def leads (i:Ins):Bool:=decide (jumps i = 1) || decide (jumps i = 2)
def Ins.far (i:Ins):Int:=if i.op = 6 then i.imm else i.off
def Ins.aim (i:Ins) (v:Int):Ins:=if i.op = 6 then { i with imm:=v } else { i with off:=v }
theorem form5:form 5 = 7:=by decide
theorem form6:form 6 = 7:=by decide
theorem form24:form 24 = 10:=by decide
theorem form_jump {op:Int} (h:form op = 7):op = 5 ∨ op = 6:=by
 unfold form at h
 simp only at h
 repeat' split at h
 all_goals first
  | assumption
  | (exfalso;revert h;decide)
theorem leads_form {i:Ins} (h:leads i = true):may i = 0 ∧ (form i.op = 7 ∨ form i.op = 8):=by
 unfold leads jumps at h
 repeat' split at h
 all_goals simp_all
theorem leads_of {i:Ins} (h:may i = 0) (hf:form i.op = 7 ∨ form i.op = 8):leads i = true:=by
 unfold leads jumps
 rcases hf with hf | hf <;> simp [h,hf]
theorem may_zero {i:Ins}:may i = 0 ↔ infoE i.op = 0 ∧ ¬ (((info i.op).dst = true ∧ (i.dst < 0 ∨ 10 < i.dst)) ∨ ((info i.op).dst = false ∧ ¬ i.dst = 0)) ∧ ¬ ((info i.op).src = true ∧ (i.src < 0 ∨ 10 < i.src))
 ∧ ¬ (((i.op = 133 ∨ i.op = 24) ∧ ¬ i.src = 0 ∧ ¬ i.src = 1) ∨ ((info i.op).src = false ∧ ¬ (i.op = 133 ∨ i.op = 24) ∧ ¬ i.src = 0))
 ∧ ¬ (((info i.op).off = true ∧ (i.off < -32768 ∨ 32768 ≤ i.off)) ∨ ((info i.op).off = false ∧ offsB i = false))
 ∧ ¬ (((info i.op).imm = true ∧ ¬ ((-2147483648 ≤ i.imm ∧ i.imm < 2147483648) ∨ (i.op = 24 ∧ i.src = 0))) ∨ ((info i.op).imm = false ∧ immsB i = false)):=by
 unfold may
 constructor
 ·intro h
  split at h
  ·rename_i h1;exact absurd h h1
  ·rename_i h1
   split at h
   ·cases h
   ·rename_i h2
    split at h
    ·cases h
    ·rename_i h3
     split at h
     ·cases h
     ·rename_i h4
      split at h
      ·cases h
      ·rename_i h5
       split at h
       ·cases h
       ·rename_i h6
        exact ⟨Decidable.not_not.1 h1,h2,h3,h4,h5,h6⟩
 ·rintro ⟨h1,h2,h3,h4,h5,h6⟩
  rw [if_neg (by simpa using h1),if_neg h2,if_neg h3,if_neg h4,if_neg h5,if_neg h6]
theorem may_aim {i:Ins} (h:leads i = true) {v:Int} (hv:if i.op = 6 then -2147483648 ≤ v ∧ v < 2147483648 else -32768 ≤ v ∧ v < 32768):may (i.aim v) = 0:=by
 obtain ⟨hm,hf⟩:=leads_form h
 unfold Ins.aim
 rw [may_zero] at hm ⊢
 obtain ⟨h1,h2,h3,h4,h5,h6⟩:=hm
 by_cases hop:i.op = 6
 ·rw [if_pos hop] at hv ⊢
  refine ⟨h1,h2,h3,h4,h5,?_⟩
  have hi:(info i.op).imm = true:=by rw [hop];unfold info;simp [form6]
  simp only [hi]
  simp
  omega
 ·rw [if_neg hop] at hv ⊢
  refine ⟨h1,h2,h3,h4,?_,h6⟩
  have hoff:(info i.op).off = true:=by
   rcases hf with hf | hf
   ·rcases form_jump hf with h5 | h5
    ·unfold info;simp [h5,form5]
    ·exact absurd h5 hop
   ·unfold info;simp [hf]
  simp only [hoff]
  simp
  omega
theorem leads_aim {i:Ins} (h:leads i = true) {v:Int} (hv:if i.op = 6 then -2147483648 ≤ v ∧ v < 2147483648 else -32768 ≤ v ∧ v < 32768):jumps (i.aim v) = jumps i ∧ writes (i.aim v) = [] ∧ leads (i.aim v) = true:=by
 obtain ⟨hm,hf⟩:=leads_form h
 have hm':=may_aim h hv
 have ho:(i.aim v).op = i.op:=by unfold Ins.aim;split <;> rfl
 have hs:(i.aim v).src = i.src:=by unfold Ins.aim;split <;> rfl
 refine ⟨?_,?_,leads_of hm' (by rw [ho];exact hf)⟩
 ·unfold jumps;rw [hm,hm',ho,hs]
 ·unfold writes;rw [hm',ho]
  rcases hf with hf | hf <;> simp [hf]
theorem jump_leads {i:Ins} (h:may i = 0) (hj:i.op = 5 ∨ i.op = 6):leads i = true:=by
 refine leads_of h (.inl ?_)
 rcases hj with h | h <;> rw [h]
 ·exact form5
 ·exact form6
theorem aim_op (i:Ins) (v:Int):(i.aim v).op = i.op:=by unfold Ins.aim;split <;> rfl
theorem aim_far (i:Ins) (v:Int):(i.aim v).far = v:=by
 unfold Ins.far Ins.aim
 split
 ·rename_i h;simp [h]
 ·rename_i h;simp [h]
theorem far_in {i:Ins} (h:leads i = true) (h6:¬ i.op = 6):-32768 ≤ i.off ∧ i.off < 32768:=by
 obtain ⟨hm,hf⟩:=leads_form h
 rw [may_zero] at hm
 have hoff:(info i.op).off = true:=by
  rcases hf with hf | hf
  ·rcases form_jump hf with h5 | h5
   ·unfold info;simp [h5,form5]
   ·exact absurd h5 h6
  ·unfold info;simp [hf]
 have:=hm.2.2.2.2.1
 simp only [hoff] at this
 simp at this
 omega
end Go.Tidy
namespace Go.Tidy
open Go Go.Eng Go.Proofs
section
variable {α:Type} {f:α → List AV} {sz:Nat}
theorem cells_len (hf:∀ x,(f x).length = sz):∀ (xs:List α),(xs.flatMap f).length = xs.length * sz
 | []=>by simp
 | x :: r=>by simp [List.flatMap_cons,cells_len hf r,hf,Nat.succ_mul,Nat.add_comm]
theorem cells_drop (hf:∀ x,(f x).length = sz):∀ (xs:List α) (k:Nat),(xs.flatMap f).drop (k * sz) = (xs.drop k).flatMap f
 | [],k=>by simp
 | x :: r,0=>by simp
 | x :: r,k + 1=>by
   have e:(k + 1) * sz = (f x).length + k * sz:=by rw [hf,Nat.succ_mul,Nat.add_comm]
   rw [List.flatMap_cons,e,← List.drop_drop,List.drop_left,cells_drop hf r k]
   rfl
theorem cells_take (hf:∀ x,(f x).length = sz):∀ (xs:List α) (k:Nat),(xs.flatMap f).take (k * sz) = (xs.take k).flatMap f
 | [],k=>by simp
 | x :: r,0=>by simp
 | x :: r,k + 1=>by
   have e:(k + 1) * sz = (f x).length + k * sz:=by rw [hf,Nat.succ_mul,Nat.add_comm]
   rw [List.flatMap_cons,e,List.take_length_add_append,cells_take hf r k]
   rfl
theorem cells_at (hf:∀ x,(f x).length = sz) {xs:List α} {k:Nat} {x:α} (h:xs[k]? = some x):((xs.flatMap f).drop (k * sz)).take sz = f x:=by
 obtain ⟨hk,rfl⟩:=List.getElem?_eq_some_iff.1 h
 rw [cells_drop hf,List.drop_eq_getElem_cons hk,List.flatMap_cons,← hf xs[k],List.take_left]
theorem cells_one (hf:∀ x,(f x).length = sz) {xs:List α} {k:Nat} {x:α} (h:xs[k]? = some x) {j:Nat} (hj:j < sz):(xs.flatMap f)[k * sz + j]? = (f x)[j]?:=by
 rw [← cells_at hf h,List.getElem?_take_of_lt hj,List.getElem?_drop]
theorem cells_set (hf:∀ x,(f x).length = sz) {xs:List α} {k:Nat} (hk:k < xs.length) (y:α):setCells (xs.flatMap f) (k * sz) (f y) = (xs.set k y).flatMap f:=by
 unfold setCells
 have e:k * sz + (f y).length = (k + 1) * sz:=by rw [hf,Nat.succ_mul]
 rw [cells_take hf,e,cells_drop hf,List.set_eq_take_append_cons_drop,if_pos hk,List.flatMap_append,List.flatMap_cons,List.append_assoc]
inductive SlT (f:α → List AV) (sz:Nat) (h:AH):AV → List α → Prop
 | sl (id ver off:Nat) (cs:List AV) (xs:List α) (hrd:∀ g,AH.rd (h ++ g) id ver = some cs) (hc:(cs.drop off).take (xs.length * sz) = xs.flatMap f):SlT f sz h (.sl id ver off xs.length sz) xs
 | ro (fn:Nat → List AV) (xs:List α) (hr:∀ (i:Nat) x,xs[i]? = some x → fn i = f x):SlT f sz h (.ro sz xs.length fn) xs
 | nl (A:Option Addr) (c:Nat):SlT f sz h (.v (.slice A 0 c)) []
variable {h:AH} {v:AV} {xs:List α}
theorem SlT.len (s:SlT f sz h v xs):xLenL v = some (VI xs.length):=by cases s <;> rfl
theorem SlT.more (s:SlT f sz h v xs) (g:AH):SlT f sz (h ++ g) v xs:=by
 cases s with
 | sl id ver off cs xs hrd hc=>exact .sl id ver off cs xs (fun g'=>by rw [List.append_assoc];exact hrd _) hc
 | ro fn xs hr=>exact .ro fn xs hr
 | nl A c=>exact .nl A c
theorem SlT.fit (hf:∀ x,(f x).length = sz) (hsz:0 < sz) {cs:List AV} {off:Nat} (hc:(cs.drop off).take (xs.length * sz) = xs.flatMap f) (hx:0 < xs.length):off + xs.length * sz ≤ cs.length:=by
 have:=congrArg List.length hc
 rw [cells_len hf,List.length_take,List.length_drop] at this
 have:=Nat.mul_pos hx hsz
 omega
theorem SlT.get (s:SlT f sz h v xs) (hf:∀ x,(f x).length = sz) (hsz:0 < sz) {k:Nat} {x:α} (hk:xs[k]? = some x) :
 ∃ p,xIad sz v (VI k) = some p ∧ xLda h sz p = some (.agg (f x)) ∧ (∀ g,xLda (h ++ g) sz p = some (.agg (f x))) ∧ ∀ (j:Nat) c,(f x)[j]? = some c → ∃ q,xFad j p = some q ∧ xLd1 h q = some c ∧ ∀ g,xLd1 (h ++ g) q = some c:=by
 have hlt:=(List.getElem?_eq_some_iff.1 hk).1
 cases s with
 | sl id ver off cs xs hrd hc=>
   have hcl:=SlT.fit hf hsz hc (by omega)
   have hat:=cells_at hf hk
   have hle:k * sz + sz ≤ xs.length * sz:=by
    have:=Nat.mul_le_mul_right sz (show k + 1 ≤ xs.length by omega)
    rwa [Nat.succ_mul] at this
   have hrow:(cs.drop (off + k * sz)).take sz = f x:=by
    rw [← hat,← hc,List.drop_take,List.take_take,List.drop_drop,Nat.min_eq_left (by omega)]
   have hfit:off + k * sz + sz ≤ cs.length:=by omega
   have hrd0:AH.rd h id ver = some cs:=by have:=hrd [];rwa [List.append_nil] at this
   refine ⟨.ptr id ver (off + k * sz),?_,?_,?_,?_⟩
   ·simp [xIad,hlt]
   ·simp only [xLda,hrd0,Option.bind_some]
    rw [if_pos hfit,hrow]
   ·intro g
    simp only [xLda,hrd g,Option.bind_some]
    rw [if_pos hfit,hrow]
   ·intro j c hj
    have hj':j < sz:=by rw [← hf x];exact (List.getElem?_eq_some_iff.1 hj).1
    have hcell:cs[off + k * sz + j]? = some c:=by
     rw [← hj,← hrow,List.getElem?_take_of_lt hj',List.getElem?_drop]
    refine ⟨.ptr id ver (off + k * sz + j),rfl,?_,?_⟩
    ·simp only [xLd1,hrd0,Option.bind_some,hcell]
    ·intro g
     simp only [xLd1,hrd g,Option.bind_some,hcell]
 | ro fn xs hr=>
   have hx:=hr k x hk
   refine ⟨.rp (fn k),?_,?_,?_,?_⟩
   ·simp [xIad,hlt]
   ·simp only [xLda,hx,hf];rw [if_pos (Nat.le_refl _),List.take_of_length_le (by rw [hf];exact Nat.le_refl _)]
   ·intro g;simp only [xLda,hx,hf];rw [if_pos (Nat.le_refl _),List.take_of_length_le (by rw [hf];exact Nat.le_refl _)]
   ·intro j c hj
    refine ⟨.rp ((fn k).drop j),rfl,?_,?_⟩
    ·simp [xLd1,hx,hj]
    ·intro g;simp [xLd1,hx,hj]
 | nl A c=>simp at hk
theorem SlT.sls (s:SlT f sz h v xs) (hf:∀ x,(f x).length = sz) {a b:Int} (h0:0 ≤ a) (h1:a ≤ b) (h2:b ≤ xs.length):∃ v',xSls sz v (some (VI a)) (some (VI b)) = some v' ∧ SlT f sz h v' ((xs.drop a.toNat).take (b.toNat - a.toNat)):=by
 have hb:0 ≤ b ∧ b ≤ (xs.length:Int):=by omega
 have hab:0 ≤ a ∧ a ≤ ((b.toNat:Nat):Int):=by omega
 have hl:((xs.drop a.toNat).take (b.toNat - a.toNat)).length = b.toNat - a.toNat:=by
  rw [List.length_take,List.length_drop]
  omega
 cases s with
 | sl id ver off cs xs hrd hc=>
   by_cases hc2:a.toNat < b.toNat ∨ a.toNat = 0
   ·refine ⟨.sl id ver (off + a.toNat * sz) (b.toNat - a.toNat) sz,?_,?_⟩
    ·simp only [xSls,if_true,xHi,xLo,hb,and_self,Option.bind_some,if_pos hab,if_pos hc2]
    ·have:=SlT.sl (f:=f) (sz:=sz) (h:=h) id ver (off + a.toNat * sz) cs ((xs.drop a.toNat).take (b.toNat - a.toNat)) hrd (by
      rw [hl,← cells_take hf,← cells_drop hf,← hc,List.drop_take,List.take_take,List.drop_drop,Nat.min_eq_left]
      rw [← Nat.sub_mul]
      exact Nat.mul_le_mul_right _ (by omega))
     rw [hl] at this
     exact this
   ·refine ⟨.ro sz 0 fun _=>[],?_,?_⟩
    ·simp only [xSls,if_true,xHi,xLo,hb,and_self,Option.bind_some,if_pos hab,if_neg hc2]
    ·have e:(xs.drop a.toNat).take (b.toNat - a.toNat) = []:=List.eq_nil_of_length_eq_zero (by omega)
     rw [e]
     exact SlT.ro (fun _=>[]) [] (fun i x hx=>by simp at hx)
 | ro fn xs hr=>
   refine ⟨.ro sz (b.toNat - a.toNat) fun i=>fn (a.toNat + i),?_,?_⟩
   ·simp only [xSls,if_true,xHi,xLo,hb,and_self,Option.bind_some,if_pos hab]
   ·have:=SlT.ro (f:=f) (sz:=sz) (h:=h) (fun i=>fn (a.toNat + i)) ((xs.drop a.toNat).take (b.toNat - a.toNat)) (by
     intro i x hx
     rw [List.getElem?_take] at hx
     split at hx
     ·rw [List.getElem?_drop] at hx
      exact hr _ x hx
     ·cases hx)
    rw [hl] at this
    exact this
 | nl A c=>
   have hb0:b = 0:=by simp at h2;omega
   have ha0:a = 0:=by omega
   subst hb0 ha0
   exact ⟨.v (.slice A 0 c),by simp [xSls,xHi,xLo],by simpa using SlT.nl A c⟩
theorem flatMap_range {β:Type} (fn:Nat → List β) (g:α → List β):∀ (xs:List α) (n:Nat),(∀ (i:Nat) x,xs[i]? = some x → fn (n + i) = g x) → ((List.range' n xs.length).flatMap fn) = xs.flatMap g
 | [],n,_=>rfl
 | x :: r,n,h=>by
   rw [List.length_cons,List.range'_succ,List.flatMap_cons,List.flatMap_cons,flatMap_range fn g r (n + 1) (fun i y hy=>by
    have:=h (i + 1) y (by simpa using hy)
    rw [← this];congr 1;omega)]
   have:=h 0 x rfl
   rw [Nat.add_zero] at this
   rw [this]
theorem SlT.rows (s:SlT f sz h v xs) (hf:∀ x,(f x).length = sz) (hsz:0 < sz) (g:AH):∃ c,xRows (h ++ g) sz v = some (xs.length,c) ∧ c = xs.flatMap f ∨ xs = []:=by
 by_cases hx:0 < xs.length
 ·cases s with
  | sl id ver off cs xs hrd hc=>
    refine ⟨_,.inl ⟨?_,rfl⟩⟩
    have hfit:=SlT.fit hf hsz hc hx
    simp only [xRows,if_true,hrd g,Option.bind_some,if_pos hfit,hc]
  | ro fn xs hr=>
    refine ⟨_,.inl ⟨?_,rfl⟩⟩
    simp only [xRows,if_true]
    rw [List.range_eq_range',flatMap_range fn f xs 0 (fun i x h=>by rw [Nat.zero_add];exact hr i x h)]
  | nl A c=>simp at hx
 ·exact ⟨[],.inr (List.eq_nil_of_length_eq_zero (by omega))⟩
theorem SlT.whole {id ver:Nat} {l:List AV} (hrd:∀ g,AH.rd (h ++ g) id ver = some l) (hf:∀ x,(f x).length = sz) (hl:l = xs.flatMap f):SlT f sz h (.sl id ver 0 xs.length sz) xs:=
 .sl id ver 0 l xs hrd (by rw [List.drop_zero,hl,← cells_len hf,List.take_length])
end
abbrev fI (x:Int):List AV:=[VI x]
theorem fI_len (x:Int):(fI x).length = 1:=rfl
theorem flat_fI (xs:List Int):xs.flatMap fI = xs.map VI:=by
 induction xs with
 | nil=>rfl
 | cons x r ih=>simp [List.flatMap_cons,ih]
theorem SlT.toI {h:AH} {v:AV} {xs:List Int} (s:SlT fI 1 h v xs):SlI h v xs:=by
 refine ⟨s.len,fun i x hx=>?_⟩
 obtain ⟨p,h1,_,_,h4⟩:=s.get fI_len (by decide) hx
 obtain ⟨q,q1,q2,_⟩:=h4 0 (VI x) rfl
 refine ⟨p,h1,?_⟩
 cases p <;> simp_all [xFad,xLd1]
 all_goals
  subst q1
  simpa [xLd1] using q2
end Go.Tidy
namespace Go.Tidy
open Go Go.Eng Go.Proofs
variable {cx:Cx}
set_option maxHeartbeats 4000000 in
set_option maxRecDepth 100000 in
theorem c154 (hO:On cx) (op:Int) (h:AH):SimCall cx 154 [VI op] h fun r h'=>h' = h ∧ r = .tup [(info op).av,VI (infoE op)]:=by
 refine SimCall.gc ?_
 refine SimCall.by hO.P res154 ?_
 unfold x154 r154
 repeat' first
  | ((with_reducible show wx _ (XCode.cond _ _ _) _ _);refine wx_if rfl (fun _=>?_) (fun _=>?_))
  | ((with_reducible show SemL _ _ _ _);refine SemL.of ?_)
  | ((with_reducible show SimCall _ 203 _ _ _);refine (c203 hO _ _).mono ?_;rintro r h' ⟨rfl,rfl⟩)
  | simp (maxSteps:=1000000) only [go_sem]
  | ((with_reducible show wl _ (XI.mk _ (some _) (XBody.op _) :: _) _ _);refine wl_optF rfl (fun e2=>by ((try simp only [Bool.and_eq_true] at e2);first | (simp (maxSteps:=1000000) only [e2,go_sem];first | done | rfl))) ?_)
 all_goals refine ⟨by first | exact more_one | exact more_nil,plain_tup (by simp [Plain.v,Use.av,Plain.agg]),?_⟩
 all_goals simp only [decide_eq_true_eq,decide_eq_false_iff_not] at *
 all_goals unfold info infoE Use.av
 all_goals (try simp only [band] at *)
 all_goals (try simp_all)
 all_goals grind
end Go.Tidy
namespace Go.Tidy
open Go Go.Eng Go.Proofs
variable {cx:Cx}
set_option maxHeartbeats 4000000 in
set_option maxRecDepth 100000 in
theorem c201 (hO:On cx) (i:Ins) (h:AH):SimCall cx 201 [i.av] h fun r h'=>h' = h ∧ r = VB (offsB i):=by
 refine SimCall.gc ?_
 refine SimCall.by hO.P res201 ?_
 unfold x201 r201
 repeat' first
  | ((with_reducible show wx _ (XCode.cond _ _ _) _ _);refine wx_if rfl (fun _=>?_) (fun _=>?_))
  | ((with_reducible show SemL _ _ _ _);refine SemL.of ?_)
  | ((with_reducible show SimCall _ 203 _ _ _);refine (c203 hO _ _).mono ?_;rintro r h' ⟨rfl,rfl⟩)
  | simp (maxSteps:=1000000) only [go_sem]
  | ((with_reducible show wl _ (XI.mk _ (some _) (XBody.op _) :: _) _ _);first | refine wl_optT rfl (fun e2=>by ((try simp only [Bool.and_eq_true] at e2);first | (simp (maxSteps:=1000000) only [e2,go_sem];first | done | rfl))) ?_ | refine wl_optF rfl (fun e2=>by ((try simp only [Bool.and_eq_true] at e2);first | (simp (maxSteps:=1000000) only [e2,go_sem];first | done | rfl))) ?_ | refine wl_opt2T rfl (fun e1 e2=>by ((try simp only [Bool.and_eq_true] at e1);first | (simp (maxSteps:=1000000) only [e1,e2,go_sem];first | done | rfl))) ?_)
 all_goals first | exact ⟨more_one,plain_v _⟩ | exact ⟨more_nil,plain_v _⟩ | refine ⟨by first | exact more_one | exact more_nil,by first | exact plain_v _ | exact plain_tup (by simp [Plain.v]),?_⟩
 all_goals try simp only [decide_eq_true_eq,decide_eq_false_iff_not,Bool.not_eq_true',Bool.not_eq_false',AV.v.injEq,AV.tup.injEq,List.cons.injEq,Value.int.injEq,Value.bool.injEq,true_and,and_true] at *
 all_goals unfold offsB
 all_goals (try simp only [band] at *)
 all_goals (try simp_all)
 all_goals grind
end Go.Tidy
namespace Go.Tidy
open Go Go.Eng Go.Proofs
variable {cx:Cx}
theorem c202 (hO:On cx) (i:Ins) (h:AH):SimCall cx 202 [i.av] h fun r h'=>h' = h ∧ r = VB (immsB i):=by
 refine SimCall.gc ?_
 refine SimCall.by hO.P res202 ?_
 unfold x202 r202
 repeat' first
  | ((with_reducible show wx _ (XCode.cond _ _ _) _ _);refine wx_if rfl (fun _=>?_) (fun _=>?_))
  | ((with_reducible show SemL _ _ _ _);refine SemL.of ?_)
  | ((with_reducible show SimCall _ 203 _ _ _);refine (c203 hO _ _).mono ?_;rintro r h' ⟨rfl,rfl⟩)
  | ((with_reducible show dK _ 148 _ _ _);refine dK_of _ (c148 hO.P _ atomicsL i.imm _ (slI_ro _ atomicsL) (by decide)) ?_)
  | simp (maxSteps:=1000000) only [go_sem,hO.atomics]
  | ((with_reducible show wl _ (XI.mk _ (some _) (XBody.op _) :: _) _ _);first | refine wl_optT rfl (fun e2=>by ((try simp only [Bool.and_eq_true] at e2);first | (simp (maxSteps:=1000000) only [e2,go_sem,hO.atomics];first | done | rfl))) ?_ | refine wl_optF rfl (fun e2=>by ((try simp only [Bool.and_eq_true] at e2);first | (simp (maxSteps:=1000000) only [e2,go_sem,hO.atomics];first | done | rfl))) ?_)
 all_goals first | exact ⟨more_one,plain_v _⟩ | exact ⟨more_nil,plain_v _⟩ | refine ⟨by first | exact more_one | exact more_nil,by first | exact plain_v _ | exact plain_tup (by simp [Plain.v]),?_⟩
 all_goals try simp only [decide_eq_true_eq,decide_eq_false_iff_not,Bool.not_eq_true',Bool.not_eq_false',AV.v.injEq,AV.tup.injEq,List.cons.injEq,Value.int.injEq,Value.bool.injEq,true_and,and_true] at *
 all_goals unfold immsB
 all_goals (try simp only [band] at *)
 all_goals (try simp_all)
 all_goals grind
set_option maxHeartbeats 4000000 in
theorem c143 (hO:On cx) (i:Ins) (h:AH):SimCall cx 143 [i.av] h fun r h'=>h' = h ∧ r = VI (may i):=by
 refine SimCall.gc ?_
 refine SimCall.by hO.P res143 ?_
 unfold x143 r143
 repeat' first
  | ((with_reducible show wx _ (XCode.cond _ _ _) _ _);refine wx_if rfl (fun _=>?_) (fun _=>?_))
  | ((with_reducible show SemL _ _ _ _);refine SemL.of ?_)
  | ((with_reducible show SimCall _ 154 _ _ _);refine (c154 hO _ _).mono ?_;rintro r h' ⟨rfl,rfl⟩)
  | simp (maxSteps:=1000000) only [go_sem,Use.av]
  | ((with_reducible show wl _ (XI.mk _ (some _) (XBody.op _) :: _) _ _);first | refine wl_optT rfl (fun e2=>by ((try simp only [Bool.and_eq_true] at e2);first | (simp (maxSteps:=1000000) only [e2,go_sem,Use.av];first | done | rfl))) ?_ | refine wl_optF rfl (fun e2=>by ((try simp only [Bool.and_eq_true] at e2);first | (simp (maxSteps:=1000000) only [e2,go_sem,Use.av];first | done | rfl))) ?_ | refine wl_opt2T rfl (fun e1 e2=>by ((try simp only [Bool.and_eq_true] at e1);first | (simp (maxSteps:=1000000) only [e1,e2,go_sem,Use.av];first | done | rfl))) ?_ | refine wl_opt2F rfl (fun e1 e2=>by ((try simp only [Bool.and_eq_true] at e1);first | (simp (maxSteps:=1000000) only [e1,e2,go_sem,Use.av];first | done | rfl))) ?_)
  | ((with_reducible show wl _ (XI.mk _ (some _) (XBody.call (XO.f 201) _) :: _) _ _);refine wl_optc2T rfl rfl (fun e1 e2=>by simp (maxSteps:=1000000) only [e1,e2,go_sem,Use.av];exact (c201 hO i _)) ?_)
  | ((with_reducible show wl _ (XI.mk _ (some _) (XBody.call (XO.f 202) _) :: _) _ _);first | refine wl_optcT rfl rfl (fun e2=>by simp (maxSteps:=1000000) only [e2,go_sem,Use.av];exact (c202 hO i _)) ?_ | refine wl_optcF rfl rfl (fun e2=>by simp (maxSteps:=1000000) only [e2,go_sem,Use.av];exact (c202 hO i _)) ?_ | refine wl_optc2T rfl rfl (fun e1 e2=>by simp (maxSteps:=1000000) only [e1,e2,go_sem,Use.av];exact (c202 hO i _)) ?_)
 all_goals first | exact ⟨more_one,plain_v _⟩ | exact ⟨more_nil,plain_v _⟩ | refine ⟨by first | exact more_one | exact more_nil,by first | exact plain_v _ | exact plain_tup (by simp [Plain.v]),?_⟩
 all_goals try simp only [decide_eq_true_eq,decide_eq_false_iff_not,Bool.not_eq_true',Bool.not_eq_false',AV.v.injEq,AV.tup.injEq,List.cons.injEq,Value.int.injEq,Value.bool.injEq,true_and,and_true] at *
 all_goals unfold may
 all_goals (try simp only [band] at *)
 all_goals (try simp_all)
 all_goals grind
end Go.Tidy
namespace Go.Tidy
variable {α β:Type}
def keepL (g:Nat → Bool):Nat → List α → List α
 | _,[]=>[]
 | n,x :: r=>if g n then keepL g (n + 1) r else x :: keepL g (n + 1) r
def cnt (g:Nat → Bool) (n:Nat):Nat → Nat
 | 0=>0
 | t + 1=>cnt g n t + if g (n + t) then 0 else 1
theorem cnt_succ' (g:Nat → Bool) (n t:Nat):cnt g n (t + 1) = (if g n then 0 else 1) + cnt g (n + 1) t:=by
 induction t with
 | zero=>simp [cnt]
 | succ t ih=>
   rw [cnt,ih,cnt]
   have:n + (t + 1) = n + 1 + t:=by omega
   rw [this]
   omega
theorem keepL_append (g:Nat → Bool):∀ (a b:List α) (n:Nat),keepL g n (a ++ b) = keepL g n a ++ keepL g (n + a.length) b
 | [],b,n=>by simp [keepL]
 | x :: r,b,n=>by
   simp only [List.cons_append,keepL,List.length_cons]
   rw [keepL_append g r b (n + 1)]
   have:n + 1 + r.length = n + (r.length + 1):=by omega
   rw [this]
   split <;> simp
theorem keepL_length (g:Nat → Bool):∀ (a:List α) (n:Nat),(keepL g n a).length = cnt g n a.length
 | [],n=>rfl
 | x :: r,n=>by
   simp only [keepL,List.length_cons,cnt_succ']
   split <;> simp [keepL_length g r (n + 1)] <;> omega
theorem keepL_take (g:Nat → Bool):∀ (a:List α) (n t:Nat),t ≤ a.length → (keepL g n a).take (cnt g n t) = keepL g n (a.take t)
 | [],n,t,h=>by simp [keepL]
 | x :: r,n,0,h=>by simp [keepL,cnt]
 | x :: r,n,t + 1,h=>by
   have h':t ≤ r.length:=by simpa using h
   simp only [keepL,List.take_succ_cons,cnt_succ']
   split
   ·rw [Nat.zero_add,keepL_take g r (n + 1) t h']
   ·rw [Nat.add_comm,List.take_succ_cons,keepL_take g r (n + 1) t h']
theorem keepL_get (g:Nat → Bool):∀ (a:List α) (n k:Nat) (x:α),(keepL g n a)[k]? = some x → ∃ j,a[j]? = some x ∧ g (n + j) = false ∧ cnt g n j = k
 | [],n,k,x,h=>by simp [keepL] at h
 | y :: r,n,k,x,h=>by
   simp only [keepL] at h
   split at h
   ·rename_i hg
    obtain ⟨j,h1,h2,h3⟩:=keepL_get g r (n + 1) k x h
    refine ⟨j + 1,by simpa using h1,by rw [← h2];congr 1;omega,by rw [cnt_succ',hg,h3];simp⟩
   ·rename_i hg
    cases k with
    | zero=>exact ⟨0,by simpa using h,by simpa using hg,rfl⟩
    | succ k=>
      obtain ⟨j,h1,h2,h3⟩:=keepL_get g r (n + 1) k x (by simpa using h)
      refine ⟨j + 1,by simpa using h1,by rw [← h2];congr 1;omega,by rw [cnt_succ',h3];simp [hg];omega⟩
theorem keepL_map (g:Nat → Bool) (f:α → β):∀ (a:List α) (n:Nat),keepL g n (a.map f) = (keepL g n a).map f
 | [],n=>rfl
 | x :: r,n=>by
   simp only [List.map_cons,keepL]
   split <;> simp [keepL_map g f r (n + 1)]
theorem keepL_sub (g:Nat → Bool):∀ (a:List α) (n:Nat),(keepL g n a).Sublist a
 | [],n=>.slnil
 | x :: r,n=>by
   simp only [keepL]
   split
   ·exact (keepL_sub g r (n + 1)).cons x
   ·exact (keepL_sub g r (n + 1)).cons_cons x
theorem sum_sub {a b:List Nat} (h:a.Sublist b):a.sum ≤ b.sum:=by
 induction h with
 | slnil=>simp
 | cons x _ ih=>simp;omega
 | cons_cons x _ ih=>simp;omega
theorem cnt_le (g:Nat → Bool) (n t:Nat):cnt g n t ≤ t:=by
 induction t with
 | zero=>simp [cnt]
 | succ t ih=>rw [cnt];split <;> omega
theorem cnt_mono (g:Nat → Bool) (n:Nat) {t u:Nat} (h:t ≤ u):cnt g n t ≤ cnt g n u:=by
 induction u with
 | zero=>have:t = 0:=by omega
         subst this;exact Nat.le_refl _
 | succ u ih=>
   by_cases hu:t ≤ u
   ·have:=ih hu
    rw [cnt];omega
   ·have:t = u + 1:=by omega
    subst this;exact Nat.le_refl _
theorem cnt_lt (g:Nat → Bool) {t u:Nat} (h:t < u) (hg:g t = false):cnt g 0 t < cnt g 0 u:=by
 have h1:=cnt_mono g 0 (show t + 1 ≤ u from h)
 rw [cnt,Nat.zero_add,hg] at h1
 simp at h1
 omega
def psum (ws:List Nat) (t:Nat):Nat:=(ws.take t).sum
theorem psum_keep (g:Nat → Bool) (ws:List Nat) {t:Nat} (ht:t ≤ ws.length):psum (keepL g 0 ws) (cnt g 0 t) = (keepL g 0 (ws.take t)).sum:=by
 rw [psum,keepL_take g ws 0 t ht]
theorem take_split (ws:List Nat) {k t:Nat} (h:k ≤ t):ws.take t = ws.take k ++ (ws.drop k).take (t - k):=by
 have:t = k + (t - k):=by omega
 conv=>lhs;rw [this]
 exact List.take_add
theorem psum_split (ws:List Nat) {k t:Nat} (h:k ≤ t):psum ws t = psum ws k + ((ws.drop k).take (t - k)).sum:=by
 rw [psum,take_split ws h,List.sum_append];rfl
theorem psum_keep_le (g:Nat → Bool) (ws:List Nat) {k t:Nat} (h:k ≤ t) (ht:t ≤ ws.length) :
 psum (keepL g 0 ws) (cnt g 0 k) ≤ psum (keepL g 0 ws) (cnt g 0 t) ∧ psum (keepL g 0 ws) (cnt g 0 t) + psum ws k ≤ psum (keepL g 0 ws) (cnt g 0 k) + psum ws t:=by
 rw [psum_keep g ws ht,psum_keep g ws (by omega:k ≤ ws.length),psum_split ws h,take_split ws h,keepL_append,List.sum_append]
 have:=sum_sub (keepL_sub g ((ws.drop k).take (t - k)) (0 + (ws.take k).length))
 omega
theorem psum_lt (ws:List Nat) (hw:∀ w ∈ ws,1 ≤ w) {k t:Nat} (h:k < t) (ht:t ≤ ws.length):psum ws k + 1 ≤ psum ws t:=by
 rw [psum_split ws (Nat.le_of_lt h),List.drop_eq_getElem_cons (by omega:k < ws.length)]
 have:t - k = (t - k - 1) + 1:=by omega
 rw [this,List.take_succ_cons]
 simp
 have:=hw ws[k] (List.getElem_mem _)
 omega
theorem psum_mono (ws:List Nat) {k t:Nat} (h:k ≤ t):psum ws k ≤ psum ws t:=by
 rw [psum_split ws h];omega
theorem psum_all (ws:List Nat) {t:Nat} (h:ws.length ≤ t):psum ws t = ws.sum:=by
 rw [psum,List.take_of_length_le h]
end Go.Tidy
namespace Go.Tidy
open Go Go.Eng Go.Proofs
structure Stp where
 ins:Ins
 to:Int
def wd (i:Ins):Nat:=if i.op = 24 then 2 else 1
theorem wd_pos (i:Ins):1 ≤ wd i:=by unfold wd;split <;> omega
theorem wd_le (i:Ins):wd i ≤ 2:=by unfold wd;split <;> omega
def wsI (is:List Ins):List Nat:=is.map wd
def wsB (b:List Stp):List Nat:=b.map fun s=>wd s.ins
theorem wsB_pos (b:List Stp):∀ w ∈ wsB b,1 ≤ w:=by
 intro w hw
 obtain ⟨s,_,rfl⟩:=List.mem_map.1 hw
 exact wd_pos _
def dist (ws:List Nat) (k t:Nat):Int:=(psum ws t:Int) - psum ws k - 1
def isJ (i:Ins):Bool:=decide (i.op = 5) || decide (i.op = 6)
structure Fits (b:List Stp):Prop where
 ne:0 < b.length
 to:∀ (k:Nat) s,b[k]? = some s → leads s.ins = true → 0 ≤ s.to ∧ s.to < b.length ∧ (¬ s.ins.op = 6 → -32768 ≤ dist (wsB b) k s.to.toNat ∧ dist (wsB b) k s.to.toNat < 32768)
 no:∀ (k:Nat) s,b[k]? = some s → leads s.ins = false → s.to = -1
 may:∀ (k:Nat) s,b[k]? = some s → may s.ins = 0
 last:∀ s,b[b.length - 1]? = some s → jumps s.ins = 1 ∨ jumps s.ins = 4
def withoutL (b:List Stp) (g:Nat → Bool):List Stp:=(keepL g 0 b).map fun s=>⟨s.ins,if 0 ≤ s.to then cnt g 0 s.to.toNat else s.to⟩
theorem wsB_without (b:List Stp) (g:Nat → Bool):wsB (withoutL b g) = keepL g 0 (wsB b):=by
 unfold wsB withoutL
 rw [List.map_map,keepL_map]
 rfl
theorem withoutL_length (b:List Stp) (g:Nat → Bool):(withoutL b g).length = cnt g 0 b.length:=by
 unfold withoutL
 rw [List.length_map,keepL_length]
theorem withoutL_get {b:List Stp} {g:Nat → Bool} {k:Nat} {s:Stp} (h:(withoutL b g)[k]? = some s) :
 ∃ j s0,b[j]? = some s0 ∧ g j = false ∧ cnt g 0 j = k ∧ s.ins = s0.ins ∧ s.to = (if 0 ≤ s0.to then (cnt g 0 s0.to.toNat:Int) else s0.to):=by
 unfold withoutL at h
 rw [List.getElem?_map,Option.map_eq_some_iff] at h
 obtain ⟨s0,h1,rfl⟩:=h
 obtain ⟨j,h2,h3,h4⟩:=keepL_get g b 0 k s0 h1
 exact ⟨j,s0,h2,by simpa using h3,h4,rfl,rfl⟩
theorem Fits.without {b:List Stp} (hf:Fits b) {g:Nat → Bool}
 (hto:∀ (k:Nat) s,b[k]? = some s → g k = false → leads s.ins = true → ∃ j,s.to.toNat ≤ j ∧ j < b.length ∧ g j = false)
 (hlast:∀ (k:Nat) s,b[k]? = some s → g k = false → (∀ j,k < j → j < b.length → g j = true) → jumps s.ins = 1 ∨ jumps s.ins = 4)
 (hne:∃ k,k < b.length ∧ g k = false):Fits (withoutL b g):=by
 have hlen:=withoutL_length b g
 refine ⟨?_,?_,?_,?_,?_⟩
 ·obtain ⟨k,h1,h2⟩:=hne
  have:=cnt_lt g h1 h2
  omega
 ·intro k s hs hl
  obtain ⟨j,s0,h1,h2,rfl,h4,h5⟩:=withoutL_get hs
  rw [h4] at hl
  obtain ⟨q1,q2,q3⟩:=hf.to j s0 h1 hl
  obtain ⟨m,m1,m2,m3⟩:=hto j s0 h1 h2 hl
  rw [if_pos q1] at h5
  have hlt:cnt g 0 s0.to.toNat < cnt g 0 b.length:=Nat.lt_of_le_of_lt (cnt_mono g 0 m1) (cnt_lt g m2 m3)
  have hj:j < b.length:=(List.getElem?_eq_some_iff.1 h1).1
  refine ⟨by omega,by rw [hlen,h5];exact_mod_cast hlt,?_⟩
  rw [h4,h5,wsB_without]
  intro h6
  obtain ⟨p1,p2⟩:=q3 h6
  have hwl:(wsB b).length = b.length:=by simp [wsB]
  unfold dist at p1 p2 ⊢
  have ht:s0.to.toNat < b.length:=by omega
  have e1:((cnt g 0 s0.to.toNat:Nat):Int).toNat = cnt g 0 s0.to.toNat:=by omega
  rw [e1]
  by_cases hc:j < s0.to.toNat
  ·obtain ⟨a1,a2⟩:=psum_keep_le g (wsB b) (Nat.le_of_lt hc) (by omega)
   have a3:psum (keepL g 0 (wsB b)) (cnt g 0 j) + 1 ≤ psum (keepL g 0 (wsB b)) (cnt g 0 s0.to.toNat):=by
    refine psum_lt _ (fun w hw=>wsB_pos b w ((keepL_sub g _ 0).subset hw)) (cnt_lt g hc h2) ?_
    rw [keepL_length,hwl]
    omega
   omega
  ·obtain ⟨a1,a2⟩:=psum_keep_le g (wsB b) (show s0.to.toNat ≤ j by omega) (by omega)
   have:=psum_mono (wsB b) (show s0.to.toNat ≤ j by omega)
   omega
 ·intro k s hs hl
  obtain ⟨j,s0,h1,h2,h3,h4,h5⟩:=withoutL_get hs
  rw [h4] at hl
  have:=hf.no j s0 h1 hl
  rw [h5,this]
  rfl
 ·intro k s hs
  obtain ⟨j,s0,h1,h2,h3,h4,h5⟩:=withoutL_get hs
  rw [h4]
  exact hf.may j s0 h1
 ·intro s hs
  obtain ⟨j,s0,h1,h2,h3,h4,h5⟩:=withoutL_get hs
  rw [h4]
  have hj:j < b.length:=(List.getElem?_eq_some_iff.1 h1).1
  refine hlast j s0 h1 h2 ?_
  intro m hm1 hm2
  cases hg:g m with
  | true=>rfl
  | false=>
    exfalso
    have a1:=cnt_lt g hm1 h2
    have a2:=cnt_lt g hm2 hg
    omega
structure Reach (b:List Stp) (r:Nat → Bool):Prop where
 zero:r 0 = true
 to:∀ (k:Nat) s,b[k]? = some s → r k = true → leads s.ins = true → r s.to.toNat = true
 next:∀ (k:Nat) s,b[k]? = some s → r k = true → jumps s.ins ≠ 1 → jumps s.ins ≠ 4 → r (k + 1) = true
theorem Fits.last' {b:List Stp} (hf:Fits b) {k:Nat} {s:Stp} (hk:b[k]? = some s) (h1:jumps s.ins ≠ 1) (h4:jumps s.ins ≠ 4):k + 1 < b.length:=by
 have hlt:=(List.getElem?_eq_some_iff.1 hk).1
 by_cases h:k + 1 < b.length
 ·exact h
 ·exfalso
  have:k = b.length - 1:=by omega
  rw [this] at hk
  rcases hf.last s hk with h | h
  ·exact h1 h
  ·exact h4 h
theorem Fits.unreached {b:List Stp} (hf:Fits b) {r:Nat → Bool} (hr:Reach b r):Fits (withoutL b fun k=>!r k):=by
 refine hf.without ?_ ?_ ⟨0,hf.ne,by simp [hr.zero]⟩
 ·intro k s hs hg hl
  obtain ⟨q1,q2,_⟩:=hf.to k s hs hl
  exact ⟨s.to.toNat,Nat.le_refl _,by omega,by simp [hr.to k s hs (by simpa using hg) hl]⟩
 ·intro k s hs hg hall
  by_cases h1:jumps s.ins = 1
  ·exact .inl h1
  ·by_cases h4:jumps s.ins = 4
   ·exact .inr h4
   ·exfalso
    have h5:=hf.last' hs h1 h4
    have h6:=hr.next k s hs (by simpa using hg) h1 h4
    have h7:=hall (k + 1) (by omega) h5
    simp [h6] at h7
def idleB (b:List Stp) (k:Nat):Bool:=match b[k]? with
 | some s=>(decide (s.ins.op = 191) && decide (s.ins.off = 0) && decide (s.ins.dst = s.ins.src)) || (isJ s.ins && decide (s.to = k + 1))
 | none=>false
theorem form191:form 191 = 3:=by decide
theorem Fits.idle {b:List Stp} (hf:Fits b):Fits (withoutL b (idleB b)):=by
 have hl:idleB b (b.length - 1) = false:=by
  have hlt:b.length - 1 < b.length:=by have:=hf.ne;omega
  have hs:=List.getElem?_eq_getElem hlt
  unfold idleB
  rw [hs]
  generalize b[b.length - 1] = s at hs
  simp only [Bool.or_eq_false_iff,Bool.and_eq_false_iff,decide_eq_false_iff_not]
  refine ⟨.inl (.inl ?_),?_⟩
  ·intro h
   have h1:=hf.last s hs
   have h2:=hf.may _ s hs
   unfold jumps at h1
   rw [h2,h] at h1
   simp [form191] at h1
  ·by_cases hj:isJ s.ins = true
   ·right
    have h2:=hf.may _ s hs
    have hl:=jump_leads h2 (by simpa [isJ] using hj)
    have:=hf.to _ s hs hl
    omega
   ·left;simpa using hj
 have hlt:b.length - 1 < b.length:=by have:=hf.ne;omega
 refine hf.without ?_ ?_ ⟨_,hlt,hl⟩
 ·intro k s hs hg hld
  have:=hf.to k s hs hld
  exact ⟨b.length - 1,by omega,hlt,hl⟩
 ·intro k s hs hg hall
  have hk:=(List.getElem?_eq_some_iff.1 hs).1
  by_cases hkl:k = b.length - 1
  ·exact hf.last s (by rw [← hkl];exact hs)
  ·have:=hall (b.length - 1) (by omega) hlt
   rw [hl] at this
   cases this
theorem Fits.thread {b:List Stp} (hf:Fits b) {k:Nat} {s:Stp} (hs:b[k]? = some s) (hj:isJ s.ins = true) {t:Nat} (ht:t < b.length) (hd:¬ s.ins.op = 6 → -32768 ≤ dist (wsB b) k t ∧ dist (wsB b) k t < 32768) :
 Fits (b.set k ⟨s.ins,t⟩):=by
 have hk:=(List.getElem?_eq_some_iff.1 hs).1
 have hws:wsB (b.set k ⟨s.ins,t⟩) = wsB b:=by
  unfold wsB
  rw [List.map_set]
  refine List.ext_getElem? fun m=>?_
  by_cases hm:m = k
  ·subst hm
   rw [List.getElem?_set_self (by simpa using hk),List.getElem?_map,hs]
   rfl
  ·rw [List.getElem?_set_ne (fun h=>hm h.symm)]
 have key:∀ (m:Nat) x,(b.set k ⟨s.ins,t⟩)[m]? = some x → (m = k ∧ x = ⟨s.ins,t⟩) ∨ (m ≠ k ∧ b[m]? = some x):=by
  intro m x h
  by_cases hm:m = k
  ·subst hm
   rw [List.getElem?_set_self hk] at h
   exact .inl ⟨rfl,by simpa using h.symm⟩
  ·rw [List.getElem?_set_ne (fun h=>hm h.symm)] at h
   exact .inr ⟨hm,h⟩
 have hld:=jump_leads (hf.may k s hs) (by simpa [isJ] using hj)
 refine ⟨by simpa using hf.ne,?_,?_,?_,?_⟩
 ·intro m x hx hl
  rw [hws,List.length_set]
  rcases key m x hx with ⟨rfl,rfl⟩ | ⟨h1,h2⟩
  ·exact ⟨Int.natCast_nonneg t,by simpa using ht,by simpa using hd⟩
  ·exact hf.to m x h2 hl
 ·intro m x hx hl
  rcases key m x hx with ⟨rfl,rfl⟩ | ⟨h1,h2⟩
  ·simp only at hl;rw [hld] at hl;cases hl
  ·exact hf.no m x h2 hl
 ·intro m x hx
  rcases key m x hx with ⟨rfl,rfl⟩ | ⟨h1,h2⟩
  ·exact hf.may _ s hs
  ·exact hf.may m x h2
 ·intro x hx
  rw [List.length_set] at hx
  rcases key _ x hx with ⟨h1,rfl⟩ | ⟨h1,h2⟩
  ·exact hf.last s (by rw [h1];exact hs)
  ·exact hf.last x h2
def laidI (ws:List Nat) (k:Nat) (s:Stp):Ins:=if 0 ≤ s.to then s.ins.aim (dist ws k s.to.toNat) else s.ins
def laidL (b:List Stp):List Ins:=b.mapIdx (laidI (wsB b))
structure RuleOk (nf nt:Int) (i:Ins):Prop where
 may:may i = 0
 write:10 ∉ writes i
 call:jumps i = 3 → 0 ≤ i.imm ∧ i.imm < nf
 table:i.op = 24 → i.src = 1 → 0 ≤ i.imm ∧ i.imm < nt
 help:form i.op = 9 → i.src = 0 → 1 ≤ i.imm ∧ i.imm ≤ 4
structure BodyOk (nf nt:Int) (is:List Ins):Prop where
 ne:0 < is.length
 rule:∀ i ∈ is,RuleOk nf nt i
 to:∀ (k:Nat) i,is[k]? = some i → leads i = true → ∃ t,t < is.length ∧ (psum (wsI is) t:Int) = psum (wsI is) k + 1 + i.far
 last:∀ i,is[is.length - 1]? = some i → jumps i = 1 ∨ jumps i = 4
theorem wsI_laid (b:List Stp):wsI (laidL b) = wsB b:=by
 unfold wsI wsB laidL
 refine List.ext_getElem? fun k=>?_
 simp only [List.getElem?_map,List.getElem?_mapIdx]
 cases b[k]? with
 | none=>rfl
 | some s=>
   simp only [Option.map_some,Option.some.injEq]
   unfold laidI wd
   split
   ·rw [aim_op]
   ·rfl
theorem laid_ok {b:List Stp} (hf:Fits b) {nf nt:Int} (hr:∀ s ∈ b,RuleOk nf nt s.ins) (hs:(wsB b).sum < 2147483647):BodyOk nf nt (laidL b):=by
 have hlen:(laidL b).length = b.length:=by simp [laidL]
 have hget:∀ (k:Nat) i,(laidL b)[k]? = some i → ∃ s,b[k]? = some s ∧ i = laidI (wsB b) k s:=by
  intro k i h
  unfold laidL at h
  rw [List.getElem?_mapIdx,Option.map_eq_some_iff] at h
  obtain ⟨s,h1,h2⟩:=h
  exact ⟨s,h1,h2.symm⟩
 have hrange:∀ (k:Nat) s,b[k]? = some s → leads s.ins = true → (if s.ins.op = 6 then -2147483648 ≤ dist (wsB b) k s.to.toNat ∧ dist (wsB b) k s.to.toNat < 2147483648 else -32768 ≤ dist (wsB b) k s.to.toNat ∧ dist (wsB b) k s.to.toNat < 32768):=by
  intro k s h hl
  obtain ⟨_,_,h3⟩:=hf.to k s h hl
  split
  ·have a1:=psum_all (wsB b) (Nat.le_refl _)
   have a2:psum (wsB b) k ≤ (wsB b).sum:=by rw [← psum_all (wsB b) (t:=max k (wsB b).length) (by omega)];exact psum_mono _ (by omega)
   have a3:psum (wsB b) s.to.toNat ≤ (wsB b).sum:=by rw [← psum_all (wsB b) (t:=max s.to.toNat (wsB b).length) (by omega)];exact psum_mono _ (by omega)
   unfold dist
   omega
  ·rename_i h6;exact h3 h6
 have hkind:∀ (k:Nat) s,b[k]? = some s → jumps (laidI (wsB b) k s) = jumps s.ins ∧ (leads s.ins = true → laidI (wsB b) k s = s.ins.aim (dist (wsB b) k s.to.toNat)) ∧ (leads s.ins = false → laidI (wsB b) k s = s.ins):=by
  intro k s h
  by_cases hl:leads s.ins = true
  ·have h0:=(hf.to k s h hl).1
   refine ⟨?_,fun _=>by unfold laidI;rw [if_pos h0],fun h=>by rw [hl] at h;cases h⟩
   unfold laidI
   rw [if_pos h0]
   exact (leads_aim hl (hrange k s h hl)).1
  ·have hl':leads s.ins = false:=by simpa using hl
   have h0:=hf.no k s h hl'
   have:laidI (wsB b) k s = s.ins:=by unfold laidI;rw [if_neg (by omega)]
   exact ⟨by rw [this],fun h=>absurd h hl,fun _=>this⟩
 refine ⟨by rw [hlen];exact hf.ne,?_,?_,?_⟩
 ·intro i hi
  obtain ⟨k,hk⟩:=List.mem_iff_getElem?.1 hi
  obtain ⟨s,h1,rfl⟩:=hget k i hk
  have hr:=hr s (List.mem_of_getElem? h1)
  by_cases hl:leads s.ins = true
  ·rw [(hkind k s h1).2.1 hl]
   have hv:=hrange k s h1 hl
   obtain ⟨a1,a2,a3⟩:=leads_aim hl hv
   have hfm:=(leads_form hl).2
   refine ⟨may_aim hl hv,by rw [a2];simp,?_,?_,?_⟩
   ·intro h
    rw [a1] at h
    unfold leads at hl
    simp [h] at hl
   ·intro h
    rw [aim_op] at h
    rw [h] at hfm
    rw [form24] at hfm
    omega
   ·intro h
    rw [aim_op] at h
    omega
  ·rw [(hkind k s h1).2.2 (by simpa using hl)]
   exact hr
 ·intro k i hk hl
  obtain ⟨s,h1,rfl⟩:=hget k i hk
  have hl':leads s.ins = true:=by
   unfold leads at hl ⊢
   rw [(hkind k s h1).1] at hl
   exact hl
  obtain ⟨q1,q2,q3⟩:=hf.to k s h1 hl'
  refine ⟨s.to.toNat,by rw [hlen];omega,?_⟩
  rw [(hkind k s h1).2.1 hl',aim_far,wsI_laid]
  unfold dist
  omega
 ·intro i hi
  rw [hlen] at hi
  obtain ⟨s,h1,rfl⟩:=hget _ i hi
  rw [(hkind _ s h1).1]
  exact hf.last s h1
theorem takenUp_fits {nf nt:Int} {is:List Ins} (hb:BodyOk nf nt is) {b:List Stp} (hl:b.length = is.length)
 (hg:∀ (k:Nat) s,b[k]? = some s → is[k]? = some s.ins ∧ (leads s.ins = false → s.to = -1) ∧ (leads s.ins = true → ∀ t,t < is.length → (psum (wsI is) t:Int) = psum (wsI is) k + 1 + s.ins.far → s.to = t)) :
 Fits b ∧ wsB b = wsI is ∧ ∀ s ∈ b,RuleOk nf nt s.ins:=by
 have hins:b.map (·.ins) = is:=by
  refine List.ext_getElem? fun k=>?_
  rw [List.getElem?_map]
  cases h:b[k]? with
  | none=>
    rw [List.getElem?_eq_none_iff] at h
    rw [List.getElem?_eq_none (by omega)]
    rfl
  | some s=>rw [(hg k s h).1];rfl
 have hws:wsB b = wsI is:=by
  unfold wsB wsI
  rw [← hins,List.map_map]
  rfl
 have hr:∀ s ∈ b,RuleOk nf nt s.ins:=fun s hs=>hb.rule _ (by rw [← hins];exact List.mem_map_of_mem hs)
 refine ⟨⟨by rw [hl];exact hb.ne,?_,fun k s h=>(hg k s h).2.1,fun k s h=>(hr s (List.mem_of_getElem? h)).may,?_⟩,hws,hr⟩
 ·intro k s h hld
  obtain ⟨h1,_,h3⟩:=hg k s h
  obtain ⟨t,t1,t2⟩:=hb.to k s.ins h1 hld
  have:=h3 hld t t1 t2
  rw [this]
  refine ⟨by omega,by rw [hl];omega,fun h6=>?_⟩
  have hfar:=far_in hld h6
  have e:s.ins.far = s.ins.off:=by unfold Ins.far;rw [if_neg h6]
  rw [e] at t2
  rw [hws]
  unfold dist
  have e2:(t:Int).toNat = t:=by omega
  rw [e2]
  omega
 ·intro s h
  rw [hl] at h
  exact hb.last _ (hg _ s h).1
end Go.Tidy
namespace Go.Tidy
open Go Go.Eng Go.Proofs
structure Fn where
 name:ByteArray
 obj:Int
 first:Int
 count:Int
structure Tab where
 name:ByteArray
 kind:Int
 key:Int
 value:Int
 entries:Int
structure Img where
 text:List Ins
 funcs:List Fn
 tables:List Tab
 entry:Int
def heldB (i:Ins):Bool:=
 (decide (i.op = 24) || (decide (-2147483648 ≤ i.imm) && decide (i.imm < 2147483648))) && decide (0 ≤ i.op) && decide (i.op ≤ 255) && decide (0 ≤ i.dst) && decide (i.dst ≤ 15) && decide (0 ≤ i.src) && decide (i.src ≤ 15) && decide (-32768 ≤ i.off) && decide (i.off < 32768)
def letter (c:Int):Bool:=(decide (97 ≤ kor .u8 c 32) && decide (kor .u8 c 32 ≤ 122)) || decide (c = 95)
def digitsL:List Int:=[48,49,50,51,52,53,54,55,56,57,46,36]
def nameL:Bool → List Int → Bool
 | _,[]=>true
 | first,c :: r=>(letter c || (!first && decide (c ∈ digitsL))) && nameL false r
def bytesI (s:ByteArray):List Int:=s.data.toList.map fun c=>(c.toNat:Int)
def nameB (s:ByteArray):Bool:=!(decide (s.size = 0) || decide (64 < s.size)) && nameL true (bytesI s)
def namesF:List (ByteArray × Int) → List (ByteArray × Int) → Bool
 | _,[]=>true
 | seen,k :: r=>nameB k.1 && decide (0 ≤ k.2) && decide (k.2 < 64) && !(seen.any fun q=>decide (q.1 = k.1) && decide (q.2 = k.2)) && namesF (seen ++ [k]) r
def strLe (a b:ByteArray):Bool:=Op.bytesLess a.toList b.toList || decide (a = b)
def namesT:Option ByteArray → List Tab → Bool
 | _,[]=>true
 | p,t :: r=>nameB t.name && (match p with | none=>true | some q=>!strLe t.name q) && namesT (some t.name) r
def funcsB (n:Int):Int → List Fn → Bool
 | at_,[]=>decide (at_ = n)
 | at_,f :: r=>decide (f.first = at_) && decide (1 ≤ f.count) && decide (f.count ≤ n - at_) && funcsB n (at_ + f.count) r
structure ImgOk (T:List Tab → Bool) (im:Img):Prop where
 len:(wsI im.text).sum ≤ 1048576
 nf:im.funcs.length ≤ 4096
 nt:im.tables.length ≤ 1024
 fnames:namesF [] (im.funcs.map fun f=>(f.name,f.obj)) = true
 tnames:namesT none im.tables = true
 funcs:funcsB im.text.length 0 im.funcs = true
 tables:T im.tables = true
 entry:0 ≤ im.entry ∧ im.entry < im.funcs.length
 held:∀ i ∈ im.text,heldB i = true
def body (text:List Ins) (f:Fn):List Ins:=(text.drop f.first.toNat).take f.count.toNat
def callsOf (b:List Ins):List Int:=(b.filter fun i=>decide (jumps i = 3)).map (·.imm)
def RankOk (calls:List (List Int)):Prop:=∃ r:Nat → Nat,(∀ (i:Nat) cs,calls[i]? = some cs → ∀ c ∈ cs,r c.toNat < r i) ∧ ∀ i,i < calls.length → 1 ≤ r i ∧ r i ≤ 8
structure VOk (T:List Tab → Bool) (im:Img):Prop where
 img:ImgOk T im
 bodies:∀ f ∈ im.funcs,BodyOk im.funcs.length im.tables.length (body im.text f)
 rank:RankOk (im.funcs.map fun f=>callsOf (body im.text f))
theorem held_of_may {i:Ins} (h:may i = 0):heldB i = true:=by
 have hop:¬ (i.op < 0 ∨ 255 < i.op):=by
  intro h1
  have:form i.op = 0:=by unfold form;rw [if_pos h1]
  unfold may infoE at h
  simp [this] at h
 have hdst:(info i.op).dst = false ∨ (info i.op).dst = true:=by cases (info i.op).dst <;> simp
 have hsrc:(info i.op).src = false ∨ (info i.op).src = true:=by cases (info i.op).src <;> simp
 have hoff:(info i.op).off = false ∨ (info i.op).off = true:=by cases (info i.op).off <;> simp
 have himm:(info i.op).imm = false ∨ (info i.op).imm = true:=by cases (info i.op).imm <;> simp
 have hoffs:offsB i = true → -32768 ≤ i.off ∧ i.off < 32768:=by
  intro h
  unfold offsB at h
  repeat' split at h
  all_goals simp_all
  all_goals omega
 have himms:immsB i = true → -2147483648 ≤ i.imm ∧ i.imm < 2147483648:=by
  intro h
  unfold immsB at h
  repeat' split at h
  all_goals simp [atomicsL] at h
  all_goals omega
 unfold may at h
 repeat' split at h
 all_goals first
  | (exfalso;omega)
  | skip
 all_goals simp at h
 unfold heldB
 simp only [Bool.and_eq_true,Bool.or_eq_true,decide_eq_true_eq]
 rename_i h1 h2 h3 h4 h5 h6
 have a1:0 ≤ i.dst ∧ i.dst ≤ 10:=by
  rcases hdst with e | e <;> simp [e] at h2 <;> omega
 have a2:0 ≤ i.src ∧ i.src ≤ 10:=by
  rcases hsrc with e | e
  ·simp [e] at h4;omega
  ·simp [e] at h3;omega
 have a3:-32768 ≤ i.off ∧ i.off < 32768:=by
  rcases hoff with e | e
  ·simp [e] at h5;exact hoffs h5
  ·simp [e] at h5;omega
 have a4:i.op = 24 ∨ (-2147483648 ≤ i.imm ∧ i.imm < 2147483648):=by
  rcases himm with e | e
  ·simp [e] at h6;exact .inr (himms h6)
  ·simp [e] at h6;omega
 omega
def laidFs:Int → List Fn → List (List Ins) → List Fn
 | at_,f :: fs,b :: bs=>{ f with first:=at_,count:=b.length } :: laidFs (at_ + b.length) fs bs
 | _,_,_=>[]
theorem laidFs_get:∀ (at_:Int) (fs:List Fn) (bs:List (List Ins)) (k:Nat) f b,fs[k]? = some f → bs[k]? = some b → (laidFs at_ fs bs)[k]? = some { f with first:=at_ + ((bs.take k).flatten.length:Nat),count:=b.length }
 | at_,f :: fs,b :: bs,0,g,c,hg,hc=>by
   simp at hg hc
   subst hg;subst hc
   simp [laidFs]
 | at_,f :: fs,b :: bs,k + 1,g,c,hg,hc=>by
   have:=laidFs_get (at_ + b.length) fs bs k g c (by simpa using hg) (by simpa using hc)
   simp only [laidFs,List.getElem?_cons_succ,this,List.take_succ_cons,List.flatten_cons,List.length_append]
   congr 2
   omega
 | _,[],_,k,g,c,hg,_=>by simp at hg
 | _,_ :: _,[],k,g,c,_,hc=>by simp at hc
theorem laidFs_length:∀ (at_:Int) (fs:List Fn) (bs:List (List Ins)),fs.length = bs.length → (laidFs at_ fs bs).length = fs.length
 | _,[],_,_=>by simp [laidFs]
 | at_,f :: fs,b :: bs,h=>by simp [laidFs,laidFs_length (at_ + b.length) fs bs (by simpa using h)]
 | _,_ :: _,[],h=>by simp at h
theorem laidFs_names:∀ (at_:Int) (fs:List Fn) (bs:List (List Ins)),fs.length = bs.length → (laidFs at_ fs bs).map (fun f=>(f.name,f.obj)) = fs.map fun f=>(f.name,f.obj)
 | _,[],_,_=>by simp [laidFs]
 | at_,f :: fs,b :: bs,h=>by simp [laidFs,laidFs_names (at_ + b.length) fs bs (by simpa using h)]
 | _,_ :: _,[],h=>by simp at h
theorem laidFs_ok (n:Int):∀ (at_:Int) (fs:List Fn) (bs:List (List Ins)),fs.length = bs.length → (∀ b ∈ bs,0 < b.length) → at_ + (bs.flatten.length:Nat) = n → funcsB n at_ (laidFs at_ fs bs) = true
 | at_,[],bs,h,_,hn=>by
   have:bs = []:=List.eq_nil_of_length_eq_zero (by simpa using h.symm)
   subst this
   simp [laidFs,funcsB] at hn ⊢
   exact hn
 | at_,f :: fs,b :: bs,h,hb,hn=>by
   simp only [List.flatten_cons,List.length_append] at hn
   have h1:=hb b (by simp)
   simp only [laidFs,funcsB,laidFs_ok n (at_ + b.length) fs bs (by simpa using h) (fun c hc=>hb c (by simp [hc])) (by omega),Bool.and_true,Bool.and_eq_true,decide_eq_true_eq]
   refine ⟨⟨trivial,?_⟩,?_⟩
   ·show (1:Int) ≤ (b.length:Int)
    omega
   ·show (b.length:Int) ≤ n - at_
    omega
 | _,_ :: _,[],h,_,_=>by simp at h
theorem flatten_drop:∀ (bs:List (List Ins)) (k:Nat) (b:List Ins),bs[k]? = some b → (bs.flatten.drop (bs.take k).flatten.length).take b.length = b
 | [],k,b,h=>by simp at h
 | c :: bs,0,b,h=>by
   simp at h;subst h
   simp
 | c :: bs,k + 1,b,h=>by
   simp only [List.flatten_cons,List.take_succ_cons,List.length_append]
   rw [← List.drop_drop,List.drop_left,flatten_drop bs k b (by simpa using h)]
theorem laid_body {fs:List Fn} {bs:List (List Ins)} (hl:fs.length = bs.length) {k:Nat} {f:Fn} (h:(laidFs 0 fs bs)[k]? = some f):bs[k]? = some (body bs.flatten f):=by
 have hk:k < (laidFs 0 fs bs).length:=(List.getElem?_eq_some_iff.1 h).1
 rw [laidFs_length 0 fs bs hl] at hk
 have hb:=List.getElem?_eq_getElem (show k < bs.length by omega)
 have h1:=laidFs_get 0 fs bs k _ _ (List.getElem?_eq_getElem hk) hb
 rw [h1] at h
 simp only [Option.some.injEq] at h
 subst h
 unfold body
 simp only
 have e:(0 + ((bs.take k).flatten.length:Nat):Int).toNat = (bs.take k).flatten.length:=by omega
 rw [e,Int.toNat_natCast,flatten_drop bs k _ hb,hb]
theorem funcs_text (text:List Ins):∀ (fs:List Fn) (at_:Nat),funcsB text.length at_ fs = true → at_ ≤ text.length ∧ (fs.map (body text)).flatten = text.drop at_
 | [],at_,h=>by
   simp [funcsB] at h
   have h':at_ = text.length:=by omega
   subst h'
   simp
 | f :: fs,at_,h=>by
   simp only [funcsB,Bool.and_eq_true,decide_eq_true_eq] at h
   obtain ⟨⟨⟨h1,h2⟩,h3⟩,h4⟩:=h
   have e:(at_:Int) + f.count = ((at_ + f.count.toNat:Nat):Int):=by omega
   rw [e] at h4
   obtain ⟨h5,h6⟩:=funcs_text text fs _ h4
   refine ⟨by omega,?_⟩
   simp only [List.map_cons,List.flatten_cons,h6]
   have e2:f.first.toNat = at_:=by omega
   unfold body
   rw [e2,← List.drop_drop]
   exact List.take_append_drop _ _
theorem sum_flatten (bs:List (List Ins)):(wsI bs.flatten).sum = (bs.map fun b=>(wsI b).sum).sum:=by
 induction bs with
 | nil=>rfl
 | cons b r ih=>
   simp only [List.flatten_cons,List.map_cons,List.sum_cons,← ih]
   unfold wsI
   rw [List.map_append,List.sum_append]
theorem sum_le_sum {α:Type} (f g:α → Nat):∀ (a:List α),(∀ x ∈ a,f x ≤ g x) → (a.map f).sum ≤ (a.map g).sum
 | [],_=>by simp
 | x :: r,h=>by
   have h1:=h x (by simp)
   have h2:=sum_le_sum f g r (fun y hy=>h y (by simp [hy]))
   simp
   omega
def Chn (b:List Stp):Nat → Nat → Nat → Prop
 | 0,t,n=>t = n ∧ ∃ s,b[t]? = some s ∧ isJ s.ins = false
 | m + 1,t,n=>∃ s,b[t]? = some s ∧ isJ s.ins = true ∧ Chn b m s.to.toNat n
theorem Chn.det {b:List Stp}:∀ {m m' t n n':Nat},Chn b m t n → Chn b m' t n' → m = m' ∧ n = n'
 | 0,0,t,n,n',h,h'=>⟨rfl,h.1.symm.trans h'.1⟩
 | 0,m' + 1,t,n,n',⟨_,s,h1,h2⟩,⟨s',h1',h2',_⟩=>by rw [h1] at h1';cases h1';rw [h2] at h2';cases h2'
 | m + 1,0,t,n,n',⟨s',h1',h2',_⟩,⟨_,s,h1,h2⟩=>by rw [h1] at h1';cases h1';rw [h2] at h2';cases h2'
 | m + 1,m' + 1,t,n,n',⟨s,h1,_,h3⟩,⟨s',h1',_,h3'⟩=>by
   rw [h1] at h1';cases h1'
   have:=Chn.det h3 h3'
   omega
def Thr (b:List Stp) (k:Nat):Prop:=∀ s,b[k]? = some s → isJ s.ins = true → ∀ (l n:Nat),Chn b l s.to.toNat n → (n:Int) ≠ s.to → ¬ (s.ins.op = 6 ∨ (-32768 ≤ dist (wsB b) k n ∧ dist (wsB b) k n < 32768))
def AllR (b:List Stp):Prop:=∀ r,Reach b r → ∀ k,k < b.length → r k = true
structure NeatS (b:List Stp):Prop where
 all:AllR b
 idle:∀ k,k < b.length → idleB b k = false
 thr:∀ k,k < b.length → Thr b k
open Classical in
noncomputable def Rl (b:List Stp):List Bool:=(List.range b.length).map fun k=>decide (∀ r,Reach b r → r k = true)
noncomputable def unrF (b:List Stp):List Stp:=withoutL b fun k=>!(Rl b).getD k false
def idleF (b:List Stp):List Stp:=withoutL b (idleB b)
open Classical in
noncomputable def lastC (b:List Stp) (t:Nat):Int:=if h:∃ l n,Chn b l t n then ((Classical.choose (Classical.choose_spec h):Nat):Int) else -1
theorem lastC_none {b:List Stp} {t:Nat} (h:∀ l n,¬ Chn b l t n):lastC b t = -1:=by
 unfold lastC
 rw [dif_neg fun ⟨l,n,q⟩=>h l n q]
theorem lastC_some {b:List Stp} {t l n:Nat} (h:Chn b l t n):lastC b t = n:=by
 have hx:∃ l n,Chn b l t n:=⟨l,n,h⟩
 unfold lastC
 rw [dif_pos hx]
 have:=Classical.choose_spec (Classical.choose_spec hx)
 rw [(this.det h).2]
noncomputable def onB (b:List Stp) (k:Nat) (s:Stp):Bool:=isJ s.ins && decide (0 ≤ lastC b s.to.toNat) && !decide (lastC b s.to.toNat = s.to) &&
 (decide (s.ins.op = 6) || (decide (-32768 ≤ dist (wsB b) k (lastC b s.to.toNat).toNat) && decide (dist (wsB b) k (lastC b s.to.toNat).toNat < 32768)))
noncomputable def thr1 (p:List Stp × Bool) (k:Nat):List Stp × Bool:=match p.1[k]? with
 | some s=>if onB p.1 k s then (p.1.set k ⟨s.ins,lastC p.1 s.to.toNat⟩,true) else p
 | none=>p
noncomputable def thrN (b:List Stp):Nat → List Stp × Bool
 | 0=>(b,false)
 | k + 1=>thr1 (thrN b k) k
theorem thrN_off {b0 b:List Stp} {c:Bool} {k:Nat} {s:Stp} (h:(b,c) = thrN b0 k) (hs:b[k]? = some s) (ho:onB b k s = false):(b,c) = thrN b0 (k + 1):=by
 unfold thrN
 rw [← h]
 simp [thr1,hs,ho]
theorem thrN_on {b0 b:List Stp} {c:Bool} {k:Nat} {s:Stp} (h:(b,c) = thrN b0 k) (hs:b[k]? = some s) (ho:onB b k s = true):(b.set k ⟨s.ins,lastC b s.to.toNat⟩,true) = thrN b0 (k + 1):=by
 unfold thrN
 rw [← h]
 simp [thr1,hs,ho]
open Classical in
noncomputable def nxt (b:List Stp):Option (List Stp):=
 if ¬ AllR b then some (unrF b)
 else if ¬ ∀ k,k < b.length → idleB b k = false then some (idleF b)
 else if (thrN b b.length).2 = true then some (thrN b b.length).1
 else none
theorem nxt_unr {b:List Stp} (h:¬ AllR b):nxt b = some (unrF b):=by unfold nxt;rw [if_pos h]
theorem nxt_idle {b:List Stp} (h:AllR b) (h1:¬ ∀ k,k < b.length → idleB b k = false):nxt b = some (idleF b):=by unfold nxt;rw [if_neg (fun q=>q h),if_pos h1]
theorem nxt_thr {b b':List Stp} (h:AllR b) (h1:∀ k,k < b.length → idleB b k = false) (h2:(b',true) = thrN b b.length):nxt b = some b':=by
 unfold nxt;rw [if_neg (fun q=>q h),if_neg (fun q=>q h1),← h2,if_pos rfl]
theorem nxt_no {b b':List Stp} (h:AllR b) (h1:∀ k,k < b.length → idleB b k = false) (h2:(b',false) = thrN b b.length):nxt b = none:=by
 unfold nxt;rw [if_neg (fun q=>q h),if_neg (fun q=>q h1),← h2,if_neg (by simp)]
inductive Ends:List Stp → List Stp → Prop
 | done {b:List Stp}:nxt b = none → Ends b b
 | step {b b' z:List Stp}:nxt b = some b' → Ends b' z → Ends b z
theorem Ends.uniq {b z z':List Stp} (h:Ends b z) (h':Ends b z'):z = z':=by
 induction h with
 | done e=>
   cases h' with
   | done=>rfl
   | step e'=>rw [e] at e';cases e'
 | step e _ ih=>
   cases h' with
   | done e'=>rw [e] at e';cases e'
   | step e' k=>rw [e] at e';cases e';exact ih k
structure Tk (is:List Ins) (b:List Stp):Prop where
 len:b.length = is.length
 each:∀ (k:Nat) s,b[k]? = some s → is[k]? = some s.ins ∧ (leads s.ins = false → s.to = -1) ∧ (leads s.ins = true → ∀ t,t < is.length → (psum (wsI is) t:Int) = psum (wsI is) k + 1 + s.ins.far → s.to = t)
theorem Tk.uniq {nf nt:Int} {is:List Ins} (hb:BodyOk nf nt is) {b b':List Stp} (h:Tk is b) (h':Tk is b'):b = b':=by
 refine List.ext_getElem (by rw [h.len,h'.len]) fun k hk hk'=>?_
 have e:=List.getElem?_eq_getElem hk
 have e':=List.getElem?_eq_getElem hk'
 generalize b[k] = s at e
 generalize b'[k] = s' at e'
 obtain ⟨a1,a2,a3⟩:=h.each k s e
 obtain ⟨c1,c2,c3⟩:=h'.each k s' e'
 obtain ⟨ins,to⟩:=s
 obtain ⟨ins',to'⟩:=s'
 rw [a1] at c1
 cases c1
 congr 1
 cases hl:leads ins with
 | false=>exact (a2 hl).trans (c2 hl).symm
 | true=>
   obtain ⟨t,ht,hd⟩:=hb.to k ins a1 hl
   exact (a3 hl t ht hd).trans (c3 hl t ht hd).symm
structure Made (nf nt:Int) (old new:List Ins):Prop where
 ok:BodyOk nf nt new
 neat:∃ b,Fits b ∧ (wsB b).sum < 2147483647 ∧ new = laidL b ∧ NeatS b
 slots:(wsI new).sum ≤ (wsI old).sum
 calls:∀ c ∈ callsOf new,c ∈ callsOf old
 det:∃ b0 bN,Tk old b0 ∧ Ends b0 bN ∧ new = laidL bN
theorem Made.uniq {nf nt:Int} {old new new':List Ins} (hb:BodyOk nf nt old) (h:Made nf nt old new) (h':Made nf nt old new'):new = new':=by
 obtain ⟨b0,bN,q1,q2,q3⟩:=h.det
 obtain ⟨b0',bN',q1',q2',q3'⟩:=h'.det
 cases q1.uniq hb q1'
 rw [q3,q3',q2.uniq q2']
structure TidyOf (im got:Img) (bs:List (List Ins)):Prop where
 len:im.funcs.length = bs.length
 made:∀ (k:Nat) f b,im.funcs[k]? = some f → bs[k]? = some b → Made im.funcs.length im.tables.length (body im.text f) b
 text:got.text = bs.flatten
 funcs:got.funcs = laidFs 0 im.funcs bs
 tables:got.tables = im.tables
 entry:got.entry = im.entry
theorem TidyOf.uniq {T:List Tab → Bool} {im got got':Img} {bs bs':List (List Ins)} (hv:VOk T im) (h:TidyOf im got bs) (h':TidyOf im got' bs'):bs = bs' ∧ got = got':=by
 have e:bs = bs':=by
  refine List.ext_getElem (by rw [← h.len,← h'.len]) fun k hk hk'=>?_
  have hl:=h.len
  have hf:=List.getElem?_eq_getElem (show k < im.funcs.length by omega)
  exact (h.made k _ _ hf (List.getElem?_eq_getElem hk)).uniq (hv.bodies _ (List.mem_of_getElem? hf)) (h'.made k _ _ hf (List.getElem?_eq_getElem hk'))
 subst e
 refine ⟨rfl,?_⟩
 obtain ⟨a1,a2,a3,a4⟩:=got
 obtain ⟨c1,c2,c3,c4⟩:=got'
 have:=h.text;have:=h.funcs;have:=h.tables;have:=h.entry
 have:=h'.text;have:=h'.funcs;have:=h'.tables;have:=h'.entry
 simp_all
theorem RuleOk.held {nf nt:Int} {i:Ins} (h:RuleOk nf nt i):heldB i = true:=held_of_may h.may
theorem TidyOf.ok {T:List Tab → Bool} {im got:Img} {bs:List (List Ins)} (ht:TidyOf im got bs) (hv:VOk T im):VOk T got:=by
 have hlen:got.funcs.length = im.funcs.length:=by rw [ht.funcs,laidFs_length 0 _ _ ht.len]
 have hbok:∀ (k:Nat) b,bs[k]? = some b → ∃ f,im.funcs[k]? = some f ∧ Made im.funcs.length im.tables.length (body im.text f) b:=by
  intro k b hb
  have hk:k < im.funcs.length:=by have:=(List.getElem?_eq_some_iff.1 hb).1;have:=ht.len;omega
  exact ⟨_,List.getElem?_eq_getElem hk,ht.made k _ b (List.getElem?_eq_getElem hk) hb⟩
 have hbm:∀ b ∈ bs,BodyOk im.funcs.length im.tables.length b:=by
  intro b hb
  obtain ⟨k,hk⟩:=List.mem_iff_getElem?.1 hb
  obtain ⟨f,_,h⟩:=hbok k b hk
  exact h.ok
 have hsum:(wsI got.text).sum ≤ (wsI im.text).sum:=by
  have h1:=(funcs_text im.text im.funcs 0 (by simpa using hv.img.funcs)).2
  simp only [List.drop_zero] at h1
  rw [ht.text,sum_flatten,← h1,sum_flatten,List.map_map]
  have e1:bs.map (fun b=>(wsI b).sum) = (List.range bs.length).map fun k=>(wsI (bs.getD k [])).sum:=by
   refine List.ext_getElem (by simp) fun k hk _=>?_
   have hk':k < bs.length:=by simpa using hk
   simp [List.getElem?_eq_getElem hk']
  have e2:im.funcs.map ((fun b=>(wsI b).sum) ∘ body im.text) = (List.range bs.length).map fun k=>(wsI (body im.text (im.funcs.getD k ⟨ByteArray.empty,0,0,0⟩))).sum:=by
   refine List.ext_getElem (by simp [ht.len]) fun k hk _=>?_
   have hk':k < im.funcs.length:=by simpa using hk
   simp [List.getElem?_eq_getElem hk']
  rw [e1,e2]
  refine sum_le_sum _ _ _ fun k hk=>?_
  have hk':k < bs.length:=by simpa using hk
  have hk2:k < im.funcs.length:=by have:=ht.len;omega
  have:=(ht.made k _ _ (List.getElem?_eq_getElem hk2) (List.getElem?_eq_getElem hk')).slots
  simpa [List.getElem?_eq_getElem hk',List.getElem?_eq_getElem hk2] using this
 have hbody:∀ (k:Nat) f,got.funcs[k]? = some f → bs[k]? = some (body got.text f):=by
  intro k f hf
  rw [ht.funcs] at hf
  rw [ht.text]
  exact laid_body ht.len hf
 refine ⟨⟨?_,?_,?_,?_,?_,?_,?_,?_,?_⟩,?_,?_⟩
 ·exact Nat.le_trans hsum hv.img.len
 ·rw [hlen];exact hv.img.nf
 ·rw [ht.tables];exact hv.img.nt
 ·rw [ht.funcs,laidFs_names 0 _ _ ht.len];exact hv.img.fnames
 ·rw [ht.tables];exact hv.img.tnames
 ·rw [ht.funcs,ht.text]
  exact laidFs_ok _ 0 _ _ ht.len (fun b hb=>(hbm b hb).ne) (by omega)
 ·rw [ht.tables];exact hv.img.tables
 ·rw [ht.entry,hlen];exact hv.img.entry
 ·intro i hi
  rw [ht.text] at hi
  obtain ⟨b,hb,hi⟩:=List.mem_flatten.1 hi
  exact ((hbm b hb).rule i hi).held
 ·intro f hf
  obtain ⟨k,hk⟩:=List.mem_iff_getElem?.1 hf
  rw [hlen,ht.tables]
  exact hbm _ (List.mem_of_getElem? (hbody k f hk))
 ·obtain ⟨r,h1,h2⟩:=hv.rank
  refine ⟨r,?_,?_⟩
  ·intro i cs hi c hc
   rw [List.getElem?_map,Option.map_eq_some_iff] at hi
   obtain ⟨f,hf,rfl⟩:=hi
   obtain ⟨f0,hf0,hm⟩:=hbok i _ (hbody i f hf)
   exact h1 i _ (by rw [List.getElem?_map,hf0];rfl) c (hm.calls c hc)
  ·intro i hi
   exact h2 i (by simp at hi ⊢;omega)
structure KeptOf (im got:Img):Prop where
 len:got.funcs.length = im.funcs.length
 tables:got.tables = im.tables
 entry:got.entry = im.entry
 each:∀ (k:Nat) f g,im.funcs[k]? = some f → got.funcs[k]? = some g → g.name = f.name ∧ g.obj = f.obj ∧ (wsI (body got.text g)).sum ≤ (wsI (body im.text f)).sum
theorem TidyOf.kept {im got:Img} {bs:List (List Ins)} (ht:TidyOf im got bs):KeptOf im got:=by
 have hlen:got.funcs.length = im.funcs.length:=by rw [ht.funcs,laidFs_length 0 _ _ ht.len]
 refine ⟨hlen,ht.tables,ht.entry,?_⟩
 intro k f g hf hg
 have hb:bs[k]? = some (body got.text g):=by
  rw [ht.text];exact laid_body ht.len (by rw [← ht.funcs];exact hg)
 have h1:=laidFs_get 0 im.funcs bs k f _ hf hb
 rw [ht.funcs,h1] at hg
 simp only [Option.some.injEq] at hg
 refine ⟨by rw [← hg],by rw [← hg],(ht.made k f _ hf hb).slots⟩
end Go.Tidy
namespace Go.Tidy
open Go Go.Eng Go.Proofs
variable {cx:Cx}
theorem c145 (hO:On cx) (i:Ins) (h:AH):SimCall cx 145 [i.av] h fun r h'=>h' = h ∧ r = VI (jumps i):=by
 refine SimCall.gc ?_
 refine SimCall.by hO.P res145 ?_
 unfold x145 r145
 repeat' first
  | ((with_reducible show wx _ (XCode.cond _ _ _) _ _);refine wx_if rfl (fun _=>?_) (fun _=>?_))
  | ((with_reducible show SimCall _ 143 _ _ _);refine (c143 hO i _).mono ?_;rintro r h' ⟨rfl,rfl⟩)
  | ((with_reducible show SimCall _ 203 _ _ _);refine (c203 hO _ _).mono ?_;rintro r h' ⟨rfl,rfl⟩)
  | simp (maxSteps:=1000000) only [go_sem]
 all_goals first | exact ⟨more_one,plain_v _⟩ | exact ⟨more_nil,plain_v _⟩ | refine ⟨by first | exact more_one | exact more_nil,by first | exact plain_v _ | exact plain_tup (by simp [Plain.v]),?_⟩
 all_goals try simp only [decide_eq_true_eq,decide_eq_false_iff_not,Bool.not_eq_true',Bool.not_eq_false',AV.v.injEq,AV.tup.injEq,List.cons.injEq,Value.int.injEq,Value.bool.injEq,true_and,and_true] at *
 all_goals unfold jumps
 all_goals (try simp only [band] at *)
 all_goals (try simp_all)
 all_goals grind
theorem c107 (hO:On cx) (i:Ins) (h:AH):SimCall cx 107 [i.av] h fun r h'=>h' = h ∧ r = VB (decide (i.op = 24)):=by
 refine SimCall.gc ?_
 refine SimCall.by hO.P res107 ?_
 unfold x107 r107
 repeat' first
  | simp (maxSteps:=1000000) only [go_sem]
 all_goals first | exact ⟨more_one,plain_v _⟩ | exact ⟨more_nil,plain_v _⟩ | refine ⟨by first | exact more_one | exact more_nil,by first | exact plain_v _ | exact plain_tup (by simp [Plain.v]),?_⟩
 all_goals try simp only [decide_eq_true_eq,decide_eq_false_iff_not,Bool.not_eq_true',Bool.not_eq_false',AV.v.injEq,AV.tup.injEq,List.cons.injEq,Value.int.injEq,Value.bool.injEq,true_and,and_true] at *
 all_goals (try simp only [band] at *)
 all_goals (try simp_all)
 all_goals grind
theorem c244 (hO:On cx) (i:Ins) (h:AH):SimCall cx 244 [i.av] h fun r h'=>h' = h ∧ r = VI (wd i):=by
 refine SimCall.gc ?_
 refine SimCall.by hO.P res244 ?_
 unfold x244 r244
 repeat' first
  | ((with_reducible show wx _ (XCode.cond _ _ _) _ _);refine wx_if rfl (fun _=>?_) (fun _=>?_))
  | simp (maxSteps:=1000000) only [go_sem]
 all_goals first | exact ⟨more_one,plain_v _⟩ | exact ⟨more_nil,plain_v _⟩ | refine ⟨by first | exact more_one | exact more_nil,by first | exact plain_v _ | exact plain_tup (by simp [Plain.v]),?_⟩
 all_goals try simp only [decide_eq_true_eq,decide_eq_false_iff_not,Bool.not_eq_true',Bool.not_eq_false',AV.v.injEq,AV.tup.injEq,List.cons.injEq,Value.int.injEq,Value.bool.injEq,true_and,and_true] at *
 all_goals unfold wd
 all_goals (try simp only [band] at *)
 all_goals (try simp_all)
 all_goals grind
theorem c235' (hO:On cx) (i:Ins) (h:AH):SimCall cx 235 [i.av] h fun r h'=>h' = h ∧ r = VI (wd i):=by
 refine SimCall.gc ?_
 refine SimCall.by hO.P res235 ?_
 unfold x235 r235
 repeat' first
  | ((with_reducible show wx _ (XCode.cond _ _ _) _ _);refine wx_if rfl (fun _=>?_) (fun _=>?_))
  | simp (maxSteps:=1000000) only [go_sem]
 all_goals first | exact ⟨more_one,plain_v _⟩ | exact ⟨more_nil,plain_v _⟩ | refine ⟨by first | exact more_one | exact more_nil,by first | exact plain_v _ | exact plain_tup (by simp [Plain.v]),?_⟩
 all_goals try simp only [decide_eq_true_eq,decide_eq_false_iff_not,Bool.not_eq_true',Bool.not_eq_false',AV.v.injEq,AV.tup.injEq,List.cons.injEq,Value.int.injEq,Value.bool.injEq,true_and,and_true] at *
 all_goals unfold wd
 all_goals (try simp only [band] at *)
 all_goals (try simp_all)
 all_goals grind
theorem c242' (hO:On cx) (i:Ins) (h:AH):SimCall cx 242 [i.av] h fun r h'=>h' = h ∧ r = VB (isJ i):=by
 refine SimCall.gc ?_
 refine SimCall.by hO.P res242 ?_
 unfold x242 r242
 repeat' first
  | ((with_reducible show SemL _ _ _ _);refine SemL.of ?_)
  | simp (maxSteps:=1000000) only [go_sem]
  | ((with_reducible show wl _ (XI.mk _ (some _) (XBody.op _) :: _) _ _);refine wl_optF rfl (fun e2=>by ((try simp only [Bool.and_eq_true] at e2);first | (simp (maxSteps:=1000000) only [e2,go_sem];first | done | rfl))) ?_)
 all_goals first | exact ⟨more_one,plain_v _⟩ | exact ⟨more_nil,plain_v _⟩ | refine ⟨by first | exact more_one | exact more_nil,by first | exact plain_v _ | exact plain_tup (by simp [Plain.v]),?_⟩
 all_goals try simp only [decide_eq_true_eq,decide_eq_false_iff_not,Bool.not_eq_true',Bool.not_eq_false',AV.v.injEq,AV.tup.injEq,List.cons.injEq,Value.int.injEq,Value.bool.injEq,true_and,and_true] at *
 all_goals unfold isJ
 all_goals (try simp only [band] at *)
 all_goals (try simp_all)
 all_goals grind
theorem c190 (hO:On cx) (i:Ins) (h:AH):SimCall cx 190 [i.av] h fun r h'=>h' = h ∧ r = VB (heldB i):=by
 refine SimCall.gc ?_
 refine SimCall.by hO.P res190 ?_
 unfold x190 r190
 repeat' first
  | ((with_reducible show SemL _ _ _ _);refine SemL.of ?_)
  | simp (maxSteps:=1000000) only [go_sem]
  | ((with_reducible show wl _ (XI.mk _ (some _) (XBody.op _) :: _) _ _);first | refine wl_optT rfl (fun e2=>by ((try simp only [Bool.and_eq_true] at e2);first | (simp (maxSteps:=1000000) only [e2,go_sem];first | done | rfl))) ?_ | refine wl_optF rfl (fun e2=>by ((try simp only [Bool.and_eq_true] at e2);first | (simp (maxSteps:=1000000) only [e2,go_sem];first | done | rfl))) ?_ | refine wl_opt2T rfl (fun e1 e2=>by ((try simp only [Bool.and_eq_true] at e1);first | (simp (maxSteps:=1000000) only [e1,e2,go_sem];first | done | rfl))) ?_)
 all_goals first | exact ⟨more_one,plain_v _⟩ | exact ⟨more_nil,plain_v _⟩ | refine ⟨by first | exact more_one | exact more_nil,by first | exact plain_v _ | exact plain_tup (by simp [Plain.v]),?_⟩
 all_goals try simp only [decide_eq_true_eq,decide_eq_false_iff_not,Bool.not_eq_true',Bool.not_eq_false',AV.v.injEq,AV.tup.injEq,List.cons.injEq,Value.int.injEq,Value.bool.injEq,true_and,and_true] at *
 all_goals unfold heldB
 all_goals (try simp only [band] at *)
 all_goals (try simp_all)
 all_goals grind
def Tab.row (t:Tab):List AV:=[.v (.string t.name),VI t.kind,VI t.key,VI t.value,VI t.entries]
abbrev Tab.av (t:Tab):AV:=.agg [.v (.string t.name),VI t.kind,VI t.key,VI t.value,VI t.entries]
def Fn.row (f:Fn):List AV:=[.v (.string f.name),VI f.obj,VI f.first,VI f.count]
abbrev Fn.av (f:Fn):AV:=.agg [.v (.string f.name),VI f.obj,VI f.first,VI f.count]
def roomI (t:Tab):Int:=IntKind.i64.wrap (t.entries * IntKind.i64.wrap (IntKind.i64.wrap (t.key + kandNot .i64 (IntKind.i64.wrap (t.value + 7)) 7) + 8))
def fitsB (t:Tab):Bool:=decide (1 ≤ t.key) && decide (t.key ≤ 64) && decide (1 ≤ t.value) && decide (t.value ≤ 4096) && decide (1 ≤ t.entries) && decide (t.entries ≤ 65536) && ((decide (t.kind = 1) && decide (t.key = 4)) || decide (t.kind = 2)) && decide (roomI t ≤ 16777216)
theorem c189 (hO:On cx) (t:Tab) (h:AH):SimCall cx 189 [t.av] h fun r h'=>h' = h ∧ r = VI (roomI t):=by
 refine SimCall.gc ?_
 refine SimCall.by hO.P res189 ?_
 unfold x189 r189
 repeat' first
  | simp (maxSteps:=1000000) only [go_sem]
 all_goals first | exact ⟨more_one,plain_v _⟩ | exact ⟨more_nil,plain_v _⟩ | refine ⟨by first | exact more_one | exact more_nil,by first | exact plain_v _ | exact plain_tup (by simp [Plain.v]),?_⟩
 all_goals try simp only [decide_eq_true_eq,decide_eq_false_iff_not,Bool.not_eq_true',Bool.not_eq_false',AV.v.injEq,AV.tup.injEq,List.cons.injEq,Value.int.injEq,Value.bool.injEq,true_and,and_true] at *
 all_goals unfold roomI
 all_goals (try simp only [band] at *)
 all_goals (try simp_all)
 all_goals grind
theorem c188 (hO:On cx) (t:Tab) (h:AH):SimCall cx 188 [t.av] h fun r h'=>h' = h ∧ r = VB (fitsB t):=by
 refine SimCall.gc ?_
 refine SimCall.by hO.P res188 ?_
 unfold x188 r188
 repeat' first
  | ((with_reducible show SemL _ _ _ _);refine SemL.of ?_)
  | simp (maxSteps:=1000000) only [go_sem]
  | ((with_reducible show wl _ (XI.mk _ (some _) (XBody.op _) :: _) _ _);first | refine wl_optT rfl (fun e2=>by ((try simp only [Bool.and_eq_true] at e2);first | (simp (maxSteps:=1000000) only [e2,go_sem];first | done | rfl))) ?_ | refine wl_optF rfl (fun e2=>by ((try simp only [Bool.and_eq_true] at e2);first | (simp (maxSteps:=1000000) only [e2,go_sem];first | done | rfl))) ?_)
  | ((with_reducible show wl _ (XI.mk _ (some _) (XBody.call (XO.f 189) _) :: _) _ _);refine wl_optcT rfl rfl (fun e2=>by simp (maxSteps:=1000000) only [e2,go_sem];exact (c189 hO t _)) ?_)
 all_goals first | exact ⟨more_one,plain_v _⟩ | exact ⟨more_nil,plain_v _⟩ | refine ⟨by first | exact more_one | exact more_nil,by first | exact plain_v _ | exact plain_tup (by simp [Plain.v]),?_⟩
 all_goals try simp only [decide_eq_true_eq,decide_eq_false_iff_not,Bool.not_eq_true',Bool.not_eq_false',AV.v.injEq,AV.tup.injEq,List.cons.injEq,Value.int.injEq,Value.bool.injEq,true_and,and_true] at *
 all_goals unfold fitsB
 all_goals (try simp only [band] at *)
 all_goals (try simp_all)
 all_goals grind
end Go.Tidy
namespace Go.Tidy
open Go Go.Eng Go.Proofs
variable {cx:Cx}
theorem SlT.cell {α:Type} {f:α → List AV} {sz:Nat} {h:AH} {v:AV} {xs:List α} (s:SlT f sz h v xs):v.cell = true:=by cases s <;> rfl
theorem Ins.len (i:Ins):i.row.length = 5:=rfl
theorem Tab.len (t:Tab):t.row.length = 5:=rfl
theorem Fn.len (f:Fn):f.row.length = 4:=rfl
abbrev SlIns:=SlT Ins.row 5
theorem wrap_succ {i n:Nat} (h:i < n) (hn:n < 4611686018427387904):IntKind.i64.wrap ((i:Int) + 1) = ((i + 1:Nat):Int):=by rw [wrap_id (by omega) (by omega)];rfl
theorem wsI_take {is:List Ins} {k:Nat} {i:Ins} (h:is[k]? = some i):(wsI (is.take (k + 1))).sum = (wsI (is.take k)).sum + wd i:=by
 obtain ⟨hk,rfl⟩:=List.getElem?_eq_some_iff.1 h
 rw [List.take_succ_eq_append_getElem hk]
 unfold wsI
 rw [List.map_append,List.sum_append]
 simp
theorem wsI_le (is:List Ins):(wsI is).sum ≤ 2 * is.length:=by
 induction is with
 | nil=>simp [wsI]
 | cons i r ih=>
   have:=wd_le i
   simp only [wsI,List.map_cons,List.sum_cons,List.length_cons] at ih ⊢
   omega
theorem c186 (hO:On cx) (is:List Ins) (v:AV) (h:AH) (hv:SlIns h v is) (hl:is.length < 1099511627776):SimCall cx 186 [v] h fun r h'=>h' = h ∧ r = VI ((wsI is).sum:Nat):=by
 refine SimCall.gc ?_
 refine SimCall.by hO.P res186 ?_
 unfold x186 r186
 simp only [go_sem,hv.len]
 refine SimLoop.inv [3,2,0,0] (fun k s=>∃ (i:Nat) (g:AH),k = is.length - i ∧ i ≤ is.length ∧
  s = ⟨[.un,.un,.un,VI ((wsI (is.take i)).sum:Nat),.un,.un,v,VI is.length,VI i,.un,.un,.un,.un,.un,.un,.un,.un,.un],h ++ g⟩) ?_ is.length ?_
 rotate_left
 ·exact ⟨0,[],by simp,by simp,by simp only [go_sem];rfl⟩
 rintro k s ⟨i,g,rfl,hi,rfl⟩
 by_cases hlt:i < is.length
 ·obtain ⟨p,hp1,hp2,hp3,_⟩:=hv.get Ins.len (by decide) (List.getElem?_eq_getElem hlt)
  have hlt':((i:Int) < is.length):=by omega
  have hw:=wrap_succ hlt (by omega)
  have ht:=wsI_take (List.getElem?_eq_getElem hlt)
  have hle:=wsI_le (is.take i)
  have hwd:=wd_le is[i]
  have hw2:IntKind.i64.wrap (((wsI (is.take i)).sum:Nat) + (wd is[i]:Int)) = ((wsI (is.take (i + 1))).sum:Nat):=by
   rw [List.length_take] at hle
   rw [wrap_id (by omega) (by omega),ht];omega
  repeat' first
   | ((with_reducible show SimCall _ 244 _ _ _);refine (c244 hO is[i] _).mono ?_;rintro r h' ⟨rfl,rfl⟩)
   | simp (maxSteps:=1000000) only [go_sem,hp1,hp2,hp3,hlt',hw,hw2,Ins.row]
  exact ⟨is.length - (i + 1),by omega,i + 1,_,rfl,by omega,rfl⟩
 ·have hlt':¬ ((i:Int) < is.length):=by omega
  have:is.take i = is:=List.take_of_length_le (by omega)
  repeat' first
   | simp (maxSteps:=1000000) only [go_sem,hlt',this]
  exact ⟨more_one,plain_v _⟩
theorem c137 (hO:On cx) (im:Img) (tv fv bv:AV) (h:AH) (hv:SlIns h tv im.text) (hf:fv.cell = true) (hb:bv.cell = true) (hl:im.text.length < 1099511627776) :
 SimCall cx 137 [.agg [tv,fv,bv,VI im.entry]] h fun r h'=>h' = h ∧ ∃ x:Int,r = .tup [VI x,VB (!im.text.all heldB)]:=by
 have htc:=hv.cell
 refine SimCall.gc ?_
 refine SimCall.by hO.P res137 ?_
 unfold x137 r137
 simp only [go_sem,hv.len,htc,hf,hb]
 refine SimLoop.inv [7,0,0] (fun k s=>∃ (i:Nat) (g:AH),k = im.text.length - i ∧ i ≤ im.text.length ∧ im.text.all heldB = (im.text.drop i).all heldB ∧
  s = ⟨[.un,.un,.un,.un,.un,.un,.un,tv,VI im.text.length,VI i,.un,.un,.un,.un,.un,.un,.un,.un,.un],h ++ g⟩) ?_ im.text.length ?_
 rotate_left
 ·exact ⟨0,_,by simp,by simp,by simp,by simp only [go_sem];rfl⟩
 rintro k s ⟨i,g,rfl,hi,hall,rfl⟩
 by_cases hlt:i < im.text.length
 ·obtain ⟨p,hp1,hp2,hp3,_⟩:=hv.get Ins.len (by decide) (List.getElem?_eq_getElem hlt)
  have hlt':((i:Int) < im.text.length):=by omega
  have hw:=wrap_succ hlt (by omega)
  rw [List.drop_eq_getElem_cons hlt,List.all_cons] at hall
  repeat' first
   | ((with_reducible show wx _ (XCode.cond _ _ _) _ _);refine wx_if rfl (fun _=>?_) (fun _=>?_))
   | ((with_reducible show SimCall _ 190 _ _ _);refine (c190 hO im.text[i] _).mono ?_;rintro r h' ⟨rfl,rfl⟩)
   | simp (maxSteps:=1000000) only [go_sem,hp1,hp2,hp3,hlt',hw,Ins.row]
  ·rename_i e
   refine ⟨more_one,plain_tup (by simp [Plain.v]),i,?_⟩
   rw [hall]
   simp at e
   simp [e]
  ·rename_i e
   refine ⟨im.text.length - (i + 1),by omega,i + 1,_,rfl,by omega,?_,rfl⟩
   simp at e
   rw [hall]
   simp [e]
 ·have hlt':¬ ((i:Int) < im.text.length):=by omega
  repeat' first
   | simp (maxSteps:=1000000) only [go_sem,hlt']
  refine ⟨more_one,plain_tup (by simp [Plain.v]),0,?_⟩
  rw [hall,List.drop_eq_nil_of_le (by omega)]
  rfl
def tabsB:Int → List Tab → Bool
 | all,[]=>decide (all ≤ 67108864)
 | all,t :: r=>fitsB t && tabsB (IntKind.i64.wrap (all + roomI t)) r
theorem c135 (hO:On cx) (im:Img) (tv fv bv:AV) (h:AH) (hv:SlT Tab.row 5 h bv im.tables) (hf:fv.cell = true) (hb:tv.cell = true) (hl:im.tables.length < 1099511627776) :
 SimCall cx 135 [.agg [tv,fv,bv,VI im.entry]] h fun r h'=>h' = h ∧ ∃ x:Int,r = .tup [VI x,VB (!tabsB 0 im.tables)]:=by
 have htc:=hv.cell
 refine SimCall.gc ?_
 refine SimCall.by hO.P res135 ?_
 unfold x135 r135
 simp only [go_sem,hv.len,htc,hf,hb]
 refine SimLoop.inv [1,2,3,0,0] (fun k s=>∃ (i:Nat) (g:AH) (all:Int),k = im.tables.length - i ∧ i ≤ im.tables.length ∧ tabsB 0 im.tables = tabsB all (im.tables.drop i) ∧
  s = ⟨[.un,.ptr h.length 0 0,.un,.un,VI all,.un,.un,.un,bv,VI im.tables.length,VI i,.un,.un,.un,.un,.un,.un,.un,.un,.un,.un,.un,.un,.un,.un,.un,.un,.un,.un],h ++ (.cells 0 [tv,fv,bv,VI im.entry] :: g)⟩) ?_ im.tables.length ?_
 rotate_left
 ·exact ⟨0,_,0,by simp,by simp,by simp,by simp only [go_sem];rfl⟩
 rintro k s ⟨i,g,all,rfl,hi,hall,rfl⟩
 by_cases hlt:i < im.tables.length
 ·obtain ⟨p,hp1,hp2,hp3,_⟩:=hv.get Tab.len (by decide) (List.getElem?_eq_getElem hlt)
  have hlt':((i:Int) < im.tables.length):=by omega
  have hw:=wrap_succ hlt (by omega)
  rw [List.drop_eq_getElem_cons hlt,tabsB] at hall
  repeat' first
   | ((with_reducible show wx _ (XCode.cond _ _ _) _ _);refine wx_if rfl (fun _=>?_) (fun _=>?_))
   | ((with_reducible show SimCall _ 188 _ _ _);refine (c188 hO im.tables[i] _).mono ?_;rintro r h' ⟨rfl,rfl⟩)
   | ((with_reducible show SimCall _ 189 _ _ _);refine (c189 hO im.tables[i] _).mono ?_;rintro r h' ⟨rfl,rfl⟩)
   | simp (maxSteps:=1000000) only [go_sem,hp1,hp2,hp3,hlt',hw,Tab.row]
  ·rename_i e
   refine ⟨more_one,plain_tup (by simp [Plain.v]),i,?_⟩
   rw [hall]
   simp at e
   simp [e]
  ·rename_i e
   refine ⟨im.tables.length - (i + 1),by omega,i + 1,_,_,rfl,by omega,?_,rfl⟩
   simp at e
   rw [hall]
   simp [e]
 ·have hlt':¬ ((i:Int) < im.tables.length):=by omega
  repeat' first
   | simp (maxSteps:=1000000) only [go_sem,hlt',hv.len]
  refine ⟨more_one,plain_tup (by simp [Plain.v]),im.tables.length,?_⟩
  rw [hall,List.drop_eq_nil_of_le (by omega),tabsB]
  by_cases h1:all ≤ 67108864
  ·simp [h1]
  ·simp [h1];omega
theorem c136 (hO:On cx) (im:Img) (tv fv bv:AV) (h:AH) (hv:SlT Fn.row 4 h fv im.funcs) (hf:bv.cell = true) (hb:tv.cell = true) :
 SimCall cx 136 [.agg [tv,fv,bv,VI im.entry]] h fun r h'=>h' = h ∧ ∃ x:Int,r = .tup [VI x,VB (!(decide (0 ≤ im.entry ∧ im.entry < im.funcs.length)))]:=by
 have htc:=hv.cell
 refine SimCall.gc ?_
 refine SimCall.by hO.P res136 ?_
 unfold x136 r136
 repeat' first
  | ((with_reducible show SemD _ _ _ _ _);refine SemD.of ?_)
  | simp (maxSteps:=1000000) only [go_sem,hv.len,htc,hf,hb]
  | ((with_reducible show wds _ _ (DI.i (XI.mk _ (some _) (XBody.op _)) :: _) _ _);refine wds_optF rfl (fun e2=>by ((try simp only [Bool.and_eq_true] at e2);first | (simp (maxSteps:=1000000) only [e2,go_sem,hv.len,htc,hf,hb];first | done | rfl))) ?_)
 refine ⟨more_one,plain_tup (by simp [Plain.v]),0,?_⟩
 congr 5
 by_cases h1:im.entry < 0 <;> by_cases h2:(im.funcs.length:Int) ≤ im.entry <;> simp [h1,h2] <;> omega
theorem c132 (hO:On cx) (im:Img) (tv fv bv:AV) (h:AH) (hv:SlIns h tv im.text) (hf:SlT Fn.row 4 h fv im.funcs) (hb:SlT Tab.row 5 h bv im.tables) (hl:im.text.length < 1099511627776) :
 SimCall cx 132 [.agg [tv,fv,bv,VI im.entry]] h fun r h'=>h' = h ∧ ∃ x:Int,r = .tup [VI x,VB (!(decide ((wsI im.text).sum ≤ 1048576 ∧ im.funcs.length ≤ 4096 ∧ im.tables.length ≤ 1024)))]:=by
 refine SimCall.gc ?_
 refine SimCall.by hO.P res132 ?_
 unfold x132 r132
 repeat' first
  | ((with_reducible show wx _ (XCode.cond _ _ _) _ _);refine wx_if rfl (fun _=>?_) (fun _=>?_))
  | ((with_reducible show SimCall _ 186 _ _ _);refine (c186 hO im.text tv _ (hv.more _) hl).mono ?_;rintro r h' ⟨rfl,rfl⟩)
  | simp (maxSteps:=1000000) only [go_sem,hv.len,hv.cell,hf.cell,hb.cell,hf.len,hb.len]
 ·refine ⟨more_one,plain_tup (by simp [Plain.v]),0,?_⟩
  congr 5
  simp at *
  omega
 ·refine ⟨more_one,plain_tup (by simp [Plain.v]),1,?_⟩
  congr 5
  simp at *
  omega
 ·refine ⟨more_one,plain_tup (by simp [Plain.v]),2,?_⟩
  congr 5
  simp at *
  omega
 ·refine ⟨more_one,plain_tup (by simp [Plain.v]),0,?_⟩
  congr 5
  simp at *
  omega
end Go.Tidy

/- Part 11 of a proof: an abstract memory for the translated code, and what the functions that the law reaches do over it. -/
import Derived.Test.YtbhdjfhhgnoiiaaGreatDoorProg
import Derived.Test.YtbhdjfhhgnoiiaaGreatDoorS10
set_option linter.unusedSimpArgs false
set_option linter.unusedVariables false
namespace Go.Tidy
open Go Go.Eng Go.Proofs
set_option maxRecDepth 100000
def x21:XCode:=.seq (.reg [oO 1 0,oI 2 0,oI 3 0,oI 4 0])
 (.seq (.reg [oA 18 4 1,⟨some 19,none,(.call (.f 63) [(.t 18)])⟩,oM 17 19,oT 20 0 17,oT 21 1 17,oM 5 20,oM 6 21])
 (.seq (.seq (.reg [oM 22 6,⟨some 23,none,(.op (.bin .neq (.t 22) (.k (.int .i64 0))))⟩])
 (.cond (.t 23) (.seq (.reg [oI 2 0,oI 3 0,oI 4 190])
 (.ret))
 (.skip)))
 (.seq (.reg [oI 7 (-1)])
 (.seq (.reg [oI 8 0])
 (.seq (.reg [oI 9 0])
 (.seq (.seq (.reg [oI 10 0])
 (.block 0 (.loop (.seq (.seq (.reg [oM 24 10,oF 25 1 1,oL 26 25,oN 27 26,oS 28 24 27])
 (.cond (.t 28) (.skip)
 (.exit 0)))
 (.seq (.block 1 (.seq (.seq (.drw none [oM 31 7,⟨some 32,none,(.op (.bin .geq (.t 31) (.k (.int .i64 0))))⟩,oM 33 32,xqF 34 33 true 1 1,xqL 35 33 true 34,xqM 36 33 true 10,⟨some 37,(some (33,true)),(.op (.iad 4 (.t 35) (.t 36)))⟩,⟨some 38,(some (33,true)),(.op (.lda 4 (.t 37)))⟩,xqF 39 33 true 1 1,xqL 40 33 true 39,xqM 41 33 true 7,⟨some 42,(some (33,true)),(.op (.iad 4 (.t 40) (.t 41)))⟩,⟨some 43,(some (33,true)),(.op (.lda 4 (.t 42)))⟩,⟨some 44,(some (33,true)),(.call (.f 64) [(.t 38),(.t 43)])⟩,⟨some 45,(some (33,true)),(.op (.un .not (.t 44)))⟩,oP 46 33 45])
 (.cond (.t 46) (.exit 1)
 (.skip)))
 (.seq (.reg [oA 47 4 1,oM 48 10,⟨some 49,none,(.call (.f 65) [(.t 47),(.t 48)])⟩,oM 11 49])
 (.seq (.reg [oM 50 11,⟨some 51,none,(.call (.f 66) [(.t 50)])⟩,oM 12 51])
 (.seq (.reg [oI 13 0])
 (.block 2 (.loop (.seq (.seq (.reg [oM 52 13,oM 53 11,oN 54 53,oS 55 52 54])
 (.cond (.t 55) (.skip)
 (.exit 2)))
 (.seq (.block 3 (.seq (.reg [oA 58 4 1,oM 59 11,oM 60 12,oM 61 13,⟨some 62,none,(.call (.f 67) [(.t 58),(.t 59),(.t 60),(.t 61)])⟩,oM 14 62])
 (.seq (.reg [oM 63 14,⟨some 64,none,(.op (.bin .neq (.t 63) (.k (.int .i64 0))))⟩])
 (.cond (.t 64) (.seq (.reg [oM 65 10,oM 7 65])
 (.seq (.reg [oM 66 13,oM 8 66])
 (.seq (.reg [oM 67 14,oM 9 67])
 (.exit 2))))
 (.skip)))))
 (.reg [oM 56 13,oD 57 56 1,oM 13 57]))))))))))
 (.reg [oM 29 10,oD 30 29 1,oM 10 30]))))))
 (.seq (.seq (.reg [oM 68 7,⟨some 69,none,(.op (.bin .geq (.t 68) (.k (.int .i64 0))))⟩])
 (.cond (.t 69) (.seq (.reg [oM 70 7,oM 71 8,oM 72 9,oM 2 70,oM 3 71,oM 4 72])
 (.ret))
 (.skip)))
 (.seq (.reg [oA 73 4 1,⟨some 74,none,(.call (.f 68) [(.t 73),(.k (.int .i64 8))])⟩,oM 15 74])
 (.seq (.seq (.reg [oI 16 0])
 (.block 4 (.loop (.seq (.seq (.reg [oM 75 16,oF 76 1 1,oL 77 76,oN 78 77,oS 79 75 78])
 (.cond (.t 79) (.skip)
 (.exit 4)))
 (.seq (.block 5 (.seq (.drw none [oM 82 15,oM 83 16,oX 84 1 82 83,oL 85 84,oM 86 85,xqM 87 86 true 7,⟨some 88,(some (86,true)),(.op (.bin .lss (.t 87) (.k (.int .i64 0))))⟩,xqM 89 86 true 88,xqF 90 89 false 1 1,xqL 91 89 false 90,xqM 92 89 false 16,⟨some 93,(some (89,false)),(.op (.iad 4 (.t 91) (.t 92)))⟩,⟨some 94,(some (89,false)),(.op (.lda 4 (.t 93)))⟩,xqF 95 89 false 1 1,xqL 96 89 false 95,xqM 97 89 false 7,⟨some 98,(some (89,false)),(.op (.iad 4 (.t 96) (.t 97)))⟩,⟨some 99,(some (89,false)),(.op (.lda 4 (.t 98)))⟩,⟨some 100,(some (89,false)),(.call (.f 64) [(.t 94),(.t 99)])⟩,⟨some 101,(some (86,true)),(.op (.pick (.t 89) (.k (.bool true)) (.t 100)))⟩,oP 102 86 101])
 (.cond (.t 102) (.reg [oM 103 16,oM 7 103])
 (.skip))))
 (.reg [oM 80 16,oD 81 80 1,oM 16 81]))))))
 (.seq (.seq (.reg [oM 104 7,⟨some 105,none,(.op (.bin .geq (.t 104) (.k (.int .i64 0))))⟩])
 (.cond (.t 105) (.seq (.reg [oM 106 7,oM 2 106,oI 3 0,oI 4 198])
 (.ret))
 (.skip)))
 (.seq (.reg [oI 2 0,oI 3 0,oI 4 0])
 (.ret))))))))))))
def r21:List XRes:=[.t 2,.t 3,.t 4]
theorem res21:resolveF Tryz.prog 21 = some (x21,r21,107):=by kernel_rfl
def x63:XCode:=.seq (.reg [oO 1 0,oI 2 0,oI 3 0])
 (.seq (.reg [oA 7 4 1,⟨some 8,none,(.call (.f 115) [(.t 7)])⟩,oM 4 8])
 (.seq (.seq (.reg [oM 9 4,⟨some 10,none,(.op (.bin .geq (.t 9) (.k (.int .i64 0))))⟩])
 (.cond (.t 10) (.seq (.reg [oM 11 4,oM 2 11,oI 3 171])
 (.ret))
 (.skip)))
 (.seq (.reg [oA 12 4 1,⟨some 13,none,(.call (.f 116) [(.t 12)])⟩,oM 4 13])
 (.seq (.seq (.reg [oM 14 4,⟨some 15,none,(.op (.bin .geq (.t 14) (.k (.int .i64 0))))⟩])
 (.cond (.t 15) (.seq (.reg [oM 16 4,oM 2 16,oI 3 172])
 (.ret))
 (.skip)))
 (.seq (.reg [oA 17 4 1,⟨some 18,none,(.call (.f 117) [(.t 17)])⟩,oM 4 18])
 (.seq (.seq (.reg [oM 19 4,⟨some 20,none,(.op (.bin .geq (.t 19) (.k (.int .i64 0))))⟩])
 (.cond (.t 20) (.seq (.reg [oM 21 4,oM 2 21,oI 3 173])
 (.ret))
 (.skip)))
 (.seq (.reg [oA 22 4 1,⟨some 23,none,(.call (.f 118) [(.t 22)])⟩,oM 4 23])
 (.seq (.seq (.reg [oM 24 4,⟨some 25,none,(.op (.bin .geq (.t 24) (.k (.int .i64 0))))⟩])
 (.cond (.t 25) (.seq (.reg [oM 26 4,oM 2 26,oI 3 174])
 (.ret))
 (.skip)))
 (.seq (.seq (.reg [oF 27 3 1,oL 28 27,⟨some 29,none,(.op (.bin .lss (.t 28) (.k (.int .i64 0))))⟩,oM 30 29,xqF 31 30 false 3 1,xqL 32 30 false 31,xqF 33 30 false 1 1,xqL 34 30 false 33,⟨some 35,(some (30,false)),(.op (.lenl (.t 34)))⟩,⟨some 36,(some (30,false)),(.op (.bin .geq (.t 32) (.t 35)))⟩,oQ 37 30 36])
 (.cond (.t 37) (.seq (.reg [oI 2 0,oI 3 175])
 (.ret))
 (.skip)))
 (.seq (.seq (.reg [oI 5 0])
 (.block 0 (.loop (.seq (.seq (.reg [oM 38 5,oF 39 0 1,oL 40 39,oN 41 40,oS 42 38 41])
 (.cond (.t 42) (.skip)
 (.exit 0)))
 (.seq (.block 1 (.seq (.reg [oF 45 0 1,oL 46 45,oM 47 5,oX 48 5 46 47,oA 49 5 48,⟨some 50,none,(.call (.f 119) [(.t 49)])⟩,oM 6 50])
 (.seq (.reg [oM 51 6,⟨some 52,none,(.op (.un .not (.t 51)))⟩])
 (.cond (.t 52) (.seq (.reg [oM 53 5,oM 2 53,oI 3 176])
 (.ret))
 (.skip)))))
 (.reg [oM 43 5,oD 44 43 1,oM 5 44]))))))
 (.seq (.reg [oI 2 0,oI 3 0])
 (.ret))))))))))))
def r63:List XRes:=[.t 2,.t 3]
theorem res63:resolveF Tryz.prog 63 = some (x63,r63,54):=by kernel_rfl
def x64:XCode:=.seq (.reg [oO 2 0,oO 3 1,oB 4])
 (.seq (.reg [oF 5 0 2,oL 6 5,oF 7 0 3,oL 8 7,oS 9 6 8,oM 10 9,xqF 11 10 false 0 2,xqL 12 10 false 11,xqF 13 10 false 0 3,xqL 14 10 false 13,⟨some 15,(some (10,false)),(.op (.bin .eql (.t 12) (.t 14)))⟩,xqM 16 10 false 15,xqF 17 16 true 1 2,xqL 18 16 true 17,xqF 19 16 true 1 3,xqL 20 16 true 19,⟨some 21,(some (16,true)),(.op (.bin .lss (.t 18) (.t 20)))⟩,⟨some 22,(some (10,false)),(.op (.pick (.t 16) (.t 21) (.k (.bool false))))⟩,oQ 23 10 22,oM 4 23])
 (.ret))
def r64:List XRes:=[.t 4]
theorem res64:resolveF Tryz.prog 64 = some (x64,r64,24):=by kernel_rfl
def x65:XCode:=.seq (.reg [oO 2 0,⟨some 4,none,(.op (.mov (.k (.slice none 0 0))))⟩])
 (.seq (.drw none [oF 5 0 2,oL 6 5,oF 7 1 2,oL 8 7,oM 9 1,oX 10 4 8 9,oF 11 2 10,oL 12 11,oF 13 1 2,oL 14 13,oM 15 1,oX 16 4 14 15,oF 17 2 16,oL 18 17,oF 19 1 2,oL 20 19,oM 21 1,oX 22 4 20 21,oF 23 3 22,oL 24 23,⟨some 25,none,(.op (.bin .add (.t 18) (.t 24)))⟩,⟨some 26,none,(.op (.sls 5 (.t 6) (some (.t 12)) (some (.t 25))))⟩,oM 4 26])
 (.ret))
def r65:List XRes:=[.t 4]
theorem res65:resolveF Tryz.prog 65 = some (x65,r65,27):=by kernel_rfl
def x66:XCode:=.seq (.reg [⟨some 2,none,(.op (.mov (.k (.slice none 0 0))))⟩])
 (.seq (.reg [⟨some 3,none,(.op (.mov (.k (.slice none 0 0))))⟩])
 (.seq (.reg [oI 4 0])
 (.seq (.seq (.reg [oI 5 0])
 (.block 0 (.loop (.seq (.seq (.reg [oM 6 5,oM 7 0,oN 8 7,oS 9 6 8])
 (.cond (.t 9) (.skip)
 (.exit 0)))
 (.seq (.block 1 (.seq (.reg [oM 12 3,oM 13 4,⟨some 14,none,(.op (.bsl 1 1 [(.int .i64 0)] [(0,1,(.t 13))]))⟩,⟨some 15,none,(.op (.app 1 8 (.t 12) (.t 14)))⟩,oM 3 15])
 (.reg [oM 16 4,oM 17 0,oM 18 5,oX 19 5 17 18,oA 20 5 19,⟨some 21,none,(.call (.f 120) [(.t 20)])⟩,⟨some 22,none,(.op (.bin .add (.t 16) (.t 21)))⟩,oM 4 22])))
 (.reg [oM 10 5,oD 11 10 1,oM 5 11]))))))
 (.seq (.reg [oM 23 3,oM 2 23])
 (.ret)))))
def r66:List XRes:=[.t 2]
theorem res66:resolveF Tryz.prog 66 = some (x66,r66,24):=by kernel_rfl
def x67:XCode:=.seq (.reg [oO 4 0,oI 8 0])
 (.seq (.reg [oM 10 1,oM 11 3,oX 12 5 10 11,oA 13 5 12,⟨some 9,none,(.op (.alloc [(.int .i64 0),(.int .i64 0),(.int .i64 0),(.int .i64 0),(.int .i64 0)]))⟩,⟨none,none,(.op (.st 5 (.t 9) (.t 13)))⟩])
 (.seq (.seq (.reg [oA 14 5 9,⟨some 15,none,(.call (.f 121) [(.t 14)])⟩,⟨some 16,none,(.op (.bin .neq (.t 15) (.k (.int .i64 0))))⟩])
 (.cond (.t 16) (.seq (.reg [oI 8 191])
 (.ret))
 (.skip)))
 (.seq (.seq (.reg [oA 17 5 9,⟨some 18,none,(.call (.f 122) [(.t 17)])⟩,oM 19 18,xqM 20 19 true 1,xqM 21 19 true 2,xqM 22 19 true 3,⟨some 23,(some (19,true)),(.call (.f 123) [(.t 20),(.t 21),(.t 22)])⟩,⟨some 24,(some (19,true)),(.op (.bin .lss (.t 23) (.k (.int .i64 0))))⟩,oP 25 19 24])
 (.cond (.t 25) (.seq (.reg [oI 8 192])
 (.ret))
 (.skip)))
 (.seq (.seq (.reg [oM 26 3,oM 27 1,oN 28 27,⟨some 29,none,(.op (.bin .sub (.t 28) (.k (.int .i64 1))))⟩,⟨some 30,none,(.op (.bin .eql (.t 26) (.t 29)))⟩,oM 31 30,xqF 32 31 true 0 9,xqL 33 31 true 32,⟨some 34,(some (31,true)),(.op (.bin .neq (.t 33) (.k (.int .i64 5))))⟩,oP 35 31 34,oM 36 35,xqF 37 36 true 0 9,xqL 38 36 true 37,⟨some 39,(some (36,true)),(.op (.bin .neq (.t 38) (.k (.int .i64 6))))⟩,oP 40 36 39,oM 41 40,xqF 42 41 true 0 9,xqL 43 41 true 42,⟨some 44,(some (41,true)),(.op (.bin .neq (.t 43) (.k (.int .i64 149))))⟩,oP 45 41 44])
 (.cond (.t 45) (.seq (.reg [oI 8 193])
 (.ret))
 (.skip)))
 (.seq (.seq (.reg [oA 46 5 9,⟨some 47,none,(.call (.f 124) [(.t 46)])⟩])
 (.cond (.t 47) (.seq (.reg [oI 8 194])
 (.ret))
 (.skip)))
 (.seq (.seq (.reg [oF 48 0 9,oL 49 48,oE 50 49 133,oM 51 50,xqF 52 51 true 2 9,xqL 53 51 true 52,⟨some 54,(some (51,true)),(.op (.bin .eql (.t 53) (.k (.int .i64 1))))⟩,oP 55 51 54,oM 56 55,xqF 57 56 true 4 9,xqL 58 56 true 57,⟨some 59,(some (56,true)),(.op (.bin .lss (.t 58) (.k (.int .i64 0))))⟩,xqM 60 56 true 59,xqF 61 60 false 4 9,xqL 62 60 false 61,xqF 63 60 false 1 4,xqL 64 60 false 63,⟨some 65,(some (60,false)),(.op (.lenl (.t 64)))⟩,⟨some 66,(some (60,false)),(.op (.bin .geq (.t 62) (.t 65)))⟩,⟨some 67,(some (56,true)),(.op (.pick (.t 60) (.k (.bool true)) (.t 66)))⟩,oP 68 56 67])
 (.cond (.t 68) (.seq (.reg [oI 8 195])
 (.ret))
 (.skip)))
 (.seq (.seq (.reg [oF 69 0 9,oL 70 69,oE 71 70 24,oM 72 71,xqF 73 72 true 2 9,xqL 74 72 true 73,⟨some 75,(some (72,true)),(.op (.bin .eql (.t 74) (.k (.int .i64 1))))⟩,oP 76 72 75,oM 77 76,xqF 78 77 true 4 9,xqL 79 77 true 78,⟨some 80,(some (77,true)),(.op (.bin .lss (.t 79) (.k (.int .i64 0))))⟩,xqM 81 77 true 80,xqF 82 81 false 4 9,xqL 83 81 false 82,xqF 84 81 false 2 4,xqL 85 81 false 84,⟨some 86,(some (81,false)),(.op (.lenl (.t 85)))⟩,⟨some 87,(some (81,false)),(.op (.bin .geq (.t 83) (.t 86)))⟩,⟨some 88,(some (77,true)),(.op (.pick (.t 81) (.k (.bool true)) (.t 87)))⟩,oP 89 77 88])
 (.cond (.t 89) (.seq (.reg [oI 8 196])
 (.ret))
 (.skip)))
 (.seq (.seq (.reg [oF 90 0 9,oL 91 90,oE 92 91 133,oM 93 92,xqF 94 93 true 2 9,xqL 95 93 true 94,⟨some 96,(some (93,true)),(.op (.bin .eql (.t 95) (.k (.int .i64 0))))⟩,oP 97 93 96,oM 98 97,xqF 99 98 true 4 9,xqL 100 98 true 99,⟨some 101,(some (98,true)),(.op (.bin .lss (.t 100) (.k (.int .i64 1))))⟩,xqM 102 98 true 101,xqF 103 102 false 4 9,xqL 104 102 false 103,⟨some 105,(some (102,false)),(.op (.bin .gtr (.t 104) (.k (.int .i64 4))))⟩,⟨some 106,(some (98,true)),(.op (.pick (.t 102) (.k (.bool true)) (.t 105)))⟩,oP 107 98 106])
 (.cond (.t 107) (.seq (.reg [oI 8 197])
 (.ret))
 (.skip)))
 (.seq (.reg [oI 8 0])
 (.ret))))))))))
def r67:List XRes:=[.t 8]
theorem res67:resolveF Tryz.prog 67 = some (x67,r67,108):=by kernel_rfl
def x68:XCode:=.seq (.reg [oO 2 0,⟨some 4,none,(.op (.mov (.k (.slice none 0 0))))⟩])
 (.seq (.reg [⟨some 5,none,(.op (.mov (.k (.slice none 0 0))))⟩])
 (.seq (.seq (.reg [oI 6 0])
 (.block 0 (.loop (.seq (.seq (.reg [oM 13 6,oF 14 1 2,oL 15 14,oN 16 15,oS 17 13 16])
 (.cond (.t 17) (.skip)
 (.exit 0)))
 (.seq (.block 1 (.reg [oM 20 5,⟨some 21,none,(.op (.bsl 1 1 [(.bool false)] [(0,1,(.k (.bool true)))]))⟩,⟨some 22,none,(.op (.app 1 1 (.t 20) (.t 21)))⟩,oM 5 22]))
 (.reg [oM 18 6,oD 19 18 1,oM 6 19]))))))
 (.seq (.seq (.reg [oI 7 0])
 (.block 2 (.loop (.seq (.seq (.reg [oM 23 7,oM 24 1,oS 25 23 24])
 (.cond (.t 25) (.skip)
 (.exit 2)))
 (.seq (.block 3 (.seq (.reg [⟨some 8,none,(.op (.mov (.k (.slice none 0 0))))⟩])
 (.seq (.seq (.reg [oI 9 0])
 (.block 4 (.loop (.seq (.seq (.reg [oM 28 9,oF 29 1 2,oL 30 29,oN 31 30,oS 32 28 31])
 (.cond (.t 32) (.skip)
 (.exit 4)))
 (.seq (.block 5 (.seq (.reg [oB 10])
 (.seq (.reg [oA 35 4 2,oM 36 9,⟨some 37,none,(.call (.f 65) [(.t 35),(.t 36)])⟩,oM 11 37])
 (.seq (.seq (.reg [oI 12 0])
 (.block 6 (.loop (.seq (.seq (.reg [oM 38 12,oM 39 11,oN 40 39,oS 41 38 40,oM 42 41,xqM 43 42 true 10,⟨some 44,(some (42,true)),(.op (.un .not (.t 43)))⟩,oP 45 42 44])
 (.cond (.t 45) (.skip)
 (.exit 6)))
 (.seq (.block 7 (.reg [oM 48 11,oM 49 12,oX 50 5 48 49,oF 51 0 50,oL 52 51,oE 53 52 133,oM 54 53,xqM 55 54 true 11,xqM 56 54 true 12,⟨some 57,(some (54,true)),(.op (.iad 5 (.t 55) (.t 56)))⟩,xqF 58 54 true 2 57,xqL 59 54 true 58,⟨some 60,(some (54,true)),(.op (.bin .eql (.t 59) (.k (.int .i64 1))))⟩,oP 61 54 60,oM 62 61,xqM 63 62 true 5,xqM 64 62 true 11,xqM 65 62 true 12,⟨some 66,(some (62,true)),(.op (.iad 5 (.t 64) (.t 65)))⟩,xqF 67 62 true 4 66,xqL 68 62 true 67,⟨some 69,(some (62,true)),(.op (.iad 1 (.t 63) (.t 68)))⟩,xqL 70 62 true 69,oP 71 62 70,oM 10 71]))
 (.reg [oM 46 12,oD 47 46 1,oM 12 47]))))))
 (.reg [oM 72 8,oM 73 10,⟨some 74,none,(.op (.bsl 1 1 [(.bool false)] [(0,1,(.t 73))]))⟩,⟨some 75,none,(.op (.app 1 1 (.t 72) (.t 74)))⟩,oM 8 75])))))
 (.reg [oM 33 9,oD 34 33 1,oM 9 34]))))))
 (.reg [oM 76 8,oM 5 76]))))
 (.reg [oM 26 7,oD 27 26 1,oM 7 27]))))))
 (.seq (.reg [oM 77 5,oM 4 77])
 (.ret)))))
def r68:List XRes:=[.t 4]
theorem res68:resolveF Tryz.prog 68 = some (x68,r68,78):=by kernel_rfl
def x95:XCode:=.seq (.reg [oO 1 0,oB 2])
 (.seq (.seq (.reg [oF 3 1 1,oL 4 3,⟨some 5,none,(.op (.bin .neq (.t 4) (.k (.int .i64 1))))⟩,oM 6 5,xqF 7 6 true 1 1,xqL 8 6 true 7,⟨some 9,(some (6,true)),(.op (.bin .neq (.t 8) (.k (.int .i64 2))))⟩,oP 10 6 9,oM 11 10,xqF 12 11 false 2 1,xqL 13 11 false 12,⟨some 14,(some (11,false)),(.op (.bin .lss (.t 13) (.k (.int .i64 1))))⟩,oQ 15 11 14,oM 16 15,xqF 17 16 false 2 1,xqL 18 16 false 17,⟨some 19,(some (16,false)),(.op (.bin .gtr (.t 18) (.k (.int .i64 64))))⟩,oQ 20 16 19,oM 21 20,xqF 22 21 false 3 1,xqL 23 21 false 22,⟨some 24,(some (21,false)),(.op (.bin .lss (.t 23) (.k (.int .i64 1))))⟩,oQ 25 21 24,oM 26 25,xqF 27 26 false 3 1,xqL 28 26 false 27,⟨some 29,(some (26,false)),(.op (.bin .gtr (.t 28) (.k (.int .i64 4096))))⟩,oQ 30 26 29,oM 31 30,xqF 32 31 false 4 1,xqL 33 31 false 32,⟨some 34,(some (31,false)),(.op (.bin .lss (.t 33) (.k (.int .i64 1))))⟩,oQ 35 31 34,oM 36 35,xqF 37 36 false 4 1,xqL 38 36 false 37,⟨some 39,(some (36,false)),(.op (.bin .gtr (.t 38) (.k (.int .i64 65536))))⟩,oQ 40 36 39])
 (.cond (.t 40) (.seq (.reg [oB 2])
 (.ret))
 (.skip)))
 (.seq (.reg [oF 41 1 1,oL 42 41,⟨some 43,none,(.op (.bin .neq (.t 42) (.k (.int .i64 1))))⟩,oM 44 43,xqF 45 44 false 2 1,xqL 46 44 false 45,⟨some 47,(some (44,false)),(.op (.bin .eql (.t 46) (.k (.int .i64 4))))⟩,oQ 48 44 47,oM 49 48,⟨some 50,(some (49,true)),(.op (.lda 5 (.t 1)))⟩,⟨some 51,(some (49,true)),(.call (.f 166) [(.t 50)])⟩,⟨some 52,(some (49,true)),(.op (.bin .leq (.t 51) (.k (.int .i64 16777216))))⟩,oP 53 49 52,oM 2 53])
 (.ret)))
def r95:List XRes:=[.t 2]
theorem res95:resolveF Tryz.prog 95 = some (x95,r95,54):=by kernel_rfl
def x115:XCode:=.seq (.reg [oO 1 0,oI 2 0])
 (.seq (.block 0 (.seq (.reg [oF 4 0 1,oL 5 4,⟨some 6,none,(.call (.f 172) [(.t 5)])⟩,⟨some 7,none,(.op (.bin .gtr (.t 6) (.k (.int .i64 1048576))))⟩,oM 3 7])
 (.cond (.t 3) (.seq (.reg [oI 2 0])
 (.ret))
 (.seq (.reg [oF 9 1 1,oL 10 9,oN 11 10,⟨some 12,none,(.op (.bin .gtr (.t 11) (.k (.int .i64 4096))))⟩,oM 8 12])
 (.cond (.t 8) (.seq (.reg [oI 2 1])
 (.ret))
 (.seq (.reg [oF 14 2 1,oL 15 14,oN 16 15,⟨some 17,none,(.op (.bin .gtr (.t 16) (.k (.int .i64 1024))))⟩,oM 13 17])
 (.cond (.t 13) (.seq (.reg [oI 2 2])
 (.ret))
 (.skip))))))))
 (.seq (.reg [oI 2 (-1)])
 (.ret)))
def r115:List XRes:=[.t 2]
theorem res115:resolveF Tryz.prog 115 = some (x115,r115,18):=by kernel_rfl
def x116:XCode:=.seq (.reg [oO 1 0,oI 2 0])
 (.seq (.seq (.reg [oI 3 0])
 (.block 0 (.loop (.seq (.seq (.reg [oM 9 3,oF 10 1 1,oL 11 10,oN 12 11,oS 13 9 12])
 (.cond (.t 13) (.skip)
 (.exit 0)))
 (.seq (.block 1 (.seq (.reg [oF 16 1 1,oL 17 16,oM 18 3,oX 19 4 17 18,oA 20 4 19,⟨some 4,none,(.op (.alloc [(.string ⟨#[]⟩),(.int .i64 0),(.int .i64 0),(.int .i64 0)]))⟩,⟨none,none,(.op (.st 4 (.t 4) (.t 20)))⟩])
 (.seq (.reg [oF 21 0 4,oL 22 21,⟨some 23,none,(.call (.f 173) [(.t 22)])⟩,oM 5 23])
 (.seq (.seq (.reg [oM 24 5,⟨some 25,none,(.op (.un .not (.t 24)))⟩,oM 26 25,xqF 27 26 false 1 4,xqL 28 26 false 27,⟨some 29,(some (26,false)),(.op (.bin .lss (.t 28) (.k (.int .i64 0))))⟩,oQ 30 26 29,oM 31 30,xqF 32 31 false 1 4,xqL 33 31 false 32,⟨some 34,(some (31,false)),(.op (.bin .geq (.t 33) (.k (.int .i64 64))))⟩,oQ 35 31 34])
 (.cond (.t 35) (.seq (.reg [oM 36 3,oM 2 36])
 (.ret))
 (.skip)))
 (.seq (.reg [oI 6 0])
 (.block 2 (.loop (.seq (.seq (.reg [oM 37 6,oM 38 3,oS 39 37 38])
 (.cond (.t 39) (.skip)
 (.exit 2)))
 (.seq (.block 3 (.seq (.drw none [oF 42 1 1,oL 43 42,oM 44 6,oX 45 4 43 44,oF 46 0 45,oL 47 46,oF 48 0 4,oL 49 48,⟨some 50,none,(.op (.bin .eql (.t 47) (.t 49)))⟩,oM 51 50,xqF 52 51 true 1 1,xqL 53 51 true 52,xqM 54 51 true 6,⟨some 55,(some (51,true)),(.op (.iad 4 (.t 53) (.t 54)))⟩,xqF 56 51 true 1 55,xqL 57 51 true 56,xqF 58 51 true 1 4,xqL 59 51 true 58,⟨some 60,(some (51,true)),(.op (.bin .eql (.t 57) (.t 59)))⟩,oP 61 51 60])
 (.cond (.t 61) (.seq (.reg [oM 62 3,oM 2 62])
 (.ret))
 (.skip))))
 (.reg [oM 40 6,oD 41 40 1,oM 6 41]))))))))))
 (.reg [oM 14 3,oD 15 14 1,oM 3 15]))))))
 (.seq (.seq (.reg [oI 7 0])
 (.block 4 (.loop (.seq (.seq (.reg [oM 63 7,oF 64 2 1,oL 65 64,oN 66 65,oS 67 63 66])
 (.cond (.t 67) (.skip)
 (.exit 4)))
 (.seq (.block 5 (.seq (.reg [oF 70 2 1,oL 71 70,oM 72 7,oX 73 5 71 72,oF 74 0 73,oL 75 74,⟨some 76,none,(.call (.f 173) [(.t 75)])⟩,oM 8 76])
 (.seq (.drw none [oM 77 8,⟨some 78,none,(.op (.un .not (.t 77)))⟩,oM 79 78,xqM 80 79 false 7,⟨some 81,(some (79,false)),(.op (.bin .gtr (.t 80) (.k (.int .i64 0))))⟩,xqM 82 79 false 81,xqF 83 82 true 2 1,xqL 84 82 true 83,xqM 85 82 true 7,⟨some 86,(some (82,true)),(.op (.iad 5 (.t 84) (.t 85)))⟩,xqF 87 82 true 0 86,xqL 88 82 true 87,xqF 89 82 true 2 1,xqL 90 82 true 89,xqM 91 82 true 7,⟨some 92,(some (82,true)),(.op (.bin .sub (.t 91) (.k (.int .i64 1))))⟩,⟨some 93,(some (82,true)),(.op (.iad 5 (.t 90) (.t 92)))⟩,xqF 94 82 true 0 93,xqL 95 82 true 94,⟨some 96,(some (82,true)),(.op (.bin .leq (.t 88) (.t 95)))⟩,⟨some 97,(some (79,false)),(.op (.pick (.t 82) (.t 96) (.k (.bool false))))⟩,oQ 98 79 97])
 (.cond (.t 98) (.seq (.reg [oF 99 1 1,oL 100 99,oN 101 100,oM 102 7,⟨some 103,none,(.op (.bin .add (.t 101) (.t 102)))⟩,oM 2 103])
 (.ret))
 (.skip)))))
 (.reg [oM 68 7,oD 69 68 1,oM 7 69]))))))
 (.seq (.reg [oI 2 (-1)])
 (.ret))))
def r116:List XRes:=[.t 2]
theorem res116:resolveF Tryz.prog 116 = some (x116,r116,104):=by kernel_rfl
def x117:XCode:=.seq (.reg [oO 1 0,oI 2 0])
 (.seq (.reg [oI 3 0])
 (.seq (.seq (.reg [oI 4 0])
 (.block 0 (.loop (.seq (.seq (.reg [oM 6 4,oF 7 1 1,oL 8 7,oN 9 8,oS 10 6 9])
 (.cond (.t 10) (.skip)
 (.exit 0)))
 (.seq (.block 1 (.seq (.reg [oF 13 1 1,oL 14 13,oM 15 4,oX 16 4 14 15,oA 17 4 16,⟨some 5,none,(.op (.alloc [(.string ⟨#[]⟩),(.int .i64 0),(.int .i64 0),(.int .i64 0)]))⟩,⟨none,none,(.op (.st 4 (.t 5) (.t 17)))⟩])
 (.seq (.seq (.reg [oF 18 2 5,oL 19 18,oM 20 3,⟨some 21,none,(.op (.bin .neq (.t 19) (.t 20)))⟩,oM 22 21,xqF 23 22 false 3 5,xqL 24 22 false 23,⟨some 25,(some (22,false)),(.op (.bin .lss (.t 24) (.k (.int .i64 1))))⟩,oQ 26 22 25,oM 27 26,xqF 28 27 false 3 5,xqL 29 27 false 28,xqF 30 27 false 0 1,xqL 31 27 false 30,⟨some 32,(some (27,false)),(.op (.lenl (.t 31)))⟩,xqM 33 27 false 3,⟨some 34,(some (27,false)),(.op (.bin .sub (.t 32) (.t 33)))⟩,⟨some 35,(some (27,false)),(.op (.bin .gtr (.t 29) (.t 34)))⟩,oQ 36 27 35])
 (.cond (.t 36) (.seq (.reg [oM 37 4,oM 2 37])
 (.ret))
 (.skip)))
 (.reg [oM 38 3,oF 39 3 5,oL 40 39,⟨some 41,none,(.op (.bin .add (.t 38) (.t 40)))⟩,oM 3 41]))))
 (.reg [oM 11 4,oD 12 11 1,oM 4 12]))))))
 (.seq (.seq (.reg [oM 42 3,oF 43 0 1,oL 44 43,oN 45 44,oS 46 42 45])
 (.cond (.t 46) (.seq (.reg [oF 47 1 1,oL 48 47,oN 49 48,oM 2 49])
 (.ret))
 (.skip)))
 (.seq (.reg [oI 2 (-1)])
 (.ret)))))
def r117:List XRes:=[.t 2]
theorem res117:resolveF Tryz.prog 117 = some (x117,r117,50):=by kernel_rfl
def x118:XCode:=.seq (.reg [oO 1 0,oI 2 0])
 (.seq (.reg [oI 3 0])
 (.seq (.seq (.reg [oI 4 0])
 (.block 0 (.loop (.seq (.seq (.reg [oM 6 4,oF 7 2 1,oL 8 7,oN 9 8,oS 10 6 9])
 (.cond (.t 10) (.skip)
 (.exit 0)))
 (.seq (.block 1 (.seq (.reg [oF 13 2 1,oL 14 13,oM 15 4,oX 16 5 14 15,oA 17 5 16,⟨some 18,none,(.call (.f 95) [(.t 17)])⟩,oM 5 18])
 (.seq (.seq (.reg [oM 19 5,⟨some 20,none,(.op (.un .not (.t 19)))⟩])
 (.cond (.t 20) (.seq (.reg [oM 21 4,oM 2 21])
 (.ret))
 (.skip)))
 (.reg [oM 22 3,oF 23 2 1,oL 24 23,oM 25 4,oX 26 5 24 25,oA 27 5 26,⟨some 28,none,(.call (.f 166) [(.t 27)])⟩,⟨some 29,none,(.op (.bin .add (.t 22) (.t 28)))⟩,oM 3 29]))))
 (.reg [oM 11 4,oD 12 11 1,oM 4 12]))))))
 (.seq (.seq (.reg [oM 30 3,⟨some 31,none,(.op (.bin .gtr (.t 30) (.k (.int .i64 67108864))))⟩])
 (.cond (.t 31) (.seq (.reg [oF 32 2 1,oL 33 32,oN 34 33,oM 2 34])
 (.ret))
 (.skip)))
 (.seq (.reg [oI 2 (-1)])
 (.ret)))))
def r118:List XRes:=[.t 2]
theorem res118:resolveF Tryz.prog 118 = some (x118,r118,35):=by kernel_rfl
def x119:XCode:=.seq (.reg [oO 1 0,oB 2])
 (.seq (.reg [oA 4 5 1,⟨some 5,none,(.call (.f 174) [(.t 4)])⟩,oM 6 5,xqF 7 6 false 4 1,xqL 8 6 false 7,⟨some 9,(some (6,false)),(.op (.bin .geq (.t 8) (.k (.int .i64 (-2147483648)))))⟩,xqM 10 6 false 9,xqF 11 10 true 4 1,xqL 12 10 true 11,⟨some 13,(some (10,true)),(.op (.bin .leq (.t 12) (.k (.int .i64 2147483647))))⟩,⟨some 14,(some (6,false)),(.op (.pick (.t 10) (.t 13) (.k (.bool false))))⟩,oQ 15 6 14,oM 3 15])
 (.seq (.reg [oM 16 3,oM 17 16,xqF 18 17 true 0 1,xqL 19 17 true 18,⟨some 20,(some (17,true)),(.op (.bin .geq (.t 19) (.k (.int .i64 0))))⟩,oP 21 17 20,oM 22 21,xqF 23 22 true 0 1,xqL 24 22 true 23,⟨some 25,(some (22,true)),(.op (.bin .leq (.t 24) (.k (.int .i64 255))))⟩,oP 26 22 25,oM 27 26,xqF 28 27 true 1 1,xqL 29 27 true 28,⟨some 30,(some (27,true)),(.op (.bin .geq (.t 29) (.k (.int .i64 0))))⟩,oP 31 27 30,oM 32 31,xqF 33 32 true 1 1,xqL 34 32 true 33,⟨some 35,(some (32,true)),(.op (.bin .leq (.t 34) (.k (.int .i64 15))))⟩,oP 36 32 35,oM 37 36,xqF 38 37 true 2 1,xqL 39 37 true 38,⟨some 40,(some (37,true)),(.op (.bin .geq (.t 39) (.k (.int .i64 0))))⟩,oP 41 37 40,oM 42 41,xqF 43 42 true 2 1,xqL 44 42 true 43,⟨some 45,(some (42,true)),(.op (.bin .leq (.t 44) (.k (.int .i64 15))))⟩,oP 46 42 45,oM 47 46,xqF 48 47 true 3 1,xqL 49 47 true 48,⟨some 50,(some (47,true)),(.op (.bin .geq (.t 49) (.k (.int .i64 (-32768)))))⟩,oP 51 47 50,oM 52 51,xqF 53 52 true 3 1,xqL 54 52 true 53,⟨some 55,(some (52,true)),(.op (.bin .leq (.t 54) (.k (.int .i64 32767))))⟩,oP 56 52 55,oM 2 56])
 (.ret)))
def r119:List XRes:=[.t 2]
theorem res119:resolveF Tryz.prog 119 = some (x119,r119,57):=by kernel_rfl
def x120:XCode:=.seq (.reg [oO 1 0,oI 2 0])
 (.seq (.seq (.reg [oF 3 0 1,oL 4 3,oE 5 4 24])
 (.cond (.t 5) (.seq (.reg [oI 2 2])
 (.ret))
 (.skip)))
 (.seq (.reg [oI 2 1])
 (.ret)))
def r120:List XRes:=[.t 2]
theorem res120:resolveF Tryz.prog 120 = some (x120,r120,6):=by kernel_rfl
def x122:XCode:=.seq (.reg [oO 1 0,oB 2])
 (.seq (.reg [oA 4 5 1,⟨some 5,none,(.call (.f 99) [(.t 4)])⟩,oM 3 5])
 (.seq (.reg [oM 6 3,oE 7 6 1,oM 8 7,xqM 9 8 false 3,⟨some 10,(some (8,false)),(.op (.bin .eql (.t 9) (.k (.int .i64 2))))⟩,oQ 11 8 10,oM 2 11])
 (.ret)))
def r122:List XRes:=[.t 2]
theorem res122:resolveF Tryz.prog 122 = some (x122,r122,12):=by kernel_rfl
def x123:XCode:=.seq (.reg [oI 6 0])
 (.seq (.reg [oM 12 0,oM 13 2,oX 14 5 12 13,oF 15 3 14,oL 16 15,oM 7 16])
 (.seq (.seq (.reg [oM 17 0,oM 18 2,oX 19 5 17 18,oF 20 0 19,oL 21 20,oE 22 21 6])
 (.cond (.t 22) (.reg [oM 23 0,oM 24 2,oX 25 5 23 24,oF 26 4 25,oL 27 26,oM 7 27])
 (.skip)))
 (.seq (.reg [oM 28 1,oM 29 2,oX 30 1 28 29,oL 31 30,oD 32 31 1,oM 33 7,⟨some 34,none,(.op (.bin .add (.t 32) (.t 33)))⟩,oM 8 34])
 (.seq (.reg [oI 9 0])
 (.seq (.reg [oM 35 1,oN 36 35,oM 10 36])
 (.seq (.block 0 (.loop (.seq (.seq (.reg [oM 37 9,oM 38 10,oS 39 37 38])
 (.cond (.t 39) (.skip)
 (.exit 0)))
 (.block 1 (.seq (.reg [oM 40 9,oM 41 10,⟨some 42,none,(.op (.bin .add (.t 40) (.t 41)))⟩,⟨some 43,none,(.op (.bin .quo (.t 42) (.k (.int .i64 2))))⟩,oM 11 43])
 (.seq (.reg [oM 44 1,oM 45 11,oX 46 1 44 45,oL 47 46,oM 48 8,oS 49 47 48])
 (.cond (.t 49) (.reg [oM 50 11,oD 51 50 1,oM 9 51])
 (.reg [oM 52 11,oM 10 52]))))))))
 (.seq (.seq (.reg [oM 53 9,oM 54 1,oN 55 54,oS 56 53 55,oM 57 56,xqM 58 57 true 1,xqM 59 57 true 9,⟨some 60,(some (57,true)),(.op (.iad 1 (.t 58) (.t 59)))⟩,xqL 61 57 true 60,xqM 62 57 true 8,⟨some 63,(some (57,true)),(.op (.bin .eql (.t 61) (.t 62)))⟩,oP 64 57 63])
 (.cond (.t 64) (.seq (.reg [oM 65 9,oM 6 65])
 (.ret))
 (.skip)))
 (.seq (.reg [oI 6 (-1)])
 (.ret)))))))))
def r123:List XRes:=[.t 6]
theorem res123:resolveF Tryz.prog 123 = some (x123,r123,66):=by kernel_rfl
def x124:XCode:=.seq (.reg [oO 1 0,oB 2])
 (.seq (.reg [oA 5 5 1,⟨some 6,none,(.call (.f 176) [(.t 5)])⟩,oM 3 6])
 (.seq (.seq (.reg [oI 4 0])
 (.block 0 (.loop (.seq (.seq (.reg [oM 7 4,oM 8 3,oN 9 8,oS 10 7 9])
 (.cond (.t 10) (.skip)
 (.exit 0)))
 (.seq (.block 1 (.seq (.reg [oM 13 3,oM 14 4,oX 15 1 13 14,oL 16 15,oE 17 16 10])
 (.cond (.t 17) (.seq (.reg [⟨some 2,none,(.op (.mov (.k (.bool true))))⟩])
 (.ret))
 (.skip))))
 (.reg [oM 11 4,oD 12 11 1,oM 4 12]))))))
 (.seq (.reg [oB 2])
 (.ret))))
def r124:List XRes:=[.t 2]
theorem res124:resolveF Tryz.prog 124 = some (x124,r124,18):=by kernel_rfl
def x166:XCode:=.seq (.reg [oO 1 0,oI 2 0])
 (.seq (.reg [oF 3 4 1,oL 4 3,oF 5 2 1,oL 6 5,oF 7 3 1,oL 8 7,oD 9 8 7,⟨some 10,none,(.op (.bin .quo (.t 9) (.k (.int .i64 8))))⟩,⟨some 11,none,(.op (.bin .mul (.t 10) (.k (.int .i64 8))))⟩,⟨some 12,none,(.op (.bin .add (.t 6) (.t 11)))⟩,oD 13 12 8,⟨some 14,none,(.op (.bin .mul (.t 4) (.t 13)))⟩,oM 2 14])
 (.ret))
def r166:List XRes:=[.t 2]
theorem res166:resolveF Tryz.prog 166 = some (x166,r166,15):=by kernel_rfl
def x172:XCode:=.seq (.reg [oI 2 0])
 (.seq (.reg [oI 3 0])
 (.seq (.seq (.reg [oI 4 0])
 (.block 0 (.loop (.seq (.seq (.reg [oM 5 4,oM 6 0,oN 7 6,oS 8 5 7])
 (.cond (.t 8) (.skip)
 (.exit 0)))
 (.seq (.block 1 (.seq (.reg [oM 11 3,oD 12 11 1,oM 3 12])
 (.seq (.reg [oM 13 0,oM 14 4,oX 15 5 13 14,oA 16 5 15,⟨some 17,none,(.call (.f 174) [(.t 16)])⟩])
 (.cond (.t 17) (.reg [oM 18 3,oD 19 18 1,oM 3 19])
 (.skip)))))
 (.reg [oM 9 4,oD 10 9 1,oM 4 10]))))))
 (.seq (.reg [oM 20 3,oM 2 20])
 (.ret))))
def r172:List XRes:=[.t 2]
theorem res172:resolveF Tryz.prog 172 = some (x172,r172,21):=by kernel_rfl
def x173:XCode:=.seq (.reg [oB 2])
 (.seq (.seq (.reg [oM 4 0,⟨some 5,none,(.op (.lens (.t 4)))⟩,⟨some 6,none,(.op (.bin .lss (.t 5) (.k (.int .i64 1))))⟩,oM 7 6,xqM 8 7 false 0,⟨some 9,(some (7,false)),(.op (.lens (.t 8)))⟩,⟨some 10,(some (7,false)),(.op (.bin .gtr (.t 9) (.k (.int .i64 64))))⟩,oQ 11 7 10,oM 12 11,xqM 13 12 false 0,⟨some 14,(some (12,false)),(.op (.ixs (.t 13) (.k (.int .i64 0))))⟩,⟨some 15,(some (12,false)),(.call (.f 230) [(.t 14)])⟩,⟨some 16,(some (12,false)),(.op (.un .not (.t 15)))⟩,oQ 17 12 16])
 (.cond (.t 17) (.seq (.reg [oB 2])
 (.ret))
 (.skip)))
 (.seq (.seq (.reg [oI 3 0])
 (.block 0 (.loop (.seq (.seq (.reg [oM 18 3,oM 19 0,⟨some 20,none,(.op (.lens (.t 19)))⟩,oS 21 18 20])
 (.cond (.t 21) (.skip)
 (.exit 0)))
 (.seq (.block 1 (.seq (.reg [oM 24 0,oM 25 3,⟨some 26,none,(.op (.ixs (.t 24) (.t 25)))⟩,⟨some 27,none,(.call (.f 231) [(.t 26)])⟩,⟨some 28,none,(.op (.un .not (.t 27)))⟩])
 (.cond (.t 28) (.seq (.reg [oB 2])
 (.ret))
 (.skip))))
 (.reg [oM 22 3,oD 23 22 1,oM 3 23]))))))
 (.seq (.reg [⟨some 2,none,(.op (.mov (.k (.bool true))))⟩])
 (.ret))))
def r173:List XRes:=[.t 2]
theorem res173:resolveF Tryz.prog 173 = some (x173,r173,29):=by kernel_rfl
def x174:XCode:=.seq (.reg [oO 1 0,oB 2])
 (.seq (.reg [oF 3 0 1,oL 4 3,oE 5 4 24,oM 2 5])
 (.ret))
def r174:List XRes:=[.t 2]
theorem res174:resolveF Tryz.prog 174 = some (x174,r174,6):=by kernel_rfl
def x176:XCode:=.seq (.reg [oO 1 0,⟨some 2,none,(.op (.mov (.k (.slice none 0 0))))⟩])
 (.seq (.seq (.reg [oA 3 5 1,⟨some 4,none,(.call (.f 121) [(.t 3)])⟩,⟨some 5,none,(.op (.bin .neq (.t 4) (.k (.int .i64 0))))⟩])
 (.cond (.t 5) (.seq (.reg [⟨some 2,none,(.op (.mov (.k (.slice none 0 0))))⟩])
 (.ret))
 (.skip)))
 (.seq (.seq (.reg [oF 6 0 1,oL 7 6,⟨some 8,none,(.call (.f 168) [(.t 7)])⟩,⟨some 9,none,(.op (.iad 10 (.t 8) (.k (.int .i64 0))))⟩,oF 10 0 9,oL 11 10])
 (.block 0 (.seq (.seq (.reg [oE 13 11 3,oM 12 13])
 (.cond (.t 12) (.skip)
 (.seq (.reg [oE 14 11 2,oM 12 14])
 (.cond (.t 12) (.skip)
 (.seq (.reg [oE 15 11 4,oM 12 15])
 (.cond (.t 12) (.skip)
 (.reg [oE 16 11 10,oM 12 16])))))))
 (.cond (.t 12) (.seq (.reg [oF 17 1 1,oL 18 17,⟨some 19,none,(.op (.bsl 1 1 [(.int .i64 0)] [(0,1,(.t 18))]))⟩,oM 2 19])
 (.ret))
 (.seq (.reg [oE 21 11 9,oM 20 21])
 (.cond (.t 20) (.seq (.reg [⟨some 22,none,(.call (.f 234) [(.k (.int .i64 0)),(.k (.int .i64 5))])⟩,oM 2 22])
 (.ret))
 (.seq (.reg [oE 24 11 6,oM 23 24])
 (.cond (.t 23) (.seq (.seq (.reg [oF 25 4 1,oL 26 25,oE 27 26 241])
 (.cond (.t 27) (.seq (.reg [⟨some 28,none,(.op (.bsl 1 1 [(.int .i64 0)] [(0,1,(.k (.int .i64 0)))]))⟩,oM 2 28])
 (.ret))
 (.skip)))
 (.seq (.reg [oF 29 4 1,oL 30 29,⟨some 31,none,(.op (.bin .rem (.t 30) (.k (.int .i64 2))))⟩,oE 32 31 1])
 (.cond (.t 32) (.seq (.reg [oF 33 2 1,oL 34 33,⟨some 35,none,(.op (.bsl 1 1 [(.int .i64 0)] [(0,1,(.t 34))]))⟩,oM 2 35])
 (.ret))
 (.skip))))
 (.skip)))))))))
 (.seq (.reg [⟨some 2,none,(.op (.mov (.k (.slice none 0 0))))⟩])
 (.ret))))
def r176:List XRes:=[.t 2]
theorem res176:resolveF Tryz.prog 176 = some (x176,r176,36):=by kernel_rfl
def x230:XCode:=.seq (.reg [oB 2])
 (.seq (.reg [oM 3 0,⟨some 4,none,(.op (.bin .geq (.t 3) (.k (.int .u8 97))))⟩,oM 5 4,xqM 6 5 true 0,⟨some 7,(some (5,true)),(.op (.bin .leq (.t 6) (.k (.int .u8 122))))⟩,oP 8 5 7,oM 9 8,xqM 10 9 false 0,⟨some 11,(some (9,false)),(.op (.bin .geq (.t 10) (.k (.int .u8 65))))⟩,xqM 12 9 false 11,xqM 13 12 true 0,⟨some 14,(some (12,true)),(.op (.bin .leq (.t 13) (.k (.int .u8 90))))⟩,⟨some 15,(some (9,false)),(.op (.pick (.t 12) (.t 14) (.k (.bool false))))⟩,oQ 16 9 15,oM 17 16,xqM 18 17 false 0,⟨some 19,(some (17,false)),(.op (.bin .eql (.t 18) (.k (.int .u8 95))))⟩,oQ 20 17 19,oM 2 20])
 (.ret))
def r230:List XRes:=[.t 2]
theorem res230:resolveF Tryz.prog 230 = some (x230,r230,21):=by kernel_rfl
def x231:XCode:=.seq (.reg [oB 2])
 (.seq (.reg [oM 3 0,⟨some 4,none,(.call (.f 230) [(.t 3)])⟩,oM 5 4,xqM 6 5 false 0,⟨some 7,(some (5,false)),(.op (.bin .geq (.t 6) (.k (.int .u8 48))))⟩,xqM 8 5 false 7,xqM 9 8 true 0,⟨some 10,(some (8,true)),(.op (.bin .leq (.t 9) (.k (.int .u8 57))))⟩,⟨some 11,(some (5,false)),(.op (.pick (.t 8) (.t 10) (.k (.bool false))))⟩,oQ 12 5 11,oM 13 12,xqM 14 13 false 0,⟨some 15,(some (13,false)),(.op (.bin .eql (.t 14) (.k (.int .u8 46))))⟩,oQ 16 13 15,oM 17 16,xqM 18 17 false 0,⟨some 19,(some (17,false)),(.op (.bin .eql (.t 18) (.k (.int .u8 36))))⟩,oQ 20 17 19,oM 2 20])
 (.ret))
def r231:List XRes:=[.t 2]
theorem res231:resolveF Tryz.prog 231 = some (x231,r231,21):=by kernel_rfl
def x234:XCode:=.seq (.reg [⟨some 4,none,(.op (.mov (.k (.slice none 0 0))))⟩])
 (.seq (.reg [⟨some 5,none,(.op (.mov (.k (.slice none 0 0))))⟩])
 (.seq (.seq (.reg [oM 7 0,oM 6 7])
 (.block 0 (.loop (.seq (.seq (.reg [oM 8 6,oM 9 1,⟨some 10,none,(.op (.bin .leq (.t 8) (.t 9)))⟩])
 (.cond (.t 10) (.skip)
 (.exit 0)))
 (.seq (.block 1 (.reg [oM 13 5,oM 14 6,⟨some 15,none,(.op (.bsl 1 1 [(.int .i64 0)] [(0,1,(.t 14))]))⟩,⟨some 16,none,(.op (.app 1 8 (.t 13) (.t 15)))⟩,oM 5 16]))
 (.reg [oM 11 6,oD 12 11 1,oM 6 12]))))))
 (.seq (.reg [oM 17 5,oM 4 17])
 (.ret))))
def r234:List XRes:=[.t 4]
theorem res234:resolveF Tryz.prog 234 = some (x234,r234,18):=by kernel_rfl
end Go.Tidy
namespace Go.Tidy
open Go Go.Eng Go.Proofs
set_option maxRecDepth 100000
def x33:XCode:=.seq (.reg [oB 2])
 (.seq (.reg [oM 11 0,⟨some 12,none,(.call (.f 30) [(.t 11)])⟩,oM 3 12])
 (.seq (.reg [oM 13 0,⟨some 14,none,(.call (.f 77) [(.t 13)])⟩,oM 4 14])
 (.seq (.seq (.reg [oI 5 0])
 (.block 0 (.loop (.seq (.seq (.reg [oM 15 5,oM 16 0,oN 17 16,oS 18 15 17])
 (.cond (.t 18) (.skip)
 (.exit 0)))
 (.seq (.block 1 (.seq (.reg [oM 21 0,oM 22 5,oX 23 5 21 22,oA 24 5 23,⟨some 6,none,(.op (.alloc [(.int .i64 0),(.int .i64 0),(.int .i64 0),(.int .i64 0),(.int .i64 0)]))⟩,⟨none,none,(.op (.st 5 (.t 6) (.t 24)))⟩])
 (.seq (.seq (.reg [oM 25 4,oM 26 5,oX 27 1 25 26,oL 28 27,⟨some 29,none,(.op (.un .not (.t 28)))⟩,oM 30 29,xqF 31 30 false 0 6,xqL 32 30 false 31,⟨some 33,(some (30,false)),(.op (.bin .eql (.t 32) (.k (.int .i64 191))))⟩,xqM 34 30 false 33,xqF 35 34 true 3 6,xqL 36 34 true 35,⟨some 37,(some (34,true)),(.op (.bin .eql (.t 36) (.k (.int .i64 0))))⟩,⟨some 38,(some (30,false)),(.op (.pick (.t 34) (.t 37) (.k (.bool false))))⟩,xqM 39 30 false 38,xqF 40 39 true 1 6,xqL 41 39 true 40,xqF 42 39 true 2 6,xqL 43 39 true 42,⟨some 44,(some (39,true)),(.op (.bin .eql (.t 41) (.t 43)))⟩,⟨some 45,(some (30,false)),(.op (.pick (.t 39) (.t 44) (.k (.bool false))))⟩,oQ 46 30 45])
 (.cond (.t 46) (.seq (.reg [oB 2])
 (.ret))
 (.skip)))
 (.seq (.seq (.reg [oA 47 5 6,⟨some 48,none,(.call (.f 31) [(.t 47)])⟩,⟨some 49,none,(.op (.un .not (.t 48)))⟩])
 (.cond (.t 49) (.exit 1)
 (.skip)))
 (.seq (.reg [oM 50 0,oM 51 3,oM 52 5,⟨some 53,none,(.call (.f 32) [(.t 50),(.t 51),(.t 52)])⟩,oM 7 53])
 (.seq (.seq (.reg [oM 54 7,⟨some 55,none,(.op (.bin .lss (.t 54) (.k (.int .i64 0))))⟩,oM 56 55,xqM 57 56 false 7,xqM 58 56 false 5,⟨some 59,(some (56,false)),(.op (.bin .add (.t 58) (.k (.int .i64 1))))⟩,⟨some 60,(some (56,false)),(.op (.bin .eql (.t 57) (.t 59)))⟩,oQ 61 56 60])
 (.cond (.t 61) (.seq (.reg [oB 2])
 (.ret))
 (.skip)))
 (.seq (.reg [oM 63 0,oM 64 3,oM 65 5,⟨some 66,none,(.call (.f 78) [(.t 63),(.t 64),(.t 65)])⟩,oM 62 66,oT 67 0 62,oT 68 1 62,oM 8 67,oM 9 68])
 (.seq (.reg [oM 69 0,oM 70 7,oX 71 5 69 70,oA 72 5 71,⟨some 73,none,(.call (.f 31) [(.t 72)])⟩,oM 74 73,xqM 75 74 true 9,oP 76 74 75])
 (.cond (.t 76) (.seq (.drw none [oM 77 3,oM 78 8,oX 79 1 77 78,oL 80 79,oM 81 3,oM 82 5,oX 83 1 81 82,oL 84 83,⟨some 85,none,(.op (.bin .sub (.t 80) (.t 84)))⟩,⟨some 86,none,(.op (.bin .sub (.t 85) (.k (.int .i64 1))))⟩,oM 10 86])
 (.seq (.reg [oF 87 0 6,oL 88 87,oE 89 88 6,oM 90 89,xqM 91 90 true 10,⟨some 92,(some (90,true)),(.op (.bin .geq (.t 91) (.k (.int .i64 (-2147483648)))))⟩,oP 93 90 92,oM 94 93,xqM 95 94 true 10,⟨some 96,(some (94,true)),(.op (.bin .lss (.t 95) (.k (.int .i64 2147483648))))⟩,oP 97 94 96,oM 98 97,xqF 99 98 false 0 6,xqL 100 98 false 99,⟨some 101,(some (98,false)),(.op (.bin .eql (.t 100) (.k (.int .i64 5))))⟩,xqM 102 98 false 101,xqM 103 102 true 10,⟨some 104,(some (102,true)),(.op (.bin .geq (.t 103) (.k (.int .i64 (-32768)))))⟩,⟨some 105,(some (98,false)),(.op (.pick (.t 102) (.t 104) (.k (.bool false))))⟩,xqM 106 98 false 105,xqM 107 106 true 10,⟨some 108,(some (106,true)),(.op (.bin .lss (.t 107) (.k (.int .i64 32768))))⟩,⟨some 109,(some (98,false)),(.op (.pick (.t 106) (.t 108) (.k (.bool false))))⟩,oQ 110 98 109])
 (.cond (.t 110) (.seq (.reg [oB 2])
 (.ret))
 (.skip))))
 (.skip))))))))))
 (.reg [oM 19 5,oD 20 19 1,oM 5 20]))))))
 (.seq (.reg [⟨some 2,none,(.op (.mov (.k (.bool true))))⟩])
 (.ret)))))
def r33:List XRes:=[.t 2]
theorem res33:resolveF Tryz.prog 33 = some (x33,r33,111):=by kernel_rfl
def x77:XCode:=.seq (.reg [⟨some 2,none,(.op (.mov (.k (.slice none 0 0))))⟩])
 (.seq (.reg [oM 8 0,⟨some 9,none,(.call (.f 30) [(.t 8)])⟩,oM 3 9])
 (.seq (.reg [oM 10 0,oN 11 10,⟨some 12,none,(.op (.mks 1 1 [(.bool false)] (.t 11) (.t 11)))⟩,oM 4 12])
 (.seq (.reg [⟨some 13,none,(.op (.bsl 1 1 [(.int .i64 0)] [(0,1,(.k (.int .i64 0)))]))⟩,oM 5 13])
 (.seq (.seq (.reg [oI 6 0])
 (.block 0 (.loop (.seq (.seq (.reg [oM 14 6,oM 15 5,oN 16 15,oS 17 14 16])
 (.cond (.t 17) (.skip)
 (.exit 0)))
 (.seq (.block 1 (.seq (.reg [oM 20 5,oM 21 6,oX 22 1 20 21,oL 23 22,oM 7 23])
 (.seq (.seq (.reg [oM 24 7,⟨some 25,none,(.op (.bin .lss (.t 24) (.k (.int .i64 0))))⟩,oM 26 25,xqM 27 26 false 7,xqM 28 26 false 0,⟨some 29,(some (26,false)),(.op (.lenl (.t 28)))⟩,⟨some 30,(some (26,false)),(.op (.bin .geq (.t 27) (.t 29)))⟩,oQ 31 26 30,oM 32 31,xqM 33 32 false 4,xqM 34 32 false 7,⟨some 35,(some (32,false)),(.op (.iad 1 (.t 33) (.t 34)))⟩,xqL 36 32 false 35,oQ 37 32 36])
 (.cond (.t 37) (.exit 1)
 (.skip)))
 (.seq (.reg [oM 38 4,oM 39 7,oX 40 1 38 39,⟨none,none,(.op (.st 1 (.t 40) (.k (.bool true))))⟩])
 (.reg [oM 41 5,oM 42 0,oM 43 3,oM 44 7,⟨some 45,none,(.call (.f 131) [(.t 42),(.t 43),(.t 44)])⟩,⟨some 46,none,(.op (.app 1 8 (.t 41) (.t 45)))⟩,oM 5 46])))))
 (.reg [oM 18 6,oD 19 18 1,oM 6 19]))))))
 (.seq (.reg [oM 47 4,oM 2 47])
 (.ret))))))
def r77:List XRes:=[.t 2]
theorem res77:resolveF Tryz.prog 77 = some (x77,r77,48):=by kernel_rfl
def x131:XCode:=.seq (.reg [⟨some 6,none,(.op (.mov (.k (.slice none 0 0))))⟩])
 (.seq (.seq (.reg [oM 10 0,oM 11 2,oX 12 5 10 11,oA 13 5 12,⟨some 14,none,(.call (.f 121) [(.t 13)])⟩,⟨some 15,none,(.op (.bin .neq (.t 14) (.k (.int .i64 0))))⟩,oM 16 15,xqM 17 16 false 0,xqM 18 16 false 2,⟨some 19,(some (16,false)),(.op (.iad 5 (.t 17) (.t 18)))⟩,⟨some 20,(some (16,false)),(.op (.lda 5 (.t 19)))⟩,⟨some 21,(some (16,false)),(.call (.f 99) [(.t 20)])⟩,⟨some 22,(some (16,false)),(.op (.bin .eql (.t 21) (.k (.int .i64 4))))⟩,oQ 23 16 22])
 (.cond (.t 23) (.seq (.reg [⟨some 6,none,(.op (.mov (.k (.slice none 0 0))))⟩])
 (.ret))
 (.skip)))
 (.seq (.reg [oM 25 0,oM 26 2,oX 27 5 25 26,oA 28 5 27,⟨some 29,none,(.call (.f 185) [(.t 28)])⟩,oM 24 29,oT 30 0 24,oT 31 1 24,oM 7 30,oM 8 31])
 (.seq (.seq (.reg [oM 32 7,⟨some 33,none,(.op (.un .not (.t 32)))⟩])
 (.cond (.t 33) (.seq (.reg [oM 34 2,oD 35 34 1,⟨some 36,none,(.op (.bsl 1 1 [(.int .i64 0)] [(0,1,(.t 35))]))⟩,oM 6 36])
 (.ret))
 (.skip)))
 (.seq (.reg [oM 37 0,oM 38 1,oM 39 2,⟨some 40,none,(.call (.f 32) [(.t 37),(.t 38),(.t 39)])⟩,oM 9 40])
 (.seq (.block 0 (.seq (.reg [oM 42 8,oM 43 42,xqM 44 43 false 9,xqM 45 43 false 2,⟨some 46,(some (43,false)),(.op (.bin .add (.t 45) (.k (.int .i64 1))))⟩,⟨some 47,(some (43,false)),(.op (.bin .eql (.t 44) (.t 46)))⟩,oQ 48 43 47,oM 41 48])
 (.cond (.t 41) (.seq (.reg [oM 49 9,⟨some 50,none,(.op (.bsl 1 1 [(.int .i64 0)] [(0,1,(.t 49))]))⟩,oM 6 50])
 (.ret))
 (.seq (.reg [oM 52 9,oM 53 2,oD 54 53 1,oS 55 52 54,oM 51 55])
 (.cond (.t 51) (.seq (.reg [oM 56 9,oM 57 2,oD 58 57 1,⟨some 59,none,(.op (.bsl 1 2 [(.int .i64 0),(.int .i64 0)] [(0,1,(.t 56)),(1,1,(.t 58))]))⟩,oM 6 59])
 (.ret))
 (.skip))))))
 (.seq (.reg [oM 60 2,oD 61 60 1,oM 62 9,⟨some 63,none,(.op (.bsl 1 2 [(.int .i64 0),(.int .i64 0)] [(0,1,(.t 61)),(1,1,(.t 62))]))⟩,oM 6 63])
 (.ret)))))))
def r131:List XRes:=[.t 6]
theorem res131:resolveF Tryz.prog 131 = some (x131,r131,64):=by kernel_rfl
def x121:XCode:=.seq (.reg [oO 1 0,oI 2 0])
 (.seq (.reg [oF 5 0 1,oL 6 5,⟨some 7,none,(.call (.f 168) [(.t 6)])⟩,oM 3 7])
 (.seq (.seq (.reg [oM 8 3,oN 9 8,oE 10 9 0])
 (.cond (.t 10) (.seq (.reg [oI 2 20])
 (.ret))
 (.skip)))
 (.seq (.seq (.reg [oI 4 0])
 (.block 0 (.loop (.seq (.seq (.reg [oM 11 4,oM 12 3,oN 13 12,oS 14 11 13])
 (.cond (.t 14) (.skip)
 (.exit 0)))
 (.seq (.block 1 (.seq (.drw none [oM 17 3,oM 18 4,oX 19 10 17 18,oA 20 10 19,oA 21 5 1,⟨some 22,none,(.call (.f 175) [(.t 20),(.t 21)])⟩])
 (.cond (.t 22) (.seq (.reg [oI 2 0])
 (.ret))
 (.skip))))
 (.reg [oM 15 4,oD 16 15 1,oM 4 16]))))))
 (.seq (.reg [oI 2 21])
 (.ret)))))
def r121:List XRes:=[.t 2]
theorem res121:resolveF Tryz.prog 121 = some (x121,r121,23):=by kernel_rfl
def x168:XCode:=.seq (.reg [⟨some 2,none,(.op (.mov (.k (.slice none 0 0))))⟩])
 (.seq (.seq (.reg [oM 6 0,⟨some 7,none,(.op (.bin .lss (.t 6) (.k (.int .i64 0))))⟩,oM 8 7,xqM 9 8 false 0,⟨some 10,(some (8,false)),(.op (.bin .gtr (.t 9) (.k (.int .i64 255))))⟩,oQ 11 8 10])
 (.cond (.t 11) (.seq (.reg [⟨some 2,none,(.op (.mov (.k (.slice none 0 0))))⟩])
 (.ret))
 (.skip)))
 (.seq (.reg [oM 12 0,⟨some 13,none,(.op (.bin .rem (.t 12) (.k (.int .i64 8))))⟩,oM 3 13])
 (.seq (.reg [oM 14 0,⟨some 15,none,(.op (.bin .quo (.t 14) (.k (.int .i64 16))))⟩,⟨some 16,none,(.op (.bin .mul (.t 15) (.k (.int .i64 16))))⟩,oM 4 16])
 (.seq (.reg [oM 17 0,⟨some 18,none,(.op (.bin .quo (.t 17) (.k (.int .i64 8))))⟩,⟨some 19,none,(.op (.bin .rem (.t 18) (.k (.int .i64 2))))⟩,oE 20 19 1,oM 5 20])
 (.seq (.block 0 (.seq (.reg [oM 22 3,oE 23 22 4,oM 24 23,xqM 25 24 false 3,⟨some 26,(some (24,false)),(.op (.bin .eql (.t 25) (.k (.int .i64 7))))⟩,oQ 27 24 26,oM 21 27])
 (.cond (.t 21) (.seq (.reg [oM 28 3,oM 29 4,oM 30 5,⟨some 31,none,(.call (.f 224) [(.t 28),(.t 29),(.t 30)])⟩,oM 2 31])
 (.ret))
 (.seq (.reg [oM 33 3,oE 34 33 5,oM 35 34,xqM 36 35 false 3,⟨some 37,(some (35,false)),(.op (.bin .eql (.t 36) (.k (.int .i64 6))))⟩,oQ 38 35 37,oM 32 38])
 (.cond (.t 32) (.seq (.reg [oM 39 3,oM 40 4,oM 41 5,⟨some 42,none,(.call (.f 225) [(.t 39),(.t 40),(.t 41)])⟩,oM 2 42])
 (.ret))
 (.skip))))))
 (.seq (.reg [oM 43 0,⟨some 44,none,(.call (.f 226) [(.t 43)])⟩,oM 2 44])
 (.ret)))))))
def r168:List XRes:=[.t 2]
theorem res168:resolveF Tryz.prog 168 = some (x168,r168,45):=by kernel_rfl
def x224:XCode:=.seq (.reg [⟨some 6,none,(.op (.mov (.k (.slice none 0 0))))⟩])
 (.seq (.seq (.reg [oM 11 1,oE 12 11 128,oM 13 12,xqM 14 13 true 2,⟨some 15,(some (13,true)),(.op (.un .not (.t 14)))⟩,oP 16 13 15])
 (.cond (.t 16) (.seq (.reg [⟨some 17,none,(.op (.build [(.int .i64 0),(.int .i64 0),(.bool false),(.bool false),(.bool false),(.bool false),(.bool false),(.int .i64 0),(.int .i64 0),(.slice none 0 0)] [(0,1,(.k (.int .i64 2))),(1,1,(.k (.int .i64 1))),(2,1,(.k (.bool true)))]))⟩,⟨some 18,none,(.op (.bsl 10 1 [(.int .i64 0),(.int .i64 0),(.bool false),(.bool false),(.bool false),(.bool false),(.bool false),(.int .i64 0),(.int .i64 0),(.slice none 0 0)] [(0,10,(.t 17))]))⟩,oM 6 18])
 (.ret))
 (.skip)))
 (.seq (.seq (.reg [oM 19 1,oE 20 19 208,oM 21 20,xqM 22 21 true 0,⟨some 23,(some (21,true)),(.op (.bin .eql (.t 22) (.k (.int .i64 4))))⟩,xqM 24 21 true 23,xqM 25 24 false 2,⟨some 26,(some (24,false)),(.op (.un .not (.t 25)))⟩,⟨some 27,(some (21,true)),(.op (.pick (.t 24) (.k (.bool true)) (.t 26)))⟩,oP 28 21 27])
 (.cond (.t 28) (.seq (.reg [⟨some 29,none,(.op (.bsl 1 3 [(.int .i64 0),(.int .i64 0),(.int .i64 0)] [(0,1,(.k (.int .i64 16))),(1,1,(.k (.int .i64 32))),(2,1,(.k (.int .i64 64)))]))⟩,⟨some 30,none,(.op (.build [(.int .i64 0),(.int .i64 0),(.bool false),(.bool false),(.bool false),(.bool false),(.bool false),(.int .i64 0),(.int .i64 0),(.slice none 0 0)] [(0,1,(.k (.int .i64 2))),(1,1,(.k (.int .i64 1))),(2,1,(.k (.bool true))),(9,1,(.t 29))]))⟩,⟨some 31,none,(.op (.bsl 10 1 [(.int .i64 0),(.int .i64 0),(.bool false),(.bool false),(.bool false),(.bool false),(.bool false),(.int .i64 0),(.int .i64 0),(.slice none 0 0)] [(0,10,(.t 30))]))⟩,oM 6 31])
 (.ret))
 (.skip)))
 (.seq (.seq (.reg [oM 32 1,oE 33 32 128,oM 34 33,xqM 35 34 false 1,⟨some 36,(some (34,false)),(.op (.bin .gtr (.t 35) (.k (.int .i64 192))))⟩,oQ 37 34 36])
 (.cond (.t 37) (.seq (.reg [⟨some 6,none,(.op (.mov (.k (.slice none 0 0))))⟩])
 (.ret))
 (.skip)))
 (.seq (.reg [oM 38 2,oM 39 2,⟨some 40,none,(.op (.un .not (.t 39)))⟩,⟨some 41,none,(.op (.build [(.int .i64 0),(.int .i64 0),(.bool false),(.bool false),(.bool false),(.bool false),(.bool false),(.int .i64 0),(.int .i64 0),(.slice none 0 0)] [(0,1,(.k (.int .i64 3))),(1,1,(.k (.int .i64 1))),(2,1,(.k (.bool true))),(3,1,(.t 38)),(5,1,(.t 40))]))⟩,⟨some 7,none,(.op (.alloc [(.int .i64 0),(.int .i64 0),(.bool false),(.bool false),(.bool false),(.bool false),(.bool false),(.int .i64 0),(.int .i64 0),(.slice none 0 0)]))⟩,⟨none,none,(.op (.st 10 (.t 7) (.t 41)))⟩])
 (.seq (.reg [oM 42 1,oE 43 42 48,oM 44 43,xqM 45 44 false 1,⟨some 46,(some (44,false)),(.op (.bin .eql (.t 45) (.k (.int .i64 144))))⟩,oQ 47 44 46,oM 8 47])
 (.seq (.seq (.reg [oM 48 8,oM 49 48,xqM 50 49 false 1,⟨some 51,(some (49,false)),(.op (.bin .eql (.t 50) (.k (.int .i64 32))))⟩,oQ 52 49 51])
 (.cond (.t 52) (.reg [oF 53 1 7,⟨none,none,(.op (.st 1 (.t 53) (.k (.int .i64 2))))⟩])
 (.skip)))
 (.seq (.reg [oA 54 10 7,⟨some 55,none,(.op (.bsl 10 1 [(.int .i64 0),(.int .i64 0),(.bool false),(.bool false),(.bool false),(.bool false),(.bool false),(.int .i64 0),(.int .i64 0),(.slice none 0 0)] [(0,10,(.t 54))]))⟩,oM 9 55])
 (.seq (.seq (.reg [oM 56 8])
 (.cond (.t 56) (.seq (.reg [oF 57 8 7,⟨none,none,(.op (.st 1 (.t 57) (.k (.int .i64 1))))⟩])
 (.reg [oM 58 9,oA 59 10 7,⟨some 60,none,(.op (.bsl 10 1 [(.int .i64 0),(.int .i64 0),(.bool false),(.bool false),(.bool false),(.bool false),(.bool false),(.int .i64 0),(.int .i64 0),(.slice none 0 0)] [(0,10,(.t 59))]))⟩,⟨some 61,none,(.op (.app 10 64 (.t 58) (.t 60)))⟩,oM 9 61]))
 (.skip)))
 (.seq (.seq (.reg [oI 10 8])
 (.block 0 (.loop (.seq (.seq (.reg [oM 62 10,⟨some 63,none,(.op (.bin .leq (.t 62) (.k (.int .i64 32))))⟩,oM 64 63,xqM 65 64 true 1,⟨some 66,(some (64,true)),(.op (.bin .eql (.t 65) (.k (.int .i64 176))))⟩,oP 67 64 66,oM 68 67,xqM 69 68 true 2,oP 70 68 69])
 (.cond (.t 70) (.skip)
 (.exit 0)))
 (.seq (.block 1 (.seq (.reg [oM 73 10,oF 74 8 7,⟨none,none,(.op (.st 1 (.t 74) (.t 73)))⟩])
 (.seq (.reg [oM 75 10,⟨some 76,none,(.op (.bin .lss (.t 75) (.k (.int .i64 32))))⟩,oM 77 76,xqM 78 77 false 0,⟨some 79,(some (77,false)),(.op (.bin .eql (.t 78) (.k (.int .i64 7))))⟩,oQ 80 77 79])
 (.cond (.t 80) (.reg [oM 81 9,oA 82 10 7,⟨some 83,none,(.op (.bsl 10 1 [(.int .i64 0),(.int .i64 0),(.bool false),(.bool false),(.bool false),(.bool false),(.bool false),(.int .i64 0),(.int .i64 0),(.slice none 0 0)] [(0,10,(.t 82))]))⟩,⟨some 84,none,(.op (.app 10 64 (.t 81) (.t 83)))⟩,oM 9 84])
 (.skip)))))
 (.reg [oM 71 10,⟨some 72,none,(.op (.bin .mul (.k (.int .i64 2)) (.t 71)))⟩,oM 10 72]))))))
 (.seq (.reg [oM 85 9,oM 6 85])
 (.ret)))))))))))
def r224:List XRes:=[.t 6]
theorem res224:resolveF Tryz.prog 224 = some (x224,r224,86):=by kernel_rfl
def x225:XCode:=.seq (.reg [⟨some 6,none,(.op (.mov (.k (.slice none 0 0))))⟩])
 (.seq (.reg [⟨some 9,none,(.op (.build [(.int .i64 0),(.int .i64 0),(.bool false),(.bool false),(.bool false),(.bool false),(.bool false),(.int .i64 0),(.int .i64 0),(.slice none 0 0)] [(1,1,(.k (.int .i64 1)))]))⟩,⟨some 7,none,(.op (.alloc [(.int .i64 0),(.int .i64 0),(.bool false),(.bool false),(.bool false),(.bool false),(.bool false),(.int .i64 0),(.int .i64 0),(.slice none 0 0)]))⟩,⟨none,none,(.op (.st 10 (.t 7) (.t 9)))⟩])
 (.seq (.block 0 (.seq (.reg [oM 11 1,oE 12 11 0,oM 13 12,xqM 14 13 true 2,⟨some 15,(some (13,true)),(.op (.un .not (.t 14)))⟩,oP 16 13 15,oM 10 16])
 (.cond (.t 10) (.seq (.reg [oF 17 0 7,⟨none,none,(.op (.st 1 (.t 17) (.k (.int .i64 7))))⟩])
 (.seq (.reg [oM 18 0,oE 19 18 5,oF 20 4 7,⟨none,none,(.op (.st 1 (.t 20) (.t 19)))⟩])
 (.seq (.reg [oM 21 0,oE 22 21 6,oF 23 5 7,⟨none,none,(.op (.st 1 (.t 23) (.t 22)))⟩])
 (.seq (.reg [oA 24 10 7,⟨some 25,none,(.op (.bsl 10 1 [(.int .i64 0),(.int .i64 0),(.bool false),(.bool false),(.bool false),(.bool false),(.bool false),(.int .i64 0),(.int .i64 0),(.slice none 0 0)] [(0,10,(.t 24))]))⟩,oM 6 25])
 (.ret)))))
 (.seq (.reg [oM 27 1,oE 28 27 128,oM 29 28,xqM 30 29 true 0,⟨some 31,(some (29,true)),(.op (.bin .eql (.t 30) (.k (.int .i64 5))))⟩,oP 32 29 31,oM 33 32,xqM 34 33 true 2,⟨some 35,(some (33,true)),(.op (.un .not (.t 34)))⟩,oP 36 33 35,oM 26 36])
 (.cond (.t 26) (.seq (.reg [oF 37 0 7,⟨none,none,(.op (.st 1 (.t 37) (.k (.int .i64 9))))⟩])
 (.seq (.reg [oF 38 5 7,⟨none,none,(.op (.st 1 (.t 38) (.k (.bool true))))⟩])
 (.seq (.reg [oA 39 10 7,⟨some 8,none,(.op (.alloc [(.int .i64 0),(.int .i64 0),(.bool false),(.bool false),(.bool false),(.bool false),(.bool false),(.int .i64 0),(.int .i64 0),(.slice none 0 0)]))⟩,⟨none,none,(.op (.st 10 (.t 8) (.t 39)))⟩])
 (.seq (.reg [oF 40 7 8,⟨none,none,(.op (.st 1 (.t 40) (.k (.int .i64 1))))⟩])
 (.seq (.reg [oA 41 10 7,oA 42 10 8,⟨some 43,none,(.op (.bsl 10 2 [(.int .i64 0),(.int .i64 0),(.bool false),(.bool false),(.bool false),(.bool false),(.bool false),(.int .i64 0),(.int .i64 0),(.slice none 0 0),(.int .i64 0),(.int .i64 0),(.bool false),(.bool false),(.bool false),(.bool false),(.bool false),(.int .i64 0),(.int .i64 0),(.slice none 0 0)] [(0,10,(.t 41)),(10,10,(.t 42))]))⟩,oM 6 43])
 (.ret))))))
 (.seq (.reg [oM 45 1,oE 46 45 144,oM 47 46,xqM 48 47 true 0,⟨some 49,(some (47,true)),(.op (.bin .eql (.t 48) (.k (.int .i64 5))))⟩,oP 50 47 49,oM 51 50,xqM 52 51 true 2,⟨some 53,(some (51,true)),(.op (.un .not (.t 52)))⟩,oP 54 51 53,oM 44 54])
 (.cond (.t 44) (.seq (.reg [oF 55 0 7,⟨none,none,(.op (.st 1 (.t 55) (.k (.int .i64 1))))⟩])
 (.seq (.reg [oA 56 10 7,⟨some 57,none,(.op (.bsl 10 1 [(.int .i64 0),(.int .i64 0),(.bool false),(.bool false),(.bool false),(.bool false),(.bool false),(.int .i64 0),(.int .i64 0),(.slice none 0 0)] [(0,10,(.t 56))]))⟩,oM 6 57])
 (.ret)))
 (.seq (.reg [oM 59 1,⟨some 60,none,(.op (.bin .geq (.t 59) (.k (.int .i64 16))))⟩,oM 61 60,xqM 62 61 true 1,⟨some 63,(some (61,true)),(.op (.bin .leq (.t 62) (.k (.int .i64 112))))⟩,oP 64 61 63,oM 65 64,xqM 66 65 false 1,⟨some 67,(some (65,false)),(.op (.bin .geq (.t 66) (.k (.int .i64 160))))⟩,xqM 68 65 false 67,xqM 69 68 true 1,⟨some 70,(some (68,true)),(.op (.bin .leq (.t 69) (.k (.int .i64 208))))⟩,⟨some 71,(some (65,false)),(.op (.pick (.t 68) (.t 70) (.k (.bool false))))⟩,oQ 72 65 71,oM 58 72])
 (.cond (.t 58) (.seq (.reg [oM 73 2,oM 74 2,⟨some 75,none,(.op (.un .not (.t 74)))⟩,⟨some 76,none,(.op (.build [(.int .i64 0),(.int .i64 0),(.bool false),(.bool false),(.bool false),(.bool false),(.bool false),(.int .i64 0),(.int .i64 0),(.slice none 0 0)] [(0,1,(.k (.int .i64 8))),(1,1,(.k (.int .i64 1))),(2,1,(.k (.bool true))),(4,1,(.k (.bool true))),(3,1,(.t 73)),(5,1,(.t 75))]))⟩,⟨some 77,none,(.op (.bsl 10 1 [(.int .i64 0),(.int .i64 0),(.bool false),(.bool false),(.bool false),(.bool false),(.bool false),(.int .i64 0),(.int .i64 0),(.slice none 0 0)] [(0,10,(.t 76))]))⟩,oM 6 77])
 (.ret))
 (.skip))))))))))
 (.seq (.reg [⟨some 6,none,(.op (.mov (.k (.slice none 0 0))))⟩])
 (.ret))))
def r225:List XRes:=[.t 6]
theorem res225:resolveF Tryz.prog 225 = some (x225,r225,78):=by kernel_rfl
def x226:XCode:=.seq (.reg [⟨some 2,none,(.op (.mov (.k (.slice none 0 0))))⟩])
 (.seq (.reg [⟨some 6,none,(.op (.bsl 1 7 [(.int .i64 0),(.int .i64 0),(.int .i64 0),(.int .i64 0),(.int .i64 0),(.int .i64 0),(.int .i64 0)] [(0,1,(.k (.int .i64 97))),(1,1,(.k (.int .i64 105))),(2,1,(.k (.int .i64 113))),(3,1,(.k (.int .i64 121))),(4,1,(.k (.int .i64 129))),(5,1,(.k (.int .i64 137))),(6,1,(.k (.int .i64 145)))]))⟩,oM 3 6])
 (.seq (.reg [⟨some 7,none,(.op (.bsl 1 4 [(.int .i64 0),(.int .i64 0),(.int .i64 0),(.int .i64 0)] [(0,1,(.k (.int .i64 98))),(1,1,(.k (.int .i64 106))),(2,1,(.k (.int .i64 114))),(3,1,(.k (.int .i64 122)))]))⟩,oM 4 7])
 (.seq (.reg [⟨some 8,none,(.op (.bsl 1 4 [(.int .i64 0),(.int .i64 0),(.int .i64 0),(.int .i64 0)] [(0,1,(.k (.int .i64 99))),(1,1,(.k (.int .i64 107))),(2,1,(.k (.int .i64 115))),(3,1,(.k (.int .i64 123)))]))⟩,oM 5 8])
 (.seq (.block 0 (.seq (.reg [oM 10 0,oE 11 10 24,oM 9 11])
 (.cond (.t 9) (.seq (.reg [⟨some 12,none,(.op (.build [(.int .i64 0),(.int .i64 0),(.bool false),(.bool false),(.bool false),(.bool false),(.bool false),(.int .i64 0),(.int .i64 0),(.slice none 0 0)] [(0,1,(.k (.int .i64 10))),(1,1,(.k (.int .i64 1))),(2,1,(.k (.bool true))),(5,1,(.k (.bool true))),(6,1,(.k (.bool true)))]))⟩,⟨some 13,none,(.op (.build [(.int .i64 0),(.int .i64 0),(.bool false),(.bool false),(.bool false),(.bool false),(.bool false),(.int .i64 0),(.int .i64 0),(.slice none 0 0)] [(0,1,(.k (.int .i64 10))),(1,1,(.k (.int .i64 1))),(2,1,(.k (.bool true))),(5,1,(.k (.bool true))),(7,1,(.k (.int .i64 1)))]))⟩,⟨some 14,none,(.op (.bsl 10 2 [(.int .i64 0),(.int .i64 0),(.bool false),(.bool false),(.bool false),(.bool false),(.bool false),(.int .i64 0),(.int .i64 0),(.slice none 0 0),(.int .i64 0),(.int .i64 0),(.bool false),(.bool false),(.bool false),(.bool false),(.bool false),(.int .i64 0),(.int .i64 0),(.slice none 0 0)] [(0,10,(.t 12)),(10,10,(.t 13))]))⟩,oM 2 14])
 (.ret))
 (.seq (.reg [oM 16 3,oM 17 0,⟨some 18,none,(.call (.f 232) [(.t 16),(.t 17)])⟩,oM 15 18])
 (.cond (.t 15) (.seq (.reg [⟨some 19,none,(.op (.build [(.int .i64 0),(.int .i64 0),(.bool false),(.bool false),(.bool false),(.bool false),(.bool false),(.int .i64 0),(.int .i64 0),(.slice none 0 0)] [(0,1,(.k (.int .i64 4))),(1,1,(.k (.int .i64 1))),(2,1,(.k (.bool true))),(3,1,(.k (.bool true))),(4,1,(.k (.bool true)))]))⟩,⟨some 20,none,(.op (.bsl 10 1 [(.int .i64 0),(.int .i64 0),(.bool false),(.bool false),(.bool false),(.bool false),(.bool false),(.int .i64 0),(.int .i64 0),(.slice none 0 0)] [(0,10,(.t 19))]))⟩,oM 2 20])
 (.ret))
 (.seq (.reg [oM 22 4,oM 23 0,⟨some 24,none,(.call (.f 232) [(.t 22),(.t 23)])⟩,oM 21 24])
 (.cond (.t 21) (.seq (.reg [⟨some 25,none,(.op (.build [(.int .i64 0),(.int .i64 0),(.bool false),(.bool false),(.bool false),(.bool false),(.bool false),(.int .i64 0),(.int .i64 0),(.slice none 0 0)] [(0,1,(.k (.int .i64 5))),(1,1,(.k (.int .i64 1))),(2,1,(.k (.bool true))),(4,1,(.k (.bool true))),(5,1,(.k (.bool true)))]))⟩,⟨some 26,none,(.op (.bsl 10 1 [(.int .i64 0),(.int .i64 0),(.bool false),(.bool false),(.bool false),(.bool false),(.bool false),(.int .i64 0),(.int .i64 0),(.slice none 0 0)] [(0,10,(.t 25))]))⟩,oM 2 26])
 (.ret))
 (.seq (.reg [oM 28 5,oM 29 0,⟨some 30,none,(.call (.f 232) [(.t 28),(.t 29)])⟩,oM 27 30])
 (.cond (.t 27) (.seq (.reg [⟨some 31,none,(.op (.build [(.int .i64 0),(.int .i64 0),(.bool false),(.bool false),(.bool false),(.bool false),(.bool false),(.int .i64 0),(.int .i64 0),(.slice none 0 0)] [(0,1,(.k (.int .i64 5))),(1,1,(.k (.int .i64 1))),(2,1,(.k (.bool true))),(3,1,(.k (.bool true))),(4,1,(.k (.bool true)))]))⟩,⟨some 32,none,(.op (.bsl 10 1 [(.int .i64 0),(.int .i64 0),(.bool false),(.bool false),(.bool false),(.bool false),(.bool false),(.int .i64 0),(.int .i64 0),(.slice none 0 0)] [(0,10,(.t 31))]))⟩,oM 2 32])
 (.ret))
 (.seq (.reg [oM 34 0,oE 35 34 219,oM 36 35,xqM 37 36 false 0,⟨some 38,(some (36,false)),(.op (.bin .eql (.t 37) (.k (.int .i64 195))))⟩,oQ 39 36 38,oM 33 39])
 (.cond (.t 33) (.seq (.reg [⟨some 40,none,(.op (.bsl 1 10 [(.int .i64 0),(.int .i64 0),(.int .i64 0),(.int .i64 0),(.int .i64 0),(.int .i64 0),(.int .i64 0),(.int .i64 0),(.int .i64 0),(.int .i64 0)] [(0,1,(.k (.int .i64 0))),(1,1,(.k (.int .i64 64))),(2,1,(.k (.int .i64 80))),(3,1,(.k (.int .i64 160))),(4,1,(.k (.int .i64 1))),(5,1,(.k (.int .i64 65))),(6,1,(.k (.int .i64 81))),(7,1,(.k (.int .i64 161))),(8,1,(.k (.int .i64 225))),(9,1,(.k (.int .i64 241)))]))⟩,⟨some 41,none,(.op (.build [(.int .i64 0),(.int .i64 0),(.bool false),(.bool false),(.bool false),(.bool false),(.bool false),(.int .i64 0),(.int .i64 0),(.slice none 0 0)] [(0,1,(.k (.int .i64 6))),(1,1,(.k (.int .i64 3))),(2,1,(.k (.bool true))),(3,1,(.k (.bool true))),(4,1,(.k (.bool true))),(9,1,(.t 40))]))⟩,⟨some 42,none,(.op (.bsl 10 1 [(.int .i64 0),(.int .i64 0),(.bool false),(.bool false),(.bool false),(.bool false),(.bool false),(.int .i64 0),(.int .i64 0),(.slice none 0 0)] [(0,10,(.t 41))]))⟩,oM 2 42])
 (.ret))
 (.skip))))))))))))
 (.seq (.reg [⟨some 2,none,(.op (.mov (.k (.slice none 0 0))))⟩])
 (.ret))))))
def r226:List XRes:=[.t 2]
theorem res226:resolveF Tryz.prog 226 = some (x226,r226,43):=by kernel_rfl
def x232:XCode:=.seq (.reg [oB 4])
 (.seq (.seq (.reg [oI 5 0])
 (.block 0 (.loop (.seq (.seq (.reg [oM 6 5,oM 7 0,oN 8 7,oS 9 6 8])
 (.cond (.t 9) (.skip)
 (.exit 0)))
 (.seq (.block 1 (.seq (.reg [oM 12 0,oM 13 5,oX 14 1 12 13,oL 15 14,oM 16 1,⟨some 17,none,(.op (.bin .eql (.t 15) (.t 16)))⟩])
 (.cond (.t 17) (.seq (.reg [⟨some 4,none,(.op (.mov (.k (.bool true))))⟩])
 (.ret))
 (.skip))))
 (.reg [oM 10 5,oD 11 10 1,oM 5 11]))))))
 (.seq (.reg [oB 4])
 (.ret)))
def r232:List XRes:=[.t 4]
theorem res232:resolveF Tryz.prog 232 = some (x232,r232,18):=by kernel_rfl
def x175:XCode:=.seq (.reg [oO 2 0,oO 3 1,oB 4])
 (.seq (.reg [oF 7 3 3,oL 8 7,oF 9 8 2,oL 10 9,⟨some 11,none,(.op (.bin .eql (.t 8) (.t 10)))⟩,oM 5 11])
 (.seq (.seq (.reg [oF 12 4 2,oL 13 12])
 (.cond (.t 13) (.reg [oF 14 3 3,oL 15 14,⟨some 16,none,(.op (.bin .geq (.t 15) (.k (.int .i64 (-32768)))))⟩,oM 17 16,xqF 18 17 true 3 3,xqL 19 17 true 18,⟨some 20,(some (17,true)),(.op (.bin .leq (.t 19) (.k (.int .i64 32767))))⟩,oP 21 17 20,oM 5 21])
 (.skip)))
 (.seq (.reg [oF 22 4 3,oL 23 22,oE 24 23 0,oM 6 24])
 (.seq (.seq (.reg [oF 25 9 2,oL 26 25,oN 27 26,⟨some 28,none,(.op (.bin .gtr (.t 27) (.k (.int .i64 0))))⟩])
 (.cond (.t 28) (.reg [oF 29 9 2,oL 30 29,oF 31 4 3,oL 32 31,⟨some 33,none,(.call (.f 232) [(.t 30),(.t 32)])⟩,oM 6 33])
 (.skip)))
 (.seq (.seq (.reg [oF 34 5 2,oL 35 34])
 (.cond (.t 35) (.reg [oF 36 6 2,oL 37 36,oM 38 37,xqF 39 38 false 4 3,xqL 40 38 false 39,⟨some 41,(some (38,false)),(.op (.bin .geq (.t 40) (.k (.int .i64 (-2147483648)))))⟩,xqM 42 38 false 41,xqF 43 42 true 4 3,xqL 44 42 true 43,⟨some 45,(some (42,true)),(.op (.bin .leq (.t 44) (.k (.int .i64 2147483647))))⟩,⟨some 46,(some (38,false)),(.op (.pick (.t 42) (.t 45) (.k (.bool false))))⟩,oQ 47 38 46,oM 6 47])
 (.skip)))
 (.seq (.reg [oM 48 5,oM 49 48,xqM 50 49 true 6,oP 51 49 50,oM 52 51,xqF 53 52 true 2 2,xqL 54 52 true 53,xqF 55 52 true 1 3,xqL 56 52 true 55,⟨some 57,(some (52,true)),(.call (.f 233) [(.t 54),(.k (.int .i64 0)),(.t 56)])⟩,oP 58 52 57,oM 59 58,xqF 60 59 true 3 2,xqL 61 59 true 60,xqF 62 59 true 7 2,xqL 63 59 true 62,xqF 64 59 true 2 3,xqL 65 59 true 64,⟨some 66,(some (59,true)),(.call (.f 233) [(.t 61),(.t 63),(.t 65)])⟩,oP 67 59 66,oM 4 67])
 (.ret)))))))
def r175:List XRes:=[.t 4]
theorem res175:resolveF Tryz.prog 175 = some (x175,r175,68):=by kernel_rfl
def x233:XCode:=.seq (.reg [oB 6])
 (.seq (.seq (.reg [oM 7 0])
 (.cond (.t 7) (.seq (.reg [oM 8 2,⟨some 9,none,(.op (.bin .geq (.t 8) (.k (.int .i64 0))))⟩,oM 10 9,xqM 11 10 true 2,⟨some 12,(some (10,true)),(.op (.bin .leq (.t 11) (.k (.int .i64 10))))⟩,oP 13 10 12,oM 6 13])
 (.ret))
 (.skip)))
 (.seq (.reg [oM 14 2,oM 15 1,⟨some 16,none,(.op (.bin .eql (.t 14) (.t 15)))⟩,oM 6 16])
 (.ret)))
def r233:List XRes:=[.t 6]
theorem res233:resolveF Tryz.prog 233 = some (x233,r233,17):=by kernel_rfl
def x99:XCode:=.seq (.reg [oO 1 0,oI 2 0])
 (.seq (.seq (.reg [oA 3 5 1,⟨some 4,none,(.call (.f 121) [(.t 3)])⟩,⟨some 5,none,(.op (.bin .neq (.t 4) (.k (.int .i64 0))))⟩])
 (.cond (.t 5) (.seq (.reg [oI 2 0])
 (.ret))
 (.skip)))
 (.seq (.seq (.reg [oF 6 0 1,oL 7 6,⟨some 8,none,(.call (.f 168) [(.t 7)])⟩,⟨some 9,none,(.op (.iad 10 (.t 8) (.k (.int .i64 0))))⟩,oF 10 0 9,oL 11 10])
 (.block 0 (.seq (.reg [oE 13 11 7,oM 12 13])
 (.cond (.t 12) (.seq (.reg [oI 2 1])
 (.ret))
 (.seq (.reg [oE 15 11 8,oM 14 15])
 (.cond (.t 14) (.seq (.reg [oI 2 2])
 (.ret))
 (.seq (.reg [oE 17 11 1,oM 16 17])
 (.cond (.t 16) (.seq (.reg [oI 2 4])
 (.ret))
 (.seq (.reg [oE 19 11 9,oM 18 19])
 (.cond (.t 18) (.seq (.reg [oF 20 2 1,oL 21 20,oE 22 21 1])
 (.cond (.t 22) (.seq (.reg [oI 2 3])
 (.ret))
 (.skip)))
 (.skip)))))))))))
 (.seq (.reg [oI 2 0])
 (.ret))))
def r99:List XRes:=[.t 2]
theorem res99:resolveF Tryz.prog 99 = some (x99,r99,23):=by kernel_rfl
def x185:XCode:=.seq (.reg [oO 1 0,oB 2,oB 3])
 (.seq (.reg [oA 5 5 1,⟨some 6,none,(.call (.f 99) [(.t 5)])⟩,oM 4 6])
 (.seq (.reg [oM 7 4,oE 8 7 1,oM 9 8,xqM 10 9 false 4,⟨some 11,(some (9,false)),(.op (.bin .eql (.t 10) (.k (.int .i64 2))))⟩,oQ 12 9 11,oM 13 4,oE 14 13 1,oM 2 12,oM 3 14])
 (.ret)))
def r185:List XRes:=[.t 2,.t 3]
theorem res185:resolveF Tryz.prog 185 = some (x185,r185,15):=by kernel_rfl
def x32:XCode:=.seq (.reg [oI 6 0])
 (.seq (.reg [oM 8 0,oM 9 2,oX 10 5 8 9,oF 11 3 10,oL 12 11,oM 7 12])
 (.seq (.seq (.reg [oM 13 0,oM 14 2,oX 15 5 13 14,oF 16 0 15,oL 17 16,oE 18 17 6])
 (.cond (.t 18) (.reg [oM 19 0,oM 20 2,oX 21 5 19 20,oF 22 4 21,oL 23 22,oM 7 23])
 (.skip)))
 (.seq (.drw none [oM 24 1,oM 25 0,oN 26 25,⟨some 27,none,(.op (.sls 1 (.t 24) none (some (.t 26))))⟩,oM 28 1,oM 29 2,oX 30 1 28 29,oL 31 30,oD 32 31 1,oM 33 7,⟨some 34,none,(.op (.bin .add (.t 32) (.t 33)))⟩,⟨some 35,none,(.call (.f 76) [(.t 27),(.t 34)])⟩,oM 6 35])
 (.ret))))
def r32:List XRes:=[.t 6]
theorem res32:resolveF Tryz.prog 32 = some (x32,r32,36):=by kernel_rfl
def x76:XCode:=.seq (.reg [oI 4 0])
 (.seq (.reg [oM 8 0,oN 9 8,oI 5 0,oM 6 9])
 (.seq (.block 0 (.loop (.seq (.seq (.reg [oM 10 5,oM 11 6,oS 12 10 11])
 (.cond (.t 12) (.skip)
 (.exit 0)))
 (.block 1 (.seq (.reg [oM 13 5,oM 14 6,⟨some 15,none,(.op (.bin .add (.t 13) (.t 14)))⟩,⟨some 16,none,(.op (.bin .quo (.t 15) (.k (.int .i64 2))))⟩,oM 7 16])
 (.seq (.reg [oM 17 0,oM 18 7,oX 19 1 17 18,oL 20 19,oM 21 1,oS 22 20 21])
 (.cond (.t 22) (.reg [oM 23 7,oD 24 23 1,oM 5 24])
 (.reg [oM 25 7,oM 6 25]))))))))
 (.seq (.seq (.reg [oM 26 5,oM 27 0,oN 28 27,oS 29 26 28,oM 30 29,xqM 31 30 true 0,xqM 32 30 true 5,⟨some 33,(some (30,true)),(.op (.iad 1 (.t 31) (.t 32)))⟩,xqL 34 30 true 33,xqM 35 30 true 1,⟨some 36,(some (30,true)),(.op (.bin .eql (.t 34) (.t 35)))⟩,oP 37 30 36])
 (.cond (.t 37) (.seq (.reg [oM 38 5,oM 4 38])
 (.ret))
 (.skip)))
 (.seq (.reg [oI 4 (-1)])
 (.ret)))))
def r76:List XRes:=[.t 4]
theorem res76:resolveF Tryz.prog 76 = some (x76,r76,39):=by kernel_rfl
def x31:XCode:=.seq (.reg [oO 1 0,oB 2])
 (.seq (.reg [oF 3 0 1,oL 4 3,oE 5 4 5,oM 6 5,xqF 7 6 false 0 1,xqL 8 6 false 7,⟨some 9,(some (6,false)),(.op (.bin .eql (.t 8) (.k (.int .i64 6))))⟩,oQ 10 6 9,oM 2 10])
 (.ret))
def r31:List XRes:=[.t 2]
theorem res31:resolveF Tryz.prog 31 = some (x31,r31,11):=by kernel_rfl
def x78:XCode:=.seq (.reg [oI 6 0,oB 7])
 (.seq (.seq (.reg [oI 8 0])
 (.block 0 (.loop (.seq (.seq (.reg [oM 9 8,oM 10 0,oN 11 10,⟨some 12,none,(.op (.bin .leq (.t 9) (.t 11)))⟩])
 (.cond (.t 12) (.skip)
 (.exit 0)))
 (.seq (.block 1 (.seq (.seq (.reg [oM 15 0,oM 16 2,oX 17 5 15 16,oA 18 5 17,⟨some 19,none,(.call (.f 31) [(.t 18)])⟩,⟨some 20,none,(.op (.un .not (.t 19)))⟩])
 (.cond (.t 20) (.seq (.reg [oM 21 2,oM 6 21,⟨some 7,none,(.op (.mov (.k (.bool true))))⟩])
 (.ret))
 (.skip)))
 (.seq (.reg [oM 22 0,oM 23 1,oM 24 2,⟨some 25,none,(.call (.f 32) [(.t 22),(.t 23),(.t 24)])⟩,oM 2 25])
 (.seq (.reg [oM 26 2,⟨some 27,none,(.op (.bin .lss (.t 26) (.k (.int .i64 0))))⟩])
 (.cond (.t 27) (.seq (.reg [oI 6 0,oB 7])
 (.ret))
 (.skip))))))
 (.reg [oM 13 8,oD 14 13 1,oM 8 14]))))))
 (.seq (.reg [oI 6 0,oB 7])
 (.ret)))
def r78:List XRes:=[.t 6,.t 7]
theorem res78:resolveF Tryz.prog 78 = some (x78,r78,28):=by kernel_rfl
end Go.Tidy
namespace Go.Tidy
open Go Go.Eng Go.Proofs
set_option maxRecDepth 100000
def x80:XCode:=.seq (.reg [oM 5 0,oN 6 5,oM 4 6])
 (.reg [oM 7 0,oM 8 4,oM 9 4,⟨some 10,none,(.op (.cvi .u64 (.t 9)))⟩,⟨some 11,none,(.call (.f 139) [(.t 10)])⟩,oM 12 1,⟨some 13,none,(.call (.f 138) [(.t 7),(.k (.int .i64 0)),(.t 8),(.t 11),(.t 12)])⟩])
def r80:List XRes:=[]
theorem res80:resolveF Tryz.prog 80 = some (x80,r80,14):=by kernel_rfl
def x138:XCode:=.seq (.reg [⟨some 10,none,(.op (.mov (.k (.bool true))))⟩])
 (.seq (.reg [⟨some 11,none,(.op (.mov (.k (.bool true))))⟩])
 (.block 0 (.loop (.block 1 (.seq (.reg [oM 21 2,oM 22 1,⟨some 23,none,(.op (.bin .sub (.t 21) (.t 22)))⟩,oM 12 23])
 (.seq (.seq (.reg [oM 24 12,⟨some 25,none,(.op (.bin .leq (.t 24) (.k (.int .i64 12))))⟩])
 (.cond (.t 25) (.seq (.reg [oM 26 0,oM 27 1,oM 28 2,oM 29 4,⟨some 30,none,(.call (.f 191) [(.t 26),(.t 27),(.t 28),(.t 29)])⟩])
 (.ret))
 (.skip)))
 (.seq (.seq (.reg [oM 31 3,oE 32 31 0])
 (.cond (.t 32) (.seq (.reg [oM 33 0,oM 34 1,oM 35 2,oM 36 4,⟨some 37,none,(.call (.f 192) [(.t 33),(.t 34),(.t 35),(.t 36)])⟩])
 (.ret))
 (.skip)))
 (.seq (.seq (.reg [oM 38 10,⟨some 39,none,(.op (.un .not (.t 38)))⟩])
 (.cond (.t 39) (.seq (.reg [oM 40 0,oM 41 1,oM 42 2,oM 43 4,⟨some 44,none,(.call (.f 193) [(.t 40),(.t 41),(.t 42),(.t 43)])⟩])
 (.reg [oM 45 3,⟨some 46,none,(.op (.bin .sub (.t 45) (.k (.int .i64 1))))⟩,oM 3 46]))
 (.skip)))
 (.seq (.reg [oM 48 0,oM 49 1,oM 50 2,oM 51 4,⟨some 52,none,(.call (.f 194) [(.t 48),(.t 49),(.t 50),(.t 51)])⟩,oM 47 52,oT 53 0 47,oT 54 1 47,oM 13 53,oM 14 54])
 (.seq (.seq (.reg [oM 55 14,oE 56 55 2])
 (.cond (.t 56) (.seq (.reg [oM 57 0,oM 58 1,oM 59 2,oM 60 4,⟨some 61,none,(.call (.f 195) [(.t 57),(.t 58),(.t 59),(.t 60)])⟩])
 (.seq (.reg [oM 62 2,⟨some 63,none,(.op (.bin .sub (.t 62) (.k (.int .i64 1))))⟩,oM 64 13,oM 65 1,⟨some 66,none,(.op (.bin .sub (.t 64) (.t 65)))⟩,⟨some 67,none,(.op (.bin .sub (.t 63) (.t 66)))⟩,oM 13 67])
 (.reg [oI 14 1])))
 (.skip)))
 (.seq (.seq (.reg [oM 68 10,oM 69 68,xqM 70 69 true 11,oP 71 69 70,oM 72 71,xqM 73 72 true 14,⟨some 74,(some (72,true)),(.op (.bin .eql (.t 73) (.k (.int .i64 1))))⟩,oP 75 72 74])
 (.cond (.t 75) (.seq (.reg [oM 76 0,oM 77 1,oM 78 2,oM 79 4,⟨some 80,none,(.call (.f 196) [(.t 76),(.t 77),(.t 78),(.t 79)])⟩])
 (.cond (.t 80) (.ret)
 (.skip)))
 (.skip)))
 (.seq (.seq (.drw none [oM 81 1,⟨some 82,none,(.op (.bin .gtr (.t 81) (.k (.int .i64 0))))⟩,oM 83 82,xqM 84 83 true 4,xqM 85 83 true 0,xqM 86 83 true 1,⟨some 87,(some (83,true)),(.op (.bin .sub (.t 86) (.k (.int .i64 1))))⟩,⟨some 88,(some (83,true)),(.op (.iad 1 (.t 85) (.t 87)))⟩,xqL 89 83 true 88,xqM 90 83 true 0,xqM 91 83 true 13,⟨some 92,(some (83,true)),(.op (.iad 1 (.t 90) (.t 91)))⟩,xqL 93 83 true 92,⟨some 94,(some (83,true)),(.call (.t 84) [(.t 89),(.t 93)])⟩,⟨some 95,(some (83,true)),(.op (.bin .lss (.t 94) (.k (.int .i64 0))))⟩,⟨some 96,(some (83,true)),(.op (.un .not (.t 95)))⟩,oP 97 83 96])
 (.cond (.t 97) (.seq (.reg [oM 98 0,oM 99 1,oM 100 2,oM 101 13,oM 102 4,⟨some 103,none,(.call (.f 197) [(.t 98),(.t 99),(.t 100),(.t 101),(.t 102)])⟩,oM 15 103])
 (.seq (.reg [oM 104 15,oM 1 104])
 (.exit 1)))
 (.skip)))
 (.seq (.reg [oM 106 0,oM 107 1,oM 108 2,oM 109 13,oM 110 4,⟨some 111,none,(.call (.f 198) [(.t 106),(.t 107),(.t 108),(.t 109),(.t 110)])⟩,oM 105 111,oT 112 0 105,oT 113 1 105,oM 16 112,oM 17 113])
 (.seq (.reg [oM 114 17,oM 11 114])
 (.seq (.reg [oM 115 16,oM 116 1,⟨some 117,none,(.op (.bin .sub (.t 115) (.t 116)))⟩,oM 118 2,oM 119 16,⟨some 120,none,(.op (.bin .sub (.t 118) (.t 119)))⟩,oM 18 117,oM 19 120])
 (.seq (.reg [oM 121 12,⟨some 122,none,(.op (.bin .quo (.t 121) (.k (.int .i64 8))))⟩,oM 20 122])
 (.seq (.reg [oM 123 18,oM 124 19,oS 125 123 124])
 (.cond (.t 125) (.seq (.reg [oM 126 18,oM 127 20,⟨some 128,none,(.op (.bin .geq (.t 126) (.t 127)))⟩,oM 10 128])
 (.seq (.reg [oM 129 0,oM 130 1,oM 131 16,oM 132 3,oM 133 4,⟨some 134,none,(.call (.f 138) [(.t 129),(.t 130),(.t 131),(.t 132),(.t 133)])⟩])
 (.reg [oM 135 16,oD 136 135 1,oM 1 136])))
 (.seq (.reg [oM 137 19,oM 138 20,⟨some 139,none,(.op (.bin .geq (.t 137) (.t 138)))⟩,oM 10 139])
 (.seq (.reg [oM 140 0,oM 141 16,oD 142 141 1,oM 143 2,oM 144 3,oM 145 4,⟨some 146,none,(.call (.f 138) [(.t 140),(.t 142),(.t 143),(.t 144),(.t 145)])⟩])
 (.reg [oM 147 16,oM 2 147])))))))))))))))))))))
def r138:List XRes:=[]
theorem res138:resolveF Tryz.prog 138 = some (x138,r138,148):=by kernel_rfl
def x139:XCode:=.seq (.reg [oI 2 0])
 (.seq (.cond (.k (.bool false)) (.seq (.reg [oM 3 0,⟨some 4,none,(.op (.cvi .u32 (.t 3)))⟩,⟨some 5,none,(.call (.f 199) [(.t 4)])⟩,oM 2 5])
 (.ret))
 (.skip))
 (.seq (.reg [oM 6 0,⟨some 7,none,(.call (.f 200) [(.t 6)])⟩,oM 2 7])
 (.ret)))
def r139:List XRes:=[.t 2]
theorem res139:resolveF Tryz.prog 139 = some (x139,r139,8):=by kernel_rfl
def x191:XCode:=.seq (.reg [oM 10 1,oD 11 10 1,oM 8 11])
 (.block 0 (.loop (.seq (.seq (.reg [oM 12 8,oM 13 2,oS 14 12 13])
 (.cond (.t 14) (.skip)
 (.exit 0)))
 (.seq (.block 1 (.seq (.reg [oM 17 8,oM 9 17])
 (.block 2 (.loop (.seq (.seq (.drw none [oM 18 9,oM 19 1,⟨some 20,none,(.op (.bin .gtr (.t 18) (.t 19)))⟩,oM 21 20,xqM 22 21 true 3,xqM 23 21 true 0,xqM 24 21 true 9,⟨some 25,(some (21,true)),(.op (.iad 1 (.t 23) (.t 24)))⟩,xqL 26 21 true 25,xqM 27 21 true 0,xqM 28 21 true 9,⟨some 29,(some (21,true)),(.op (.bin .sub (.t 28) (.k (.int .i64 1))))⟩,⟨some 30,(some (21,true)),(.op (.iad 1 (.t 27) (.t 29)))⟩,xqL 31 21 true 30,⟨some 32,(some (21,true)),(.call (.t 22) [(.t 26),(.t 31)])⟩,⟨some 33,(some (21,true)),(.op (.bin .lss (.t 32) (.k (.int .i64 0))))⟩,oP 34 21 33])
 (.cond (.t 34) (.skip)
 (.exit 2)))
 (.seq (.block 3 (.drw none [oM 37 0,oM 38 9,oM 39 0,oM 40 9,⟨some 41,none,(.op (.bin .sub (.t 40) (.k (.int .i64 1))))⟩,oM 42 0,oM 43 9,⟨some 44,none,(.op (.bin .sub (.t 43) (.k (.int .i64 1))))⟩,oX 45 1 42 44,oL 46 45,oM 47 0,oM 48 9,oX 49 1 47 48,oL 50 49,oX 51 1 37 38,⟨none,none,(.op (.st 1 (.t 51) (.t 46)))⟩,oX 52 1 39 41,⟨none,none,(.op (.st 1 (.t 52) (.t 50)))⟩]))
 (.reg [oM 35 9,⟨some 36,none,(.op (.bin .sub (.t 35) (.k (.int .i64 1))))⟩,oM 9 36])))))))
 (.reg [oM 15 8,oD 16 15 1,oM 8 16])))))
def r191:List XRes:=[]
theorem res191:resolveF Tryz.prog 191 = some (x191,r191,53):=by kernel_rfl
def x200:XCode:=.seq (.reg [oI 2 0])
 (.seq (.seq (.reg [oM 3 0,⟨some 4,none,(.op (.bin .geq (.t 3) (.k (.int .u64 4294967296))))⟩])
 (.cond (.t 4) (.seq (.reg [oM 5 0,⟨some 6,none,(.op (.bin .shr (.t 5) (.k (.int .u64 32))))⟩,oM 0 6])
 (.reg [oI 2 32]))
 (.skip)))
 (.seq (.seq (.reg [oM 7 0,⟨some 8,none,(.op (.bin .geq (.t 7) (.k (.int .u64 65536))))⟩])
 (.cond (.t 8) (.seq (.reg [oM 9 0,⟨some 10,none,(.op (.bin .shr (.t 9) (.k (.int .u64 16))))⟩,oM 0 10])
 (.reg [oM 11 2,oD 12 11 16,oM 2 12]))
 (.skip)))
 (.seq (.seq (.reg [oM 13 0,⟨some 14,none,(.op (.bin .geq (.t 13) (.k (.int .u64 256))))⟩])
 (.cond (.t 14) (.seq (.reg [oM 15 0,⟨some 16,none,(.op (.bin .shr (.t 15) (.k (.int .u64 8))))⟩,oM 0 16])
 (.reg [oM 17 2,oD 18 17 8,oM 2 18]))
 (.skip)))
 (.seq (.reg [oM 19 2,oM 20 0,⟨some 21,none,(.op (.cvi .u8 (.t 20)))⟩,⟨some 22,none,(.op (.ixs (.k (.string ⟨#[0,1,2,2,3,3,3,3,4,4,4,4,4,4,4,4,5,5,5,5,5,5,5,5,5,5,5,5,5,5,5,5,6,6,6,6,6,6,6,6,6,6,6,6,6,6,6,6,6,6,6,6,6,6,6,6,6,6,6,6,6,6,6,6,7,7,7,7,7,7,7,7,7,7,7,7,7,7,7,7,7,7,7,7,7,7,7,7,7,7,7,7,7,7,7,7,7,7,7,7,7,7,7,7,7,7,7,7,7,7,7,7,7,7,7,7,7,7,7,7,7,7,7,7,7,7,7,7,8,8,8,8,8,8,8,8,8,8,8,8,8,8,8,8,8,8,8,8,8,8,8,8,8,8,8,8,8,8,8,8,8,8,8,8,8,8,8,8,8,8,8,8,8,8,8,8,8,8,8,8,8,8,8,8,8,8,8,8,8,8,8,8,8,8,8,8,8,8,8,8,8,8,8,8,8,8,8,8,8,8,8,8,8,8,8,8,8,8,8,8,8,8,8,8,8,8,8,8,8,8,8,8,8,8,8,8,8,8,8,8,8,8,8,8,8,8,8,8,8,8,8,8,8,8,8,8]⟩)) (.t 21)))⟩,⟨some 23,none,(.op (.cvi .i64 (.t 22)))⟩,⟨some 24,none,(.op (.bin .add (.t 19) (.t 23)))⟩,oM 2 24])
 (.ret)))))
def r200:List XRes:=[.t 2]
theorem res200:resolveF Tryz.prog 200 = some (x200,r200,25):=by kernel_rfl
end Go.Tidy
namespace Go.Tidy
open Go Go.Eng Go.Proofs
set_option maxRecDepth 100000
def pArr0:List Int:=[0x00,0x40,0x50,0xa0,0x01,0x41,0x51,0xa1,0xe1,0xf1]
def pArr1:List Int:=[0x71,0x69,0x61,0x79,0x91,0x89,0x81]
def pArr2:List Int:=[0x72,0x6a,0x62,0x7a,0x73,0x6b,0x63,0x7b]
def pArr3:List Int:=[0x00,0x10,0x20,0x30,0x40,0x50,0x60,0x70,0x90,0xa0,0xb0,0xc0]
def pArr4:List Int:=[0x10,0x20,0x30,0x40,0x50,0x60,0x70,0xa0,0xb0,0xc0,0xd0]
def arrs:Nat → Option (List AV)
 | 0=>some (pArr0.map VI)
 | 1=>some (pArr1.map VI)
 | 2=>some (pArr2.map VI)
 | 3=>some (pArr3.map VI)
 | 4=>some (pArr4.map VI)
 | _=>none
def ft:FT:=fun
 | 16=>some (x16,r16,4)
 | 20=>some (x20,r20,32)
 | 23=>some (x23,r23,65)
 | 26=>some (x26,r26,99)
 | 29=>some (x29,r29,27)
 | 30=>some (x30,r30,30)
 | 31=>some (x31,r31,11)
 | 32=>some (x32,r32,36)
 | 33=>some (x33,r33,111)
 | 34=>some (x34,r34,82)
 | 51=>some (x51,r51,26)
 | 69=>some (x69,r69,8)
 | 70=>some (x70,r70,25)
 | 72=>some (x72,r72,11)
 | 76=>some (x76,r76,39)
 | 77=>some (x77,r77,48)
 | 78=>some (x78,r78,28)
 | 79=>some (x79,r79,58)
 | 80=>some (x80,r80,14)
 | 81=>some (x81,r81,30)
 | 82=>some (x82,r82,18)
 | 83=>some (x83,r83,20)
 | 84=>some (x84,r84,20)
 | 85=>some (x85,r85,9)
 | 86=>some (x86,r86,57)
 | 87=>some (x87,r87,33)
 | 88=>some (x88,r88,138)
 | 89=>some (x89,r89,52)
 | 99=>some (x99,r99,23)
 | 107=>some (x107,r107,6)
 | 121=>some (x121,r121,23)
 | 125=>some (x125,r125,63)
 | 126=>some (x126,r126,2)
 | 127=>some (x127,r127,47)
 | 131=>some (x131,r131,64)
 | 132=>some (x132,r132,19)
 | 133=>some (x133,r133,89)
 | 134=>some (x134,r134,48)
 | 135=>some (x135,r135,29)
 | 136=>some (x136,r136,15)
 | 137=>some (x137,r137,19)
 | 138=>some (x138,r138,148)
 | 139=>some (x139,r139,8)
 | 140=>some (x140,r140,6)
 | 141=>some (x141,r141,6)
 | 142=>some (x142,r142,14)
 | 143=>some (x143,r143,144)
 | 144=>some (x144,r144,54)
 | 145=>some (x145,r145,20)
 | 146=>some (x146,r146,30)
 | 147=>some (x147,r147,14)
 | 148=>some (x148,r148,9)
 | 149=>some (x149,r149,35)
 | 150=>some (x150,r150,28)
 | 151=>some (x151,r151,12)
 | 152=>some (x152,r152,32)
 | 153=>some (x153,r153,39)
 | 154=>some (x154,r154,88)
 | 168=>some (x168,r168,45)
 | 175=>some (x175,r175,68)
 | 177=>some (x177,r177,28)
 | 178=>some (x178,r178,12)
 | 179=>some (x179,r179,54)
 | 180=>some (x180,r180,12)
 | 181=>some (x181,r181,9)
 | 182=>some (x182,r182,70)
 | 185=>some (x185,r185,15)
 | 186=>some (x186,r186,18)
 | 187=>some (x187,r187,45)
 | 188=>some (x188,r188,55)
 | 189=>some (x189,r189,14)
 | 190=>some (x190,r190,58)
 | 191=>some (x191,r191,53)
 | 200=>some (x200,r200,25)
 | 201=>some (x201,r201,53)
 | 202=>some (x202,r202,43)
 | 203=>some (x203,r203,78)
 | 204=>some (x204,r204,19)
 | 205=>some (x205,r205,18)
 | 224=>some (x224,r224,86)
 | 225=>some (x225,r225,78)
 | 226=>some (x226,r226,43)
 | 232=>some (x232,r232,18)
 | 233=>some (x233,r233,17)
 | 235=>some (x235,r235,6)
 | 236=>some (x236,r236,17)
 | 237=>some (x237,r237,6)
 | 238=>some (x238,r238,64)
 | 239=>some (x239,r239,57)
 | 240=>some (x240,r240,9)
 | 241=>some (x241,r241,39)
 | 242=>some (x242,r242,11)
 | 243=>some (x243,r243,36)
 | 244=>some (x244,r244,6)
 | 245=>some (x245,r245,8)
 | _=>none
theorem ft_ok:∀ g r,ft g = some r → resolveF Tryz.prog g = some r:=by
 intro g r h
 unfold ft at h
 split at h
 ·cases h;exact res16
 ·cases h;exact res20
 ·cases h;exact res23
 ·cases h;exact res26
 ·cases h;exact res29
 ·cases h;exact res30
 ·cases h;exact res31
 ·cases h;exact res32
 ·cases h;exact res33
 ·cases h;exact res34
 ·cases h;exact res51
 ·cases h;exact res69
 ·cases h;exact res70
 ·cases h;exact res72
 ·cases h;exact res76
 ·cases h;exact res77
 ·cases h;exact res78
 ·cases h;exact res79
 ·cases h;exact res80
 ·cases h;exact res81
 ·cases h;exact res82
 ·cases h;exact res83
 ·cases h;exact res84
 ·cases h;exact res85
 ·cases h;exact res86
 ·cases h;exact res87
 ·cases h;exact res88
 ·cases h;exact res89
 ·cases h;exact res99
 ·cases h;exact res107
 ·cases h;exact res121
 ·cases h;exact res125
 ·cases h;exact res126
 ·cases h;exact res127
 ·cases h;exact res131
 ·cases h;exact res132
 ·cases h;exact res133
 ·cases h;exact res134
 ·cases h;exact res135
 ·cases h;exact res136
 ·cases h;exact res137
 ·cases h;exact res138
 ·cases h;exact res139
 ·cases h;exact res140
 ·cases h;exact res141
 ·cases h;exact res142
 ·cases h;exact res143
 ·cases h;exact res144
 ·cases h;exact res145
 ·cases h;exact res146
 ·cases h;exact res147
 ·cases h;exact res148
 ·cases h;exact res149
 ·cases h;exact res150
 ·cases h;exact res151
 ·cases h;exact res152
 ·cases h;exact res153
 ·cases h;exact res154
 ·cases h;exact res168
 ·cases h;exact res175
 ·cases h;exact res177
 ·cases h;exact res178
 ·cases h;exact res179
 ·cases h;exact res180
 ·cases h;exact res181
 ·cases h;exact res182
 ·cases h;exact res185
 ·cases h;exact res186
 ·cases h;exact res187
 ·cases h;exact res188
 ·cases h;exact res189
 ·cases h;exact res190
 ·cases h;exact res191
 ·cases h;exact res200
 ·cases h;exact res201
 ·cases h;exact res202
 ·cases h;exact res203
 ·cases h;exact res204
 ·cases h;exact res205
 ·cases h;exact res224
 ·cases h;exact res225
 ·cases h;exact res226
 ·cases h;exact res232
 ·cases h;exact res233
 ·cases h;exact res235
 ·cases h;exact res236
 ·cases h;exact res237
 ·cases h;exact res238
 ·cases h;exact res239
 ·cases h;exact res240
 ·cases h;exact res241
 ·cases h;exact res242
 ·cases h;exact res243
 ·cases h;exact res244
 ·cases h;exact res245
 ·cases h
def pm:FuncId → List AV → Option AV
 | 203,[.v (.int .i64 a)]=>some (VI (form a))
 | 154,[.v (.int .i64 a)]=>some (.tup [(info a).av,VI (infoE a)])
 | 143,[.agg [.v (.int .i64 a),.v (.int .i64 b),.v (.int .i64 c),.v (.int .i64 d),.v (.int .i64 e)]]=>some (VI (may ⟨a,b,c,d,e⟩))
 | 145,[.agg [.v (.int .i64 a),.v (.int .i64 b),.v (.int .i64 c),.v (.int .i64 d),.v (.int .i64 e)]]=>some (VI (jumps ⟨a,b,c,d,e⟩))
 | 190,[.agg [.v (.int .i64 a),.v (.int .i64 b),.v (.int .i64 c),.v (.int .i64 d),.v (.int .i64 e)]]=>some (VB (heldB ⟨a,b,c,d,e⟩))
 | _,_=>none
theorem pm_ok {cx:Cx} (hO:On cx):PrimOk cx pm:=by
 intro g args v hv h
 unfold pm at hv
 split at hv <;> (try cases hv)
 ·exact c203 hO _ h
 ·exact c154 hO _ h
 ·exact c143 hO ⟨_,_,_,_,_⟩ h
 ·exact c145 hO ⟨_,_,_,_,_⟩ h
 ·exact c190 hO ⟨_,_,_,_,_⟩ h
theorem on_arrs {cx:Cx} (hP:cx.P = Tryz.prog) (hG:cx.G = arrs):On cx:=⟨hP,by rw [hG];rfl,by rw [hG];rfl,by rw [hG];rfl,by rw [hG];rfl,by rw [hG];rfl⟩
def isTrue:AV → Bool
 | .v (.bool b)=>b
 | _=>false
theorem isTrue_eq {x:AV} (h:isTrue x = true):x = VB true:=by
 unfold isTrue at h
 split at h
 ·rw [h]
 ·cases h
theorem run20 (w0:World) (B:Nat) (hB:B ≤ w0.heap.size) (hG:∀ (φ:Phi) g cs,arrs g = some cs → Rep w0 B φ (.rp cs) (.pointer (some ⟨g,0,none⟩))) :
 (runF ⟨Tryz.prog,w0,B,arrs,hB,hG⟩ pm ft 3000 20 [] []).map (fun p=>isTrue p.1) = some true:=by kernel_rfl
theorem c20 {cx:Cx} (hP:cx.P = Tryz.prog) (hG:cx.G = arrs):SimCall cx 20 [] [] fun r _=>r = VB true:=by
 obtain ⟨P,w0,B,G,hB,hG'⟩:=cx
 simp only at hP hG
 subst hP
 subst hG
 have h:=run20 w0 B hB hG'
 cases hr:runF ⟨Tryz.prog,w0,B,arrs,hB,hG'⟩ pm ft 3000 20 [] [] with
 | none=>rw [hr] at h;cases h
 | some p=>
   rw [hr] at h
   simp only [Option.map_some,Option.some.injEq] at h
   exact (SimCall.run rfl (pm_ok (on_arrs rfl rfl)) ft_ok 3000 (show runF ⟨Tryz.prog,w0,B,arrs,hB,hG'⟩ pm ft 3000 20 [] [] = some (p.1,p.2) from hr)).mono fun r h' e=>by rw [e.1];exact isTrue_eq h
end Go.Tidy
namespace Go.Eng
open Go.RowKit
def shA (n:Nat):AV → AV
 | .ptr id ver off=>.ptr (n + id) ver off
 | .sl id ver off len sz=>.sl (n + id) ver off len sz
 | .mp id=>.mp (n + id)
 | x=>x
def flatA:AV → Bool
 | .v _ | .ptr .. | .sl .. | .mp _ | .un | .und=>true
 | _=>false
def shO (n:Nat):AO → AO
 | .cells ver cs=>.cells ver (cs.map (shA n))
 | .froz cs=>.froz (cs.map (shA n))
 | .map c es=>.map c (es.map fun e=>(e.1,e.2.1,shA n e.2.2))
 | .fam ver f k=>.fam ver (fun j=>shA n (f j)) k
def flatO:AO → Bool
 | .cells _ cs=>cs.all flatA
 | .froz cs=>cs.all flatA
 | .map _ es=>es.all fun e=>flatA e.2.2
 | .fam ..=>false
@[simp] theorem shO_ver (n:Nat) (o:AO):(shO n o).ver = o.ver:=by cases o <;> rfl
def phiS (φ φ':Phi) (n:Nat):Phi:=fun id ver=>if id < n then φ id ver else φ' (id - n) ver
section
variable {w0:World} {B:Nat} {φ φ':Phi} {n:Nat}
theorem phiS_new (id ver:Nat):phiS φ φ' n (n + id) ver = φ' id ver:=by
 unfold phiS
 rw [if_neg (by omega),Nat.add_sub_cancel_left]
theorem Rep.shift {x:AV} {v:Value} (hf:flatA x = true) (h:Rep w0 B φ' x v):Rep w0 B (phiS φ φ' n) (shA n x) v:=by
 cases h with
 | un v=>exact .un v
 | v _=>exact .v _
 | ptr id ver off b m h=>exact .ptr _ _ _ b m (by rw [phiS_new];exact h)
 | sl id ver off len sz b m cap h h1 h2 h3 h4=>exact .sl _ _ _ _ _ b m cap (by rw [phiS_new];exact h) h1 h2 h3 h4
 | mp id b m h=>exact .mp _ b m (by rw [phiS_new];exact h)
 | und=>exact .und
 | agg=>cases hf
 | tup=>cases hf
 | ro=>cases hf
 | rp=>cases hf
 | fn=>cases hf
end
theorem RepO.shift {cx:Cx} {φ φ':Phi} {n:Nat} {w:World} {b:Nat} {m:Nat × Nat} {o:AO} (hf:flatO o = true) (h:RepO cx φ' w b m o):RepO cx (phiS φ φ' n) w b m (shO n o):=by
 cases o with
 | cells ver cs=>
   obtain ⟨h1,ccs,T,h2,h3,h4,h5,h6⟩:=h
   refine ⟨by rw [List.length_map];exact h1,ccs,T,h2,h3,by rw [List.length_map];exact h4,?_,fun k v hk=>h6 k v (by simpa using hk)⟩
   intro k x v hx hv
   rw [List.getElem?_map,Option.map_eq_some_iff] at hx
   obtain ⟨y,hy,rfl⟩:=hx
   exact (h5 k y v hy hv).shift (List.all_eq_true.1 hf y (List.mem_of_getElem? hy))
 | froz cs=>
   obtain ⟨h1,ccs,T,fz,h2,h3,h4,h5,h6⟩:=h
   refine ⟨by rw [List.length_map];exact h1,ccs,T,fz,h2,h3,by rw [List.length_map];exact h4,?_,fun k v hk=>h6 k v (by simpa using hk)⟩
   intro k x v hx hv
   rw [List.getElem?_map,Option.map_eq_some_iff] at hx
   obtain ⟨y,hy,rfl⟩:=hx
   exact (h5 k y v hy hv).shift (List.all_eq_true.1 hf y (List.mem_of_getElem? hy))
 | map c es=>
   obtain ⟨en,h1,h2,h3⟩:=h
   refine ⟨en,h1,by rw [List.length_map];exact h2,?_⟩
   intro i e x he hx
   rw [List.getElem?_map,Option.map_eq_some_iff] at hx
   obtain ⟨y,hy,rfl⟩:=hx
   obtain ⟨q1,q2,q3⟩:=h3 i e y he hy
   exact ⟨q1,q2,q3.shift (List.all_eq_true.1 hf y (List.mem_of_getElem? hy))⟩
 | fam=>cases hf
theorem SimCall.shift {cx:Cx} {f:FuncId} {args:List AV} {r0:AV} {H0:AH} (hp:∀ x ∈ args,Plain x) (hc:SimCall cx f args [] fun r h'=>r = r0 ∧ h' = H0) (hr:flatA r0 = true) (hH:H0.all flatO = true) (h:AH) :
 SimCall cx f args h fun r h'=>r = shA h.length r0 ∧ h' = h ++ H0.map (shO h.length):=by
 refine ⟨hc.1,fun φ w vs h1 h2 h3=>(hc.2 (fun _ _=>none) w vs h1 (fun k x v hx hv=>(hp x (List.mem_of_getElem? hx)).rep (h2 k x v hx hv)) ?_).mono ?_⟩
 ·refine ⟨h3.below,?_,?_,?_,?_⟩
  ·intro id o b n h;simp at h
  ·intro id id' o o' b n n' h;simp at h
  ·intro id ver r h;cases h
  ·intro id ver b n h;cases h
 ·rintro e w' ⟨v,r,h',φ',rfl,hv,hw',hst,rfl,rfl⟩
  have hold:∀ b,b < w.heap.size → w'.heap[b]? = w.heap[b]?:=fun b hb=>hst.keep b hb (fun id o n ho=>by simp at ho)
  have hnew:∀ (id:Nat) o b n,h'[id]? = some o → φ' id o.ver = some (b,n) → w.heap.size ≤ b:=by
   intro id o b n ho hb
   refine Nat.le_of_not_lt fun hlt=>?_
   obtain ⟨id0,o0,n0,q,_⟩:=hst.cur id o b n ho hb hlt
   simp at q
  have hdom:∀ id ver r,φ id ver = some r → id < h.length:=by
   intro id ver r hr
   obtain ⟨o,ho,_⟩:=h3.dom id ver r hr
   exact (List.getElem?_eq_some_iff.1 ho).1
  have hext:Ext φ (phiS φ φ' h.length):=by
   intro id ver r hr
   unfold phiS
   rw [if_pos (hdom id ver r hr)]
   exact hr
  have hsplit:∀ (id:Nat) o,(h ++ h'.map (shO h.length))[id]? = some o → (id < h.length ∧ h[id]? = some o) ∨ ∃ k o0,id = h.length + k ∧ h'[k]? = some o0 ∧ o = shO h.length o0:=by
   intro id o ho
   by_cases hlt:id < h.length
   ·rw [List.getElem?_append_left hlt] at ho
    exact .inl ⟨hlt,ho⟩
   ·rw [List.getElem?_append_right (by omega),List.getElem?_map,Option.map_eq_some_iff] at ho
    obtain ⟨o0,q1,q2⟩:=ho
    exact .inr ⟨id - h.length,o0,by omega,q1,q2.symm⟩
  have hphi:∀ id ver,id < h.length → phiS φ φ' h.length id ver = φ id ver:=fun id ver hlt=>by unfold phiS;rw [if_pos hlt]
  refine ⟨v,_,_,phiS φ φ' h.length,rfl,hv.shift hr,⟨hw'.below,?_,?_,?_,?_⟩,⟨hext,fun b hb _=>hold b hb,?_,hst.size,by simp,?_⟩,rfl,rfl⟩
  ·intro id o b m ho hb
   rcases hsplit id o ho with ⟨hlt,ho'⟩ | ⟨k,o0,rfl,ho',rfl⟩
   ·rw [hphi _ _ hlt] at hb
    exact (h3.obj id o b m ho' hb).mono hext (hold b (h3.hi _ _ _ _ hb).2)
   ·rw [shO_ver,phiS_new] at hb
    exact (hw'.obj k o0 b m ho' hb).shift (List.all_eq_true.1 hH o0 (List.mem_of_getElem? ho'))
  ·intro id id' o o' b m m' ho ho' hb hb'
   rcases hsplit id o ho with ⟨hlt,hq⟩ | ⟨k,o0,rfl,hq,rfl⟩ <;> rcases hsplit id' o' ho' with ⟨hlt',hq'⟩ | ⟨k',o0',rfl,hq',rfl⟩
   ·rw [hphi _ _ hlt] at hb
    rw [hphi _ _ hlt'] at hb'
    exact h3.inj id id' o o' b m m' hq hq' hb hb'
   ·rw [hphi _ _ hlt] at hb
    rw [shO_ver,phiS_new] at hb'
    have:=(h3.hi _ _ _ _ hb).2
    have:=hnew k' o0' b m' hq' hb'
    omega
   ·rw [hphi _ _ hlt'] at hb'
    rw [shO_ver,phiS_new] at hb
    have:=(h3.hi _ _ _ _ hb').2
    have:=hnew k o0 b m hq hb
    omega
   ·rw [shO_ver,phiS_new] at hb hb'
    rw [hw'.inj1 (by have:=List.all_eq_true.1 hH o0 (List.mem_of_getElem? hq);cases o0 <;> first | rfl | cases this) hq hq' hb hb']
    exact .inl rfl
  ·intro id ver r hr
   by_cases hlt:id < h.length
   ·rw [hphi _ _ hlt] at hr
    obtain ⟨o,q1,q2⟩:=h3.dom id ver r hr
    exact ⟨o,by rw [List.getElem?_append_left hlt];exact q1,q2⟩
   ·obtain ⟨k,rfl⟩:∃ k,id = h.length + k:=⟨id - h.length,by omega⟩
    rw [phiS_new] at hr
    obtain ⟨o,q1,q2⟩:=hw'.dom k ver r hr
    refine ⟨shO h.length o,?_,by rw [shO_ver];exact q2⟩
    rw [List.getElem?_append_right (by omega),Nat.add_sub_cancel_left,List.getElem?_map,q1]
    rfl
  ·intro id ver b m hb
   by_cases hlt:id < h.length
   ·rw [hphi _ _ hlt] at hb
    have:=h3.hi _ _ _ _ hb
    have:=hst.size
    omega
   ·obtain ⟨k,rfl⟩:∃ k,id = h.length + k:=⟨id - h.length,by omega⟩
    rw [phiS_new] at hb
    exact hw'.hi k ver b m hb
  ·intro id o b m ho hb hlt
   rcases hsplit id o ho with ⟨hl,hq⟩ | ⟨k,o0,rfl,hq,rfl⟩
   ·rw [hphi _ _ hl] at hb
    exact ⟨id,o,m,hq,hb⟩
   ·rw [shO_ver,phiS_new] at hb
    have:=hnew k o0 b m hq hb
    omega
  ·intro id hid hv ver
   rw [hphi _ _ hid]
   exact hv ver
theorem rd_shift {H0:AH} {h g:AH} {id ver:Nat} {cs:List AV} (hr:AH.rd H0 id ver = some cs):AH.rd (h ++ (H0.map (shO h.length) ++ g)) (h.length + id) ver = some (cs.map (shA h.length)):=by
 rw [rd_plus]
 unfold AH.rd at hr ⊢
 have hlt:id < H0.length:=by
  refine Nat.lt_of_not_le fun hge=>?_
  rw [List.getElem?_eq_none hge] at hr
  cases hr
 rw [List.getElem?_append_left (by simpa using hlt),List.getElem?_map]
 split at hr
 ·rename_i v c hc
  rw [hc]
  split at hr
  ·rename_i hv
   cases hr
   simp only [Option.map_some,shO]
   rw [if_pos hv]
  ·cases hr
 ·rename_i c hc
  rw [hc]
  split at hr
  ·rename_i hv
   cases hr
   simp only [Option.map_some,shO]
   rw [if_pos hv]
  ·cases hr
 ·rename_i v f k hc
  rw [hc]
  split at hr
  ·rename_i hv
   cases hr
   simp only [Option.map_some,shO]
   rw [if_pos hv,List.map_map]
   rfl
  ·cases hr
 ·cases hr
end Go.Eng
namespace Go.Tidy
open Go Go.Eng Go.Proofs
structure RowP where
 form:Int
 group:Int
 dst:Bool
 src:Bool
 off:Bool
 imm:Bool
 any:Bool
 srcIs:Int
 offIs:Int
 imms:List Int
deriving DecidableEq
def RowP.row (r:RowP) (iv:AV):List AV:=[VI r.form,VI r.group,VB r.dst,VB r.src,VB r.off,VB r.imm,VB r.any,VI r.srcIs,VI r.offIs,iv]
def arithP (cls code:Nat) (source:Bool):List RowP:=
 if code = 128 ∧ source = false then [⟨2,1,true,false,false,false,false,0,0,[]⟩]
 else if code = 208 ∧ (cls = 4 ∨ source = false) then [⟨2,1,true,false,false,false,false,0,0,[16,32,64]⟩]
 else if code = 128 ∨ 192 < code then []
 else
  let divides:=decide (code = 48 ∨ code = 144)
  let plain:RowP:=⟨3,if divides = true ∨ code = 32 then 2 else 1,true,source,false,!source,false,0,0,[]⟩
  [plain] ++ (if divides then [{ plain with offIs:=1 }] else [])
   ++ (if code = 176 ∧ source = true then [{ plain with offIs:=8 },{ plain with offIs:=16 }] ++ (if cls = 7 then [{ plain with offIs:=32 }] else []) else [])
def jumpsP (cls code:Nat) (source:Bool):List RowP:=
 if code = 0 ∧ source = false then [⟨7,1,false,false,decide (cls = 5),decide (cls = 6),false,0,0,[]⟩]
 else if code = 128 ∧ cls = 5 ∧ source = false then [⟨9,1,false,false,false,true,false,0,0,[]⟩,⟨9,1,false,false,false,true,false,1,0,[]⟩]
 else if code = 144 ∧ cls = 5 ∧ source = false then [⟨1,1,false,false,false,false,false,0,0,[]⟩]
 else if (16 ≤ code ∧ code ≤ 112) ∨ (160 ≤ code ∧ code ≤ 208) then [⟨8,1,true,source,true,!source,false,0,0,[]⟩]
 else []
def movesP (op:Nat):List RowP:=
 if op = 24 then [⟨10,1,true,false,false,true,true,0,0,[]⟩,⟨10,1,true,false,false,true,false,1,0,[]⟩]
 else if op ∈ [97,105,113,121,129,137,145] then [⟨4,1,true,true,true,false,false,0,0,[]⟩]
 else if op ∈ [98,106,114,122] then [⟨5,1,true,false,true,true,false,0,0,[]⟩]
 else if op ∈ [99,107,115,123] then [⟨5,1,true,true,true,false,false,0,0,[]⟩]
 else if op = 219 ∨ op = 195 then [⟨6,3,true,true,true,false,false,0,0,[0x00,0x40,0x50,0xa0,0x01,0x41,0x51,0xa1,0xe1,0xf1]⟩]
 else []
def rowsN (op:Nat):List RowP:=
 if op % 8 = 4 ∨ op % 8 = 7 then arithP (op % 8) (op / 16 * 16) (decide (op / 8 % 2 = 1))
 else if op % 8 = 5 ∨ op % 8 = 6 then jumpsP (op % 8) (op / 16 * 16) (decide (op / 8 % 2 = 1))
 else movesP op
def rowsP (op:Int):List RowP:=if 0 ≤ op ∧ op ≤ 255 then rowsN op.toNat else []
def allInts:List AV → Option (List Int)
 | []=>some []
 | .v (.int .i64 k) :: r=>(allInts r).map (k :: ·)
 | _=>none
def decInts (H:AH):AV → Option (List Int)
 | .v (.slice none 0 0)=>some []
 | .sl id ver 0 n 1=>(AH.rd H id ver).bind fun cs=>if n ≤ cs.length then allInts (cs.take n) else none
 | _=>none
def decRowsL (H:AH):List AV → Option (List (RowP × AV))
 | []=>some []
 | .v (.int .i64 a) :: .v (.int .i64 b) :: .v (.bool c) :: .v (.bool d) :: .v (.bool e) :: .v (.bool f) :: .v (.bool g) :: .v (.int .i64 s) :: .v (.int .i64 o) :: iv :: r=>
   (decInts H iv).bind fun is=>(decRowsL H r).map ((⟨a,b,c,d,e,f,g,s,o,is⟩,iv) :: ·)
 | _=>none
def decRows (H:AH):AV → Option (List (RowP × AV))
 | .v (.slice none 0 0)=>some []
 | .sl id ver 0 n 10=>(AH.rd H id ver).bind fun cs=>if n * 10 ≤ cs.length then decRowsL H (cs.take (n * 10)) else none
 | _=>none
def ft2:FT:=fun
 | 168=>some (x168,r168,45)
 | 224=>some (x224,r224,86)
 | 225=>some (x225,r225,78)
 | 226=>some (x226,r226,43)
 | 232=>some (x232,r232,18)
 | _=>none
theorem ft2_ok:∀ g r,ft2 g = some r → resolveF Tryz.prog g = some r:=by
 intro g r h
 unfold ft2 at h
 split at h
 ·cases h;exact res168
 ·cases h;exact res224
 ·cases h;exact res225
 ·cases h;exact res226
 ·cases h;exact res232
 ·cases h
def pm0:FuncId → List AV → Option AV:=fun _ _=>none
theorem pm0_ok {cx:Cx}:PrimOk cx pm0:=fun g args v hv=>by cases hv
noncomputable def okRun (cx:Cx) (k:Nat):Bool:=match runF cx pm0 ft2 400 168 [VI k] [] with
 | some (r,H)=>flatA r && H.all flatO && (match decRows H r with
   | some l=>decide (l.map (·.1) = rowsN k)
   | none=>false)
 | none=>false
section
variable (w0:World) (B:Nat) (hB:B ≤ w0.heap.size) (hG:∀ (φ:Phi) g cs,arrs g = some cs → Rep w0 B φ (.rp cs) (.pointer (some ⟨g,0,none⟩)))
noncomputable def okRun' (k:Nat):Bool:=okRun ⟨Tryz.prog,w0,B,arrs,hB,hG⟩ k
theorem runs168_0:[0,1,2,3,4,5,6,7].all (okRun' w0 B hB hG) = true:=by kernel_rfl
theorem runs168_1:[8,9,10,11,12,13,14,15].all (okRun' w0 B hB hG) = true:=by kernel_rfl
theorem runs168_2:[16,17,18,19,20,21,22,23].all (okRun' w0 B hB hG) = true:=by kernel_rfl
theorem runs168_3:[24,25,26,27,28,29,30,31].all (okRun' w0 B hB hG) = true:=by kernel_rfl
theorem runs168_4:[32,33,34,35,36,37,38,39].all (okRun' w0 B hB hG) = true:=by kernel_rfl
theorem runs168_5:[40,41,42,43,44,45,46,47].all (okRun' w0 B hB hG) = true:=by kernel_rfl
theorem runs168_6:[48,49,50,51,52,53,54,55].all (okRun' w0 B hB hG) = true:=by kernel_rfl
theorem runs168_7:[56,57,58,59,60,61,62,63].all (okRun' w0 B hB hG) = true:=by kernel_rfl
theorem runs168_8:[64,65,66,67,68,69,70,71].all (okRun' w0 B hB hG) = true:=by kernel_rfl
theorem runs168_9:[72,73,74,75,76,77,78,79].all (okRun' w0 B hB hG) = true:=by kernel_rfl
theorem runs168_10:[80,81,82,83,84,85,86,87].all (okRun' w0 B hB hG) = true:=by kernel_rfl
theorem runs168_11:[88,89,90,91,92,93,94,95].all (okRun' w0 B hB hG) = true:=by kernel_rfl
theorem runs168_12:[96,97,98,99,100,101,102,103].all (okRun' w0 B hB hG) = true:=by kernel_rfl
theorem runs168_13:[104,105,106,107,108,109,110,111].all (okRun' w0 B hB hG) = true:=by kernel_rfl
theorem runs168_14:[112,113,114,115,116,117,118,119].all (okRun' w0 B hB hG) = true:=by kernel_rfl
theorem runs168_15:[120,121,122,123,124,125,126,127].all (okRun' w0 B hB hG) = true:=by kernel_rfl
theorem runs168_16:[128,129,130,131,132,133,134,135].all (okRun' w0 B hB hG) = true:=by kernel_rfl
theorem runs168_17:[136,137,138,139,140,141,142,143].all (okRun' w0 B hB hG) = true:=by kernel_rfl
theorem runs168_18:[144,145,146,147,148,149,150,151].all (okRun' w0 B hB hG) = true:=by kernel_rfl
theorem runs168_19:[152,153,154,155,156,157,158,159].all (okRun' w0 B hB hG) = true:=by kernel_rfl
theorem runs168_20:[160,161,162,163,164,165,166,167].all (okRun' w0 B hB hG) = true:=by kernel_rfl
theorem runs168_21:[168,169,170,171,172,173,174,175].all (okRun' w0 B hB hG) = true:=by kernel_rfl
theorem runs168_22:[176,177,178,179,180,181,182,183].all (okRun' w0 B hB hG) = true:=by kernel_rfl
theorem runs168_23:[184,185,186,187,188,189,190,191].all (okRun' w0 B hB hG) = true:=by kernel_rfl
theorem runs168_24:[192,193,194,195,196,197,198,199].all (okRun' w0 B hB hG) = true:=by kernel_rfl
theorem runs168_25:[200,201,202,203,204,205,206,207].all (okRun' w0 B hB hG) = true:=by kernel_rfl
theorem runs168_26:[208,209,210,211,212,213,214,215].all (okRun' w0 B hB hG) = true:=by kernel_rfl
theorem runs168_27:[216,217,218,219,220,221,222,223].all (okRun' w0 B hB hG) = true:=by kernel_rfl
theorem runs168_28:[224,225,226,227,228,229,230,231].all (okRun' w0 B hB hG) = true:=by kernel_rfl
theorem runs168_29:[232,233,234,235,236,237,238,239].all (okRun' w0 B hB hG) = true:=by kernel_rfl
theorem runs168_30:[240,241,242,243,244,245,246,247].all (okRun' w0 B hB hG) = true:=by kernel_rfl
theorem runs168_31:[248,249,250,251,252,253,254,255].all (okRun' w0 B hB hG) = true:=by kernel_rfl
theorem runs168 (k:Nat) (hk:k < 256):okRun ⟨Tryz.prog,w0,B,arrs,hB,hG⟩ k = true:=by
 have key:∀ {l:List Nat},l.all (okRun' w0 B hB hG) = true → k ∈ l → okRun ⟨Tryz.prog,w0,B,arrs,hB,hG⟩ k = true:=fun h hm=>List.all_eq_true.1 h k hm
 rcases (by omega:(0 ≤ k ∧ k < 8) ∨ (8 ≤ k ∧ k < 16) ∨ (16 ≤ k ∧ k < 24) ∨ (24 ≤ k ∧ k < 32) ∨ (32 ≤ k ∧ k < 40) ∨ (40 ≤ k ∧ k < 48) ∨ (48 ≤ k ∧ k < 56) ∨ (56 ≤ k ∧ k < 64) ∨ (64 ≤ k ∧ k < 72) ∨ (72 ≤ k ∧ k < 80) ∨ (80 ≤ k ∧ k < 88) ∨ (88 ≤ k ∧ k < 96) ∨ (96 ≤ k ∧ k < 104) ∨ (104 ≤ k ∧ k < 112) ∨ (112 ≤ k ∧ k < 120) ∨ (120 ≤ k ∧ k < 128) ∨ (128 ≤ k ∧ k < 136) ∨ (136 ≤ k ∧ k < 144) ∨ (144 ≤ k ∧ k < 152) ∨ (152 ≤ k ∧ k < 160) ∨ (160 ≤ k ∧ k < 168) ∨ (168 ≤ k ∧ k < 176) ∨ (176 ≤ k ∧ k < 184) ∨ (184 ≤ k ∧ k < 192) ∨ (192 ≤ k ∧ k < 200) ∨ (200 ≤ k ∧ k < 208) ∨ (208 ≤ k ∧ k < 216) ∨ (216 ≤ k ∧ k < 224) ∨ (224 ≤ k ∧ k < 232) ∨ (232 ≤ k ∧ k < 240) ∨ (240 ≤ k ∧ k < 248) ∨ (248 ≤ k ∧ k < 256)) with h | h | h | h | h | h | h | h | h | h | h | h | h | h | h | h | h | h | h | h | h | h | h | h | h | h | h | h | h | h | h | h
 ·exact key (runs168_0 w0 B hB hG) (by simp only [List.mem_cons,List.not_mem_nil];omega)
 ·exact key (runs168_1 w0 B hB hG) (by simp only [List.mem_cons,List.not_mem_nil];omega)
 ·exact key (runs168_2 w0 B hB hG) (by simp only [List.mem_cons,List.not_mem_nil];omega)
 ·exact key (runs168_3 w0 B hB hG) (by simp only [List.mem_cons,List.not_mem_nil];omega)
 ·exact key (runs168_4 w0 B hB hG) (by simp only [List.mem_cons,List.not_mem_nil];omega)
 ·exact key (runs168_5 w0 B hB hG) (by simp only [List.mem_cons,List.not_mem_nil];omega)
 ·exact key (runs168_6 w0 B hB hG) (by simp only [List.mem_cons,List.not_mem_nil];omega)
 ·exact key (runs168_7 w0 B hB hG) (by simp only [List.mem_cons,List.not_mem_nil];omega)
 ·exact key (runs168_8 w0 B hB hG) (by simp only [List.mem_cons,List.not_mem_nil];omega)
 ·exact key (runs168_9 w0 B hB hG) (by simp only [List.mem_cons,List.not_mem_nil];omega)
 ·exact key (runs168_10 w0 B hB hG) (by simp only [List.mem_cons,List.not_mem_nil];omega)
 ·exact key (runs168_11 w0 B hB hG) (by simp only [List.mem_cons,List.not_mem_nil];omega)
 ·exact key (runs168_12 w0 B hB hG) (by simp only [List.mem_cons,List.not_mem_nil];omega)
 ·exact key (runs168_13 w0 B hB hG) (by simp only [List.mem_cons,List.not_mem_nil];omega)
 ·exact key (runs168_14 w0 B hB hG) (by simp only [List.mem_cons,List.not_mem_nil];omega)
 ·exact key (runs168_15 w0 B hB hG) (by simp only [List.mem_cons,List.not_mem_nil];omega)
 ·exact key (runs168_16 w0 B hB hG) (by simp only [List.mem_cons,List.not_mem_nil];omega)
 ·exact key (runs168_17 w0 B hB hG) (by simp only [List.mem_cons,List.not_mem_nil];omega)
 ·exact key (runs168_18 w0 B hB hG) (by simp only [List.mem_cons,List.not_mem_nil];omega)
 ·exact key (runs168_19 w0 B hB hG) (by simp only [List.mem_cons,List.not_mem_nil];omega)
 ·exact key (runs168_20 w0 B hB hG) (by simp only [List.mem_cons,List.not_mem_nil];omega)
 ·exact key (runs168_21 w0 B hB hG) (by simp only [List.mem_cons,List.not_mem_nil];omega)
 ·exact key (runs168_22 w0 B hB hG) (by simp only [List.mem_cons,List.not_mem_nil];omega)
 ·exact key (runs168_23 w0 B hB hG) (by simp only [List.mem_cons,List.not_mem_nil];omega)
 ·exact key (runs168_24 w0 B hB hG) (by simp only [List.mem_cons,List.not_mem_nil];omega)
 ·exact key (runs168_25 w0 B hB hG) (by simp only [List.mem_cons,List.not_mem_nil];omega)
 ·exact key (runs168_26 w0 B hB hG) (by simp only [List.mem_cons,List.not_mem_nil];omega)
 ·exact key (runs168_27 w0 B hB hG) (by simp only [List.mem_cons,List.not_mem_nil];omega)
 ·exact key (runs168_28 w0 B hB hG) (by simp only [List.mem_cons,List.not_mem_nil];omega)
 ·exact key (runs168_29 w0 B hB hG) (by simp only [List.mem_cons,List.not_mem_nil];omega)
 ·exact key (runs168_30 w0 B hB hG) (by simp only [List.mem_cons,List.not_mem_nil];omega)
 ·exact key (runs168_31 w0 B hB hG) (by simp only [List.mem_cons,List.not_mem_nil];omega)
end
end Go.Tidy
namespace Go.Tidy
open Go Go.Eng Go.Proofs
theorem allInts_spec:∀ {cs:List AV} {is:List Int},allInts cs = some is → cs = is.map VI
 | [],is,h=>by simp [allInts] at h;subst h;rfl
 | x :: r,is,h=>by
   unfold allInts at h
   split at h
   ·rename_i h1
    cases h1
   ·rename_i k r' h1
    cases h1
    simp only [Option.map_eq_some_iff] at h
    obtain ⟨js,h2,rfl⟩:=h
    rw [allInts_spec h2]
    rfl
   ·cases h
theorem decInts_ok {H0 h:AH} {iv:AV} {is:List Int} (hd:decInts H0 iv = some is) (g:AH):SlI (h ++ (H0.map (shO h.length) ++ g)) (shA h.length iv) is:=by
 unfold decInts at hd
 split at hd
 ·cases hd
  exact ⟨rfl,fun i x hx=>by simp at hx⟩
 ·rename_i id ver n
  simp only [Option.bind_eq_some_iff] at hd
  obtain ⟨cs,h1,h2⟩:=hd
  split at h2
  ·rename_i hn
   have h3:=allInts_spec h2
   have hl:is.length = n:=by
    have:=congrArg List.length h3
    simp at this
    omega
   refine ⟨by rw [hl];rfl,fun i x hx=>?_⟩
   have hi:i < n:=by have:=(List.getElem?_eq_some_iff.1 hx).1;omega
   refine ⟨.ptr (h.length + id) ver (0 + (i:Int).toNat * 1),?_,?_⟩
   ·show xIad 1 (.sl (h.length + id) ver 0 n 1) (VI i) = _
    simp only [go_sem]
    rw [if_pos ⟨by omega,by omega⟩]
   ·simp only [xLd1,rd_shift h1,Option.bind_some]
    have h4:cs[i]? = some (VI x):=by
     have:=congrArg (·[i]?) h3
     simp only [List.getElem?_take,List.getElem?_map,hx,if_pos hi] at this
     exact this
    rw [show 0 + (i:Int).toNat * 1 = i by omega,List.getElem?_map,h4]
    rfl
  ·cases h2
 ·cases hd
theorem decRowsL_spec {H:AH}:∀ {cs:List AV} {l:List (RowP × AV)},decRowsL H cs = some l → cs = l.flatMap (fun x=>x.1.row x.2) ∧ ∀ x ∈ l,decInts H x.2 = some x.1.imms:=by
 intro cs
 induction hn:cs.length using Nat.strongRecOn generalizing cs with
 | ind n ih=>
 intro l h
 unfold decRowsL at h
 split at h
 ·cases h
  exact ⟨rfl,fun x hx=>by cases hx⟩
 ·rename_i a b c d e f g s o iv r
  simp only [Option.bind_eq_some_iff,Option.map_eq_some_iff] at h
  obtain ⟨is,h1,l',h2,rfl⟩:=h
  obtain ⟨h3,h4⟩:=ih r.length (by rw [← hn];simp only [List.length_cons];omega) rfl h2
  refine ⟨by rw [List.flatMap_cons,← h3];rfl,?_⟩
  intro x hx
  rcases List.mem_cons.1 hx with rfl | hx
  ·exact h1
  ·exact h4 x hx
 ·cases h
def RowsR (h:AH) (v:AV) (rs:List RowP):Prop:=
 ∃ l:List (RowP × AV),rs = l.map (·.1) ∧ (∀ x ∈ l,∀ g,SlI (h ++ g) x.2 x.1.imms) ∧ ((v = nilS ∧ l = []) ∨ SlT (fun x:RowP × AV=>x.1.row x.2) 10 h v l)
theorem decRows_ok {H0 h:AH} {v:AV} {l:List (RowP × AV)} (hd:decRows H0 v = some l):RowsR (h ++ H0.map (shO h.length)) (shA h.length v) (l.map (·.1)):=by
 unfold decRows at hd
 split at hd
 ·cases hd
  exact ⟨[],rfl,(fun x hx=>by cases hx),.inl ⟨rfl,rfl⟩⟩
 ·rename_i id ver n
  simp only [Option.bind_eq_some_iff] at hd
  obtain ⟨cs,h1,h2⟩:=hd
  split at h2
  ·rename_i hn
   obtain ⟨h3,h4⟩:=decRowsL_spec h2
   have hrow:∀ x:RowP × AV,(x.1.row x.2).map (shA h.length) = x.1.row (shA h.length x.2):=fun x=>rfl
   have hl:l.length = n:=by
    have:=congrArg List.length h3
    rw [cells_len (f:=fun x:RowP × AV=>x.1.row x.2) (sz:=10) (fun x=>rfl)] at this
    simp at this
    omega
   refine ⟨l.map fun x=>(x.1,shA h.length x.2),by rw [List.map_map];rfl,?_,.inr ?_⟩
   ·intro x hx g
    obtain ⟨y,hy,rfl⟩:=List.mem_map.1 hx
    have:=decInts_ok (h:=h) (h4 y hy) g
    rw [List.append_assoc]
    exact this
   ·have hll:(l.map fun x:RowP × AV=>(x.1,shA h.length x.2)).length = n:=by rw [List.length_map,hl]
    rw [← hl,show l.length = (l.map fun x:RowP × AV=>(x.1,shA h.length x.2)).length by rw [List.length_map]]
    refine .sl (h.length + id) ver 0 (cs.map (shA h.length)) _ (fun g=>?_) ?_
    ·rw [List.append_assoc]
     exact rd_shift h1
    ·rw [List.drop_zero,hll,← List.map_take,h3,List.map_flatMap,List.flatMap_map]
     rfl
  ·cases h2
 ·cases hd
set_option maxRecDepth 100000 in
theorem c168 {cx:Cx} (hP:cx.P = Tryz.prog) (hG:cx.G = arrs) (op:Int) (h:AH):SimCall cx 168 [VI op] h fun r h'=>∃ g,h' = h ++ g ∧ RowsR (h ++ g) r (rowsP op):=by
 by_cases hop:0 ≤ op ∧ op ≤ 255
 ·obtain ⟨P,w0,B,G,hB,hG'⟩:=cx
  simp only at hP hG
  subst hP
  subst hG
  obtain ⟨n,rfl⟩:∃ n:Nat,op = n:=⟨op.toNat,by omega⟩
  have h1:=runs168 w0 B hB hG' n (by omega)
  unfold okRun at h1
  split at h1
  ·rename_i r H hr
   simp only [Bool.and_eq_true] at h1
   obtain ⟨⟨h2,h3⟩,h4⟩:=h1
   split at h4
   ·rename_i l hl
    have hc:=SimCall.shift (fun x hx=>by rw [List.mem_singleton.1 hx];exact plain_v _) (SimCall.run rfl pm0_ok ft2_ok 400 hr) h2 h3 h
    refine hc.mono ?_
    rintro r' h' ⟨rfl,rfl⟩
    refine ⟨_,rfl,?_⟩
    have:=decRows_ok (h:=h) hl
    rw [of_decide_eq_true h4] at this
    unfold rowsP
    rw [if_pos hop]
    exact this
   ·cases h4
  ·cases h1
 ·refine SimCall.by hP res168 ?_
  unfold x168 r168
  have hlt:(decide (op < 0) || decide (255 < op)) = true:=by
   simp
   omega
  repeat' first
   | ((with_reducible show SemL _ _ _ _);refine SemL.of ?_)
   | simp (maxSteps:=1000000) only [go_sem,hlt]
   | ((with_reducible show wl _ (XI.mk _ (some _) (XBody.op _) :: _) _ _);refine wl_optF rfl (fun e2=>by ((try simp only [Bool.and_eq_true] at e2);first | (simp (maxSteps:=1000000) only [e2,go_sem,hlt];first | done | rfl))) ?_)
  refine ⟨[],by simp,[],?_,(fun x hx=>by cases hx),.inl ⟨rfl,rfl⟩⟩
  unfold rowsP
  rw [if_neg hop]
  rfl
end Go.Tidy
namespace Go.Tidy
open Go Go.Eng Go.Proofs
variable {cx:Cx}
theorem c232 (hP:cx.P = Tryz.prog) (v:AV) (xs:List Int) (x:Int) (h:AH) (hv:∀ g,SlI (h ++ g) v xs) (hl:xs.length < 1099511627776):SimCall cx 232 [v,VI x] h fun r h'=>h' = h ∧ r = VB (decide (x ∈ xs)):=by
 have hlen:=(hv []).1
 refine SimCall.gc ?_
 refine SimCall.by hP res232 ?_
 unfold x232 r232
 repeat' first
  | simp (maxSteps:=1000000) only [go_sem]
 refine SimLoop.inv [0,0,3] (fun k s=>∃ (i:Nat),k = xs.length - i ∧ i ≤ xs.length ∧ (x ∈ xs ↔ x ∈ xs.drop i) ∧
  s = ⟨[v,VI x,.un,.un,.un,VI i,.un,.un,.un,.un,.un,.un,.un,.un,.un,.un,.un,.un],h⟩) ?_ xs.length ?_
 rotate_left
 ·exact ⟨0,rfl,Nat.zero_le _,by rw [List.drop_zero],by simp only [go_sem];rfl⟩
 rintro k s ⟨i,rfl,hi,hall,rfl⟩
 by_cases hlt:i < xs.length
 ·obtain ⟨p,hp1,hp2⟩:=(hv []).2 i _ (List.getElem?_eq_getElem hlt)
  rw [List.append_nil] at hp2
  have hlt':((i:Int) < xs.length):=by omega
  have hw:=wrap_succ hlt (by omega)
  rw [List.drop_eq_getElem_cons hlt,List.mem_cons] at hall
  repeat' first
   | ((with_reducible show wx _ (XCode.cond _ _ _) _ _);refine wx_if rfl (fun _=>?_) (fun _=>?_))
   | simp (maxSteps:=1000000) only [go_sem,hlen,hp1,hp2,hlt',hw]
  ·rename_i e
   refine ⟨more_nil,plain_v _,?_⟩
   have:x ∈ xs:=hall.2 (.inl (by simp at e;exact e.symm))
   rw [decide_eq_true this]
  ·rename_i e
   refine ⟨xs.length - (i + 1),by omega,i + 1,rfl,by omega,?_,rfl⟩
   rw [hall]
   have:¬ x = xs[i]:=fun q=>by simp at e;exact e q.symm
   simp [this]
 ·have hlt':¬ ((i:Int) < xs.length):=by omega
  rw [List.drop_eq_nil_of_le (by omega)] at hall
  repeat' first
   | simp (maxSteps:=1000000) only [go_sem,hlen,hlt']
  refine ⟨more_nil,plain_v _,?_⟩
  have:¬ x ∈ xs:=fun q=>by have:=hall.1 q;simp at this
  rw [decide_eq_false this]
def regR (used:Bool) (is x:Int):Bool:=if used then decide (0 ≤ x) && decide (x ≤ 10) else decide (x = is)
theorem c233 (hP:cx.P = Tryz.prog) (u:Bool) (is x:Int) (h:AH):SimCall cx 233 [VB u,VI is,VI x] h fun r h'=>h' = h ∧ r = VB (regR u is x):=by
 refine SimCall.gc ?_
 refine SimCall.by hP res233 ?_
 unfold x233 r233
 cases u
 ·skip
  repeat' first
   | simp (maxSteps:=1000000) only [go_sem]
  all_goals first | exact ⟨more_one,plain_v _⟩ | exact ⟨more_nil,plain_v _⟩ | refine ⟨by first | exact more_one | exact more_nil,by first | exact plain_v _ | exact plain_tup (by simp [Plain.v]),?_⟩
  all_goals try simp only [decide_eq_true_eq,decide_eq_false_iff_not,Bool.not_eq_true',Bool.not_eq_false',AV.v.injEq,AV.tup.injEq,List.cons.injEq,Value.int.injEq,Value.bool.injEq,true_and,and_true] at *
  all_goals unfold regR
  all_goals (try simp only [band] at *)
  all_goals (try simp_all)
  all_goals grind
 ·skip
  repeat' first
   | ((with_reducible show SemL _ _ _ _);refine SemL.of ?_)
   | simp (maxSteps:=1000000) only [go_sem]
   | ((with_reducible show wl _ (XI.mk _ (some _) (XBody.op _) :: _) _ _);refine wl_optT rfl (fun e2=>by ((try simp only [Bool.and_eq_true] at e2);first | (simp (maxSteps:=1000000) only [e2,go_sem];first | done | rfl))) ?_)
  all_goals first | exact ⟨more_one,plain_v _⟩ | exact ⟨more_nil,plain_v _⟩ | refine ⟨by first | exact more_one | exact more_nil,by first | exact plain_v _ | exact plain_tup (by simp [Plain.v]),?_⟩
  all_goals try simp only [decide_eq_true_eq,decide_eq_false_iff_not,Bool.not_eq_true',Bool.not_eq_false',AV.v.injEq,AV.tup.injEq,List.cons.injEq,Value.int.injEq,Value.bool.injEq,true_and,and_true] at *
  all_goals unfold regR
  all_goals (try simp only [band] at *)
  all_goals (try simp_all)
  all_goals grind
def offR (r:RowP) (x:Int):Bool:=if r.off then decide (-32768 ≤ x) && decide (x ≤ 32767) else decide (x = r.offIs)
def immR (r:RowP) (x:Int):Bool:=if r.imm then r.any || (decide (-2147483648 ≤ x) && decide (x ≤ 2147483647)) else if 0 < r.imms.length then decide (x ∈ r.imms) else decide (x = 0)
def fitR (r:RowP) (i:Ins):Bool:=offR r i.off && immR r i.imm && regR r.dst 0 i.dst && regR r.src r.srcIs i.src
set_option maxRecDepth 100000 in
set_option maxHeartbeats 4000000 in
theorem c175 (hP:cx.P = Tryz.prog) (r:RowP) (iv:AV) (i:Ins) (h:AH) (hc:iv.cell = true) (hv:∀ g,SlI (h ++ g) iv r.imms) (hl:r.imms.length < 1099511627776) :
 SimCall cx 175 [.agg (r.row iv),i.av] h fun v h'=>h' = h ∧ v = VB (fitR r i):=by
 have hlen:=(hv []).1
 have hv2:∀ (a:AH) (g:AH),SlI ((h ++ a) ++ g) iv r.imms:=fun a g=>by rw [List.append_assoc];exact hv _
 refine SimCall.gc ?_
 refine SimCall.by hP res175 ?_
 unfold x175 r175
 unfold fitR
 obtain ⟨form,group,dst,src,off,imm,any,srcIs,offIs,imms⟩:=r
 simp only at hlen hl hv hv2
 have hpos:decide ((0:Int) < imms.length) = decide (0 < imms.length):=by simp
 repeat' first
  | ((with_reducible show wx _ (XCode.cond _ _ _) _ _);refine wx_if rfl (fun _=>?_) (fun _=>?_))
  | ((with_reducible show SemL _ _ _ _);refine SemL.of ?_)
  | ((with_reducible show SimCall _ 232 _ _ _);refine (c232 hP iv imms _ _ (hv2 _) hl).mono ?_;rintro r h' ⟨rfl,rfl⟩)
  | simp (maxSteps:=1000000) only [go_sem,hc,hlen,RowP.row,hpos]
  | ((with_reducible show wl _ (XI.mk _ (some _) (XBody.op _) :: _) _ _);first | refine wl_optT rfl (fun e2=>by ((try simp only [Bool.and_eq_true] at e2);first | (simp (maxSteps:=1000000) only [e2,go_sem,hc,hlen,RowP.row,hpos];first | done | rfl))) ?_ | refine wl_optF rfl (fun e2=>by ((try simp only [Bool.and_eq_true] at e2);first | (simp (maxSteps:=1000000) only [e2,go_sem,hc,hlen,RowP.row,hpos];first | done | rfl))) ?_ | refine wl_opt2T rfl (fun e1 e2=>by ((try simp only [Bool.and_eq_true] at e1);first | (simp (maxSteps:=1000000) only [e1,e2,go_sem,hc,hlen,RowP.row,hpos];first | done | rfl))) ?_)
  | ((with_reducible show wl _ (XI.mk _ (some _) (XBody.call (XO.f 233) _) :: _) _ _);refine wl_optcT rfl rfl (fun e2=>by simp (maxSteps:=1000000) only [e2,go_sem,hc,hlen,RowP.row,hpos];exact (c233 hP _ _ _ _)) ?_)
 all_goals refine ⟨more_one,plain_v _,?_⟩
 all_goals unfold offR immR
 all_goals simp_all
theorem len_cell {v:AV} {n:Int} (h:xLenL v = some (VI n)):v.cell = true:=by
 unfold xLenL at h
 split at h <;> first | rfl | cases h
def mayR (i:Ins):Int:=if (rowsP i.op).length = 0 then 20 else if (rowsP i.op).any (fun r=>fitR r i) then 0 else 21
theorem imms_short:∀ n,n < 256 → ∀ r ∈ rowsN n,r.imms.length ≤ 10:=by decide +kernel
theorem rows_short {op:Int}:∀ r ∈ rowsP op,r.imms.length ≤ 10:=by
 intro r hr
 unfold rowsP at hr
 split at hr
 ·exact imms_short op.toNat (by omega) r hr
 ·cases hr
theorem rows_len:∀ n,n < 256 → (rowsN n).length ≤ 8:=by decide +kernel
theorem rowsP_len (op:Int):(rowsP op).length ≤ 8:=by
 unfold rowsP
 split
 ·exact rows_len op.toNat (by omega)
 ·exact Nat.zero_le _
theorem row_len (x:RowP × AV):(x.1.row x.2).length = 10:=rfl
set_option maxRecDepth 100000 in
set_option maxHeartbeats 2000000 in
theorem c121 (hP:cx.P = Tryz.prog) (hG:cx.G = arrs) (i:Ins) (h:AH):SimCall cx 121 [i.av] h fun r h'=>h' = h ∧ r = VI (mayR i):=by
 refine SimCall.gc ?_
 refine SimCall.by hP res121 ?_
 unfold x121 r121
 repeat' first
  | simp (maxSteps:=1000000) only [go_sem]
 refine (c168 hP hG i.op _).mono ?_
 rintro r h' ⟨g,rfl,l,hl,hims,⟨rfl,rfl⟩ | hs⟩
 ·have:mayR i = 20:=by unfold mayR;rw [hl];rfl
  rw [this]
  have hz:((0:Nat):Int) = 0:=rfl
  repeat' first
   | simp (maxSteps:=1000000) only [go_sem,hz]
  exact ⟨more_one,plain_v _⟩
 ·have hsh:∀ x ∈ l,x.1.imms.length < 1099511627776:=by
   intro x hx
   have:=rows_short (op:=i.op) x.1 (by rw [hl];exact List.mem_map_of_mem hx)
   omega
  have hll:l.length ≤ 8:=by have:=rowsP_len i.op;rw [hl,List.length_map] at this;exact this
  simp only [List.append_assoc,List.cons_append,List.nil_append] at hs hims
  have hlen:=hs.len
  by_cases h0:l.length = 0
  ·have h1:((l.length:Int) = 0):=by omega
   have:mayR i = 20:=by unfold mayR;rw [hl,if_pos (by rw [List.length_map];exact h0)]
   rw [this]
   repeat' first
    | simp (maxSteps:=1000000) only [go_sem,hlen,h1]
   exact ⟨more_one,plain_v _⟩
  have h1:¬ ((l.length:Int) = 0):=by omega
  have hmay:mayR i = if l.any (fun x=>fitR x.1 i) then 0 else 21:=by
   unfold mayR
   rw [hl,if_neg (by rw [List.length_map];exact h0),List.any_map]
   rfl
  rw [hmay]
  repeat' first
   | simp (maxSteps:=1000000) only [go_sem,hlen,h1]
  refine SimLoop.inv [1,1,0] (fun k s=>∃ (j:Nat),k = l.length - j ∧ j ≤ l.length ∧ l.any (fun x=>fitR x.1 i) = (l.drop j).any (fun x=>fitR x.1 i) ∧
   s = ⟨[.un,.ptr h.length 0 0,.un,r,VI j,.un,.un,.un,.un,.un,.un,.un,.un,.un,.un,.un,.un,.un,.un,.un,.un,.un,.un],h ++ (.cells 0 [VI i.op,VI i.dst,VI i.src,VI i.off,VI i.imm] :: g)⟩) ?_ l.length ?_
  rotate_left
  ·exact ⟨0,rfl,Nat.zero_le _,by rw [List.drop_zero],by simp only [go_sem];rfl⟩
  rintro k s ⟨j,rfl,hj,hall,rfl⟩
  by_cases hlt:j < l.length
  ·obtain ⟨p,hp1,hp2,hp3,_⟩:=hs.get row_len (by decide) (List.getElem?_eq_getElem hlt)
   have hlt':((j:Int) < l.length):=by omega
   have hw:=wrap_succ hlt (by omega)
   rw [List.drop_eq_getElem_cons hlt,List.any_cons] at hall
   have hx:=hims l[j] (List.getElem_mem _)
   have hxs:=hsh l[j] (List.getElem_mem _)
   generalize l[j] = x at hp1 hp2 hp3 hall hx hxs
   have hc:=len_cell (hx []).1
   have h175:=c175 (cx:=cx) hP x.1 x.2 i (h ++ .cells 0 [VI i.op,VI i.dst,VI i.src,VI i.off,VI i.imm] :: g) hc (fun g'=>by simpa only [List.append_assoc,List.cons_append] using hx g') hxs
   repeat' first
    | ((with_reducible show wx _ (XCode.cond _ _ _) _ _);refine wx_if rfl (fun _=>?_) (fun _=>?_))
    | ((with_reducible show dK _ 175 _ _ _);refine dK_of _ (h175) ?_)
    | simp (maxSteps:=1000000) only [go_sem,hlen,hlt',hw,hp1,hp2]
   ·rename_i e
    refine ⟨more_one,plain_v _,?_⟩
    rw [hall]
    simp [e]
   ·rename_i e
    refine ⟨l.length - (j + 1),by omega,j + 1,rfl,by omega,?_,rfl⟩
    rw [hall]
    simp [e]
  ·have hlt':¬ ((j:Int) < l.length):=by omega
   repeat' first
    | simp (maxSteps:=1000000) only [go_sem,hlen,hlt']
   refine ⟨more_one,plain_v _,?_⟩
   rw [hall,List.drop_eq_nil_of_le (by omega)]
   rfl
end Go.Tidy
namespace Go.Tidy
open Go Go.Eng Go.Proofs
def offsS (op:Int):List Int:=if ¬ form op = 3 then [0] else if band op 240 = 48 ∨ band op 240 = 144 then [0,1] else if band op 240 = 176 ∧ ¬ band op 8 = 0 then (if band op 7 = 7 then [0,8,16,32] else [0,8,16]) else [0]
def immsS (op:Int):List Int:=if op = 219 ∨ op = 195 then atomicsL else if form op = 2 ∧ band op 240 = 208 then [16,32,64] else [0]
theorem offsB_in (i:Ins):offsB i = decide (i.off ∈ offsS i.op):=by
 unfold offsB offsS
 by_cases h0:i.off = 0
 ·rw [if_pos h0,h0]
  split
  ·rfl
  ·split
   ·rfl
   ·split
    ·split <;> rfl
    ·rfl
 ·rw [if_neg h0]
  split
  ·simp [h0]
  ·split
   ·simp [h0]
   ·split
    ·split <;> simp_all
    ·simp [h0]
theorem immsB_in (i:Ins):immsB i = decide (i.imm ∈ immsS i.op):=by
 unfold immsB immsS
 split
 ·rfl
 ·split <;> simp
structure Cl where
 rows:List RowP
 e:Int
 form:Int
 dst:Bool
 src:Bool
 off:Bool
 imm:Bool
 offs:List Int
 imms:List Int
 call:Bool
 wide:Bool
deriving DecidableEq
def clOf (n:Nat):Cl:=⟨rowsN n,infoE n,form n,(info n).dst,(info n).src,(info n).off,(info n).imm,offsS n,immsS n,decide (n = 133),decide (n = 24)⟩
def clL:List Cl:=[
 ⟨[],20,0,false,false,false,false,[0],[0],false,false⟩,
 ⟨[⟨3,1,true,false,false,true,false,0,0,[]⟩],0,3,true,false,false,true,[0],[0],false,false⟩,
 ⟨[⟨7,1,false,false,true,false,false,0,0,[]⟩],0,7,false,false,true,false,[0],[0],false,false⟩,
 ⟨[⟨7,1,false,false,false,true,false,0,0,[]⟩],0,7,false,false,false,true,[0],[0],false,false⟩,
 ⟨[⟨3,1,true,true,false,false,false,0,0,[]⟩],0,3,true,true,false,false,[0],[0],false,false⟩,
 ⟨[⟨8,1,true,false,true,true,false,0,0,[]⟩],0,8,true,false,true,true,[0],[0],false,false⟩,
 ⟨[⟨10,1,true,false,false,true,true,0,0,[]⟩,⟨10,1,true,false,false,true,false,1,0,[]⟩],0,10,true,false,false,true,[0],[0],false,true⟩,
 ⟨[⟨8,1,true,true,true,false,false,0,0,[]⟩],0,8,true,true,true,false,[0],[0],false,false⟩,
 ⟨[⟨3,2,true,false,false,true,false,0,0,[]⟩],0,3,true,false,false,true,[0],[0],false,false⟩,
 ⟨[⟨3,2,true,true,false,false,false,0,0,[]⟩],0,3,true,true,false,false,[0],[0],false,false⟩,
 ⟨[⟨3,2,true,false,false,true,false,0,0,[]⟩,⟨3,2,true,false,false,true,false,0,1,[]⟩],0,3,true,false,false,true,[0,1],[0],false,false⟩,
 ⟨[⟨3,2,true,true,false,false,false,0,0,[]⟩,⟨3,2,true,true,false,false,false,0,1,[]⟩],0,3,true,true,false,false,[0,1],[0],false,false⟩,
 ⟨[⟨4,1,true,true,true,false,false,0,0,[]⟩],0,4,true,true,true,false,[0],[0],false,false⟩,
 ⟨[⟨5,1,true,false,true,true,false,0,0,[]⟩],0,5,true,false,true,true,[0],[0],false,false⟩,
 ⟨[⟨5,1,true,true,true,false,false,0,0,[]⟩],0,5,true,true,true,false,[0],[0],false,false⟩,
 ⟨[⟨2,1,true,false,false,false,false,0,0,[]⟩],0,2,true,false,false,false,[0],[0],false,false⟩,
 ⟨[⟨9,1,false,false,false,true,false,0,0,[]⟩,⟨9,1,false,false,false,true,false,1,0,[]⟩],0,9,false,false,false,true,[0],[0],true,false⟩,
 ⟨[⟨1,1,false,false,false,false,false,0,0,[]⟩],0,1,false,false,false,false,[0],[0],false,false⟩,
 ⟨[⟨3,1,true,true,false,false,false,0,0,[]⟩,⟨3,1,true,true,false,false,false,0,8,[]⟩,⟨3,1,true,true,false,false,false,0,16,[]⟩],0,3,true,true,false,false,[0,8,16],[0],false,false⟩,
 ⟨[⟨3,1,true,true,false,false,false,0,0,[]⟩,⟨3,1,true,true,false,false,false,0,8,[]⟩,⟨3,1,true,true,false,false,false,0,16,[]⟩,⟨3,1,true,true,false,false,false,0,32,[]⟩],0,3,true,true,false,false,[0,8,16,32],[0],false,false⟩,
 ⟨[⟨6,3,true,true,true,false,false,0,0,[0,64,80,160,1,65,81,161,225,241]⟩],0,6,true,true,true,false,[0],[0,64,80,160,1,65,81,161,225,241],false,false⟩,
 ⟨[⟨2,1,true,false,false,false,false,0,0,[16,32,64]⟩],0,2,true,false,false,false,[0],[16,32,64],false,false⟩]
theorem cl_all:∀ n,n < 256 → clOf n ∈ clL:=by decide +kernel
def mayC (c:Cl) (i:Ins):Int:=
 if ¬ c.e = 0 then c.e
 else if (c.dst = true ∧ (i.dst < 0 ∨ 10 < i.dst)) ∨ (c.dst = false ∧ ¬ i.dst = 0) then 21
 else if c.src = true ∧ (i.src < 0 ∨ 10 < i.src) then 21
 else if ((c.call = true ∨ c.wide = true) ∧ ¬ i.src = 0 ∧ ¬ i.src = 1) ∨ (c.src = false ∧ ¬ (c.call = true ∨ c.wide = true) ∧ ¬ i.src = 0) then 21
 else if (c.off = true ∧ (i.off < -32768 ∨ 32768 ≤ i.off)) ∨ (c.off = false ∧ decide (i.off ∈ c.offs) = false) then 21
 else if (c.imm = true ∧ ¬ ((-2147483648 ≤ i.imm ∧ i.imm < 2147483648) ∨ (c.wide = true ∧ i.src = 0))) ∨ (c.imm = false ∧ decide (i.imm ∈ c.imms) = false) then 21
 else 0
def mayRC (c:Cl) (i:Ins):Int:=if c.rows.length = 0 then 20 else if c.rows.any (fun r=>fitR r i) then 0 else 21
theorem cl_same (i:Ins):∀ c ∈ clL,mayRC c i = mayC c i:=by
 intro c hc
 simp only [clL,List.mem_cons,List.not_mem_nil,or_false] at hc
 obtain ⟨op,dst,src,off,imm⟩:=i
 rcases hc with rfl | rfl | rfl | rfl | rfl | rfl | rfl | rfl | rfl | rfl | rfl | rfl | rfl | rfl | rfl | rfl | rfl | rfl | rfl | rfl | rfl | rfl
 all_goals simp only [mayRC,mayC,fitR,offR,immR,regR,List.any_cons,List.any_nil,List.length_cons,List.length_nil,Bool.or_false,if_true,if_false,Bool.false_eq_true]
 all_goals grind
theorem mayR_eq (i:Ins):mayR i = may i:=by
 by_cases hop:0 ≤ i.op ∧ i.op ≤ 255
 ·obtain ⟨n,hn⟩:∃ n:Nat,i.op = n:=⟨i.op.toNat,by omega⟩
  have h:=cl_same i _ (cl_all n (by omega))
  have h1:mayRC (clOf n) i = mayR i:=by
   unfold mayRC mayR clOf rowsP
   rw [if_pos hop,hn]
   rfl
  have h2:mayC (clOf n) i = may i:=by
   unfold mayC may clOf
   rw [offsB_in,immsB_in,hn]
   have e1:(decide (n = 133) = true) = ((n:Int) = 133):=by simp;omega
   have e2:(decide (n = 24) = true) = ((n:Int) = 24):=by simp;omega
   simp only [e1,e2]
  rw [← h1,h,h2]
 ·have h1:mayR i = 20:=by
   unfold mayR rowsP
   rw [if_neg hop]
   rfl
  have hf:form i.op = 0:=by
   unfold form
   simp
   omega
  have h2:may i = 20:=by
   unfold may infoE
   rw [if_pos hf]
   rfl
  rw [h1,h2]
end Go.Tidy
namespace Go.Tidy
open Go Go.Eng Go.Proofs
variable {cx:Cx}
theorem c174 (hO:On cx) (i:Ins) (h:AH):SimCall cx 174 [i.av] h fun r h'=>h' = h ∧ r = VB (decide (i.op = 24)):=by
 refine SimCall.gc ?_
 refine SimCall.by hO.P res174 ?_
 unfold x174 r174
 repeat' first
  | simp (maxSteps:=1000000) only [go_sem]
 all_goals first | exact ⟨more_one,plain_v _⟩ | exact ⟨more_nil,plain_v _⟩ | refine ⟨by first | exact more_one | exact more_nil,by first | exact plain_v _ | exact plain_tup (by simp [Plain.v]),?_⟩
 all_goals try simp only [decide_eq_true_eq,decide_eq_false_iff_not,Bool.not_eq_true',Bool.not_eq_false',AV.v.injEq,AV.tup.injEq,List.cons.injEq,Value.int.injEq,Value.bool.injEq,true_and,and_true] at *
 all_goals (try simp only [band] at *)
 all_goals (try simp_all)
 all_goals grind
theorem c172 (hO:On cx) (is:List Ins) (v:AV) (h:AH) (hv:SlIns h v is) (hl:is.length < 1099511627776):SimCall cx 172 [v] h fun r h'=>h' = h ∧ r = VI ((wsI is).sum:Nat):=by
 refine SimCall.gc ?_
 refine SimCall.by hO.P res172 ?_
 unfold x172 r172
 repeat' first
  | simp (maxSteps:=1000000) only [go_sem]
 refine SimLoop.inv [0,2,0] (fun k s=>∃ (i:Nat) (g:AH),k = is.length - i ∧ i ≤ is.length ∧
  s = ⟨[v,.un,.un,VI ((wsI (is.take i)).sum:Nat),VI i,.un,.un,.un,.un,.un,.un,.un,.un,.un,.un,.un,.un,.un,.un,.un,.un],h ++ g⟩) ?_ is.length ?_
 rotate_left
 ·exact ⟨0,[],rfl,Nat.zero_le _,by simp only [go_sem,List.append_nil];rfl⟩
 rintro k s ⟨i,g,rfl,hi,rfl⟩
 by_cases hlt:i < is.length
 ·obtain ⟨p,hp1,hp2,hp3,_⟩:=hv.get Ins.len (by decide) (List.getElem?_eq_getElem hlt)
  have hlt':((i:Int) < is.length):=by omega
  have hw:=wrap_succ hlt (by omega)
  have ht:=wsI_take (List.getElem?_eq_getElem hlt)
  have hle:=wsI_le (is.take i)
  rw [List.length_take] at hle
  have hw1:IntKind.i64.wrap (((wsI (is.take i)).sum:Nat) + 1) = ((wsI (is.take i)).sum:Nat) + 1:=wrap_id (by omega) (by omega)
  have hw2:IntKind.i64.wrap (((wsI (is.take i)).sum:Nat) + 1 + 1) = ((wsI (is.take i)).sum:Nat) + 1 + 1:=wrap_id (by omega) (by omega)
  have hwd:wd is[i] = if is[i].op = 24 then 2 else 1:=rfl
  rw [hwd] at ht
  repeat' first
   | ((with_reducible show wx _ (XCode.cond _ _ _) _ _);refine wx_if rfl (fun _=>?_) (fun _=>?_))
   | ((with_reducible show SimCall _ 174 _ _ _);refine (c174 hO is[i] _).mono ?_;rintro r h' ⟨rfl,rfl⟩)
   | simp (maxSteps:=1000000) only [go_sem,hv.len,hp1,hp2,hp3,hlt',hw,hw1,hw2,Ins.row]
  ·rename_i e
   rw [if_pos (by simpa using e)] at ht
   rw [show (((wsI (is.take i)).sum:Nat):Int) + 1 + 1 = ((wsI (is.take (i + 1))).sum:Nat) by omega]
   exact ⟨is.length - (i + 1),by omega,i + 1,_,rfl,by omega,rfl⟩
  ·rename_i e
   rw [if_neg (by simpa using e)] at ht
   rw [show (((wsI (is.take i)).sum:Nat):Int) + 1 = ((wsI (is.take (i + 1))).sum:Nat) by omega]
   exact ⟨is.length - (i + 1),by omega,i + 1,_,rfl,by omega,rfl⟩
 ·have hlt':¬ ((i:Int) < is.length):=by omega
  have:is.take i = is:=List.take_of_length_le (by omega)
  repeat' first
   | simp (maxSteps:=1000000) only [go_sem,hv.len,hlt',this]
  exact ⟨more_one,plain_v _⟩
theorem c119 (hO:On cx) (i:Ins) (h:AH):SimCall cx 119 [i.av] h fun r h'=>h' = h ∧ r = VB (heldB i):=by
 refine SimCall.gc ?_
 refine SimCall.by hO.P res119 ?_
 unfold x119 r119
 repeat' first
  | ((with_reducible show SemL _ _ _ _);refine SemL.of ?_)
  | ((with_reducible show SimCall _ 174 _ _ _);refine (c174 hO i _).mono ?_;rintro r h' ⟨rfl,rfl⟩)
  | simp (maxSteps:=1000000) only [go_sem]
  | ((with_reducible show wl _ (XI.mk _ (some _) (XBody.op _) :: _) _ _);first | refine wl_optT rfl (fun e2=>by ((try simp only [Bool.and_eq_true] at e2);first | (simp (maxSteps:=1000000) only [e2,go_sem];first | done | rfl))) ?_ | refine wl_optF rfl (fun e2=>by ((try simp only [Bool.and_eq_true] at e2);first | (simp (maxSteps:=1000000) only [e2,go_sem];first | done | rfl))) ?_ | refine wl_opt2T rfl (fun e1 e2=>by ((try simp only [Bool.and_eq_true] at e1);first | (simp (maxSteps:=1000000) only [e1,e2,go_sem];first | done | rfl))) ?_)
 all_goals first | exact ⟨more_one,plain_v _⟩ | exact ⟨more_nil,plain_v _⟩ | refine ⟨by first | exact more_one | exact more_nil,by first | exact plain_v _ | exact plain_tup (by simp [Plain.v]),?_⟩
 all_goals try simp only [decide_eq_true_eq,decide_eq_false_iff_not,Bool.not_eq_true',Bool.not_eq_false',AV.v.injEq,AV.tup.injEq,List.cons.injEq,Value.int.injEq,Value.bool.injEq,true_and,and_true] at *
 all_goals unfold heldB
 all_goals (try simp only [band] at *)
 all_goals (try simp_all)
 all_goals grind
theorem letter_all:∀ n:Nat,n < 256 → letter (n:Int) = (decide (97 ≤ (n:Int)) && decide ((n:Int) ≤ 122) || decide (65 ≤ (n:Int)) && decide ((n:Int) ≤ 90) || decide ((n:Int) = 95)):=by decide +kernel
theorem inner_all:∀ n:Nat,n < 256 → decide ((n:Int) ∈ digitsL) = (decide (48 ≤ (n:Int)) && decide ((n:Int) ≤ 57) || decide ((n:Int) = 46) || decide ((n:Int) = 36)):=by decide +kernel
theorem c230 (hO:On cx) (n:Nat) (hn:n < 256) (h:AH):SimCall cx 230 [.v (.int .u8 n)] h fun r h'=>h' = h ∧ r = VB (letter n):=by
 refine SimCall.gc ?_
 refine SimCall.by hO.P res230 ?_
 unfold x230 r230
 rw [letter_all n hn]
 repeat' first
  | ((with_reducible show SemL _ _ _ _);refine SemL.of ?_)
  | simp (maxSteps:=1000000) only [go_sem]
  | ((with_reducible show wl _ (XI.mk _ (some _) (XBody.op _) :: _) _ _);first | refine wl_optT rfl (fun e2=>by ((try simp only [Bool.and_eq_true] at e2);first | (simp (maxSteps:=1000000) only [e2,go_sem];first | done | rfl))) ?_ | refine wl_optF rfl (fun e2=>by ((try simp only [Bool.and_eq_true] at e2);first | (simp (maxSteps:=1000000) only [e2,go_sem];first | done | rfl))) ?_ | refine wl_opt2T rfl (fun e1 e2=>by ((try simp only [Bool.and_eq_true] at e1);first | (simp (maxSteps:=1000000) only [e1,e2,go_sem];first | done | rfl))) ?_)
 all_goals first | exact ⟨more_one,plain_v _⟩ | exact ⟨more_nil,plain_v _⟩ | refine ⟨by first | exact more_one | exact more_nil,by first | exact plain_v _ | exact plain_tup (by simp [Plain.v]),?_⟩
 all_goals try simp only [decide_eq_true_eq,decide_eq_false_iff_not,Bool.not_eq_true',Bool.not_eq_false',AV.v.injEq,AV.tup.injEq,List.cons.injEq,Value.int.injEq,Value.bool.injEq,true_and,and_true] at *
 all_goals (try simp only [band] at *)
 all_goals (try simp_all)
 all_goals grind
theorem c231 (hO:On cx) (n:Nat) (hn:n < 256) (h:AH):SimCall cx 231 [.v (.int .u8 n)] h fun r h'=>h' = h ∧ r = VB (letter n || decide ((n:Int) ∈ digitsL)):=by
 refine SimCall.gc ?_
 refine SimCall.by hO.P res231 ?_
 unfold x231 r231
 rw [inner_all n hn]
 repeat' first
  | ((with_reducible show SemL _ _ _ _);refine SemL.of ?_)
  | ((with_reducible show SimCall _ 230 _ _ _);refine (c230 hO n hn _).mono ?_;rintro r h' ⟨rfl,rfl⟩)
  | simp (maxSteps:=1000000) only [go_sem]
  | ((with_reducible show wl _ (XI.mk _ (some _) (XBody.op _) :: _) _ _);first | refine wl_optF rfl (fun e2=>by ((try simp only [Bool.and_eq_true] at e2);first | (simp (maxSteps:=1000000) only [e2,go_sem];first | done | rfl))) ?_ | refine wl_opt2T rfl (fun e1 e2=>by ((try simp only [Bool.and_eq_true] at e1);first | (simp (maxSteps:=1000000) only [e1,e2,go_sem];first | done | rfl))) ?_)
 all_goals first | exact ⟨more_one,plain_v _⟩ | exact ⟨more_nil,plain_v _⟩ | refine ⟨by first | exact more_one | exact more_nil,by first | exact plain_v _ | exact plain_tup (by simp [Plain.v]),?_⟩
 all_goals try simp only [decide_eq_true_eq,decide_eq_false_iff_not,Bool.not_eq_true',Bool.not_eq_false',AV.v.injEq,AV.tup.injEq,List.cons.injEq,Value.int.injEq,Value.bool.injEq,true_and,and_true] at *
 all_goals (try simp only [band] at *)
 all_goals (try simp_all)
 all_goals grind
theorem byte_at (s:ByteArray) {i:Nat} (hi:i < s.size):∃ b:UInt8,(∀ h,s[i]'h = b) ∧ (bytesI s).drop i = (b.toNat:Int) :: (bytesI s).drop (i + 1):=by
 have hsz:s.data.toList.length = s.size:=Array.length_toList
 refine ⟨s[i],fun _=>rfl,?_⟩
 unfold bytesI
 rw [List.drop_eq_getElem_cons (by simpa using hi)]
 simp [ByteArray.getElem_eq_getElem_data]
theorem c173 (hO:On cx) (s:ByteArray) (h:AH) (hs:s.size < 4611686018427387904):SimCall cx 173 [.v (.string s)] h fun r h'=>h' = h ∧ r = VB (nameB s):=by
 refine SimCall.gc ?_
 refine SimCall.by hO.P res173 ?_
 unfold x173 r173
 by_cases h0:s.size = 0
 ·have h1:((s.size:Int) < 1):=by omega
  repeat' first
   | ((with_reducible show SemL _ _ _ _);refine SemL.of ?_)
   | simp (maxSteps:=1000000) only [go_sem,h1]
  exact ⟨more_nil,plain_v _,by unfold nameB;simp [h0]⟩
 have h1:¬ ((s.size:Int) < 1):=by omega
 have h2:(0:Int) < s.size:=by omega
 have hs0:0 < s.size:=by omega
 have hsz:s.data.toList.length = s.size:=Array.length_toList
 obtain ⟨b0,hg0,hbs⟩:=byte_at s hs0
 rw [List.drop_zero] at hbs
 have ht0:Int.toNat 0 = 0:=rfl
 repeat' first
  | ((with_reducible show wx _ (XCode.cond _ _ _) _ _);refine wx_if rfl (fun _=>?_) (fun _=>?_))
  | ((with_reducible show SemL _ _ _ _);refine SemL.of ?_)
  | simp (maxSteps:=1000000) only [go_sem,h1,h2,hs0,hg0,ht0,↓reduceDIte]
  | ((with_reducible show wl _ (XI.mk _ (some _) (XBody.op _) :: _) _ _);refine wl_optF rfl (fun e2=>by ((try simp only [Bool.and_eq_true] at e2);first | (simp (maxSteps:=1000000) only [e2,go_sem,h1,h2,hs0,hg0,ht0,↓reduceDIte];first | done | rfl))) ?_)
  | ((with_reducible show wl _ (XI.mk _ (some _) (XBody.call (XO.f 230) _) :: _) _ _);refine wl_optcF rfl rfl (fun e2=>by simp (maxSteps:=1000000) only [e2,go_sem,h1,h2,hs0,hg0,ht0,↓reduceDIte];exact (c230 hO _ (UInt8.toNat_lt _) _)) ?_)
 ·rename_i e
  refine ⟨more_nil,plain_v _,?_⟩
  unfold nameB
  rw [hbs,nameL]
  simp at e
  by_cases hh:64 < s.size
  ·simp [hh]
  ·have:letter b0.toNat = false:=by
    rcases e with e | e
    ·omega
    ·exact e
   simp [this]
 ·rename_i e
  have hlet:letter b0.toNat = true ∧ s.size ≤ 64:=by
   simp at e
   exact ⟨e.2,by omega⟩
  have hnm:nameB s = nameL false (bytesI s):=by
   unfold nameB
   rw [hbs,nameL,nameL,hlet.1]
   simp [h0,hlet.2]
  rw [hnm]
  refine SimLoop.inv [0,2] (fun k st=>∃ (i:Nat),k = s.size - i ∧ i ≤ s.size ∧ nameL false (bytesI s) = nameL false ((bytesI s).drop i) ∧
   st = ⟨[.v (.string s),.un,.un,VI i,.un,.un,.un,.un,.un,.un,.un,.un,.un,.un,.un,.un,.un,.un,.un,.un,.un,.un,.un,.un,.un,.un,.un,.un,.un],h⟩) ?_ s.size ?_
  rotate_left
  ·exact ⟨0,rfl,Nat.zero_le _,by rw [List.drop_zero],by simp only [go_sem];rfl⟩
  rintro k st ⟨i,rfl,hi,hall,rfl⟩
  by_cases hlt:i < s.size
  ·have hlt':((i:Int) < s.size):=by omega
   have hw:=wrap_succ hlt (by omega)
   have hi2:i < s.data.toList.length:=by omega
   have hi0:(0:Int) ≤ i:=by omega
   obtain ⟨b,hgi,hd⟩:=byte_at s hlt
   rw [hd,nameL] at hall
   repeat' first
    | ((with_reducible show wx _ (XCode.cond _ _ _) _ _);refine wx_if rfl (fun _=>?_) (fun _=>?_))
    | ((with_reducible show SimCall _ 231 _ _ _);refine (c231 hO _ (UInt8.toNat_lt _) _).mono ?_;rintro r h' ⟨rfl,rfl⟩)
    | simp (maxSteps:=1000000) only [go_sem,hlt',hw,hlt,hi0,hgi,Int.toNat_natCast,↓reduceDIte]
   ·rename_i e
    refine ⟨more_nil,plain_v _,?_⟩
    rw [hall]
    simp at e
    simp [e]
   ·rename_i e
    refine ⟨s.size - (i + 1),by omega,i + 1,rfl,by omega,?_,rfl⟩
    rw [hall]
    simp at e
    have:(letter b.toNat || decide ((b.toNat:Int) ∈ digitsL)) = true:=by
     cases hl:letter b.toNat
     ·simp [e hl]
     ·rfl
    simp [this]
  ·have hlt':¬ ((i:Int) < s.size):=by omega
   repeat' first
    | simp (maxSteps:=1000000) only [go_sem,hlt']
   refine ⟨more_nil,plain_v _,?_⟩
   rw [hall,List.drop_eq_nil_of_le (by simp [bytesI];omega)]
   rfl
end Go.Tidy
namespace Go.Tidy
open Go Go.Eng Go.Proofs
variable {cx:Cx}
theorem andNot7':∀ q,q < 65 → ∀ r,r < 64 → kandNot .i64 ((q * 64 + r:Nat):Int) 7 = ((((q * 64 + r) / 8 * 8:Nat)):Int):=by decide +kernel
theorem andNot7 (n:Nat) (hn:n < 4104):kandNot .i64 (n:Int) 7 = (((n / 8 * 8:Nat)):Int):=by
 have:=andNot7' (n / 64) (by omega) (n % 64) (by omega)
 rwa [show n / 64 * 64 + n % 64 = n by omega] at this
def within4 (t:Tab):Prop:=1 ≤ t.key ∧ t.key ≤ 64 ∧ 1 ≤ t.value ∧ t.value ≤ 4096 ∧ 1 ≤ t.entries ∧ t.entries ≤ 65536
theorem room_in {t:Tab} (h:within4 t):roomI t = t.entries * (t.key + (t.value + 7) / 8 * 8 + 8) ∧ 0 ≤ t.entries * (t.key + (t.value + 7) / 8 * 8 + 8) ∧ t.entries * (t.key + (t.value + 7) / 8 * 8 + 8) ≤ 300000000:=by
 obtain ⟨h1,h2,h3,h4,h5,h6⟩:=h
 unfold roomI
 rw [wrap_id (n:=t.value + 7) (by omega) (by omega)]
 obtain ⟨n,hn⟩:∃ n:Nat,t.value + 7 = n:=⟨(t.value + 7).toNat,by omega⟩
 rw [hn,andNot7 n (by omega)]
 have e:(((n / 8 * 8:Nat)):Int) = (n:Int) / 8 * 8:=by omega
 rw [e,wrap_id (n:=t.key + (n:Int) / 8 * 8) (by omega) (by omega),wrap_id (n:=t.key + (n:Int) / 8 * 8 + 8) (by omega) (by omega)]
 have hb:0 ≤ t.key + (n:Int) / 8 * 8 + 8 ∧ t.key + (n:Int) / 8 * 8 + 8 ≤ 4176:=by omega
 generalize t.key + (n:Int) / 8 * 8 + 8 = m at hb
 have q1:0 ≤ t.entries * m:=Int.mul_nonneg (by omega) hb.1
 have q2:t.entries * m ≤ 65536 * 4176:=Int.mul_le_mul h6 hb.2 hb.1 (by decide)
 exact ⟨wrap_id (by omega) (by omega),q1,by omega⟩
theorem c166 (hO:On cx) (t:Tab) (ht:within4 t) (h:AH):SimCall cx 166 [t.av] h fun r h'=>h' = h ∧ r = VI (roomI t):=by
 obtain ⟨r1,r2,r3⟩:=room_in ht
 obtain ⟨h1,h2,h3,h4,h5,h6⟩:=ht
 have w1:IntKind.i64.wrap (t.value + 7) = t.value + 7:=wrap_id (by omega) (by omega)
 have w2:IntKind.i64.wrap ((t.value + 7).tdiv 8) = (t.value + 7) / 8:=by
  rw [Int.tdiv_eq_ediv_of_nonneg (by omega)]
  exact wrap_id (by omega) (by omega)
 have w3:IntKind.i64.wrap ((t.value + 7) / 8 * 8) = (t.value + 7) / 8 * 8:=wrap_id (by omega) (by omega)
 have w4:IntKind.i64.wrap (t.key + (t.value + 7) / 8 * 8) = t.key + (t.value + 7) / 8 * 8:=wrap_id (by omega) (by omega)
 have w5:IntKind.i64.wrap (t.key + (t.value + 7) / 8 * 8 + 8) = t.key + (t.value + 7) / 8 * 8 + 8:=wrap_id (by omega) (by omega)
 have w6:IntKind.i64.wrap (t.entries * (t.key + (t.value + 7) / 8 * 8 + 8)) = t.entries * (t.key + (t.value + 7) / 8 * 8 + 8):=wrap_id (by omega) (by omega)
 have d8:¬ (8:Int) = 0:=by decide
 refine SimCall.gc ?_
 refine SimCall.by hO.P res166 ?_
 unfold x166 r166
 rw [r1]
 repeat' first
  | simp (maxSteps:=1000000) only [go_sem,w1,w2,w3,w4,w5,w6,d8,not_false_eq_true,ne_eq]
 exact ⟨more_one,plain_v _⟩
set_option maxHeartbeats 2000000 in
theorem c95 (hO:On cx) (t:Tab) (h:AH):SimCall cx 95 [t.av] h fun r h'=>h' = h ∧ r = VB (fitsB t):=by
 refine SimCall.gc ?_
 refine SimCall.by hO.P res95 ?_
 unfold x95 r95
 by_cases ht:within4 t
 ·obtain ⟨h1,h2,h3,h4,h5,h6⟩:=id ht
  have n1:¬ t.key < 1:=by omega
  have n2:¬ 64 < t.key:=by omega
  have n3:¬ t.value < 1:=by omega
  have n4:¬ 4096 < t.value:=by omega
  have n5:¬ t.entries < 1:=by omega
  have n6:¬ 65536 < t.entries:=by omega
  repeat' first
   | ((with_reducible show wx _ (XCode.cond _ _ _) _ _);refine wx_if rfl (fun _=>?_) (fun _=>?_))
   | ((with_reducible show SemL _ _ _ _);refine SemL.of ?_)
   | simp (maxSteps:=1000000) only [go_sem,n1,n2,n3,n4,n5,n6]
   | ((with_reducible show wl _ (XI.mk _ (some _) (XBody.op _) :: _) _ _);first | refine wl_optT rfl (fun e2=>by ((try simp only [Bool.and_eq_true] at e2);first | (simp (maxSteps:=1000000) only [e2,go_sem,n1,n2,n3,n4,n5,n6];first | done | rfl))) ?_ | refine wl_optF rfl (fun e2=>by ((try simp only [Bool.and_eq_true] at e2);first | (simp (maxSteps:=1000000) only [e2,go_sem,n1,n2,n3,n4,n5,n6];first | done | rfl))) ?_)
   | ((with_reducible show wl _ (XI.mk _ (some _) (XBody.call (XO.f 166) _) :: _) _ _);refine wl_optcT rfl rfl (fun e2=>by simp (maxSteps:=1000000) only [e2,go_sem,n1,n2,n3,n4,n5,n6];exact (c166 hO t ht _)) ?_)
  all_goals first | exact ⟨more_one,plain_v _⟩ | exact ⟨more_nil,plain_v _⟩ | refine ⟨by first | exact more_one | exact more_nil,by first | exact plain_v _ | exact plain_tup (by simp [Plain.v]),?_⟩
  all_goals try simp only [decide_eq_true_eq,decide_eq_false_iff_not,Bool.not_eq_true',Bool.not_eq_false',AV.v.injEq,AV.tup.injEq,List.cons.injEq,Value.int.injEq,Value.bool.injEq,true_and,and_true] at *
  all_goals unfold fitsB
  all_goals (try simp only [band] at *)
  all_goals (try simp_all)
  all_goals grind
 ·skip
  repeat' first
   | ((with_reducible show wx _ (XCode.cond _ _ _) _ _);refine wx_if rfl (fun _=>?_) (fun _=>?_))
   | ((with_reducible show SemL _ _ _ _);refine SemL.of ?_)
   | simp (maxSteps:=1000000) only [go_sem]
   | ((with_reducible show wl _ (XI.mk _ (some _) (XBody.op _) :: _) _ _);first | refine wl_optT rfl (fun e2=>by ((try simp only [Bool.and_eq_true] at e2);first | (simp (maxSteps:=1000000) only [e2,go_sem];first | done | rfl))) ?_ | refine wl_optF rfl (fun e2=>by ((try simp only [Bool.and_eq_true] at e2);first | (simp (maxSteps:=1000000) only [e2,go_sem];first | done | rfl))) ?_)
   | ((with_reducible show wl _ (XI.mk _ (some _) _ :: _) _ _);((refine wl_ifT rfl (fun e=>?_) (fun e=>?_)) <;> first | rw [e] | skip))
  ·rename_i e
   refine ⟨more_one,plain_v _,?_⟩
   have:fitsB t = false:=by
    unfold within4 at ht
    unfold fitsB
    simp
    grind
   rw [this]
  all_goals
   rename_i e0
   exfalso
   apply ht
   simp at e0
   unfold within4
   omega
theorem fits_within {t:Tab} (h:fitsB t = true):within4 t:=by
 unfold fitsB at h
 simp only [Bool.and_eq_true,decide_eq_true_eq] at h
 unfold within4
 omega
theorem c118 (hO:On cx) (im:Img) (tv fv bv:AV) (h:AH) (hv:SlT Tab.row 5 h bv im.tables) (hf:fv.cell = true) (hb:tv.cell = true) (hl:im.tables.length < 1099511627776) :
 SimCall cx 118 [.agg [tv,fv,bv,VI im.entry]] h fun r h'=>h' = h ∧ ∃ x:Int,r = VI x ∧ (0 ≤ x ↔ tabsB 0 im.tables = false):=by
 have htc:=hv.cell
 refine SimCall.gc ?_
 refine SimCall.by hO.P res118 ?_
 unfold x118 r118
 repeat' first
  | simp (maxSteps:=1000000) only [go_sem,htc,hf,hb]
 refine SimLoop.inv [1,1,0] (fun k s=>∃ (i:Nat) (g:AH) (all:Int),k = im.tables.length - i ∧ i ≤ im.tables.length ∧ tabsB 0 im.tables = tabsB all (im.tables.drop i) ∧
  s = ⟨[.un,.ptr h.length 0 0,.un,VI all,VI i,.un,.un,.un,.un,.un,.un,.un,.un,.un,.un,.un,.un,.un,.un,.un,.un,.un,.un,.un,.un,.un,.un,.un,.un,.un,.un,.un,.un,.un,.un],h ++ (.cells 0 [tv,fv,bv,VI im.entry] :: g)⟩) ?_ im.tables.length ?_
 rotate_left
 ·exact ⟨0,[],0,rfl,Nat.zero_le _,rfl,by simp only [go_sem];rfl⟩
 rintro k s ⟨i,g,all,rfl,hi,hall,rfl⟩
 by_cases hlt:i < im.tables.length
 ·obtain ⟨p,hp1,hp2,hp3,_⟩:=hv.get Tab.len (by decide) (List.getElem?_eq_getElem hlt)
  have hlt':((i:Int) < im.tables.length):=by omega
  have hw:=wrap_succ hlt (by omega)
  rw [List.drop_eq_getElem_cons hlt,tabsB] at hall
  cases hfit:fitsB im.tables[i] with
  | false=>
    repeat' first
     | ((with_reducible show SimCall _ 95 _ _ _);refine (c95 hO im.tables[i] _).mono ?_;rintro r h' ⟨rfl,rfl⟩)
     | simp (maxSteps:=1000000) only [go_sem,hv.len,hp1,hp2,hp3,hlt',hw,hfit,Tab.row]
    refine ⟨more_one,plain_v _,i,rfl,?_⟩
    rw [hall,hfit]
    simp
  | true=>
    repeat' first
     | ((with_reducible show SimCall _ 95 _ _ _);refine (c95 hO im.tables[i] _).mono ?_;rintro r h' ⟨rfl,rfl⟩)
     | ((with_reducible show SimCall _ 166 _ _ _);refine (c166 hO im.tables[i] (fits_within hfit) _).mono ?_;rintro r h' ⟨rfl,rfl⟩)
     | simp (maxSteps:=1000000) only [go_sem,hv.len,hp1,hp2,hp3,hlt',hw,hfit,Tab.row]
    refine ⟨im.tables.length - (i + 1),by omega,i + 1,_,_,rfl,by omega,?_,rfl⟩
    rw [hall,hfit]
    rfl
 ·have hlt':¬ ((i:Int) < im.tables.length):=by omega
  rw [List.drop_eq_nil_of_le (by omega),tabsB] at hall
  repeat' first
   | ((with_reducible show wx _ (XCode.cond _ _ _) _ _);refine wx_if rfl (fun _=>?_) (fun _=>?_))
   | simp (maxSteps:=1000000) only [go_sem,hlt',hv.len]
  ·rename_i e
   refine ⟨more_one,plain_v _,im.tables.length,rfl,?_⟩
   rw [hall]
   simp at e
   simp
   omega
  ·rename_i e
   refine ⟨more_one,plain_v _,-1,rfl,?_⟩
   rw [hall]
   simp at e
   simp
   omega
theorem c117 (hO:On cx) (im:Img) (tv fv bv:AV) (h:AH) (hv:SlIns h tv im.text) (hf:SlT Fn.row 4 h fv im.funcs) (hb:bv.cell = true) (hl:im.text.length < 1099511627776) (hlf:im.funcs.length < 1099511627776) :
 SimCall cx 117 [.agg [tv,fv,bv,VI im.entry]] h fun r h'=>h' = h ∧ ∃ x:Int,r = VI x ∧ (0 ≤ x ↔ funcsB im.text.length 0 im.funcs = false):=by
 have htc:=hv.cell
 have hfc:=hf.cell
 refine SimCall.gc ?_
 refine SimCall.by hO.P res117 ?_
 unfold x117 r117
 repeat' first
  | simp (maxSteps:=1000000) only [go_sem,htc,hfc,hb]
 refine SimLoop.inv [1,1,0] (fun k s=>∃ (i:Nat) (g:AH) (at_:Int),k = im.funcs.length - i ∧ i ≤ im.funcs.length ∧ 0 ≤ at_ ∧ at_ ≤ im.text.length ∧ funcsB im.text.length 0 im.funcs = funcsB im.text.length at_ (im.funcs.drop i) ∧
  s = ⟨[.un,.ptr h.length 0 0,.un,VI at_,VI i,.un,.un,.un,.un,.un,.un,.un,.un,.un,.un,.un,.un,.un,.un,.un,.un,.un,.un,.un,.un,.un,.un,.un,.un,.un,.un,.un,.un,.un,.un,.un,.un,.un,.un,.un,.un,.un,.un,.un,.un,.un,.un,.un,.un,.un],h ++ (.cells 0 [tv,fv,bv,VI im.entry] :: g)⟩) ?_ im.funcs.length ?_
 rotate_left
 ·exact ⟨0,[],0,rfl,Nat.zero_le _,Int.le_refl _,by omega,by rw [List.drop_zero],by simp only [go_sem];rfl⟩
 rintro k s ⟨i,g,at_,rfl,hi,ha0,ha1,hall,rfl⟩
 by_cases hlt:i < im.funcs.length
 ·obtain ⟨p,hp1,hp2,hp3,_⟩:=hf.get Fn.len (by decide) (List.getElem?_eq_getElem hlt)
  have hlt':((i:Int) < im.funcs.length):=by omega
  have hw:=wrap_succ hlt (by omega)
  rw [List.drop_eq_getElem_cons hlt,funcsB] at hall
  generalize im.funcs[i] = f at hp1 hp2 hp3 hall
  have hw2:IntKind.i64.wrap ((im.text.length:Int) - at_) = im.text.length - at_:=wrap_id (by omega) (by omega)
  repeat' first
   | ((with_reducible show wx _ (XCode.cond _ _ _) _ _);refine wx_if rfl (fun _=>?_) (fun _=>?_))
   | ((with_reducible show SemL _ _ _ _);refine SemL.of ?_)
   | simp (maxSteps:=1000000) only [go_sem,hf.len,hp1,hp2,hp3,hlt',hw,hw2,Fn.row,hv.len,htc,hfc,hb]
   | ((with_reducible show wl _ (XI.mk _ (some _) (XBody.op _) :: _) _ _);refine wl_optF rfl (fun e2=>by ((try simp only [Bool.and_eq_true] at e2);first | (simp (maxSteps:=1000000) only [e2,go_sem,hf.len,hp1,hp2,hp3,hlt',hw,hw2,Fn.row,hv.len,htc,hfc,hb];first | done | rfl))) ?_)
  ·rename_i e
   refine ⟨more_one,plain_v _,i,rfl,?_⟩
   rw [hall]
   simp at e
   have:¬ (f.first = at_ ∧ 1 ≤ f.count ∧ f.count ≤ im.text.length - at_):=by omega
   simp
   grind
  ·rename_i e
   simp at e
   have hc:f.first = at_ ∧ 1 ≤ f.count ∧ f.count ≤ im.text.length - at_:=by omega
   rw [wrap_id (n:=at_ + f.count) (by omega) (by omega)]
   refine ⟨im.funcs.length - (i + 1),by omega,i + 1,_,_,rfl,by omega,?_,?_,?_,rfl⟩
   ·omega
   ·omega
   ·rw [hall]
    simp [hc.1,hc.2.1,hc.2.2]
 ·have hlt':¬ ((i:Int) < im.funcs.length):=by omega
  rw [List.drop_eq_nil_of_le (by omega),funcsB] at hall
  repeat' first
   | ((with_reducible show wx _ (XCode.cond _ _ _) _ _);refine wx_if rfl (fun _=>?_) (fun _=>?_))
   | simp (maxSteps:=1000000) only [go_sem,hlt',hf.len,hv.len]
  ·rename_i e
   refine ⟨more_one,plain_v _,im.funcs.length,rfl,?_⟩
   rw [hall]
   simp at e
   simp
   omega
  ·rename_i e
   refine ⟨more_one,plain_v _,-1,rfl,?_⟩
   rw [hall]
   simp at e
   simp
   omega
theorem c115 (hO:On cx) (im:Img) (tv fv bv:AV) (h:AH) (hv:SlIns h tv im.text) (hf:SlT Fn.row 4 h fv im.funcs) (hb:SlT Tab.row 5 h bv im.tables) (hl:im.text.length < 1099511627776) :
 SimCall cx 115 [.agg [tv,fv,bv,VI im.entry]] h fun r h'=>h' = h ∧ ∃ x:Int,r = VI x ∧ (0 ≤ x ↔ ¬ ((wsI im.text).sum ≤ 1048576 ∧ im.funcs.length ≤ 4096 ∧ im.tables.length ≤ 1024)):=by
 refine SimCall.gc ?_
 refine SimCall.by hO.P res115 ?_
 unfold x115 r115
 repeat' first
  | ((with_reducible show wx _ (XCode.cond _ _ _) _ _);refine wx_if rfl (fun _=>?_) (fun _=>?_))
  | ((with_reducible show SimCall _ 172 _ _ _);refine (c172 hO im.text tv _ (hv.more _) hl).mono ?_;rintro r h' ⟨rfl,rfl⟩)
  | simp (maxSteps:=1000000) only [go_sem,hv.len,hv.cell,hf.cell,hb.cell,hf.len,hb.len]
 ·rename_i e
  simp at e
  exact ⟨more_one,plain_v _,0,rfl,by omega⟩
 ·rename_i e1 e
  simp at e e1
  exact ⟨more_one,plain_v _,1,rfl,by omega⟩
 ·rename_i e1 e2 e
  simp at e e1 e2
  exact ⟨more_one,plain_v _,2,rfl,by omega⟩
 ·rename_i e1 e2 e
  simp at e e1 e2
  exact ⟨more_one,plain_v _,-1,rfl,by omega⟩
end Go.Tidy
namespace Go.Tidy
open Go Go.Eng Go.Proofs
variable {cx:Cx}
theorem any_take (fs:List Fn) (f:Fn) (i:Nat) (hi:i ≤ fs.length):(((fs.take i).map fkey).any fun q=>decide (q.1 = (fkey f).1) && decide (q.2 = (fkey f).2)) = true ↔ ∃ j g,j < i ∧ fs[j]? = some g ∧ g.name = f.name ∧ g.obj = f.obj:=by
 rw [List.any_eq_true]
 constructor
 ·rintro ⟨q,hq,he⟩
  obtain ⟨g,hg,rfl⟩:=List.mem_map.1 hq
  obtain ⟨j,hj⟩:=List.mem_iff_getElem?.1 hg
  rw [List.getElem?_take] at hj
  split at hj
  ·rename_i hlt
   simp only [Bool.and_eq_true,decide_eq_true_eq] at he
   exact ⟨j,g,hlt,hj,he.1,he.2⟩
  ·cases hj
 ·rintro ⟨j,g,hj,hg,h1,h2⟩
  refine ⟨fkey g,List.mem_map_of_mem (List.mem_of_getElem? (i:=j) (by rw [List.getElem?_take,if_pos hj];exact hg)),?_⟩
  simp only [Bool.and_eq_true,decide_eq_true_eq]
  exact ⟨h1,h2⟩
set_option maxRecDepth 100000 in
set_option maxHeartbeats 4000000 in
theorem c116 (hO:On cx) (im:Img) (tv fv bv:AV) (h:AH) (htc:tv.cell = true) (hf:SlT Fn.row 4 h fv im.funcs) (hb:SlT Tab.row 5 h bv im.tables) (hlf:im.funcs.length < 1099511627776) (hlt:im.tables.length < 1099511627776)
 (hnf:∀ f ∈ im.funcs,f.name.size < 4611686018427387904) (hnt:∀ t ∈ im.tables,t.name.size < 4611686018427387904) :
 SimCall cx 116 [.agg [tv,fv,bv,VI im.entry]] h fun r h'=>h' = h ∧ ∃ x:Int,r = VI x ∧ (0 ≤ x ↔ (namesF [] (im.funcs.map fkey) && namesT none im.tables) = false):=by
 have hfc:=hf.cell
 have hbc:=hb.cell
 refine SimCall.gc ?_
 refine SimCall.by hO.P res116 ?_
 unfold x116 r116
 repeat' first
  | simp (maxSteps:=1000000) only [go_sem,htc,hfc,hbc]
 refine SimLoop.inv [1,1] (fun k s=>∃ (i:Nat) (g:AH),k = im.funcs.length - i ∧ i ≤ im.funcs.length ∧ namesF [] (im.funcs.map fkey) = namesF ((im.funcs.take i).map fkey) ((im.funcs.drop i).map fkey) ∧
  s = ⟨[.un,.ptr h.length 0 0,.un,VI i,.un,.un,.un,.un,.un,.un,.un,.un,.un,.un,.un,.un,.un,.un,.un,.un,.un,.un,.un,.un,.un,.un,.un,.un,.un,.un,.un,.un,.un,.un,.un,.un,.un,.un,.un,.un,.un,.un,.un,.un,.un,.un,.un,.un,.un,.un,.un,.un,.un,.un,.un,.un,.un,.un,.un,.un,.un,.un,.un,.un,.un,.un,.un,.un,.un,.un,.un,.un,.un,.un,.un,.un,.un,.un,.un,.un,.un,.un,.un,.un,.un,.un,.un,.un,.un,.un,.un,.un,.un,.un,.un,.un,.un,.un,.un,.un,.un,.un,.un,.un],h ++ (.cells 0 [tv,fv,bv,VI im.entry] :: g)⟩) ?_ im.funcs.length ?_
 rotate_left
 ·exact ⟨0,[],rfl,Nat.zero_le _,by simp,by simp only [go_sem];rfl⟩
 rintro k s ⟨i,g,rfl,hi,hall,rfl⟩
 by_cases hli:i < im.funcs.length
 ·obtain ⟨p,hp1,hp2,hp3,_⟩:=hf.get Fn.len (by decide) (List.getElem?_eq_getElem hli)
  have hlt':((i:Int) < im.funcs.length):=by omega
  have hw:=wrap_succ hli (by omega)
  have hfm:im.funcs[i] ∈ im.funcs:=List.getElem_mem _
  have htk:(im.funcs.take (i + 1)).map fkey = (im.funcs.take i).map fkey ++ [fkey im.funcs[i]]:=by
   rw [List.take_succ_eq_append_getElem hli,List.map_append];rfl
  rw [List.drop_eq_getElem_cons hli,List.map_cons,namesF] at hall
  have hsz:=hnf _ hfm
  have hany:=any_take im.funcs im.funcs[i] i hi
  generalize im.funcs[i] = f at hp1 hp2 hp3 hall htk hfm hsz hany
  repeat' first
   | ((with_reducible show wx _ (XCode.cond _ _ _) _ _);refine wx_if rfl (fun _=>?_) (fun _=>?_))
   | ((with_reducible show SemL _ _ _ _);refine SemL.of ?_)
   | ((with_reducible show SimCall _ 173 _ _ _);refine (c173 hO f.name _ hsz).mono ?_;rintro r h' ⟨rfl,rfl⟩)
   | simp (maxSteps:=1000000) only [go_sem,hf.len,hp1,hp2,hp3,hlt',hw,Fn.row,htc,hfc,hbc]
   | ((with_reducible show wl _ (XI.mk _ (some _) (XBody.op _) :: _) _ _);refine wl_optF rfl (fun e2=>by ((try simp only [Bool.and_eq_true] at e2);first | (simp (maxSteps:=1000000) only [e2,go_sem,hf.len,hp1,hp2,hp3,hlt',hw,Fn.row,htc,hfc,hbc];first | done | rfl))) ?_)
  ·rename_i e
   refine ⟨more_one,plain_v _,i,rfl,?_⟩
   have:namesF [] (im.funcs.map fkey) = false:=by
    rw [hall]
    simp at e
    simp [fkey]
    grind
   rw [this]
   simp
  ·rename_i e
   have hA:nameB f.name = true ∧ 0 ≤ f.obj ∧ f.obj < 64:=by
    simp at e
    grind
   refine SimLoop.inv [1,1,0,1] (fun k s=>∃ (j:Nat),k = i - j ∧ j ≤ i ∧ (∀ (j':Nat) g,j' < j → im.funcs[j']? = some g → ¬ (g.name = f.name ∧ g.obj = f.obj)) ∧
    s = ⟨[.un,.ptr h.length 0 0,.un,VI i,.ptr (h.length + (g.length + 1)) 0 0,.un,VI j,.un,.un,.un,.un,.un,.un,.un,.un,.un,.un,.un,.un,.un,.un,.un,.un,.un,.un,.un,.un,.un,.un,.un,.un,.un,.un,.un,.un,.un,.un,.un,.un,.un,.un,.un,.un,.un,.un,.un,.un,.un,.un,.un,.un,.un,.un,.un,.un,.un,.un,.un,.un,.un,.un,.un,.un,.un,.un,.un,.un,.un,.un,.un,.un,.un,.un,.un,.un,.un,.un,.un,.un,.un,.un,.un,.un,.un,.un,.un,.un,.un,.un,.un,.un,.un,.un,.un,.un,.un,.un,.un,.un,.un,.un,.un,.un,.un],h ++ (.cells 0 [tv,fv,bv,VI im.entry] :: (g ++ [.cells 0 [.v (.string f.name),VI f.obj,VI f.first,VI f.count]]))⟩) ?_ i ?_
   rotate_left
   ·exact ⟨0,rfl,Nat.zero_le _,fun j' g hj=>absurd hj (by omega),by simp only [go_sem];rfl⟩
   rintro k s ⟨j,rfl,hj,hno,rfl⟩
   by_cases hlj:j < i
   ·have hlj2:j < im.funcs.length:=by omega
    obtain ⟨q,hq1,hq2,hq3,hq4⟩:=hf.get Fn.len (by decide) (List.getElem?_eq_getElem hlj2)
    have hlj':((j:Int) < i):=by omega
    have hwj:=wrap_succ hlj2 (by omega)
    have hgj:=List.getElem?_eq_getElem hlj2
    generalize im.funcs[j] = g2 at hq1 hq2 hq3 hq4 hgj
    obtain ⟨q0,ha1,ha2,ha3⟩:=hq4 0 _ rfl
    obtain ⟨q1,hb1,hb2,hb3⟩:=hq4 1 _ rfl
    repeat' first
     | ((with_reducible show wx _ (XCode.cond _ _ _) _ _);refine wx_if rfl (fun _=>?_) (fun _=>?_))
     | ((with_reducible show SemD _ _ _ _ _);refine SemD.of ?_)
     | simp (maxSteps:=1000000) only [go_sem,hlj',hwj,hq1,ha1,ha3,hb1,hb3,htc,hfc,hbc,Fn.row]
     | ((with_reducible show wds _ _ (DI.i (XI.mk _ (some _) (XBody.op _)) :: _) _ _);refine wds_optT rfl (fun e2=>by ((try simp only [Bool.and_eq_true] at e2);first | (simp (maxSteps:=1000000) only [e2,go_sem,hlj',hwj,hq1,ha1,ha3,hb1,hb3,htc,hfc,hbc,Fn.row];first | done | rfl))) ?_)
    ·rename_i e2
     refine ⟨more_one,plain_v _,i,rfl,?_⟩
     have:namesF [] (im.funcs.map fkey) = false:=by
      rw [hall]
      have h1:=hany.2 ⟨j,g2,hlj,hgj,by simp at e2;exact e2.1,by simp at e2;exact e2.2⟩
      rw [h1]
      simp
     rw [this]
     simp
    ·rename_i e2
     refine ⟨i - (j + 1),by omega,j + 1,rfl,by omega,?_,rfl⟩
     intro j' g' hj' hg'
     by_cases hjj:j' = j
     ·subst hjj
      rw [hgj] at hg'
      cases hg'
      simpa using e2
     ·exact hno j' g' (by omega) hg'
   ·have hlj':¬ ((j:Int) < i):=by omega
    have hlen:i < im.funcs.length:=hli
    repeat' first
     | simp (maxSteps:=1000000) only [go_sem,hlj',hw]
    refine ⟨im.funcs.length - (i + 1),by omega,i + 1,_,rfl,by omega,?_,rfl⟩
    rw [hall,htk]
    have h1:¬ (((im.funcs.take i).map fkey).any fun q=>decide (q.1 = (fkey f).1) && decide (q.2 = (fkey f).2)) = true:=by
     rw [hany]
     rintro ⟨j',g',hj',hg',h1,h2⟩
     exact hno j' g' (by omega) hg' ⟨h1,h2⟩
    simp only [Bool.not_eq_true] at h1
    rw [h1]
    simp [fkey,hA.1,hA.2.1,hA.2.2]
 ·have hlt':¬ ((i:Int) < im.funcs.length):=by omega
  have hT:namesF [] (im.funcs.map fkey) = true:=by rw [hall,List.drop_eq_nil_of_le (by omega)];rfl
  rw [hT,Bool.true_and]
  clear hall
  repeat' first
   | simp (maxSteps:=1000000) only [go_sem,hlt',hf.len]
  refine SimLoop.inv [1,5] (fun k s=>∃ (j:Nat) (g:AH),k = im.tables.length - j ∧ j ≤ im.tables.length ∧ namesT none im.tables = namesT (if j = 0 then none else (im.tables[j - 1]?).map (·.name)) (im.tables.drop j) ∧
   s = ⟨[.un,.ptr h.length 0 0,.un,.un,.un,.un,.un,VI j,.un,.un,.un,.un,.un,.un,.un,.un,.un,.un,.un,.un,.un,.un,.un,.un,.un,.un,.un,.un,.un,.un,.un,.un,.un,.un,.un,.un,.un,.un,.un,.un,.un,.un,.un,.un,.un,.un,.un,.un,.un,.un,.un,.un,.un,.un,.un,.un,.un,.un,.un,.un,.un,.un,.un,.un,.un,.un,.un,.un,.un,.un,.un,.un,.un,.un,.un,.un,.un,.un,.un,.un,.un,.un,.un,.un,.un,.un,.un,.un,.un,.un,.un,.un,.un,.un,.un,.un,.un,.un,.un,.un,.un,.un,.un,.un],h ++ (.cells 0 [tv,fv,bv,VI im.entry] :: g)⟩) ?_ im.tables.length ?_
  rotate_left
  ·exact ⟨0,_,rfl,Nat.zero_le _,rfl,by simp only [go_sem];rfl⟩
  rintro k s ⟨j,g,rfl,hj,hall,rfl⟩
  by_cases hlj:j < im.tables.length
  ·obtain ⟨p,hp1,hp2,hp3,hp4⟩:=hb.get Tab.len (by decide) (List.getElem?_eq_getElem hlj)
   have hlt':((j:Int) < im.tables.length):=by omega
   have hw:=wrap_succ hlj (by omega)
   have hsz:=hnt im.tables[j] (List.getElem_mem _)
   rw [List.drop_eq_getElem_cons hlj,namesT_cons] at hall
   have hnext:(if j + 1 = 0 then none else (im.tables[j + 1 - 1]?).map (·.name)) = some im.tables[j].name:=by
    rw [if_neg (by omega),Nat.add_sub_cancel,List.getElem?_eq_getElem hlj];rfl
   generalize im.tables[j] = t at hp1 hp2 hp3 hp4 hall hnext hsz
   obtain ⟨t0,ha1,ha2,ha3⟩:=hp4 0 _ rfl
   cases j with
   | zero=>
     simp only [if_true] at hall
     have hnp:¬ (0:Int) < ((0:Nat):Int):=by decide
     cases hnb:nameB t.name with
     | false=>
       repeat' first
        | ((with_reducible show SemD _ _ _ _ _);refine SemD.of ?_)
        | ((with_reducible show SimCall _ 173 _ _ _);refine (c173 hO t.name _ hsz).mono ?_;rintro r h' ⟨rfl,rfl⟩)
        | simp (maxSteps:=1000000) only [go_sem,hb.len,hp1,ha1,ha3,hlt',hw,Tab.row,htc,hfc,hbc,hf.len,hnp,hnb]
       refine ⟨more_one,plain_v _,IntKind.i64.wrap (im.funcs.length + ((0:Nat):Int)),rfl,?_⟩
       rw [hall,hnb,wrap_id (by omega) (by omega)]
       simp
     | true=>
       repeat' first
        | ((with_reducible show SemD _ _ _ _ _);refine SemD.of ?_)
        | ((with_reducible show SimCall _ 173 _ _ _);refine (c173 hO t.name _ hsz).mono ?_;rintro r h' ⟨rfl,rfl⟩)
        | simp (maxSteps:=1000000) only [go_sem,hb.len,hp1,ha1,ha3,hlt',hw,Tab.row,htc,hfc,hbc,hf.len,hnp,hnb]
       refine ⟨im.tables.length - 1,by omega,1,_,rfl,by omega,?_,rfl⟩
       rw [hall,hnext,hnb]
       rfl
   | succ j=>
     have hj2:j < im.tables.length:=by omega
     obtain ⟨p2,hq1,_,_,hq4⟩:=hb.get Tab.len (by decide) (List.getElem?_eq_getElem hj2)
     obtain ⟨q,hr1,_,hr3⟩:=hq4 0 (.v (.string im.tables[j].name)) rfl
     have hprev:(if j + 1 = 0 then none else (im.tables[j + 1 - 1]?).map (·.name)) = some im.tables[j].name:=by
      rw [if_neg (by omega),Nat.add_sub_cancel,List.getElem?_eq_getElem hj2];rfl
     rw [hprev] at hall
     have hpos:(0:Int) < ((j + 1:Nat):Int):=by omega
     have hsub:IntKind.i64.wrap (((j + 1:Nat):Int) - 1) = (j:Int):=by rw [wrap_id (by omega) (by omega)];omega
     have hwx:IntKind.i64.wrap (im.funcs.length + ((j + 1:Nat):Int)) = im.funcs.length + ((j + 1:Nat):Int):=wrap_id (by omega) (by omega)
     generalize im.tables[j].name = q0 at hr3 hall
     repeat' first
      | ((with_reducible show wx _ (XCode.cond _ _ _) _ _);refine wx_if rfl (fun _=>?_) (fun _=>?_))
      | ((with_reducible show SemD _ _ _ _ _);refine SemD.of ?_)
      | ((with_reducible show SimCall _ 173 _ _ _);refine (c173 hO t.name _ hsz).mono ?_;rintro r h' ⟨rfl,rfl⟩)
      | simp (maxSteps:=1000000) only [go_sem,hb.len,hp1,ha1,ha3,hlt',hw,Tab.row,htc,hfc,hbc,hf.len,hq1,hr1,hr3,hpos,hsub,hwx]
      | ((with_reducible show wds _ _ (DI.i (XI.mk _ (some _) (XBody.op _)) :: _) _ _);first | refine wds_optF rfl (fun e2=>by ((try simp only [Bool.and_eq_true] at e2);first | (simp (maxSteps:=1000000) only [e2,go_sem,hb.len,hp1,ha1,ha3,hlt',hw,Tab.row,htc,hfc,hbc,hf.len,hq1,hr1,hr3,hpos,hsub,hwx];first | done | rfl))) ?_ | refine wds_opt2T rfl (fun e1 e2=>by ((try simp only [Bool.and_eq_true] at e1);first | (simp (maxSteps:=1000000) only [e1,e2,go_sem,hb.len,hp1,ha1,ha3,hlt',hw,Tab.row,htc,hfc,hbc,hf.len,hq1,hr1,hr3,hpos,hsub,hwx];first | done | rfl))) ?_)
     ·rename_i e
      refine ⟨more_one,plain_v _,im.funcs.length + ((j + 1:Nat):Int),rfl,?_⟩
      rw [hall]
      unfold okP strLe
      simp at e
      simp
      grind
     ·rename_i e
      refine ⟨im.tables.length - (j + 1 + 1),by omega,j + 1 + 1,_,rfl,by omega,?_,rfl⟩
      rw [hall,hnext]
      unfold okP strLe
      simp at e
      simp
      grind
  ·have hlt':¬ ((j:Int) < im.tables.length):=by omega
   repeat' first
    | simp (maxSteps:=1000000) only [go_sem,hlt',hb.len]
   refine ⟨more_one,plain_v _,-1,rfl,?_⟩
   rw [hall,List.drop_eq_nil_of_le (by omega)]
   simp [namesT]
set_option maxRecDepth 100000 in
set_option maxHeartbeats 4000000 in
theorem c63 (hO:On cx) (im:Img) (tv fv bv:AV) (h:AH) (hr:ImgR h tv fv bv im) :
 SimCall cx 63 [.agg [tv,fv,bv,VI im.entry]] h fun r h'=>h' = h ∧ ∃ x:Int,∃ e:Int,r = .tup [VI x,VI e] ∧ (e = 0 ↔ imgB im = true):=by
 have c1:=hr.text.cell
 have c2:=hr.funcs.cell
 have c3:=hr.tables.cell
 have hnf:=hr.nf
 have hlen:=hr.len
 refine SimCall.gc ?_
 refine SimCall.by hO.P res63 ?_
 unfold x63 r63
 repeat' first
  | simp (maxSteps:=1000000) only [go_sem,c1,c2,c3]
 refine (c115 hO im tv fv bv _ (hr.text.more _) (hr.funcs.more _) (hr.tables.more _) hr.len).mono ?_
 rintro r h' ⟨rfl,x1,rfl,hx1⟩
 repeat' first
  | ((with_reducible show wx _ (XCode.cond _ _ _) _ _);refine wx_if rfl (fun _=>?_) (fun _=>?_))
  | simp (maxSteps:=1000000) only [go_sem,c1,c2,c3]
 ·rename_i e
  refine ⟨more_one,plain_tup (by simp [Plain.v]),_,_,rfl,?_⟩
  simp at e
  have:=hx1.1 e
  unfold imgB
  simp
  grind
 rename_i e1
 have hx1':(wsI im.text).sum ≤ 1048576 ∧ im.funcs.length ≤ 4096 ∧ im.tables.length ≤ 1024:=by
  simp at e1
  have:=not_congr hx1
  grind
 refine (c116 hO im tv fv bv _ c1 (hr.funcs.more _) (hr.tables.more _) hr.nf hr.nt hr.fname hr.tname).mono ?_
 rintro r h' ⟨rfl,x2,rfl,hx2⟩
 repeat' first
  | ((with_reducible show wx _ (XCode.cond _ _ _) _ _);refine wx_if rfl (fun _=>?_) (fun _=>?_))
  | simp (maxSteps:=1000000) only [go_sem,c1,c2,c3]
 ·rename_i e
  refine ⟨more_one,plain_tup (by simp [Plain.v]),_,_,rfl,?_⟩
  simp at e
  have:=hx2.1 e
  unfold imgB
  rw [this]
  simp
 rename_i e2
 have hx2':(namesF [] (im.funcs.map fkey) && namesT none im.tables) = true:=by
  simp at e2
  have:=not_congr hx2
  grind
 refine (c117 hO im tv fv bv _ (hr.text.more _) (hr.funcs.more _) c3 hr.len hr.nf).mono ?_
 rintro r h' ⟨rfl,x3,rfl,hx3⟩
 repeat' first
  | ((with_reducible show wx _ (XCode.cond _ _ _) _ _);refine wx_if rfl (fun _=>?_) (fun _=>?_))
  | simp (maxSteps:=1000000) only [go_sem,c1,c2,c3]
 ·rename_i e
  refine ⟨more_one,plain_tup (by simp [Plain.v]),_,_,rfl,?_⟩
  simp at e
  have:=hx3.1 e
  unfold imgB
  rw [this]
  simp
 rename_i e3
 have hx3':funcsB im.text.length 0 im.funcs = true:=by
  simp at e3
  have:=not_congr hx3
  grind
 refine (c118 hO im tv fv bv _ (hr.tables.more _) c2 c1 hr.nt).mono ?_
 rintro r h' ⟨rfl,x4,rfl,hx4⟩
 have hfl:=hr.funcs.len
 repeat' first
  | ((with_reducible show wx _ (XCode.cond _ _ _) _ _);refine wx_if rfl (fun _=>?_) (fun _=>?_))
  | ((with_reducible show SemL _ _ _ _);refine SemL.of ?_)
  | simp (maxSteps:=1000000) only [go_sem,c1,c2,c3,hfl]
  | ((with_reducible show wl _ (XI.mk _ (some _) (XBody.op _) :: _) _ _);refine wl_optF rfl (fun e2=>by ((try simp only [Bool.and_eq_true] at e2);first | (simp (maxSteps:=1000000) only [e2,go_sem,c1,c2,c3,hfl];first | done | rfl))) ?_)
 ·rename_i e
  refine ⟨more_one,plain_tup (by simp [Plain.v]),_,_,rfl,?_⟩
  simp at e
  have:=hx4.1 e
  unfold imgB
  rw [this]
  simp
 ·rename_i e4 e
  refine ⟨more_one,plain_tup (by simp [Plain.v]),_,_,rfl,?_⟩
  simp at e
  have:¬ (0 ≤ im.entry ∧ im.entry < im.funcs.length):=by omega
  unfold imgB
  rw [decide_eq_false this]
  simp
 rename_i e4 e5
 have hx4':tabsB 0 im.tables = true:=by
  simp at e4
  have:=not_congr hx4
  grind
 have hx5:0 ≤ im.entry ∧ im.entry < im.funcs.length:=by
  simp at e5
  omega
 have himg:imgB im = im.text.all heldB:=by
  unfold imgB
  rw [hx2',hx3',hx4',decide_eq_true hx1',decide_eq_true hx5]
  simp
 rw [himg]
 refine SimLoop.inv [1,3] (fun k s=>∃ (i:Nat) (g:AH),k = im.text.length - i ∧ i ≤ im.text.length ∧ im.text.all heldB = (im.text.drop i).all heldB ∧
  s = ⟨[.un,.ptr h.length 0 0,.un,.un,.un,VI i,.un,.un,.un,.un,.un,.un,.un,.un,.un,.un,.un,.un,.un,.un,.un,.un,.un,.un,.un,.un,.un,.un,.un,.un,.un,.un,.un,.un,.un,.un,.un,.un,.un,.un,.un,.un,.un,.un,.un,.un,.un,.un,.un,.un,.un,.un,.un,.un],h ++ (.cells 0 [tv,fv,bv,VI im.entry] :: g)⟩) ?_ im.text.length ?_
 rotate_left
 ·exact ⟨0,[],rfl,Nat.zero_le _,by rw [List.drop_zero],by simp only [go_sem];rfl⟩
 rintro k s ⟨i,g,rfl,hi,hall,rfl⟩
 by_cases hlt:i < im.text.length
 ·obtain ⟨p,hp1,hp2,hp3,_⟩:=hr.text.get Ins.len (by decide) (List.getElem?_eq_getElem hlt)
  have hlt':((i:Int) < im.text.length):=by omega
  have hw:=wrap_succ hlt (by omega)
  rw [List.drop_eq_getElem_cons hlt,List.all_cons] at hall
  repeat' first
   | ((with_reducible show wx _ (XCode.cond _ _ _) _ _);refine wx_if rfl (fun _=>?_) (fun _=>?_))
   | ((with_reducible show SimCall _ 119 _ _ _);refine (c119 hO im.text[i] _).mono ?_;rintro r h' ⟨rfl,rfl⟩)
   | simp (maxSteps:=1000000) only [go_sem,hr.text.len,hp1,hp2,hp3,hlt',hw,Ins.row]
  ·rename_i e
   refine ⟨more_one,plain_tup (by simp [Plain.v]),_,_,rfl,?_⟩
   rw [hall]
   simp at e
   simp [e]
  ·rename_i e
   refine ⟨im.text.length - (i + 1),by omega,i + 1,_,rfl,by omega,?_,rfl⟩
   simp at e
   rw [hall]
   simp [e]
 ·have hlt':¬ ((i:Int) < im.text.length):=by omega
  repeat' first
   | simp (maxSteps:=1000000) only [go_sem,hr.text.len,hlt']
  refine ⟨more_one,plain_tup (by simp [Plain.v]),_,_,rfl,?_⟩
  rw [hall,List.drop_eq_nil_of_le (by omega)]
  simp
end Go.Tidy
namespace Go.Tidy
open Go Go.Eng Go.Proofs
variable {cx:Cx}
theorem head_form:∀ n,n < 256 → (rowsN n).head?.map (·.form) = if (rowsN n).length = 0 then none else some (form n):=by decide +kernel
theorem rows_head {i:Ins} (hm:may i = 0) {l:List (RowP × AV)} (hl:rowsP i.op = l.map (·.1)):∃ x r,l = x :: r ∧ x.1.form = form i.op:=by
 have h1:mayR i = 0:=by rw [mayR_eq,hm]
 unfold mayR at h1
 by_cases h0:(rowsP i.op).length = 0
 ·rw [if_pos h0] at h1;cases h1
 have hop:0 ≤ i.op ∧ i.op ≤ 255:=by
  refine Classical.byContradiction fun hn=>h0 ?_
  unfold rowsP
  rw [if_neg hn]
  rfl
 have h2:=head_form i.op.toNat (by omega)
 have e:rowsN i.op.toNat = rowsP i.op:=by unfold rowsP;rw [if_pos hop]
 rw [e,if_neg h0,hl] at h2
 cases l with
 | nil=>simp at h2
 | cons x r=>
   simp at h2
   exact ⟨x,r,rfl,by rw [h2,show max i.op 0 = i.op by omega]⟩
set_option maxRecDepth 100000 in
set_option maxHeartbeats 2000000 in
theorem c99 (hP:cx.P = Tryz.prog) (hG:cx.G = arrs) (i:Ins) (h:AH):SimCall cx 99 [i.av] h fun r h'=>h' = h ∧ r = VI (jumps i):=by
 refine SimCall.gc ?_
 refine SimCall.by hP res99 ?_
 unfold x99 r99
 have h121:=fun H=>c121 (cx:=cx) hP hG i H
 rw [mayR_eq] at h121
 by_cases hm:may i = 0
 ·skip
  repeat' first
   | ((with_reducible show SimCall _ 121 _ _ _);refine (h121 _).mono ?_;rintro r h' ⟨rfl,rfl⟩)
   | simp (maxSteps:=1000000) only [go_sem,hm]
  refine (c168 hP hG i.op _).mono ?_
  rintro r h' ⟨g,rfl,l,hl,hims,hs⟩
  obtain ⟨x,l',rfl,hx⟩:=rows_head hm hl
  rcases hs with ⟨_,hs⟩ | hs
  ·cases hs
  simp only [List.append_assoc,List.cons_append,List.nil_append] at hs
  obtain ⟨p,hp1,_,_,hp4⟩:=hs.get row_len (by decide) (k:=0) rfl
  have hp1:xIad 10 r (VI 0) = some p:=hp1
  obtain ⟨q,hq1,hq2,_⟩:=hp4 0 (VI x.1.form) rfl
  rw [hx] at hq2
  repeat' first
   | ((with_reducible show wx _ (XCode.cond _ _ _) _ _);refine wx_if rfl (fun _=>?_) (fun _=>?_))
   | simp (maxSteps:=1000000) only [go_sem,hp1,hq1,hq2]
  all_goals refine ⟨more_one,plain_v _,?_⟩
  all_goals unfold jumps
  all_goals simp_all
 ·skip
  repeat' first
   | ((with_reducible show SimCall _ 121 _ _ _);refine (h121 _).mono ?_;rintro r h' ⟨rfl,rfl⟩)
   | simp (maxSteps:=1000000) only [go_sem,hm]
  refine ⟨more_one,plain_v _,?_⟩
  unfold jumps
  rw [if_pos hm]
theorem c122 (hP:cx.P = Tryz.prog) (hG:cx.G = arrs) (i:Ins) (h:AH):SimCall cx 122 [i.av] h fun r h'=>h' = h ∧ r = VB (leads i):=by
 refine SimCall.gc ?_
 refine SimCall.by hP res122 ?_
 unfold x122 r122
 repeat' first
  | ((with_reducible show SemL _ _ _ _);refine SemL.of ?_)
  | ((with_reducible show SimCall _ 99 _ _ _);refine (c99 hP hG i _).mono ?_;rintro r h' ⟨rfl,rfl⟩)
  | simp (maxSteps:=1000000) only [go_sem]
  | ((with_reducible show wl _ (XI.mk _ (some _) (XBody.op _) :: _) _ _);refine wl_optF rfl (fun e2=>by ((try simp only [Bool.and_eq_true] at e2);first | (simp (maxSteps:=1000000) only [e2,go_sem];first | done | rfl))) ?_)
 all_goals first | exact ⟨more_one,plain_v _⟩ | exact ⟨more_nil,plain_v _⟩ | refine ⟨by first | exact more_one | exact more_nil,by first | exact plain_v _ | exact plain_tup (by simp [Plain.v]),?_⟩
 all_goals try simp only [decide_eq_true_eq,decide_eq_false_iff_not,Bool.not_eq_true',Bool.not_eq_false',AV.v.injEq,AV.tup.injEq,List.cons.injEq,Value.int.injEq,Value.bool.injEq,true_and,and_true] at *
 all_goals unfold leads
 all_goals (try simp only [band] at *)
 all_goals (try simp_all)
 all_goals grind
theorem c120 (hP:cx.P = Tryz.prog) (i:Ins) (h:AH):SimCall cx 120 [i.av] h fun r h'=>h' = h ∧ r = VI (wd i:Nat):=by
 refine SimCall.gc ?_
 refine SimCall.by hP res120 ?_
 unfold x120 r120
 repeat' first
  | ((with_reducible show wx _ (XCode.cond _ _ _) _ _);refine wx_if rfl (fun _=>?_) (fun _=>?_))
  | simp (maxSteps:=1000000) only [go_sem]
 all_goals first | exact ⟨more_one,plain_v _⟩ | exact ⟨more_nil,plain_v _⟩ | refine ⟨by first | exact more_one | exact more_nil,by first | exact plain_v _ | exact plain_tup (by simp [Plain.v]),?_⟩
 all_goals try simp only [decide_eq_true_eq,decide_eq_false_iff_not,Bool.not_eq_true',Bool.not_eq_false',AV.v.injEq,AV.tup.injEq,List.cons.injEq,Value.int.injEq,Value.bool.injEq,true_and,and_true] at *
 all_goals unfold wd
 all_goals (try simp only [band] at *)
 all_goals (try simp_all)
 all_goals grind
theorem c64 (hP:cx.P = Tryz.prog) (f g:Fn) (h:AH):SimCall cx 64 [f.av,g.av] h fun r h'=>h' = h ∧ r = VB (aheadB f g):=by
 refine SimCall.gc ?_
 refine SimCall.by hP res64 ?_
 unfold x64 r64
 repeat' first
  | ((with_reducible show SemL _ _ _ _);refine SemL.of ?_)
  | simp (maxSteps:=1000000) only [go_sem]
  | ((with_reducible show wl _ (XI.mk _ (some _) (XBody.op _) :: _) _ _);first | refine wl_optF rfl (fun e2=>by ((try simp only [Bool.and_eq_true] at e2);first | (simp (maxSteps:=1000000) only [e2,go_sem];first | done | rfl))) ?_ | refine wl_opt2T rfl (fun e1 e2=>by ((try simp only [Bool.and_eq_true] at e1);first | (simp (maxSteps:=1000000) only [e1,e2,go_sem];first | done | rfl))) ?_)
 all_goals first | exact ⟨more_one,plain_v _⟩ | exact ⟨more_nil,plain_v _⟩ | refine ⟨by first | exact more_one | exact more_nil,by first | exact plain_v _ | exact plain_tup (by simp [Plain.v]),?_⟩
 all_goals try simp only [decide_eq_true_eq,decide_eq_false_iff_not,Bool.not_eq_true',Bool.not_eq_false',AV.v.injEq,AV.tup.injEq,List.cons.injEq,Value.int.injEq,Value.bool.injEq,true_and,and_true] at *
 all_goals unfold aheadB
 all_goals (try simp only [band] at *)
 all_goals (try simp_all)
 all_goals grind
def ft3:FT:=fun
 | 234=>some (x234,r234,18)
 | _=>none
theorem ft3_ok:∀ g r,ft3 g = some r → resolveF Tryz.prog g = some r:=by
 intro g r h
 unfold ft3 at h
 split at h
 ·cases h;exact res234
 ·cases h
noncomputable def okRun3 (cx:Cx):Bool:=match runF cx pm0 ft3 200 234 [VI 0,VI 5] [] with
 | some (r,H)=>flatA r && H.all flatO && (match decInts H r with
   | some l=>decide (l = [0,1,2,3,4,5])
   | none=>false)
 | none=>false
theorem run234 (w0:World) (B:Nat) (hB:B ≤ w0.heap.size) (hG:∀ (φ:Phi) g cs,arrs g = some cs → Rep w0 B φ (.rp cs) (.pointer (some ⟨g,0,none⟩))) :
 okRun3 ⟨Tryz.prog,w0,B,arrs,hB,hG⟩ = true:=by kernel_rfl
set_option maxRecDepth 100000 in
theorem c234 (hP:cx.P = Tryz.prog) (hG:cx.G = arrs) (h:AH):SimCall cx 234 [VI 0,VI 5] h fun r h'=>∃ g,h' = h ++ g ∧ ∀ g',SlI (h ++ (g ++ g')) r [0,1,2,3,4,5]:=by
 obtain ⟨P,w0,B,G,hB,hG'⟩:=cx
 simp only at hP hG
 subst hP
 subst hG
 have h1:=run234 w0 B hB hG'
 unfold okRun3 at h1
 split at h1
 ·rename_i r H hr
  simp only [Bool.and_eq_true] at h1
  obtain ⟨⟨h2,h3⟩,h4⟩:=h1
  split at h4
  ·rename_i l hl
   have hc:=SimCall.shift (fun x hx=>by rcases List.mem_cons.1 hx with rfl | hx;exact plain_v _;rw [List.mem_singleton.1 hx];exact plain_v _) (SimCall.run rfl pm0_ok ft3_ok 200 hr) h2 h3 h
   refine hc.mono ?_
   rintro r' h' ⟨rfl,rfl⟩
   have:=of_decide_eq_true h4
   subst this
   exact ⟨_,rfl,fun g'=>decInts_ok hl g'⟩
  ·cases h4
 ·cases h1
end Go.Tidy
namespace Go.Tidy
open Go Go.Eng Go.Proofs
variable {cx:Cx}
theorem slI_one {h:AH} {id:Nat} {x:Int} (hr:∀ g,AH.rd (h ++ g) id 0 = some [VI x]) (g:AH):SlI (h ++ g) (.sl id 0 0 1 1) [x]:=by
 refine ⟨rfl,fun i y hy=>?_⟩
 match i,hy with
 | 0,hy=>
   simp at hy
   subst hy
   refine ⟨.ptr id 0 0,rfl,?_⟩
   simp only [xLd1,hr g,Option.bind_some]
   rfl
theorem atomic_odd:∀ x ∈ atomicsL,¬ x = 241 → (decide (x.tmod 2 = 1) = !decide (band x 1 = 0)):=by decide +kernel
theorem atomic_imm {i:Ins} (hm:may i = 0) (hf:form i.op = 6):i.imm ∈ atomicsL:=by
 have h:=may_zero.1 hm
 have hop:i.op = 219 ∨ i.op = 195:=by
  refine Classical.byContradiction fun hn=>?_
  have:∀ n,n < 256 → form (n:Nat) = 6 → n = 219 ∨ n = 195:=by decide +kernel
  have hr:0 ≤ i.op ∧ i.op ≤ 255:=by
   refine Classical.byContradiction fun hq=>?_
   unfold form at hf
   rw [if_pos (by omega)] at hf
   cases hf
  have:=this i.op.toNat (by omega) (by rw [show ((i.op.toNat:Nat):Int) = i.op by omega];exact hf)
  omega
 have hi:(info i.op).imm = false:=by rcases hop with h | h <;> rw [h] <;> decide
 unfold may at hm
 have:=immsB_in i
 have e:immsS i.op = atomicsL:=by unfold immsS;rw [if_pos hop]
 rw [e] at this
 refine Classical.byContradiction fun hn=>?_
 rw [decide_eq_false hn] at this
 rw [this,hi] at hm
 revert hm
 repeat' split
 all_goals simp_all
set_option maxRecDepth 100000 in
set_option maxHeartbeats 4000000 in
theorem c176 (hP:cx.P = Tryz.prog) (hG:cx.G = arrs) (i:Ins) (h:AH):SimCall cx 176 [i.av] h fun r h'=>∃ g,h' = h ++ g ∧ ∀ g',SlI (h ++ (g ++ g')) r (writes i):=by
 refine SimCall.by hP res176 ?_
 unfold x176 r176
 have h121:=fun H=>c121 (cx:=cx) hP hG i H
 rw [mayR_eq] at h121
 have hnil:∀ H:AH,SlI H nilS []:=fun H=>⟨rfl,fun i x hx=>by simp at hx⟩
 by_cases hm:may i = 0
 ·skip
  repeat' first
   | ((with_reducible show SimCall _ 121 _ _ _);refine (h121 _).mono ?_;rintro r h' ⟨rfl,rfl⟩)
   | simp (maxSteps:=1000000) only [go_sem,hm]
  refine (c168 hP hG i.op _).mono ?_
  rintro r h' ⟨g,rfl,l,hl,hims,hs⟩
  obtain ⟨x,l',rfl,hx⟩:=rows_head hm hl
  rcases hs with ⟨_,hs⟩ | hs
  ·cases hs
  simp only [List.append_assoc,List.cons_append,List.nil_append] at hs
  obtain ⟨p,hp1,_,_,hp4⟩:=hs.get row_len (by decide) (k:=0) rfl
  have hp1:xIad 10 r (VI 0) = some p:=hp1
  obtain ⟨q,hq1,hq2,_⟩:=hp4 0 (VI x.1.form) rfl
  rw [hx] at hq2
  have hw0:∀ l:List Int,writes i = l → ∀ v H,(∀ g',SlI (H ++ g') v l) → ∀ g',SlI (H ++ g') v (writes i):=fun l hl v H hh=>by rw [hl];exact hh
  have hone:∀ (n:Int) (H0:AH) (g':AH),SlI (h ++ (H0 ++ [AO.cells 0 [VI n]] ++ g')) (.sl (h.length + H0.length) 0 0 1 1) [n]:=by
   intro n H0 g'
   have:=slI_one (h:=h ++ (H0 ++ [AO.cells 0 [VI n]])) (id:=h.length + H0.length) (x:=n) (fun g=>by
    rw [List.append_assoc,List.append_assoc,rd_plus]
    exact rd_self.trans rd_zero) g'
   rw [List.append_assoc] at this
   exact this
  by_cases hf3:form i.op = 3
  ·skip
   repeat' first
    | simp (maxSteps:=1000000) only [go_sem,hp1,hq1,hq2,hf3]
   have hw:writes i = [i.dst]:=by unfold writes;rw [if_neg (by simpa using hm),if_pos (by omega)]
   rw [hw]
   exact ⟨_,rfl,fun g'=>hone i.dst (.cells 0 [VI i.op,VI i.dst,VI i.src,VI i.off,VI i.imm] :: g) g'⟩
  by_cases hf2:form i.op = 2
  ·skip
   repeat' first
    | simp (maxSteps:=1000000) only [go_sem,hp1,hq1,hq2,hf2]
   have hw:writes i = [i.dst]:=by unfold writes;rw [if_neg (by simpa using hm),if_pos (by omega)]
   rw [hw]
   exact ⟨_,rfl,fun g'=>hone i.dst (.cells 0 [VI i.op,VI i.dst,VI i.src,VI i.off,VI i.imm] :: g) g'⟩
  by_cases hf4:form i.op = 4
  ·skip
   repeat' first
    | simp (maxSteps:=1000000) only [go_sem,hp1,hq1,hq2,hf4]
   have hw:writes i = [i.dst]:=by unfold writes;rw [if_neg (by simpa using hm),if_pos (by omega)]
   rw [hw]
   exact ⟨_,rfl,fun g'=>hone i.dst (.cells 0 [VI i.op,VI i.dst,VI i.src,VI i.off,VI i.imm] :: g) g'⟩
  by_cases hf10:form i.op = 10
  ·skip
   repeat' first
    | simp (maxSteps:=1000000) only [go_sem,hp1,hq1,hq2,hf10]
   have hw:writes i = [i.dst]:=by unfold writes;rw [if_neg (by simpa using hm),if_pos (by omega)]
   rw [hw]
   exact ⟨_,rfl,fun g'=>hone i.dst (.cells 0 [VI i.op,VI i.dst,VI i.src,VI i.off,VI i.imm] :: g) g'⟩
  have hn4:¬ (form i.op = 3 ∨ form i.op = 2 ∨ form i.op = 4 ∨ form i.op = 10):=by omega
  by_cases hf6:form i.op = 6
  ·by_cases h241:i.imm = 241
   ·have hd:decide (i.imm = 241) = true:=decide_eq_true h241
    repeat' first
     | simp (maxSteps:=1000000) only [go_sem,hp1,hq1,hq2,hf6,hd]
    have hw:writes i = [0]:=by unfold writes;rw [if_neg (by simpa using hm),if_neg hn4,if_pos hf6,if_pos h241]
    rw [hw]
    exact ⟨_,rfl,fun g'=>hone 0 (.cells 0 [VI i.op,VI i.dst,VI i.src,VI i.off,VI i.imm] :: g) g'⟩
   ·have hodd:=atomic_odd i.imm (atomic_imm hm hf6) h241
    repeat' first
     | ((with_reducible show wx _ (XCode.cond _ _ _) _ _);refine wx_if rfl (fun _=>?_) (fun _=>?_))
     | simp (maxSteps:=1000000) only [go_sem,hp1,hq1,hq2,hf6,h241,hodd,ne_eq,not_false_eq_true]
    ·rename_i e
     have hw:writes i = [i.src]:=by unfold writes;rw [if_neg (by simpa using hm),if_neg hn4,if_pos hf6,if_neg h241,if_pos (by simpa using e)]
     rw [hw]
     exact ⟨_,rfl,fun g'=>hone i.src (.cells 0 [VI i.op,VI i.dst,VI i.src,VI i.off,VI i.imm] :: g) g'⟩
    ·rename_i e
     have hw:writes i = []:=by unfold writes;rw [if_neg (by simpa using hm),if_neg hn4,if_pos hf6,if_neg h241,if_neg (by simpa using e)]
     rw [hw]
     exact ⟨_,rfl,fun g'=>hnil _⟩
  by_cases hf9:form i.op = 9
  ·skip
   repeat' first
    | simp (maxSteps:=1000000) only [go_sem,hp1,hq1,hq2,hf9]
   refine (c234 hP hG _).mono ?_
   rintro r2 h' ⟨g2,rfl,hsl⟩
   repeat' first
    | simp (maxSteps:=1000000) only [go_sem,hp1,hq1,hq2,hf9]
   have hw:writes i = [0,1,2,3,4,5]:=by unfold writes;rw [if_neg (by simpa using hm),if_neg hn4,if_neg hf6,if_pos hf9]
   rw [hw]
   exact ⟨_,rfl,fun g'=>by simpa only [List.append_assoc,List.cons_append] using hsl g'⟩
  repeat' first
   | simp (maxSteps:=1000000) only [go_sem,hp1,hq1,hq2,hf3,hf2,hf4,hf10,hf6,hf9]
  have hw:writes i = []:=by unfold writes;rw [if_neg (by simpa using hm),if_neg hn4,if_neg hf6,if_neg hf9]
  rw [hw]
  exact ⟨_,rfl,fun g'=>hnil _⟩
 ·skip
  repeat' first
   | ((with_reducible show SimCall _ 121 _ _ _);refine (h121 _).mono ?_;rintro r h' ⟨rfl,rfl⟩)
   | simp (maxSteps:=1000000) only [go_sem,hm]
  refine ⟨_,rfl,fun g'=>?_⟩
  have:writes i = []:=by unfold writes;rw [if_pos hm]
  rw [this]
  exact hnil _
end Go.Tidy
namespace Go.Tidy
open Go Go.Eng Go.Proofs
variable {cx:Cx}
set_option maxRecDepth 100000 in
theorem c124 (hP:cx.P = Tryz.prog) (hG:cx.G = arrs) (i:Ins) (h:AH):SimCall cx 124 [i.av] h fun r h'=>h' = h ∧ r = VB (decide (10 ∈ writes i)):=by
 refine SimCall.gc ?_
 refine SimCall.by hP res124 ?_
 unfold x124 r124
 repeat' first
  | simp (maxSteps:=1000000) only [go_sem]
 refine (c176 hP hG i _).mono ?_
 rintro r h' ⟨g,rfl,hsl⟩
 have hws:=writes_short i
 generalize writes i = ws at hsl hws
 have hsl0:=hsl []
 rw [List.append_nil] at hsl0
 simp only [List.append_assoc,List.cons_append,List.nil_append] at hsl0
 have hlen:=hsl0.1
 repeat' first
  | simp (maxSteps:=1000000) only [go_sem,hlen]
 refine SimLoop.inv [3,0] (fun k s=>∃ (j:Nat),k = ws.length - j ∧ j ≤ ws.length ∧ ((10:Int) ∈ ws ↔ (10:Int) ∈ ws.drop j) ∧
  s = ⟨[.un,.un,.un,r,VI j,.un,.un,.un,.un,.un,.un,.un,.un,.un,.un,.un,.un,.un],h ++ (.cells 0 [VI i.op,VI i.dst,VI i.src,VI i.off,VI i.imm] :: g)⟩) ?_ ws.length ?_
 rotate_left
 ·exact ⟨0,rfl,Nat.zero_le _,by rw [List.drop_zero],by simp only [go_sem];rfl⟩
 rintro k s ⟨j,rfl,hj,hall,rfl⟩
 by_cases hlt:j < ws.length
 ·obtain ⟨p,hp1,hp2⟩:=hsl0.2 j _ (List.getElem?_eq_getElem hlt)
  have hlt':((j:Int) < ws.length):=by omega
  have hw:=wrap_succ hlt (by omega)
  rw [List.drop_eq_getElem_cons hlt,List.mem_cons] at hall
  generalize ws[j] = y at hp2 hall
  repeat' first
   | ((with_reducible show wx _ (XCode.cond _ _ _) _ _);refine wx_if rfl (fun _=>?_) (fun _=>?_))
   | simp (maxSteps:=1000000) only [go_sem,hlen,hp1,hp2,hlt',hw]
  ·rename_i e
   refine ⟨more_one,plain_v _,?_⟩
   have:(10:Int) ∈ ws:=hall.2 (.inl (by simp at e;exact e.symm))
   rw [decide_eq_true this]
  ·rename_i e
   refine ⟨ws.length - (j + 1),by omega,j + 1,rfl,by omega,?_,rfl⟩
   rw [hall]
   have:¬ (10:Int) = y:=fun q=>by simp at e;exact e q.symm
   simp [this]
 ·have hlt':¬ ((j:Int) < ws.length):=by omega
  rw [List.drop_eq_nil_of_le (by omega)] at hall
  repeat' first
   | simp (maxSteps:=1000000) only [go_sem,hlen,hlt']
  refine ⟨more_one,plain_v _,?_⟩
  have:¬ (10:Int) ∈ ws:=fun q=>by have:=hall.1 q;simp at this
  rw [decide_eq_false this]
theorem c65 (hP:cx.P = Tryz.prog) {h:AH} {im:Img} {tv fv bv bodyv:AV} (hr:ImgR h tv fv bv im) {k:Nat} {f:Fn} (hf:im.funcs[k]? = some f) (h0:0 ≤ f.first) (h1:1 ≤ f.count) (h2:f.first + f.count ≤ im.text.length)
 (hs1:xSls 5 tv (some (VI f.first)) (some (VI (f.first + f.count))) = some bodyv) :
 SimCall cx 65 [.agg [tv,fv,bv,VI im.entry],VI k] h fun r h'=>r = bodyv ∧ h' = h ++ [.cells 0 [tv,fv,bv,VI im.entry]]:=by
 have c1:=hr.text.cell
 have c2:=hr.funcs.cell
 have c3:=hr.tables.cell
 have hlen:=hr.len
 have hw0:IntKind.i64.wrap (f.first + f.count) = f.first + f.count:=wrap_id (by omega) (by omega)
 obtain ⟨q,hq1,hq2,hq3,hq4⟩:=hr.funcs.get Fn.len (by decide) hf
 obtain ⟨q1,ha1,ha2,ha3⟩:=hq4 2 _ rfl
 obtain ⟨q2,hb1,hb2,hb3⟩:=hq4 3 _ rfl
 refine SimCall.by hP res65 ?_
 unfold x65 r65
 repeat' first
  | simp (maxSteps:=1000000) only [go_sem,c1,c2,c3,hq1,hq2,hq3,ha1,ha2,ha3,hb1,hb2,hb3,hs1,hw0]
set_option maxRecDepth 100000 in
set_option maxHeartbeats 2000000 in
theorem c66 (hP:cx.P = Tryz.prog) {h:AH} {v:AV} {is:List Ins} (hv:SlIns h v is) (hl:is.length < 1099511627776) (hne:0 < is.length) :
 SimCall cx 66 [v] h fun r h'=>∃ g,h' = h ++ g ∧ SlT fI 1 (h ++ g) r (beginsN (wsI is) is.length):=by
 refine SimCall.by hP res66 ?_
 unfold x66 r66
 repeat' first
  | simp (maxSteps:=1000000) only [go_sem,hv.len]
 refine SimLoop.inv [0,2,0,0] (fun k s=>∃ (i:Nat) (sv:AV) (g:AH),k = is.length - i ∧ i ≤ is.length ∧ OutN h.length sv (beginsN (wsI is) i) g ∧
  s = ⟨[v,.un,.un,sv,VI (psum (wsI is) i:Nat),VI i,.un,.un,.un,.un,.un,.un,.un,.un,.un,.un,.un,.un,.un,.un,.un,.un,.un,.un],h ++ g⟩) ?_ is.length ?_
 rotate_left
 ·exact ⟨0,_,[],rfl,Nat.zero_le _,.inl ⟨rfl,rfl,rfl⟩,by simp only [go_sem];rfl⟩
 rintro k s ⟨i,sv,g,rfl,hi,hout,rfl⟩
 have hbs:=beginsN_succ (wsI is) i
 have hbl:=beginsN_len (wsI is) i
 have hbi:=psum_bound is i
 generalize hxs:beginsN (wsI is) i = xs at hout hbs hbl
 have hxl:(xs.map VI).length = i:=by rw [List.length_map];exact hbl
 have htk:(xs.map VI).take xs.length = xs.map VI:=List.take_of_length_le (by omega)
 have hnle:¬ xs.length + 1 ≤ (xs.map VI).length:=by omega
 have hnle2:xs.length ≤ (xs.map VI).length:=by omega
 have hby:(xs.length + 1) * 8 ≤ 140737488355328:=by omega
 by_cases hlt:i < is.length
 ·have hlt':((i:Int) < is.length):=by omega
  have hw:=wrap_succ hlt (by omega)
  obtain ⟨p,hp1,hp2,hp3,hp4⟩:=hv.get Ins.len (by decide) (List.getElem?_eq_getElem hlt)
  have hps:=psum_wsI (List.getElem?_eq_getElem hlt)
  generalize is[i] = x at hp1 hp2 hp3 hp4 hps
  have hwl:=wd_le x
  have hw1:IntKind.i64.wrap (((psum (wsI is) i:Nat):Int) + (wd x:Nat)) = ((psum (wsI is) (i + 1):Nat):Int):=by rw [wrap_id (by omega) (by omega),hps];omega
  have hfin:∀ (g:AH) (sv:AV),OutN h.length sv (xs ++ [(psum (wsI is) i:Int)]) g → ∃ k',k' < is.length - i ∧ ∃ (i_1:Nat) (sv_1:AV) (g_1:AH),k' = is.length - i_1 ∧ i_1 ≤ is.length ∧ OutN h.length sv_1 (beginsN (wsI is) i_1) g_1 ∧
   (⟨[v,.un,.un,sv,VI (psum (wsI is) (i + 1):Nat),VI ((i + 1:Nat):Int),.un,.un,.un,.un,.un,.un,.un,.un,.un,.un,.un,.un,.un,.un,.un,.un,.un,.un],h ++ g⟩:XSt) = ⟨[v,.un,.un,sv_1,VI (psum (wsI is) i_1:Nat),VI i_1,.un,.un,.un,.un,.un,.un,.un,.un,.un,.un,.un,.un,.un,.un,.un,.un,.un,.un],h ++ g_1⟩:=by
   rintro g sv ho
   exact ⟨is.length - (i + 1),by omega,i + 1,sv,g,rfl,by omega,by rw [hbs];exact ho,rfl⟩
  rcases hout with ⟨rfl,rfl,rfl⟩ | ⟨g1,g2,ver,rfl,rfl⟩
  ·skip
   repeat' first
    | ((with_reducible show SimCall _ 120 _ _ _);refine (c120 hP x _).mono ?_;rintro r h' ⟨rfl,rfl⟩)
    | simp (maxSteps:=1000000) only [go_sem,hv.len,hlt',hw,hw1,hp1,hp2,hp3,List.append_nil,xRows,Nat.mul_one,Nat.zero_add,Ins.row]
   exact hfin _ _ (.inr ⟨[.cells 0 [VI (psum (wsI is) i:Nat)]],[],0,rfl,rfl⟩)
  ·skip
   repeat' first
    | ((with_reducible show SimCall _ 120 _ _ _);refine (c120 hP x _).mono ?_;rintro r h' ⟨rfl,rfl⟩)
    | simp (maxSteps:=1000000) only [go_sem,hv.len,hlt',hw,hw1,hp1,hp2,hp3,htk,hnle,hnle2,hby,xRows,Nat.mul_one,Nat.zero_add,Ins.row]
   exact hfin _ _ (.inr ⟨g1,g2 ++ [.cells 0 [VI (psum (wsI is) i:Nat)]],ver + 1,by simp,by simp⟩)
 ·have hlt':¬ ((i:Int) < is.length):=by omega
  have hin:i = is.length:=by omega
  subst hin
  rcases hout with ⟨rfl,rfl,rfl⟩ | ⟨g1,g2,ver,rfl,rfl⟩
  ·simp at hbl
   omega
  ·skip
   repeat' first
    | simp (maxSteps:=1000000) only [go_sem,hv.len,hlt',htk,hnle,hnle2,hby,xRows,Nat.mul_one,Nat.zero_add]
   refine ⟨_,rfl,?_⟩
   rw [hxs]
   refine SlT.whole (f:=fI) (l:=xs.map VI) (fun g=>?_) fI_len (flat_fI _).symm
   simp only [go_sem]
end Go.Tidy
namespace Go.Tidy
open Go Go.Eng Go.Proofs
variable {cx:Cx}
theorem psum_lt' {is:List Ins} {k t:Nat} (h:k < t) (ht:t ≤ is.length):psum (wsI is) k + 1 ≤ psum (wsI is) t:=
 psum_lt (wsI is) (fun w hw=>by unfold wsI at hw;obtain ⟨i,_,rfl⟩:=List.mem_map.1 hw;exact wd_pos i) h (by simpa [wsI] using ht)
set_option maxRecDepth 100000 in
set_option maxHeartbeats 2000000 in
theorem c123 (hP:cx.P = Tryz.prog) {h:AH} {v sv:AV} {is:List Ins} (hv:SlIns h v is) (hs:SlT fI 1 h sv (beginsN (wsI is) is.length)) (hl:is.length < 1099511627776) {k:Nat} {i:Ins} (hk:is[k]? = some i)
 (hfar:-9000000000000000000 ≤ i.far ∧ i.far ≤ 9000000000000000000) :
 SimCall cx 123 [v,sv,VI k] h fun r h'=>h' = h ∧ ∃ x:Int,r = VI x ∧ ((∃ t:Nat,x = t ∧ t < is.length ∧ (psum (wsI is) t:Int) = psum (wsI is) k + 1 + i.far) ∨ (x < 0 ∧ ¬ ∃ t,t < is.length ∧ (psum (wsI is) t:Int) = psum (wsI is) k + 1 + i.far)):=by
 have hkl:=(List.getElem?_eq_some_iff.1 hk).1
 obtain ⟨p,hp1,_,_,hp4⟩:=hv.get Ins.len (by decide) hk
 obtain ⟨pf,hf1,hf2,_⟩:=hp4 3 _ rfl
 obtain ⟨po,ho1,ho2,_⟩:=hp4 0 _ rfl
 obtain ⟨pm,hm1,hm2,_⟩:=hp4 4 _ rfl
 have hgt:∀ j,j < is.length → (beginsN (wsI is) is.length)[j]? = some (psum (wsI is) j:Int):=by
  intro j hj
  unfold beginsN
  rw [List.getElem?_map,List.getElem?_range hj]
  rfl
 have hsI:=hs.toI
 have hlen:=hs.len
 rw [beginsN_len] at hlen
 obtain ⟨pk,hk1,hk2⟩:=hsI.2 k _ (hgt k hkl)
 have hbk:=psum_bound is k
 have hfo:i.far = if i.op = 6 then i.imm else i.off:=rfl
 have hw1:IntKind.i64.wrap (((psum (wsI is) k:Nat):Int) + 1) = ((psum (wsI is) k:Nat):Int) + 1:=wrap_id (by omega) (by omega)
 obtain ⟨to,hto⟩:∃ to:Int,to = ((psum (wsI is) k:Nat):Int) + 1 + i.far:=⟨_,rfl⟩
 have hw2:IntKind.i64.wrap (((psum (wsI is) k:Nat):Int) + 1 + i.far) = to:=by rw [hto];exact wrap_id (by omega) (by omega)
 rw [← hto]
 refine SimCall.gc ?_
 refine SimCall.by hP res123 ?_
 unfold x123 r123
 by_cases h6:i.op = 6
 case' pos=>
  have hfi:i.imm = i.far:=by rw [hfo,if_pos h6]
  rw [hfi] at hm2
  have h6':decide (i.op = 6) = true:=decide_eq_true h6
  repeat' first
   | simp (maxSteps:=1000000) only [go_sem,hp1,hf1,hf2,ho1,ho2,hm1,hm2,hk1,hk2,hw1,hw2,h6',hlen]
 case' neg=>
  have hfi:i.off = i.far:=by rw [hfo,if_neg h6]
  rw [hfi] at hf2
  have h6':decide (i.op = 6) = false:=decide_eq_false h6
  repeat' first
   | simp (maxSteps:=1000000) only [go_sem,hp1,hf1,hf2,ho1,ho2,hm1,hm2,hk1,hk2,hw1,hw2,h6',hlen]
 all_goals
  refine SimLoop.inv [1,6,0,0] (fun m s=>∃ (a b:Nat),m = b - a ∧ a ≤ b ∧ b ≤ is.length ∧ (∀ j,j < a → (psum (wsI is) j:Int) < to) ∧ (∀ j,b ≤ j → j < is.length → to ≤ (psum (wsI is) j:Int)) ∧
   s = ⟨[.un,sv,.un,.un,.un,.un,.un,.un,VI to,VI a,VI b,.un,.un,.un,.un,.un,.un,.un,.un,.un,.un,.un,.un,.un,.un,.un,.un,.un,.un,.un,.un,.un,.un,.un,.un,.un,.un,.un,.un,.un,.un,.un,.un,.un,.un,.un,.un,.un,.un,.un,.un,.un,.un,.un,.un,.un,.un,.un,.un,.un,.un,.un,.un,.un,.un,.un],h⟩) ?_ is.length ?_
  rotate_left
  ·exact ⟨0,is.length,rfl,Nat.zero_le _,Nat.le_refl _,fun j hj=>absurd hj (by omega),fun j h1 h2=>absurd h1 (by omega),by simp only [go_sem];rfl⟩
  rintro m s ⟨a,b,rfl,hab,hb,hlo,hhi,rfl⟩
  by_cases hlt:a < b
  ·have hlt':((a:Int) < b):=by omega
   have hwa:IntKind.i64.wrap ((a:Int) + b) = ((a + b:Nat):Int):=by rw [wrap_id (by omega) (by omega)];omega
   have hwd:IntKind.i64.wrap ((((a + b:Nat)):Int).tdiv 2) = (((a + b) / 2:Nat):Int):=by
    rw [Int.tdiv_eq_ediv_of_nonneg (by omega),wrap_id (by omega) (by omega)];omega
   have hmid:(a + b) / 2 < is.length:=by omega
   obtain ⟨pj,hj1,hj2⟩:=hsI.2 _ _ (hgt ((a + b) / 2) hmid)
   have hws:=wrap_succ hmid (by omega)
   have hlm:a ≤ (a + b) / 2 ∧ (a + b) / 2 < b:=by omega
   generalize hmd:(a + b) / 2 = md at hwd hmid hj1 hj2 hws hlm
   repeat' first
    | ((with_reducible show wx _ (XCode.cond _ _ _) _ _);refine wx_if rfl (fun _=>?_) (fun _=>?_))
    | simp (maxSteps:=1000000) only [go_sem,hlt',hwa,hwd,hj1,hj2,hws,ne_eq,not_false_eq_true]
   ·rename_i e
    simp at e
    refine ⟨b - (md + 1),by omega,md + 1,b,rfl,by omega,hb,?_,hhi,rfl⟩
    intro j hj
    by_cases hjm:j = md
    ·rw [hjm];exact e
    ·have:=psum_lt' (is:=is) (k:=j) (t:=md) (by omega) (by omega)
     omega
   ·rename_i e
    simp at e
    refine ⟨md - a,by omega,a,md,rfl,by omega,by omega,hlo,?_,rfl⟩
    intro j hj hjl
    by_cases hjm:j = md
    ·rw [hjm];exact e
    ·have:=psum_lt' (is:=is) (k:=md) (t:=j) (by omega) (by omega)
     omega
  ·have hlt':¬ ((a:Int) < b):=by omega
   have hab2:a = b:=by omega
   subst hab2
   have hnone:(∃ t,t < is.length ∧ (psum (wsI is) t:Int) = to) → a < is.length ∧ (psum (wsI is) a:Int) = to:=by
    rintro ⟨t,ht,hte⟩
    have h1:¬ t < a:=fun q=>by have:=hlo t q;omega
    by_cases hta:t = a
    ·subst hta;exact ⟨ht,hte⟩
    ·have h2:=hhi a (Nat.le_refl _) (by omega)
     have h3:=psum_lt' (is:=is) (k:=a) (t:=t) (by omega) (by omega)
     omega
   by_cases hal:a < is.length
   ·have hal':((a:Int) < is.length):=by omega
    obtain ⟨pj,hj1,hj2⟩:=hsI.2 _ _ (hgt a hal)
    repeat' first
     | ((with_reducible show wx _ (XCode.cond _ _ _) _ _);refine wx_if rfl (fun _=>?_) (fun _=>?_))
     | ((with_reducible show SemL _ _ _ _);refine SemL.of ?_)
     | simp (maxSteps:=1000000) only [go_sem,hlt',hal',hlen,hj1,hj2]
    ·rename_i e
     simp at e
     exact ⟨more_nil,plain_v _,a,rfl,.inl ⟨a,rfl,hal,e⟩⟩
    ·rename_i e
     simp at e
     exact ⟨more_nil,plain_v _,-1,rfl,.inr ⟨by decide,fun q=>e (hnone q).2⟩⟩
   ·have hal':¬ ((a:Int) < is.length):=by omega
    repeat' first
     | ((with_reducible show SemL _ _ _ _);refine SemL.of ?_)
     | simp (maxSteps:=1000000) only [go_sem,hlt',hal',hlen]
    exact ⟨more_nil,plain_v _,-1,rfl,.inr ⟨by decide,fun q=>hal (hnone q).1⟩⟩
theorem form_all:∀ n,n < 256 → (form (n:Nat) = 7 ↔ n = 5 ∨ n = 6) ∧ (form (n:Nat) = 1 ↔ n = 149) ∧ (form (n:Nat) = 9 ↔ n = 133):=by decide +kernel
theorem form_ops {op:Int}:(form op = 7 ↔ op = 5 ∨ op = 6) ∧ (form op = 1 ↔ op = 149) ∧ (form op = 9 ↔ op = 133):=by
 by_cases hr:0 ≤ op ∧ op ≤ 255
 ·have:=form_all op.toNat (by omega)
  rw [show ((op.toNat:Nat):Int) = op by omega] at this
  refine ⟨this.1.trans ⟨fun _=>by omega,fun _=>by omega⟩,this.2.1.trans ⟨fun _=>by omega,fun _=>by omega⟩,this.2.2.trans ⟨fun _=>by omega,fun _=>by omega⟩⟩
 ·have:form op = 0:=by unfold form;rw [if_pos (by omega)]
  rw [this]
  refine ⟨⟨(fun q=>by cases q),(fun q=>by omega)⟩,⟨(fun q=>by cases q),(fun q=>by omega)⟩,⟨(fun q=>by cases q),(fun q=>by omega)⟩⟩
open Classical in
set_option maxRecDepth 100000 in
set_option maxHeartbeats 8000000 in
theorem c67 (hP:cx.P = Tryz.prog) (hG:cx.G = arrs) {h:AH} {im:Img} {tv fv bv v sv:AV} {is:List Ins} (hr:ImgR h tv fv bv im) (hv:SlIns h v is) (hs:SlT fI 1 h sv (beginsN (wsI is) is.length)) (hl:is.length < 1099511627776)
 {k:Nat} {i:Ins} (hk:is[k]? = some i) (hfar:-9000000000000000000 ≤ i.far ∧ i.far ≤ 9000000000000000000) :
 SimCall cx 67 [.agg [tv,fv,bv,VI im.entry],v,sv,VI k] h fun r h'=>h' = h ∧ r = VI (codeOf im.funcs.length im.tables.length is k i):=by
 have c1:=hr.text.cell
 have c2:=hr.funcs.cell
 have c3:=hr.tables.cell
 have hkl:=(List.getElem?_eq_some_iff.1 hk).1
 obtain ⟨p,hp1,hp2,hp3,_⟩:=hv.get Ins.len (by decide) hk
 have h121:=fun H=>c121 (cx:=cx) hP hG i H
 rw [mayR_eq] at h121
 have hsub:IntKind.i64.wrap ((is.length:Int) - 1) = (is.length:Int) - 1:=wrap_id (by omega) (by omega)
 refine SimCall.gc ?_
 refine SimCall.by hP res67 ?_
 unfold x67 r67
 by_cases hm:may i = 0
 case neg=>
  repeat' first
   | ((with_reducible show SimCall _ 121 _ _ _);refine (h121 _).mono ?_;rintro r h' ⟨rfl,rfl⟩)
   | simp (maxSteps:=1000000) only [go_sem,c1,c2,c3,hp1,hp2,hp3,hm,Ins.row]
  refine ⟨more_one,plain_v _,?_⟩
  unfold codeOf
  rw [if_pos hm]
 have hF:=form_ops (op:=i.op)
 have J1:jumps i = 1 ↔ (i.op = 5 ∨ i.op = 6):=by unfold jumps;rw [if_neg (by simpa using hm)];rw [← hF.1];repeat' split
                                                 all_goals simp_all
 have J4:jumps i = 4 ↔ i.op = 149:=by unfold jumps;rw [if_neg (by simpa using hm)];rw [← hF.2.1];repeat' split
                                      all_goals simp_all
 have J3:jumps i = 3 ↔ (i.op = 133 ∧ i.src = 1):=by unfold jumps;rw [if_neg (by simpa using hm)];rw [← hF.2.2];repeat' split
                                                    all_goals simp_all
 have F9:=hF.2.2
 have hvl:=hv.len
 have hfl:=hr.funcs.len
 have htl:=hr.tables.len
 have hcode:¬ (leads i = true ∧ ¬ ∃ t,t < is.length ∧ (psum (wsI is) t:Int) = psum (wsI is) k + 1 + i.far) → codeOf im.funcs.length im.tables.length is k i =
  if k + 1 = is.length ∧ ¬ (i.op = 5 ∨ i.op = 6) ∧ ¬ i.op = 149 then 193 else if 10 ∈ writes i then 194 else if (i.op = 133 ∧ i.src = 1) ∧ ¬ (0 ≤ i.imm ∧ i.imm < im.funcs.length) then 195
  else if i.op = 24 ∧ i.src = 1 ∧ ¬ (0 ≤ i.imm ∧ i.imm < im.tables.length) then 196 else if i.op = 133 ∧ i.src = 0 ∧ (i.imm < 1 ∨ 4 < i.imm) then 197 else 0:=by
  intro hq
  unfold codeOf
  rw [if_neg (by simpa using hm),if_neg hq]
  simp only [J1,J3,J4,F9]
 by_cases hle:leads i = true
 case' pos=>
  repeat' first
   | ((with_reducible show SemL _ _ _ _);refine SemL.of ?_)
   | ((with_reducible show SimCall _ 121 _ _ _);refine (h121 _).mono ?_;rintro r h' ⟨rfl,rfl⟩)
   | ((with_reducible show SimCall _ 122 _ _ _);refine (c122 hP hG i _).mono ?_;rintro r h' ⟨rfl,rfl⟩)
   | simp (maxSteps:=1000000) only [go_sem,c1,c2,c3,hp1,hp2,hp3,hm,hle,Ins.row]
  refine (c123 hP (hv.more _) (hs.more _) hl hk hfar).mono ?_
  rintro r h' ⟨rfl,x,rfl,hx⟩
  rcases hx with ⟨t,rfl,ht1,ht2⟩ | ⟨hx,hno⟩
  case' inr=>
   repeat' first
    | simp (maxSteps:=1000000) only [go_sem,c1,c2,c3,hp1,hp2,hp3,hx]
   refine ⟨more_one,plain_v _,?_⟩
   unfold codeOf
   rw [if_neg (by simpa using hm),if_pos ⟨hle,hno⟩]
  have hx:¬ ((t:Int) < 0):=by omega
  have hq:¬ (leads i = true ∧ ¬ ∃ t,t < is.length ∧ (psum (wsI is) t:Int) = psum (wsI is) k + 1 + i.far):=fun q=>q.2 ⟨t,ht1,ht2⟩
  repeat' first
   | ((with_reducible show wx _ (XCode.cond _ _ _) _ _);refine wx_if rfl (fun _=>?_) (fun _=>?_))
   | ((with_reducible show SemL _ _ _ _);refine SemL.of ?_)
   | ((with_reducible show SimCall _ 124 _ _ _);refine (c124 hP hG i _).mono ?_;rintro r h' ⟨rfl,rfl⟩)
   | simp (maxSteps:=1000000) only [go_sem,c1,c2,c3,hp1,hp2,hp3,hx,hvl,hfl,htl,hsub]
   | ((with_reducible show wl _ (XI.mk _ (some _) (XBody.op _) :: _) _ _);first | refine wl_optT rfl (fun e2=>by ((try simp only [Bool.and_eq_true] at e2);first | (simp (maxSteps:=1000000) only [e2,go_sem,c1,c2,c3,hp1,hp2,hp3,hx,hvl,hfl,htl,hsub];first | done | rfl))) ?_ | refine wl_opt2F rfl (fun e1 e2=>by ((try simp only [Bool.and_eq_true] at e1);first | (simp (maxSteps:=1000000) only [e1,e2,go_sem,c1,c2,c3,hp1,hp2,hp3,hx,hvl,hfl,htl,hsub];first | done | rfl))) ?_)
 case' neg=>
  have hle2:leads i = false:=by simpa using hle
  have hq:¬ (leads i = true ∧ ¬ ∃ t,t < is.length ∧ (psum (wsI is) t:Int) = psum (wsI is) k + 1 + i.far):=fun q=>hle q.1
  repeat' first
   | ((with_reducible show wx _ (XCode.cond _ _ _) _ _);refine wx_if rfl (fun _=>?_) (fun _=>?_))
   | ((with_reducible show SemL _ _ _ _);refine SemL.of ?_)
   | ((with_reducible show SimCall _ 121 _ _ _);refine (h121 _).mono ?_;rintro r h' ⟨rfl,rfl⟩)
   | ((with_reducible show SimCall _ 122 _ _ _);refine (c122 hP hG i _).mono ?_;rintro r h' ⟨rfl,rfl⟩)
   | ((with_reducible show SimCall _ 124 _ _ _);refine (c124 hP hG i _).mono ?_;rintro r h' ⟨rfl,rfl⟩)
   | simp (maxSteps:=1000000) only [go_sem,c1,c2,c3,hp1,hp2,hp3,hm,hle2,hvl,hfl,htl,hsub,Ins.row]
   | ((with_reducible show wl _ (XI.mk _ (some _) (XBody.op _) :: _) _ _);first | refine wl_optT rfl (fun e2=>by ((try simp only [Bool.and_eq_true] at e2);first | (simp (maxSteps:=1000000) only [e2,go_sem,c1,c2,c3,hp1,hp2,hp3,hm,hle2,hvl,hfl,htl,hsub,Ins.row];first | done | rfl))) ?_ | refine wl_opt2F rfl (fun e1 e2=>by ((try simp only [Bool.and_eq_true] at e1);first | (simp (maxSteps:=1000000) only [e1,e2,go_sem,c1,c2,c3,hp1,hp2,hp3,hm,hle2,hvl,hfl,htl,hsub,Ins.row];first | done | rfl))) ?_)
   | ((with_reducible show wl _ (XI.mk _ (some _) (XBody.call (XO.f 124) _) :: _) _ _);refine wl_optcF rfl rfl (fun e2=>by simp (maxSteps:=1000000) only [e2,go_sem,c1,c2,c3,hp1,hp2,hp3,hm,hle2,hvl,hfl,htl,hsub,Ins.row];exact (c124 hP hG i _)) ?_)
 all_goals refine ⟨more_one,plain_v _,?_⟩
 all_goals rw [hcode hq]
 all_goals clear hcode J1 J3 J4 F9 hF h121 hvl hfl htl hsub hp1 hp2 hp3 c1 c2 c3 hq hle hr hv hs hfar hm hk hl
 all_goals simp only [AV.v.injEq,Value.int.injEq,true_and]
 all_goals grind
end Go.Tidy
namespace Go.Tidy
open Go Go.Eng Go.Proofs
variable {cx:Cx}
def nw (ls:List (List Int)):Nat → Nat → Bool
 | 0,_=>true
 | k + 1,f=>(ls[f]?.getD []).any fun c=>nw ls k c.toNat
def nwc (ls:List (List Int)):Nat → Nat → Nat
 | 0,_=>0
 | n + 1,f=>nwc ls n f + (nw ls n f).toNat
theorem nwc_le (ls:List (List Int)) (f:Nat):∀ n,nwc ls n f ≤ n
 | 0=>Nat.le_refl _
 | n + 1=>by have:=nwc_le ls f n;have:=Bool.toNat_le (nw ls n f);unfold nwc;omega
theorem nwc_step {ls:List (List Int)} {f:Nat} {cs:List Int} (hf:ls[f]? = some cs) {c:Int} (hc:c ∈ cs):∀ n,1 + nwc ls n c.toNat ≤ nwc ls (n + 1) f
 | 0=>by simp [nwc,nw]
 | n + 1=>by
   have h1:=nwc_step hf hc n
   have h2:(nw ls n c.toNat).toNat ≤ (nw ls (n + 1) f).toNat:=by
    cases h:nw ls n c.toNat with
    | false=>simp
    | true=>
      have:nw ls (n + 1) f = true:=by
       unfold nw
       rw [hf]
       exact List.any_eq_true.2 ⟨c,hc,h⟩
      rw [this]
      exact Nat.le_refl _
   rw [show nwc ls (n + 1) c.toNat = nwc ls n c.toNat + (nw ls n c.toNat).toNat from rfl,show nwc ls (n + 1 + 1) f = nwc ls (n + 1) f + (nw ls (n + 1) f).toNat from rfl]
   omega
theorem nw_rank {ls:List (List Int)} (hin:∀ xs ∈ ls,∀ c ∈ xs,0 ≤ c ∧ c < ls.length):(∀ f,f < ls.length → nw ls 8 f = false) ↔ RankOk ls:=by
 constructor
 ·intro h
  refine ⟨nwc ls 8,fun i cs hi c hc=>?_,fun i hi=>⟨?_,nwc_le _ _ _⟩⟩
  ·have h1:=nwc_step hi hc 8
   have h2:nwc ls (8 + 1) i = nwc ls 8 i + (nw ls 8 i).toNat:=rfl
   rw [h i (List.getElem?_eq_some_iff.1 hi).1,Bool.toNat_false,Nat.add_zero] at h2
   omega
  ·simp only [nwc,nw,Bool.toNat_true]
   omega
 ·rintro ⟨r,h1,h2⟩
  have key:∀ k f,f < ls.length → nw ls k f = true → k + 1 ≤ r f:=by
   intro k
   induction k with
   | zero=>intro f hf _;exact (h2 f hf).1
   | succ k ih=>
     intro f hf hn
     unfold nw at hn
     rw [List.getElem?_eq_getElem hf] at hn
     obtain ⟨c,hc,hcn⟩:=List.any_eq_true.1 hn
     have hr:=hin _ (List.getElem_mem hf) c hc
     have:=ih c.toNat (by omega) hcn
     have:=h1 f _ (List.getElem?_eq_getElem hf) c hc
     omega
  intro f hf
  cases h:nw ls 8 f with
  | false=>rfl
  | true=>
    have:=key 8 f hf h
    have:=(h2 f hf).2
    omega
def nwL (ls:List (List Int)) (k n:Nat):List Bool:=(List.range n).map (nw ls k)
theorem nwL_len (ls:List (List Int)) (k n:Nat):(nwL ls k n).length = n:=by simp [nwL]
theorem nwL_succ (ls:List (List Int)) (k n:Nat):nwL ls k (n + 1) = nwL ls k n ++ [nw ls k n]:=by simp [nwL,List.range_succ]
theorem nwL_get {ls:List (List Int)} {k n i:Nat} (h:i < n):(nwL ls k n)[i]? = some (nw ls k i):=by
 unfold nwL
 rw [List.getElem?_map,List.getElem?_range h]
 rfl
theorem jumps3 {i:Ins} (hm:may i = 0):jumps i = 3 ↔ i.op = 133 ∧ i.src = 1:=by
 have hF:=(form_ops (op:=i.op)).2.2
 have hF1:=(form_ops (op:=i.op)).1
 have hF2:=(form_ops (op:=i.op)).2.1
 unfold jumps
 rw [if_neg (by simpa using hm),← hF]
 repeat' split
 all_goals simp_all
abbrev fB (x:Bool):List AV:=[VB x]
theorem fB_len (x:Bool):(fB x).length = 1:=rfl
theorem flat_fB (xs:List Bool):xs.flatMap fB = xs.map VB:=by
 induction xs with
 | nil=>rfl
 | cons x r ih=>simp [List.flatMap_cons,ih]
def OutB (L n:Nat) (sv:AV) (xs:List Bool) (g:AH):Prop:=
 (xs = [] ∧ sv = nilS ∧ g = []) ∨ ∃ g1 g2 ver,g = g1 ++ AO.cells ver (xs.map VB) :: g2 ∧ sv = .sl (L + (g1.length + n)) ver 0 xs.length 1
theorem OutB.slt {h p:AH} {sv:AV} {xs:List Bool} {g:AH} (o:OutB h.length p.length sv xs g) (hne:0 < xs.length):SlT fB 1 (h ++ (p ++ g)) sv xs:=by
 rcases o with ⟨rfl,_,_⟩ | ⟨g1,g2,ver,rfl,rfl⟩
 ·simp at hne
 ·refine SlT.whole (f:=fB) (l:=xs.map VB) (fun g=>?_) fB_len (flat_fB _).symm
  rw [Nat.add_comm g1.length]
  simp only [go_sem]
theorem any_calls (is:List Ins) (hm:∀ i ∈ is,may i = 0) (p:Int → Bool):(callsOf is).any p = is.any fun i=>decide (i.op = 133) && decide (i.src = 1) && p i.imm:=by
 induction is with
 | nil=>rfl
 | cons i r ih=>
   have h1:=jumps3 (hm i (by simp))
   have h2:=ih fun x hx=>hm x (by simp [hx])
   unfold callsOf at h2 ⊢
   by_cases h3:jumps i = 3
   ·simp only [List.filter_cons,decide_eq_true h3,if_true,List.map_cons,List.any_cons,h2,decide_eq_true (h1.1 h3).1,decide_eq_true (h1.1 h3).2,Bool.true_and]
   ·have h4:(decide (i.op = 133) && decide (i.src = 1)) = false:=by
     cases h:(decide (i.op = 133) && decide (i.src = 1)) with
     | false=>rfl
     | true=>simp at h;exact absurd (h1.2 h) h3
    simp [List.filter_cons,h3,h2,h4]
theorem SlT.getB {h:AH} {v:AV} {xs:List Bool} (s:SlT fB 1 h v xs) {k:Nat} {x:Bool} (hx:xs[k]? = some x):∃ p,xIad 1 v (VI k) = some p ∧ ∀ g,xLd1 (h ++ g) p = some (VB x):=by
 obtain ⟨p,h1,_,_,h4⟩:=s.get fB_len (by decide) hx
 obtain ⟨q,q1,_,q3⟩:=h4 0 _ rfl
 refine ⟨p,h1,fun g=>?_⟩
 have q3:=q3 g
 cases p <;> simp_all [xFad,xLd1]
 all_goals
  subst q1
  simpa [xLd1] using q3 g
set_option maxRecDepth 100000 in
set_option maxHeartbeats 8000000 in
theorem c68 (hP:cx.P = Tryz.prog) {h:AH} {im:Img} {tv fv bv:AV} (hr:ImgR h tv fv bv im) (hfs:∀ f ∈ im.funcs,0 ≤ f.first ∧ 1 ≤ f.count ∧ f.first + f.count ≤ im.text.length) (hne:0 < im.funcs.length)
 (hbods:∀ f ∈ im.funcs,BodyOk im.funcs.length im.tables.length (body im.text f)) :
 SimCall cx 68 [.agg [tv,fv,bv,VI im.entry],VI 8] h fun r h'=>∃ g,h' = h ++ g ∧ SlT fB 1 (h ++ g) r (nwL (im.funcs.map fun f=>callsOf (body im.text f)) 8 im.funcs.length):=by
 generalize hls:(im.funcs.map fun f=>callsOf (body im.text f)) = ls
 have hlsl:ls.length = im.funcs.length:=by rw [← hls,List.length_map]
 have c1:=hr.text.cell
 have c2:=hr.funcs.cell
 have c3:=hr.tables.cell
 have hfl:=hr.funcs.len
 have hnf:=hr.nf
 refine SimCall.by hP res68 ?_
 unfold x68 r68
 repeat' first
  | simp (maxSteps:=1000000) only [go_sem,c1,c2,c3]
 refine SimLoop.inv [1,0,2,0] (fun k s=>∃ (i:Nat) (sv:AV) (g:AH),k = im.funcs.length - i ∧ i ≤ im.funcs.length ∧ OutB h.length 1 sv (nwL ls 0 i) g ∧
  s = ⟨[.un,VI 8,.ptr h.length 0 0,.un,.un,sv,VI i,.un,.un,.un,.un,.un,.un,.un,.un,.un,.un,.un,.un,.un,.un,.un,.un,.un,.un,.un,.un,.un,.un,.un,.un,.un,.un,.un,.un,.un,.un,.un,.un,.un,.un,.un,.un,.un,.un,.un,.un,.un,.un,.un,.un,.un,.un,.un,.un,.un,.un,.un,.un,.un,.un,.un,.un,.un,.un,.un,.un,.un,.un,.un,.un,.un,.un,.un,.un,.un,.un,.un],h ++ (.cells 0 [tv,fv,bv,VI im.entry] :: g)⟩) ?_ im.funcs.length ?_
 rotate_left
 ·exact ⟨0,_,[],rfl,Nat.zero_le _,.inl ⟨rfl,rfl,rfl⟩,by simp only [go_sem];rfl⟩
 rintro k s ⟨i,sv,g,rfl,hi,hout,rfl⟩
 by_cases hlt:i < im.funcs.length
 ·have hlt':((i:Int) < im.funcs.length):=by omega
  have hw:=wrap_succ hlt (by omega)
  have hbs:=nwL_succ ls 0 i
  have hbl:=nwL_len ls 0 i
  have hn0:nw ls 0 i = true:=rfl
  rw [hn0] at hbs
  generalize nwL ls 0 i = xs at hout hbs hbl
  have hxl:(xs.map VB).length = i:=by rw [List.length_map];exact hbl
  have htk:(xs.map VB).take xs.length = xs.map VB:=List.take_of_length_le (by omega)
  have hnle:¬ xs.length + 1 ≤ (xs.map VB).length:=by omega
  have hnle2:xs.length ≤ (xs.map VB).length:=by omega
  have hby:xs.length ≤ 140737488355327:=by omega
  have hfin:∀ (g:AH) (sv:AV),OutB h.length 1 sv (xs ++ [true]) g → ∃ k',k' < im.funcs.length - i ∧ ∃ (i_1:Nat) (sv_1:AV) (g_1:AH),k' = im.funcs.length - i_1 ∧ i_1 ≤ im.funcs.length ∧ OutB h.length 1 sv_1 (nwL ls 0 i_1) g_1 ∧
   (⟨[.un,VI 8,.ptr h.length 0 0,.un,.un,sv,VI ((i + 1:Nat):Int),.un,.un,.un,.un,.un,.un,.un,.un,.un,.un,.un,.un,.un,.un,.un,.un,.un,.un,.un,.un,.un,.un,.un,.un,.un,.un,.un,.un,.un,.un,.un,.un,.un,.un,.un,.un,.un,.un,.un,.un,.un,.un,.un,.un,.un,.un,.un,.un,.un,.un,.un,.un,.un,.un,.un,.un,.un,.un,.un,.un,.un,.un,.un,.un,.un,.un,.un,.un,.un,.un,.un],h ++ (.cells 0 [tv,fv,bv,VI im.entry] :: g)⟩:XSt) = ⟨[.un,VI 8,.ptr h.length 0 0,.un,.un,sv_1,VI i_1,.un,.un,.un,.un,.un,.un,.un,.un,.un,.un,.un,.un,.un,.un,.un,.un,.un,.un,.un,.un,.un,.un,.un,.un,.un,.un,.un,.un,.un,.un,.un,.un,.un,.un,.un,.un,.un,.un,.un,.un,.un,.un,.un,.un,.un,.un,.un,.un,.un,.un,.un,.un,.un,.un,.un,.un,.un,.un,.un,.un,.un,.un,.un,.un,.un,.un,.un,.un,.un,.un,.un],h ++ (.cells 0 [tv,fv,bv,VI im.entry] :: g_1)⟩:=by
   rintro g sv ho
   exact ⟨im.funcs.length - (i + 1),by omega,i + 1,sv,g,rfl,by omega,by rw [hbs];exact ho,rfl⟩
  rcases hout with ⟨rfl,rfl,rfl⟩ | ⟨g1,g2,ver,rfl,rfl⟩
  ·skip
   repeat' first
    | simp (maxSteps:=1000000) only [go_sem,hfl,hlt',hw,c1,c2,c3,List.append_nil,xRows,Nat.mul_one,Nat.zero_add]
   exact hfin _ _ (.inr ⟨[.cells 0 [VB true]],[],0,rfl,rfl⟩)
  ·skip
   repeat' first
    | simp (maxSteps:=1000000) only [go_sem,hfl,hlt',hw,c1,c2,c3,htk,hnle,hnle2,hby,xRows,Nat.mul_one,Nat.zero_add]
   exact hfin _ _ (.inr ⟨g1,g2 ++ [.cells 0 [VB true]],ver + 1,by simp,by simp⟩)
 have hlt':¬ ((i:Int) < im.funcs.length):=by omega
 have hin:i = im.funcs.length:=by omega
 subst hin
 repeat' first
  | simp (maxSteps:=1000000) only [go_sem,hfl,hlt',c1,c2,c3]
 have hnow:=hout.slt (h:=h) (p:=[.cells 0 [tv,fv,bv,VI im.entry]]) (by rw [nwL_len];exact hne)
 clear hout hlt hlt' hi
 rw [List.singleton_append] at hnow
 refine SimLoop.inv [1,0,2,1] (fun k s=>∃ (m:Nat) (sv:AV) (g:AH),k = 8 - m ∧ m ≤ 8 ∧ SlT fB 1 (h ++ (.cells 0 [tv,fv,bv,VI im.entry] :: g)) sv (nwL ls m im.funcs.length) ∧
  s = ⟨[.un,VI 8,.ptr h.length 0 0,.un,.un,sv,.un,VI m,.un,.un,.un,.un,.un,.un,.un,.un,.un,.un,.un,.un,.un,.un,.un,.un,.un,.un,.un,.un,.un,.un,.un,.un,.un,.un,.un,.un,.un,.un,.un,.un,.un,.un,.un,.un,.un,.un,.un,.un,.un,.un,.un,.un,.un,.un,.un,.un,.un,.un,.un,.un,.un,.un,.un,.un,.un,.un,.un,.un,.un,.un,.un,.un,.un,.un,.un,.un,.un,.un],h ++ (.cells 0 [tv,fv,bv,VI im.entry] :: g)⟩) ?_ 8 ?_
 rotate_left
 ·exact ⟨0,sv,g,rfl,Nat.zero_le _,hnow,by simp only [go_sem];rfl⟩
 clear hnow
 rintro k s ⟨m,sv,g,rfl,hm,hnow,rfl⟩
 by_cases hlt:m < 8
 case neg=>
  have hlt':¬ ((m:Int) < 8):=by omega
  have hm8:m = 8:=by omega
  subst hm8
  repeat' first
   | simp (maxSteps:=1000000) only [go_sem,hlt']
  exact ⟨_,rfl,hnow⟩
 have hlt':((m:Int) < 8):=by omega
 have hwm:IntKind.i64.wrap ((m:Int) + 1) = ((m + 1:Nat):Int):=by rw [wrap_id (by omega) (by omega)];omega
 repeat' first
  | simp (maxSteps:=1000000) only [go_sem,hlt']
 refine SimLoop.inv [1,0,2,1,0,0] (fun k s=>∃ (i:Nat) (nv:AV) (g':AH),k = im.funcs.length - i ∧ i ≤ im.funcs.length ∧ OutB h.length (g.length + 1) nv (nwL ls (m + 1) i) g' ∧
  s = ⟨[.un,VI 8,.ptr h.length 0 0,.un,.un,sv,.un,VI m,nv,VI i,.un,.un,.un,.un,.un,.un,.un,.un,.un,.un,.un,.un,.un,.un,.un,.un,.un,.un,.un,.un,.un,.un,.un,.un,.un,.un,.un,.un,.un,.un,.un,.un,.un,.un,.un,.un,.un,.un,.un,.un,.un,.un,.un,.un,.un,.un,.un,.un,.un,.un,.un,.un,.un,.un,.un,.un,.un,.un,.un,.un,.un,.un,.un,.un,.un,.un,.un,.un],h ++ (.cells 0 [tv,fv,bv,VI im.entry] :: (g ++ g'))⟩) ?_ im.funcs.length ?_
 rotate_left
 ·exact ⟨0,_,[],rfl,Nat.zero_le _,.inl ⟨rfl,rfl,rfl⟩,by simp only [go_sem,List.append_nil];rfl⟩
 rintro k s ⟨i,nv,g',rfl,hi,hout,rfl⟩
 by_cases hli:i < im.funcs.length
 case neg=>
  have hli':¬ ((i:Int) < im.funcs.length):=by omega
  have hin:i = im.funcs.length:=by omega
  subst hin
  repeat' first
   | simp (maxSteps:=1000000) only [go_sem,hli',hfl,c1,c2,c3,hwm]
  have hnx:=hout.slt (h:=h) (p:=.cells 0 [tv,fv,bv,VI im.entry] :: g) (by rw [nwL_len];exact hne)
  exact ⟨8 - (m + 1),by omega,m + 1,nv,g ++ g',rfl,by omega,hnx,rfl⟩
 have hli':((i:Int) < im.funcs.length):=by omega
 have hw:=wrap_succ hli (by omega)
 have hfi:=List.getElem?_eq_getElem hli
 obtain ⟨e1,e2,e3⟩:=hfs _ (List.getElem_mem hli)
 have hbi:=hbods _ (List.getElem_mem hli)
 have hlsi:ls[i]? = some (callsOf (body im.text im.funcs[i])):=by rw [← hls,List.getElem?_map,hfi];rfl
 generalize im.funcs[i] = f at hfi e1 e2 e3 hbi hlsi
 obtain ⟨bodyv,hs1,hs2⟩:=hr.text.sls (a:=f.first) (b:=f.first + f.count) Ins.len e1 (by omega) e3
 have hbe:(im.text.drop f.first.toNat).take ((f.first + f.count).toNat - f.first.toNat) = body im.text f:=by
  unfold body
  congr 1
  omega
 rw [hbe] at hs2
 have hbl:=body_len (text:=im.text) e1 e2 e3
 have hlen:=hr.len
 have hnw:nw ls (m + 1) i = (body im.text f).any fun x=>decide (x.op = 133) && decide (x.src = 1) && nw ls m x.imm.toNat:=by
  rw [← any_calls _ (fun x hx=>(hbi.rule x hx).may) fun c=>nw ls m c.toNat]
  rw [show nw ls (m + 1) i = (ls[i]?.getD []).any fun c=>nw ls m c.toNat from rfl,hlsi]
  rfl
 have hcall:∀ x ∈ body im.text f,x.op = 133 → x.src = 1 → 0 ≤ x.imm ∧ x.imm < im.funcs.length:=fun x hx q1 q2=>(hbi.rule x hx).call ((jumps3 (hbi.rule x hx).may).2 ⟨q1,q2⟩)
 have hbs:=nwL_succ ls (m + 1) i
 have hbn:=nwL_len ls (m + 1) i
 have hl9:(body im.text f).length < 1099511627776:=by omega
 generalize body im.text f = is at hs2 hnw hcall hl9
 generalize nw ls (m + 1) i = T at hnw hbs
 generalize nwL ls (m + 1) i = xs at hout hbs hbn
 repeat' first
  | simp (maxSteps:=1000000) only [go_sem,hli',hfl,c1,c2,c3]
 refine (c65 hP (hr.more _) hfi e1 e2 e3 hs1).mono ?_
 rintro r h' ⟨rfl,rfl⟩
 have hxl:(xs.map VB).length = i:=by rw [List.length_map];exact hbn
 have htk:(xs.map VB).take xs.length = xs.map VB:=List.take_of_length_le (by omega)
 have hnle:¬ xs.length + 1 ≤ (xs.map VB).length:=by omega
 have hnle2:xs.length ≤ (xs.map VB).length:=by omega
 have hby:xs.length ≤ 140737488355327:=by omega
 repeat' first
  | simp (maxSteps:=1000000) only [go_sem]
 refine SimLoop.inv [1,0,2,1,0,0,0,0,0] (fun k s=>∃ (j:Nat) (acc:Bool),k = is.length - j ∧ j ≤ is.length ∧ T = (acc || (is.drop j).any fun x=>decide (x.op = 133) && decide (x.src = 1) && nw ls m x.imm.toNat) ∧
  s = ⟨[.un,VI 8,.ptr h.length 0 0,.un,.un,sv,.un,VI m,nv,VI i,VB acc,r,VI j,.un,.un,.un,.un,.un,.un,.un,.un,.un,.un,.un,.un,.un,.un,.un,.un,.un,.un,.un,.un,.un,.un,.un,.un,.un,.un,.un,.un,.un,.un,.un,.un,.un,.un,.un,.un,.un,.un,.un,.un,.un,.un,.un,.un,.un,.un,.un,.un,.un,.un,.un,.un,.un,.un,.un,.un,.un,.un,.un,.un,.un,.un,.un,.un,.un],h ++ (.cells 0 [tv,fv,bv,VI im.entry] :: (g ++ (g' ++ [.cells 0 [tv,fv,bv,VI im.entry]])))⟩) ?_ is.length ?_
 rotate_left
 ·exact ⟨0,false,rfl,Nat.zero_le _,by rw [List.drop_zero];exact hnw,by simp only [go_sem];rfl⟩
 clear hnw
 have hfin:∀ (nv':AV) (G:AH),OutB h.length (g.length + 1) nv' (xs ++ [T]) G → ∃ k',k' < im.funcs.length - i ∧ ∃ (i_1:Nat) (nv_1:AV) (G_1:AH),k' = im.funcs.length - i_1 ∧ i_1 ≤ im.funcs.length ∧ OutB h.length (g.length + 1) nv_1 (nwL ls (m + 1) i_1) G_1 ∧
  (⟨[.un,VI 8,.ptr h.length 0 0,.un,.un,sv,.un,VI m,nv',VI ((i + 1:Nat):Int),.un,.un,.un,.un,.un,.un,.un,.un,.un,.un,.un,.un,.un,.un,.un,.un,.un,.un,.un,.un,.un,.un,.un,.un,.un,.un,.un,.un,.un,.un,.un,.un,.un,.un,.un,.un,.un,.un,.un,.un,.un,.un,.un,.un,.un,.un,.un,.un,.un,.un,.un,.un,.un,.un,.un,.un,.un,.un,.un,.un,.un,.un,.un,.un,.un,.un,.un,.un],h ++ (.cells 0 [tv,fv,bv,VI im.entry] :: (g ++ G))⟩:XSt) = ⟨[.un,VI 8,.ptr h.length 0 0,.un,.un,sv,.un,VI m,nv_1,VI i_1,.un,.un,.un,.un,.un,.un,.un,.un,.un,.un,.un,.un,.un,.un,.un,.un,.un,.un,.un,.un,.un,.un,.un,.un,.un,.un,.un,.un,.un,.un,.un,.un,.un,.un,.un,.un,.un,.un,.un,.un,.un,.un,.un,.un,.un,.un,.un,.un,.un,.un,.un,.un,.un,.un,.un,.un,.un,.un,.un,.un,.un,.un,.un,.un,.un,.un,.un,.un],h ++ (.cells 0 [tv,fv,bv,VI im.entry] :: (g ++ G_1))⟩:=by
  rintro nv' G ho
  exact ⟨im.funcs.length - (i + 1),by omega,i + 1,nv',G,rfl,by omega,by rw [hbs];exact ho,rfl⟩
 rintro k s ⟨j,acc,rfl,hj,hall,rfl⟩
 have hsl:=hs2.len
 by_cases hlj:j < is.length
 case' pos=>
  have hlj':((j:Int) < is.length):=by omega
  have hwj:=wrap_succ hlj (by omega)
  cases acc
 case' neg=>
  have hlj':¬ ((j:Int) < is.length):=by omega
  rw [List.drop_eq_nil_of_le (by omega),List.any_nil,Bool.or_false] at hall
 case' pos.true=>
  rw [Bool.true_or] at hall
 case pos.false=>
  rw [Bool.false_or,List.drop_eq_getElem_cons hlj,List.any_cons] at hall
  have hmem:=List.getElem_mem hlj
  obtain ⟨q,hq1,hq2,hq3,hq4⟩:=hs2.get Ins.len (by decide) (List.getElem?_eq_getElem hlj)
  generalize is[j] = x at hall hmem hq1 hq2 hq3 hq4
  have hca:=hcall x hmem
  obtain ⟨p0,ho1,_,ho3⟩:=hq4 0 _ rfl
  obtain ⟨p2,hs4,_,hs6⟩:=hq4 2 _ rfl
  obtain ⟨p4,hi1,_,hi3⟩:=hq4 4 _ rfl
  by_cases h133:x.op = 133
  case neg=>
   have h133':decide (x.op = 133) = false:=decide_eq_false h133
   rw [h133',Bool.false_and,Bool.false_and,Bool.false_or] at hall
   repeat' first
    | ((with_reducible show SemL _ _ _ _);refine SemL.of ?_)
    | simp (maxSteps:=1000000) only [go_sem,hlj',hsl,hwj,hq1,ho1,ho3,h133']
   exact ⟨is.length - (j + 1),by omega,j + 1,false,rfl,by omega,by rw [Bool.false_or];exact hall,rfl⟩
  have h133':decide (x.op = 133) = true:=decide_eq_true h133
  by_cases hsrc:x.src = 1
  case neg=>
   have hsrc':decide (x.src = 1) = false:=decide_eq_false hsrc
   rw [hsrc',Bool.and_false,Bool.false_and,Bool.false_or] at hall
   repeat' first
    | ((with_reducible show SemL _ _ _ _);refine SemL.of ?_)
    | simp (maxSteps:=1000000) only [go_sem,hlj',hsl,hwj,hq1,ho1,ho3,h133',hs4,hs6,hsrc']
   exact ⟨is.length - (j + 1),by omega,j + 1,false,rfl,by omega,by rw [Bool.false_or];exact hall,rfl⟩
  have hsrc':decide (x.src = 1) = true:=decide_eq_true hsrc
  obtain ⟨hc0,hc1⟩:=hca h133 hsrc
  obtain ⟨n,hn⟩:∃ n:Nat,x.imm = n:=⟨x.imm.toNat,by omega⟩
  rw [h133',hsrc',Bool.true_and,Bool.true_and,hn,Int.toNat_natCast] at hall
  obtain ⟨pn,hn1,hn2⟩:=hnow.getB (nwL_get (ls:=ls) (k:=m) (show n < im.funcs.length by omega))
  have hn2:=hn2 (g' ++ [.cells 0 [tv,fv,bv,VI im.entry]])
  rw [List.append_assoc,List.cons_append] at hn2
  rw [← hn] at hn1
  repeat' first
   | ((with_reducible show SemL _ _ _ _);refine SemL.of ?_)
   | simp (maxSteps:=1000000) only [go_sem,hlj',hsl,hwj,hq1,ho1,ho3,h133',hs4,hs6,hsrc',hi1,hi3,hn1,hn2]
  exact ⟨is.length - (j + 1),by omega,j + 1,nw ls m n,rfl,by omega,hall,rfl⟩
 all_goals
  subst hall
  rcases hout with ⟨rfl,rfl,rfl⟩ | ⟨g1,g2,ver,rfl,rfl⟩
 case pos.true.inl=>
  repeat' first
   | ((with_reducible show SemL _ _ _ _);refine SemL.of ?_)
   | simp (maxSteps:=1000000) only [go_sem,hlj',hsl,hw,hfl,hli',c1,c2,c3,List.append_nil,xRows,Nat.mul_one,Nat.zero_add]
  exact hfin _ _ (.inr ⟨[.cells 0 [tv,fv,bv,VI im.entry],.cells 0 [VB true]],[],0,by simp,by simp;omega⟩)
 case pos.true.inr=>
  have hid:List.length g1 + (List.length g + 1) = List.length g + List.length g1 + 1:=by omega
  repeat' first
   | ((with_reducible show SemL _ _ _ _);refine SemL.of ?_)
   | simp (maxSteps:=1000000) only [go_sem,hid,hlj',hsl,hw,hfl,hli',c1,c2,c3,htk,hnle,hnle2,hby,xRows,Nat.mul_one,Nat.zero_add]
  exact hfin _ _ (.inr ⟨g1,g2 ++ [.cells 0 [tv,fv,bv,VI im.entry],.cells 0 [VB true]],ver + 1,by simp,by simp;omega⟩)
 case neg.inl=>
  repeat' first
   | ((with_reducible show SemL _ _ _ _);refine SemL.of ?_)
   | simp (maxSteps:=1000000) only [go_sem,hlj',hsl,hw,hfl,hli',c1,c2,c3,List.append_nil,xRows,Nat.mul_one,Nat.zero_add]
  exact hfin _ _ (.inr ⟨[.cells 0 [tv,fv,bv,VI im.entry],.cells 0 [VB T]],[],0,by simp,by simp;omega⟩)
 case neg.inr=>
  have hid:List.length g1 + (List.length g + 1) = List.length g + List.length g1 + 1:=by omega
  repeat' first
   | ((with_reducible show SemL _ _ _ _);refine SemL.of ?_)
   | simp (maxSteps:=1000000) only [go_sem,hid,hlj',hsl,hw,hfl,hli',c1,c2,c3,htk,hnle,hnle2,hby,xRows,Nat.mul_one,Nat.zero_add]
  exact hfin _ _ (.inr ⟨g1,g2 ++ [.cells 0 [tv,fv,bv,VI im.entry],.cells 0 [VB T]],ver + 1,by simp,by simp;omega⟩)
end Go.Tidy
namespace Go.Tidy
open Go Go.Eng Go.Proofs
variable {cx:Cx}
def Fst (im:Img) (i:Nat) (fi wh:Int):Prop:=
 (fi = -1 ∧ wh = 0 ∧ ∀ (j:Nat) f,j < i → im.funcs[j]? = some f → brkF im f = 0) ∨
  ∃ (y:Nat) (f:Fn),fi = y ∧ y < i ∧ im.funcs[y]? = some f ∧ brkF im f ≠ 0 ∧ wh = brkF im f ∧ ∀ (z:Nat) g,z < i → im.funcs[z]? = some g → brkF im g ≠ 0 → aheadB g f = false
theorem Fst.good {im:Img} {i:Nat} {fi wh:Int} {f:Fn} (h:Fst im i fi wh) (hf:im.funcs[i]? = some f) (hb:brkF im f = 0):Fst im (i + 1) fi wh:=by
 rcases h with ⟨h1,h2,h3⟩ | ⟨y,g,h1,h2,h3,h4,h5,h6⟩
 ·refine .inl ⟨h1,h2,fun j g hj hg=>?_⟩
  by_cases hji:j = i
  ·subst hji;rw [hf] at hg;cases hg;exact hb
  ·exact h3 j g (by omega) hg
 ·refine .inr ⟨y,g,h1,by omega,h3,h4,h5,fun z k hz hk hbk=>?_⟩
  by_cases hzi:z = i
  ·subst hzi;rw [hf] at hk;cases hk;exact absurd hb hbk
  ·exact h6 z k (by omega) hk hbk
theorem Fst.skip {im:Img} {i y:Nat} {wh:Int} {f g:Fn} (h:Fst im i y wh) (hf:im.funcs[i]? = some f) (hg:im.funcs[y]? = some g) (hb:aheadB f g = false):Fst im (i + 1) y wh:=by
 rcases h with ⟨h1,h2,h3⟩ | ⟨y',g',h1,h2,h3,h4,h5,h6⟩
 ·omega
 ·have:y = y':=by omega
  subst this
  rw [hg] at h3
  cases h3
  refine .inr ⟨y,g,rfl,by omega,hg,h4,h5,fun z k hz hk hbk=>?_⟩
  by_cases hzi:z = i
  ·subst hzi;rw [hf] at hk;cases hk;exact hb
  ·exact h6 z k (by omega) hk hbk
theorem Fst.turn {im:Img} {i:Nat} {fi wh:Int} {f:Fn} (h:Fst im i fi wh) (hf:im.funcs[i]? = some f) (hb:brkF im f ≠ 0) (ha:∀ (y:Nat) g,fi = y → im.funcs[y]? = some g → aheadB f g = true):Fst im (i + 1) i (brkF im f):=by
 refine .inr ⟨i,f,rfl,by omega,hf,hb,rfl,fun z k hz hk hbk=>?_⟩
 by_cases hzi:z = i
 ·subst hzi;rw [hf] at hk;cases hk;exact aheadB_irr f
 rcases h with ⟨h1,h2,h3⟩ | ⟨y,g,h1,h2,h3,h4,h5,h6⟩
 ·exact absurd (h3 z k (by omega) hk) hbk
 ·have h7:=h6 z k (by omega) hk hbk
  cases h8:aheadB k f with
  | false=>rfl
  | true=>rw [aheadB_trans h8 (ha y g h1 h3)] at h7;cases h7
theorem callsOf_in {im:Img} (hbods:∀ f ∈ im.funcs,BodyOk im.funcs.length im.tables.length (body im.text f)):∀ xs ∈ (im.funcs.map fun f=>callsOf (body im.text f)),∀ c ∈ xs,0 ≤ c ∧ c < (im.funcs.map fun f=>callsOf (body im.text f)).length:=by
 intro xs hxs c hc
 obtain ⟨f,hf,rfl⟩:=List.mem_map.1 hxs
 unfold callsOf at hc
 obtain ⟨x,hx,rfl⟩:=List.mem_map.1 hc
 obtain ⟨hx,h3⟩:=List.mem_filter.1 hx
 rw [List.length_map]
 exact ((hbods f hf).rule x hx).call (of_decide_eq_true h3)
set_option maxRecDepth 100000 in
set_option maxHeartbeats 8000000 in
theorem c21 (hO:On cx) (hG:cx.G = arrs) {h:AH} {im:Img} {tv fv bv:AV} (hr:ImgR h tv fv bv im) :
 SimCall cx 21 [.agg [tv,fv,bv,VI im.entry]] h fun r h'=>h' = h ∧ ∃ a b e:Int,r = .tup [VI a,VI b,VI e] ∧ ErrV im e:=by
 have c1:=hr.text.cell
 have c2:=hr.funcs.cell
 have c3:=hr.tables.cell
 have hnf:=hr.nf
 have hfl:=hr.funcs.len
 refine SimCall.gc ?_
 refine SimCall.by hO.P res21 ?_
 unfold x21 r21
 repeat' first
  | simp (maxSteps:=1000000) only [go_sem,c1,c2,c3]
 refine (c63 hO im tv fv bv _ (hr.more _)).mono ?_
 rintro r h' ⟨rfl,x0,e0,rfl,he0⟩
 repeat' first
  | ((with_reducible show wx _ (XCode.cond _ _ _) _ _);refine wx_if rfl (fun _=>?_) (fun _=>?_))
  | simp (maxSteps:=1000000) only [go_sem,c1,c2,c3]
 ·rename_i e
  refine ⟨more_one,plain_tup (by simp [Plain.v]),_,_,_,rfl,?_⟩
  simp at e
  refine .inl ⟨?_,rfl⟩
  cases hib:imgB im with
  | false=>rfl
  | true=>exact absurd (he0.2 hib) e
 rename_i e
 have hib:imgB im = true:=he0.1 (by simpa using e)
 have hok:ImgOk (tabsB 0) im:=imgB_ok.1 hib
 have hfs:=funcsB_mem _ _ 0 (by omega) hok.funcs
 have hNN:0 < im.funcs.length:=by have:=hok.entry;omega
 have hbody:∀ (y:Nat) f,im.funcs[y]? = some f → 0 < (body im.text f).length:=by
  intro y f hf
  obtain ⟨q1,q2,q3⟩:=hfs f (List.mem_of_getElem? hf)
  have:=body_len q1 q2 q3
  omega
 refine SimLoop.inv [1,5,0,0,0] (fun k s=>∃ (i:Nat) (fi ai wh:Int) (g:AH),k = im.funcs.length - i ∧ i ≤ im.funcs.length ∧ Fst im i fi wh ∧
  s = ⟨[.un,.ptr h.length 0 0,.un,.un,.un,.un,.un,VI fi,VI ai,VI wh,VI i,.un,.un,.un,.un,.un,.un,.un,.un,.un,.un,.un,.un,.un,.un,.un,.un,.un,.un,.un,.un,.un,.un,.un,.un,.un,.un,.un,.un,.un,.un,.un,.un,.un,.un,.un,.un,.un,.un,.un,.un,.un,.un,.un,.un,.un,.un,.un,.un,.un,.un,.un,.un,.un,.un,.un,.un,.un,.un,.un,.un,.un,.un,.un,.un,.un,.un,.un,.un,.un,.un,.un,.un,.un,.un,.un,.un,.un,.un,.un,.un,.un,.un,.un,.un,.un,.un,.un,.un,.un,.un,.un,.un,.un,.un,.un,.un],h ++ (.cells 0 [tv,fv,bv,VI im.entry] :: g)⟩) ?_ im.funcs.length ?_
 rotate_left
 ·exact ⟨0,_,_,_,[],rfl,Nat.zero_le _,.inl ⟨rfl,rfl,fun j f hj=>absurd hj (by omega)⟩,by simp only [go_sem];rfl⟩
 rintro k s ⟨i,fi,ai,wh,g,rfl,hi,hfst,rfl⟩
 by_cases hlt:i < im.funcs.length
 case neg=>
  have hlt':¬ ((i:Int) < im.funcs.length):=by omega
  have hin:i = im.funcs.length:=by omega
  subst hin
  clear hi hlt
  rcases hfst with ⟨rfl,_,hgood⟩ | ⟨y,f,rfl,hyl,hy,hb,rfl,hm⟩
  case inr=>
   have hyp:(0:Int) ≤ y:=by omega
   repeat' first
    | simp (maxSteps:=1000000) only [go_sem,hlt',hfl,c1,c2,c3,hyp]
   refine ⟨more_one,plain_tup (by simp [Plain.v]),_,_,_,rfl,?_⟩
   exact .inr ⟨hib,.inl ⟨y,f,hy,hb,fun z g hz hbz=>hm z g (List.getElem?_eq_some_iff.1 hz).1 hz hbz,rfl⟩⟩
  have hg0:∀ f ∈ im.funcs,brkF im f = 0:=by
   intro f hf
   obtain ⟨z,hz⟩:=List.mem_iff_getElem?.1 hf
   exact hgood z f (List.getElem?_eq_some_iff.1 hz).1 hz
  have hbods:∀ f ∈ im.funcs,BodyOk im.funcs.length im.tables.length (body im.text f):=by
   intro f hf
   obtain ⟨z,hz⟩:=List.mem_iff_getElem?.1 hf
   exact (brkF_zero (hbody z f hz)).1 (hg0 f hf)
  have hrk:=nw_rank (callsOf_in hbods)
  have h68:=c68 hO.P (hr.more (.cells 0 [tv,fv,bv,VI im.entry] :: g)) hfs hNN hbods
  rw [List.length_map] at hrk
  generalize hls:(im.funcs.map fun f=>callsOf (body im.text f)) = ls at hrk h68
  repeat' first
   | simp (maxSteps:=1000000) only [go_sem,hlt',hfl,c1,c2,c3]
  refine h68.mono ?_
  rintro r h' ⟨g8,rfl,hs8⟩
  simp only [List.append_assoc,List.cons_append,List.nil_append] at hs8
  repeat' first
   | simp (maxSteps:=1000000) only [go_sem]
  refine SimLoop.inv [1,5,7,0] (fun k s=>∃ (i:Nat) (fi:Int),k = im.funcs.length - i ∧ i ≤ im.funcs.length ∧ ((fi = -1 ∧ ∀ j,j < i → nw ls 8 j = false) ∨ ∃ y:Nat,fi = y ∧ y < im.funcs.length ∧ nw ls 8 y = true) ∧
   s = ⟨[.un,.ptr h.length 0 0,.un,.un,.un,.un,.un,VI fi,.un,.un,.un,.un,.un,.un,.un,r,VI i,.un,.un,.un,.un,.un,.un,.un,.un,.un,.un,.un,.un,.un,.un,.un,.un,.un,.un,.un,.un,.un,.un,.un,.un,.un,.un,.un,.un,.un,.un,.un,.un,.un,.un,.un,.un,.un,.un,.un,.un,.un,.un,.un,.un,.un,.un,.un,.un,.un,.un,.un,.un,.un,.un,.un,.un,.un,.un,.un,.un,.un,.un,.un,.un,.un,.un,.un,.un,.un,.un,.un,.un,.un,.un,.un,.un,.un,.un,.un,.un,.un,.un,.un,.un,.un,.un,.un,.un,.un,.un],h ++ (.cells 0 [tv,fv,bv,VI im.entry] :: (g ++ g8))⟩) ?_ im.funcs.length ?_
  rotate_left
  ·exact ⟨0,-1,rfl,Nat.zero_le _,.inl ⟨rfl,fun j hj=>absurd hj (by omega)⟩,by simp only [go_sem];rfl⟩
  rintro k s ⟨i,fi,rfl,hi,hfi,rfl⟩
  by_cases hlt:i < im.funcs.length
  case neg=>
   have hlt':¬ ((i:Int) < im.funcs.length):=by omega
   rcases hfi with ⟨rfl,hno⟩ | ⟨y,rfl,hyl,hyn⟩
   ·skip
    repeat' first
     | simp (maxSteps:=1000000) only [go_sem,hlt',hfl,c1,c2,c3]
    refine ⟨more_one,plain_tup (by simp [Plain.v]),_,_,_,rfl,?_⟩
    exact .inr ⟨hib,.inr ⟨hg0,.inl ⟨hls ▸ hrk.1 fun f hf=>hno f (by omega),rfl⟩⟩⟩
   ·have hyp:(0:Int) ≤ y:=by omega
    repeat' first
     | simp (maxSteps:=1000000) only [go_sem,hlt',hfl,c1,c2,c3,hyp]
    refine ⟨more_one,plain_tup (by simp [Plain.v]),_,_,_,rfl,?_⟩
    refine .inr ⟨hib,.inr ⟨hg0,.inr ⟨fun q=>?_,rfl⟩⟩⟩
    rw [hls] at q
    have:=hrk.2 q y hyl
    rw [hyn] at this
    cases this
  have hlt':((i:Int) < im.funcs.length):=by omega
  have hw:=wrap_succ hlt (by omega)
  obtain ⟨p,hp1,hp2⟩:=hs8.getB (nwL_get (ls:=ls) (k:=8) hlt)
  have hp3:=hp2 []
  rw [List.append_nil] at hp3
  have hfin:∀ fi':Int,((fi' = -1 ∧ ∀ j,j < i + 1 → nw ls 8 j = false) ∨ ∃ y:Nat,fi' = y ∧ y < im.funcs.length ∧ nw ls 8 y = true) → ∃ k',k' < im.funcs.length - i ∧ ∃ (i_1:Nat) (fi_1:Int),k' = im.funcs.length - i_1 ∧ i_1 ≤ im.funcs.length ∧ ((fi_1 = -1 ∧ ∀ j,j < i_1 → nw ls 8 j = false) ∨ ∃ y:Nat,fi_1 = y ∧ y < im.funcs.length ∧ nw ls 8 y = true) ∧
   (⟨[.un,.ptr h.length 0 0,.un,.un,.un,.un,.un,VI fi',.un,.un,.un,.un,.un,.un,.un,r,VI ((i + 1:Nat):Int),.un,.un,.un,.un,.un,.un,.un,.un,.un,.un,.un,.un,.un,.un,.un,.un,.un,.un,.un,.un,.un,.un,.un,.un,.un,.un,.un,.un,.un,.un,.un,.un,.un,.un,.un,.un,.un,.un,.un,.un,.un,.un,.un,.un,.un,.un,.un,.un,.un,.un,.un,.un,.un,.un,.un,.un,.un,.un,.un,.un,.un,.un,.un,.un,.un,.un,.un,.un,.un,.un,.un,.un,.un,.un,.un,.un,.un,.un,.un,.un,.un,.un,.un,.un,.un,.un,.un,.un,.un,.un],h ++ (.cells 0 [tv,fv,bv,VI im.entry] :: (g ++ g8))⟩:XSt) = ⟨[.un,.ptr h.length 0 0,.un,.un,.un,.un,.un,VI fi_1,.un,.un,.un,.un,.un,.un,.un,r,VI i_1,.un,.un,.un,.un,.un,.un,.un,.un,.un,.un,.un,.un,.un,.un,.un,.un,.un,.un,.un,.un,.un,.un,.un,.un,.un,.un,.un,.un,.un,.un,.un,.un,.un,.un,.un,.un,.un,.un,.un,.un,.un,.un,.un,.un,.un,.un,.un,.un,.un,.un,.un,.un,.un,.un,.un,.un,.un,.un,.un,.un,.un,.un,.un,.un,.un,.un,.un,.un,.un,.un,.un,.un,.un,.un,.un,.un,.un,.un,.un,.un,.un,.un,.un,.un,.un,.un,.un,.un,.un,.un],h ++ (.cells 0 [tv,fv,bv,VI im.entry] :: (g ++ g8))⟩:=
   fun fi' q=>⟨im.funcs.length - (i + 1),by omega,i + 1,fi',rfl,by omega,q,rfl⟩
  cases hT:nw ls 8 i with
  | false=>
    rw [hT] at hp3
    repeat' first
     | ((with_reducible show SemD _ _ _ _ _);refine SemD.of ?_)
     | simp (maxSteps:=1000000) only [go_sem,hlt',hfl,c1,c2,c3,hw,hp1,hp3]
    refine hfin _ ?_
    rcases hfi with ⟨h1,h2⟩ | h2
    ·refine .inl ⟨h1,fun j hj=>?_⟩
     by_cases hji:j = i
     ·rw [hji];exact hT
     ·exact h2 j (by omega)
    ·exact .inr h2
  | true=>
    rw [hT] at hp3
    rcases hfi with ⟨rfl,_⟩ | ⟨y,rfl,hyl,hyn⟩
    ·skip
     repeat' first
      | ((with_reducible show SemD _ _ _ _ _);refine SemD.of ?_)
      | simp (maxSteps:=1000000) only [go_sem,hlt',hfl,c1,c2,c3,hw,hp1,hp3]
     exact hfin _ (.inr ⟨i,rfl,hlt,hT⟩)
    ·have hyp:¬ (y:Int) < 0:=by omega
     obtain ⟨q,hq1,hq2,hq3,_⟩:=hr.funcs.get Fn.len (by decide) (List.getElem?_eq_getElem hlt)
     obtain ⟨q',hr1,hr2,hr3,_⟩:=hr.funcs.get Fn.len (by decide) (List.getElem?_eq_getElem hyl)
     have h64:=fun H=>c64 (cx:=cx) hO.P im.funcs[i] im.funcs[y] H
     generalize im.funcs[i] = f1 at hq1 hq2 hq3 h64
     generalize im.funcs[y] = f2 at hr1 hr2 hr3 h64
     repeat' first
      | ((with_reducible show wx _ (XCode.cond _ _ _) _ _);refine wx_if rfl (fun _=>?_) (fun _=>?_))
      | ((with_reducible show SemD _ _ _ _ _);refine SemD.of ?_)
      | ((with_reducible show dK _ 64 _ _ _);refine dK_of _ (h64 _) ?_)
      | simp (maxSteps:=1000000) only [go_sem,hlt',hfl,c1,c2,c3,hw,hp1,hp3,hyp,hq1,hq2,hq3,hr1,hr2,hr3,Fn.row]
     ·exact hfin _ (.inr ⟨i,rfl,hlt,hT⟩)
     ·exact hfin _ (.inr ⟨y,rfl,hyl,hyn⟩)
 have hlt':((i:Int) < im.funcs.length):=by omega
 have hw:=wrap_succ hlt (by omega)
 have hfi:=List.getElem?_eq_getElem hlt
 obtain ⟨q,hq1,hq2,hq3,_⟩:=hr.funcs.get Fn.len (by decide) hfi
 obtain ⟨e1,e2,e3⟩:=hfs _ (List.getElem_mem hlt)
 generalize im.funcs[i] = f at hfi hq1 hq2 hq3 e1 e2 e3
 have hfin:∀ (fi' ai' wh':Int) (g':AH),Fst im (i + 1) fi' wh' → ∃ k',k' < im.funcs.length - i ∧ ∃ (i_1:Nat) (fi_1 ai_1 wh_1:Int) (g_1:AH),k' = im.funcs.length - i_1 ∧ i_1 ≤ im.funcs.length ∧ Fst im i_1 fi_1 wh_1 ∧
  (⟨[.un,.ptr h.length 0 0,.un,.un,.un,.un,.un,VI fi',VI ai',VI wh',VI ((i + 1:Nat):Int),.un,.un,.un,.un,.un,.un,.un,.un,.un,.un,.un,.un,.un,.un,.un,.un,.un,.un,.un,.un,.un,.un,.un,.un,.un,.un,.un,.un,.un,.un,.un,.un,.un,.un,.un,.un,.un,.un,.un,.un,.un,.un,.un,.un,.un,.un,.un,.un,.un,.un,.un,.un,.un,.un,.un,.un,.un,.un,.un,.un,.un,.un,.un,.un,.un,.un,.un,.un,.un,.un,.un,.un,.un,.un,.un,.un,.un,.un,.un,.un,.un,.un,.un,.un,.un,.un,.un,.un,.un,.un,.un,.un,.un,.un,.un,.un],h ++ (.cells 0 [tv,fv,bv,VI im.entry] :: g')⟩:XSt) = ⟨[.un,.ptr h.length 0 0,.un,.un,.un,.un,.un,VI fi_1,VI ai_1,VI wh_1,VI i_1,.un,.un,.un,.un,.un,.un,.un,.un,.un,.un,.un,.un,.un,.un,.un,.un,.un,.un,.un,.un,.un,.un,.un,.un,.un,.un,.un,.un,.un,.un,.un,.un,.un,.un,.un,.un,.un,.un,.un,.un,.un,.un,.un,.un,.un,.un,.un,.un,.un,.un,.un,.un,.un,.un,.un,.un,.un,.un,.un,.un,.un,.un,.un,.un,.un,.un,.un,.un,.un,.un,.un,.un,.un,.un,.un,.un,.un,.un,.un,.un,.un,.un,.un,.un,.un,.un,.un,.un,.un,.un,.un,.un,.un,.un,.un,.un],h ++ (.cells 0 [tv,fv,bv,VI im.entry] :: g_1)⟩:=by
  rintro fi' ai' wh' g' ho
  exact ⟨im.funcs.length - (i + 1),by omega,i + 1,fi',ai',wh',g',rfl,by omega,ho,rfl⟩
 have hcase:(¬ 0 ≤ fi ∧ ∀ (y:Nat) g,fi = y → im.funcs[y]? = some g → aheadB f g = true) ∨ (∃ (y:Nat) (g0:Fn),fi = y ∧ im.funcs[y]? = some g0 ∧ aheadB f g0 = true) ∨ (∃ (y:Nat) (g0:Fn),fi = y ∧ im.funcs[y]? = some g0 ∧ aheadB f g0 = false):=by
  rcases hfst with ⟨r1,_⟩ | ⟨y,g0,r1,_,r3,_⟩
  ·exact .inl ⟨by omega,fun y g q=>by omega⟩
  ·cases hah:aheadB f g0 with
   | true=>exact .inr (.inl ⟨y,g0,r1,r3,hah⟩)
   | false=>exact .inr (.inr ⟨y,g0,r1,r3,hah⟩)
 rcases hcase with ⟨hfn,hah⟩ | ⟨y,g0,hfy,hy,hah0⟩ | ⟨y,g0,hfy,hy,hah0⟩
 case' inl=>
  repeat' first
   | ((with_reducible show SemD _ _ _ _ _);refine SemD.of ?_)
   | simp (maxSteps:=1000000) only [go_sem,hlt',hfl,c1,c2,c3,hfn]
 case' inr.inl=>
  have hah:∀ (y:Nat) g,fi = y → im.funcs[y]? = some g → aheadB f g = true:=by
   intro z g1 hz hg1
   have:z = y:=by omega
   subst this
   rw [hy] at hg1
   cases hg1
   exact hah0
  have hfp:0 ≤ fi:=by omega
  obtain ⟨p,hr1,hr2,hr3,_⟩:=hr.funcs.get Fn.len (by decide) hy
  rw [← hfy] at hr1
  have h64:=fun H=>c64 (cx:=cx) hO.P f g0 H
  rw [hah0] at h64
  repeat' first
   | ((with_reducible show SemD _ _ _ _ _);refine SemD.of ?_)
   | ((with_reducible show dK _ 64 _ _ _);refine dK_of _ (h64 _) ?_)
   | simp (maxSteps:=1000000) only [go_sem,hlt',hfl,c1,c2,c3,hfp,hq1,hq2,hq3,hr1,hr2,hr3,Fn.row]
 case inr.inr=>
  have hfp:0 ≤ fi:=by omega
  obtain ⟨p,hr1,hr2,hr3,_⟩:=hr.funcs.get Fn.len (by decide) hy
  rw [← hfy] at hr1
  have h64:=fun H=>c64 (cx:=cx) hO.P f g0 H
  rw [hah0] at h64
  repeat' first
   | ((with_reducible show SemD _ _ _ _ _);refine SemD.of ?_)
   | ((with_reducible show dK _ 64 _ _ _);refine dK_of _ (h64 _) ?_)
   | simp (maxSteps:=1000000) only [go_sem,hlt',hfl,c1,c2,c3,hfp,hq1,hq2,hq3,hr1,hr2,hr3,hw,Fn.row]
  subst hfy
  exact hfin _ _ _ _ (hfst.skip hfi hy hah0)
 all_goals
  obtain ⟨bodyv,hs1,hs2⟩:=hr.text.sls (a:=f.first) (b:=f.first + f.count) Ins.len e1 (by omega) e3
  have hbe:(im.text.drop f.first.toNat).take ((f.first + f.count).toNat - f.first.toNat) = body im.text f:=by
   unfold body
   congr 1
   omega
  rw [hbe] at hs2
  have hbl:=body_len (text:=im.text) e1 e2 e3
  have hlen:=hr.len
  have hbp:=hbody i f hfi
  have hl9:(body im.text f).length < 1099511627776:=by omega
  have hhd:∀ x ∈ body im.text f,heldB x = true:=by
   intro x hx
   unfold body at hx
   exact hok.held x (List.mem_of_mem_drop (List.mem_of_mem_take hx))
  have hbk:brkF im f = (brkL im.funcs.length im.tables.length (body im.text f) 0 (body im.text f)).2:=rfl
  generalize body im.text f = is at hs2 hl9 hhd hbk hbp
  refine (c65 hO.P (hr.more _) hfi e1 e2 e3 hs1).mono ?_
  rintro r h' ⟨rfl,rfl⟩
  repeat' first
   | simp (maxSteps:=1000000) only [go_sem]
  refine (c66 hO.P (hs2.more _) hl9 hbp).mono ?_
  rintro sv h' ⟨g66,rfl,hss⟩
  simp only [List.append_assoc,List.cons_append,List.nil_append] at hss
  repeat' first
   | simp (maxSteps:=1000000) only [go_sem]
  refine SimLoop.inv [1,5,0,0,0,0,0,0] (fun k s=>∃ (j:Nat),k = is.length - j ∧ j ≤ is.length ∧ brkF im f = (brkL im.funcs.length im.tables.length is j (is.drop j)).2 ∧
   s = ⟨[.un,.ptr h.length 0 0,.un,.un,.un,.un,.un,VI fi,VI ai,VI wh,VI i,r,sv,VI j,.un,.un,.un,.un,.un,.un,.un,.un,.un,.un,.un,.un,.un,.un,.un,.un,.un,.un,.un,.un,.un,.un,.un,.un,.un,.un,.un,.un,.un,.un,.un,.un,.un,.un,.un,.un,.un,.un,.un,.un,.un,.un,.un,.un,.un,.un,.un,.un,.un,.un,.un,.un,.un,.un,.un,.un,.un,.un,.un,.un,.un,.un,.un,.un,.un,.un,.un,.un,.un,.un,.un,.un,.un,.un,.un,.un,.un,.un,.un,.un,.un,.un,.un,.un,.un,.un,.un,.un,.un,.un,.un,.un,.un],h ++ (.cells 0 [tv,fv,bv,VI im.entry] :: (g ++ (.cells 0 [tv,fv,bv,VI im.entry] :: g66)))⟩) ?_ is.length ?_
  rotate_left
  ·exact ⟨0,rfl,Nat.zero_le _,by rw [List.drop_zero];exact hbk,by simp only [go_sem];rfl⟩
  clear hbk
  rintro k s ⟨j,rfl,hj,hall,rfl⟩
  have hsl:=hs2.len
  by_cases hlj:j < is.length
  ·have hlj':((j:Int) < is.length):=by omega
   have hwj:=wrap_succ hlj (by omega)
   have hjx:=List.getElem?_eq_getElem hlj
   rw [List.drop_eq_getElem_cons hlj,brkL] at hall
   have hxh:=far_held (hhd _ (List.getElem_mem hlj))
   generalize is[j] = x at hjx hall hxh
   have h67:=c67 (cx:=cx) hO.P hG (hr.more (.cells 0 [tv,fv,bv,VI im.entry] :: (g ++ (.cells 0 [tv,fv,bv,VI im.entry] :: g66)))) (hs2.more _) hss hl9 hjx hxh
   by_cases hcz:codeOf im.funcs.length im.tables.length is j x = 0
   ·rw [if_pos hcz] at hall
    rw [hcz] at h67
    repeat' first
     | ((with_reducible show SimCall _ 67 _ _ _);refine (h67).mono ?_;rintro r h' ⟨rfl,rfl⟩)
     | simp (maxSteps:=1000000) only [go_sem,hlj',hsl,hwj,c1,c2,c3]
    exact ⟨is.length - (j + 1),by omega,j + 1,rfl,by omega,hall,rfl⟩
   ·rw [if_neg hcz] at hall
    simp only at hall
    rw [← hall] at h67 hcz
    have hcz':decide (brkF im f = 0) = false:=decide_eq_false hcz
    repeat' first
     | ((with_reducible show SimCall _ 67 _ _ _);refine (h67).mono ?_;rintro r h' ⟨rfl,rfl⟩)
     | simp (maxSteps:=1000000) only [go_sem,hlj',hsl,hwj,hw,hcz',c1,c2,c3]
    exact hfin _ _ _ _ (hfst.turn hfi hcz hah)
  ·have hlj':¬ ((j:Int) < is.length):=by omega
   rw [List.drop_eq_nil_of_le (by omega),brkL] at hall
   repeat' first
    | simp (maxSteps:=1000000) only [go_sem,hlj',hsl,hw,c1,c2,c3]
   exact hfin _ _ _ _ (hfst.good hfi hall)
end Go.Tidy
namespace Go.Tidy
open Go Go.Eng Go.Proofs
theorem laid_name' {im:Img} {bs:List (List Ins)} (hl:im.funcs.length = bs.length) {n:Nat} (h:∀ f ∈ im.funcs,f.name.size < n):∀ f ∈ laidFs 0 im.funcs bs,f.name.size < n:=by
 intro f hf
 have h1:(f.name,f.obj) ∈ (laidFs 0 im.funcs bs).map fun f=>(f.name,f.obj):=List.mem_map_of_mem hf
 rw [laidFs_names 0 _ _ hl] at h1
 obtain ⟨g,hg,he⟩:=List.mem_map.1 h1
 have:=h g hg
 simp only [Prod.mk.injEq] at he
 rw [← he.1]
 exact this
theorem LentO.stays {h h':AH} {im:Img} {a va b vb d vd:Nat} (l:LentO h im a va b vb d vd) (s:Stays (fun _=>False) h h'):LentO h' im a va b vb d vd:=⟨stays_get s l.t fun h=>h,stays_get s l.f fun h=>h,stays_get s l.b fun h=>h⟩
theorem same_nil (H:AH):Same H ⟨nilS,nilS,nilS,0⟩ ⟨nilS,nilS,nilS,0⟩:=by
 have h1:ImS H ⟨nilS,nilS,nilS,0⟩ ⟨[],[],[],0⟩:=⟨⟨.nl none 0,fun g=>rfl⟩,⟨.nl none 0,fun g=>rfl⟩,⟨.nl none 0,fun g=>rfl⟩,rfl,by simp,by simp,by simp⟩
 exact ⟨_,h1,h1⟩
theorem SimCall.empty {cx:Cx} {F:FuncId} {a b c:AV} {sz:Nat} {f:Nat → List AV} {h:AH} {Q:AV → AH → Prop} (hh:∀ A cap,SimCall cx F [.agg [a,b,.v (.slice A 0 cap),c]] h Q):SimCall cx F [.agg [a,b,.ro sz 0 f,c]] h Q:=by
 refine ⟨(hh none 0).1,fun φ w vs hl hr hw=>?_⟩
 have h0:0 < vs.size:=by rw [← hl];exact Nat.succ_pos _
 have hv0:vs[0]? = some vs[0]:=Array.getElem?_eq_getElem h0
 have r0:=hr 0 _ _ rfl hv0
 generalize vs[0] = v at hv0 r0
 cases r0 with
 | agg cs ws hl2 h2=>
   have h3:2 < ws.size:=by rw [← hl2];simp
   have hv2:ws[2]? = some ws[2]:=Array.getElem?_eq_getElem h3
   have r2:=h2 2 _ _ rfl hv2
   generalize ws[2] = v2 at hv2 r2
   cases r2 with
   | ro sz n f A cap=>
     refine (hh A cap).2 φ w vs hl (fun k x v hk hv=>?_) hw
     match k,hk with
     | 0,hk=>
       simp only [List.getElem?_cons_zero,Option.some.injEq] at hk
       subst hk
       rw [hv0] at hv
       cases hv
       refine .agg _ _ hl2 fun k x v hk hv=>?_
       match k,hk with
       | 0,hk=>exact h2 0 x v hk hv
       | 1,hk=>exact h2 1 x v hk hv
       | 2,hk=>
         simp only [List.getElem?_cons_succ,List.getElem?_cons_zero,Option.some.injEq] at hk
         subst hk
         rw [hv2] at hv
         cases hv
         exact .v _
       | 3,hk=>exact h2 3 x v hk hv
set_option maxRecDepth 100000 in
set_option maxHeartbeats 8000000 in
theorem c5 {cx:Cx} (hP:cx.P = Tryz.prog) (hG:cx.G = arrs) {h:AH} {tv fv bv:AV} {im:Img} (ht:Rows Ins.row 5 h tv im.text) (hf:Rows Fn.row 4 h fv im.funcs) (hb:Rows Tab.row 5 h bv im.tables)
 (h1:im.text.length < 1099511627776) (h2:im.funcs.length < 1099511627776) (h3:im.tables.length < 1099511627776) (h4:∀ f ∈ im.funcs,f.name.size < 4611686018427387904) (h5:∀ t ∈ im.tables,t.name.size < 4611686018427387904)
 {q:Bool} (hno:xNo bv = some q) :
 SimCall cx 5 [.agg [tv,fv,bv,VI im.entry]] h fun r _=>r = VB true:=by
 have hO:=on_arrs hP hG
 have c1:=ht.sl.cell
 have c2:=hf.sl.cell
 have c3:=hb.sl.cell
 have hr0:ImgR h tv fv bv im:=⟨ht.sl,hf.sl,hb.sl,h1,h2,h3,h4,h5⟩
 have haA:ImA h ⟨tv,fv,bv,im.entry⟩ im:=⟨hr0,ht,hf,hb,rfl,_,hno⟩
 have h20:=fun h=>SimCall.apart (cx:=cx) (args:=[]) (by intro x hx;cases hx) (Q:=fun r=>r = VB true) (by rintro r rfl;exact plain_v _) (c20 hP hG) h
 refine SimCall.by hP res5 ?_
 unfold x5 r5
 repeat' first
  | ((with_reducible show SimCall _ 20 _ _ _);refine (h20 _).mono ?_;rintro r h' ⟨rfl,rfl⟩)
  | simp (maxSteps:=1000000) only [go_sem,c1,c2,c3]
 refine (c21 hO hG (hr0.more _)).mono ?_
 rintro r h' ⟨rfl,a0,b0,code,rfl,hcode⟩
 repeat' first
  | simp (maxSteps:=1000000) only [go_sem,c1,c2,c3]
 refine (c22 hO (ht.more _) (hf.more _) (hb.more _) h1 h2 h3).mono ?_
 rintro r h' ⟨g,va,vb,vd,rfl,rfl,hL⟩
 repeat' first
  | simp (maxSteps:=1000000) only [go_sem,c1,c2,c3]
 obtain ⟨H1,hH1⟩:∃ H1,H1 = h ++ AO.cells 0 [tv,fv,bv,VI im.entry] :: (g ++ [AO.cells 0 [AV.sl (h.length + 1 + 4) va 0 im.text.length 5,AV.sl (h.length + 1 + 5) vb 0 im.funcs.length 4,AV.sl (h.length + 1 + 6) vd 0 im.tables.length 5,VI im.entry]]):=⟨_,rfl⟩
 obtain ⟨cb,hcb⟩:∃ n,n = h.length + (g.length + 1):=⟨_,rfl⟩
 rw [← hH1,← hcb]
 have st1:Stays (fun _=>False) h H1:=by rw [hH1];exact Stays.app _ _
 have st1b:Stays (fun _=>False) (h ++ [AO.cells 0 [tv,fv,bv,VI im.entry]] ++ g) H1:=by
  rw [hH1,← List.singleton_append (l:=g ++ _),← List.append_assoc,← List.append_assoc]
  exact Stays.app _ _
 have e0:H1[h.length]? = some (.cells 0 [tv,fv,bv,VI im.entry]):=by rw [hH1];simp
 have e1:H1[cb]? = some (.cells 0 [AV.sl (h.length + 1 + 4) va 0 im.text.length 5,AV.sl (h.length + 1 + 5) vb 0 im.funcs.length 4,AV.sl (h.length + 1 + 6) vd 0 im.tables.length 5,VI im.entry]):=by
  rw [hH1,hcb,List.getElem?_append_right (by omega),Nat.add_sub_cancel_left,List.getElem?_cons_succ]
  simp
 simp only [List.length_append,List.length_singleton] at hL
 have hL1:=hL.stays st1b
 have hcA:=LentO.a hL1 h1 h2 h3 h4 h5
 have haA1:=haA.stays st1 fun _ _ h=>h
 have lA:∀ id ∈ (⟨tv,fv,bv,im.entry⟩:IA).ids,id < h.length:=fun id hid=>haA.s.lt hid
 clear hH1 hcb st1b hL
 have c24':∀ G,SimCall cx 24 [.agg [.sl (h.length + 1 + 4) va 0 im.text.length 5,.sl (h.length + 1 + 5) vb 0 im.funcs.length 4,.sl (h.length + 1 + 6) vd 0 im.tables.length 5,VI im.entry],.agg [tv,fv,bv,VI im.entry]] (H1 ++ G) fun r h'=>h' = H1 ++ G ∧ r = VB true:=fun G=>
  c24 hO (hL1.stays (Stays.app _ G)) (haA1.t.more _) (haA1.f.more _) (haA1.b.more _) h1 h2 h3
 have stA:∀ G,Stays (fun _=>False) H1 (H1 ++ G):=fun G=>Stays.app _ _
 have r0:∀ G,AH.rd (H1 ++ G) h.length 0 = _:=fun G=>rd_of (stays_get (stA G) e0 fun h=>h)
 have r1:∀ G,AH.rd (H1 ++ G) cb 0 = _:=fun G=>rd_of (stays_get (stA G) e1 fun h=>h)
 obtain ⟨qc,hqc⟩:=hcA.no
 refine (c23 hO hcA.r hcA.b hqc).mono ?_
 rintro r h' (⟨hn,e,g2,⟨he1,he2⟩,rfl,rfl⟩ | ⟨hv,bs,g2,a2,va2,b2,vb2,dv,htd,rfl,rfl,w1,w2,w3,l1,l2,l3,l4⟩)
 ·have hee:=ErrV.uniq he2 hcode
  subst hee
  have he':decide (e = 0) = false:=decide_eq_false he1
  repeat' first
   | ((with_reducible show SimCall _ 24 _ _ _);refine (c24' _).mono ?_;rintro r h' ⟨rfl,rfl⟩)
   | ((with_reducible show SimCall _ 16 _ _ _);refine (c16 hO _ _).mono ?_;rintro r h' ⟨rfl,rfl⟩)
   | ((with_reducible show SimCall _ 25 _ _ _);refine (c25 hO (same_nil _)).mono ?_;rintro r h' ⟨rfl,rfl⟩)
   | simp (maxSteps:=1000000) only [go_sem,c1,c2,c3,r0,r1,he',he1]
 have hc0:=hcode.ok.2 hv
 subst hc0
 have hk:=htd.ok hv
 have hl:=hk.lens
 have c4:=(w3.rows Tab.len).sl.cell
 have hzW:ImW (H1 ++ g2) ⟨.sl a2 va2 0 bs.flatten.length 5,.sl b2 vb2 0 (laidFs 0 im.funcs bs).length 4,dv,im.entry⟩ ⟨bs.flatten,laidFs 0 im.funcs bs,im.tables,im.entry⟩:=
  ⟨w1,w2,w3,rfl,by have:=hl.1;simp only at this ⊢;omega,by have:=hl.2.1;simp only at this ⊢;omega,by have:=hl.2.2;simp only at this ⊢;omega⟩
 have hzd:ImD ⟨.sl a2 va2 0 bs.flatten.length 5,.sl b2 vb2 0 (laidFs 0 im.funcs bs).length 4,dv,im.entry⟩:=by
  refine ⟨?_,?_,?_⟩
  ·intro id h1 h2
   cases h1
   cases h2
   exact l3 rfl
  ·intro id h1 h2
   cases h1
   exact (l4 _ h2).2.1 rfl
  ·intro id h1 h2
   cases h1
   exact (l4 _ h2).2.2 rfl
 have hzi:∀ id ∈ (⟨.sl a2 va2 0 bs.flatten.length 5,.sl b2 vb2 0 (laidFs 0 im.funcs bs).length 4,dv,im.entry⟩:IA).ids,H1.length ≤ id:=by
  intro id hid
  rcases ids_cases hid with e | e | e
  ·cases e;exact l1
  ·cases e;exact l2
  ·exact (l4 id e).1
 clear w1 w2 w3 l1 l2 l3 l4
 have hcs:∀ id,id = h.length + 1 + 4 ∨ id = h.length + 1 + 5 ∨ id = h.length + 1 + 6 → h.length ≤ id ∧ id < H1.length:=by
  have q1:=(List.getElem?_eq_some_iff.1 hL1.t).1
  have q2:=(List.getElem?_eq_some_iff.1 hL1.f).1
  have q3:=(List.getElem?_eq_some_iff.1 hL1.b).1
  intro id e
  omega
 repeat' first
  | ((with_reducible show SimCall _ 24 _ _ _);refine (c24' _).mono ?_;rintro r h' ⟨rfl,rfl⟩)
  | ((with_reducible show SimCall _ 16 _ _ _);refine (c16 hO _ _).mono ?_;rintro r h' ⟨rfl,rfl⟩)
  | simp (maxSteps:=1000000) only [go_sem,c1,c2,c3,c4,r0,r1]
 obtain ⟨H2,hH2⟩:∃ H,H = H1 ++ (g2 ++ [AO.cells 0 [.sl a2 va2 0 bs.flatten.length 5,.sl b2 vb2 0 (laidFs 0 im.funcs bs).length 4,dv,VI im.entry]]):=⟨_,rfl⟩
 rw [← hH2]
 have st2:Stays (fun _=>False) H1 H2:=by rw [hH2];exact Stays.app _ _
 have st2b:Stays (fun _=>False) (H1 ++ g2) H2:=by rw [hH2,← List.append_assoc];exact Stays.app _ _
 obtain ⟨gb,hgb⟩:∃ n,n = H1.length + g2.length:=⟨_,rfl⟩
 rw [← hgb]
 have eg:H2[gb]? = some (.cells 0 [.sl a2 va2 0 bs.flatten.length 5,.sl b2 vb2 0 (laidFs 0 im.funcs bs).length 4,dv,VI im.entry]):=by rw [hH2,hgb];simp
 have hzW2:=hzW.stays st2b fun _ _ h=>h
 have haA2:=haA1.stays st2 fun _ _ h=>h
 have hL2:=hL1.stays st2
 have x0:=rd_of (stays_get st2 e0 fun h=>h)
 have x1:=rd_of (stays_get st2 e1 fun h=>h)
 have xg:=rd_of eg
 have hr3:ImgR H2 (.sl a2 va2 0 bs.flatten.length 5) (.sl b2 vb2 0 (laidFs 0 im.funcs bs).length 4) dv ⟨bs.flatten,laidFs 0 im.funcs bs,im.tables,im.entry⟩:=
  ⟨(hzW2.t.rows Ins.len).sl,(hzW2.f.rows Fn.len).sl,(hzW2.b.rows Tab.len).sl,hzW2.s.nt,hzW2.s.nf,hzW2.s.nb,laid_name' htd.len h4,h5⟩
 clear hH2 hgb st2 st2b hzW haA1 hL1 r0 r1 stA c24' e0 e1 eg
 refine (c21 hO hG hr3).mono ?_
 rintro r h' ⟨rfl,a3,b3,e3,rfl,he3⟩
 have he0:=he3.ok.2 hk
 subst he0
 have hfb:=funcsB_mem _ _ 0 (by omega) hv.img.funcs
 repeat' first
  | ((with_reducible show SemL _ _ _ _);refine SemL.of ?_)
  | ((with_reducible show SimCall _ 26 _ _ _);refine (c26 hO haA2.r hr3 htd.kept hfb hk.img.funcs).mono ?_;rintro r h' ⟨rfl,rfl⟩)
  | simp (maxSteps:=1000000) only [go_sem,c1,c2,c3,c4,x0,x1,xg]
 refine (c27 hO haA2 hL2 (by omega) (by omega) (by omega) hzW2 hzd (fun id hid=>?_) (fun id hid e=>?_) (fun id hid=>?_) hv htd).mono ?_
 ·have q:=hzi id hid
  have q1:=hcs _ (.inl rfl)
  have q2:=hcs _ (.inr (.inl rfl))
  have q3:=hcs _ (.inr (.inr rfl))
  omega
 ·have q:=hzi id e
  have:=lA id hid
  have q1:=hcs _ (.inl rfl)
  omega
 ·have:=lA id hid
  omega
 rintro r h' rfl
 repeat' first
  | simp (maxSteps:=1000000) only [go_sem]
end Go.Tidy

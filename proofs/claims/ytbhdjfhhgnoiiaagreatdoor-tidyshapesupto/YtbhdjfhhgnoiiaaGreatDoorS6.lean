/- Part 6 of a proof: an abstract memory for the translated code, and what the functions that the law reaches do over it. -/
import Derived.Test.YtbhdjfhhgnoiiaaGreatDoorProg
import Derived.Test.YtbhdjfhhgnoiiaaGreatDoorS5
set_option linter.unusedSimpArgs false
set_option linter.unusedVariables false
namespace Go.Eng
abbrev oM (d a:Nat):XI:=⟨some d,none,.op (.mov (.t a))⟩
abbrev oF (d n a:Nat):XI:=⟨some d,none,.op (.fad n (.t a))⟩
abbrev oL (d a:Nat):XI:=⟨some d,none,.op (.ld1 (.t a))⟩
abbrev oI (d:Nat) (k:Int):XI:=⟨some d,none,.op (.mov (.k (.int .i64 k)))⟩
abbrev oX (d n a b:Nat):XI:=⟨some d,none,.op (.iad n (.t a) (.t b))⟩
abbrev oA (d n a:Nat):XI:=⟨some d,none,.op (.lda n (.t a))⟩
abbrev oE (d a:Nat) (k:Int):XI:=⟨some d,none,.op (.bin .eql (.t a) (.k (.int .i64 k)))⟩
abbrev oN (d a:Nat):XI:=⟨some d,none,.op (.lenl (.t a))⟩
abbrev oP (d a b:Nat):XI:=⟨some d,none,.op (.pick (.t a) (.t b) (.k (.bool false)))⟩
abbrev oQ (d a b:Nat):XI:=⟨some d,none,.op (.pick (.t a) (.k (.bool true)) (.t b))⟩
abbrev oD (d a:Nat) (k:Int):XI:=⟨some d,none,.op (.bin .add (.t a) (.k (.int .i64 k)))⟩
abbrev oS (d a b:Nat):XI:=⟨some d,none,.op (.bin .lss (.t a) (.t b))⟩
abbrev oB (d:Nat):XI:=⟨some d,none,.op (.mov (.k (.bool false)))⟩
abbrev oT (d n a:Nat):XI:=⟨some d,none,.op (.ext n (.t a))⟩
abbrev oO (d a:Nat):XI:=⟨some d,none,.op (.box (.t a))⟩
abbrev xqM (d g:Nat) (b:Bool) (a:Nat):XI:=⟨some d,some (g,b),.op (.mov (.t a))⟩
abbrev xqL (d g:Nat) (b:Bool) (a:Nat):XI:=⟨some d,some (g,b),.op (.ld1 (.t a))⟩
abbrev xqF (d g:Nat) (b:Bool) (n a:Nat):XI:=⟨some d,some (g,b),.op (.fad n (.t a))⟩
end Go.Eng
namespace Go.Tidy
open Go Go.Eng Go.Proofs
set_option maxRecDepth 100000
def x16:XCode:=.seq (.reg [oI 2 0])
 (.seq (.reg [oM 3 0,oM 2 3])
 (.ret))
def r16:List XRes:=[.t 2]
theorem res16:resolveF Tryz.prog 16 = some (x16,r16,4):=by kernel_rfl
def x51:XCode:=.seq (.reg [oB 4])
 (.seq (.seq (.reg [oM 6 0,oN 7 6,oM 8 1,oN 9 8,⟨some 10,none,(.op (.bin .neq (.t 7) (.t 9)))⟩])
 (.cond (.t 10) (.seq (.reg [oB 4])
 (.ret))
 (.skip)))
 (.seq (.seq (.reg [oI 5 0])
 (.block 0 (.loop (.seq (.seq (.reg [oM 11 5,oM 12 0,oN 13 12,oS 14 11 13])
 (.cond (.t 14) (.skip)
 (.exit 0)))
 (.seq (.block 1 (.seq (.drw none [oM 17 0,oM 18 5,oX 19 5 17 18,oA 20 5 19,oM 21 1,oM 22 5,oX 23 5 21 22,oA 24 5 23,⟨some 25,none,(.op (.seq false ⟨true,[2,1,1,1,1]⟩ (.t 20) (.t 24)))⟩])
 (.cond (.t 25) (.seq (.reg [oB 4])
 (.ret))
 (.skip))))
 (.reg [oM 15 5,oD 16 15 1,oM 5 16]))))))
 (.seq (.reg [⟨some 4,none,(.op (.mov (.k (.bool true))))⟩])
 (.ret))))
def r51:List XRes:=[.t 4]
theorem res51:resolveF Tryz.prog 51 = some (x51,r51,26):=by kernel_rfl
def x29:XCode:=.seq (.reg [oO 2 0,⟨some 4,none,(.op (.mov (.k (.slice none 0 0))))⟩])
 (.seq (.drw none [oF 5 0 2,oL 6 5,oF 7 1 2,oL 8 7,oM 9 1,oX 10 4 8 9,oF 11 2 10,oL 12 11,oF 13 1 2,oL 14 13,oM 15 1,oX 16 4 14 15,oF 17 2 16,oL 18 17,oF 19 1 2,oL 20 19,oM 21 1,oX 22 4 20 21,oF 23 3 22,oL 24 23,⟨some 25,none,(.op (.bin .add (.t 18) (.t 24)))⟩,⟨some 26,none,(.op (.sls 5 (.t 6) (some (.t 12)) (some (.t 25))))⟩,oM 4 26])
 (.ret))
def r29:List XRes:=[.t 4]
theorem res29:resolveF Tryz.prog 29 = some (x29,r29,27):=by kernel_rfl
def x72:XCode:=.seq (.reg [oI 2 0])
 (.seq (.reg [oM 4 0,⟨some 5,none,(.call (.f 30) [(.t 4)])⟩,oM 3 5])
 (.seq (.reg [oM 6 3,oM 7 0,oN 8 7,oX 9 1 6 8,oL 10 9,oM 2 10])
 (.ret)))
def r72:List XRes:=[.t 2]
theorem res72:resolveF Tryz.prog 72 = some (x72,r72,11):=by kernel_rfl
def x30:XCode:=.seq (.reg [⟨some 2,none,(.op (.mov (.k (.slice none 0 0))))⟩])
 (.seq (.reg [⟨some 3,none,(.op (.mov (.k (.slice none 0 0))))⟩])
 (.seq (.reg [oI 4 0])
 (.seq (.seq (.reg [oI 5 0])
 (.block 0 (.loop (.seq (.seq (.reg [oM 6 5,oM 7 0,oN 8 7,oS 9 6 8])
 (.cond (.t 9) (.skip)
 (.exit 0)))
 (.seq (.block 1 (.seq (.reg [oM 12 3,oM 13 4,⟨some 14,none,(.op (.bsl 1 1 [(.int .i64 0)] [(0,1,(.t 13))]))⟩,⟨some 15,none,(.op (.app 1 8 (.t 12) (.t 14)))⟩,oM 3 15])
 (.seq (.reg [oM 16 4,oD 17 16 1,oM 4 17])
 (.seq (.reg [oM 18 0,oM 19 5,oX 20 5 18 19,oF 21 0 20,oL 22 21,oE 23 22 24])
 (.cond (.t 23) (.reg [oM 24 4,oD 25 24 1,oM 4 25])
 (.skip))))))
 (.reg [oM 10 5,oD 11 10 1,oM 5 11]))))))
 (.seq (.reg [oM 26 3,oM 27 4,⟨some 28,none,(.op (.bsl 1 1 [(.int .i64 0)] [(0,1,(.t 27))]))⟩,⟨some 29,none,(.op (.app 1 8 (.t 26) (.t 28)))⟩,oM 2 29])
 (.ret)))))
def r30:List XRes:=[.t 2]
theorem res30:resolveF Tryz.prog 30 = some (x30,r30,30):=by kernel_rfl
def x26:XCode:=.seq (.reg [oO 2 0,oO 3 1,oB 4])
 (.seq (.seq (.reg [oF 9 1 3,oL 10 9,oN 11 10,oF 12 1 2,oL 13 12,oN 14 13,⟨some 15,none,(.op (.bin .neq (.t 11) (.t 14)))⟩,oM 16 15,xqF 17 16 false 2 3,xqL 18 16 false 17,xqF 19 16 false 2 2,xqL 20 16 false 19,⟨some 21,(some (16,false)),(.call (.f 51) [(.t 18),(.t 20)])⟩,⟨some 22,(some (16,false)),(.op (.un .not (.t 21)))⟩,oQ 23 16 22,oM 24 23,xqF 25 24 false 3 3,xqL 26 24 false 25,xqF 27 24 false 3 2,xqL 28 24 false 27,⟨some 29,(some (24,false)),(.op (.bin .neq (.t 26) (.t 28)))⟩,oQ 30 24 29])
 (.cond (.t 30) (.seq (.reg [oB 4])
 (.ret))
 (.skip)))
 (.seq (.reg [oI 5 0])
 (.seq (.seq (.reg [oI 6 0])
 (.block 0 (.loop (.seq (.seq (.reg [oM 31 6,oF 32 1 2,oL 33 32,oN 34 33,oS 35 31 34])
 (.cond (.t 35) (.skip)
 (.exit 0)))
 (.seq (.block 1 (.seq (.drw (some [7,8]) [oF 38 1 2,oL 39 38,oM 40 6,oX 41 4 39 40,oA 42 4 41,oF 43 1 3,oL 44 43,oM 45 6,oX 46 4 44 45,oA 47 4 46,⟨some 7,none,(.op (.alloc [(.string ⟨#[]⟩),(.int .i64 0),(.int .i64 0),(.int .i64 0)]))⟩,⟨some 8,none,(.op (.alloc [(.string ⟨#[]⟩),(.int .i64 0),(.int .i64 0),(.int .i64 0)]))⟩,⟨none,none,(.op (.st 4 (.t 7) (.t 42)))⟩,⟨none,none,(.op (.st 4 (.t 8) (.t 47)))⟩])
 (.seq (.seq (.reg [oF 48 0 7,oL 49 48,oF 50 0 8,oL 51 50,⟨some 52,none,(.op (.bin .neq (.t 49) (.t 51)))⟩,oM 53 52,xqF 54 53 false 1 7,xqL 55 53 false 54,xqF 56 53 false 1 8,xqL 57 53 false 56,⟨some 58,(some (53,false)),(.op (.bin .neq (.t 55) (.t 57)))⟩,oQ 59 53 58,oM 60 59,xqF 61 60 false 2 8,xqL 62 60 false 61,xqM 63 60 false 5,⟨some 64,(some (60,false)),(.op (.bin .neq (.t 62) (.t 63)))⟩,oQ 65 60 64,oM 66 65,xqF 67 66 false 3 8,xqL 68 66 false 67,⟨some 69,(some (66,false)),(.op (.bin .lss (.t 68) (.k (.int .i64 1))))⟩,oQ 70 66 69,oM 71 70,xqF 72 71 false 3 8,xqL 73 71 false 72,xqF 74 71 false 0 3,xqL 75 71 false 74,⟨some 76,(some (71,false)),(.op (.lenl (.t 75)))⟩,xqM 77 71 false 5,⟨some 78,(some (71,false)),(.op (.bin .sub (.t 76) (.t 77)))⟩,⟨some 79,(some (71,false)),(.op (.bin .gtr (.t 73) (.t 78)))⟩,oQ 80 71 79])
 (.cond (.t 80) (.seq (.reg [oB 4])
 (.ret))
 (.skip)))
 (.seq (.reg [oM 81 5,oF 82 3 8,oL 83 82,⟨some 84,none,(.op (.bin .add (.t 81) (.t 83)))⟩,oM 5 84])
 (.seq (.drw none [oA 85 4 3,oM 86 6,⟨some 87,none,(.call (.f 29) [(.t 85),(.t 86)])⟩,⟨some 88,none,(.call (.f 72) [(.t 87)])⟩,oA 89 4 2,oM 90 6,⟨some 91,none,(.call (.f 29) [(.t 89),(.t 90)])⟩,⟨some 92,none,(.call (.f 72) [(.t 91)])⟩,⟨some 93,none,(.op (.bin .gtr (.t 88) (.t 92)))⟩])
 (.cond (.t 93) (.seq (.reg [oB 4])
 (.ret))
 (.skip)))))))
 (.reg [oM 36 6,oD 37 36 1,oM 6 37]))))))
 (.seq (.reg [oM 94 5,oF 95 0 3,oL 96 95,oN 97 96,⟨some 98,none,(.op (.bin .eql (.t 94) (.t 97)))⟩,oM 4 98])
 (.ret)))))
def r26:List XRes:=[.t 4]
theorem res26:resolveF Tryz.prog 26 = some (x26,r26,99):=by kernel_rfl
def x20:XCode:=.seq (.reg [oB 0])
 (.seq (.reg [⟨some 5,none,(.op (.build [(.int .i64 0),(.int .i64 0),(.int .i64 0),(.int .i64 0),(.int .i64 0)] [(0,1,(.k (.int .i64 183))),(4,1,(.k (.int .i64 1)))]))⟩,⟨some 6,none,(.op (.build [(.int .i64 0),(.int .i64 0),(.int .i64 0),(.int .i64 0),(.int .i64 0)] [(0,1,(.k (.int .i64 5))),(3,1,(.k (.int .i64 1)))]))⟩,⟨some 7,none,(.op (.build [(.int .i64 0),(.int .i64 0),(.int .i64 0),(.int .i64 0),(.int .i64 0)] [(0,1,(.k (.int .i64 183))),(4,1,(.k (.int .i64 2)))]))⟩,⟨some 8,none,(.op (.build [(.int .i64 0),(.int .i64 0),(.int .i64 0),(.int .i64 0),(.int .i64 0)] [(0,1,(.k (.int .i64 149)))]))⟩,⟨some 9,none,(.op (.bsl 5 4 [(.int .i64 0),(.int .i64 0),(.int .i64 0),(.int .i64 0),(.int .i64 0),(.int .i64 0),(.int .i64 0),(.int .i64 0),(.int .i64 0),(.int .i64 0),(.int .i64 0),(.int .i64 0),(.int .i64 0),(.int .i64 0),(.int .i64 0),(.int .i64 0),(.int .i64 0),(.int .i64 0),(.int .i64 0),(.int .i64 0)] [(0,5,(.t 5)),(5,5,(.t 6)),(10,5,(.t 7)),(15,5,(.t 8))]))⟩,oM 1 9])
 (.seq (.reg [oM 10 1,⟨some 11,none,(.op (.build [(.string ⟨#[]⟩),(.int .i64 0),(.int .i64 0),(.int .i64 0)] [(0,1,(.k (.string ⟨#[102]⟩))),(3,1,(.k (.int .i64 4)))]))⟩,⟨some 12,none,(.op (.bsl 4 1 [(.string ⟨#[]⟩),(.int .i64 0),(.int .i64 0),(.int .i64 0)] [(0,4,(.t 11))]))⟩,⟨some 13,none,(.op (.build [(.slice none 0 0),(.slice none 0 0),(.slice none 0 0),(.int .i64 0)] [(0,1,(.t 10)),(1,1,(.t 12))]))⟩,⟨some 2,none,(.op (.alloc [(.slice none 0 0),(.slice none 0 0),(.slice none 0 0),(.int .i64 0)]))⟩,⟨none,none,(.op (.st 4 (.t 2) (.t 13)))⟩])
 (.seq (.reg [oA 15 4 2,⟨some 16,none,(.call (.f 23) [(.t 15)])⟩,oM 14 16,oT 17 0 14,oT 18 1 14,⟨some 3,none,(.op (.alloc [(.slice none 0 0),(.slice none 0 0),(.slice none 0 0),(.int .i64 0)]))⟩,⟨none,none,(.op (.st 4 (.t 3) (.t 17)))⟩,oM 4 18])
 (.seq (.reg [oM 19 4,⟨some 20,none,(.call (.f 16) [(.t 19)])⟩,oE 21 20 0,oM 22 21,⟨some 23,(some (22,true)),(.op (.lda 4 (.t 2)))⟩,⟨some 24,(some (22,true)),(.op (.lda 4 (.t 3)))⟩,⟨some 25,(some (22,true)),(.call (.f 26) [(.t 23),(.t 24)])⟩,oP 26 22 25,oM 27 26,xqF 28 27 true 0 3,xqL 29 27 true 28,⟨some 30,(some (27,true)),(.call (.f 33) [(.t 29)])⟩,oP 31 27 30,oM 0 31])
 (.ret)))))
def r20:List XRes:=[.t 0]
theorem res20:resolveF Tryz.prog 20 = some (x20,r20,32):=by kernel_rfl
def x28:XCode:=.seq (.reg [oO 1 0,⟨some 2,none,(.op (.alloc [(.slice none 0 0),(.slice none 0 0),(.slice none 0 0),(.int .i64 0)]))⟩])
 (.seq (.drw none [oF 3 0 1,oL 4 3,⟨some 5,none,(.call (.f 38) [(.t 4)])⟩,oF 6 1 1,oL 7 6,⟨some 8,none,(.call (.f 75) [(.t 7)])⟩,oF 9 2 1,oL 10 9,⟨some 11,none,(.call (.f 40) [(.t 10)])⟩,oF 12 3 1,oL 13 12,⟨some 14,none,(.op (.build [(.slice none 0 0),(.slice none 0 0),(.slice none 0 0),(.int .i64 0)] [(0,1,(.t 5)),(1,1,(.t 8)),(2,1,(.t 11)),(3,1,(.t 13))]))⟩,⟨none,none,(.op (.st 4 (.t 2) (.t 14)))⟩])
 (.ret))
def r28:List XRes:=[.lda 4 2]
theorem res28:resolveF Tryz.prog 28 = some (x28,r28,15):=by kernel_rfl
def x38:XCode:=.seq (.reg [⟨some 2,none,(.op (.mov (.k (.slice none 0 0))))⟩])
 (.seq (.reg [⟨some 3,none,(.op (.bsl 5 0 [] []))⟩,oM 4 0,⟨some 5,none,(.op (.app 5 40 (.t 3) (.t 4)))⟩,oM 2 5])
 (.ret))
def r38:List XRes:=[.t 2]
theorem res38:resolveF Tryz.prog 38 = some (x38,r38,6):=by kernel_rfl
def x75:XCode:=.seq (.reg [⟨some 2,none,(.op (.mov (.k (.slice none 0 0))))⟩])
 (.seq (.reg [⟨some 3,none,(.op (.bsl 4 0 [] []))⟩,oM 4 0,⟨some 5,none,(.op (.app 4 40 (.t 3) (.t 4)))⟩,oM 2 5])
 (.ret))
def r75:List XRes:=[.t 2]
theorem res75:resolveF Tryz.prog 75 = some (x75,r75,6):=by kernel_rfl
def x40:XCode:=.seq (.reg [⟨some 2,none,(.op (.mov (.k (.slice none 0 0))))⟩])
 (.seq (.reg [⟨some 3,none,(.op (.bsl 5 0 [] []))⟩,oM 4 0,⟨some 5,none,(.op (.app 5 48 (.t 3) (.t 4)))⟩,oM 2 5])
 (.ret))
def r40:List XRes:=[.t 2]
theorem res40:resolveF Tryz.prog 40 = some (x40,r40,6):=by kernel_rfl
end Go.Tidy
namespace Go.Tidy
open Go Go.Eng Go.Proofs
set_option maxRecDepth 100000
def x151:XCode:=.seq (.reg [oB 4])
 (.seq (.reg [oM 5 0,⟨some 6,none,(.op (.bin .geq (.t 5) (.k (.int .i64 0))))⟩,oM 7 6,xqM 8 7 true 0,xqM 9 7 true 1,⟨some 10,(some (7,true)),(.op (.bin .lss (.t 8) (.t 9)))⟩,oP 11 7 10,oM 4 11])
 (.ret))
def r151:List XRes:=[.t 4]
theorem res151:resolveF Tryz.prog 151 = some (x151,r151,12):=by kernel_rfl
def x85:XCode:=.seq (.reg [⟨some 0,none,(.op (.mov (.k (.slice none 0 0))))⟩])
 (.seq (.reg [⟨some 1,none,(.op (.build [(.int .i64 0),.nilFunc] [(0,1,(.k (.int .i64 191))),(1,1,(.f 142))]))⟩,⟨some 2,none,(.op (.build [(.int .i64 0),.nilFunc] [(0,1,(.k (.int .i64 192))),(1,1,(.f 144))]))⟩,⟨some 3,none,(.op (.build [(.int .i64 0),.nilFunc] [(0,1,(.k (.int .i64 193))),(1,1,(.f 146))]))⟩,⟨some 4,none,(.op (.build [(.int .i64 0),.nilFunc] [(0,1,(.k (.int .i64 194))),(1,1,(.f 147))]))⟩,⟨some 5,none,(.op (.build [(.int .i64 0),.nilFunc] [(0,1,(.k (.int .i64 195))),(1,1,(.f 150))]))⟩,⟨some 6,none,(.op (.build [(.int .i64 0),.nilFunc] [(0,1,(.k (.int .i64 196))),(1,1,(.f 152))]))⟩,⟨some 7,none,(.op (.build [(.int .i64 0),.nilFunc] [(0,1,(.k (.int .i64 197))),(1,1,(.f 153))]))⟩,⟨some 8,none,(.op (.bsl 2 7 [(.int .i64 0),.nilFunc,(.int .i64 0),.nilFunc,(.int .i64 0),.nilFunc,(.int .i64 0),.nilFunc,(.int .i64 0),.nilFunc,(.int .i64 0),.nilFunc,(.int .i64 0),.nilFunc] [(0,2,(.t 1)),(2,2,(.t 2)),(4,2,(.t 3)),(6,2,(.t 4)),(8,2,(.t 5)),(10,2,(.t 6)),(12,2,(.t 7))]))⟩,oM 0 8])
 (.ret))
def r85:List XRes:=[.t 0]
theorem res85:resolveF Tryz.prog 85 = some (x85,r85,9):=by kernel_rfl
def x142:XCode:=.seq (.reg [oB 4])
 (.seq (.reg [oM 5 0,⟨some 6,none,(.op (.nck (.t 5)))⟩,oF 7 4 6,oL 8 7,oM 9 1,oX 10 5 8 9,oA 11 5 10,⟨some 12,none,(.call (.f 143) [(.t 11)])⟩,⟨some 13,none,(.op (.bin .neq (.t 12) (.k (.int .i64 0))))⟩,oM 4 13])
 (.ret))
def r142:List XRes:=[.t 4]
theorem res142:resolveF Tryz.prog 142 = some (x142,r142,14):=by kernel_rfl
def x144:XCode:=.seq (.reg [oB 4])
 (.seq (.reg [oM 10 0,⟨some 11,none,(.op (.nck (.t 10)))⟩,oF 12 4 11,oL 13 12,oM 14 1,oX 15 5 13 14,oA 16 5 15,⟨some 5,none,(.op (.alloc [(.int .i64 0),(.int .i64 0),(.int .i64 0),(.int .i64 0),(.int .i64 0)]))⟩,⟨none,none,(.op (.st 5 (.t 5) (.t 16)))⟩])
 (.seq (.reg [oF 17 3 5,oL 18 17,oM 6 18])
 (.seq (.seq (.reg [oF 19 0 5,oL 20 19,oE 21 20 6])
 (.cond (.t 21) (.reg [oF 22 4 5,oL 23 22,oM 6 23])
 (.skip)))
 (.seq (.reg [oA 24 5 5,⟨some 25,none,(.call (.f 145) [(.t 24)])⟩,oM 7 25])
 (.seq (.drw none [oM 27 0,⟨some 28,none,(.op (.nck (.t 27)))⟩,oF 29 6 28,oL 30 29,oM 31 0,⟨some 32,none,(.op (.nck (.t 31)))⟩,oF 33 5 32,oL 34 33,oM 35 1,oX 36 1 34 35,oL 37 36,oD 38 37 1,oM 39 6,⟨some 40,none,(.op (.bin .add (.t 38) (.t 39)))⟩,⟨some 41,none,(.op (.lku ⟨false,[1]⟩ (.int .i64 0) true (.t 30) (.t 40)))⟩,oM 26 41,oT 42 0 26,oT 43 1 26,oM 8 42,oM 9 43])
 (.seq (.reg [oM 44 7,oE 45 44 1,oM 46 45,xqM 47 46 false 7,⟨some 48,(some (46,false)),(.op (.bin .eql (.t 47) (.k (.int .i64 2))))⟩,oQ 49 46 48,oM 50 49,xqM 51 50 true 9,⟨some 52,(some (50,true)),(.op (.un .not (.t 51)))⟩,oP 53 50 52,oM 4 53])
 (.ret)))))))
def r144:List XRes:=[.t 4]
theorem res144:resolveF Tryz.prog 144 = some (x144,r144,54):=by kernel_rfl
def x146:XCode:=.seq (.reg [oB 4])
 (.seq (.reg [oM 6 0,⟨some 7,none,(.op (.nck (.t 6)))⟩,oF 8 4 7,oL 9 8,oM 10 1,oX 11 5 9 10,oA 12 5 11,⟨some 13,none,(.call (.f 145) [(.t 12)])⟩,oM 5 13])
 (.seq (.reg [oM 14 1,oM 15 0,⟨some 16,none,(.op (.nck (.t 15)))⟩,oF 17 4 16,oL 18 17,oN 19 18,⟨some 20,none,(.op (.bin .sub (.t 19) (.k (.int .i64 1))))⟩,⟨some 21,none,(.op (.bin .eql (.t 14) (.t 20)))⟩,oM 22 21,xqM 23 22 true 5,⟨some 24,(some (22,true)),(.op (.bin .neq (.t 23) (.k (.int .i64 1))))⟩,oP 25 22 24,oM 26 25,xqM 27 26 true 5,⟨some 28,(some (26,true)),(.op (.bin .neq (.t 27) (.k (.int .i64 4))))⟩,oP 29 26 28,oM 4 29])
 (.ret)))
def r146:List XRes:=[.t 4]
theorem res146:resolveF Tryz.prog 146 = some (x146,r146,30):=by kernel_rfl
def x147:XCode:=.seq (.reg [oB 4])
 (.seq (.reg [oM 5 0,⟨some 6,none,(.op (.nck (.t 5)))⟩,oF 7 4 6,oL 8 7,oM 9 1,oX 10 5 8 9,oA 11 5 10,⟨some 12,none,(.call (.f 149) [(.t 11)])⟩,⟨some 13,none,(.call (.f 148) [(.t 12),(.k (.int .i64 10))])⟩,oM 4 13])
 (.ret))
def r147:List XRes:=[.t 4]
theorem res147:resolveF Tryz.prog 147 = some (x147,r147,14):=by kernel_rfl
def x150:XCode:=.seq (.reg [oB 4])
 (.seq (.reg [oM 6 0,⟨some 7,none,(.op (.nck (.t 6)))⟩,oF 8 4 7,oL 9 8,oM 10 1,oX 11 5 9 10,oA 12 5 11,⟨some 5,none,(.op (.alloc [(.int .i64 0),(.int .i64 0),(.int .i64 0),(.int .i64 0),(.int .i64 0)]))⟩,⟨none,none,(.op (.st 5 (.t 5) (.t 12)))⟩])
 (.seq (.drw none [oA 13 5 5,⟨some 14,none,(.call (.f 145) [(.t 13)])⟩,oE 15 14 3,oM 16 15,xqF 17 16 true 4 5,xqL 18 16 true 17,xqM 19 16 true 0,⟨some 20,(some (16,true)),(.op (.nck (.t 19)))⟩,xqF 21 16 true 0 20,xqF 22 16 true 1 21,xqL 23 16 true 22,⟨some 24,(some (16,true)),(.op (.lenl (.t 23)))⟩,⟨some 25,(some (16,true)),(.call (.f 151) [(.t 18),(.t 24)])⟩,⟨some 26,(some (16,true)),(.op (.un .not (.t 25)))⟩,oP 27 16 26,oM 4 27])
 (.ret)))
def r150:List XRes:=[.t 4]
theorem res150:resolveF Tryz.prog 150 = some (x150,r150,28):=by kernel_rfl
def x152:XCode:=.seq (.reg [oB 4])
 (.seq (.reg [oM 6 0,⟨some 7,none,(.op (.nck (.t 6)))⟩,oF 8 4 7,oL 9 8,oM 10 1,oX 11 5 9 10,oA 12 5 11,⟨some 5,none,(.op (.alloc [(.int .i64 0),(.int .i64 0),(.int .i64 0),(.int .i64 0),(.int .i64 0)]))⟩,⟨none,none,(.op (.st 5 (.t 5) (.t 12)))⟩])
 (.seq (.drw none [oA 13 5 5,⟨some 14,none,(.call (.f 107) [(.t 13)])⟩,oM 15 14,xqF 16 15 true 2 5,xqL 17 15 true 16,⟨some 18,(some (15,true)),(.op (.bin .eql (.t 17) (.k (.int .i64 1))))⟩,oP 19 15 18,oM 20 19,xqF 21 20 true 4 5,xqL 22 20 true 21,xqM 23 20 true 0,⟨some 24,(some (20,true)),(.op (.nck (.t 23)))⟩,xqF 25 20 true 0 24,xqF 26 20 true 2 25,xqL 27 20 true 26,⟨some 28,(some (20,true)),(.op (.lenl (.t 27)))⟩,⟨some 29,(some (20,true)),(.call (.f 151) [(.t 22),(.t 28)])⟩,⟨some 30,(some (20,true)),(.op (.un .not (.t 29)))⟩,oP 31 20 30,oM 4 31])
 (.ret)))
def r152:List XRes:=[.t 4]
theorem res152:resolveF Tryz.prog 152 = some (x152,r152,32):=by kernel_rfl
def x153:XCode:=.seq (.reg [oB 4])
 (.seq (.reg [oM 8 0,⟨some 9,none,(.op (.nck (.t 8)))⟩,oF 10 4 9,oL 11 10,oM 12 1,oX 13 5 11 12,oA 14 5 13,⟨some 5,none,(.op (.alloc [(.int .i64 0),(.int .i64 0),(.int .i64 0),(.int .i64 0),(.int .i64 0)]))⟩,⟨none,none,(.op (.st 5 (.t 5) (.t 14)))⟩])
 (.seq (.reg [oF 16 0 5,oL 17 16,⟨some 18,none,(.call (.f 154) [(.t 17)])⟩,oM 15 18,oT 19 0 15,oT 20 1 15,⟨some 6,none,(.op (.alloc [(.int .i64 0),(.int .i64 0),(.bool false),(.bool false),(.bool false),(.bool false)]))⟩,⟨none,none,(.op (.st 6 (.t 6) (.t 19)))⟩,oM 7 20])
 (.seq (.reg [oF 21 0 6,oL 22 21,oE 23 22 9,oM 24 23,xqF 25 24 true 2 5,xqL 26 24 true 25,⟨some 27,(some (24,true)),(.op (.bin .eql (.t 26) (.k (.int .i64 0))))⟩,oP 28 24 27,oM 29 28,xqF 30 29 true 4 5,xqL 31 29 true 30,⟨some 32,(some (29,true)),(.op (.bin .lss (.t 31) (.k (.int .i64 1))))⟩,xqM 33 29 true 32,xqF 34 33 false 4 5,xqL 35 33 false 34,⟨some 36,(some (33,false)),(.op (.bin .gtr (.t 35) (.k (.int .i64 4))))⟩,⟨some 37,(some (29,true)),(.op (.pick (.t 33) (.k (.bool true)) (.t 36)))⟩,oP 38 29 37,oM 4 38])
 (.ret))))
def r153:List XRes:=[.t 4]
theorem res153:resolveF Tryz.prog 153 = some (x153,r153,39):=by kernel_rfl
def x86:XCode:=.seq (.reg [oO 2 0,oO 3 1,⟨some 4,none,(.op (.mov (.k (.pointer none))))⟩])
 (.seq (.drw none [oA 9 4 2,oF 10 0 2,oL 11 10,oF 12 2 3,oL 13 12,oF 14 2 3,oL 15 14,oF 16 3 3,oL 17 16,⟨some 18,none,(.op (.bin .add (.t 15) (.t 17)))⟩,⟨some 19,none,(.op (.sls 5 (.t 11) (some (.t 13)) (some (.t 18))))⟩,⟨some 20,none,(.op (.mkm none))⟩,⟨some 21,none,(.op (.build [(.slice none 0 0),(.slice none 0 0),(.slice none 0 0),(.int .i64 0),(.slice none 0 0),(.slice none 0 0),(.map none)] [(0,4,(.t 9)),(4,1,(.t 19)),(6,1,(.t 20))]))⟩,oO 22 21,oM 5 22])
 (.seq (.reg [oI 6 0])
 (.seq (.seq (.reg [oM 23 5,⟨some 24,none,(.op (.nck (.t 23)))⟩,oF 25 4 24,oL 26 25,oN 27 26,oI 28 0])
 (.block 0 (.loop (.seq (.reg [oS 29 28 27])
 (.seq (.cond (.t 29) (.skip)
 (.exit 0))
 (.seq (.block 1 (.seq (.reg [oM 30 28,oX 31 5 26 28,oA 32 5 31,⟨some 8,none,(.op (.alloc [(.int .i64 0),(.int .i64 0),(.int .i64 0),(.int .i64 0),(.int .i64 0)]))⟩,oM 7 30,⟨none,none,(.op (.st 5 (.t 8) (.t 32)))⟩])
 (.seq (.reg [oM 33 5,oM 34 5,⟨some 35,none,(.op (.nck (.t 34)))⟩,oF 36 5 35,oL 37 36,oM 38 6,⟨some 39,none,(.op (.bsl 1 1 [(.int .i64 0)] [(0,1,(.t 38))]))⟩,⟨some 40,none,(.op (.app 1 8 (.t 37) (.t 39)))⟩,⟨some 41,none,(.op (.nck (.t 33)))⟩,oF 42 5 41,⟨none,none,(.op (.st 1 (.t 42) (.t 40)))⟩])
 (.seq (.reg [oM 43 5,⟨some 44,none,(.op (.nck (.t 43)))⟩,oF 45 6 44,oL 46 45,oM 47 6,oM 48 7,⟨none,none,(.op (.mup ⟨false,[1]⟩ (.t 46) (.t 47) (.t 48)))⟩])
 (.seq (.reg [oM 49 6,oD 50 49 1,oM 6 50])
 (.seq (.reg [oA 51 5 8,⟨some 52,none,(.call (.f 107) [(.t 51)])⟩])
 (.cond (.t 52) (.reg [oM 53 6,oD 54 53 1,oM 6 54])
 (.skip))))))))
 (.reg [oD 55 28 1,oM 28 55])))))))
 (.seq (.reg [oM 56 5,oM 4 56])
 (.ret)))))
def r86:List XRes:=[.t 4]
theorem res86:resolveF Tryz.prog 86 = some (x86,r86,57):=by kernel_rfl
def x87:XCode:=.seq (.reg [oI 4 0,oI 5 0])
 (.seq (.seq (.reg [oM 9 0,⟨some 10,none,(.op (.nck (.t 9)))⟩,oF 11 4 10,oL 12 11,oN 13 12,oI 14 0])
 (.block 0 (.loop (.seq (.reg [oS 15 14 13])
 (.seq (.cond (.t 15) (.skip)
 (.exit 0))
 (.seq (.block 1 (.seq (.reg [oM 16 14,oM 6 16])
 (.seq (.reg [oM 17 1,oN 18 17,oI 19 0])
 (.block 2 (.loop (.seq (.reg [oS 20 19 18])
 (.seq (.cond (.t 20) (.skip)
 (.exit 2))
 (.seq (.block 3 (.seq (.reg [oX 21 2 17 19,oA 22 2 21,⟨some 8,none,(.op (.alloc [(.int .i64 0),.nilFunc]))⟩,⟨none,none,(.op (.st 2 (.t 8) (.t 22)))⟩])
 (.seq (.reg [oF 23 1 8,oL 24 23,oM 25 0,oM 26 6,⟨some 27,none,(.call (.t 24) [(.t 25),(.t 26)])⟩])
 (.cond (.t 27) (.seq (.drw none [oM 28 6,oF 29 0 8,oL 30 29,oM 4 28,oM 5 30])
 (.ret))
 (.skip)))))
 (.reg [oD 31 19 1,oM 19 31])))))))))
 (.reg [oD 32 14 1,oM 14 32])))))))
 (.seq (.reg [oI 4 0,oI 5 0])
 (.ret)))
def r87:List XRes:=[.t 4,.t 5]
theorem res87:resolveF Tryz.prog 87 = some (x87,r87,33):=by kernel_rfl
def x89:XCode:=.seq (.reg [oO 1 0,⟨some 2,none,(.op (.mov (.k (.slice none 0 0))))⟩])
 (.seq (.reg [oF 8 1 1,oL 9 8,oN 10 9,⟨some 11,none,(.op (.mks 1 24 [(.slice none 0 0)] (.t 10) (.t 10)))⟩,oM 3 11])
 (.seq (.seq (.reg [oF 12 1 1,oL 13 12,oN 14 13,oI 15 0])
 (.block 0 (.loop (.seq (.reg [oS 16 15 14])
 (.seq (.cond (.t 16) (.skip)
 (.exit 0))
 (.seq (.block 1 (.seq (.reg [oM 17 15,oX 18 4 13 15,oA 19 4 18,⟨some 5,none,(.op (.alloc [(.string ⟨#[]⟩),(.int .i64 0),(.int .i64 0),(.int .i64 0)]))⟩,oM 4 17,⟨none,none,(.op (.st 4 (.t 5) (.t 19)))⟩])
 (.seq (.reg [oF 20 0 1,oL 21 20,oF 22 2 5,oL 23 22,oF 24 2 5,oL 25 24,oF 26 3 5,oL 27 26,⟨some 28,none,(.op (.bin .add (.t 25) (.t 27)))⟩,⟨some 29,none,(.op (.sls 5 (.t 21) (some (.t 23)) (some (.t 28))))⟩,oN 30 29,oI 31 0])
 (.block 2 (.loop (.seq (.reg [oS 32 31 30])
 (.seq (.cond (.t 32) (.skip)
 (.exit 2))
 (.seq (.block 3 (.seq (.reg [oX 33 5 29 31,oA 34 5 33,⟨some 7,none,(.op (.alloc [(.int .i64 0),(.int .i64 0),(.int .i64 0),(.int .i64 0),(.int .i64 0)]))⟩,⟨none,none,(.op (.st 5 (.t 7) (.t 34)))⟩])
 (.seq (.reg [oA 35 5 7,⟨some 36,none,(.call (.f 145) [(.t 35)])⟩,oE 37 36 3])
 (.cond (.t 37) (.drw none [oM 38 3,oM 39 4,oM 40 3,oM 41 4,oX 42 1 40 41,oL 43 42,oF 44 4 7,oL 45 44,⟨some 46,none,(.op (.bsl 1 1 [(.int .i64 0)] [(0,1,(.t 45))]))⟩,⟨some 47,none,(.op (.app 1 8 (.t 43) (.t 46)))⟩,oX 48 1 38 39,⟨none,none,(.op (.st 1 (.t 48) (.t 47)))⟩])
 (.skip)))))
 (.reg [oD 49 31 1,oM 31 49])))))))))
 (.reg [oD 50 15 1,oM 15 50])))))))
 (.seq (.reg [oM 51 3,oM 2 51])
 (.ret))))
def r89:List XRes:=[.t 2]
theorem res89:resolveF Tryz.prog 89 = some (x89,r89,52):=by kernel_rfl
def x88:XCode:=.seq (.reg [⟨some 2,none,(.op (.mov (.k (.slice none 0 0))))⟩])
 (.seq (.reg [oM 10 0,oN 11 10,⟨some 12,none,(.op (.mks 1 8 [(.int .i64 0)] (.t 11) (.t 11)))⟩,oM 3 12])
 (.seq (.seq (.reg [oM 13 0,oN 14 13,oI 15 0])
 (.block 0 (.loop (.seq (.reg [oS 16 15 14])
 (.seq (.cond (.t 16) (.skip)
 (.exit 0))
 (.seq (.block 1 (.seq (.reg [oM 17 15,oM 4 17])
 (.seq (.seq (.reg [oM 18 3,oM 19 4,oX 20 1 18 19,oL 21 20,⟨some 22,none,(.op (.bin .neq (.t 21) (.k (.int .i64 0))))⟩])
 (.cond (.t 22) (.exit 1)
 (.skip)))
 (.seq (.reg [oM 23 3,oM 24 4,oX 25 1 23 24,⟨none,none,(.op (.st 1 (.t 25) (.k (.int .i64 (-1)))))⟩])
 (.seq (.reg [oM 26 4,⟨some 27,none,(.op (.build [(.int .i64 0),(.int .i64 0),(.int .i64 0)] [(0,1,(.t 26))]))⟩,⟨some 28,none,(.op (.bsl 3 1 [(.int .i64 0),(.int .i64 0),(.int .i64 0)] [(0,3,(.t 27))]))⟩,oM 5 28])
 (.seq (.skip)
 (.block 2 (.loop (.seq (.seq (.reg [oM 29 5,oN 30 29,⟨some 31,none,(.op (.bin .gtr (.t 30) (.k (.int .i64 0))))⟩])
 (.cond (.t 31) (.skip)
 (.exit 2)))
 (.block 3 (.seq (.reg [oM 32 5,oM 33 5,oN 34 33,⟨some 35,none,(.op (.bin .sub (.t 34) (.k (.int .i64 1))))⟩,oX 36 3 32 35,oM 6 36])
 (.seq (.block 4 (.loop (.seq (.seq (.drw none [oM 37 6,⟨some 38,none,(.op (.nck (.t 37)))⟩,oF 39 1 38,oL 40 39,oM 41 0,oM 42 6,⟨some 43,none,(.op (.nck (.t 42)))⟩,oF 44 0 43,oL 45 44,oX 46 1 41 45,oL 47 46,oN 48 47,oS 49 40 48])
 (.cond (.t 49) (.skip)
 (.exit 4)))
 (.block 5 (.seq (.drw none [oM 50 0,oM 51 6,⟨some 52,none,(.op (.nck (.t 51)))⟩,oF 53 0 52,oL 54 53,oX 55 1 50 54,oL 56 55,oM 57 6,⟨some 58,none,(.op (.nck (.t 57)))⟩,oF 59 1 58,oL 60 59,oX 61 1 56 60,oL 62 61,oM 7 62])
 (.seq (.reg [oM 63 6,⟨some 64,none,(.op (.nck (.t 63)))⟩,oF 65 1 64,oL 66 65,oD 67 66 1,⟨some 68,none,(.op (.nck (.t 63)))⟩,oF 69 1 68,⟨none,none,(.op (.st 1 (.t 69) (.t 67)))⟩])
 (.seq (.reg [oM 70 3,oM 71 7,oX 72 1 70 71,oL 73 72])
 (.block 6 (.seq (.reg [oE 87 73 (-1),oM 86 87])
 (.cond (.t 86) (.reg [oM 88 6,⟨some 89,none,(.op (.nck (.t 88)))⟩,oF 90 2 89,⟨none,none,(.op (.st 1 (.t 90) (.k (.int .i64 9))))⟩])
 (.seq (.reg [oE 92 73 0,oM 91 92])
 (.cond (.t 91) (.seq (.reg [oM 93 3,oM 94 7,oX 95 1 93 94,⟨none,none,(.op (.st 1 (.t 95) (.k (.int .i64 (-1)))))⟩])
 (.seq (.reg [oM 96 5,oM 97 7,⟨some 98,none,(.op (.build [(.int .i64 0),(.int .i64 0),(.int .i64 0)] [(0,1,(.t 97))]))⟩,⟨some 99,none,(.op (.bsl 3 1 [(.int .i64 0),(.int .i64 0),(.int .i64 0)] [(0,3,(.t 98))]))⟩,⟨some 100,none,(.op (.app 3 24 (.t 96) (.t 99)))⟩,oM 5 100])
 (.exit 3)))
 (.drw none [oM 74 6,oM 75 6,⟨some 76,none,(.op (.nck (.t 75)))⟩,oF 77 2 76,oL 78 77,oM 79 3,oM 80 7,oX 81 1 79 80,oL 82 81,⟨some 83,none,(.op (.mx false (.t 78) (.t 82)))⟩,⟨some 84,none,(.op (.nck (.t 74)))⟩,oF 85 2 84,⟨none,none,(.op (.st 1 (.t 85) (.t 83)))⟩])))))))))))))
 (.seq (.reg [oM 101 6,⟨some 102,none,(.op (.nck (.t 101)))⟩,oF 103 2 102,oL 104 103,oD 105 104 1,⟨some 106,none,(.op (.mx true (.t 105) (.k (.int .i64 9))))⟩,oM 8 106])
 (.seq (.reg [oM 107 3,oM 108 6,⟨some 109,none,(.op (.nck (.t 108)))⟩,oF 110 0 109,oL 111 110,oM 112 8,oX 113 1 107 111,⟨none,none,(.op (.st 1 (.t 113) (.t 112)))⟩])
 (.seq (.reg [oM 114 5,oM 115 5,oN 116 115,⟨some 117,none,(.op (.bin .sub (.t 116) (.k (.int .i64 1))))⟩,⟨some 118,none,(.op (.sls 3 (.t 114) none (some (.t 117))))⟩,oM 5 118])
 (.seq (.reg [oM 119 5,oN 120 119,⟨some 121,none,(.op (.bin .gtr (.t 120) (.k (.int .i64 0))))⟩])
 (.cond (.t 121) (.seq (.reg [oM 122 5,oM 123 5,oN 124 123,⟨some 125,none,(.op (.bin .sub (.t 124) (.k (.int .i64 1))))⟩,oX 126 3 122 125,oM 9 126])
 (.reg [oM 127 9,oM 128 9,⟨some 129,none,(.op (.nck (.t 128)))⟩,oF 130 2 129,oL 131 130,oM 132 8,⟨some 133,none,(.op (.mx false (.t 131) (.t 132)))⟩,⟨some 134,none,(.op (.nck (.t 127)))⟩,oF 135 2 134,⟨none,none,(.op (.st 1 (.t 135) (.t 133)))⟩]))
 (.skip))))))))))))))))))
 (.reg [oD 136 15 1,oM 15 136])))))))
 (.seq (.reg [oM 137 3,oM 2 137])
 (.ret))))
def r88:List XRes:=[.t 2]
theorem res88:resolveF Tryz.prog 88 = some (x88,r88,138):=by kernel_rfl
def x34:XCode:=.seq (.reg [oO 1 0,oI 2 0,oI 3 0,oI 4 0])
 (.seq (.seq (.reg [oA 18 4 1,⟨some 19,none,(.call (.f 79) [(.t 18)])⟩,oM 17 19,oT 20 0 17,oT 21 1 17,oM 5 20,oM 6 21])
 (.seq (.reg [oM 22 6,⟨some 23,none,(.op (.bin .neq (.t 22) (.k (.int .i64 0))))⟩])
 (.cond (.t 23) (.seq (.reg [oI 2 0,oI 3 0,oI 4 190])
 (.ret))
 (.skip))))
 (.seq (.reg [oF 24 1 1,oL 25 24,oN 26 25,⟨some 27,none,(.op (.mks 1 8 [(.int .i64 0)] (.t 26) (.t 26)))⟩,oM 7 27])
 (.seq (.seq (.reg [oM 28 7,oN 29 28,oI 30 0])
 (.block 0 (.loop (.seq (.reg [oS 31 30 29])
 (.seq (.cond (.t 31) (.skip)
 (.exit 0))
 (.seq (.block 1 (.seq (.reg [oM 32 30,oM 8 32])
 (.reg [oM 33 7,oM 34 8,oM 35 8,oX 36 1 33 34,⟨none,none,(.op (.st 1 (.t 36) (.t 35)))⟩])))
 (.reg [oD 37 30 1,oM 30 37])))))))
 (.seq (.reg [oM 38 7,⟨some 39,none,(.op (.mkf 81 [(.t 1)]))⟩,⟨some 40,none,(.call (.f 80) [(.t 38),(.t 39)])⟩])
 (.seq (.reg [⟨some 41,none,(.call (.f 85) [])⟩,oM 9 41])
 (.seq (.seq (.reg [oM 42 7,oN 43 42,oI 44 0])
 (.block 2 (.loop (.seq (.reg [oS 45 44 43])
 (.seq (.cond (.t 45) (.skip)
 (.exit 2))
 (.seq (.block 3 (.seq (.reg [oX 46 1 42 44,oL 47 46,oM 11 47])
 (.seq (.drw none [oA 49 4 1,oF 50 1 1,oL 51 50,oM 52 11,oX 53 4 51 52,oA 54 4 53,⟨some 55,none,(.call (.f 86) [(.t 49),(.t 54)])⟩,oM 56 9,⟨some 57,none,(.call (.f 87) [(.t 55),(.t 56)])⟩,oM 48 57,oT 58 0 48,oT 59 1 48,oM 12 58,oM 13 59])
 (.seq (.reg [oM 60 13,⟨some 61,none,(.op (.bin .neq (.t 60) (.k (.int .i64 0))))⟩])
 (.cond (.t 61) (.seq (.reg [oM 62 11,oM 63 12,oM 64 13,oM 2 62,oM 3 63,oM 4 64])
 (.ret))
 (.skip))))))
 (.reg [oD 65 44 1,oM 44 65])))))))
 (.seq (.reg [oA 66 4 1,⟨some 67,none,(.call (.f 89) [(.t 66)])⟩,⟨some 68,none,(.call (.f 88) [(.t 67)])⟩,oM 14 68])
 (.seq (.seq (.reg [oM 69 7,oN 70 69,oI 71 0])
 (.block 4 (.loop (.seq (.reg [oS 72 71 70])
 (.seq (.cond (.t 72) (.skip)
 (.exit 4))
 (.seq (.block 5 (.seq (.reg [oX 73 1 69 71,oL 74 73,oM 16 74])
 (.seq (.reg [oM 75 14,oM 76 16,oX 77 1 75 76,oL 78 77,⟨some 79,none,(.op (.bin .gtr (.t 78) (.k (.int .i64 8))))⟩])
 (.cond (.t 79) (.seq (.reg [oM 80 16,oM 2 80,oI 3 0,oI 4 198])
 (.ret))
 (.skip)))))
 (.reg [oD 81 71 1,oM 71 81])))))))
 (.seq (.reg [oI 2 0,oI 3 0,oI 4 0])
 (.ret))))))))))
def r34:List XRes:=[.t 2,.t 3,.t 4]
theorem res34:resolveF Tryz.prog 34 = some (x34,r34,82):=by kernel_rfl
def x81:XCode:=.seq (.reg [oI 5 0])
 (.seq (.drw (some [6,7]) [oF 8 1 2,oL 9 8,oM 10 0,oX 11 4 9 10,oA 12 4 11,oF 13 1 2,oL 14 13,oM 15 1,oX 16 4 14 15,oA 17 4 16,⟨some 6,none,(.op (.alloc [(.string ⟨#[]⟩),(.int .i64 0),(.int .i64 0),(.int .i64 0)]))⟩,⟨some 7,none,(.op (.alloc [(.string ⟨#[]⟩),(.int .i64 0),(.int .i64 0),(.int .i64 0)]))⟩,⟨none,none,(.op (.st 4 (.t 6) (.t 12)))⟩,⟨none,none,(.op (.st 4 (.t 7) (.t 17)))⟩])
 (.seq (.drw none [oF 18 0 6,oL 19 18,oF 20 0 7,oL 21 20,⟨some 22,none,(.call (.f 83) [(.t 19),(.t 21)])⟩,oF 23 1 6,oL 24 23,oF 25 1 7,oL 26 25,⟨some 27,none,(.call (.f 84) [(.t 24),(.t 26)])⟩,⟨some 28,none,(.op (.bsl 1 2 [(.int .i64 0),(.int .i64 0)] [(0,1,(.t 22)),(1,1,(.t 27))]))⟩,⟨some 29,none,(.call (.f 82) [(.t 28)])⟩,oM 5 29])
 (.ret)))
def r81:List XRes:=[.t 5]
theorem res81:resolveF Tryz.prog 81 = some (x81,r81,30):=by kernel_rfl
def x83:XCode:=.seq (.reg [oI 4 0])
 (.seq (.reg [oM 7 0,⟨some 8,none,(.call (.f 140) [(.t 7)])⟩,oM 5 8])
 (.seq (.reg [oM 9 1,⟨some 10,none,(.call (.f 140) [(.t 9)])⟩,oM 6 10])
 (.seq (.seq (.reg [oM 11 5])
 (.cond (.t 11) (.seq (.seq (.reg [oM 12 6])
 (.cond (.t 12) (.seq (.reg [oI 4 0])
 (.ret))
 (.skip)))
 (.seq (.reg [oI 4 (-1)])
 (.ret)))
 (.skip)))
 (.seq (.seq (.reg [oM 13 6])
 (.cond (.t 13) (.seq (.reg [oI 4 1])
 (.ret))
 (.skip)))
 (.seq (.seq (.reg [oM 14 0,oM 15 1,oS 16 14 15])
 (.cond (.t 16) (.seq (.reg [oI 4 (-1)])
 (.ret))
 (.skip)))
 (.seq (.seq (.reg [oM 17 0,oM 18 1,⟨some 19,none,(.op (.bin .gtr (.t 17) (.t 18)))⟩])
 (.cond (.t 19) (.seq (.reg [oI 4 1])
 (.ret))
 (.skip)))
 (.seq (.reg [oI 4 0])
 (.ret))))))))
def r83:List XRes:=[.t 4]
theorem res83:resolveF Tryz.prog 83 = some (x83,r83,20):=by kernel_rfl
def x84:XCode:=.seq (.reg [oI 4 0])
 (.seq (.reg [oM 7 0,⟨some 8,none,(.call (.f 141) [(.t 7)])⟩,oM 5 8])
 (.seq (.reg [oM 9 1,⟨some 10,none,(.call (.f 141) [(.t 9)])⟩,oM 6 10])
 (.seq (.seq (.reg [oM 11 5])
 (.cond (.t 11) (.seq (.seq (.reg [oM 12 6])
 (.cond (.t 12) (.seq (.reg [oI 4 0])
 (.ret))
 (.skip)))
 (.seq (.reg [oI 4 (-1)])
 (.ret)))
 (.skip)))
 (.seq (.seq (.reg [oM 13 6])
 (.cond (.t 13) (.seq (.reg [oI 4 1])
 (.ret))
 (.skip)))
 (.seq (.seq (.reg [oM 14 0,oM 15 1,oS 16 14 15])
 (.cond (.t 16) (.seq (.reg [oI 4 (-1)])
 (.ret))
 (.skip)))
 (.seq (.seq (.reg [oM 17 0,oM 18 1,⟨some 19,none,(.op (.bin .gtr (.t 17) (.t 18)))⟩])
 (.cond (.t 19) (.seq (.reg [oI 4 1])
 (.ret))
 (.skip)))
 (.seq (.reg [oI 4 0])
 (.ret))))))))
def r84:List XRes:=[.t 4]
theorem res84:resolveF Tryz.prog 84 = some (x84,r84,20):=by kernel_rfl
def x140:XCode:=.seq (.reg [oB 2])
 (.seq (.reg [oM 3 0,oM 4 0,⟨some 5,none,(.op (.bin .neq (.t 3) (.t 4)))⟩,oM 2 5])
 (.ret))
def r140:List XRes:=[.t 2]
theorem res140:resolveF Tryz.prog 140 = some (x140,r140,6):=by kernel_rfl
def x141:XCode:=.seq (.reg [oB 2])
 (.seq (.reg [oM 3 0,oM 4 0,⟨some 5,none,(.op (.bin .neq (.t 3) (.t 4)))⟩,oM 2 5])
 (.ret))
def r141:List XRes:=[.t 2]
theorem res141:resolveF Tryz.prog 141 = some (x141,r141,6):=by kernel_rfl
def x82:XCode:=.seq (.reg [oI 2 0])
 (.seq (.reg [oI 3 0])
 (.seq (.seq (.reg [oM 6 0,oN 7 6,oI 8 0])
 (.block 0 (.loop (.seq (.reg [oS 9 8 7])
 (.seq (.cond (.t 9) (.skip)
 (.exit 0))
 (.seq (.block 1 (.seq (.reg [oX 10 1 6 8,oL 11 10,oM 5 11])
 (.seq (.reg [oM 12 5,oM 13 3,⟨some 14,none,(.op (.bin .neq (.t 12) (.t 13)))⟩])
 (.cond (.t 14) (.seq (.reg [oM 15 5,oM 2 15])
 (.ret))
 (.skip)))))
 (.reg [oD 16 8 1,oM 8 16])))))))
 (.seq (.reg [oM 17 3,oM 2 17])
 (.ret))))
def r82:List XRes:=[.t 2]
theorem res82:resolveF Tryz.prog 82 = some (x82,r82,18):=by kernel_rfl
end Go.Tidy

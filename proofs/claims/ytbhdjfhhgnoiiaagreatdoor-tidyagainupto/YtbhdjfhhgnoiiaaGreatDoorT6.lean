/- Part 6 of a proof: an abstract memory for the translated code, and what the functions that the law reaches do over it. -/
import Derived.Test.YtbhdjfhhgnoiiaaGreatDoorProg
import Derived.Test.YtbhdjfhhgnoiiaaGreatDoorT5
set_option linter.unusedSimpArgs false
set_option linter.unusedVariables false
namespace Go.Tidy
open Go Go.Eng Go.Proofs
set_option maxRecDepth 100000
def x7 : XCode := .seq (.reg [⟨(some 1), none, (.op (.box (.t 0)))⟩,
   ⟨(some 2), none, (.op (.mov (.k (.bool false))))⟩])
 (.seq (.seq (.reg [⟨(some 10), none, (.call (.f 20) [])⟩,
     ⟨(some 11), none, (.op (.un .not (.t 10)))⟩])
   (.cond (.t 11) (.seq (.reg [⟨(some 2), none, (.op (.mov (.k (.bool false))))⟩])
     (.ret))
    (.skip)))
  (.seq (.reg [⟨(some 13), none, (.op (.lda 4 (.t 1)))⟩,
     ⟨(some 14), none, (.call (.f 28) [(.t 13)])⟩,
     ⟨(some 15), none, (.call (.f 23) [(.t 14)])⟩,
     ⟨(some 12), none, (.op (.mov (.t 15)))⟩,
     ⟨(some 16), none, (.op (.ext 0 (.t 12)))⟩,
     ⟨(some 17), none, (.op (.ext 1 (.t 12)))⟩,
     ⟨(some 3), none, (.op (.alloc [(.slice none 0 0), (.slice none 0 0), (.slice none 0 0), (.int .i64 0)]))⟩,
     ⟨none, none, (.op (.st 4 (.t 3) (.t 16)))⟩,
     ⟨(some 4), none, (.op (.mov (.t 17)))⟩])
   (.seq (.seq (.reg [⟨(some 18), none, (.op (.mov (.t 4)))⟩,
       ⟨(some 19), none, (.call (.f 16) [(.t 18)])⟩,
       ⟨(some 20), none, (.op (.bin .neq (.t 19) (.k (.int .i64 0))))⟩])
     (.cond (.t 20) (.seq (.reg [⟨(some 21), none, (.op (.fad 0 (.t 3)))⟩,
         ⟨(some 22), none, (.op (.ld1 (.t 21)))⟩,
         ⟨(some 23), none, (.op (.lenl (.t 22)))⟩,
         ⟨(some 24), none, (.op (.bin .eql (.t 23) (.k (.int .i64 0))))⟩,
         ⟨(some 2), none, (.op (.mov (.t 24)))⟩])
       (.ret))
      (.skip)))
    (.seq (.reg [⟨(some 26), none, (.op (.lda 4 (.t 3)))⟩,
       ⟨(some 27), none, (.call (.f 28) [(.t 26)])⟩,
       ⟨(some 28), none, (.call (.f 34) [(.t 27)])⟩,
       ⟨(some 25), none, (.op (.mov (.t 28)))⟩,
       ⟨(some 29), none, (.op (.ext 0 (.t 25)))⟩,
       ⟨(some 30), none, (.op (.ext 1 (.t 25)))⟩,
       ⟨(some 31), none, (.op (.ext 2 (.t 25)))⟩,
       ⟨(some 5), none, (.op (.mov (.t 29)))⟩,
       ⟨(some 6), none, (.op (.mov (.t 30)))⟩,
       ⟨(some 7), none, (.op (.mov (.t 31)))⟩])
     (.seq (.reg [⟨(some 33), none, (.op (.lda 4 (.t 3)))⟩,
        ⟨(some 34), none, (.call (.f 28) [(.t 33)])⟩,
        ⟨(some 35), none, (.call (.f 23) [(.t 34)])⟩,
        ⟨(some 32), none, (.op (.mov (.t 35)))⟩,
        ⟨(some 36), none, (.op (.ext 0 (.t 32)))⟩,
        ⟨(some 37), none, (.op (.ext 1 (.t 32)))⟩,
        ⟨(some 8), none, (.op (.alloc [(.slice none 0 0), (.slice none 0 0), (.slice none 0 0), (.int .i64 0)]))⟩,
        ⟨none, none, (.op (.st 4 (.t 8) (.t 36)))⟩,
        ⟨(some 9), none, (.op (.mov (.t 37)))⟩])
      (.seq (.reg [⟨(some 38), none, (.op (.mov (.t 7)))⟩,
         ⟨(some 39), none, (.call (.f 16) [(.t 38)])⟩,
         ⟨(some 40), none, (.op (.bin .eql (.t 39) (.k (.int .i64 0))))⟩,
         ⟨(some 41), none, (.op (.mov (.t 40)))⟩,
         ⟨(some 42), (some (41, true)), (.op (.mov (.t 9)))⟩,
         ⟨(some 43), (some (41, true)), (.call (.f 16) [(.t 42)])⟩,
         ⟨(some 44), (some (41, true)), (.op (.bin .eql (.t 43) (.k (.int .i64 0))))⟩,
         ⟨(some 45), none, (.op (.pick (.t 41) (.t 44) (.k (.bool false))))⟩,
         ⟨(some 46), none, (.op (.mov (.t 45)))⟩,
         ⟨(some 47), (some (46, true)), (.op (.lda 4 (.t 3)))⟩,
         ⟨(some 48), (some (46, true)), (.op (.lda 4 (.t 8)))⟩,
         ⟨(some 49), (some (46, true)), (.call (.f 26) [(.t 47), (.t 48)])⟩,
         ⟨(some 50), none, (.op (.pick (.t 46) (.t 49) (.k (.bool false))))⟩,
         ⟨(some 2), none, (.op (.mov (.t 50)))⟩])
       (.ret)))))))
def r7 : List XRes := [.t 2]
theorem res7 : resolveF Tryz.prog 7 = some (x7, r7, 51) := by kernel_rfl
def x16 : XCode := .seq (.reg [⟨(some 2), none, (.op (.mov (.k (.int .i64 0))))⟩])
 (.seq (.reg [⟨(some 3), none, (.op (.mov (.t 0)))⟩,
    ⟨(some 2), none, (.op (.mov (.t 3)))⟩])
  (.ret))
def r16 : List XRes := [.t 2]
theorem res16 : resolveF Tryz.prog 16 = some (x16, r16, 4) := by kernel_rfl
def x51 : XCode := .seq (.reg [⟨(some 4), none, (.op (.mov (.k (.bool false))))⟩])
 (.seq (.seq (.reg [⟨(some 6), none, (.op (.mov (.t 0)))⟩,
     ⟨(some 7), none, (.op (.lenl (.t 6)))⟩,
     ⟨(some 8), none, (.op (.mov (.t 1)))⟩,
     ⟨(some 9), none, (.op (.lenl (.t 8)))⟩,
     ⟨(some 10), none, (.op (.bin .neq (.t 7) (.t 9)))⟩])
   (.cond (.t 10) (.seq (.reg [⟨(some 4), none, (.op (.mov (.k (.bool false))))⟩])
     (.ret))
    (.skip)))
  (.seq (.seq (.reg [⟨(some 5), none, (.op (.mov (.k (.int .i64 0))))⟩])
    (.block 0 (.loop (.seq (.seq (.reg [⟨(some 11), none, (.op (.mov (.t 5)))⟩,
          ⟨(some 12), none, (.op (.mov (.t 0)))⟩,
          ⟨(some 13), none, (.op (.lenl (.t 12)))⟩,
          ⟨(some 14), none, (.op (.bin .lss (.t 11) (.t 13)))⟩])
        (.cond (.t 14) (.skip)
         (.exit 0)))
       (.seq (.block 1 (.seq (.drw none [⟨(some 17), none, (.op (.mov (.t 0)))⟩,
            ⟨(some 18), none, (.op (.mov (.t 5)))⟩,
            ⟨(some 19), none, (.op (.iad 5 (.t 17) (.t 18)))⟩,
            ⟨(some 20), none, (.op (.lda 5 (.t 19)))⟩,
            ⟨(some 21), none, (.op (.mov (.t 1)))⟩,
            ⟨(some 22), none, (.op (.mov (.t 5)))⟩,
            ⟨(some 23), none, (.op (.iad 5 (.t 21) (.t 22)))⟩,
            ⟨(some 24), none, (.op (.lda 5 (.t 23)))⟩,
            ⟨(some 25), none, (.op (.seq false ⟨true, [2, 1, 1, 1, 1]⟩ (.t 20) (.t 24)))⟩])
          (.cond (.t 25) (.seq (.reg [⟨(some 4), none, (.op (.mov (.k (.bool false))))⟩])
            (.ret))
           (.skip))))
        (.reg [⟨(some 15), none, (.op (.mov (.t 5)))⟩,
          ⟨(some 16), none, (.op (.bin .add (.t 15) (.k (.int .i64 1))))⟩,
          ⟨(some 5), none, (.op (.mov (.t 16)))⟩]))))))
   (.seq (.reg [⟨(some 4), none, (.op (.mov (.k (.bool true))))⟩])
    (.ret))))
def r51 : List XRes := [.t 4]
theorem res51 : resolveF Tryz.prog 51 = some (x51, r51, 26) := by kernel_rfl
def x29 : XCode := .seq (.reg [⟨(some 2), none, (.op (.box (.t 0)))⟩,
   ⟨(some 4), none, (.op (.mov (.k (.slice none 0 0))))⟩])
 (.seq (.drw none [⟨(some 5), none, (.op (.fad 0 (.t 2)))⟩,
    ⟨(some 6), none, (.op (.ld1 (.t 5)))⟩,
    ⟨(some 7), none, (.op (.fad 1 (.t 2)))⟩,
    ⟨(some 8), none, (.op (.ld1 (.t 7)))⟩,
    ⟨(some 9), none, (.op (.mov (.t 1)))⟩,
    ⟨(some 10), none, (.op (.iad 4 (.t 8) (.t 9)))⟩,
    ⟨(some 11), none, (.op (.fad 2 (.t 10)))⟩,
    ⟨(some 12), none, (.op (.ld1 (.t 11)))⟩,
    ⟨(some 13), none, (.op (.fad 1 (.t 2)))⟩,
    ⟨(some 14), none, (.op (.ld1 (.t 13)))⟩,
    ⟨(some 15), none, (.op (.mov (.t 1)))⟩,
    ⟨(some 16), none, (.op (.iad 4 (.t 14) (.t 15)))⟩,
    ⟨(some 17), none, (.op (.fad 2 (.t 16)))⟩,
    ⟨(some 18), none, (.op (.ld1 (.t 17)))⟩,
    ⟨(some 19), none, (.op (.fad 1 (.t 2)))⟩,
    ⟨(some 20), none, (.op (.ld1 (.t 19)))⟩,
    ⟨(some 21), none, (.op (.mov (.t 1)))⟩,
    ⟨(some 22), none, (.op (.iad 4 (.t 20) (.t 21)))⟩,
    ⟨(some 23), none, (.op (.fad 3 (.t 22)))⟩,
    ⟨(some 24), none, (.op (.ld1 (.t 23)))⟩,
    ⟨(some 25), none, (.op (.bin .add (.t 18) (.t 24)))⟩,
    ⟨(some 26), none, (.op (.sls 5 (.t 6) (some (.t 12)) (some (.t 25))))⟩,
    ⟨(some 4), none, (.op (.mov (.t 26)))⟩])
  (.ret))
def r29 : List XRes := [.t 4]
theorem res29 : resolveF Tryz.prog 29 = some (x29, r29, 27) := by kernel_rfl
def x72 : XCode := .seq (.reg [⟨(some 2), none, (.op (.mov (.k (.int .i64 0))))⟩])
 (.seq (.reg [⟨(some 4), none, (.op (.mov (.t 0)))⟩,
    ⟨(some 5), none, (.call (.f 30) [(.t 4)])⟩,
    ⟨(some 3), none, (.op (.mov (.t 5)))⟩])
  (.seq (.reg [⟨(some 6), none, (.op (.mov (.t 3)))⟩,
     ⟨(some 7), none, (.op (.mov (.t 0)))⟩,
     ⟨(some 8), none, (.op (.lenl (.t 7)))⟩,
     ⟨(some 9), none, (.op (.iad 1 (.t 6) (.t 8)))⟩,
     ⟨(some 10), none, (.op (.ld1 (.t 9)))⟩,
     ⟨(some 2), none, (.op (.mov (.t 10)))⟩])
   (.ret)))
def r72 : List XRes := [.t 2]
theorem res72 : resolveF Tryz.prog 72 = some (x72, r72, 11) := by kernel_rfl
def x30 : XCode := .seq (.reg [⟨(some 2), none, (.op (.mov (.k (.slice none 0 0))))⟩])
 (.seq (.reg [⟨(some 3), none, (.op (.mov (.k (.slice none 0 0))))⟩])
  (.seq (.reg [⟨(some 4), none, (.op (.mov (.k (.int .i64 0))))⟩])
   (.seq (.seq (.reg [⟨(some 5), none, (.op (.mov (.k (.int .i64 0))))⟩])
     (.block 0 (.loop (.seq (.seq (.reg [⟨(some 6), none, (.op (.mov (.t 5)))⟩,
           ⟨(some 7), none, (.op (.mov (.t 0)))⟩,
           ⟨(some 8), none, (.op (.lenl (.t 7)))⟩,
           ⟨(some 9), none, (.op (.bin .lss (.t 6) (.t 8)))⟩])
         (.cond (.t 9) (.skip)
          (.exit 0)))
        (.seq (.block 1 (.seq (.reg [⟨(some 12), none, (.op (.mov (.t 3)))⟩,
             ⟨(some 13), none, (.op (.mov (.t 4)))⟩,
             ⟨(some 14), none, (.op (.bsl 1 1 [(.int .i64 0)] [(0, 1, (.t 13))]))⟩,
             ⟨(some 15), none, (.op (.app 1 8 (.t 12) (.t 14)))⟩,
             ⟨(some 3), none, (.op (.mov (.t 15)))⟩])
           (.seq (.reg [⟨(some 16), none, (.op (.mov (.t 4)))⟩,
              ⟨(some 17), none, (.op (.bin .add (.t 16) (.k (.int .i64 1))))⟩,
              ⟨(some 4), none, (.op (.mov (.t 17)))⟩])
            (.seq (.reg [⟨(some 18), none, (.op (.mov (.t 0)))⟩,
               ⟨(some 19), none, (.op (.mov (.t 5)))⟩,
               ⟨(some 20), none, (.op (.iad 5 (.t 18) (.t 19)))⟩,
               ⟨(some 21), none, (.op (.fad 0 (.t 20)))⟩,
               ⟨(some 22), none, (.op (.ld1 (.t 21)))⟩,
               ⟨(some 23), none, (.op (.bin .eql (.t 22) (.k (.int .i64 24))))⟩])
             (.cond (.t 23) (.reg [⟨(some 24), none, (.op (.mov (.t 4)))⟩,
                ⟨(some 25), none, (.op (.bin .add (.t 24) (.k (.int .i64 1))))⟩,
                ⟨(some 4), none, (.op (.mov (.t 25)))⟩])
              (.skip))))))
         (.reg [⟨(some 10), none, (.op (.mov (.t 5)))⟩,
           ⟨(some 11), none, (.op (.bin .add (.t 10) (.k (.int .i64 1))))⟩,
           ⟨(some 5), none, (.op (.mov (.t 11)))⟩]))))))
    (.seq (.reg [⟨(some 26), none, (.op (.mov (.t 3)))⟩,
       ⟨(some 27), none, (.op (.mov (.t 4)))⟩,
       ⟨(some 28), none, (.op (.bsl 1 1 [(.int .i64 0)] [(0, 1, (.t 27))]))⟩,
       ⟨(some 29), none, (.op (.app 1 8 (.t 26) (.t 28)))⟩,
       ⟨(some 2), none, (.op (.mov (.t 29)))⟩])
     (.ret)))))
def r30 : List XRes := [.t 2]
theorem res30 : resolveF Tryz.prog 30 = some (x30, r30, 30) := by kernel_rfl
def x26 : XCode := .seq (.reg [⟨(some 2), none, (.op (.box (.t 0)))⟩,
   ⟨(some 3), none, (.op (.box (.t 1)))⟩,
   ⟨(some 4), none, (.op (.mov (.k (.bool false))))⟩])
 (.seq (.seq (.reg [⟨(some 9), none, (.op (.fad 1 (.t 3)))⟩,
     ⟨(some 10), none, (.op (.ld1 (.t 9)))⟩,
     ⟨(some 11), none, (.op (.lenl (.t 10)))⟩,
     ⟨(some 12), none, (.op (.fad 1 (.t 2)))⟩,
     ⟨(some 13), none, (.op (.ld1 (.t 12)))⟩,
     ⟨(some 14), none, (.op (.lenl (.t 13)))⟩,
     ⟨(some 15), none, (.op (.bin .neq (.t 11) (.t 14)))⟩,
     ⟨(some 16), none, (.op (.mov (.t 15)))⟩,
     ⟨(some 17), (some (16, false)), (.op (.fad 2 (.t 3)))⟩,
     ⟨(some 18), (some (16, false)), (.op (.ld1 (.t 17)))⟩,
     ⟨(some 19), (some (16, false)), (.op (.fad 2 (.t 2)))⟩,
     ⟨(some 20), (some (16, false)), (.op (.ld1 (.t 19)))⟩,
     ⟨(some 21), (some (16, false)), (.call (.f 51) [(.t 18), (.t 20)])⟩,
     ⟨(some 22), (some (16, false)), (.op (.un .not (.t 21)))⟩,
     ⟨(some 23), none, (.op (.pick (.t 16) (.k (.bool true)) (.t 22)))⟩,
     ⟨(some 24), none, (.op (.mov (.t 23)))⟩,
     ⟨(some 25), (some (24, false)), (.op (.fad 3 (.t 3)))⟩,
     ⟨(some 26), (some (24, false)), (.op (.ld1 (.t 25)))⟩,
     ⟨(some 27), (some (24, false)), (.op (.fad 3 (.t 2)))⟩,
     ⟨(some 28), (some (24, false)), (.op (.ld1 (.t 27)))⟩,
     ⟨(some 29), (some (24, false)), (.op (.bin .neq (.t 26) (.t 28)))⟩,
     ⟨(some 30), none, (.op (.pick (.t 24) (.k (.bool true)) (.t 29)))⟩])
   (.cond (.t 30) (.seq (.reg [⟨(some 4), none, (.op (.mov (.k (.bool false))))⟩])
     (.ret))
    (.skip)))
  (.seq (.reg [⟨(some 5), none, (.op (.mov (.k (.int .i64 0))))⟩])
   (.seq (.seq (.reg [⟨(some 6), none, (.op (.mov (.k (.int .i64 0))))⟩])
     (.block 0 (.loop (.seq (.seq (.reg [⟨(some 31), none, (.op (.mov (.t 6)))⟩,
           ⟨(some 32), none, (.op (.fad 1 (.t 2)))⟩,
           ⟨(some 33), none, (.op (.ld1 (.t 32)))⟩,
           ⟨(some 34), none, (.op (.lenl (.t 33)))⟩,
           ⟨(some 35), none, (.op (.bin .lss (.t 31) (.t 34)))⟩])
         (.cond (.t 35) (.skip)
          (.exit 0)))
        (.seq (.block 1 (.seq (.drw (some [7, 8]) [⟨(some 38), none, (.op (.fad 1 (.t 2)))⟩,
             ⟨(some 39), none, (.op (.ld1 (.t 38)))⟩,
             ⟨(some 40), none, (.op (.mov (.t 6)))⟩,
             ⟨(some 41), none, (.op (.iad 4 (.t 39) (.t 40)))⟩,
             ⟨(some 42), none, (.op (.lda 4 (.t 41)))⟩,
             ⟨(some 43), none, (.op (.fad 1 (.t 3)))⟩,
             ⟨(some 44), none, (.op (.ld1 (.t 43)))⟩,
             ⟨(some 45), none, (.op (.mov (.t 6)))⟩,
             ⟨(some 46), none, (.op (.iad 4 (.t 44) (.t 45)))⟩,
             ⟨(some 47), none, (.op (.lda 4 (.t 46)))⟩,
             ⟨(some 7), none, (.op (.alloc [(.string ⟨#[]⟩), (.int .i64 0), (.int .i64 0), (.int .i64 0)]))⟩,
             ⟨(some 8), none, (.op (.alloc [(.string ⟨#[]⟩), (.int .i64 0), (.int .i64 0), (.int .i64 0)]))⟩,
             ⟨none, none, (.op (.st 4 (.t 7) (.t 42)))⟩,
             ⟨none, none, (.op (.st 4 (.t 8) (.t 47)))⟩])
           (.seq (.seq (.reg [⟨(some 48), none, (.op (.fad 0 (.t 7)))⟩,
               ⟨(some 49), none, (.op (.ld1 (.t 48)))⟩,
               ⟨(some 50), none, (.op (.fad 0 (.t 8)))⟩,
               ⟨(some 51), none, (.op (.ld1 (.t 50)))⟩,
               ⟨(some 52), none, (.op (.bin .neq (.t 49) (.t 51)))⟩,
               ⟨(some 53), none, (.op (.mov (.t 52)))⟩,
               ⟨(some 54), (some (53, false)), (.op (.fad 1 (.t 7)))⟩,
               ⟨(some 55), (some (53, false)), (.op (.ld1 (.t 54)))⟩,
               ⟨(some 56), (some (53, false)), (.op (.fad 1 (.t 8)))⟩,
               ⟨(some 57), (some (53, false)), (.op (.ld1 (.t 56)))⟩,
               ⟨(some 58), (some (53, false)), (.op (.bin .neq (.t 55) (.t 57)))⟩,
               ⟨(some 59), none, (.op (.pick (.t 53) (.k (.bool true)) (.t 58)))⟩,
               ⟨(some 60), none, (.op (.mov (.t 59)))⟩,
               ⟨(some 61), (some (60, false)), (.op (.fad 2 (.t 8)))⟩,
               ⟨(some 62), (some (60, false)), (.op (.ld1 (.t 61)))⟩,
               ⟨(some 63), (some (60, false)), (.op (.mov (.t 5)))⟩,
               ⟨(some 64), (some (60, false)), (.op (.bin .neq (.t 62) (.t 63)))⟩,
               ⟨(some 65), none, (.op (.pick (.t 60) (.k (.bool true)) (.t 64)))⟩,
               ⟨(some 66), none, (.op (.mov (.t 65)))⟩,
               ⟨(some 67), (some (66, false)), (.op (.fad 3 (.t 8)))⟩,
               ⟨(some 68), (some (66, false)), (.op (.ld1 (.t 67)))⟩,
               ⟨(some 69), (some (66, false)), (.op (.bin .lss (.t 68) (.k (.int .i64 1))))⟩,
               ⟨(some 70), none, (.op (.pick (.t 66) (.k (.bool true)) (.t 69)))⟩,
               ⟨(some 71), none, (.op (.mov (.t 70)))⟩,
               ⟨(some 72), (some (71, false)), (.op (.fad 3 (.t 8)))⟩,
               ⟨(some 73), (some (71, false)), (.op (.ld1 (.t 72)))⟩,
               ⟨(some 74), (some (71, false)), (.op (.fad 0 (.t 3)))⟩,
               ⟨(some 75), (some (71, false)), (.op (.ld1 (.t 74)))⟩,
               ⟨(some 76), (some (71, false)), (.op (.lenl (.t 75)))⟩,
               ⟨(some 77), (some (71, false)), (.op (.mov (.t 5)))⟩,
               ⟨(some 78), (some (71, false)), (.op (.bin .sub (.t 76) (.t 77)))⟩,
               ⟨(some 79), (some (71, false)), (.op (.bin .gtr (.t 73) (.t 78)))⟩,
               ⟨(some 80), none, (.op (.pick (.t 71) (.k (.bool true)) (.t 79)))⟩])
             (.cond (.t 80) (.seq (.reg [⟨(some 4), none, (.op (.mov (.k (.bool false))))⟩])
               (.ret))
              (.skip)))
            (.seq (.reg [⟨(some 81), none, (.op (.mov (.t 5)))⟩,
               ⟨(some 82), none, (.op (.fad 3 (.t 8)))⟩,
               ⟨(some 83), none, (.op (.ld1 (.t 82)))⟩,
               ⟨(some 84), none, (.op (.bin .add (.t 81) (.t 83)))⟩,
               ⟨(some 5), none, (.op (.mov (.t 84)))⟩])
             (.seq (.drw none [⟨(some 85), none, (.op (.lda 4 (.t 3)))⟩,
                ⟨(some 86), none, (.op (.mov (.t 6)))⟩,
                ⟨(some 87), none, (.call (.f 29) [(.t 85), (.t 86)])⟩,
                ⟨(some 88), none, (.call (.f 72) [(.t 87)])⟩,
                ⟨(some 89), none, (.op (.lda 4 (.t 2)))⟩,
                ⟨(some 90), none, (.op (.mov (.t 6)))⟩,
                ⟨(some 91), none, (.call (.f 29) [(.t 89), (.t 90)])⟩,
                ⟨(some 92), none, (.call (.f 72) [(.t 91)])⟩,
                ⟨(some 93), none, (.op (.bin .gtr (.t 88) (.t 92)))⟩])
              (.cond (.t 93) (.seq (.reg [⟨(some 4), none, (.op (.mov (.k (.bool false))))⟩])
                (.ret))
               (.skip)))))))
         (.reg [⟨(some 36), none, (.op (.mov (.t 6)))⟩,
           ⟨(some 37), none, (.op (.bin .add (.t 36) (.k (.int .i64 1))))⟩,
           ⟨(some 6), none, (.op (.mov (.t 37)))⟩]))))))
    (.seq (.reg [⟨(some 94), none, (.op (.mov (.t 5)))⟩,
       ⟨(some 95), none, (.op (.fad 0 (.t 3)))⟩,
       ⟨(some 96), none, (.op (.ld1 (.t 95)))⟩,
       ⟨(some 97), none, (.op (.lenl (.t 96)))⟩,
       ⟨(some 98), none, (.op (.bin .eql (.t 94) (.t 97)))⟩,
       ⟨(some 4), none, (.op (.mov (.t 98)))⟩])
     (.ret)))))
def r26 : List XRes := [.t 4]
theorem res26 : resolveF Tryz.prog 26 = some (x26, r26, 99) := by kernel_rfl
def x20 : XCode := .seq (.reg [⟨(some 0), none, (.op (.mov (.k (.bool false))))⟩])
 (.seq (.reg [⟨(some 5), none, (.op (.build [(.int .i64 0), (.int .i64 0), (.int .i64 0), (.int .i64 0), (.int .i64 0)] [(0, 1, (.k (.int .i64 183))), (4, 1, (.k (.int .i64 1)))]))⟩,
    ⟨(some 6), none, (.op (.build [(.int .i64 0), (.int .i64 0), (.int .i64 0), (.int .i64 0), (.int .i64 0)] [(0, 1, (.k (.int .i64 5))), (3, 1, (.k (.int .i64 1)))]))⟩,
    ⟨(some 7), none, (.op (.build [(.int .i64 0), (.int .i64 0), (.int .i64 0), (.int .i64 0), (.int .i64 0)] [(0, 1, (.k (.int .i64 183))), (4, 1, (.k (.int .i64 2)))]))⟩,
    ⟨(some 8), none, (.op (.build [(.int .i64 0), (.int .i64 0), (.int .i64 0), (.int .i64 0), (.int .i64 0)] [(0, 1, (.k (.int .i64 149)))]))⟩,
    ⟨(some 9), none, (.op (.bsl 5 4 [(.int .i64 0), (.int .i64 0), (.int .i64 0), (.int .i64 0), (.int .i64 0), (.int .i64 0), (.int .i64 0), (.int .i64 0), (.int .i64 0), (.int .i64 0), (.int .i64 0), (.int .i64 0), (.int .i64 0), (.int .i64 0), (.int .i64 0), (.int .i64 0), (.int .i64 0), (.int .i64 0), (.int .i64 0), (.int .i64 0)] [(0, 5, (.t 5)), (5, 5, (.t 6)), (10, 5, (.t 7)), (15, 5, (.t 8))]))⟩,
    ⟨(some 1), none, (.op (.mov (.t 9)))⟩])
  (.seq (.reg [⟨(some 10), none, (.op (.mov (.t 1)))⟩,
     ⟨(some 11), none, (.op (.build [(.string ⟨#[]⟩), (.int .i64 0), (.int .i64 0), (.int .i64 0)] [(0, 1, (.k (.string ⟨#[102]⟩))), (3, 1, (.k (.int .i64 4)))]))⟩,
     ⟨(some 12), none, (.op (.bsl 4 1 [(.string ⟨#[]⟩), (.int .i64 0), (.int .i64 0), (.int .i64 0)] [(0, 4, (.t 11))]))⟩,
     ⟨(some 13), none, (.op (.build [(.slice none 0 0), (.slice none 0 0), (.slice none 0 0), (.int .i64 0)] [(0, 1, (.t 10)), (1, 1, (.t 12))]))⟩,
     ⟨(some 2), none, (.op (.alloc [(.slice none 0 0), (.slice none 0 0), (.slice none 0 0), (.int .i64 0)]))⟩,
     ⟨none, none, (.op (.st 4 (.t 2) (.t 13)))⟩])
   (.seq (.reg [⟨(some 15), none, (.op (.lda 4 (.t 2)))⟩,
      ⟨(some 16), none, (.call (.f 23) [(.t 15)])⟩,
      ⟨(some 14), none, (.op (.mov (.t 16)))⟩,
      ⟨(some 17), none, (.op (.ext 0 (.t 14)))⟩,
      ⟨(some 18), none, (.op (.ext 1 (.t 14)))⟩,
      ⟨(some 3), none, (.op (.alloc [(.slice none 0 0), (.slice none 0 0), (.slice none 0 0), (.int .i64 0)]))⟩,
      ⟨none, none, (.op (.st 4 (.t 3) (.t 17)))⟩,
      ⟨(some 4), none, (.op (.mov (.t 18)))⟩])
    (.seq (.reg [⟨(some 19), none, (.op (.mov (.t 4)))⟩,
       ⟨(some 20), none, (.call (.f 16) [(.t 19)])⟩,
       ⟨(some 21), none, (.op (.bin .eql (.t 20) (.k (.int .i64 0))))⟩,
       ⟨(some 22), none, (.op (.mov (.t 21)))⟩,
       ⟨(some 23), (some (22, true)), (.op (.lda 4 (.t 2)))⟩,
       ⟨(some 24), (some (22, true)), (.op (.lda 4 (.t 3)))⟩,
       ⟨(some 25), (some (22, true)), (.call (.f 26) [(.t 23), (.t 24)])⟩,
       ⟨(some 26), none, (.op (.pick (.t 22) (.t 25) (.k (.bool false))))⟩,
       ⟨(some 27), none, (.op (.mov (.t 26)))⟩,
       ⟨(some 28), (some (27, true)), (.op (.fad 0 (.t 3)))⟩,
       ⟨(some 29), (some (27, true)), (.op (.ld1 (.t 28)))⟩,
       ⟨(some 30), (some (27, true)), (.call (.f 33) [(.t 29)])⟩,
       ⟨(some 31), none, (.op (.pick (.t 27) (.t 30) (.k (.bool false))))⟩,
       ⟨(some 0), none, (.op (.mov (.t 31)))⟩])
     (.ret)))))
def r20 : List XRes := [.t 0]
theorem res20 : resolveF Tryz.prog 20 = some (x20, r20, 32) := by kernel_rfl
def x28 : XCode := .seq (.reg [⟨(some 1), none, (.op (.box (.t 0)))⟩,
   ⟨(some 2), none, (.op (.alloc [(.slice none 0 0), (.slice none 0 0), (.slice none 0 0), (.int .i64 0)]))⟩])
 (.seq (.drw none [⟨(some 3), none, (.op (.fad 0 (.t 1)))⟩,
    ⟨(some 4), none, (.op (.ld1 (.t 3)))⟩,
    ⟨(some 5), none, (.call (.f 38) [(.t 4)])⟩,
    ⟨(some 6), none, (.op (.fad 1 (.t 1)))⟩,
    ⟨(some 7), none, (.op (.ld1 (.t 6)))⟩,
    ⟨(some 8), none, (.call (.f 75) [(.t 7)])⟩,
    ⟨(some 9), none, (.op (.fad 2 (.t 1)))⟩,
    ⟨(some 10), none, (.op (.ld1 (.t 9)))⟩,
    ⟨(some 11), none, (.call (.f 40) [(.t 10)])⟩,
    ⟨(some 12), none, (.op (.fad 3 (.t 1)))⟩,
    ⟨(some 13), none, (.op (.ld1 (.t 12)))⟩,
    ⟨(some 14), none, (.op (.build [(.slice none 0 0), (.slice none 0 0), (.slice none 0 0), (.int .i64 0)] [(0, 1, (.t 5)), (1, 1, (.t 8)), (2, 1, (.t 11)), (3, 1, (.t 13))]))⟩,
    ⟨none, none, (.op (.st 4 (.t 2) (.t 14)))⟩])
  (.ret))
def r28 : List XRes := [.lda 4 2]
theorem res28 : resolveF Tryz.prog 28 = some (x28, r28, 15) := by kernel_rfl
def x38 : XCode := .seq (.reg [⟨(some 2), none, (.op (.mov (.k (.slice none 0 0))))⟩])
 (.seq (.reg [⟨(some 3), none, (.op (.bsl 5 0 [] []))⟩,
    ⟨(some 4), none, (.op (.mov (.t 0)))⟩,
    ⟨(some 5), none, (.op (.app 5 40 (.t 3) (.t 4)))⟩,
    ⟨(some 2), none, (.op (.mov (.t 5)))⟩])
  (.ret))
def r38 : List XRes := [.t 2]
theorem res38 : resolveF Tryz.prog 38 = some (x38, r38, 6) := by kernel_rfl
def x75 : XCode := .seq (.reg [⟨(some 2), none, (.op (.mov (.k (.slice none 0 0))))⟩])
 (.seq (.reg [⟨(some 3), none, (.op (.bsl 4 0 [] []))⟩,
    ⟨(some 4), none, (.op (.mov (.t 0)))⟩,
    ⟨(some 5), none, (.op (.app 4 40 (.t 3) (.t 4)))⟩,
    ⟨(some 2), none, (.op (.mov (.t 5)))⟩])
  (.ret))
def r75 : List XRes := [.t 2]
theorem res75 : resolveF Tryz.prog 75 = some (x75, r75, 6) := by kernel_rfl
def x40 : XCode := .seq (.reg [⟨(some 2), none, (.op (.mov (.k (.slice none 0 0))))⟩])
 (.seq (.reg [⟨(some 3), none, (.op (.bsl 5 0 [] []))⟩,
    ⟨(some 4), none, (.op (.mov (.t 0)))⟩,
    ⟨(some 5), none, (.op (.app 5 48 (.t 3) (.t 4)))⟩,
    ⟨(some 2), none, (.op (.mov (.t 5)))⟩])
  (.ret))
def r40 : List XRes := [.t 2]
theorem res40 : resolveF Tryz.prog 40 = some (x40, r40, 6) := by kernel_rfl
end Go.Tidy
namespace Go.Tidy
open Go Go.Eng Go.Proofs
set_option maxRecDepth 100000
def x151 : XCode := .seq (.reg [⟨(some 4), none, (.op (.mov (.k (.bool false))))⟩])
 (.seq (.reg [⟨(some 5), none, (.op (.mov (.t 0)))⟩,
    ⟨(some 6), none, (.op (.bin .geq (.t 5) (.k (.int .i64 0))))⟩,
    ⟨(some 7), none, (.op (.mov (.t 6)))⟩,
    ⟨(some 8), (some (7, true)), (.op (.mov (.t 0)))⟩,
    ⟨(some 9), (some (7, true)), (.op (.mov (.t 1)))⟩,
    ⟨(some 10), (some (7, true)), (.op (.bin .lss (.t 8) (.t 9)))⟩,
    ⟨(some 11), none, (.op (.pick (.t 7) (.t 10) (.k (.bool false))))⟩,
    ⟨(some 4), none, (.op (.mov (.t 11)))⟩])
  (.ret))
def r151 : List XRes := [.t 4]
theorem res151 : resolveF Tryz.prog 151 = some (x151, r151, 12) := by kernel_rfl
def x85 : XCode := .seq (.reg [⟨(some 0), none, (.op (.mov (.k (.slice none 0 0))))⟩])
 (.seq (.reg [⟨(some 1), none, (.op (.build [(.int .i64 0), .nilFunc] [(0, 1, (.k (.int .i64 191))), (1, 1, (.f 142))]))⟩,
    ⟨(some 2), none, (.op (.build [(.int .i64 0), .nilFunc] [(0, 1, (.k (.int .i64 192))), (1, 1, (.f 144))]))⟩,
    ⟨(some 3), none, (.op (.build [(.int .i64 0), .nilFunc] [(0, 1, (.k (.int .i64 193))), (1, 1, (.f 146))]))⟩,
    ⟨(some 4), none, (.op (.build [(.int .i64 0), .nilFunc] [(0, 1, (.k (.int .i64 194))), (1, 1, (.f 147))]))⟩,
    ⟨(some 5), none, (.op (.build [(.int .i64 0), .nilFunc] [(0, 1, (.k (.int .i64 195))), (1, 1, (.f 150))]))⟩,
    ⟨(some 6), none, (.op (.build [(.int .i64 0), .nilFunc] [(0, 1, (.k (.int .i64 196))), (1, 1, (.f 152))]))⟩,
    ⟨(some 7), none, (.op (.build [(.int .i64 0), .nilFunc] [(0, 1, (.k (.int .i64 197))), (1, 1, (.f 153))]))⟩,
    ⟨(some 8), none, (.op (.bsl 2 7 [(.int .i64 0), .nilFunc, (.int .i64 0), .nilFunc, (.int .i64 0), .nilFunc, (.int .i64 0), .nilFunc, (.int .i64 0), .nilFunc, (.int .i64 0), .nilFunc, (.int .i64 0), .nilFunc] [(0, 2, (.t 1)), (2, 2, (.t 2)), (4, 2, (.t 3)), (6, 2, (.t 4)), (8, 2, (.t 5)), (10, 2, (.t 6)), (12, 2, (.t 7))]))⟩,
    ⟨(some 0), none, (.op (.mov (.t 8)))⟩])
  (.ret))
def r85 : List XRes := [.t 0]
theorem res85 : resolveF Tryz.prog 85 = some (x85, r85, 9) := by kernel_rfl
def x142 : XCode := .seq (.reg [⟨(some 4), none, (.op (.mov (.k (.bool false))))⟩])
 (.seq (.reg [⟨(some 5), none, (.op (.mov (.t 0)))⟩,
    ⟨(some 6), none, (.op (.nck (.t 5)))⟩,
    ⟨(some 7), none, (.op (.fad 4 (.t 6)))⟩,
    ⟨(some 8), none, (.op (.ld1 (.t 7)))⟩,
    ⟨(some 9), none, (.op (.mov (.t 1)))⟩,
    ⟨(some 10), none, (.op (.iad 5 (.t 8) (.t 9)))⟩,
    ⟨(some 11), none, (.op (.lda 5 (.t 10)))⟩,
    ⟨(some 12), none, (.call (.f 143) [(.t 11)])⟩,
    ⟨(some 13), none, (.op (.bin .neq (.t 12) (.k (.int .i64 0))))⟩,
    ⟨(some 4), none, (.op (.mov (.t 13)))⟩])
  (.ret))
def r142 : List XRes := [.t 4]
theorem res142 : resolveF Tryz.prog 142 = some (x142, r142, 14) := by kernel_rfl
def x144 : XCode := .seq (.reg [⟨(some 4), none, (.op (.mov (.k (.bool false))))⟩])
 (.seq (.reg [⟨(some 10), none, (.op (.mov (.t 0)))⟩,
    ⟨(some 11), none, (.op (.nck (.t 10)))⟩,
    ⟨(some 12), none, (.op (.fad 4 (.t 11)))⟩,
    ⟨(some 13), none, (.op (.ld1 (.t 12)))⟩,
    ⟨(some 14), none, (.op (.mov (.t 1)))⟩,
    ⟨(some 15), none, (.op (.iad 5 (.t 13) (.t 14)))⟩,
    ⟨(some 16), none, (.op (.lda 5 (.t 15)))⟩,
    ⟨(some 5), none, (.op (.alloc [(.int .i64 0), (.int .i64 0), (.int .i64 0), (.int .i64 0), (.int .i64 0)]))⟩,
    ⟨none, none, (.op (.st 5 (.t 5) (.t 16)))⟩])
  (.seq (.reg [⟨(some 17), none, (.op (.fad 3 (.t 5)))⟩,
     ⟨(some 18), none, (.op (.ld1 (.t 17)))⟩,
     ⟨(some 6), none, (.op (.mov (.t 18)))⟩])
   (.seq (.seq (.reg [⟨(some 19), none, (.op (.fad 0 (.t 5)))⟩,
       ⟨(some 20), none, (.op (.ld1 (.t 19)))⟩,
       ⟨(some 21), none, (.op (.bin .eql (.t 20) (.k (.int .i64 6))))⟩])
     (.cond (.t 21) (.reg [⟨(some 22), none, (.op (.fad 4 (.t 5)))⟩,
        ⟨(some 23), none, (.op (.ld1 (.t 22)))⟩,
        ⟨(some 6), none, (.op (.mov (.t 23)))⟩])
      (.skip)))
    (.seq (.reg [⟨(some 24), none, (.op (.lda 5 (.t 5)))⟩,
       ⟨(some 25), none, (.call (.f 145) [(.t 24)])⟩,
       ⟨(some 7), none, (.op (.mov (.t 25)))⟩])
     (.seq (.drw none [⟨(some 27), none, (.op (.mov (.t 0)))⟩,
        ⟨(some 28), none, (.op (.nck (.t 27)))⟩,
        ⟨(some 29), none, (.op (.fad 6 (.t 28)))⟩,
        ⟨(some 30), none, (.op (.ld1 (.t 29)))⟩,
        ⟨(some 31), none, (.op (.mov (.t 0)))⟩,
        ⟨(some 32), none, (.op (.nck (.t 31)))⟩,
        ⟨(some 33), none, (.op (.fad 5 (.t 32)))⟩,
        ⟨(some 34), none, (.op (.ld1 (.t 33)))⟩,
        ⟨(some 35), none, (.op (.mov (.t 1)))⟩,
        ⟨(some 36), none, (.op (.iad 1 (.t 34) (.t 35)))⟩,
        ⟨(some 37), none, (.op (.ld1 (.t 36)))⟩,
        ⟨(some 38), none, (.op (.bin .add (.t 37) (.k (.int .i64 1))))⟩,
        ⟨(some 39), none, (.op (.mov (.t 6)))⟩,
        ⟨(some 40), none, (.op (.bin .add (.t 38) (.t 39)))⟩,
        ⟨(some 41), none, (.op (.lku ⟨false, [1]⟩ (.int .i64 0) true (.t 30) (.t 40)))⟩,
        ⟨(some 26), none, (.op (.mov (.t 41)))⟩,
        ⟨(some 42), none, (.op (.ext 0 (.t 26)))⟩,
        ⟨(some 43), none, (.op (.ext 1 (.t 26)))⟩,
        ⟨(some 8), none, (.op (.mov (.t 42)))⟩,
        ⟨(some 9), none, (.op (.mov (.t 43)))⟩])
      (.seq (.reg [⟨(some 44), none, (.op (.mov (.t 7)))⟩,
         ⟨(some 45), none, (.op (.bin .eql (.t 44) (.k (.int .i64 1))))⟩,
         ⟨(some 46), none, (.op (.mov (.t 45)))⟩,
         ⟨(some 47), (some (46, false)), (.op (.mov (.t 7)))⟩,
         ⟨(some 48), (some (46, false)), (.op (.bin .eql (.t 47) (.k (.int .i64 2))))⟩,
         ⟨(some 49), none, (.op (.pick (.t 46) (.k (.bool true)) (.t 48)))⟩,
         ⟨(some 50), none, (.op (.mov (.t 49)))⟩,
         ⟨(some 51), (some (50, true)), (.op (.mov (.t 9)))⟩,
         ⟨(some 52), (some (50, true)), (.op (.un .not (.t 51)))⟩,
         ⟨(some 53), none, (.op (.pick (.t 50) (.t 52) (.k (.bool false))))⟩,
         ⟨(some 4), none, (.op (.mov (.t 53)))⟩])
       (.ret)))))))
def r144 : List XRes := [.t 4]
theorem res144 : resolveF Tryz.prog 144 = some (x144, r144, 54) := by kernel_rfl
def x146 : XCode := .seq (.reg [⟨(some 4), none, (.op (.mov (.k (.bool false))))⟩])
 (.seq (.reg [⟨(some 6), none, (.op (.mov (.t 0)))⟩,
    ⟨(some 7), none, (.op (.nck (.t 6)))⟩,
    ⟨(some 8), none, (.op (.fad 4 (.t 7)))⟩,
    ⟨(some 9), none, (.op (.ld1 (.t 8)))⟩,
    ⟨(some 10), none, (.op (.mov (.t 1)))⟩,
    ⟨(some 11), none, (.op (.iad 5 (.t 9) (.t 10)))⟩,
    ⟨(some 12), none, (.op (.lda 5 (.t 11)))⟩,
    ⟨(some 13), none, (.call (.f 145) [(.t 12)])⟩,
    ⟨(some 5), none, (.op (.mov (.t 13)))⟩])
  (.seq (.reg [⟨(some 14), none, (.op (.mov (.t 1)))⟩,
     ⟨(some 15), none, (.op (.mov (.t 0)))⟩,
     ⟨(some 16), none, (.op (.nck (.t 15)))⟩,
     ⟨(some 17), none, (.op (.fad 4 (.t 16)))⟩,
     ⟨(some 18), none, (.op (.ld1 (.t 17)))⟩,
     ⟨(some 19), none, (.op (.lenl (.t 18)))⟩,
     ⟨(some 20), none, (.op (.bin .sub (.t 19) (.k (.int .i64 1))))⟩,
     ⟨(some 21), none, (.op (.bin .eql (.t 14) (.t 20)))⟩,
     ⟨(some 22), none, (.op (.mov (.t 21)))⟩,
     ⟨(some 23), (some (22, true)), (.op (.mov (.t 5)))⟩,
     ⟨(some 24), (some (22, true)), (.op (.bin .neq (.t 23) (.k (.int .i64 1))))⟩,
     ⟨(some 25), none, (.op (.pick (.t 22) (.t 24) (.k (.bool false))))⟩,
     ⟨(some 26), none, (.op (.mov (.t 25)))⟩,
     ⟨(some 27), (some (26, true)), (.op (.mov (.t 5)))⟩,
     ⟨(some 28), (some (26, true)), (.op (.bin .neq (.t 27) (.k (.int .i64 4))))⟩,
     ⟨(some 29), none, (.op (.pick (.t 26) (.t 28) (.k (.bool false))))⟩,
     ⟨(some 4), none, (.op (.mov (.t 29)))⟩])
   (.ret)))
def r146 : List XRes := [.t 4]
theorem res146 : resolveF Tryz.prog 146 = some (x146, r146, 30) := by kernel_rfl
def x147 : XCode := .seq (.reg [⟨(some 4), none, (.op (.mov (.k (.bool false))))⟩])
 (.seq (.reg [⟨(some 5), none, (.op (.mov (.t 0)))⟩,
    ⟨(some 6), none, (.op (.nck (.t 5)))⟩,
    ⟨(some 7), none, (.op (.fad 4 (.t 6)))⟩,
    ⟨(some 8), none, (.op (.ld1 (.t 7)))⟩,
    ⟨(some 9), none, (.op (.mov (.t 1)))⟩,
    ⟨(some 10), none, (.op (.iad 5 (.t 8) (.t 9)))⟩,
    ⟨(some 11), none, (.op (.lda 5 (.t 10)))⟩,
    ⟨(some 12), none, (.call (.f 149) [(.t 11)])⟩,
    ⟨(some 13), none, (.call (.f 148) [(.t 12), (.k (.int .i64 10))])⟩,
    ⟨(some 4), none, (.op (.mov (.t 13)))⟩])
  (.ret))
def r147 : List XRes := [.t 4]
theorem res147 : resolveF Tryz.prog 147 = some (x147, r147, 14) := by kernel_rfl
def x150 : XCode := .seq (.reg [⟨(some 4), none, (.op (.mov (.k (.bool false))))⟩])
 (.seq (.reg [⟨(some 6), none, (.op (.mov (.t 0)))⟩,
    ⟨(some 7), none, (.op (.nck (.t 6)))⟩,
    ⟨(some 8), none, (.op (.fad 4 (.t 7)))⟩,
    ⟨(some 9), none, (.op (.ld1 (.t 8)))⟩,
    ⟨(some 10), none, (.op (.mov (.t 1)))⟩,
    ⟨(some 11), none, (.op (.iad 5 (.t 9) (.t 10)))⟩,
    ⟨(some 12), none, (.op (.lda 5 (.t 11)))⟩,
    ⟨(some 5), none, (.op (.alloc [(.int .i64 0), (.int .i64 0), (.int .i64 0), (.int .i64 0), (.int .i64 0)]))⟩,
    ⟨none, none, (.op (.st 5 (.t 5) (.t 12)))⟩])
  (.seq (.drw none [⟨(some 13), none, (.op (.lda 5 (.t 5)))⟩,
     ⟨(some 14), none, (.call (.f 145) [(.t 13)])⟩,
     ⟨(some 15), none, (.op (.bin .eql (.t 14) (.k (.int .i64 3))))⟩,
     ⟨(some 16), none, (.op (.mov (.t 15)))⟩,
     ⟨(some 17), (some (16, true)), (.op (.fad 4 (.t 5)))⟩,
     ⟨(some 18), (some (16, true)), (.op (.ld1 (.t 17)))⟩,
     ⟨(some 19), (some (16, true)), (.op (.mov (.t 0)))⟩,
     ⟨(some 20), (some (16, true)), (.op (.nck (.t 19)))⟩,
     ⟨(some 21), (some (16, true)), (.op (.fad 0 (.t 20)))⟩,
     ⟨(some 22), (some (16, true)), (.op (.fad 1 (.t 21)))⟩,
     ⟨(some 23), (some (16, true)), (.op (.ld1 (.t 22)))⟩,
     ⟨(some 24), (some (16, true)), (.op (.lenl (.t 23)))⟩,
     ⟨(some 25), (some (16, true)), (.call (.f 151) [(.t 18), (.t 24)])⟩,
     ⟨(some 26), (some (16, true)), (.op (.un .not (.t 25)))⟩,
     ⟨(some 27), none, (.op (.pick (.t 16) (.t 26) (.k (.bool false))))⟩,
     ⟨(some 4), none, (.op (.mov (.t 27)))⟩])
   (.ret)))
def r150 : List XRes := [.t 4]
theorem res150 : resolveF Tryz.prog 150 = some (x150, r150, 28) := by kernel_rfl
def x152 : XCode := .seq (.reg [⟨(some 4), none, (.op (.mov (.k (.bool false))))⟩])
 (.seq (.reg [⟨(some 6), none, (.op (.mov (.t 0)))⟩,
    ⟨(some 7), none, (.op (.nck (.t 6)))⟩,
    ⟨(some 8), none, (.op (.fad 4 (.t 7)))⟩,
    ⟨(some 9), none, (.op (.ld1 (.t 8)))⟩,
    ⟨(some 10), none, (.op (.mov (.t 1)))⟩,
    ⟨(some 11), none, (.op (.iad 5 (.t 9) (.t 10)))⟩,
    ⟨(some 12), none, (.op (.lda 5 (.t 11)))⟩,
    ⟨(some 5), none, (.op (.alloc [(.int .i64 0), (.int .i64 0), (.int .i64 0), (.int .i64 0), (.int .i64 0)]))⟩,
    ⟨none, none, (.op (.st 5 (.t 5) (.t 12)))⟩])
  (.seq (.drw none [⟨(some 13), none, (.op (.lda 5 (.t 5)))⟩,
     ⟨(some 14), none, (.call (.f 107) [(.t 13)])⟩,
     ⟨(some 15), none, (.op (.mov (.t 14)))⟩,
     ⟨(some 16), (some (15, true)), (.op (.fad 2 (.t 5)))⟩,
     ⟨(some 17), (some (15, true)), (.op (.ld1 (.t 16)))⟩,
     ⟨(some 18), (some (15, true)), (.op (.bin .eql (.t 17) (.k (.int .i64 1))))⟩,
     ⟨(some 19), none, (.op (.pick (.t 15) (.t 18) (.k (.bool false))))⟩,
     ⟨(some 20), none, (.op (.mov (.t 19)))⟩,
     ⟨(some 21), (some (20, true)), (.op (.fad 4 (.t 5)))⟩,
     ⟨(some 22), (some (20, true)), (.op (.ld1 (.t 21)))⟩,
     ⟨(some 23), (some (20, true)), (.op (.mov (.t 0)))⟩,
     ⟨(some 24), (some (20, true)), (.op (.nck (.t 23)))⟩,
     ⟨(some 25), (some (20, true)), (.op (.fad 0 (.t 24)))⟩,
     ⟨(some 26), (some (20, true)), (.op (.fad 2 (.t 25)))⟩,
     ⟨(some 27), (some (20, true)), (.op (.ld1 (.t 26)))⟩,
     ⟨(some 28), (some (20, true)), (.op (.lenl (.t 27)))⟩,
     ⟨(some 29), (some (20, true)), (.call (.f 151) [(.t 22), (.t 28)])⟩,
     ⟨(some 30), (some (20, true)), (.op (.un .not (.t 29)))⟩,
     ⟨(some 31), none, (.op (.pick (.t 20) (.t 30) (.k (.bool false))))⟩,
     ⟨(some 4), none, (.op (.mov (.t 31)))⟩])
   (.ret)))
def r152 : List XRes := [.t 4]
theorem res152 : resolveF Tryz.prog 152 = some (x152, r152, 32) := by kernel_rfl
def x153 : XCode := .seq (.reg [⟨(some 4), none, (.op (.mov (.k (.bool false))))⟩])
 (.seq (.reg [⟨(some 8), none, (.op (.mov (.t 0)))⟩,
    ⟨(some 9), none, (.op (.nck (.t 8)))⟩,
    ⟨(some 10), none, (.op (.fad 4 (.t 9)))⟩,
    ⟨(some 11), none, (.op (.ld1 (.t 10)))⟩,
    ⟨(some 12), none, (.op (.mov (.t 1)))⟩,
    ⟨(some 13), none, (.op (.iad 5 (.t 11) (.t 12)))⟩,
    ⟨(some 14), none, (.op (.lda 5 (.t 13)))⟩,
    ⟨(some 5), none, (.op (.alloc [(.int .i64 0), (.int .i64 0), (.int .i64 0), (.int .i64 0), (.int .i64 0)]))⟩,
    ⟨none, none, (.op (.st 5 (.t 5) (.t 14)))⟩])
  (.seq (.reg [⟨(some 16), none, (.op (.fad 0 (.t 5)))⟩,
     ⟨(some 17), none, (.op (.ld1 (.t 16)))⟩,
     ⟨(some 18), none, (.call (.f 154) [(.t 17)])⟩,
     ⟨(some 15), none, (.op (.mov (.t 18)))⟩,
     ⟨(some 19), none, (.op (.ext 0 (.t 15)))⟩,
     ⟨(some 20), none, (.op (.ext 1 (.t 15)))⟩,
     ⟨(some 6), none, (.op (.alloc [(.int .i64 0), (.int .i64 0), (.bool false), (.bool false), (.bool false), (.bool false)]))⟩,
     ⟨none, none, (.op (.st 6 (.t 6) (.t 19)))⟩,
     ⟨(some 7), none, (.op (.mov (.t 20)))⟩])
   (.seq (.reg [⟨(some 21), none, (.op (.fad 0 (.t 6)))⟩,
      ⟨(some 22), none, (.op (.ld1 (.t 21)))⟩,
      ⟨(some 23), none, (.op (.bin .eql (.t 22) (.k (.int .i64 9))))⟩,
      ⟨(some 24), none, (.op (.mov (.t 23)))⟩,
      ⟨(some 25), (some (24, true)), (.op (.fad 2 (.t 5)))⟩,
      ⟨(some 26), (some (24, true)), (.op (.ld1 (.t 25)))⟩,
      ⟨(some 27), (some (24, true)), (.op (.bin .eql (.t 26) (.k (.int .i64 0))))⟩,
      ⟨(some 28), none, (.op (.pick (.t 24) (.t 27) (.k (.bool false))))⟩,
      ⟨(some 29), none, (.op (.mov (.t 28)))⟩,
      ⟨(some 30), (some (29, true)), (.op (.fad 4 (.t 5)))⟩,
      ⟨(some 31), (some (29, true)), (.op (.ld1 (.t 30)))⟩,
      ⟨(some 32), (some (29, true)), (.op (.bin .lss (.t 31) (.k (.int .i64 1))))⟩,
      ⟨(some 33), (some (29, true)), (.op (.mov (.t 32)))⟩,
      ⟨(some 34), (some (33, false)), (.op (.fad 4 (.t 5)))⟩,
      ⟨(some 35), (some (33, false)), (.op (.ld1 (.t 34)))⟩,
      ⟨(some 36), (some (33, false)), (.op (.bin .gtr (.t 35) (.k (.int .i64 4))))⟩,
      ⟨(some 37), (some (29, true)), (.op (.pick (.t 33) (.k (.bool true)) (.t 36)))⟩,
      ⟨(some 38), none, (.op (.pick (.t 29) (.t 37) (.k (.bool false))))⟩,
      ⟨(some 4), none, (.op (.mov (.t 38)))⟩])
    (.ret))))
def r153 : List XRes := [.t 4]
theorem res153 : resolveF Tryz.prog 153 = some (x153, r153, 39) := by kernel_rfl
def x86 : XCode := .seq (.reg [⟨(some 2), none, (.op (.box (.t 0)))⟩,
   ⟨(some 3), none, (.op (.box (.t 1)))⟩,
   ⟨(some 4), none, (.op (.mov (.k (.pointer none))))⟩])
 (.seq (.drw none [⟨(some 9), none, (.op (.lda 4 (.t 2)))⟩,
    ⟨(some 10), none, (.op (.fad 0 (.t 2)))⟩,
    ⟨(some 11), none, (.op (.ld1 (.t 10)))⟩,
    ⟨(some 12), none, (.op (.fad 2 (.t 3)))⟩,
    ⟨(some 13), none, (.op (.ld1 (.t 12)))⟩,
    ⟨(some 14), none, (.op (.fad 2 (.t 3)))⟩,
    ⟨(some 15), none, (.op (.ld1 (.t 14)))⟩,
    ⟨(some 16), none, (.op (.fad 3 (.t 3)))⟩,
    ⟨(some 17), none, (.op (.ld1 (.t 16)))⟩,
    ⟨(some 18), none, (.op (.bin .add (.t 15) (.t 17)))⟩,
    ⟨(some 19), none, (.op (.sls 5 (.t 11) (some (.t 13)) (some (.t 18))))⟩,
    ⟨(some 20), none, (.op (.mkm none))⟩,
    ⟨(some 21), none, (.op (.build [(.slice none 0 0), (.slice none 0 0), (.slice none 0 0), (.int .i64 0), (.slice none 0 0), (.slice none 0 0), (.map none)] [(0, 4, (.t 9)), (4, 1, (.t 19)), (6, 1, (.t 20))]))⟩,
    ⟨(some 22), none, (.op (.box (.t 21)))⟩,
    ⟨(some 5), none, (.op (.mov (.t 22)))⟩])
  (.seq (.reg [⟨(some 6), none, (.op (.mov (.k (.int .i64 0))))⟩])
   (.seq (.seq (.reg [⟨(some 23), none, (.op (.mov (.t 5)))⟩,
       ⟨(some 24), none, (.op (.nck (.t 23)))⟩,
       ⟨(some 25), none, (.op (.fad 4 (.t 24)))⟩,
       ⟨(some 26), none, (.op (.ld1 (.t 25)))⟩,
       ⟨(some 27), none, (.op (.lenl (.t 26)))⟩,
       ⟨(some 28), none, (.op (.mov (.k (.int .i64 0))))⟩])
     (.block 0 (.loop (.seq (.reg [⟨(some 29), none, (.op (.bin .lss (.t 28) (.t 27)))⟩])
        (.seq (.cond (.t 29) (.skip)
          (.exit 0))
         (.seq (.block 1 (.seq (.reg [⟨(some 30), none, (.op (.mov (.t 28)))⟩,
              ⟨(some 31), none, (.op (.iad 5 (.t 26) (.t 28)))⟩,
              ⟨(some 32), none, (.op (.lda 5 (.t 31)))⟩,
              ⟨(some 8), none, (.op (.alloc [(.int .i64 0), (.int .i64 0), (.int .i64 0), (.int .i64 0), (.int .i64 0)]))⟩,
              ⟨(some 7), none, (.op (.mov (.t 30)))⟩,
              ⟨none, none, (.op (.st 5 (.t 8) (.t 32)))⟩])
            (.seq (.reg [⟨(some 33), none, (.op (.mov (.t 5)))⟩,
               ⟨(some 34), none, (.op (.mov (.t 5)))⟩,
               ⟨(some 35), none, (.op (.nck (.t 34)))⟩,
               ⟨(some 36), none, (.op (.fad 5 (.t 35)))⟩,
               ⟨(some 37), none, (.op (.ld1 (.t 36)))⟩,
               ⟨(some 38), none, (.op (.mov (.t 6)))⟩,
               ⟨(some 39), none, (.op (.bsl 1 1 [(.int .i64 0)] [(0, 1, (.t 38))]))⟩,
               ⟨(some 40), none, (.op (.app 1 8 (.t 37) (.t 39)))⟩,
               ⟨(some 41), none, (.op (.nck (.t 33)))⟩,
               ⟨(some 42), none, (.op (.fad 5 (.t 41)))⟩,
               ⟨none, none, (.op (.st 1 (.t 42) (.t 40)))⟩])
             (.seq (.reg [⟨(some 43), none, (.op (.mov (.t 5)))⟩,
                ⟨(some 44), none, (.op (.nck (.t 43)))⟩,
                ⟨(some 45), none, (.op (.fad 6 (.t 44)))⟩,
                ⟨(some 46), none, (.op (.ld1 (.t 45)))⟩,
                ⟨(some 47), none, (.op (.mov (.t 6)))⟩,
                ⟨(some 48), none, (.op (.mov (.t 7)))⟩,
                ⟨none, none, (.op (.mup ⟨false, [1]⟩ (.t 46) (.t 47) (.t 48)))⟩])
              (.seq (.reg [⟨(some 49), none, (.op (.mov (.t 6)))⟩,
                 ⟨(some 50), none, (.op (.bin .add (.t 49) (.k (.int .i64 1))))⟩,
                 ⟨(some 6), none, (.op (.mov (.t 50)))⟩])
               (.seq (.reg [⟨(some 51), none, (.op (.lda 5 (.t 8)))⟩,
                  ⟨(some 52), none, (.call (.f 107) [(.t 51)])⟩])
                (.cond (.t 52) (.reg [⟨(some 53), none, (.op (.mov (.t 6)))⟩,
                   ⟨(some 54), none, (.op (.bin .add (.t 53) (.k (.int .i64 1))))⟩,
                   ⟨(some 6), none, (.op (.mov (.t 54)))⟩])
                 (.skip))))))))
          (.reg [⟨(some 55), none, (.op (.bin .add (.t 28) (.k (.int .i64 1))))⟩,
            ⟨(some 28), none, (.op (.mov (.t 55)))⟩])))))))
    (.seq (.reg [⟨(some 56), none, (.op (.mov (.t 5)))⟩,
       ⟨(some 4), none, (.op (.mov (.t 56)))⟩])
     (.ret)))))
def r86 : List XRes := [.t 4]
theorem res86 : resolveF Tryz.prog 86 = some (x86, r86, 57) := by kernel_rfl
def x87 : XCode := .seq (.reg [⟨(some 4), none, (.op (.mov (.k (.int .i64 0))))⟩,
   ⟨(some 5), none, (.op (.mov (.k (.int .i64 0))))⟩])
 (.seq (.seq (.reg [⟨(some 9), none, (.op (.mov (.t 0)))⟩,
     ⟨(some 10), none, (.op (.nck (.t 9)))⟩,
     ⟨(some 11), none, (.op (.fad 4 (.t 10)))⟩,
     ⟨(some 12), none, (.op (.ld1 (.t 11)))⟩,
     ⟨(some 13), none, (.op (.lenl (.t 12)))⟩,
     ⟨(some 14), none, (.op (.mov (.k (.int .i64 0))))⟩])
   (.block 0 (.loop (.seq (.reg [⟨(some 15), none, (.op (.bin .lss (.t 14) (.t 13)))⟩])
      (.seq (.cond (.t 15) (.skip)
        (.exit 0))
       (.seq (.block 1 (.seq (.reg [⟨(some 16), none, (.op (.mov (.t 14)))⟩,
            ⟨(some 6), none, (.op (.mov (.t 16)))⟩])
          (.seq (.reg [⟨(some 17), none, (.op (.mov (.t 1)))⟩,
             ⟨(some 18), none, (.op (.lenl (.t 17)))⟩,
             ⟨(some 19), none, (.op (.mov (.k (.int .i64 0))))⟩])
           (.block 2 (.loop (.seq (.reg [⟨(some 20), none, (.op (.bin .lss (.t 19) (.t 18)))⟩])
              (.seq (.cond (.t 20) (.skip)
                (.exit 2))
               (.seq (.block 3 (.seq (.reg [⟨(some 21), none, (.op (.iad 2 (.t 17) (.t 19)))⟩,
                    ⟨(some 22), none, (.op (.lda 2 (.t 21)))⟩,
                    ⟨(some 8), none, (.op (.alloc [(.int .i64 0), .nilFunc]))⟩,
                    ⟨none, none, (.op (.st 2 (.t 8) (.t 22)))⟩])
                  (.seq (.reg [⟨(some 23), none, (.op (.fad 1 (.t 8)))⟩,
                     ⟨(some 24), none, (.op (.ld1 (.t 23)))⟩,
                     ⟨(some 25), none, (.op (.mov (.t 0)))⟩,
                     ⟨(some 26), none, (.op (.mov (.t 6)))⟩,
                     ⟨(some 27), none, (.call (.t 24) [(.t 25), (.t 26)])⟩])
                   (.cond (.t 27) (.seq (.drw none [⟨(some 28), none, (.op (.mov (.t 6)))⟩,
                       ⟨(some 29), none, (.op (.fad 0 (.t 8)))⟩,
                       ⟨(some 30), none, (.op (.ld1 (.t 29)))⟩,
                       ⟨(some 4), none, (.op (.mov (.t 28)))⟩,
                       ⟨(some 5), none, (.op (.mov (.t 30)))⟩])
                     (.ret))
                    (.skip)))))
                (.reg [⟨(some 31), none, (.op (.bin .add (.t 19) (.k (.int .i64 1))))⟩,
                  ⟨(some 19), none, (.op (.mov (.t 31)))⟩])))))))))
        (.reg [⟨(some 32), none, (.op (.bin .add (.t 14) (.k (.int .i64 1))))⟩,
          ⟨(some 14), none, (.op (.mov (.t 32)))⟩])))))))
  (.seq (.reg [⟨(some 4), none, (.op (.mov (.k (.int .i64 0))))⟩,
     ⟨(some 5), none, (.op (.mov (.k (.int .i64 0))))⟩])
   (.ret)))
def r87 : List XRes := [.t 4, .t 5]
theorem res87 : resolveF Tryz.prog 87 = some (x87, r87, 33) := by kernel_rfl
def x89 : XCode := .seq (.reg [⟨(some 1), none, (.op (.box (.t 0)))⟩,
   ⟨(some 2), none, (.op (.mov (.k (.slice none 0 0))))⟩])
 (.seq (.reg [⟨(some 8), none, (.op (.fad 1 (.t 1)))⟩,
    ⟨(some 9), none, (.op (.ld1 (.t 8)))⟩,
    ⟨(some 10), none, (.op (.lenl (.t 9)))⟩,
    ⟨(some 11), none, (.op (.mks 1 24 [(.slice none 0 0)] (.t 10) (.t 10)))⟩,
    ⟨(some 3), none, (.op (.mov (.t 11)))⟩])
  (.seq (.seq (.reg [⟨(some 12), none, (.op (.fad 1 (.t 1)))⟩,
      ⟨(some 13), none, (.op (.ld1 (.t 12)))⟩,
      ⟨(some 14), none, (.op (.lenl (.t 13)))⟩,
      ⟨(some 15), none, (.op (.mov (.k (.int .i64 0))))⟩])
    (.block 0 (.loop (.seq (.reg [⟨(some 16), none, (.op (.bin .lss (.t 15) (.t 14)))⟩])
       (.seq (.cond (.t 16) (.skip)
         (.exit 0))
        (.seq (.block 1 (.seq (.reg [⟨(some 17), none, (.op (.mov (.t 15)))⟩,
             ⟨(some 18), none, (.op (.iad 4 (.t 13) (.t 15)))⟩,
             ⟨(some 19), none, (.op (.lda 4 (.t 18)))⟩,
             ⟨(some 5), none, (.op (.alloc [(.string ⟨#[]⟩), (.int .i64 0), (.int .i64 0), (.int .i64 0)]))⟩,
             ⟨(some 4), none, (.op (.mov (.t 17)))⟩,
             ⟨none, none, (.op (.st 4 (.t 5) (.t 19)))⟩])
           (.seq (.reg [⟨(some 20), none, (.op (.fad 0 (.t 1)))⟩,
              ⟨(some 21), none, (.op (.ld1 (.t 20)))⟩,
              ⟨(some 22), none, (.op (.fad 2 (.t 5)))⟩,
              ⟨(some 23), none, (.op (.ld1 (.t 22)))⟩,
              ⟨(some 24), none, (.op (.fad 2 (.t 5)))⟩,
              ⟨(some 25), none, (.op (.ld1 (.t 24)))⟩,
              ⟨(some 26), none, (.op (.fad 3 (.t 5)))⟩,
              ⟨(some 27), none, (.op (.ld1 (.t 26)))⟩,
              ⟨(some 28), none, (.op (.bin .add (.t 25) (.t 27)))⟩,
              ⟨(some 29), none, (.op (.sls 5 (.t 21) (some (.t 23)) (some (.t 28))))⟩,
              ⟨(some 30), none, (.op (.lenl (.t 29)))⟩,
              ⟨(some 31), none, (.op (.mov (.k (.int .i64 0))))⟩])
            (.block 2 (.loop (.seq (.reg [⟨(some 32), none, (.op (.bin .lss (.t 31) (.t 30)))⟩])
               (.seq (.cond (.t 32) (.skip)
                 (.exit 2))
                (.seq (.block 3 (.seq (.reg [⟨(some 33), none, (.op (.iad 5 (.t 29) (.t 31)))⟩,
                     ⟨(some 34), none, (.op (.lda 5 (.t 33)))⟩,
                     ⟨(some 7), none, (.op (.alloc [(.int .i64 0), (.int .i64 0), (.int .i64 0), (.int .i64 0), (.int .i64 0)]))⟩,
                     ⟨none, none, (.op (.st 5 (.t 7) (.t 34)))⟩])
                   (.seq (.reg [⟨(some 35), none, (.op (.lda 5 (.t 7)))⟩,
                      ⟨(some 36), none, (.call (.f 145) [(.t 35)])⟩,
                      ⟨(some 37), none, (.op (.bin .eql (.t 36) (.k (.int .i64 3))))⟩])
                    (.cond (.t 37) (.drw none [⟨(some 38), none, (.op (.mov (.t 3)))⟩,
                       ⟨(some 39), none, (.op (.mov (.t 4)))⟩,
                       ⟨(some 40), none, (.op (.mov (.t 3)))⟩,
                       ⟨(some 41), none, (.op (.mov (.t 4)))⟩,
                       ⟨(some 42), none, (.op (.iad 1 (.t 40) (.t 41)))⟩,
                       ⟨(some 43), none, (.op (.ld1 (.t 42)))⟩,
                       ⟨(some 44), none, (.op (.fad 4 (.t 7)))⟩,
                       ⟨(some 45), none, (.op (.ld1 (.t 44)))⟩,
                       ⟨(some 46), none, (.op (.bsl 1 1 [(.int .i64 0)] [(0, 1, (.t 45))]))⟩,
                       ⟨(some 47), none, (.op (.app 1 8 (.t 43) (.t 46)))⟩,
                       ⟨(some 48), none, (.op (.iad 1 (.t 38) (.t 39)))⟩,
                       ⟨none, none, (.op (.st 1 (.t 48) (.t 47)))⟩])
                     (.skip)))))
                 (.reg [⟨(some 49), none, (.op (.bin .add (.t 31) (.k (.int .i64 1))))⟩,
                   ⟨(some 31), none, (.op (.mov (.t 49)))⟩])))))))))
         (.reg [⟨(some 50), none, (.op (.bin .add (.t 15) (.k (.int .i64 1))))⟩,
           ⟨(some 15), none, (.op (.mov (.t 50)))⟩])))))))
   (.seq (.reg [⟨(some 51), none, (.op (.mov (.t 3)))⟩,
      ⟨(some 2), none, (.op (.mov (.t 51)))⟩])
    (.ret))))
def r89 : List XRes := [.t 2]
theorem res89 : resolveF Tryz.prog 89 = some (x89, r89, 52) := by kernel_rfl
def x88 : XCode := .seq (.reg [⟨(some 2), none, (.op (.mov (.k (.slice none 0 0))))⟩])
 (.seq (.reg [⟨(some 10), none, (.op (.mov (.t 0)))⟩,
    ⟨(some 11), none, (.op (.lenl (.t 10)))⟩,
    ⟨(some 12), none, (.op (.mks 1 8 [(.int .i64 0)] (.t 11) (.t 11)))⟩,
    ⟨(some 3), none, (.op (.mov (.t 12)))⟩])
  (.seq (.seq (.reg [⟨(some 13), none, (.op (.mov (.t 0)))⟩,
      ⟨(some 14), none, (.op (.lenl (.t 13)))⟩,
      ⟨(some 15), none, (.op (.mov (.k (.int .i64 0))))⟩])
    (.block 0 (.loop (.seq (.reg [⟨(some 16), none, (.op (.bin .lss (.t 15) (.t 14)))⟩])
       (.seq (.cond (.t 16) (.skip)
         (.exit 0))
        (.seq (.block 1 (.seq (.reg [⟨(some 17), none, (.op (.mov (.t 15)))⟩,
             ⟨(some 4), none, (.op (.mov (.t 17)))⟩])
           (.seq (.seq (.reg [⟨(some 18), none, (.op (.mov (.t 3)))⟩,
               ⟨(some 19), none, (.op (.mov (.t 4)))⟩,
               ⟨(some 20), none, (.op (.iad 1 (.t 18) (.t 19)))⟩,
               ⟨(some 21), none, (.op (.ld1 (.t 20)))⟩,
               ⟨(some 22), none, (.op (.bin .neq (.t 21) (.k (.int .i64 0))))⟩])
             (.cond (.t 22) (.exit 1)
              (.skip)))
            (.seq (.reg [⟨(some 23), none, (.op (.mov (.t 3)))⟩,
               ⟨(some 24), none, (.op (.mov (.t 4)))⟩,
               ⟨(some 25), none, (.op (.iad 1 (.t 23) (.t 24)))⟩,
               ⟨none, none, (.op (.st 1 (.t 25) (.k (.int .i64 (-1)))))⟩])
             (.seq (.reg [⟨(some 26), none, (.op (.mov (.t 4)))⟩,
                ⟨(some 27), none, (.op (.build [(.int .i64 0), (.int .i64 0), (.int .i64 0)] [(0, 1, (.t 26))]))⟩,
                ⟨(some 28), none, (.op (.bsl 3 1 [(.int .i64 0), (.int .i64 0), (.int .i64 0)] [(0, 3, (.t 27))]))⟩,
                ⟨(some 5), none, (.op (.mov (.t 28)))⟩])
              (.seq (.skip)
               (.block 2 (.loop (.seq (.seq (.reg [⟨(some 29), none, (.op (.mov (.t 5)))⟩,
                     ⟨(some 30), none, (.op (.lenl (.t 29)))⟩,
                     ⟨(some 31), none, (.op (.bin .gtr (.t 30) (.k (.int .i64 0))))⟩])
                   (.cond (.t 31) (.skip)
                    (.exit 2)))
                  (.block 3 (.seq (.reg [⟨(some 32), none, (.op (.mov (.t 5)))⟩,
                      ⟨(some 33), none, (.op (.mov (.t 5)))⟩,
                      ⟨(some 34), none, (.op (.lenl (.t 33)))⟩,
                      ⟨(some 35), none, (.op (.bin .sub (.t 34) (.k (.int .i64 1))))⟩,
                      ⟨(some 36), none, (.op (.iad 3 (.t 32) (.t 35)))⟩,
                      ⟨(some 6), none, (.op (.mov (.t 36)))⟩])
                    (.seq (.block 4 (.loop (.seq (.seq (.drw none [⟨(some 37), none, (.op (.mov (.t 6)))⟩,
                           ⟨(some 38), none, (.op (.nck (.t 37)))⟩,
                           ⟨(some 39), none, (.op (.fad 1 (.t 38)))⟩,
                           ⟨(some 40), none, (.op (.ld1 (.t 39)))⟩,
                           ⟨(some 41), none, (.op (.mov (.t 0)))⟩,
                           ⟨(some 42), none, (.op (.mov (.t 6)))⟩,
                           ⟨(some 43), none, (.op (.nck (.t 42)))⟩,
                           ⟨(some 44), none, (.op (.fad 0 (.t 43)))⟩,
                           ⟨(some 45), none, (.op (.ld1 (.t 44)))⟩,
                           ⟨(some 46), none, (.op (.iad 1 (.t 41) (.t 45)))⟩,
                           ⟨(some 47), none, (.op (.ld1 (.t 46)))⟩,
                           ⟨(some 48), none, (.op (.lenl (.t 47)))⟩,
                           ⟨(some 49), none, (.op (.bin .lss (.t 40) (.t 48)))⟩])
                         (.cond (.t 49) (.skip)
                          (.exit 4)))
                        (.block 5 (.seq (.drw none [⟨(some 50), none, (.op (.mov (.t 0)))⟩,
                            ⟨(some 51), none, (.op (.mov (.t 6)))⟩,
                            ⟨(some 52), none, (.op (.nck (.t 51)))⟩,
                            ⟨(some 53), none, (.op (.fad 0 (.t 52)))⟩,
                            ⟨(some 54), none, (.op (.ld1 (.t 53)))⟩,
                            ⟨(some 55), none, (.op (.iad 1 (.t 50) (.t 54)))⟩,
                            ⟨(some 56), none, (.op (.ld1 (.t 55)))⟩,
                            ⟨(some 57), none, (.op (.mov (.t 6)))⟩,
                            ⟨(some 58), none, (.op (.nck (.t 57)))⟩,
                            ⟨(some 59), none, (.op (.fad 1 (.t 58)))⟩,
                            ⟨(some 60), none, (.op (.ld1 (.t 59)))⟩,
                            ⟨(some 61), none, (.op (.iad 1 (.t 56) (.t 60)))⟩,
                            ⟨(some 62), none, (.op (.ld1 (.t 61)))⟩,
                            ⟨(some 7), none, (.op (.mov (.t 62)))⟩])
                          (.seq (.reg [⟨(some 63), none, (.op (.mov (.t 6)))⟩,
                             ⟨(some 64), none, (.op (.nck (.t 63)))⟩,
                             ⟨(some 65), none, (.op (.fad 1 (.t 64)))⟩,
                             ⟨(some 66), none, (.op (.ld1 (.t 65)))⟩,
                             ⟨(some 67), none, (.op (.bin .add (.t 66) (.k (.int .i64 1))))⟩,
                             ⟨(some 68), none, (.op (.nck (.t 63)))⟩,
                             ⟨(some 69), none, (.op (.fad 1 (.t 68)))⟩,
                             ⟨none, none, (.op (.st 1 (.t 69) (.t 67)))⟩])
                           (.seq (.reg [⟨(some 70), none, (.op (.mov (.t 3)))⟩,
                              ⟨(some 71), none, (.op (.mov (.t 7)))⟩,
                              ⟨(some 72), none, (.op (.iad 1 (.t 70) (.t 71)))⟩,
                              ⟨(some 73), none, (.op (.ld1 (.t 72)))⟩])
                            (.block 6 (.seq (.reg [⟨(some 87), none, (.op (.bin .eql (.t 73) (.k (.int .i64 (-1)))))⟩,
                                ⟨(some 86), none, (.op (.mov (.t 87)))⟩])
                              (.cond (.t 86) (.reg [⟨(some 88), none, (.op (.mov (.t 6)))⟩,
                                 ⟨(some 89), none, (.op (.nck (.t 88)))⟩,
                                 ⟨(some 90), none, (.op (.fad 2 (.t 89)))⟩,
                                 ⟨none, none, (.op (.st 1 (.t 90) (.k (.int .i64 9))))⟩])
                               (.seq (.reg [⟨(some 92), none, (.op (.bin .eql (.t 73) (.k (.int .i64 0))))⟩,
                                  ⟨(some 91), none, (.op (.mov (.t 92)))⟩])
                                (.cond (.t 91) (.seq (.reg [⟨(some 93), none, (.op (.mov (.t 3)))⟩,
                                    ⟨(some 94), none, (.op (.mov (.t 7)))⟩,
                                    ⟨(some 95), none, (.op (.iad 1 (.t 93) (.t 94)))⟩,
                                    ⟨none, none, (.op (.st 1 (.t 95) (.k (.int .i64 (-1)))))⟩])
                                  (.seq (.reg [⟨(some 96), none, (.op (.mov (.t 5)))⟩,
                                     ⟨(some 97), none, (.op (.mov (.t 7)))⟩,
                                     ⟨(some 98), none, (.op (.build [(.int .i64 0), (.int .i64 0), (.int .i64 0)] [(0, 1, (.t 97))]))⟩,
                                     ⟨(some 99), none, (.op (.bsl 3 1 [(.int .i64 0), (.int .i64 0), (.int .i64 0)] [(0, 3, (.t 98))]))⟩,
                                     ⟨(some 100), none, (.op (.app 3 24 (.t 96) (.t 99)))⟩,
                                     ⟨(some 5), none, (.op (.mov (.t 100)))⟩])
                                   (.exit 3)))
                                 (.drw none [⟨(some 74), none, (.op (.mov (.t 6)))⟩,
                                   ⟨(some 75), none, (.op (.mov (.t 6)))⟩,
                                   ⟨(some 76), none, (.op (.nck (.t 75)))⟩,
                                   ⟨(some 77), none, (.op (.fad 2 (.t 76)))⟩,
                                   ⟨(some 78), none, (.op (.ld1 (.t 77)))⟩,
                                   ⟨(some 79), none, (.op (.mov (.t 3)))⟩,
                                   ⟨(some 80), none, (.op (.mov (.t 7)))⟩,
                                   ⟨(some 81), none, (.op (.iad 1 (.t 79) (.t 80)))⟩,
                                   ⟨(some 82), none, (.op (.ld1 (.t 81)))⟩,
                                   ⟨(some 83), none, (.op (.mx false (.t 78) (.t 82)))⟩,
                                   ⟨(some 84), none, (.op (.nck (.t 74)))⟩,
                                   ⟨(some 85), none, (.op (.fad 2 (.t 84)))⟩,
                                   ⟨none, none, (.op (.st 1 (.t 85) (.t 83)))⟩])))))))))))))
                     (.seq (.reg [⟨(some 101), none, (.op (.mov (.t 6)))⟩,
                        ⟨(some 102), none, (.op (.nck (.t 101)))⟩,
                        ⟨(some 103), none, (.op (.fad 2 (.t 102)))⟩,
                        ⟨(some 104), none, (.op (.ld1 (.t 103)))⟩,
                        ⟨(some 105), none, (.op (.bin .add (.t 104) (.k (.int .i64 1))))⟩,
                        ⟨(some 106), none, (.op (.mx true (.t 105) (.k (.int .i64 9))))⟩,
                        ⟨(some 8), none, (.op (.mov (.t 106)))⟩])
                      (.seq (.reg [⟨(some 107), none, (.op (.mov (.t 3)))⟩,
                         ⟨(some 108), none, (.op (.mov (.t 6)))⟩,
                         ⟨(some 109), none, (.op (.nck (.t 108)))⟩,
                         ⟨(some 110), none, (.op (.fad 0 (.t 109)))⟩,
                         ⟨(some 111), none, (.op (.ld1 (.t 110)))⟩,
                         ⟨(some 112), none, (.op (.mov (.t 8)))⟩,
                         ⟨(some 113), none, (.op (.iad 1 (.t 107) (.t 111)))⟩,
                         ⟨none, none, (.op (.st 1 (.t 113) (.t 112)))⟩])
                       (.seq (.reg [⟨(some 114), none, (.op (.mov (.t 5)))⟩,
                          ⟨(some 115), none, (.op (.mov (.t 5)))⟩,
                          ⟨(some 116), none, (.op (.lenl (.t 115)))⟩,
                          ⟨(some 117), none, (.op (.bin .sub (.t 116) (.k (.int .i64 1))))⟩,
                          ⟨(some 118), none, (.op (.sls 3 (.t 114) none (some (.t 117))))⟩,
                          ⟨(some 5), none, (.op (.mov (.t 118)))⟩])
                        (.seq (.reg [⟨(some 119), none, (.op (.mov (.t 5)))⟩,
                           ⟨(some 120), none, (.op (.lenl (.t 119)))⟩,
                           ⟨(some 121), none, (.op (.bin .gtr (.t 120) (.k (.int .i64 0))))⟩])
                         (.cond (.t 121) (.seq (.reg [⟨(some 122), none, (.op (.mov (.t 5)))⟩,
                             ⟨(some 123), none, (.op (.mov (.t 5)))⟩,
                             ⟨(some 124), none, (.op (.lenl (.t 123)))⟩,
                             ⟨(some 125), none, (.op (.bin .sub (.t 124) (.k (.int .i64 1))))⟩,
                             ⟨(some 126), none, (.op (.iad 3 (.t 122) (.t 125)))⟩,
                             ⟨(some 9), none, (.op (.mov (.t 126)))⟩])
                           (.reg [⟨(some 127), none, (.op (.mov (.t 9)))⟩,
                             ⟨(some 128), none, (.op (.mov (.t 9)))⟩,
                             ⟨(some 129), none, (.op (.nck (.t 128)))⟩,
                             ⟨(some 130), none, (.op (.fad 2 (.t 129)))⟩,
                             ⟨(some 131), none, (.op (.ld1 (.t 130)))⟩,
                             ⟨(some 132), none, (.op (.mov (.t 8)))⟩,
                             ⟨(some 133), none, (.op (.mx false (.t 131) (.t 132)))⟩,
                             ⟨(some 134), none, (.op (.nck (.t 127)))⟩,
                             ⟨(some 135), none, (.op (.fad 2 (.t 134)))⟩,
                             ⟨none, none, (.op (.st 1 (.t 135) (.t 133)))⟩]))
                          (.skip))))))))))))))))))
         (.reg [⟨(some 136), none, (.op (.bin .add (.t 15) (.k (.int .i64 1))))⟩,
           ⟨(some 15), none, (.op (.mov (.t 136)))⟩])))))))
   (.seq (.reg [⟨(some 137), none, (.op (.mov (.t 3)))⟩,
      ⟨(some 2), none, (.op (.mov (.t 137)))⟩])
    (.ret))))
def r88 : List XRes := [.t 2]
theorem res88 : resolveF Tryz.prog 88 = some (x88, r88, 138) := by kernel_rfl
def x34 : XCode := .seq (.reg [⟨(some 1), none, (.op (.box (.t 0)))⟩,
   ⟨(some 2), none, (.op (.mov (.k (.int .i64 0))))⟩,
   ⟨(some 3), none, (.op (.mov (.k (.int .i64 0))))⟩,
   ⟨(some 4), none, (.op (.mov (.k (.int .i64 0))))⟩])
 (.seq (.seq (.reg [⟨(some 18), none, (.op (.lda 4 (.t 1)))⟩,
     ⟨(some 19), none, (.call (.f 79) [(.t 18)])⟩,
     ⟨(some 17), none, (.op (.mov (.t 19)))⟩,
     ⟨(some 20), none, (.op (.ext 0 (.t 17)))⟩,
     ⟨(some 21), none, (.op (.ext 1 (.t 17)))⟩,
     ⟨(some 5), none, (.op (.mov (.t 20)))⟩,
     ⟨(some 6), none, (.op (.mov (.t 21)))⟩])
   (.seq (.reg [⟨(some 22), none, (.op (.mov (.t 6)))⟩,
      ⟨(some 23), none, (.op (.bin .neq (.t 22) (.k (.int .i64 0))))⟩])
    (.cond (.t 23) (.seq (.reg [⟨(some 2), none, (.op (.mov (.k (.int .i64 0))))⟩,
        ⟨(some 3), none, (.op (.mov (.k (.int .i64 0))))⟩,
        ⟨(some 4), none, (.op (.mov (.k (.int .i64 190))))⟩])
      (.ret))
     (.skip))))
  (.seq (.reg [⟨(some 24), none, (.op (.fad 1 (.t 1)))⟩,
     ⟨(some 25), none, (.op (.ld1 (.t 24)))⟩,
     ⟨(some 26), none, (.op (.lenl (.t 25)))⟩,
     ⟨(some 27), none, (.op (.mks 1 8 [(.int .i64 0)] (.t 26) (.t 26)))⟩,
     ⟨(some 7), none, (.op (.mov (.t 27)))⟩])
   (.seq (.seq (.reg [⟨(some 28), none, (.op (.mov (.t 7)))⟩,
       ⟨(some 29), none, (.op (.lenl (.t 28)))⟩,
       ⟨(some 30), none, (.op (.mov (.k (.int .i64 0))))⟩])
     (.block 0 (.loop (.seq (.reg [⟨(some 31), none, (.op (.bin .lss (.t 30) (.t 29)))⟩])
        (.seq (.cond (.t 31) (.skip)
          (.exit 0))
         (.seq (.block 1 (.seq (.reg [⟨(some 32), none, (.op (.mov (.t 30)))⟩,
              ⟨(some 8), none, (.op (.mov (.t 32)))⟩])
            (.reg [⟨(some 33), none, (.op (.mov (.t 7)))⟩,
              ⟨(some 34), none, (.op (.mov (.t 8)))⟩,
              ⟨(some 35), none, (.op (.mov (.t 8)))⟩,
              ⟨(some 36), none, (.op (.iad 1 (.t 33) (.t 34)))⟩,
              ⟨none, none, (.op (.st 1 (.t 36) (.t 35)))⟩])))
          (.reg [⟨(some 37), none, (.op (.bin .add (.t 30) (.k (.int .i64 1))))⟩,
            ⟨(some 30), none, (.op (.mov (.t 37)))⟩])))))))
    (.seq (.reg [⟨(some 38), none, (.op (.mov (.t 7)))⟩,
       ⟨(some 39), none, (.op (.mkf 81 [(.t 1)]))⟩,
       ⟨(some 40), none, (.call (.f 80) [(.t 38), (.t 39)])⟩])
     (.seq (.reg [⟨(some 41), none, (.call (.f 85) [])⟩,
        ⟨(some 9), none, (.op (.mov (.t 41)))⟩])
      (.seq (.seq (.reg [⟨(some 42), none, (.op (.mov (.t 7)))⟩,
          ⟨(some 43), none, (.op (.lenl (.t 42)))⟩,
          ⟨(some 44), none, (.op (.mov (.k (.int .i64 0))))⟩])
        (.block 2 (.loop (.seq (.reg [⟨(some 45), none, (.op (.bin .lss (.t 44) (.t 43)))⟩])
           (.seq (.cond (.t 45) (.skip)
             (.exit 2))
            (.seq (.block 3 (.seq (.reg [⟨(some 46), none, (.op (.iad 1 (.t 42) (.t 44)))⟩,
                 ⟨(some 47), none, (.op (.ld1 (.t 46)))⟩,
                 ⟨(some 11), none, (.op (.mov (.t 47)))⟩])
               (.seq (.drw none [⟨(some 49), none, (.op (.lda 4 (.t 1)))⟩,
                  ⟨(some 50), none, (.op (.fad 1 (.t 1)))⟩,
                  ⟨(some 51), none, (.op (.ld1 (.t 50)))⟩,
                  ⟨(some 52), none, (.op (.mov (.t 11)))⟩,
                  ⟨(some 53), none, (.op (.iad 4 (.t 51) (.t 52)))⟩,
                  ⟨(some 54), none, (.op (.lda 4 (.t 53)))⟩,
                  ⟨(some 55), none, (.call (.f 86) [(.t 49), (.t 54)])⟩,
                  ⟨(some 56), none, (.op (.mov (.t 9)))⟩,
                  ⟨(some 57), none, (.call (.f 87) [(.t 55), (.t 56)])⟩,
                  ⟨(some 48), none, (.op (.mov (.t 57)))⟩,
                  ⟨(some 58), none, (.op (.ext 0 (.t 48)))⟩,
                  ⟨(some 59), none, (.op (.ext 1 (.t 48)))⟩,
                  ⟨(some 12), none, (.op (.mov (.t 58)))⟩,
                  ⟨(some 13), none, (.op (.mov (.t 59)))⟩])
                (.seq (.reg [⟨(some 60), none, (.op (.mov (.t 13)))⟩,
                   ⟨(some 61), none, (.op (.bin .neq (.t 60) (.k (.int .i64 0))))⟩])
                 (.cond (.t 61) (.seq (.reg [⟨(some 62), none, (.op (.mov (.t 11)))⟩,
                     ⟨(some 63), none, (.op (.mov (.t 12)))⟩,
                     ⟨(some 64), none, (.op (.mov (.t 13)))⟩,
                     ⟨(some 2), none, (.op (.mov (.t 62)))⟩,
                     ⟨(some 3), none, (.op (.mov (.t 63)))⟩,
                     ⟨(some 4), none, (.op (.mov (.t 64)))⟩])
                   (.ret))
                  (.skip))))))
             (.reg [⟨(some 65), none, (.op (.bin .add (.t 44) (.k (.int .i64 1))))⟩,
               ⟨(some 44), none, (.op (.mov (.t 65)))⟩])))))))
       (.seq (.reg [⟨(some 66), none, (.op (.lda 4 (.t 1)))⟩,
          ⟨(some 67), none, (.call (.f 89) [(.t 66)])⟩,
          ⟨(some 68), none, (.call (.f 88) [(.t 67)])⟩,
          ⟨(some 14), none, (.op (.mov (.t 68)))⟩])
        (.seq (.seq (.reg [⟨(some 69), none, (.op (.mov (.t 7)))⟩,
            ⟨(some 70), none, (.op (.lenl (.t 69)))⟩,
            ⟨(some 71), none, (.op (.mov (.k (.int .i64 0))))⟩])
          (.block 4 (.loop (.seq (.reg [⟨(some 72), none, (.op (.bin .lss (.t 71) (.t 70)))⟩])
             (.seq (.cond (.t 72) (.skip)
               (.exit 4))
              (.seq (.block 5 (.seq (.reg [⟨(some 73), none, (.op (.iad 1 (.t 69) (.t 71)))⟩,
                   ⟨(some 74), none, (.op (.ld1 (.t 73)))⟩,
                   ⟨(some 16), none, (.op (.mov (.t 74)))⟩])
                 (.seq (.reg [⟨(some 75), none, (.op (.mov (.t 14)))⟩,
                    ⟨(some 76), none, (.op (.mov (.t 16)))⟩,
                    ⟨(some 77), none, (.op (.iad 1 (.t 75) (.t 76)))⟩,
                    ⟨(some 78), none, (.op (.ld1 (.t 77)))⟩,
                    ⟨(some 79), none, (.op (.bin .gtr (.t 78) (.k (.int .i64 8))))⟩])
                  (.cond (.t 79) (.seq (.reg [⟨(some 80), none, (.op (.mov (.t 16)))⟩,
                      ⟨(some 2), none, (.op (.mov (.t 80)))⟩,
                      ⟨(some 3), none, (.op (.mov (.k (.int .i64 0))))⟩,
                      ⟨(some 4), none, (.op (.mov (.k (.int .i64 198))))⟩])
                    (.ret))
                   (.skip)))))
               (.reg [⟨(some 81), none, (.op (.bin .add (.t 71) (.k (.int .i64 1))))⟩,
                 ⟨(some 71), none, (.op (.mov (.t 81)))⟩])))))))
         (.seq (.reg [⟨(some 2), none, (.op (.mov (.k (.int .i64 0))))⟩,
            ⟨(some 3), none, (.op (.mov (.k (.int .i64 0))))⟩,
            ⟨(some 4), none, (.op (.mov (.k (.int .i64 0))))⟩])
          (.ret))))))))))
def r34 : List XRes := [.t 2, .t 3, .t 4]
theorem res34 : resolveF Tryz.prog 34 = some (x34, r34, 82) := by kernel_rfl
def x81 : XCode := .seq (.reg [⟨(some 5), none, (.op (.mov (.k (.int .i64 0))))⟩])
 (.seq (.drw (some [6, 7]) [⟨(some 8), none, (.op (.fad 1 (.t 2)))⟩,
    ⟨(some 9), none, (.op (.ld1 (.t 8)))⟩,
    ⟨(some 10), none, (.op (.mov (.t 0)))⟩,
    ⟨(some 11), none, (.op (.iad 4 (.t 9) (.t 10)))⟩,
    ⟨(some 12), none, (.op (.lda 4 (.t 11)))⟩,
    ⟨(some 13), none, (.op (.fad 1 (.t 2)))⟩,
    ⟨(some 14), none, (.op (.ld1 (.t 13)))⟩,
    ⟨(some 15), none, (.op (.mov (.t 1)))⟩,
    ⟨(some 16), none, (.op (.iad 4 (.t 14) (.t 15)))⟩,
    ⟨(some 17), none, (.op (.lda 4 (.t 16)))⟩,
    ⟨(some 6), none, (.op (.alloc [(.string ⟨#[]⟩), (.int .i64 0), (.int .i64 0), (.int .i64 0)]))⟩,
    ⟨(some 7), none, (.op (.alloc [(.string ⟨#[]⟩), (.int .i64 0), (.int .i64 0), (.int .i64 0)]))⟩,
    ⟨none, none, (.op (.st 4 (.t 6) (.t 12)))⟩,
    ⟨none, none, (.op (.st 4 (.t 7) (.t 17)))⟩])
  (.seq (.drw none [⟨(some 18), none, (.op (.fad 0 (.t 6)))⟩,
     ⟨(some 19), none, (.op (.ld1 (.t 18)))⟩,
     ⟨(some 20), none, (.op (.fad 0 (.t 7)))⟩,
     ⟨(some 21), none, (.op (.ld1 (.t 20)))⟩,
     ⟨(some 22), none, (.call (.f 83) [(.t 19), (.t 21)])⟩,
     ⟨(some 23), none, (.op (.fad 1 (.t 6)))⟩,
     ⟨(some 24), none, (.op (.ld1 (.t 23)))⟩,
     ⟨(some 25), none, (.op (.fad 1 (.t 7)))⟩,
     ⟨(some 26), none, (.op (.ld1 (.t 25)))⟩,
     ⟨(some 27), none, (.call (.f 84) [(.t 24), (.t 26)])⟩,
     ⟨(some 28), none, (.op (.bsl 1 2 [(.int .i64 0), (.int .i64 0)] [(0, 1, (.t 22)), (1, 1, (.t 27))]))⟩,
     ⟨(some 29), none, (.call (.f 82) [(.t 28)])⟩,
     ⟨(some 5), none, (.op (.mov (.t 29)))⟩])
   (.ret)))
def r81 : List XRes := [.t 5]
theorem res81 : resolveF Tryz.prog 81 = some (x81, r81, 30) := by kernel_rfl
def x83 : XCode := .seq (.reg [⟨(some 4), none, (.op (.mov (.k (.int .i64 0))))⟩])
 (.seq (.reg [⟨(some 7), none, (.op (.mov (.t 0)))⟩,
    ⟨(some 8), none, (.call (.f 140) [(.t 7)])⟩,
    ⟨(some 5), none, (.op (.mov (.t 8)))⟩])
  (.seq (.reg [⟨(some 9), none, (.op (.mov (.t 1)))⟩,
     ⟨(some 10), none, (.call (.f 140) [(.t 9)])⟩,
     ⟨(some 6), none, (.op (.mov (.t 10)))⟩])
   (.seq (.seq (.reg [⟨(some 11), none, (.op (.mov (.t 5)))⟩])
     (.cond (.t 11) (.seq (.seq (.reg [⟨(some 12), none, (.op (.mov (.t 6)))⟩])
        (.cond (.t 12) (.seq (.reg [⟨(some 4), none, (.op (.mov (.k (.int .i64 0))))⟩])
          (.ret))
         (.skip)))
       (.seq (.reg [⟨(some 4), none, (.op (.mov (.k (.int .i64 (-1)))))⟩])
        (.ret)))
      (.skip)))
    (.seq (.seq (.reg [⟨(some 13), none, (.op (.mov (.t 6)))⟩])
      (.cond (.t 13) (.seq (.reg [⟨(some 4), none, (.op (.mov (.k (.int .i64 1))))⟩])
        (.ret))
       (.skip)))
     (.seq (.seq (.reg [⟨(some 14), none, (.op (.mov (.t 0)))⟩,
         ⟨(some 15), none, (.op (.mov (.t 1)))⟩,
         ⟨(some 16), none, (.op (.bin .lss (.t 14) (.t 15)))⟩])
       (.cond (.t 16) (.seq (.reg [⟨(some 4), none, (.op (.mov (.k (.int .i64 (-1)))))⟩])
         (.ret))
        (.skip)))
      (.seq (.seq (.reg [⟨(some 17), none, (.op (.mov (.t 0)))⟩,
          ⟨(some 18), none, (.op (.mov (.t 1)))⟩,
          ⟨(some 19), none, (.op (.bin .gtr (.t 17) (.t 18)))⟩])
        (.cond (.t 19) (.seq (.reg [⟨(some 4), none, (.op (.mov (.k (.int .i64 1))))⟩])
          (.ret))
         (.skip)))
       (.seq (.reg [⟨(some 4), none, (.op (.mov (.k (.int .i64 0))))⟩])
        (.ret))))))))
def r83 : List XRes := [.t 4]
theorem res83 : resolveF Tryz.prog 83 = some (x83, r83, 20) := by kernel_rfl
def x84 : XCode := .seq (.reg [⟨(some 4), none, (.op (.mov (.k (.int .i64 0))))⟩])
 (.seq (.reg [⟨(some 7), none, (.op (.mov (.t 0)))⟩,
    ⟨(some 8), none, (.call (.f 141) [(.t 7)])⟩,
    ⟨(some 5), none, (.op (.mov (.t 8)))⟩])
  (.seq (.reg [⟨(some 9), none, (.op (.mov (.t 1)))⟩,
     ⟨(some 10), none, (.call (.f 141) [(.t 9)])⟩,
     ⟨(some 6), none, (.op (.mov (.t 10)))⟩])
   (.seq (.seq (.reg [⟨(some 11), none, (.op (.mov (.t 5)))⟩])
     (.cond (.t 11) (.seq (.seq (.reg [⟨(some 12), none, (.op (.mov (.t 6)))⟩])
        (.cond (.t 12) (.seq (.reg [⟨(some 4), none, (.op (.mov (.k (.int .i64 0))))⟩])
          (.ret))
         (.skip)))
       (.seq (.reg [⟨(some 4), none, (.op (.mov (.k (.int .i64 (-1)))))⟩])
        (.ret)))
      (.skip)))
    (.seq (.seq (.reg [⟨(some 13), none, (.op (.mov (.t 6)))⟩])
      (.cond (.t 13) (.seq (.reg [⟨(some 4), none, (.op (.mov (.k (.int .i64 1))))⟩])
        (.ret))
       (.skip)))
     (.seq (.seq (.reg [⟨(some 14), none, (.op (.mov (.t 0)))⟩,
         ⟨(some 15), none, (.op (.mov (.t 1)))⟩,
         ⟨(some 16), none, (.op (.bin .lss (.t 14) (.t 15)))⟩])
       (.cond (.t 16) (.seq (.reg [⟨(some 4), none, (.op (.mov (.k (.int .i64 (-1)))))⟩])
         (.ret))
        (.skip)))
      (.seq (.seq (.reg [⟨(some 17), none, (.op (.mov (.t 0)))⟩,
          ⟨(some 18), none, (.op (.mov (.t 1)))⟩,
          ⟨(some 19), none, (.op (.bin .gtr (.t 17) (.t 18)))⟩])
        (.cond (.t 19) (.seq (.reg [⟨(some 4), none, (.op (.mov (.k (.int .i64 1))))⟩])
          (.ret))
         (.skip)))
       (.seq (.reg [⟨(some 4), none, (.op (.mov (.k (.int .i64 0))))⟩])
        (.ret))))))))
def r84 : List XRes := [.t 4]
theorem res84 : resolveF Tryz.prog 84 = some (x84, r84, 20) := by kernel_rfl
def x140 : XCode := .seq (.reg [⟨(some 2), none, (.op (.mov (.k (.bool false))))⟩])
 (.seq (.reg [⟨(some 3), none, (.op (.mov (.t 0)))⟩,
    ⟨(some 4), none, (.op (.mov (.t 0)))⟩,
    ⟨(some 5), none, (.op (.bin .neq (.t 3) (.t 4)))⟩,
    ⟨(some 2), none, (.op (.mov (.t 5)))⟩])
  (.ret))
def r140 : List XRes := [.t 2]
theorem res140 : resolveF Tryz.prog 140 = some (x140, r140, 6) := by kernel_rfl
def x141 : XCode := .seq (.reg [⟨(some 2), none, (.op (.mov (.k (.bool false))))⟩])
 (.seq (.reg [⟨(some 3), none, (.op (.mov (.t 0)))⟩,
    ⟨(some 4), none, (.op (.mov (.t 0)))⟩,
    ⟨(some 5), none, (.op (.bin .neq (.t 3) (.t 4)))⟩,
    ⟨(some 2), none, (.op (.mov (.t 5)))⟩])
  (.ret))
def r141 : List XRes := [.t 2]
theorem res141 : resolveF Tryz.prog 141 = some (x141, r141, 6) := by kernel_rfl
def x82 : XCode := .seq (.reg [⟨(some 2), none, (.op (.mov (.k (.int .i64 0))))⟩])
 (.seq (.reg [⟨(some 3), none, (.op (.mov (.k (.int .i64 0))))⟩])
  (.seq (.seq (.reg [⟨(some 6), none, (.op (.mov (.t 0)))⟩,
      ⟨(some 7), none, (.op (.lenl (.t 6)))⟩,
      ⟨(some 8), none, (.op (.mov (.k (.int .i64 0))))⟩])
    (.block 0 (.loop (.seq (.reg [⟨(some 9), none, (.op (.bin .lss (.t 8) (.t 7)))⟩])
       (.seq (.cond (.t 9) (.skip)
         (.exit 0))
        (.seq (.block 1 (.seq (.reg [⟨(some 10), none, (.op (.iad 1 (.t 6) (.t 8)))⟩,
             ⟨(some 11), none, (.op (.ld1 (.t 10)))⟩,
             ⟨(some 5), none, (.op (.mov (.t 11)))⟩])
           (.seq (.reg [⟨(some 12), none, (.op (.mov (.t 5)))⟩,
              ⟨(some 13), none, (.op (.mov (.t 3)))⟩,
              ⟨(some 14), none, (.op (.bin .neq (.t 12) (.t 13)))⟩])
            (.cond (.t 14) (.seq (.reg [⟨(some 15), none, (.op (.mov (.t 5)))⟩,
                ⟨(some 2), none, (.op (.mov (.t 15)))⟩])
              (.ret))
             (.skip)))))
         (.reg [⟨(some 16), none, (.op (.bin .add (.t 8) (.k (.int .i64 1))))⟩,
           ⟨(some 8), none, (.op (.mov (.t 16)))⟩])))))))
   (.seq (.reg [⟨(some 17), none, (.op (.mov (.t 3)))⟩,
      ⟨(some 2), none, (.op (.mov (.t 17)))⟩])
    (.ret))))
def r82 : List XRes := [.t 2]
theorem res82 : resolveF Tryz.prog 82 = some (x82, r82, 18) := by kernel_rfl
end Go.Tidy

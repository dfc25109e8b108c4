/- Part 10 of a proof: an abstract memory for the translated code, and what the functions that the law reaches do over it. -/
import Derived.Test.YtbhdjfhhgnoiiaaGreatDoorRows
import Derived.Test.YtbhdjfhhgnoiiaaGreatDoorProg
import Derived.Test.YtbhdjfhhgnoiiaaGreatDoorS9
set_option linter.unusedSimpArgs false
set_option linter.unusedVariables false
namespace Go.Tidy
open Go Go.Eng Go.Proofs Go.Proofs.YtbhdjfhhgnoiiaaGreatDoor
set_option maxRecDepth 100000
section
variable {H:Type}
def dIns:DataW H → Ins
 | .agg [a,b,c,d,e]=>⟨dInt a,dInt b,dInt c,dInt d,dInt e⟩
 | _=>⟨0,0,0,0,0⟩
def dFn:DataW H → Fn
 | .agg [a,b,c,d]=>⟨dStr a,dInt b,dInt c,dInt d⟩
 | _=>⟨.empty,0,0,0⟩
def dTab:DataW H → Tab
 | .agg [a,b,c,d,e]=>⟨dStr a,dInt b,dInt c,dInt d,dInt e⟩
 | _=>⟨.empty,0,0,0,0⟩
def dImg:DataW H → Img
 | .agg [a,b,c,d]=>⟨(dList a).map dIns,(dList b).map dFn,(dList c).map dTab,dInt d⟩
 | _=>⟨[],[],[],0⟩
theorem list4 {α:Type} {l:List α} (h:l.length = 4):∃ a b c d,l = [a,b,c,d]:=by
 match l,h with
 | [a,b,c,d],_=>exact ⟨a,b,c,d,rfl⟩
theorem list5 {α:Type} {l:List α} (h:l.length = 5):∃ a b c d e,l = [a,b,c,d,e]:=by
 match l,h with
 | [a,b,c,d,e],_=>exact ⟨a,b,c,d,e,rfl⟩
theorem fits_ins {n:Nat} {d:DataW H} (h:fitsD Tryz.prog (n + 2) 71 d):avs Tryz.prog (n + 2) 71 d = (dIns d).row:=by
 obtain ⟨ds,rfl,h1,h2,h3⟩:=fits_struct Tryz.underlying71 h
 obtain ⟨a,b,c,d,e,rfl⟩:=list5 h1
 rw [h3]
 have q0:=(fits_int Tryz.underlying3 (h2 0 _ a rfl rfl)).2.2
 have q1:=(fits_int Tryz.underlying3 (h2 1 _ b rfl rfl)).2.2
 have q2:=(fits_int Tryz.underlying3 (h2 2 _ c rfl rfl)).2.2
 have q3:=(fits_int Tryz.underlying3 (h2 3 _ d rfl rfl)).2.2
 have q4:=(fits_int Tryz.underlying3 (h2 4 _ e rfl rfl)).2.2
 simp only [List.zip_cons_cons,List.zip_nil_right,List.flatMap_cons,List.flatMap_nil,q0,q1,q2,q3,q4]
 rfl
theorem fits_fn {n:Nat} {d:DataW H} (h:fitsD Tryz.prog (n + 2) 117 d):avs Tryz.prog (n + 2) 117 d = (dFn d).row ∧ (dFn d).name.size ≤ maxLen:=by
 obtain ⟨ds,rfl,h1,h2,h3⟩:=fits_struct Tryz.underlying117 h
 obtain ⟨a,b,c,d,rfl⟩:=list4 h1
 rw [h3]
 obtain ⟨bs,_,hb,he,q0⟩:=fits_str Tryz.underlying9 (h2 0 _ a rfl rfl)
 have q1:=(fits_int Tryz.underlying3 (h2 1 _ b rfl rfl)).2.2
 have q2:=(fits_int Tryz.underlying3 (h2 2 _ c rfl rfl)).2.2
 have q3:=(fits_int Tryz.underlying3 (h2 3 _ d rfl rfl)).2.2
 refine ⟨?_,?_⟩
 ·simp only [List.zip_cons_cons,List.zip_nil_right,List.flatMap_cons,List.flatMap_nil,q0,q1,q2,q3]
  rfl
 ·show (dStr a).size ≤ maxLen
  rw [he]
  simpa [ByteArray.size] using hb
theorem fits_tab {n:Nat} {d:DataW H} (h:fitsD Tryz.prog (n + 2) 84 d):avs Tryz.prog (n + 2) 84 d = (dTab d).row:=by
 obtain ⟨ds,rfl,h1,h2,h3⟩:=fits_struct Tryz.underlying84 h
 obtain ⟨a,b,c,d,e,rfl⟩:=list5 h1
 rw [h3]
 obtain ⟨bs,_,hb,he,q0⟩:=fits_str Tryz.underlying9 (h2 0 _ a rfl rfl)
 have q1:=(fits_int Tryz.underlying3 (h2 1 _ b rfl rfl)).2.2
 have q2:=(fits_int Tryz.underlying3 (h2 2 _ c rfl rfl)).2.2
 have q3:=(fits_int Tryz.underlying3 (h2 3 _ d rfl rfl)).2.2
 have q4:=(fits_int Tryz.underlying3 (h2 4 _ e rfl rfl)).2.2
 simp only [List.zip_cons_cons,List.zip_nil_right,List.flatMap_cons,List.flatMap_nil,q0,q1,q2,q3,q4]
 rfl
theorem one_le (d:DataW H):1 ≤ Rows.uptoBulk d:=by
 cases d with
 | lit l=>cases l <;> simp [Rows.uptoBulk]
 | nil=>simp [Rows.uptoBulk]
 | ptr d=>simp [Rows.uptoBulk]
 | slice elems spare=>simp [Rows.uptoBulk]
 | agg parts=>simp [Rows.uptoBulk]
 | iface t d=>simp [Rows.uptoBulk]
 | map entries=>simp [Rows.uptoBulk]
 | held h=>simp [Rows.uptoBulk]
theorem len_bulk (l:List (DataW H)):l.length ≤ Rows.uptoBulkAll l:=by
 induction l with
 | nil=>simp [Rows.uptoBulkAll]
 | cons x r ih=>have:=one_le x;simp only [Rows.uptoBulkAll,List.length_cons];omega
theorem mem_bulk {d:DataW H} {l:List (DataW H)} (h:d ∈ l):Rows.uptoBulk d ≤ Rows.uptoBulkAll l:=by
 induction l with
 | nil=>cases h
 | cons x r ih=>
   simp only [Rows.uptoBulkAll]
   cases List.mem_cons.1 h with
   | inl e=>subst e;omega
   | inr e=>have:=ih e;omega
theorem list_bulk (d:DataW H):(dList d).length ≤ Rows.uptoBulk d ∧ ∀ x ∈ dList d,Rows.uptoBulk x ≤ Rows.uptoBulk d:=by
 cases d with
 | slice elems spare=>
   have:=len_bulk elems
   simp only [dList,Rows.uptoBulk]
   exact ⟨by omega,fun x hx=>by have:=mem_bulk hx;omega⟩
 | _=>exact ⟨Nat.zero_le _,fun x hx=>by cases hx⟩
theorem str_bulk (d:DataW H):(dStr d).size ≤ Rows.uptoBulk d:=by
 unfold dStr
 split
 ·simp [Rows.uptoBulk,ByteArray.size]
 ·exact Nat.zero_le _
theorem fn_bulk (d:DataW H):(dFn d).name.size ≤ Rows.uptoBulk d:=by
 unfold dFn
 split
 ·rename_i a b c d
  have:=str_bulk a
  simp only [Rows.uptoBulk,Rows.uptoBulkAll]
  omega
 ·exact Nat.zero_le _
theorem tab_bulk (d:DataW H):(dTab d).name.size ≤ Rows.uptoBulk d:=by
 unfold dTab
 split
 ·rename_i a b c d e
  have:=str_bulk a
  simp only [Rows.uptoBulk,Rows.uptoBulkAll]
  omega
 ·exact Nat.zero_le _
theorem fits_img {d:DataW H} (h:fitsD Tryz.prog 4 58 d) (hk:Rows.uptoBulk d ≤ 1048576) :
 ∃ tv fv bv,avs Tryz.prog 4 58 d = [tv,fv,bv,VI (dImg d).entry] ∧ Rows Ins.row 5 [] tv (dImg d).text ∧ Rows Fn.row 4 [] fv (dImg d).funcs ∧ Rows Tab.row 5 [] bv (dImg d).tables ∧
   (dImg d).text.length ≤ 1048576 ∧ (dImg d).funcs.length ≤ 1048576 ∧ (dImg d).tables.length ≤ 1048576 ∧ (∀ f ∈ (dImg d).funcs,f.name.size ≤ 1048576) ∧ (∀ t ∈ (dImg d).tables,t.name.size ≤ 1048576) ∧ ∃ f,bv = .ro 5 (dImg d).tables.length f:=by
 obtain ⟨ds,rfl,h1,h2,h3⟩:=fits_struct Tryz.underlying58 h
 obtain ⟨a,b,c,d,rfl⟩:=list4 h1
 rw [h3]
 have c5:Tryz.prog.cellsOf 71 = 5:=by kernel_rfl
 have c4:Tryz.prog.cellsOf 117 = 4:=by kernel_rfl
 have c5':Tryz.prog.cellsOf 84 = 5:=by kernel_rfl
 obtain ⟨a1,_,fa,a2,a3⟩:=fits_slice Tryz.underlying22 (h2 0 _ a rfl rfl)
 obtain ⟨b1,_,fb,b2,b3⟩:=fits_slice Tryz.underlying56 (h2 1 _ b rfl rfl)
 obtain ⟨d1,_,fc,d2,d3⟩:=fits_slice Tryz.underlying24 (h2 2 _ c rfl rfl)
 have q3:=(fits_int Tryz.underlying3 (h2 3 _ d rfl rfl)).2.2
 rw [c5] at a2
 rw [c4] at b2
 rw [c5'] at d2
 simp only [Rows.uptoBulk,Rows.uptoBulkAll] at hk
 have ka:=list_bulk a
 have kb:=list_bulk b
 have kc:=list_bulk c
 refine ⟨.ro 5 ((dList a).map dIns).length fa,.ro 4 ((dList b).map dFn).length fb,.ro 5 ((dList c).map dTab).length fc,?_,?_,?_,?_,?_,?_,?_,?_,?_,fc,rfl⟩
 ·simp only [List.zip_cons_cons,List.zip_nil_right,List.flatMap_cons,List.flatMap_nil,a2,b2,d2,q3,List.length_map]
  rfl
 ·refine Rows.ro (xs:=(dList a).map dIns) fun i x hx=>?_
  rw [List.getElem?_map,Option.map_eq_some_iff] at hx
  obtain ⟨y,hy,rfl⟩:=hx
  rw [a3 i y hy]
  exact fits_ins (a1 y (List.mem_of_getElem? hy))
 ·refine Rows.ro (xs:=(dList b).map dFn) fun i x hx=>?_
  rw [List.getElem?_map,Option.map_eq_some_iff] at hx
  obtain ⟨y,hy,rfl⟩:=hx
  rw [b3 i y hy]
  exact (fits_fn (b1 y (List.mem_of_getElem? hy))).1
 ·refine Rows.ro (xs:=(dList c).map dTab) fun i x hx=>?_
  rw [List.getElem?_map,Option.map_eq_some_iff] at hx
  obtain ⟨y,hy,rfl⟩:=hx
  rw [d3 i y hy]
  exact fits_tab (d1 y (List.mem_of_getElem? hy))
 ·show ((dList a).map dIns).length ≤ _
  rw [List.length_map]
  omega
 ·show ((dList b).map dFn).length ≤ _
  rw [List.length_map]
  omega
 ·show ((dList c).map dTab).length ≤ _
  rw [List.length_map]
  omega
 ·intro f hf
  obtain ⟨y,hy,rfl⟩:=List.mem_map.1 (show f ∈ (dList b).map dFn from hf)
  have:=fn_bulk y
  have:=kb.2 y hy
  omega
 ·intro f hf
  obtain ⟨y,hy,rfl⟩:=List.mem_map.1 (show f ∈ (dList c).map dTab from hf)
  have:=tab_bulk y
  have:=kc.2 y hy
  omega
end
end Go.Tidy
namespace Go.Tidy
open Go Go.Eng Go.Proofs
set_option maxRecDepth 100000
def x5:XCode:=.seq (.reg [oO 1 0,oB 2])
 (.seq (.seq (.reg [⟨some 12,none,(.call (.f 20) [])⟩,⟨some 13,none,(.op (.un .not (.t 12)))⟩])
 (.cond (.t 13) (.seq (.reg [oB 2])
 (.ret))
 (.skip)))
 (.seq (.reg [oA 15 4 1,⟨some 16,none,(.call (.f 21) [(.t 15)])⟩,oM 14 16,oT 17 0 14,oT 18 1 14,oT 19 2 14,oM 3 17,oM 4 18,oM 5 19])
 (.seq (.reg [oA 20 4 1,⟨some 21,none,(.call (.f 22) [(.t 20)])⟩,⟨some 6,none,(.op (.alloc [(.slice none 0 0),(.slice none 0 0),(.slice none 0 0),(.int .i64 0)]))⟩,⟨none,none,(.op (.st 4 (.t 6) (.t 21)))⟩])
 (.seq (.reg [oA 23 4 6,⟨some 24,none,(.call (.f 23) [(.t 23)])⟩,oM 22 24,oT 25 0 22,oT 26 1 22,⟨some 7,none,(.op (.alloc [(.slice none 0 0),(.slice none 0 0),(.slice none 0 0),(.int .i64 0)]))⟩,⟨none,none,(.op (.st 4 (.t 7) (.t 25)))⟩,oM 8 26])
 (.seq (.seq (.reg [oA 27 4 6,oA 28 4 1,⟨some 29,none,(.call (.f 24) [(.t 27),(.t 28)])⟩,⟨some 30,none,(.op (.un .not (.t 29)))⟩])
 (.cond (.t 30) (.seq (.reg [oB 2])
 (.ret))
 (.skip)))
 (.seq (.seq (.reg [oM 31 8,⟨some 32,none,(.call (.f 16) [(.t 31)])⟩,oM 33 5,⟨some 34,none,(.op (.bin .neq (.t 32) (.t 33)))⟩])
 (.cond (.t 34) (.seq (.reg [oB 2])
 (.ret))
 (.skip)))
 (.seq (.seq (.reg [oM 35 5,⟨some 36,none,(.op (.bin .neq (.t 35) (.k (.int .i64 0))))⟩])
 (.cond (.t 36) (.seq (.reg [oA 37 4 7,⟨some 38,none,(.op (.build [(.slice none 0 0),(.slice none 0 0),(.slice none 0 0),(.int .i64 0)] []))⟩,⟨some 39,none,(.call (.f 25) [(.t 37),(.t 38)])⟩,oM 2 39])
 (.ret))
 (.skip)))
 (.seq (.reg [oA 41 4 7,⟨some 42,none,(.call (.f 21) [(.t 41)])⟩,oM 40 42,oT 43 0 40,oT 44 1 40,oT 45 2 40,oM 9 43,oM 10 44,oM 11 45])
 (.seq (.reg [oM 46 11,oE 47 46 0,oM 48 47,⟨some 49,(some (48,true)),(.op (.lda 4 (.t 1)))⟩,⟨some 50,(some (48,true)),(.op (.lda 4 (.t 7)))⟩,⟨some 51,(some (48,true)),(.call (.f 26) [(.t 49),(.t 50)])⟩,oP 52 48 51,oM 53 52,⟨some 54,(some (53,true)),(.op (.lda 4 (.t 1)))⟩,⟨some 55,(some (53,true)),(.op (.lda 4 (.t 6)))⟩,⟨some 56,(some (53,true)),(.op (.lda 4 (.t 7)))⟩,⟨some 57,(some (53,true)),(.call (.f 27) [(.t 54),(.t 55),(.t 56)])⟩,oP 58 53 57,oM 2 58])
 (.ret))))))))))
def r5:List XRes:=[.t 2]
theorem res5:resolveF Tryz.prog 5 = some (x5,r5,59):=by kernel_rfl
def x22:XCode:=.seq (.reg [oO 1 0,⟨some 2,none,(.op (.alloc [(.slice none 0 0),(.slice none 0 0),(.slice none 0 0),(.int .i64 0)]))⟩])
 (.seq (.reg [oA 7 4 1,⟨some 8,none,(.call (.f 28) [(.t 7)])⟩,⟨some 3,none,(.op (.alloc [(.slice none 0 0),(.slice none 0 0),(.slice none 0 0),(.int .i64 0)]))⟩,⟨none,none,(.op (.st 4 (.t 3) (.t 8)))⟩])
 (.seq (.seq (.reg [oI 4 0])
 (.block 0 (.loop (.seq (.seq (.reg [oM 9 4,oF 10 0 1,oL 11 10,oN 12 11,oD 13 12 70,oS 14 9 13])
 (.cond (.t 14) (.skip)
 (.exit 0)))
 (.seq (.block 1 (.reg [oF 17 0 3,oL 18 17,oM 19 4,⟨some 20,none,(.op (.bin .sub (.k (.int .i64 (-7))) (.t 19)))⟩,⟨some 21,none,(.op (.build [(.int .i64 0),(.int .i64 0),(.int .i64 0),(.int .i64 0),(.int .i64 0)] [(0,1,(.t 20))]))⟩,⟨some 22,none,(.op (.bsl 5 1 [(.int .i64 0),(.int .i64 0),(.int .i64 0),(.int .i64 0),(.int .i64 0)] [(0,5,(.t 21))]))⟩,⟨some 23,none,(.op (.app 5 40 (.t 18) (.t 22)))⟩,oF 24 0 3,⟨none,none,(.op (.st 1 (.t 24) (.t 23)))⟩]))
 (.reg [oM 15 4,oD 16 15 1,oM 4 16]))))))
 (.seq (.seq (.reg [oI 5 0])
 (.block 2 (.loop (.seq (.seq (.reg [oM 25 5,oF 26 1 1,oL 27 26,oN 28 27,oD 29 28 70,oS 30 25 29])
 (.cond (.t 30) (.skip)
 (.exit 2)))
 (.seq (.block 3 (.reg [oF 33 1 3,oL 34 33,oM 35 5,⟨some 36,none,(.op (.un .neg (.t 35)))⟩,⟨some 37,none,(.op (.build [(.string ⟨#[]⟩),(.int .i64 0),(.int .i64 0),(.int .i64 0)] [(0,1,(.k (.string ⟨#[98,101,104,105,110,100]⟩))),(2,1,(.t 36))]))⟩,⟨some 38,none,(.op (.bsl 4 1 [(.string ⟨#[]⟩),(.int .i64 0),(.int .i64 0),(.int .i64 0)] [(0,4,(.t 37))]))⟩,⟨some 39,none,(.op (.app 4 40 (.t 34) (.t 38)))⟩,oF 40 1 3,⟨none,none,(.op (.st 1 (.t 40) (.t 39)))⟩]))
 (.reg [oM 31 5,oD 32 31 1,oM 5 32]))))))
 (.seq (.seq (.reg [oI 6 0])
 (.block 4 (.loop (.seq (.seq (.reg [oM 41 6,oF 42 2 1,oL 43 42,oN 44 43,oD 45 44 70,oS 46 41 45])
 (.cond (.t 46) (.skip)
 (.exit 4)))
 (.seq (.block 5 (.reg [oF 49 2 3,oL 50 49,oM 51 6,⟨some 52,none,(.op (.un .neg (.t 51)))⟩,⟨some 53,none,(.op (.build [(.string ⟨#[]⟩),(.int .i64 0),(.int .i64 0),(.int .i64 0),(.int .i64 0)] [(0,1,(.k (.string ⟨#[98,101,104,105,110,100]⟩))),(1,1,(.t 52))]))⟩,⟨some 54,none,(.op (.bsl 5 1 [(.string ⟨#[]⟩),(.int .i64 0),(.int .i64 0),(.int .i64 0),(.int .i64 0)] [(0,5,(.t 53))]))⟩,⟨some 55,none,(.op (.app 5 48 (.t 50) (.t 54)))⟩,oF 56 2 3,⟨none,none,(.op (.st 1 (.t 56) (.t 55)))⟩]))
 (.reg [oM 47 6,oD 48 47 1,oM 6 48]))))))
 (.seq (.reg [oF 57 0 3,oL 58 57,oF 59 0 1,oL 60 59,oN 61 60,⟨some 62,none,(.op (.sls 5 (.t 58) none (some (.t 61))))⟩,oF 63 0 3,⟨none,none,(.op (.st 1 (.t 63) (.t 62)))⟩])
 (.seq (.reg [oF 64 1 3,oL 65 64,oF 66 1 1,oL 67 66,oN 68 67,⟨some 69,none,(.op (.sls 4 (.t 65) none (some (.t 68))))⟩,oF 70 1 3,⟨none,none,(.op (.st 1 (.t 70) (.t 69)))⟩])
 (.seq (.reg [oF 71 2 3,oL 72 71,oF 73 2 1,oL 74 73,oN 75 74,⟨some 76,none,(.op (.sls 5 (.t 72) none (some (.t 75))))⟩,oF 77 2 3,⟨none,none,(.op (.st 1 (.t 77) (.t 76)))⟩])
 (.seq (.reg [oA 78 4 3,⟨none,none,(.op (.st 4 (.t 2) (.t 78)))⟩])
 (.ret)))))))))
def r22:List XRes:=[.lda 4 2]
theorem res22:resolveF Tryz.prog 22 = some (x22,r22,79):=by kernel_rfl
def x24:XCode:=.seq (.reg [oO 2 0,oO 3 1,oB 4])
 (.seq (.seq (.reg [oA 11 4 2,oA 12 4 3,⟨some 13,none,(.call (.f 25) [(.t 11),(.t 12)])⟩,⟨some 14,none,(.op (.un .not (.t 13)))⟩])
 (.cond (.t 14) (.seq (.reg [oB 4])
 (.ret))
 (.skip)))
 (.seq (.reg [oF 15 0 2,oL 16 15,oF 17 0 3,oL 18 17,oN 19 18,⟨some 20,none,(.op (.bin .mul (.k (.int .i64 2)) (.t 19)))⟩,oD 21 20 70,⟨some 22,none,(.op (.sls 5 (.t 16) none (some (.t 21))))⟩,oM 5 22])
 (.seq (.seq (.reg [oF 23 0 3,oL 24 23,oN 25 24,oM 6 25])
 (.block 0 (.loop (.seq (.seq (.reg [oM 26 6,oM 27 5,oN 28 27,oS 29 26 28])
 (.cond (.t 29) (.skip)
 (.exit 0)))
 (.seq (.block 1 (.seq (.drw none [oM 32 5,oM 33 6,oX 34 5 32 33,oA 35 5 34,oM 36 6,oF 37 0 3,oL 38 37,oN 39 38,⟨some 40,none,(.op (.bin .sub (.t 36) (.t 39)))⟩,⟨some 41,none,(.op (.bin .sub (.k (.int .i64 (-7))) (.t 40)))⟩,⟨some 42,none,(.op (.build [(.int .i64 0),(.int .i64 0),(.int .i64 0),(.int .i64 0),(.int .i64 0)] [(0,1,(.t 41))]))⟩,⟨some 43,none,(.op (.seq false ⟨true,[1,1,1,1,1]⟩ (.t 35) (.t 42)))⟩])
 (.cond (.t 43) (.seq (.reg [oB 4])
 (.ret))
 (.skip))))
 (.reg [oM 30 6,oD 31 30 1,oM 6 31]))))))
 (.seq (.reg [oF 44 1 2,oL 45 44,oF 46 1 3,oL 47 46,oN 48 47,⟨some 49,none,(.op (.bin .mul (.k (.int .i64 2)) (.t 48)))⟩,oD 50 49 70,⟨some 51,none,(.op (.sls 4 (.t 45) none (some (.t 50))))⟩,oM 7 51])
 (.seq (.seq (.reg [oF 52 1 3,oL 53 52,oN 54 53,oM 8 54])
 (.block 2 (.loop (.seq (.seq (.reg [oM 55 8,oM 56 7,oN 57 56,oS 58 55 57])
 (.cond (.t 58) (.skip)
 (.exit 2)))
 (.seq (.block 3 (.seq (.drw none [oM 61 7,oM 62 8,oX 63 4 61 62,oA 64 4 63,oM 65 8,oF 66 1 3,oL 67 66,oN 68 67,⟨some 69,none,(.op (.bin .sub (.t 65) (.t 68)))⟩,⟨some 70,none,(.op (.un .neg (.t 69)))⟩,⟨some 71,none,(.op (.build [(.string ⟨#[]⟩),(.int .i64 0),(.int .i64 0),(.int .i64 0)] [(0,1,(.k (.string ⟨#[98,101,104,105,110,100]⟩))),(2,1,(.t 70))]))⟩,⟨some 72,none,(.op (.seq false ⟨true,[2,1,1,1]⟩ (.t 64) (.t 71)))⟩])
 (.cond (.t 72) (.seq (.reg [oB 4])
 (.ret))
 (.skip))))
 (.reg [oM 59 8,oD 60 59 1,oM 8 60]))))))
 (.seq (.reg [oF 73 2 2,oL 74 73,oF 75 2 3,oL 76 75,oN 77 76,⟨some 78,none,(.op (.bin .mul (.k (.int .i64 2)) (.t 77)))⟩,oD 79 78 70,⟨some 80,none,(.op (.sls 5 (.t 74) none (some (.t 79))))⟩,oM 9 80])
 (.seq (.seq (.reg [oF 81 2 3,oL 82 81,oN 83 82,oM 10 83])
 (.block 4 (.loop (.seq (.seq (.reg [oM 84 10,oM 85 9,oN 86 85,oS 87 84 86])
 (.cond (.t 87) (.skip)
 (.exit 4)))
 (.seq (.block 5 (.seq (.drw none [oM 90 9,oM 91 10,oX 92 5 90 91,oA 93 5 92,oM 94 10,oF 95 2 3,oL 96 95,oN 97 96,⟨some 98,none,(.op (.bin .sub (.t 94) (.t 97)))⟩,⟨some 99,none,(.op (.un .neg (.t 98)))⟩,⟨some 100,none,(.op (.build [(.string ⟨#[]⟩),(.int .i64 0),(.int .i64 0),(.int .i64 0),(.int .i64 0)] [(0,1,(.k (.string ⟨#[98,101,104,105,110,100]⟩))),(1,1,(.t 99))]))⟩,⟨some 101,none,(.op (.seq false ⟨true,[2,1,1,1,1]⟩ (.t 93) (.t 100)))⟩])
 (.cond (.t 101) (.seq (.reg [oB 4])
 (.ret))
 (.skip))))
 (.reg [oM 88 10,oD 89 88 1,oM 10 89]))))))
 (.seq (.reg [⟨some 4,none,(.op (.mov (.k (.bool true))))⟩])
 (.ret)))))))))
def r24:List XRes:=[.t 4]
theorem res24:resolveF Tryz.prog 24 = some (x24,r24,102):=by kernel_rfl
def x25:XCode:=.seq (.reg [oO 2 0,oO 3 1,oB 4])
 (.seq (.reg [oF 5 0 2,oL 6 5,oF 7 0 3,oL 8 7,⟨some 9,none,(.call (.f 60) [(.t 6),(.t 8)])⟩,oM 10 9,xqF 11 10 true 1 2,xqL 12 10 true 11,xqF 13 10 true 1 3,xqL 14 10 true 13,⟨some 15,(some (10,true)),(.call (.f 71) [(.t 12),(.t 14)])⟩,oP 16 10 15,oM 17 16,xqF 18 17 true 2 2,xqL 19 17 true 18,xqF 20 17 true 2 3,xqL 21 17 true 20,⟨some 22,(some (17,true)),(.call (.f 51) [(.t 19),(.t 21)])⟩,oP 23 17 22,oM 24 23,xqF 25 24 true 3 2,xqL 26 24 true 25,xqF 27 24 true 3 3,xqL 28 24 true 27,⟨some 29,(some (24,true)),(.op (.bin .eql (.t 26) (.t 28)))⟩,oP 30 24 29,oM 4 30])
 (.ret))
def r25:List XRes:=[.t 4]
theorem res25:resolveF Tryz.prog 25 = some (x25,r25,31):=by kernel_rfl
def x27:XCode:=.seq (.reg [oO 3 0,oO 4 1,oO 5 2,oB 6])
 (.seq (.reg [oA 21 4 5,⟨some 22,none,(.call (.f 28) [(.t 21)])⟩,⟨some 7,none,(.op (.alloc [(.slice none 0 0),(.slice none 0 0),(.slice none 0 0),(.int .i64 0)]))⟩,⟨none,none,(.op (.st 4 (.t 7) (.t 22)))⟩])
 (.seq (.reg [oA 24 4 4,⟨some 25,none,(.call (.f 23) [(.t 24)])⟩,oM 23 25,oT 26 0 23,oT 27 1 23,⟨some 8,none,(.op (.alloc [(.slice none 0 0),(.slice none 0 0),(.slice none 0 0),(.int .i64 0)]))⟩,⟨none,none,(.op (.st 4 (.t 8) (.t 26)))⟩,oM 9 27])
 (.seq (.seq (.reg [oM 28 9,⟨some 29,none,(.call (.f 16) [(.t 28)])⟩,⟨some 30,none,(.op (.bin .neq (.t 29) (.k (.int .i64 0))))⟩,oM 31 30,⟨some 32,(some (31,false)),(.op (.lda 4 (.t 8)))⟩,⟨some 33,(some (31,false)),(.op (.lda 4 (.t 7)))⟩,⟨some 34,(some (31,false)),(.call (.f 25) [(.t 32),(.t 33)])⟩,⟨some 35,(some (31,false)),(.op (.un .not (.t 34)))⟩,oQ 36 31 35])
 (.cond (.t 36) (.seq (.reg [oB 6])
 (.ret))
 (.skip)))
 (.seq (.seq (.reg [oI 10 0])
 (.block 0 (.loop (.seq (.seq (.reg [oM 37 10,oF 38 0 4,oL 39 38,oN 40 39,oS 41 37 40])
 (.cond (.t 41) (.skip)
 (.exit 0)))
 (.seq (.block 1 (.reg [oF 44 0 4,oL 45 44,oM 46 10,⟨some 47,none,(.op (.build [(.int .i64 0),(.int .i64 0),(.int .i64 0),(.int .i64 0),(.int .i64 0)] [(0,1,(.k (.int .i64 400)))]))⟩,oX 48 5 45 46,⟨none,none,(.op (.st 5 (.t 48) (.t 47)))⟩]))
 (.reg [oM 42 10,oD 43 42 1,oM 10 43]))))))
 (.seq (.seq (.reg [oI 11 0])
 (.block 2 (.loop (.seq (.seq (.reg [oM 49 11,oF 50 1 4,oL 51 50,oN 52 51,oS 53 49 52])
 (.cond (.t 53) (.skip)
 (.exit 2)))
 (.seq (.block 3 (.reg [oF 56 1 4,oL 57 56,oM 58 11,oX 59 4 57 58,oF 60 0 59,⟨none,none,(.op (.st 1 (.t 60) (.k (.string ⟨#[109,105,110,101]⟩))))⟩]))
 (.reg [oM 54 11,oD 55 54 1,oM 11 55]))))))
 (.seq (.seq (.reg [oI 12 0])
 (.block 4 (.loop (.seq (.seq (.reg [oM 61 12,oF 62 2 4,oL 63 62,oN 64 63,oS 65 61 64])
 (.cond (.t 65) (.skip)
 (.exit 4)))
 (.seq (.block 5 (.reg [oF 68 2 4,oL 69 68,oM 70 12,oX 71 5 69 70,oF 72 0 71,⟨none,none,(.op (.st 1 (.t 72) (.k (.string ⟨#[109,105,110,101]⟩))))⟩]))
 (.reg [oM 66 12,oD 67 66 1,oM 12 67]))))))
 (.seq (.seq (.reg [oA 73 4 5,oA 74 4 7,⟨some 75,none,(.call (.f 25) [(.t 73),(.t 74)])⟩,⟨some 76,none,(.op (.un .not (.t 75)))⟩,oM 77 76,⟨some 78,(some (77,false)),(.op (.lda 4 (.t 8)))⟩,⟨some 79,(some (77,false)),(.op (.lda 4 (.t 7)))⟩,⟨some 80,(some (77,false)),(.call (.f 25) [(.t 78),(.t 79)])⟩,⟨some 81,(some (77,false)),(.op (.un .not (.t 80)))⟩,oQ 82 77 81])
 (.cond (.t 82) (.seq (.reg [oB 6])
 (.ret))
 (.skip)))
 (.seq (.seq (.reg [oI 13 0])
 (.block 6 (.loop (.seq (.seq (.reg [oM 83 13,oF 84 0 5,oL 85 84,oN 86 85,oS 87 83 86])
 (.cond (.t 87) (.skip)
 (.exit 6)))
 (.seq (.block 7 (.reg [oF 90 0 5,oL 91 90,oM 92 13,⟨some 93,none,(.op (.build [(.int .i64 0),(.int .i64 0),(.int .i64 0),(.int .i64 0),(.int .i64 0)] [(0,1,(.k (.int .i64 401)))]))⟩,oX 94 5 91 92,⟨none,none,(.op (.st 5 (.t 94) (.t 93)))⟩]))
 (.reg [oM 88 13,oD 89 88 1,oM 13 89]))))))
 (.seq (.seq (.reg [oI 14 0])
 (.block 8 (.loop (.seq (.seq (.reg [oM 95 14,oF 96 1 5,oL 97 96,oN 98 97,oS 99 95 98])
 (.cond (.t 99) (.skip)
 (.exit 8)))
 (.seq (.block 9 (.reg [oF 102 1 5,oL 103 102,oM 104 14,⟨some 105,none,(.op (.build [(.string ⟨#[]⟩),(.int .i64 0),(.int .i64 0),(.int .i64 0)] [(0,1,(.k (.string ⟨#[121,111,117,114,115]⟩)))]))⟩,oX 106 4 103 104,⟨none,none,(.op (.st 4 (.t 106) (.t 105)))⟩]))
 (.reg [oM 100 14,oD 101 100 1,oM 14 101]))))))
 (.seq (.seq (.reg [oI 15 0])
 (.block 10 (.loop (.seq (.seq (.reg [oM 107 15,oF 108 2 5,oL 109 108,oN 110 109,oS 111 107 110])
 (.cond (.t 111) (.skip)
 (.exit 10)))
 (.seq (.block 11 (.reg [oF 114 2 5,oL 115 114,oM 116 15,⟨some 117,none,(.op (.build [(.string ⟨#[]⟩),(.int .i64 0),(.int .i64 0),(.int .i64 0),(.int .i64 0)] [(0,1,(.k (.string ⟨#[121,111,117,114,115]⟩)))]))⟩,oX 118 5 115 116,⟨none,none,(.op (.st 5 (.t 118) (.t 117)))⟩]))
 (.reg [oM 112 15,oD 113 112 1,oM 15 113]))))))
 (.seq (.reg [oA 120 4 3,⟨some 121,none,(.call (.f 23) [(.t 120)])⟩,oM 119 121,oT 122 0 119,oT 123 1 119,⟨some 16,none,(.op (.alloc [(.slice none 0 0),(.slice none 0 0),(.slice none 0 0),(.int .i64 0)]))⟩,⟨none,none,(.op (.st 4 (.t 16) (.t 122)))⟩,oM 17 123])
 (.seq (.seq (.reg [oA 124 4 8,oA 125 4 7,⟨some 126,none,(.call (.f 25) [(.t 124),(.t 125)])⟩,⟨some 127,none,(.op (.un .not (.t 126)))⟩,oM 128 127,xqM 129 128 false 17,⟨some 130,(some (128,false)),(.call (.f 16) [(.t 129)])⟩,⟨some 131,(some (128,false)),(.op (.bin .neq (.t 130) (.k (.int .i64 0))))⟩,oQ 132 128 131,oM 133 132,⟨some 134,(some (133,false)),(.op (.lda 4 (.t 16)))⟩,⟨some 135,(some (133,false)),(.op (.lda 4 (.t 7)))⟩,⟨some 136,(some (133,false)),(.call (.f 25) [(.t 134),(.t 135)])⟩,⟨some 137,(some (133,false)),(.op (.un .not (.t 136)))⟩,oQ 138 133 137])
 (.cond (.t 138) (.seq (.reg [oB 6])
 (.ret))
 (.skip)))
 (.seq (.seq (.reg [oF 139 0 7,oL 140 139,oN 141 140,⟨some 142,none,(.op (.bin .gtr (.t 141) (.k (.int .i64 4000))))⟩])
 (.cond (.t 142) (.seq (.reg [⟨some 6,none,(.op (.mov (.k (.bool true))))⟩])
 (.ret))
 (.skip)))
 (.seq (.reg [⟨some 143,none,(.op (.build [(.int .i64 0),(.int .i64 0),(.bool false),(.slice none 0 0),(.slice none 0 0),(.slice none 0 0),(.slice none 0 0)] []))⟩,oO 144 143,oM 18 144])
 (.seq (.reg [oM 145 18,oA 146 4 5,⟨some 147,none,(.call (.f 73) [(.t 145),(.t 146)])⟩])
 (.seq (.reg [oM 148 18,oA 149 4 8,⟨some 150,none,(.call (.f 73) [(.t 148),(.t 149)])⟩])
 (.seq (.reg [oM 151 18,oA 152 4 16,⟨some 153,none,(.call (.f 73) [(.t 151),(.t 152)])⟩])
 (.seq (.reg [oA 155 4 3,⟨some 156,none,(.call (.f 23) [(.t 155)])⟩,oM 154 156,oT 157 0 154,oT 158 1 154,⟨some 19,none,(.op (.alloc [(.slice none 0 0),(.slice none 0 0),(.slice none 0 0),(.int .i64 0)]))⟩,⟨none,none,(.op (.st 4 (.t 19) (.t 157)))⟩,oM 20 158])
 (.seq (.seq (.reg [oM 159 20,⟨some 160,none,(.call (.f 16) [(.t 159)])⟩,⟨some 161,none,(.op (.bin .neq (.t 160) (.k (.int .i64 0))))⟩,oM 162 161,⟨some 163,(some (162,false)),(.op (.lda 4 (.t 19)))⟩,⟨some 164,(some (162,false)),(.op (.lda 4 (.t 7)))⟩,⟨some 165,(some (162,false)),(.call (.f 25) [(.t 163),(.t 164)])⟩,⟨some 166,(some (162,false)),(.op (.un .not (.t 165)))⟩,oQ 167 162 166])
 (.cond (.t 167) (.seq (.reg [oB 6])
 (.ret))
 (.skip)))
 (.seq (.reg [oM 168 18,oA 169 4 19,⟨some 170,none,(.call (.f 73) [(.t 168),(.t 169)])⟩])
 (.seq (.reg [oM 171 18,⟨some 172,none,(.call (.f 74) [(.t 171)])⟩,oM 6 172])
 (.ret))))))))))))))))))))))
def r27:List XRes:=[.t 6]
theorem res27:resolveF Tryz.prog 27 = some (x27,r27,173):=by kernel_rfl
def x60:XCode:=.seq (.reg [oB 4])
 (.seq (.seq (.reg [oM 6 0,oN 7 6,oM 8 1,oN 9 8,⟨some 10,none,(.op (.bin .neq (.t 7) (.t 9)))⟩])
 (.cond (.t 10) (.seq (.reg [oB 4])
 (.ret))
 (.skip)))
 (.seq (.seq (.reg [oI 5 0])
 (.block 0 (.loop (.seq (.seq (.reg [oM 11 5,oM 12 0,oN 13 12,oS 14 11 13])
 (.cond (.t 14) (.skip)
 (.exit 0)))
 (.seq (.block 1 (.seq (.drw none [oM 17 0,oM 18 5,oX 19 5 17 18,oA 20 5 19,oM 21 1,oM 22 5,oX 23 5 21 22,oA 24 5 23,⟨some 25,none,(.op (.seq false ⟨true,[1,1,1,1,1]⟩ (.t 20) (.t 24)))⟩])
 (.cond (.t 25) (.seq (.reg [oB 4])
 (.ret))
 (.skip))))
 (.reg [oM 15 5,oD 16 15 1,oM 5 16]))))))
 (.seq (.reg [⟨some 4,none,(.op (.mov (.k (.bool true))))⟩])
 (.ret))))
def r60:List XRes:=[.t 4]
theorem res60:resolveF Tryz.prog 60 = some (x60,r60,26):=by kernel_rfl
def x71:XCode:=.seq (.reg [oB 4])
 (.seq (.seq (.reg [oM 6 0,oN 7 6,oM 8 1,oN 9 8,⟨some 10,none,(.op (.bin .neq (.t 7) (.t 9)))⟩])
 (.cond (.t 10) (.seq (.reg [oB 4])
 (.ret))
 (.skip)))
 (.seq (.seq (.reg [oI 5 0])
 (.block 0 (.loop (.seq (.seq (.reg [oM 11 5,oM 12 0,oN 13 12,oS 14 11 13])
 (.cond (.t 14) (.skip)
 (.exit 0)))
 (.seq (.block 1 (.seq (.drw none [oM 17 0,oM 18 5,oX 19 4 17 18,oA 20 4 19,oM 21 1,oM 22 5,oX 23 4 21 22,oA 24 4 23,⟨some 25,none,(.op (.seq false ⟨true,[2,1,1,1]⟩ (.t 20) (.t 24)))⟩])
 (.cond (.t 25) (.seq (.reg [oB 4])
 (.ret))
 (.skip))))
 (.reg [oM 15 5,oD 16 15 1,oM 5 16]))))))
 (.seq (.reg [⟨some 4,none,(.op (.mov (.k (.bool true))))⟩])
 (.ret))))
def r71:List XRes:=[.t 4]
theorem res71:resolveF Tryz.prog 71 = some (x71,r71,26):=by kernel_rfl
def x73:XCode:=.seq (.reg [oO 3 1])
 (.seq (.reg [oM 4 0,⟨some 5,none,(.op (.nck (.t 4)))⟩,oF 6 0 5,oL 7 6,oD 8 7 1,⟨some 9,none,(.op (.nck (.t 4)))⟩,oF 10 0 9,⟨none,none,(.op (.st 1 (.t 10) (.t 8)))⟩])
 (.seq (.drw none [oM 11 0,oM 12 0,⟨some 13,none,(.op (.nck (.t 12)))⟩,oF 14 1 13,oL 15 14,oF 16 0 3,oL 17 16,oN 18 17,⟨some 19,none,(.op (.bin .add (.t 15) (.t 18)))⟩,oF 20 1 3,oL 21 20,oN 22 21,⟨some 23,none,(.op (.bin .add (.t 19) (.t 22)))⟩,oF 24 2 3,oL 25 24,oN 26 25,⟨some 27,none,(.op (.bin .add (.t 23) (.t 26)))⟩,⟨some 28,none,(.op (.nck (.t 11)))⟩,oF 29 1 28,⟨none,none,(.op (.st 1 (.t 29) (.t 27)))⟩])
 (.seq (.drw none [oM 30 0,oM 31 0,⟨some 32,none,(.op (.nck (.t 31)))⟩,oF 33 3 32,oL 34 33,oA 35 4 3,⟨some 36,none,(.op (.bsl 4 1 [(.slice none 0 0),(.slice none 0 0),(.slice none 0 0),(.int .i64 0)] [(0,4,(.t 35))]))⟩,⟨some 37,none,(.op (.app 4 80 (.t 34) (.t 36)))⟩,⟨some 38,none,(.op (.nck (.t 30)))⟩,oF 39 3 38,⟨none,none,(.op (.st 1 (.t 39) (.t 37)))⟩])
 (.seq (.drw none [oM 40 0,oM 41 0,⟨some 42,none,(.op (.nck (.t 41)))⟩,oF 43 4 42,oL 44 43,oA 45 4 3,⟨some 46,none,(.call (.f 28) [(.t 45)])⟩,⟨some 47,none,(.op (.bsl 4 1 [(.slice none 0 0),(.slice none 0 0),(.slice none 0 0),(.int .i64 0)] [(0,4,(.t 46))]))⟩,⟨some 48,none,(.op (.app 4 80 (.t 44) (.t 47)))⟩,⟨some 49,none,(.op (.nck (.t 40)))⟩,oF 50 4 49,⟨none,none,(.op (.st 1 (.t 50) (.t 48)))⟩])
 (.seq (.reg [oM 51 0,⟨some 52,none,(.op (.nck (.t 51)))⟩,oF 53 3 52,oL 54 53,oN 55 54,⟨some 56,none,(.op (.bin .geq (.t 55) (.k (.int .i64 3))))⟩,oM 57 56,xqM 58 57 false 0,⟨some 59,(some (57,false)),(.op (.nck (.t 58)))⟩,xqF 60 57 false 3 59,xqL 61 57 false 60,⟨some 62,(some (57,false)),(.op (.lenl (.t 61)))⟩,⟨some 63,(some (57,false)),(.op (.bin .eql (.t 62) (.k (.int .i64 1))))⟩,xqM 64 57 false 63,xqM 65 64 true 0,⟨some 66,(some (64,true)),(.op (.nck (.t 65)))⟩,xqF 67 64 true 0 66,xqL 68 64 true 67,⟨some 69,(some (64,true)),(.op (.bin .rem (.t 68) (.k (.int .i64 4))))⟩,⟨some 70,(some (64,true)),(.op (.bin .eql (.t 69) (.k (.int .i64 0))))⟩,⟨some 71,(some (57,false)),(.op (.pick (.t 64) (.t 70) (.k (.bool false))))⟩,oQ 72 57 71])
 (.cond (.t 72) (.reg [oM 73 0,⟨some 74,none,(.call (.f 128) [(.t 73)])⟩])
 (.skip)))))))
def r73:List XRes:=[]
theorem res73:resolveF Tryz.prog 73 = some (x73,r73,75):=by kernel_rfl
def x74:XCode:=.seq (.reg [oB 2])
 (.seq (.reg [oM 3 0,⟨some 4,none,(.op (.nck (.t 3)))⟩,oF 5 2 4,oL 6 5,⟨some 7,none,(.op (.un .not (.t 6)))⟩,oM 8 7,xqM 9 8 true 0,⟨some 10,(some (8,true)),(.call (.f 129) [(.t 9)])⟩,oP 11 8 10,oM 12 11,xqM 13 12 true 0,⟨some 14,(some (12,true)),(.call (.f 130) [(.t 13)])⟩,oP 15 12 14,oM 2 15])
 (.ret))
def r74:List XRes:=[.t 2]
theorem res74:resolveF Tryz.prog 74 = some (x74,r74,16):=by kernel_rfl
def x128:XCode:=.seq (.reg [oM 12 0,oM 13 0,⟨some 14,none,(.op (.nck (.t 13)))⟩,oF 15 2 14,oL 16 15,oM 17 16,xqM 18 17 false 0,⟨some 19,(some (17,false)),(.call (.f 129) [(.t 18)])⟩,⟨some 20,(some (17,false)),(.op (.un .not (.t 19)))⟩,oQ 21 17 20,⟨some 22,none,(.op (.nck (.t 12)))⟩,oF 23 2 22,⟨none,none,(.op (.st 1 (.t 23) (.t 21)))⟩])
 (.seq (.seq (.reg [oI 2 0])
 (.block 0 (.loop (.seq (.seq (.reg [oM 24 2,oM 25 0,⟨some 26,none,(.op (.nck (.t 25)))⟩,oF 27 3 26,oL 28 27,oN 29 28,oS 30 24 29])
 (.cond (.t 30) (.skip)
 (.exit 0)))
 (.seq (.block 1 (.seq (.reg [oM 33 0,⟨some 34,none,(.op (.nck (.t 33)))⟩,oF 35 0 34,oL 36 35,oM 37 2,⟨some 38,none,(.op (.bin .add (.t 36) (.t 37)))⟩,⟨some 39,none,(.op (.bin .mul (.k (.int .i64 1000003)) (.t 38)))⟩,oM 3 39])
 (.seq (.seq (.reg [oI 4 0])
 (.block 2 (.loop (.seq (.seq (.reg [oM 40 4,oM 41 0,⟨some 42,none,(.op (.nck (.t 41)))⟩,oF 43 3 42,oL 44 43,oM 45 2,oX 46 4 44 45,oF 47 0 46,oL 48 47,oN 49 48,oS 50 40 49])
 (.cond (.t 50) (.skip)
 (.exit 2)))
 (.seq (.block 3 (.reg [oM 53 0,⟨some 54,none,(.op (.nck (.t 53)))⟩,oF 55 3 54,oL 56 55,oM 57 2,oX 58 4 56 57,oF 59 0 58,oL 60 59,oM 61 4,oM 62 3,oM 63 4,⟨some 64,none,(.op (.bin .add (.t 62) (.t 63)))⟩,⟨some 65,none,(.op (.build [(.int .i64 0),(.int .i64 0),(.int .i64 0),(.int .i64 0),(.int .i64 0)] [(0,1,(.k (.int .i64 98))),(4,1,(.t 64))]))⟩,oX 66 5 60 61,⟨none,none,(.op (.st 5 (.t 66) (.t 65)))⟩]))
 (.reg [oM 51 4,oD 52 51 1,oM 4 52]))))))
 (.seq (.seq (.reg [oI 5 0])
 (.block 4 (.loop (.seq (.seq (.reg [oM 67 5,oM 68 0,⟨some 69,none,(.op (.nck (.t 68)))⟩,oF 70 3 69,oL 71 70,oM 72 2,oX 73 4 71 72,oF 74 1 73,oL 75 74,oN 76 75,oS 77 67 76])
 (.cond (.t 77) (.skip)
 (.exit 4)))
 (.seq (.block 5 (.reg [oM 80 0,⟨some 81,none,(.op (.nck (.t 80)))⟩,oF 82 3 81,oL 83 82,oM 84 2,oX 85 4 83 84,oF 86 1 85,oL 87 86,oM 88 5,oM 89 3,oM 90 5,⟨some 91,none,(.op (.bin .add (.t 89) (.t 90)))⟩,⟨some 92,none,(.op (.build [(.string ⟨#[]⟩),(.int .i64 0),(.int .i64 0),(.int .i64 0)] [(0,1,(.k (.string ⟨#[109,105,110,101]⟩))),(2,1,(.t 91))]))⟩,oX 93 4 87 88,⟨none,none,(.op (.st 4 (.t 93) (.t 92)))⟩]))
 (.reg [oM 78 5,oD 79 78 1,oM 5 79]))))))
 (.seq (.seq (.reg [oI 6 0])
 (.block 6 (.loop (.seq (.seq (.reg [oM 94 6,oM 95 0,⟨some 96,none,(.op (.nck (.t 95)))⟩,oF 97 3 96,oL 98 97,oM 99 2,oX 100 4 98 99,oF 101 2 100,oL 102 101,oN 103 102,oS 104 94 103])
 (.cond (.t 104) (.skip)
 (.exit 6)))
 (.seq (.block 7 (.reg [oM 107 0,⟨some 108,none,(.op (.nck (.t 107)))⟩,oF 109 3 108,oL 110 109,oM 111 2,oX 112 4 110 111,oF 113 2 112,oL 114 113,oM 115 6,oM 116 3,oM 117 6,⟨some 118,none,(.op (.bin .add (.t 116) (.t 117)))⟩,⟨some 119,none,(.op (.build [(.string ⟨#[]⟩),(.int .i64 0),(.int .i64 0),(.int .i64 0),(.int .i64 0)] [(0,1,(.k (.string ⟨#[109,105,110,101]⟩))),(2,1,(.t 118))]))⟩,oX 120 5 114 115,⟨none,none,(.op (.st 5 (.t 120) (.t 119)))⟩]))
 (.reg [oM 105 6,oD 106 105 1,oM 6 106]))))))
 (.reg [oM 121 0,oM 122 0,⟨some 123,none,(.op (.nck (.t 122)))⟩,oF 124 3 123,oL 125 124,oM 126 2,oX 127 4 125 126,oA 128 4 127,⟨some 129,none,(.call (.f 183) [(.t 121),(.t 128)])⟩]))))))
 (.reg [oM 31 2,oD 32 31 1,oM 2 32]))))))
 (.seq (.seq (.reg [oI 7 0])
 (.block 8 (.loop (.seq (.seq (.reg [oM 130 7,oM 131 0,⟨some 132,none,(.op (.nck (.t 131)))⟩,oF 133 3 132,oL 134 133,oN 135 134,oS 136 130 135])
 (.cond (.t 136) (.skip)
 (.exit 8)))
 (.seq (.block 9 (.seq (.reg [oM 139 0,⟨some 140,none,(.op (.nck (.t 139)))⟩,oF 141 0 140,oL 142 141,oM 143 7,⟨some 144,none,(.op (.bin .add (.t 142) (.t 143)))⟩,⟨some 145,none,(.op (.bin .mul (.k (.int .i64 1000003)) (.t 144)))⟩,oM 8 145])
 (.seq (.reg [oM 146 0,⟨some 147,none,(.op (.nck (.t 146)))⟩,oF 148 3 147,oL 149 148,oM 150 7,oX 151 4 149 150,oA 152 4 151,oM 153 8,⟨some 154,none,(.call (.f 184) [(.t 152),(.t 153),(.k (.int .i64 1))])⟩,⟨some 9,none,(.op (.alloc [(.slice none 0 0),(.slice none 0 0),(.slice none 0 0),(.int .i64 0)]))⟩,⟨none,none,(.op (.st 4 (.t 9) (.t 154)))⟩])
 (.seq (.reg [oM 155 0,oA 156 4 9,⟨some 157,none,(.call (.f 183) [(.t 155),(.t 156)])⟩])
 (.seq (.reg [oM 158 0,⟨some 159,none,(.op (.nck (.t 158)))⟩,oF 160 3 159,oL 161 160,oM 162 7,oX 163 4 161 162,oA 164 4 163,oM 165 8,⟨some 166,none,(.call (.f 184) [(.t 164),(.t 165),(.k (.int .i64 2))])⟩,⟨some 10,none,(.op (.alloc [(.slice none 0 0),(.slice none 0 0),(.slice none 0 0),(.int .i64 0)]))⟩,⟨none,none,(.op (.st 4 (.t 10) (.t 166)))⟩])
 (.seq (.reg [oM 167 0,oA 168 4 10,⟨some 169,none,(.call (.f 183) [(.t 167),(.t 168)])⟩])
 (.seq (.drw none [oM 170 0,⟨some 171,none,(.op (.nck (.t 170)))⟩,oF 172 3 171,oL 173 172,oM 174 7,oX 175 4 173 174,oA 176 4 175,oM 177 8,oM 178 0,⟨some 179,none,(.op (.nck (.t 178)))⟩,oF 180 1 179,oL 181 180,oD 182 181 70,⟨some 183,none,(.call (.f 184) [(.t 176),(.t 177),(.t 182)])⟩,⟨some 11,none,(.op (.alloc [(.slice none 0 0),(.slice none 0 0),(.slice none 0 0),(.int .i64 0)]))⟩,⟨none,none,(.op (.st 4 (.t 11) (.t 183)))⟩])
 (.reg [oM 184 0,oA 185 4 11,⟨some 186,none,(.call (.f 183) [(.t 184),(.t 185)])⟩]))))))))
 (.reg [oM 137 7,oD 138 137 1,oM 7 138]))))))
 (.seq (.drw none [oM 187 0,oM 188 0,⟨some 189,none,(.op (.nck (.t 188)))⟩,oF 190 0 189,oL 191 190,oM 192 0,⟨some 193,none,(.op (.nck (.t 192)))⟩,oF 194 3 193,oL 195 194,oN 196 195,⟨some 197,none,(.op (.bin .add (.t 191) (.t 196)))⟩,⟨some 198,none,(.op (.nck (.t 187)))⟩,oF 199 0 198,⟨none,none,(.op (.st 1 (.t 199) (.t 197)))⟩])
 (.seq (.reg [oM 200 0,⟨some 201,none,(.op (.nck (.t 200)))⟩,oF 202 3 201,⟨none,none,(.op (.st 1 (.t 202) (.k (.slice none 0 0))))⟩])
 (.reg [oM 203 0,⟨some 204,none,(.op (.nck (.t 203)))⟩,oF 205 4 204,⟨none,none,(.op (.st 1 (.t 205) (.k (.slice none 0 0))))⟩])))))
def r128:List XRes:=[]
theorem res128:resolveF Tryz.prog 128 = some (x128,r128,206):=by kernel_rfl
def x129:XCode:=.seq (.reg [oB 2])
 (.seq (.seq (.reg [oI 3 0])
 (.block 0 (.loop (.seq (.seq (.reg [oM 4 3,oM 5 0,⟨some 6,none,(.op (.nck (.t 5)))⟩,oF 7 3 6,oL 8 7,oN 9 8,oS 10 4 9])
 (.cond (.t 10) (.skip)
 (.exit 0)))
 (.seq (.block 1 (.seq (.drw none [oM 13 0,⟨some 14,none,(.op (.nck (.t 13)))⟩,oF 15 3 14,oL 16 15,oM 17 3,oX 18 4 16 17,oA 19 4 18,oM 20 0,⟨some 21,none,(.op (.nck (.t 20)))⟩,oF 22 4 21,oL 23 22,oM 24 3,oX 25 4 23 24,oA 26 4 25,⟨some 27,none,(.call (.f 25) [(.t 19),(.t 26)])⟩,⟨some 28,none,(.op (.un .not (.t 27)))⟩])
 (.cond (.t 28) (.seq (.reg [oB 2])
 (.ret))
 (.skip))))
 (.reg [oM 11 3,oD 12 11 1,oM 3 12]))))))
 (.seq (.reg [⟨some 2,none,(.op (.mov (.k (.bool true))))⟩])
 (.ret)))
def r129:List XRes:=[.t 2]
theorem res129:resolveF Tryz.prog 129 = some (x129,r129,29):=by kernel_rfl
def x130:XCode:=.seq (.reg [oB 2])
 (.seq (.seq (.reg [oI 3 0])
 (.block 0 (.loop (.seq (.seq (.reg [oM 4 3,oM 5 0,⟨some 6,none,(.op (.nck (.t 5)))⟩,oF 7 5 6,oL 8 7,oN 9 8,oS 10 4 9])
 (.cond (.t 10) (.skip)
 (.exit 0)))
 (.seq (.block 1 (.seq (.drw none [oM 13 0,⟨some 14,none,(.op (.nck (.t 13)))⟩,oF 15 5 14,oL 16 15,oM 17 3,oX 18 4 16 17,oA 19 4 18,oM 20 0,⟨some 21,none,(.op (.nck (.t 20)))⟩,oF 22 6 21,oL 23 22,oM 24 3,oX 25 4 23 24,oA 26 4 25,⟨some 27,none,(.call (.f 25) [(.t 19),(.t 26)])⟩,⟨some 28,none,(.op (.un .not (.t 27)))⟩])
 (.cond (.t 28) (.seq (.reg [oB 2])
 (.ret))
 (.skip))))
 (.reg [oM 11 3,oD 12 11 1,oM 3 12]))))))
 (.seq (.reg [⟨some 2,none,(.op (.mov (.k (.bool true))))⟩])
 (.ret)))
def r130:List XRes:=[.t 2]
theorem res130:resolveF Tryz.prog 130 = some (x130,r130,29):=by kernel_rfl
def x183:XCode:=.seq (.reg [oO 3 1])
 (.seq (.drw none [oM 4 0,oM 5 0,⟨some 6,none,(.op (.nck (.t 5)))⟩,oF 7 5 6,oL 8 7,oA 9 4 3,⟨some 10,none,(.op (.bsl 4 1 [(.slice none 0 0),(.slice none 0 0),(.slice none 0 0),(.int .i64 0)] [(0,4,(.t 9))]))⟩,⟨some 11,none,(.op (.app 4 80 (.t 8) (.t 10)))⟩,⟨some 12,none,(.op (.nck (.t 4)))⟩,oF 13 5 12,⟨none,none,(.op (.st 1 (.t 13) (.t 11)))⟩])
 (.drw none [oM 14 0,oM 15 0,⟨some 16,none,(.op (.nck (.t 15)))⟩,oF 17 6 16,oL 18 17,oA 19 4 3,⟨some 20,none,(.call (.f 28) [(.t 19)])⟩,⟨some 21,none,(.op (.bsl 4 1 [(.slice none 0 0),(.slice none 0 0),(.slice none 0 0),(.int .i64 0)] [(0,4,(.t 20))]))⟩,⟨some 22,none,(.op (.app 4 80 (.t 18) (.t 21)))⟩,⟨some 23,none,(.op (.nck (.t 14)))⟩,oF 24 6 23,⟨none,none,(.op (.st 1 (.t 24) (.t 22)))⟩]))
def r183:List XRes:=[]
theorem res183:resolveF Tryz.prog 183 = some (x183,r183,25):=by kernel_rfl
def x184:XCode:=.seq (.reg [oO 3 0,⟨some 6,none,(.op (.alloc [(.slice none 0 0),(.slice none 0 0),(.slice none 0 0),(.int .i64 0)]))⟩])
 (.seq (.seq (.reg [oI 7 0])
 (.block 0 (.loop (.seq (.seq (.reg [oM 8 7,oM 9 2,oS 10 8 9])
 (.cond (.t 10) (.skip)
 (.exit 0)))
 (.seq (.block 1 (.seq (.reg [oF 13 0 3,oL 14 13,oM 15 1,oF 16 0 3,oL 17 16,oN 18 17,⟨some 19,none,(.op (.bin .add (.t 15) (.t 18)))⟩,⟨some 20,none,(.op (.build [(.int .i64 0),(.int .i64 0),(.int .i64 0),(.int .i64 0),(.int .i64 0)] [(0,1,(.k (.int .i64 99))),(4,1,(.t 19))]))⟩,⟨some 21,none,(.op (.bsl 5 1 [(.int .i64 0),(.int .i64 0),(.int .i64 0),(.int .i64 0),(.int .i64 0)] [(0,5,(.t 20))]))⟩,⟨some 22,none,(.op (.app 5 40 (.t 14) (.t 21)))⟩,oF 23 0 3,⟨none,none,(.op (.st 1 (.t 23) (.t 22)))⟩])
 (.seq (.reg [oF 24 1 3,oL 25 24,oM 26 1,oF 27 1 3,oL 28 27,oN 29 28,⟨some 30,none,(.op (.bin .add (.t 26) (.t 29)))⟩,⟨some 31,none,(.op (.build [(.string ⟨#[]⟩),(.int .i64 0),(.int .i64 0),(.int .i64 0)] [(0,1,(.k (.string ⟨#[103,114,111,119,110]⟩))),(2,1,(.t 30))]))⟩,⟨some 32,none,(.op (.bsl 4 1 [(.string ⟨#[]⟩),(.int .i64 0),(.int .i64 0),(.int .i64 0)] [(0,4,(.t 31))]))⟩,⟨some 33,none,(.op (.app 4 40 (.t 25) (.t 32)))⟩,oF 34 1 3,⟨none,none,(.op (.st 1 (.t 34) (.t 33)))⟩])
 (.reg [oF 35 2 3,oL 36 35,oM 37 1,oF 38 2 3,oL 39 38,oN 40 39,⟨some 41,none,(.op (.bin .add (.t 37) (.t 40)))⟩,⟨some 42,none,(.op (.build [(.string ⟨#[]⟩),(.int .i64 0),(.int .i64 0),(.int .i64 0),(.int .i64 0)] [(0,1,(.k (.string ⟨#[103,114,111,119,110]⟩))),(2,1,(.t 41))]))⟩,⟨some 43,none,(.op (.bsl 5 1 [(.string ⟨#[]⟩),(.int .i64 0),(.int .i64 0),(.int .i64 0),(.int .i64 0)] [(0,5,(.t 42))]))⟩,⟨some 44,none,(.op (.app 5 48 (.t 36) (.t 43)))⟩,oF 45 2 3,⟨none,none,(.op (.st 1 (.t 45) (.t 44)))⟩]))))
 (.reg [oM 11 7,oD 12 11 1,oM 7 12]))))))
 (.seq (.reg [oA 46 4 3,⟨none,none,(.op (.st 4 (.t 6) (.t 46)))⟩])
 (.ret)))
def r184:List XRes:=[.lda 4 6]
theorem res184:resolveF Tryz.prog 184 = some (x184,r184,47):=by kernel_rfl
end Go.Tidy
namespace Go.Tidy
open Go Go.Eng Go.Proofs
variable {cx:Cx}
theorem laidFs_snoc:∀ (at_:Int) (fs:List Fn) (bs:List (List Ins)) (f:Fn) (b:List Ins),fs.length = bs.length → laidFs at_ (fs ++ [f]) (bs ++ [b]) = laidFs at_ fs bs ++ [{ f with first:=at_ + (bs.flatten.length:Nat),count:=b.length }]
 | at_,[],[],f,b,_=>by simp [laidFs]
 | at_,g :: fs,c :: bs,f,b,h=>by
   simp only [List.cons_append,laidFs,laidFs_snoc (at_ + c.length) fs bs f b (by simpa using h),List.flatten_cons,List.length_append]
   congr 3
   congr 1
   omega
 | _,[],_ :: _,_,_,h=>by simp at h
 | _,_ :: _,[],_,_,h=>by simp at h
theorem wsI_sublist {a b:List Ins} (h:a.Sublist b):(wsI a).sum ≤ (wsI b).sum:=by
 unfold wsI
 induction h with
 | slnil=>exact Nat.le_refl _
 | cons x _ ih=>simp only [List.map_cons,List.sum_cons];omega
 | cons_cons x _ ih=>simp only [List.map_cons,List.sum_cons];omega
theorem len_sum (is:List Ins):is.length ≤ (wsI is).sum:=by
 unfold wsI
 induction is with
 | nil=>simp
 | cons x r ih=>
   have:1 ≤ wd x:=by unfold wd;split <;> omega
   simp only [List.map_cons,List.sum_cons,List.length_cons]
   omega
theorem body_sum (text:List Ins) (f:Fn):(wsI (body text f)).sum ≤ (wsI text).sum:=
 wsI_sublist ((List.take_sublist _ _).trans (List.drop_sublist _ _))
theorem xRows0 (H:AH) (id ver n sz:Nat):xRows H sz (.sl id ver 0 n sz) = (AH.rd H id ver).bind fun cs=>if n * sz ≤ cs.length then some (n,cs.take (n * sz)) else none:=by
 simp [xRows]
def TidyOut (h:AH) (im:Img) (r:AV) (h':AH):Prop:=
 (¬ VOk (tabsB 0) im ∧ ∃ (e:Int) (g:AH),(e ≠ 0 ∧ ErrV im e) ∧ h' = h ++ g ∧ r = .tup [.agg [nilS,nilS,nilS,VI 0],VI e]) ∨
 (VOk (tabsB 0) im ∧ ∃ (bs:List (List Ins)) (g:AH) (a va b vb:Nat) (dv:AV),TidyOf im ⟨bs.flatten,laidFs 0 im.funcs bs,im.tables,im.entry⟩ bs ∧ h' = h ++ g ∧
  r = .tup [.agg [.sl a va 0 bs.flatten.length 5,.sl b vb 0 (laidFs 0 im.funcs bs).length 4,dv,VI im.entry],VI 0] ∧
  WSl Ins.row 5 (h ++ g) (.sl a va 0 bs.flatten.length 5) bs.flatten ∧ WSl Fn.row 4 (h ++ g) (.sl b vb 0 (laidFs 0 im.funcs bs).length 4) (laidFs 0 im.funcs bs) ∧ WSl Tab.row 5 (h ++ g) dv im.tables ∧
  h.length ≤ a ∧ h.length ≤ b ∧ a ≠ b ∧ ∀ c,dv.at_ = some c → h.length ≤ c ∧ c ≠ a ∧ c ≠ b)
def OutM (L:Nat) (ot ov:AV) (bs:List (List Ins)) (fs:List Fn) (G:AH):Prop:=
 (bs = [] ∧ ot = nilS ∧ ov = nilS ∧ fs = [] ∧ G = []) ∨ ∃ g1 vt g2 vf g3,G = g1 ++ AO.cells vt (bs.flatten.flatMap Ins.row) :: (g2 ++ AO.cells vf (fs.flatMap Fn.row) :: g3) ∧
  ot = .sl (L + (g1.length + 1 + 1 + 1 + 1)) vt 0 bs.flatten.length 5 ∧ ov = .sl (L + (g1.length + (g2.length + 1) + 1 + 1 + 1 + 1)) vf 0 fs.length 4
set_option maxRecDepth 100000 in
set_option maxHeartbeats 4000000 in
theorem c23s (hO:On cx) {h:AH} {im:Img} {tv fv bv:AV} (hr:ImgR h tv fv bv im) (hb:Rows Tab.row 5 h bv im.tables) (hno:xNo bv = some false) :
 SimCall cx 23 [.agg [tv,fv,bv,VI im.entry]] h (TidyOut h im):=by
 have c3:=hr.tables.cell
 have c1:=hr.text.cell
 have c2:=hr.funcs.cell
 have hnf:=hr.nf
 have hnt:=hr.nt
 refine SimCall.by hO.P res23 ?_
 unfold x23 r23
 repeat' first
  | simp (maxSteps:=1000000) only [go_sem,c1,c2,c3]
 refine (c34 hO (hr.more _)).mono ?_
 rintro r h' ⟨rfl,q1,q2,e0,rfl,he0⟩
 repeat' first
  | ((with_reducible show wx _ (XCode.cond _ _ _) _ _);refine wx_if rfl (fun _=>?_) (fun _=>?_))
  | ((with_reducible show dK _ 69 _ _ _);refine dK_app _ _ (c69 hO (fun g=>by first | exact hb.rows _ | (rw [List.append_assoc];exact hb.rows _)) hno hnt) ?_)
  | simp (maxSteps:=1000000) only [go_sem,c1,c2,c3,hr.funcs.len]
 ·rename_i e
  simp at e
  exact .inl ⟨fun hv=>e (he0.ok.2 hv),e0,_,⟨e,he0⟩,rfl,rfl⟩
 rename_i e
 have hv:VOk (tabsB 0) im:=he0.ok.1 (by simpa using e)
 have hok:=hv.img
 have hfs:=funcsB_mem _ _ 0 (by omega) hok.funcs
 have hnf2:=hok.nf
 have hNN:0 < im.funcs.length:=by have:=hok.entry;omega
 refine SimLoop.inv [1,0,4,20,0,0] (fun k s=>∃ (i:Nat) (bs:List (List Ins)) (ot ov:AV) (G:AH),k = im.funcs.length - i ∧ i ≤ im.funcs.length ∧ bs.length = i ∧ OutM h.length ot ov bs (laidFs 0 (im.funcs.take i) bs) G ∧
  (∀ (k:Nat) f b,im.funcs[k]? = some f → bs[k]? = some b → Made im.funcs.length im.tables.length (body im.text f) b) ∧ bs.flatten.length ≤ i * 1048576 ∧
  s = ⟨[.un,.ptr h.length 0 0,.ptr (h.length + 1) 0 0,.un,.un,.un,.un,.ptr (h.length + 2) 0 0,.un,.un,.un,.un,.un,.un,.un,.un,.un,.un,.un,.un,.un,.un,.un,.un,.un,.un,.un,.un,fv,VI im.funcs.length,VI i,.un,.un,.un,.un,.un,.un,.un,.un,.un,.un,.un,.un,.un,.un,.un,.un,.un,.un,.un,.un,.un,.un,.un,.un,.un,.un,.un,.un,.un,.un,.un,.un,.un,.un],
    h ++ (.cells 0 [tv,fv,bv,VI im.entry] :: .cells 0 [nilS,nilS,nilS,VI 0] :: .cells 0 [ot,ov,.sl (h.length + 3) (cpV im.tables.length) 0 im.tables.length 5,VI im.entry] :: .cells (cpV im.tables.length) (im.tables.flatMap Tab.row) :: G)⟩) ?_ im.funcs.length ?_
 rotate_left
 ·exact ⟨0,[],_,_,[],rfl,Nat.zero_le _,rfl,.inl ⟨rfl,rfl,rfl,rfl,rfl⟩,fun k f b _ hb=>by simp at hb,by simp,by simp only [go_sem];rfl⟩
 rintro k s ⟨i,bs,ot,ov,G,rfl,hi,hbl,hout,hmade,hlen,rfl⟩
 by_cases hlt:i < im.funcs.length
 ·obtain ⟨q,hq1,hq2,hq3,_⟩:=hr.funcs.get Fn.len (by decide) (List.getElem?_eq_getElem hlt)
  have hlt':((i:Int) < im.funcs.length):=by omega
  have hw:=wrap_succ hlt (by omega)
  have hfi:=List.getElem?_eq_getElem hlt
  have htki:im.funcs.take (i + 1) = im.funcs.take i ++ [im.funcs[i]]:=List.take_succ_eq_append_getElem hlt
  obtain ⟨e1,e2,e3⟩:=hfs _ (List.getElem_mem hlt)
  have hbody:=hv.bodies _ (List.getElem_mem hlt)
  generalize im.funcs[i] = f at hq1 hq2 hq3 hfi e1 e2 e3 htki hbody
  obtain ⟨bodyv,hs1,hs2⟩:=hr.text.sls (a:=f.first) (b:=f.first + f.count) Ins.len e1 (by omega) e3
  have hbe:(im.text.drop f.first.toNat).take ((f.first + f.count).toNat - f.first.toNat) = body im.text f:=by
   unfold body
   congr 1
   omega
  rw [hbe] at hs2
  have htlen:=hr.len
  have hbl2:(body im.text f).length ≤ im.text.length:=by unfold body;simp;omega
  have hsum:(wsI (body im.text f)).sum ≤ 1048576:=Nat.le_trans (body_sum im.text f) hok.len
  have hbl3:=len_sum (body im.text f)
  have hw0:IntKind.i64.wrap (f.first + f.count) = f.first + f.count:=wrap_id (by omega) (by omega)
  have h70:=fun H:AH=>c70 (cx:=cx) hO (hs2.more H) (by omega) hbody (by omega)
  have hil:i < im.funcs.length:=hlt
  have hfl:(laidFs 0 (im.funcs.take i) bs).length = i:=by
   rw [laidFs_length 0 _ _ (by rw [List.length_take];omega),List.length_take]
   omega
  have hsn:=fun js=>laidFs_snoc 0 (im.funcs.take i) bs f js (by rw [List.length_take];omega)
  generalize hfs2:laidFs 0 (im.funcs.take i) bs = fs at hout hfl hsn
  have hmk:∀ js,Made im.funcs.length im.tables.length (body im.text f) js → ∀ (k:Nat) f' b,im.funcs[k]? = some f' → (bs ++ [js])[k]? = some b → Made im.funcs.length im.tables.length (body im.text f') b:=by
   intro js hm k f' b hf' hb
   by_cases hk:k < bs.length
   ·rw [List.getElem?_append_left hk] at hb
    exact hmade k f' b hf' hb
   ·have hk2:=(List.getElem?_eq_some_iff.1 hb).1
    simp only [List.length_append,List.length_cons,List.length_nil] at hk2
    have:k = i:=by omega
    subst this
    rw [hfi] at hf'
    cases hf'
    rw [List.getElem?_append_right (by omega),hbl] at hb
    simp at hb
    subst hb
    exact hm
  obtain ⟨fname,fobj,ffirst,fcount⟩:=f
  simp only at e1 e2 e3 hs1 hw0
  rcases hout with ⟨rfl,rfl,rfl,rfl,rfl⟩ | ⟨g1,vt,g2,vf,g3,rfl,rfl,rfl⟩
  ·skip
   repeat' first
    | simp (maxSteps:=1000000) only [go_sem,hlt',hw,hq1,hq2,hq3,Fn.row,hs1,hw0,c1,c2,c3]
   refine (h70 _).mono ?_
   rintro r h' ⟨js,hm,rfl,rfl⟩
   have hmw:=hm.slots
   have hjl:=len_sum js
   have hjn:=hm.ok.ne
   have hjr:=cells_len (f:=Ins.row) (sz:=5) Ins.len js
   have hj1:js.length * 5 ≤ (js.flatMap Ins.row).length:=by omega
   have hj2:(js.flatMap Ins.row).take (js.length * 5) = js.flatMap Ins.row:=List.take_of_length_le (by omega)
   have hj0:¬ js.length = 0:=by omega
   have hj3:js.length * 40 ≤ 140737488355328:=by omega
   repeat' first
    | simp (maxSteps:=1000000) only [go_sem,hj0,hj1,hj2,hj3,hw,xRows0,Option.bind_some]
   have hi0:i = 0:=by simpa using hbl.symm
   refine ⟨im.funcs.length - (i + 1),by omega,i + 1,[js],_,_,_,rfl,by omega,by simp [hi0],?_,hmk js hm,by simp;omega,rfl⟩
   have h2:=hsn js
   rw [List.nil_append] at h2
   rw [htki,h2]
   exact .inr ⟨[.cells 0 [AV.v (.string fname),VI fobj,VI ((0:Nat):Int),VI js.length],.cells 0 (js.flatMap Ins.row)],0,[.cells 0 [AV.v (.string fname),VI fobj,VI ((0:Nat):Int),VI js.length]],0,[],by simp [Fn.row],by simp,by simp⟩
  ·skip
   have htr:=cells_len (f:=Ins.row) (sz:=5) Ins.len bs.flatten
   have hfr:=cells_len (f:=Fn.row) (sz:=4) Fn.len fs
   generalize hBB:bs.flatten = B at *
   have hbig:(B.length:Int) < 9223372036854775808:=by omega
   repeat' first
    | simp (maxSteps:=1000000) only [go_sem,hlt',hw,hq1,hq2,hq3,Fn.row,hs1,hw0,c1,c2,c3]
   refine (h70 _).mono ?_
   rintro r h' ⟨js,hm,rfl,rfl⟩
   have hmw:=hm.slots
   have hjl:=len_sum js
   have hjn:=hm.ok.ne
   have hjr:=cells_len (f:=Ins.row) (sz:=5) Ins.len js
   have hj1:js.length * 5 ≤ (js.flatMap Ins.row).length:=by omega
   have hj2:(js.flatMap Ins.row).take (js.length * 5) = js.flatMap Ins.row:=List.take_of_length_le (by omega)
   have hj0:¬ js.length = 0:=by omega
   have ht1:¬ (B.length + js.length) * 5 ≤ (B.flatMap Ins.row).length:=by omega
   have ht2:B.length * 5 ≤ (B.flatMap Ins.row).length:=by omega
   have ht3:(B.length + js.length) * 40 ≤ 140737488355328:=by omega
   have ht4:(B.flatMap Ins.row).take (B.length * 5) = B.flatMap Ins.row:=List.take_of_length_le (by omega)
   have hf1:¬ (fs.length + 1) * 4 ≤ (fs.flatMap Fn.row).length:=by omega
   have hf2:fs.length * 4 ≤ (fs.flatMap Fn.row).length:=by omega
   have hf3:(fs.length + 1) * 40 ≤ 140737488355328:=by omega
   have hf4:(fs.flatMap Fn.row).take (fs.length * 4) = fs.flatMap Fn.row:=List.take_of_length_le (by omega)
   repeat' first
    | simp (maxSteps:=1000000) only [go_sem,hj0,hj1,hj2,ht1,ht2,ht3,ht4,hf1,hf2,hf3,hf4,hw,xRows0,Option.bind_some]
   refine ⟨im.funcs.length - (i + 1),by omega,i + 1,bs ++ [js],_,_,_,rfl,by omega,by simp [hbl],?_,hmk js hm,by simp [hBB];omega,rfl⟩
   rw [htki,hsn js]
   exact .inr ⟨g1,vt + 1,g2,vf + 1,g3 ++ [.cells 0 [AV.v (.string fname),VI fobj,VI (B.length:Int),VI js.length],.cells 0 (js.flatMap Ins.row),.cells 0 [AV.v (.string fname),VI fobj,VI (B.length:Int),VI js.length]],by simp [Fn.row,hBB],by simp [hBB],by simp⟩
 ·have hlt':¬ ((i:Int) < im.funcs.length):=by omega
  have hin:i = im.funcs.length:=by omega
  rw [List.take_of_length_le (by omega)] at hout
  rcases hout with ⟨rfl,rfl,rfl,_,rfl⟩ | ⟨g1,vt,g2,vf,g3,rfl,rfl,rfl⟩
  ·simp at hbl
   omega
  ·skip
   repeat' first
    | simp (maxSteps:=1000000) only [go_sem,hlt']
   refine .inr ⟨hv,bs,_,_,_,_,_,_,⟨by omega,hmade,rfl,rfl,rfl,rfl⟩,rfl,rfl,?_,?_,?_,by omega,by omega,by omega,?_⟩
   ·exact .inr ⟨_,_,rfl,get_some (by simp only [go_sem])⟩
   ·exact .inr ⟨_,_,rfl,get_some (by simp only [go_sem])⟩
   ·exact .inr ⟨_,_,rfl,get_some (by simp only [go_sem])⟩
   ·intro c hc
    cases hc
    exact ⟨by omega,by omega,by omega⟩
def OutZ (L:Nat) (ot ov:AV) (bs:List (List Ins)) (fs:List Fn) (G:AH):Prop:=
 (bs = [] ∧ ot = nilS ∧ ov = nilS ∧ fs = [] ∧ G = []) ∨ ∃ g1 vt g2 vf g3,G = g1 ++ AO.cells vt (bs.flatten.flatMap Ins.row) :: (g2 ++ AO.cells vf (fs.flatMap Fn.row) :: g3) ∧
  ot = .sl (L + (g1.length + 1 + 1 + 1)) vt 0 bs.flatten.length 5 ∧ ov = .sl (L + (g1.length + (g2.length + 1) + 1 + 1 + 1)) vf 0 fs.length 4
set_option maxRecDepth 100000 in
set_option maxHeartbeats 4000000 in
theorem c23n (hO:On cx) {h:AH} {im:Img} {tv fv:AV} {cp:Nat} (hr:ImgR h tv fv (.v (.slice none 0 cp)) im) (ht0:im.tables = []) :
 SimCall cx 23 [.agg [tv,fv,.v (.slice none 0 cp),VI im.entry]] h (TidyOut h im):=by
 have c1:=hr.text.cell
 have c2:=hr.funcs.cell
 have hnf:=hr.nf
 have hnt:=hr.nt
 refine SimCall.by hO.P res23 ?_
 unfold x23 r23
 repeat' first
  | simp (maxSteps:=1000000) only [go_sem,c1,c2]
 refine (c34 hO (hr.more _)).mono ?_
 rintro r h' ⟨rfl,q1,q2,e0,rfl,he0⟩
 repeat' first
  | ((with_reducible show wx _ (XCode.cond _ _ _) _ _);refine wx_if rfl (fun _=>?_) (fun _=>?_))
  | ((with_reducible show dK _ 69 _ _ _);refine dK_of _ (c69n hO _ cp) ?_)
  | simp (maxSteps:=1000000) only [go_sem,c1,c2,hr.funcs.len]
 ·rename_i e
  simp at e
  exact .inl ⟨fun hv=>e (he0.ok.2 hv),e0,_,⟨e,he0⟩,rfl,rfl⟩
 rename_i e
 have hv:VOk (tabsB 0) im:=he0.ok.1 (by simpa using e)
 have hok:=hv.img
 have hfs:=funcsB_mem _ _ 0 (by omega) hok.funcs
 have hnf2:=hok.nf
 have hNN:0 < im.funcs.length:=by have:=hok.entry;omega
 refine SimLoop.inv [1,0,4,20,0,0] (fun k s=>∃ (i:Nat) (bs:List (List Ins)) (ot ov:AV) (G:AH),k = im.funcs.length - i ∧ i ≤ im.funcs.length ∧ bs.length = i ∧ OutZ h.length ot ov bs (laidFs 0 (im.funcs.take i) bs) G ∧
  (∀ (k:Nat) f b,im.funcs[k]? = some f → bs[k]? = some b → Made im.funcs.length im.tables.length (body im.text f) b) ∧ bs.flatten.length ≤ i * 1048576 ∧
  s = ⟨[.un,.ptr h.length 0 0,.ptr (h.length + 1) 0 0,.un,.un,.un,.un,.ptr (h.length + 2) 0 0,.un,.un,.un,.un,.un,.un,.un,.un,.un,.un,.un,.un,.un,.un,.un,.un,.un,.un,.un,.un,fv,VI im.funcs.length,VI i,.un,.un,.un,.un,.un,.un,.un,.un,.un,.un,.un,.un,.un,.un,.un,.un,.un,.un,.un,.un,.un,.un,.un,.un,.un,.un,.un,.un,.un,.un,.un,.un,.un,.un],
    h ++ (.cells 0 [tv,fv,.v (.slice none 0 cp),VI im.entry] :: .cells 0 [nilS,nilS,nilS,VI 0] :: .cells 0 [ot,ov,nilS,VI im.entry] :: G)⟩) ?_ im.funcs.length ?_
 rotate_left
 ·exact ⟨0,[],_,_,[],rfl,Nat.zero_le _,rfl,.inl ⟨rfl,rfl,rfl,rfl,rfl⟩,fun k f b _ hb=>by simp at hb,by simp,by simp only [go_sem];rfl⟩
 rintro k s ⟨i,bs,ot,ov,G,rfl,hi,hbl,hout,hmade,hlen,rfl⟩
 by_cases hlt:i < im.funcs.length
 ·obtain ⟨q,hq1,hq2,hq3,_⟩:=hr.funcs.get Fn.len (by decide) (List.getElem?_eq_getElem hlt)
  have hlt':((i:Int) < im.funcs.length):=by omega
  have hw:=wrap_succ hlt (by omega)
  have hfi:=List.getElem?_eq_getElem hlt
  have htki:im.funcs.take (i + 1) = im.funcs.take i ++ [im.funcs[i]]:=List.take_succ_eq_append_getElem hlt
  obtain ⟨e1,e2,e3⟩:=hfs _ (List.getElem_mem hlt)
  have hbody:=hv.bodies _ (List.getElem_mem hlt)
  generalize im.funcs[i] = f at hq1 hq2 hq3 hfi e1 e2 e3 htki hbody
  obtain ⟨bodyv,hs1,hs2⟩:=hr.text.sls (a:=f.first) (b:=f.first + f.count) Ins.len e1 (by omega) e3
  have hbe:(im.text.drop f.first.toNat).take ((f.first + f.count).toNat - f.first.toNat) = body im.text f:=by
   unfold body
   congr 1
   omega
  rw [hbe] at hs2
  have htlen:=hr.len
  have hbl2:(body im.text f).length ≤ im.text.length:=by unfold body;simp;omega
  have hsum:(wsI (body im.text f)).sum ≤ 1048576:=Nat.le_trans (body_sum im.text f) hok.len
  have hbl3:=len_sum (body im.text f)
  have hw0:IntKind.i64.wrap (f.first + f.count) = f.first + f.count:=wrap_id (by omega) (by omega)
  have h70:=fun H:AH=>c70 (cx:=cx) hO (hs2.more H) (by omega) hbody (by omega)
  have hil:i < im.funcs.length:=hlt
  have hfl:(laidFs 0 (im.funcs.take i) bs).length = i:=by
   rw [laidFs_length 0 _ _ (by rw [List.length_take];omega),List.length_take]
   omega
  have hsn:=fun js=>laidFs_snoc 0 (im.funcs.take i) bs f js (by rw [List.length_take];omega)
  generalize hfs2:laidFs 0 (im.funcs.take i) bs = fs at hout hfl hsn
  have hmk:∀ js,Made im.funcs.length im.tables.length (body im.text f) js → ∀ (k:Nat) f' b,im.funcs[k]? = some f' → (bs ++ [js])[k]? = some b → Made im.funcs.length im.tables.length (body im.text f') b:=by
   intro js hm k f' b hf' hb
   by_cases hk:k < bs.length
   ·rw [List.getElem?_append_left hk] at hb
    exact hmade k f' b hf' hb
   ·have hk2:=(List.getElem?_eq_some_iff.1 hb).1
    simp only [List.length_append,List.length_cons,List.length_nil] at hk2
    have:k = i:=by omega
    subst this
    rw [hfi] at hf'
    cases hf'
    rw [List.getElem?_append_right (by omega),hbl] at hb
    simp at hb
    subst hb
    exact hm
  obtain ⟨fname,fobj,ffirst,fcount⟩:=f
  simp only at e1 e2 e3 hs1 hw0
  rcases hout with ⟨rfl,rfl,rfl,rfl,rfl⟩ | ⟨g1,vt,g2,vf,g3,rfl,rfl,rfl⟩
  ·skip
   repeat' first
    | simp (maxSteps:=1000000) only [go_sem,hlt',hw,hq1,hq2,hq3,Fn.row,hs1,hw0,c1,c2]
   refine (h70 _).mono ?_
   rintro r h' ⟨js,hm,rfl,rfl⟩
   have hmw:=hm.slots
   have hjl:=len_sum js
   have hjn:=hm.ok.ne
   have hjr:=cells_len (f:=Ins.row) (sz:=5) Ins.len js
   have hj1:js.length * 5 ≤ (js.flatMap Ins.row).length:=by omega
   have hj2:(js.flatMap Ins.row).take (js.length * 5) = js.flatMap Ins.row:=List.take_of_length_le (by omega)
   have hj0:¬ js.length = 0:=by omega
   have hj3:js.length * 40 ≤ 140737488355328:=by omega
   repeat' first
    | simp (maxSteps:=1000000) only [go_sem,hj0,hj1,hj2,hj3,hw,xRows0,Option.bind_some]
   have hi0:i = 0:=by simpa using hbl.symm
   refine ⟨im.funcs.length - (i + 1),by omega,i + 1,[js],_,_,_,rfl,by omega,by simp [hi0],?_,hmk js hm,by simp;omega,rfl⟩
   have h2:=hsn js
   rw [List.nil_append] at h2
   rw [htki,h2]
   exact .inr ⟨[.cells 0 [AV.v (.string fname),VI fobj,VI ((0:Nat):Int),VI js.length],.cells 0 (js.flatMap Ins.row)],0,[.cells 0 [AV.v (.string fname),VI fobj,VI ((0:Nat):Int),VI js.length]],0,[],by simp [Fn.row],by simp,by simp⟩
  ·skip
   have htr:=cells_len (f:=Ins.row) (sz:=5) Ins.len bs.flatten
   have hfr:=cells_len (f:=Fn.row) (sz:=4) Fn.len fs
   generalize hBB:bs.flatten = B at *
   have hbig:(B.length:Int) < 9223372036854775808:=by omega
   repeat' first
    | simp (maxSteps:=1000000) only [go_sem,hlt',hw,hq1,hq2,hq3,Fn.row,hs1,hw0,c1,c2]
   refine (h70 _).mono ?_
   rintro r h' ⟨js,hm,rfl,rfl⟩
   have hmw:=hm.slots
   have hjl:=len_sum js
   have hjn:=hm.ok.ne
   have hjr:=cells_len (f:=Ins.row) (sz:=5) Ins.len js
   have hj1:js.length * 5 ≤ (js.flatMap Ins.row).length:=by omega
   have hj2:(js.flatMap Ins.row).take (js.length * 5) = js.flatMap Ins.row:=List.take_of_length_le (by omega)
   have hj0:¬ js.length = 0:=by omega
   have ht1:¬ (B.length + js.length) * 5 ≤ (B.flatMap Ins.row).length:=by omega
   have ht2:B.length * 5 ≤ (B.flatMap Ins.row).length:=by omega
   have ht3:(B.length + js.length) * 40 ≤ 140737488355328:=by omega
   have ht4:(B.flatMap Ins.row).take (B.length * 5) = B.flatMap Ins.row:=List.take_of_length_le (by omega)
   have hf1:¬ (fs.length + 1) * 4 ≤ (fs.flatMap Fn.row).length:=by omega
   have hf2:fs.length * 4 ≤ (fs.flatMap Fn.row).length:=by omega
   have hf3:(fs.length + 1) * 40 ≤ 140737488355328:=by omega
   have hf4:(fs.flatMap Fn.row).take (fs.length * 4) = fs.flatMap Fn.row:=List.take_of_length_le (by omega)
   repeat' first
    | simp (maxSteps:=1000000) only [go_sem,hj0,hj1,hj2,ht1,ht2,ht3,ht4,hf1,hf2,hf3,hf4,hw,xRows0,Option.bind_some]
   refine ⟨im.funcs.length - (i + 1),by omega,i + 1,bs ++ [js],_,_,_,rfl,by omega,by simp [hbl],?_,hmk js hm,by simp [hBB];omega,rfl⟩
   rw [htki,hsn js]
   exact .inr ⟨g1,vt + 1,g2,vf + 1,g3 ++ [.cells 0 [AV.v (.string fname),VI fobj,VI (B.length:Int),VI js.length],.cells 0 (js.flatMap Ins.row),.cells 0 [AV.v (.string fname),VI fobj,VI (B.length:Int),VI js.length]],by simp [Fn.row,hBB],by simp [hBB],by simp⟩
 ·have hlt':¬ ((i:Int) < im.funcs.length):=by omega
  have hin:i = im.funcs.length:=by omega
  rw [List.take_of_length_le (by omega)] at hout
  rcases hout with ⟨rfl,rfl,rfl,_,rfl⟩ | ⟨g1,vt,g2,vf,g3,rfl,rfl,rfl⟩
  ·simp at hbl
   omega
  ·skip
   repeat' first
    | simp (maxSteps:=1000000) only [go_sem,hlt']
   refine .inr ⟨hv,bs,_,_,_,_,_,_,⟨by omega,hmade,rfl,rfl,rfl,rfl⟩,rfl,rfl,?_,?_,?_,by omega,by omega,by omega,?_⟩
   ·exact .inr ⟨_,_,rfl,get_some (by simp only [go_sem])⟩
   ·exact .inr ⟨_,_,rfl,get_some (by simp only [go_sem])⟩
   ·exact .inl ⟨rfl,ht0⟩
   ·intro c hc
    cases hc
theorem c23 (hO:On cx) {h:AH} {im:Img} {tv fv bv:AV} (hr:ImgR h tv fv bv im) (hb:Rows Tab.row 5 h bv im.tables) {q:Bool} (hno:xNo bv = some q) :
 SimCall cx 23 [.agg [tv,fv,bv,VI im.entry]] h (TidyOut h im):=by
 cases q with
 | false=>exact c23s hO hr hb hno
 | true=>
   obtain ⟨text,funcs,tables,entry⟩:=im
   have ht:=hr.tables
   simp only at ht hb
   generalize hbv:bv = v at ht
   cases ht with
   | sl=>rw [hbv] at hno;cases hno
   | ro fn xs=>rw [hbv] at hno;simp only [xNo] at hno;split at hno <;> cases hno
   | nl A c=>
     cases A with
     | some p=>rw [hbv] at hno;cases hno
     | none=>
       subst hbv
       exact c23n hO hr rfl
end Go.Tidy
namespace Go.Tidy
open Go Go.Eng Go.Proofs
variable {cx:Cx}
set_option maxRecDepth 100000 in
theorem c51 (hO:On cx) {h:AH} {v1 v2:AV} {ts:List Tab} (h1:SlT Tab.row 5 h v1 ts) (h2:SlT Tab.row 5 h v2 ts) (hl:ts.length < 1099511627776):SimCall cx 51 [v1,v2] h fun r h'=>h' = h ∧ r = VB true:=by
 refine SimCall.gc ?_
 refine SimCall.by hO.P res51 ?_
 unfold x51 r51
 repeat' first
  | simp (maxSteps:=1000000) only [go_sem,h1.len,h2.len]
 refine SimLoop.inv [0,0,3] (fun k s=>∃ (i:Nat),k = ts.length - i ∧ i ≤ ts.length ∧ s = ⟨[v1,v2,.un,.un,.un,VI i,.un,.un,.un,.un,.un,.un,.un,.un,.un,.un,.un,.un,.un,.un,.un,.un,.un,.un,.un,.un],h⟩) ?_ ts.length ?_
 rotate_left
 ·exact ⟨0,rfl,Nat.zero_le _,by simp only [go_sem];rfl⟩
 rintro k s ⟨i,rfl,hi,rfl⟩
 by_cases hlt:i < ts.length
 ·have hlt':((i:Int) < ts.length):=by omega
  have hw:=wrap_succ hlt (by omega)
  obtain ⟨p,hp1,hp2,hp3,_⟩:=h1.get Tab.len (by decide) (List.getElem?_eq_getElem hlt)
  obtain ⟨q,hq1,hq2,hq3,_⟩:=h2.get Tab.len (by decide) (List.getElem?_eq_getElem hlt)
  generalize ts[i] = t at *
  obtain ⟨name,kind,key,value,entries⟩:=t
  have hxe:xEq ⟨true,[2,1,1,1,1]⟩ (.agg [.v (.string name),VI kind,VI key,VI value,VI entries]) (.agg [.v (.string name),VI kind,VI key,VI value,VI entries]) = some true:=by
   simp [xEq,xEqs,sameOne]
  repeat' first
   | simp (maxSteps:=1000000) only [go_sem,h1.len,h2.len,hlt',hw,hp1,hp2,hp3,hq1,hq2,hq3,Tab.row,hxe]
  exact ⟨ts.length - (i + 1),by omega,i + 1,rfl,by omega,rfl⟩
 ·have hlt':¬ ((i:Int) < ts.length):=by omega
  repeat' first
   | simp (maxSteps:=1000000) only [go_sem,h1.len,h2.len,hlt']
  all_goals first | exact ⟨more_one,plain_v _⟩ | exact ⟨more_nil,plain_v _⟩ | refine ⟨by first | exact more_one | exact more_nil,by first | exact plain_v _ | exact plain_tup (by simp [Plain.v]),?_⟩
  all_goals try simp only [decide_eq_true_eq,decide_eq_false_iff_not,Bool.not_eq_true',Bool.not_eq_false',AV.v.injEq,AV.tup.injEq,List.cons.injEq,Value.int.injEq,Value.bool.injEq,true_and,and_true] at *
  all_goals (try simp only [band] at *)
  all_goals (try simp_all)
  all_goals grind
theorem c29 (hO:On cx) {h:AH} {im:Img} {tv fv bv bodyv:AV} (hr:ImgR h tv fv bv im) {k:Nat} {f:Fn} (hf:im.funcs[k]? = some f) (h0:0 ≤ f.first) (h1:1 ≤ f.count) (h2:f.first + f.count ≤ im.text.length)
 (hs1:xSls 5 tv (some (VI f.first)) (some (VI (f.first + f.count))) = some bodyv) :
 SimCall cx 29 [.agg [tv,fv,bv,VI im.entry],VI k] h fun r h'=>r = bodyv ∧ h' = h ++ [.cells 0 [tv,fv,bv,VI im.entry]]:=by
 have c1:=hr.text.cell
 have c2:=hr.funcs.cell
 have c3:=hr.tables.cell
 have hlen:=hr.len
 have hw0:IntKind.i64.wrap (f.first + f.count) = f.first + f.count:=wrap_id (by omega) (by omega)
 obtain ⟨q,hq1,hq2,hq3,hq4⟩:=hr.funcs.get Fn.len (by decide) hf
 obtain ⟨q1,ha1,ha2,ha3⟩:=hq4 2 _ rfl
 obtain ⟨q2,hb1,hb2,hb3⟩:=hq4 3 _ rfl
 refine SimCall.by hO.P res29 ?_
 unfold x29 r29
 repeat' first
  | simp (maxSteps:=1000000) only [go_sem,c1,c2,c3,hq1,hq2,hq3,ha1,ha2,ha3,hb1,hb2,hb3,hs1,hw0]
def OutN (L:Nat) (sv:AV) (xs:List Int) (g:AH):Prop:=
 (xs = [] ∧ sv = nilS ∧ g = []) ∨ ∃ g1 g2 ver,g = g1 ++ AO.cells ver (xs.map VI) :: g2 ∧ sv = .sl (L + g1.length) ver 0 xs.length 1
set_option maxRecDepth 100000 in
set_option maxHeartbeats 2000000 in
theorem c30 (hO:On cx) {h:AH} {v:AV} {is:List Ins} (hv:SlIns h v is) (hl:is.length < 1099511627776) (hne:0 < is.length) :
 SimCall cx 30 [v] h fun r h'=>∃ g,h' = h ++ g ∧ SlT fI 1 (h ++ g) r (placesN (wsI is) is.length):=by
 refine SimCall.by hO.P res30 ?_
 unfold x30 r30
 repeat' first
  | simp (maxSteps:=1000000) only [go_sem,hv.len]
 refine SimLoop.inv [0,2,0,0] (fun k s=>∃ (i:Nat) (sv:AV) (g:AH),k = is.length - i ∧ i ≤ is.length ∧ OutN h.length sv (beginsN (wsI is) i) g ∧
  s = ⟨[v,.un,.un,sv,VI (psum (wsI is) i:Nat),VI i,.un,.un,.un,.un,.un,.un,.un,.un,.un,.un,.un,.un,.un,.un,.un,.un,.un,.un,.un,.un,.un,.un,.un,.un],h ++ g⟩) ?_ is.length ?_
 rotate_left
 ·exact ⟨0,_,[],rfl,Nat.zero_le _,.inl ⟨rfl,rfl,rfl⟩,by simp only [go_sem];rfl⟩
 rintro k s ⟨i,sv,g,rfl,hi,hout,rfl⟩
 have hbs:=beginsN_succ (wsI is) i
 have hbl:=beginsN_len (wsI is) i
 have hbi:=psum_bound is i
 generalize beginsN (wsI is) i = xs at hout hbs hbl
 have hxl:(xs.map VI).length = i:=by rw [List.length_map];exact hbl
 have htk:(xs.map VI).take xs.length = xs.map VI:=List.take_of_length_le (by omega)
 have hnle:¬ xs.length + 1 ≤ (xs.map VI).length:=by omega
 have hnle2:xs.length ≤ (xs.map VI).length:=by omega
 have hby:(xs.length + 1) * 8 ≤ 140737488355328:=by omega
 by_cases hlt:i < is.length
 ·have hlt':((i:Int) < is.length):=by omega
  have hw:=wrap_succ hlt (by omega)
  obtain ⟨p,hp1,hp2,hp3,hp4⟩:=hv.get Ins.len (by decide) (List.getElem?_eq_getElem hlt)
  have hps:=psum_wsI (List.getElem?_eq_getElem hlt)
  generalize is[i] = x at hp1 hp2 hp3 hp4 hps
  obtain ⟨p0,hp5,hp6,hp7⟩:=hp4 0 _ rfl
  obtain ⟨op,dst,src,off,imm⟩:=x
  simp only at hp6 hp7
  have hw1:IntKind.i64.wrap (((psum (wsI is) i:Nat):Int) + 1) = ((psum (wsI is) i:Nat):Int) + 1:=wrap_id (by omega) (by omega)
  have hw2:IntKind.i64.wrap (((psum (wsI is) i:Nat):Int) + 1 + 1) = ((psum (wsI is) i:Nat):Int) + 1 + 1:=wrap_id (by omega) (by omega)
  have hwd:wd ⟨op,dst,src,off,imm⟩ = if op = 24 then 2 else 1:=rfl
  have hfin:∀ (g:AH) (sv:AV) (m:Nat),psum (wsI is) (i + 1) = m → OutN h.length sv (xs ++ [(psum (wsI is) i:Int)]) g → ∃ k',k' < is.length - i ∧ ∃ (i_1:Nat) (sv_1:AV) (g_1:AH),k' = is.length - i_1 ∧ i_1 ≤ is.length ∧ OutN h.length sv_1 (beginsN (wsI is) i_1) g_1 ∧
   (⟨[v,.un,.un,sv,VI (m:Nat),VI ((i + 1:Nat):Int),.un,.un,.un,.un,.un,.un,.un,.un,.un,.un,.un,.un,.un,.un,.un,.un,.un,.un,.un,.un,.un,.un,.un,.un],h ++ g⟩:XSt) = ⟨[v,.un,.un,sv_1,VI (psum (wsI is) i_1:Nat),VI i_1,.un,.un,.un,.un,.un,.un,.un,.un,.un,.un,.un,.un,.un,.un,.un,.un,.un,.un,.un,.un,.un,.un,.un,.un],h ++ g_1⟩:=by
   rintro g sv m rfl ho
   exact ⟨is.length - (i + 1),by omega,i + 1,sv,g,rfl,by omega,by rw [hbs];exact ho,rfl⟩
  have he2:((psum (wsI is) i:Nat):Int) + 1 + 1 = ((psum (wsI is) i + 2:Nat):Int):=by omega
  have he1:((psum (wsI is) i:Nat):Int) + 1 = ((psum (wsI is) i + 1:Nat):Int):=by omega
  rcases hout with ⟨rfl,rfl,rfl⟩ | ⟨g1,g2,ver,rfl,rfl⟩
  ·skip
   repeat' first
    | ((with_reducible show wx _ (XCode.cond _ _ _) _ _);refine wx_if rfl (fun _=>?_) (fun _=>?_))
    | simp (maxSteps:=1000000) only [go_sem,hv.len,hlt',hw,hp1,hp5,hp6,hp7,hw1,hw2,List.append_nil,xRows,Nat.mul_one,Nat.zero_add]
   ·rename_i e
    rw [he2]
    exact hfin _ _ _ (by rw [hps,hwd,if_pos (by simpa using e)]) (.inr ⟨[.cells 0 [VI (psum (wsI is) i:Nat)]],[],0,rfl,rfl⟩)
   ·rename_i e
    rw [he1]
    exact hfin _ _ _ (by rw [hps,hwd,if_neg (by simpa using e)]) (.inr ⟨[.cells 0 [VI (psum (wsI is) i:Nat)]],[],0,rfl,rfl⟩)
  ·skip
   repeat' first
    | ((with_reducible show wx _ (XCode.cond _ _ _) _ _);refine wx_if rfl (fun _=>?_) (fun _=>?_))
    | simp (maxSteps:=1000000) only [go_sem,hv.len,hlt',hw,hp1,hp5,hp6,hp7,hw1,hw2,htk,hnle,hnle2,hby,xRows,Nat.mul_one,Nat.zero_add]
   ·rename_i e
    rw [he2]
    exact hfin _ _ _ (by rw [hps,hwd,if_pos (by simpa using e)]) (.inr ⟨g1,g2 ++ [.cells 0 [VI (psum (wsI is) i:Nat)]],ver + 1,by simp,by simp⟩)
   ·rename_i e
    rw [he1]
    exact hfin _ _ _ (by rw [hps,hwd,if_neg (by simpa using e)]) (.inr ⟨g1,g2 ++ [.cells 0 [VI (psum (wsI is) i:Nat)]],ver + 1,by simp,by simp⟩)
 ·have hlt':¬ ((i:Int) < is.length):=by omega
  have hin:i = is.length:=by omega
  subst hin
  rcases hout with ⟨rfl,rfl,rfl⟩ | ⟨g1,g2,ver,rfl,rfl⟩
  ·simp at hbl
   omega
  ·skip
   repeat' first
    | simp (maxSteps:=1000000) only [go_sem,hv.len,hlt',htk,hnle,hnle2,hby,xRows,Nat.mul_one,Nat.zero_add]
   have e:placesN (wsI is) is.length = xs ++ [((psum (wsI is) is.length:Nat):Int)]:=hbs
   rw [e]
   refine ⟨_,rfl,?_⟩
   have hl2:xs.length + 1 = (xs ++ [((psum (wsI is) is.length:Nat):Int)]).length:=by simp
   rw [hl2]
   refine SlT.whole (f:=fI) (l:=(xs ++ [((psum (wsI is) is.length:Nat):Int)]).map VI) (fun g=>?_) fI_len (flat_fI _).symm
   simp only [go_sem]
   simp
set_option maxRecDepth 100000 in
theorem c72 (hO:On cx) {h:AH} {v:AV} {is:List Ins} (hv:SlIns h v is) (hl:is.length < 1099511627776) (hne:0 < is.length) :
 SimCall cx 72 [v] h fun r h'=>h' = h ∧ r = VI ((wsI is).sum:Nat):=by
 refine SimCall.gc ?_
 refine SimCall.by hO.P res72 ?_
 unfold x72 r72
 repeat' first
  | simp (maxSteps:=1000000) only [go_sem,hv.len]
 refine (c30 hO hv hl hne).mono ?_
 rintro r h' ⟨g,rfl,hs⟩
 obtain ⟨p,hp1,hp2⟩:=hs.toI.2 is.length _ (places_get (Nat.le_refl _))
 have hpa:=psum_all (wsI is) (t:=is.length) (by rw [show (wsI is).length = is.length by simp [wsI]];exact Nat.le_refl _)
 repeat' first
  | simp (maxSteps:=1000000) only [go_sem,hv.len,hp1,hp2]
 rw [hpa]
 exact ⟨more_one,plain_v _,rfl⟩
end Go.Tidy
namespace Go.Tidy
open Go Go.Eng Go.Proofs
variable {cx:Cx}
theorem body_of {text:List Ins} {f:Fn} (h0:0 ≤ f.first) (h1:1 ≤ f.count):(text.drop f.first.toNat).take ((f.first + f.count).toNat - f.first.toNat) = body text f:=by
 unfold body
 congr 1
 omega
theorem SlT.loc {α:Type} {f:α → List AV} {sz:Nat} {h:AH} {v:AV} {xs:List α} (s:SlT f sz h v xs) {k:Nat} {p:AV} (hp:xIad sz v (VI k) = some p):(∃ id ver off,p = .ptr id ver off ∧ id < h.length) ∨ ∃ cs,p = .rp cs:=by
 cases s with
 | sl id ver off cs xs hrd hc=>
   have:=hrd []
   rw [List.append_nil] at this
   have hlt:=rd_lt this
   simp only [xIad] at hp
   split at hp
   ·simp only [Option.some.injEq] at hp
    exact .inl ⟨_,_,_,hp.symm,hlt⟩
   ·cases hp
 | ro fn xs hr=>
   simp only [xIad] at hp
   split at hp
   ·simp only [Option.some.injEq] at hp
    exact .inr ⟨_,hp.symm⟩
   ·cases hp
 | nl A c=>simp [xIad] at hp
set_option maxRecDepth 100000 in
set_option maxHeartbeats 4000000 in
theorem c26 (hO:On cx) {h:AH} {im got:Img} {tv fv bv tv' fv' bv':AV} (hr:ImgR h tv fv bv im) (hr':ImgR h tv' fv' bv' got) (hk:KeptOf im got)
 (hf:∀ f ∈ im.funcs,0 ≤ f.first ∧ 1 ≤ f.count ∧ f.first + f.count ≤ im.text.length) (hg:funcsB got.text.length 0 got.funcs = true) :
 SimCall cx 26 [.agg [tv,fv,bv,VI im.entry],.agg [tv',fv',bv',VI got.entry]] h fun r h'=>h' = h ∧ r = VB true:=by
 have c1:=hr.text.cell
 have c2:=hr.funcs.cell
 have c3:=hr.tables.cell
 have c4:=hr'.text.cell
 have c5:=hr'.funcs.cell
 have c6:=hr'.tables.cell
 have hlen:=hr.len
 have hlen':=hr'.len
 have hnf:=hr.nf
 have hfl:=hr'.funcs.len
 rw [hk.len] at hfl
 have hbt:=hr'.tables
 rw [hk.tables] at hbt
 have hen:=hk.entry
 have hgf:=funcsB_mem _ _ 0 (by omega) hg
 refine SimCall.gc ?_
 refine SimCall.by hO.P res26 ?_
 unfold x26 r26
 repeat' first
  | ((with_reducible show SemL _ _ _ _);refine SemL.of ?_)
  | ((with_reducible show SimCall _ 51 _ _ _);refine (c51 hO (hbt.more _) (hr.tables.more _) hr.nt).mono ?_;rintro r h' ⟨rfl,rfl⟩)
  | simp (maxSteps:=1000000) only [go_sem,c1,c2,c3,c4,c5,c6,hr.funcs.len,hfl,hen]
 refine SimLoop.inv [2,0,1,0] (fun k s=>∃ (i a:Nat) (G:AH),k = im.funcs.length - i ∧ i ≤ im.funcs.length ∧ a ≤ got.text.length ∧ funcsB got.text.length a (got.funcs.drop i) = true ∧
  s = ⟨[.un,.un,.ptr h.length 0 0,.ptr (h.length + 1) 0 0,.un,VI a,VI i,.un,.un,.un,.un,.un,.un,.un,.un,.un,.un,.un,.un,.un,.un,.un,.un,.un,.un,.un,.un,.un,.un,.un,.un,.un,.un,.un,.un,.un,.un,.un,.un,.un,.un,.un,.un,.un,.un,.un,.un,.un,.un,.un,.un,.un,.un,.un,.un,.un,.un,.un,.un,.un,.un,.un,.un,.un,.un,.un,.un,.un,.un,.un,.un,.un,.un,.un,.un,.un,.un,.un,.un,.un,.un,.un,.un,.un,.un,.un,.un,.un,.un,.un,.un,.un,.un,.un,.un,.un,.un,.un,.un],h ++ (.cells 0 [tv,fv,bv,VI im.entry] :: .cells 0 [tv',fv',bv',VI got.entry] :: G)⟩) ?_ im.funcs.length ?_
 rotate_left
 ·exact ⟨0,0,[],rfl,Nat.zero_le _,Nat.zero_le _,hg,by rw [hen];simp only [go_sem];rfl⟩
 rintro k s ⟨i,a,G,rfl,hi,ha,hfb,rfl⟩
 by_cases hlt:i < im.funcs.length
 ·have hlt':((i:Int) < im.funcs.length):=by omega
  have hw:=wrap_succ hlt (by omega)
  have hlt2:i < got.funcs.length:=by rw [hk.len];exact hlt
  have hfi:=List.getElem?_eq_getElem hlt
  have hgi:=List.getElem?_eq_getElem hlt2
  obtain ⟨hn,ho,hsl⟩:=hk.each i _ _ hfi hgi
  rw [List.drop_eq_getElem_cons hlt2] at hfb
  simp only [funcsB,Bool.and_eq_true,decide_eq_true_eq] at hfb
  obtain ⟨p,hp1,hp2,hp3,_⟩:=hr.funcs.get Fn.len (by decide) hfi
  obtain ⟨q,hq1,hq2,hq3,_⟩:=hr'.funcs.get Fn.len (by decide) hgi
  obtain ⟨e1,e2,e3⟩:=hf _ (List.getElem_mem hlt)
  obtain ⟨d1,d2,d3⟩:=hgf _ (List.getElem_mem hlt2)
  generalize im.funcs[i] = f at *
  generalize got.funcs[i] = g at *
  obtain ⟨bodyv,hs1,hs2⟩:=hr.text.sls (a:=f.first) (b:=f.first + f.count) Ins.len e1 (by omega) e3
  obtain ⟨bodyv',hs1',hs2'⟩:=hr'.text.sls (a:=g.first) (b:=g.first + g.count) Ins.len d1 (by omega) d3
  rw [body_of e1 e2] at hs2
  rw [body_of d1 d2] at hs2'
  have hbl:=body_len e1 e2 e3
  have hbl':=body_len d1 d2 d3
  have h72:=fun H:AH=>c72 (cx:=cx) hO (hs2.more H) (by omega) (by omega)
  have h72':=fun H:AH=>c72 (cx:=cx) hO (hs2'.more H) (by omega) (by omega)
  have h29:=fun H:AH=>c29 (cx:=cx) hO (hr.more H) hfi e1 e2 e3 hs1
  have h29':=fun H:AH=>c29 (cx:=cx) hO (hr'.more H) hgi d1 d2 d3 hs1'
  generalize hmf:body im.text f = isf at *
  generalize hmg:body got.text g = isg at *
  have hb1:=wsI_le isf
  have hb2:=wsI_le isg
  obtain ⟨gname,gobj,gfirst,gcount⟩:=g
  obtain ⟨fname,fobj,ffirst,fcount⟩:=f
  simp only at hn ho hfb d1 d2 d3 e1 e2 e3 hs1 hs1' hbl hbl' hsl
  subst hn ho
  obtain ⟨⟨⟨rfl,hc1⟩,hc2⟩,hfb⟩:=hfb
  obtain ⟨c,rfl⟩:∃ c:Nat,gcount = c:=⟨gcount.toNat,by omega⟩
  have hn1:¬ ((c:Int) < 1):=by omega
  have hw3:IntKind.i64.wrap ((got.text.length:Int) - a) = (got.text.length:Int) - a:=wrap_id (by omega) (by omega)
  have hn2:¬ ((got.text.length:Int) - a < c):=by omega
  have hw4:IntKind.i64.wrap ((a:Int) + c) = ((a + c:Nat):Int):=by rw [wrap_id (by omega) (by omega)];omega
  have hn3:¬ (((wsI isf).sum:Nat):Int) < (((wsI isg).sum:Nat):Int):=by omega
  have hfin:∀ G:AH,∃ k',k' < im.funcs.length - i ∧ ∃ (i_1 a_1:Nat) (G_1:AH),k' = im.funcs.length - i_1 ∧ i_1 ≤ im.funcs.length ∧ a_1 ≤ got.text.length ∧ funcsB got.text.length a_1 (got.funcs.drop i_1) = true ∧
   (⟨[.un,.un,.ptr h.length 0 0,.ptr (h.length + 1) 0 0,.un,VI ((a + c:Nat):Int),VI ((i + 1:Nat):Int),.un,.un,.un,.un,.un,.un,.un,.un,.un,.un,.un,.un,.un,.un,.un,.un,.un,.un,.un,.un,.un,.un,.un,.un,.un,.un,.un,.un,.un,.un,.un,.un,.un,.un,.un,.un,.un,.un,.un,.un,.un,.un,.un,.un,.un,.un,.un,.un,.un,.un,.un,.un,.un,.un,.un,.un,.un,.un,.un,.un,.un,.un,.un,.un,.un,.un,.un,.un,.un,.un,.un,.un,.un,.un,.un,.un,.un,.un,.un,.un,.un,.un,.un,.un,.un,.un,.un,.un,.un,.un,.un,.un],h ++ (.cells 0 [tv,fv,bv,VI im.entry] :: .cells 0 [tv',fv',bv',VI got.entry] :: G)⟩:XSt) =
   ⟨[.un,.un,.ptr h.length 0 0,.ptr (h.length + 1) 0 0,.un,VI a_1,VI i_1,.un,.un,.un,.un,.un,.un,.un,.un,.un,.un,.un,.un,.un,.un,.un,.un,.un,.un,.un,.un,.un,.un,.un,.un,.un,.un,.un,.un,.un,.un,.un,.un,.un,.un,.un,.un,.un,.un,.un,.un,.un,.un,.un,.un,.un,.un,.un,.un,.un,.un,.un,.un,.un,.un,.un,.un,.un,.un,.un,.un,.un,.un,.un,.un,.un,.un,.un,.un,.un,.un,.un,.un,.un,.un,.un,.un,.un,.un,.un,.un,.un,.un,.un,.un,.un,.un,.un,.un,.un,.un,.un,.un],h ++ (.cells 0 [tv,fv,bv,VI im.entry] :: .cells 0 [tv',fv',bv',VI got.entry] :: G_1)⟩:=fun G=>
   ⟨im.funcs.length - (i + 1),by omega,i + 1,a + c,G,rfl,by omega,by omega,by rw [show ((a + c:Nat):Int) = (a:Int) + (c:Int) by omega];exact hfb,rfl⟩
  have ha1:∀ G:AH,h.length + (G.length + 1 + 1) + 1 = h.length + (G.length + 1 + 1 + 1):=fun _=>rfl
  have ha2:∀ G:AH,h.length < h.length + (G.length + 1 + 1):=fun G=>by omega
  have ha3:∀ G:AH,h.length + 1 < h.length + (G.length + 1 + 1):=fun G=>by omega
  have ha4:∀ G:AH,h.length + (G.length + 1 + 1) < h.length + (G.length + 1 + 1) + 2:=fun G=>by omega
  have ha5:∀ G:AH,h.length + (G.length + 1 + 1) ≤ h.length + (G.length + 1 + 1 + 1):=fun G=>by omega
  have ha6:∀ G:AH,h.length + (G.length + 1 + 1 + 1) < h.length + (G.length + 1 + 1) + 2:=fun G=>by omega
  rcases hr.funcs.loc hp1 with ⟨id,ver,off,rfl,hid⟩ | ⟨cs,rfl⟩ <;> rcases hr'.funcs.loc hq1 with ⟨id',ver',off',rfl,hid'⟩ | ⟨cs',rfl⟩
  ·skip
   have hx:∀ n,id < h.length + n:=fun n=>by omega
   have hx':∀ n,id' < h.length + n:=fun n=>by omega
   repeat' first
    | ((with_reducible show SemL _ _ _ _);refine SemL.of ?_)
    | ((with_reducible show dK _ 29 _ _ _);refine dK_app _ _ (h29 _) ?_)
    | ((with_reducible show dK _ 29 _ _ _);refine dK_app _ _ (h29' _) ?_)
    | ((with_reducible show dK _ 72 _ _ _);refine dK_of _ (h72 _) ?_)
    | ((with_reducible show dK _ 72 _ _ _);refine dK_of _ (h72' _) ?_)
    | simp (maxSteps:=1000000) only [go_sem,c1,c2,c3,c4,c5,c6,hr.funcs.len,hfl,hr'.text.len,hlt',hw,hp1,hp2,hp3,hq1,hq2,hq3,Fn.row,hn1,hw3,hn2,hw4,hn3,hx,hx',ha1,ha2,ha3,ha4,ha5,ha6,true_or,true_and,implies_true]
   exact hfin _
  ·skip
   have hx:∀ n,id < h.length + n:=fun n=>by omega
   repeat' first
    | ((with_reducible show SemL _ _ _ _);refine SemL.of ?_)
    | ((with_reducible show dK _ 29 _ _ _);refine dK_app _ _ (h29 _) ?_)
    | ((with_reducible show dK _ 29 _ _ _);refine dK_app _ _ (h29' _) ?_)
    | ((with_reducible show dK _ 72 _ _ _);refine dK_of _ (h72 _) ?_)
    | ((with_reducible show dK _ 72 _ _ _);refine dK_of _ (h72' _) ?_)
    | simp (maxSteps:=1000000) only [go_sem,c1,c2,c3,c4,c5,c6,hr.funcs.len,hfl,hr'.text.len,hlt',hw,hp1,hp2,hp3,hq1,hq2,hq3,Fn.row,hn1,hw3,hn2,hw4,hn3,hx,ha1,ha2,ha3,ha4,ha5,ha6,true_or,true_and,implies_true]
   exact hfin _
  ·skip
   have hx':∀ n,id' < h.length + n:=fun n=>by omega
   repeat' first
    | ((with_reducible show SemL _ _ _ _);refine SemL.of ?_)
    | ((with_reducible show dK _ 29 _ _ _);refine dK_app _ _ (h29 _) ?_)
    | ((with_reducible show dK _ 29 _ _ _);refine dK_app _ _ (h29' _) ?_)
    | ((with_reducible show dK _ 72 _ _ _);refine dK_of _ (h72 _) ?_)
    | ((with_reducible show dK _ 72 _ _ _);refine dK_of _ (h72' _) ?_)
    | simp (maxSteps:=1000000) only [go_sem,c1,c2,c3,c4,c5,c6,hr.funcs.len,hfl,hr'.text.len,hlt',hw,hp1,hp2,hp3,hq1,hq2,hq3,Fn.row,hn1,hw3,hn2,hw4,hn3,hx',ha1,ha2,ha3,ha4,ha5,ha6,true_or,true_and,implies_true]
   exact hfin _
  ·skip
   repeat' first
    | ((with_reducible show SemL _ _ _ _);refine SemL.of ?_)
    | ((with_reducible show dK _ 29 _ _ _);refine dK_app _ _ (h29 _) ?_)
    | ((with_reducible show dK _ 29 _ _ _);refine dK_app _ _ (h29' _) ?_)
    | ((with_reducible show dK _ 72 _ _ _);refine dK_of _ (h72 _) ?_)
    | ((with_reducible show dK _ 72 _ _ _);refine dK_of _ (h72' _) ?_)
    | simp (maxSteps:=1000000) only [go_sem,c1,c2,c3,c4,c5,c6,hr.funcs.len,hfl,hr'.text.len,hlt',hw,hp1,hp2,hp3,hq1,hq2,hq3,Fn.row,hn1,hw3,hn2,hw4,hn3,ha1,ha2,ha3,ha4,ha5,ha6,true_or,true_and,implies_true]
   exact hfin _
 ·have hlt':¬ ((i:Int) < im.funcs.length):=by omega
  rw [List.drop_eq_nil_of_le (by rw [hk.len];omega)] at hfb
  simp only [funcsB,decide_eq_true_eq] at hfb
  repeat' first
   | simp (maxSteps:=1000000) only [go_sem,hr.funcs.len,hr'.text.len,hfb,hlt']
  exact ⟨more_one,plain_v _⟩
end Go.Tidy
namespace Go.Tidy
open Go Go.Eng Go.Proofs
variable {cx:Cx}
set_option maxRecDepth 100000 in
theorem c60 (hO:On cx) {h:AH} {v1 v2:AV} {ts:List Ins} (h1:SlT Ins.row 5 h v1 ts) (h2:SlT Ins.row 5 h v2 ts) (hl:ts.length < 1099511627776):SimCall cx 60 [v1,v2] h fun r h'=>h' = h ∧ r = VB true:=by
 refine SimCall.gc ?_
 refine SimCall.by hO.P res60 ?_
 unfold x60 r60
 repeat' first
  | simp (maxSteps:=1000000) only [go_sem,h1.len,h2.len]
 refine SimLoop.inv [0,0,3] (fun k s=>∃ (i:Nat),k = ts.length - i ∧ i ≤ ts.length ∧ s = ⟨[v1,v2,.un,.un,.un,VI i,.un,.un,.un,.un,.un,.un,.un,.un,.un,.un,.un,.un,.un,.un,.un,.un,.un,.un,.un,.un],h⟩) ?_ ts.length ?_
 rotate_left
 ·exact ⟨0,rfl,Nat.zero_le _,by simp only [go_sem];rfl⟩
 rintro k s ⟨i,rfl,hi,rfl⟩
 by_cases hlt:i < ts.length
 ·have hlt':((i:Int) < ts.length):=by omega
  have hw:=wrap_succ hlt (by omega)
  obtain ⟨p,hp1,hp2,hp3,_⟩:=h1.get Ins.len (by decide) (List.getElem?_eq_getElem hlt)
  obtain ⟨q,hq1,hq2,hq3,_⟩:=h2.get Ins.len (by decide) (List.getElem?_eq_getElem hlt)
  generalize ts[i] = t at *
  obtain ⟨op,dst,src,off,imm⟩:=t
  have hxe:xEq ⟨true,[1,1,1,1,1]⟩ (.agg [VI op,VI dst,VI src,VI off,VI imm]) (.agg [VI op,VI dst,VI src,VI off,VI imm]) = some true:=by
   simp [xEq,xEqs,sameOne]
  repeat' first
   | simp (maxSteps:=1000000) only [go_sem,h1.len,h2.len,hlt',hw,hp1,hp2,hp3,hq1,hq2,hq3,Ins.row,hxe]
  exact ⟨ts.length - (i + 1),by omega,i + 1,rfl,by omega,rfl⟩
 ·have hlt':¬ ((i:Int) < ts.length):=by omega
  repeat' first
   | simp (maxSteps:=1000000) only [go_sem,h1.len,h2.len,hlt']
  all_goals first | exact ⟨more_one,plain_v _⟩ | exact ⟨more_nil,plain_v _⟩ | refine ⟨by first | exact more_one | exact more_nil,by first | exact plain_v _ | exact plain_tup (by simp [Plain.v]),?_⟩
  all_goals try simp only [decide_eq_true_eq,decide_eq_false_iff_not,Bool.not_eq_true',Bool.not_eq_false',AV.v.injEq,AV.tup.injEq,List.cons.injEq,Value.int.injEq,Value.bool.injEq,true_and,and_true] at *
  all_goals (try simp only [band] at *)
  all_goals (try simp_all)
  all_goals grind
set_option maxRecDepth 100000 in
theorem c71 (hO:On cx) {h:AH} {v1 v2:AV} {ts:List Fn} (h1:SlT Fn.row 4 h v1 ts) (h2:SlT Fn.row 4 h v2 ts) (hl:ts.length < 1099511627776):SimCall cx 71 [v1,v2] h fun r h'=>h' = h ∧ r = VB true:=by
 refine SimCall.gc ?_
 refine SimCall.by hO.P res71 ?_
 unfold x71 r71
 repeat' first
  | simp (maxSteps:=1000000) only [go_sem,h1.len,h2.len]
 refine SimLoop.inv [0,0,3] (fun k s=>∃ (i:Nat),k = ts.length - i ∧ i ≤ ts.length ∧ s = ⟨[v1,v2,.un,.un,.un,VI i,.un,.un,.un,.un,.un,.un,.un,.un,.un,.un,.un,.un,.un,.un,.un,.un,.un,.un,.un,.un],h⟩) ?_ ts.length ?_
 rotate_left
 ·exact ⟨0,rfl,Nat.zero_le _,by simp only [go_sem];rfl⟩
 rintro k s ⟨i,rfl,hi,rfl⟩
 by_cases hlt:i < ts.length
 ·have hlt':((i:Int) < ts.length):=by omega
  have hw:=wrap_succ hlt (by omega)
  obtain ⟨p,hp1,hp2,hp3,_⟩:=h1.get Fn.len (by decide) (List.getElem?_eq_getElem hlt)
  obtain ⟨q,hq1,hq2,hq3,_⟩:=h2.get Fn.len (by decide) (List.getElem?_eq_getElem hlt)
  generalize ts[i] = t at *
  obtain ⟨name,obj,first,count⟩:=t
  have hxe:xEq ⟨true,[2,1,1,1]⟩ (.agg [.v (.string name),VI obj,VI first,VI count]) (.agg [.v (.string name),VI obj,VI first,VI count]) = some true:=by
   simp [xEq,xEqs,sameOne]
  repeat' first
   | simp (maxSteps:=1000000) only [go_sem,h1.len,h2.len,hlt',hw,hp1,hp2,hp3,hq1,hq2,hq3,Fn.row,hxe]
  exact ⟨ts.length - (i + 1),by omega,i + 1,rfl,by omega,rfl⟩
 ·have hlt':¬ ((i:Int) < ts.length):=by omega
  repeat' first
   | simp (maxSteps:=1000000) only [go_sem,h1.len,h2.len,hlt']
  all_goals first | exact ⟨more_one,plain_v _⟩ | exact ⟨more_nil,plain_v _⟩ | refine ⟨by first | exact more_one | exact more_nil,by first | exact plain_v _ | exact plain_tup (by simp [Plain.v]),?_⟩
  all_goals try simp only [decide_eq_true_eq,decide_eq_false_iff_not,Bool.not_eq_true',Bool.not_eq_false',AV.v.injEq,AV.tup.injEq,List.cons.injEq,Value.int.injEq,Value.bool.injEq,true_and,and_true] at *
  all_goals (try simp only [band] at *)
  all_goals (try simp_all)
  all_goals grind
structure Stays (P:Nat → Prop) (h h':AH):Prop where
 len:h.length ≤ h'.length
 at_:∀ id,id < h.length → ¬ P id → h'[id]? = h[id]?
theorem Stays.refl {P:Nat → Prop} (h:AH):Stays P h h:=⟨Nat.le_refl _,fun _ _ _=>rfl⟩
theorem Stays.trans {P:Nat → Prop} {a b c:AH} (x:Stays P a b) (y:Stays P b c):Stays P a c:=
 ⟨Nat.le_trans x.len y.len,fun id hi hp=>(y.at_ id (by have:=x.len;omega) hp).trans (x.at_ id hi hp)⟩
theorem Stays.mono {P Q:Nat → Prop} {a b:AH} (x:Stays P a b) (h:∀ id,id < a.length → P id → Q id):Stays Q a b:=⟨x.len,fun id hi hq=>x.at_ id hi fun hp=>hq (h id hi hp)⟩
theorem Stays.app {P:Nat → Prop} (h g:AH):Stays P h (h ++ g):=⟨by simp,fun id hi _=>List.getElem?_append_left hi⟩
theorem Stays.set (h:AH) (id:Nat) (o:AO):Stays (· = id) h (h.set id o):=⟨by simp,fun i _ hp=>by rw [List.getElem?_set_ne (fun e=>hp e.symm)]⟩
theorem rd_at {h h':AH} {id ver:Nat} (e:h'[id]? = h[id]?):AH.rd h' id ver = AH.rd h id ver:=by unfold AH.rd;rw [e]
theorem get_of {h:AH} {id ver:Nat} {cs:List AV} (e:h[id]? = some (.cells ver cs)):AH.get h id ver = some cs:=by unfold AH.get;rw [e];simp
theorem rd_of {h:AH} {id ver:Nat} {cs:List AV} (e:h[id]? = some (.cells ver cs)):AH.rd h id ver = some cs:=by unfold AH.rd;rw [e];simp
section
variable {α:Type} {f:α → List AV} {sz:Nat} {h h':AH} {v:AV} {xs:List α} {P:Nat → Prop}
theorem SlT.stays (s:SlT f sz h v xs) (k:Stays P h h') (hp:∀ id,v.at_ = some id → ¬ P id):SlT f sz h' v xs:=by
 cases s with
 | sl id ver off cs xs hrd hc=>
   have h0:=hrd []
   rw [List.append_nil] at h0
   have hlt:=rd_lt h0
   have h1:=(rd_at (ver:=ver) (k.at_ id hlt (hp id rfl))).trans h0
   refine .sl id ver off cs xs (fun g=>?_) hc
   rw [← h1]
   exact rd_at (List.getElem?_append_left (by have:=k.len;omega))
 | ro fn xs hr=>exact .ro fn xs hr
 | nl A c=>exact .nl A c
theorem WSl.at_lt (s:WSl f sz h v xs) {id:Nat} (hid:v.at_ = some id):id < h.length:=by
 rcases s with ⟨rfl,_⟩ | ⟨i,ver,rfl,ho⟩
 ·cases hid
 ·cases hid
  exact (List.getElem?_eq_some_iff.1 ho).1
theorem WSl.stays (s:WSl f sz h v xs) (k:Stays P h h') (hp:∀ id,v.at_ = some id → ¬ P id):WSl f sz h' v xs:=by
 rcases s with h0 | ⟨i,ver,rfl,ho⟩
 ·exact .inl h0
 ·exact .inr ⟨i,ver,rfl,(k.at_ i (List.getElem?_eq_some_iff.1 ho).1 (hp i rfl)).trans ho⟩
theorem Rows.stays (hf:∀ x,(f x).length = sz) (hsz:0 < sz) (s:Rows f sz h v xs) (k:Stays P h h') (hp:∀ id,v.at_ = some id → ¬ P id):Rows f sz h' v xs:=by
 refine ⟨s.sl.stays k hp,fun g=>?_⟩
 have h0:=s.rows []
 rw [List.append_nil] at h0
 rw [← h0]
 refine xRows_congr fun id hid=>?_
 have hlt:id < h.length:=s.sl.at_lt hid
 rw [List.getElem?_append_left (by have:=k.len;omega),k.at_ id hlt (hp id hid)]
end
structure IA where
 t:AV
 f:AV
 b:AV
 e:Int
abbrev IA.row (a:IA):List AV:=[a.t,a.f,a.b,VI a.e]
theorem IA.len (a:IA):a.row.length = 4:=rfl
def IA.ids (a:IA):List Nat:=[a.t,a.f,a.b].filterMap AV.at_
structure ImS (h:AH) (a:IA) (im:Img):Prop where
 t:Rows Ins.row 5 h a.t im.text
 f:Rows Fn.row 4 h a.f im.funcs
 b:Rows Tab.row 5 h a.b im.tables
 e:a.e = im.entry
 nt:im.text.length < 1099511627776
 nf:im.funcs.length < 1099511627776
 nb:im.tables.length < 1099511627776
theorem ImS.stays {h h':AH} {a:IA} {im:Img} {P:Nat → Prop} (s:ImS h a im) (k:Stays P h h') (hp:∀ id ∈ a.ids,¬ P id):ImS h' a im:=
 ⟨s.t.stays Ins.len (by decide) k fun id hid=>hp id (by simp [IA.ids,hid]),s.f.stays Fn.len (by decide) k fun id hid=>hp id (List.mem_filterMap.2 ⟨a.f,by simp,hid⟩),s.b.stays Tab.len (by decide) k fun id hid=>hp id (List.mem_filterMap.2 ⟨a.b,by simp,hid⟩),s.e,s.nt,s.nf,s.nb⟩
theorem ImS.lt {h:AH} {a:IA} {im:Img} (s:ImS h a im) {id:Nat} (hid:id ∈ a.ids):id < h.length:=by
 obtain ⟨v,hv,he⟩:=List.mem_filterMap.1 hid
 simp only [List.mem_cons,List.not_mem_nil,or_false] at hv
 rcases hv with rfl | rfl | rfl
 ·exact s.t.sl.at_lt he
 ·exact s.f.sl.at_lt he
 ·exact s.b.sl.at_lt he
def Same (h:AH) (a b:IA):Prop:=∃ im,ImS h a im ∧ ImS h b im
theorem Same.stays {h h':AH} {a b:IA} {P:Nat → Prop} (s:Same h a b) (k:Stays P h h') (hp:∀ id ∈ a.ids,¬ P id) (hq:∀ id ∈ b.ids,¬ P id):Same h' a b:=by
 obtain ⟨im,h1,h2⟩:=s
 exact ⟨im,h1.stays k hp,h2.stays k hq⟩
set_option maxRecDepth 100000 in
theorem c25 (hO:On cx) {h:AH} {a b:IA} (hs:Same h a b):SimCall cx 25 [.agg a.row,.agg b.row] h fun r h'=>h' = h ∧ r = VB true:=by
 obtain ⟨im,h1,h2⟩:=hs
 obtain ⟨t,f,b1,e⟩:=a
 obtain ⟨t',f',b',e'⟩:=b
 obtain ⟨p1,p2,p3,rfl,p4,p5,p6⟩:=h1
 obtain ⟨q1,q2,q3,rfl,_,_,_⟩:=h2
 simp only at p1 p2 p3 q1 q2 q3
 have c1:=p1.sl.cell
 have c2:=p2.sl.cell
 have c3:=p3.sl.cell
 have c4:=q1.sl.cell
 have c5:=q2.sl.cell
 have c6:=q3.sl.cell
 refine SimCall.gc ?_
 refine SimCall.by hO.P res25 ?_
 unfold x25 r25
 repeat' first
  | ((with_reducible show SemL _ _ _ _);refine SemL.of ?_)
  | ((with_reducible show SimCall _ 60 _ _ _);refine (c60 hO (p1.sl.more _) (q1.sl.more _) p4).mono ?_;rintro r h' ⟨rfl,rfl⟩)
  | ((with_reducible show SimCall _ 71 _ _ _);refine (c71 hO (p2.sl.more _) (q2.sl.more _) p5).mono ?_;rintro r h' ⟨rfl,rfl⟩)
  | ((with_reducible show SimCall _ 51 _ _ _);refine (c51 hO (p3.sl.more _) (q3.sl.more _) p6).mono ?_;rintro r h' ⟨rfl,rfl⟩)
  | simp (maxSteps:=1000000) only [go_sem,c1,c2,c3,c4,c5,c6,IA.row]
 all_goals first | exact ⟨more_one,plain_v _⟩ | exact ⟨more_nil,plain_v _⟩ | refine ⟨by first | exact more_one | exact more_nil,by first | exact plain_v _ | exact plain_tup (by simp [Plain.v]),?_⟩
 all_goals try simp only [decide_eq_true_eq,decide_eq_false_iff_not,Bool.not_eq_true',Bool.not_eq_false',AV.v.injEq,AV.tup.injEq,List.cons.injEq,Value.int.injEq,Value.bool.injEq,true_and,and_true] at *
 all_goals (try simp only [band] at *)
 all_goals (try simp_all)
 all_goals grind
def Dj (a b:AV):Prop:=∀ id,a.at_ = some id → b.at_ ≠ some id
structure ShO (h:AH) (S:Nat) (cnt tot:Int) (F W K V:List IA) (fS wS kS vS:AV):Prop where
 at_:h[S]? = some (.cells 0 [VI cnt,VI tot,VB false,fS,wS,kS,vS])
 f:WSl IA.row 4 h fS F
 w:WSl IA.row 4 h wS W
 k:WSl IA.row 4 h kS K
 v:WSl IA.row 4 h vS V
 sf:fS.at_ ≠ some S
 sw:wS.at_ ≠ some S
 sk:kS.at_ ≠ some S
 sv:vS.at_ ≠ some S
 fw:Dj fS wS
 fk:Dj fS kS
 fv:Dj fS vS
 wk:Dj wS kS
 wv:Dj wS vS
 kv:Dj kS vS
def Pairs (h:AH) (A B:List IA):Prop:=A.length = B.length ∧ ∀ (i:Nat) a b,A[i]? = some a → B[i]? = some b → Same h a b
set_option maxRecDepth 100000 in
theorem c129 (hO:On cx) {h:AH} {S:Nat} {cnt tot:Int} {F W K V:List IA} {fS wS kS vS:AV} (hs:ShO h S cnt tot F W K V fS wS kS vS) (hp:Pairs h F W) (hl:F.length < 1099511627776) :
 SimCall cx 129 [.ptr S 0 0] h fun r h'=>h' = h ∧ r = VB true:=by
 have hS:AH.rd h S 0 = _:=rd_of hs.at_
 have h1:=(hs.f.rows IA.len).sl
 have h2:=(hs.w.rows IA.len).sl
 refine SimCall.by hO.P res129 ?_
 unfold x129 r129
 repeat' first
  | simp (maxSteps:=1000000) only [go_sem,hS,h1.len]
 refine SimLoop.inv [0,2] (fun k s=>∃ (i:Nat),k = F.length - i ∧ i ≤ F.length ∧ s = ⟨[.ptr S 0 0,.un,.un,VI i,.un,.un,.un,.un,.un,.un,.un,.un,.un,.un,.un,.un,.un,.un,.un,.un,.un,.un,.un,.un,.un,.un,.un,.un,.un],h⟩) ?_ F.length ?_
 rotate_left
 ·exact ⟨0,rfl,Nat.zero_le _,by simp only [go_sem];rfl⟩
 rintro k s ⟨i,rfl,hi,rfl⟩
 by_cases hlt:i < F.length
 ·have hlt':((i:Int) < F.length):=by omega
  have hw:=wrap_succ hlt (by omega)
  have hlt2:i < W.length:=by rw [← hp.1];exact hlt
  obtain ⟨p,hp1,hp2,_,_⟩:=h1.get IA.len (by decide) (List.getElem?_eq_getElem hlt)
  obtain ⟨q,hq1,hq2,_,_⟩:=h2.get IA.len (by decide) (List.getElem?_eq_getElem hlt2)
  have hsm:=hp.2 i _ _ (List.getElem?_eq_getElem hlt) (List.getElem?_eq_getElem hlt2)
  generalize F[i] = a at *
  generalize W[i] = b at *
  repeat' first
   | ((with_reducible show dK _ 25 _ _ _);refine dK_of _ (c25 hO hsm) ?_)
   | simp (maxSteps:=1000000) only [go_sem,hS,h1.len,h2.len,hlt',hw,hp1,hp2,hq1,hq2]
  exact ⟨F.length - (i + 1),by omega,i + 1,rfl,by omega,rfl⟩
 ·have hlt':¬ ((i:Int) < F.length):=by omega
  repeat' first
   | simp (maxSteps:=1000000) only [go_sem,hS,h1.len,hlt']
  all_goals exact ⟨rfl,rfl⟩
set_option maxRecDepth 100000 in
theorem c130 (hO:On cx) {h:AH} {S:Nat} {cnt tot:Int} {F W K V:List IA} {fS wS kS vS:AV} (hs:ShO h S cnt tot F W K V fS wS kS vS) (hp:Pairs h K V) (hl:K.length < 1099511627776) :
 SimCall cx 130 [.ptr S 0 0] h fun r h'=>h' = h ∧ r = VB true:=by
 have hS:AH.rd h S 0 = _:=rd_of hs.at_
 have h1:=(hs.k.rows IA.len).sl
 have h2:=(hs.v.rows IA.len).sl
 refine SimCall.by hO.P res130 ?_
 unfold x130 r130
 repeat' first
  | simp (maxSteps:=1000000) only [go_sem,hS,h1.len]
 refine SimLoop.inv [0,2] (fun k s=>∃ (i:Nat),k = K.length - i ∧ i ≤ K.length ∧ s = ⟨[.ptr S 0 0,.un,.un,VI i,.un,.un,.un,.un,.un,.un,.un,.un,.un,.un,.un,.un,.un,.un,.un,.un,.un,.un,.un,.un,.un,.un,.un,.un,.un],h⟩) ?_ K.length ?_
 rotate_left
 ·exact ⟨0,rfl,Nat.zero_le _,by simp only [go_sem];rfl⟩
 rintro k s ⟨i,rfl,hi,rfl⟩
 by_cases hlt:i < K.length
 ·have hlt':((i:Int) < K.length):=by omega
  have hw:=wrap_succ hlt (by omega)
  have hlt2:i < V.length:=by rw [← hp.1];exact hlt
  obtain ⟨p,hp1,hp2,_,_⟩:=h1.get IA.len (by decide) (List.getElem?_eq_getElem hlt)
  obtain ⟨q,hq1,hq2,_,_⟩:=h2.get IA.len (by decide) (List.getElem?_eq_getElem hlt2)
  have hsm:=hp.2 i _ _ (List.getElem?_eq_getElem hlt) (List.getElem?_eq_getElem hlt2)
  generalize K[i] = a at *
  generalize V[i] = b at *
  repeat' first
   | ((with_reducible show dK _ 25 _ _ _);refine dK_of _ (c25 hO hsm) ?_)
   | simp (maxSteps:=1000000) only [go_sem,hS,h1.len,h2.len,hlt',hw,hp1,hp2,hq1,hq2]
  exact ⟨K.length - (i + 1),by omega,i + 1,rfl,by omega,rfl⟩
 ·have hlt':¬ ((i:Int) < K.length):=by omega
  repeat' first
   | simp (maxSteps:=1000000) only [go_sem,hS,h1.len,hlt']
  all_goals exact ⟨rfl,rfl⟩
set_option maxRecDepth 100000 in
theorem c74 (hO:On cx) {h:AH} {S:Nat} {cnt tot:Int} {F W K V:List IA} {fS wS kS vS:AV} (hs:ShO h S cnt tot F W K V fS wS kS vS) (hp:Pairs h F W) (hq:Pairs h K V) (hl:F.length < 1099511627776) (hl2:K.length < 1099511627776) :
 SimCall cx 74 [.ptr S 0 0] h fun r h'=>h' = h ∧ r = VB true:=by
 have hS:AH.rd h S 0 = _:=rd_of hs.at_
 refine SimCall.by hO.P res74 ?_
 unfold x74 r74
 repeat' first
  | ((with_reducible show SemL _ _ _ _);refine SemL.of ?_)
  | ((with_reducible show SimCall _ 129 _ _ _);refine (c129 hO hs hp hl).mono ?_;rintro r h' ⟨rfl,rfl⟩)
  | ((with_reducible show SimCall _ 130 _ _ _);refine (c130 hO hs hq hl2).mono ?_;rintro r h' ⟨rfl,rfl⟩)
  | simp (maxSteps:=1000000) only [go_sem,hS]
 all_goals exact ⟨rfl,rfl⟩
end Go.Tidy
namespace Go.Tidy
open Go Go.Eng Go.Proofs
variable {cx:Cx}
def mT (j:Nat):Ins:=⟨-7 - j,0,0,0,0⟩
def mF (j:Nat):Fn:=⟨⟨#[98,101,104,105,110,100]⟩,0,-j,0⟩
def mB (j:Nat):Tab:=⟨⟨#[98,101,104,105,110,100]⟩,-j,0,0,0⟩
theorem range_snoc {α:Type} (g:Nat → α) (j:Nat):(List.range (j + 1)).map g = (List.range j).map g ++ [g j]:=by rw [List.range_succ,List.map_append];rfl
theorem app_snoc {α:Type} (xs:List α) (g:Nat → α) (j:Nat):xs ++ (List.range (j + 1)).map g = (xs ++ (List.range j).map g) ++ [g j]:=by rw [range_snoc,List.append_assoc]
theorem flat_snoc {α:Type} (f:α → List AV) (xs:List α) (g:Nat → α) (j:Nat):(xs ++ (List.range (j + 1)).map g).flatMap f = (xs ++ (List.range j).map g).flatMap f ++ f (g j):=by
 rw [app_snoc,List.flatMap_append,List.flatMap_singleton]
structure LentO (h:AH) (im:Img) (a va b vb d vd:Nat):Prop where
 t:h[a]? = some (.cells va ((im.text ++ (List.range (im.text.length + 70)).map mT).flatMap Ins.row))
 f:h[b]? = some (.cells vb ((im.funcs ++ (List.range (im.funcs.length + 70)).map mF).flatMap Fn.row))
 b:h[d]? = some (.cells vd ((im.tables ++ (List.range (im.tables.length + 70)).map mB).flatMap Tab.row))
set_option maxRecDepth 100000 in
set_option maxHeartbeats 4000000 in
theorem c22 (hO:On cx) {h:AH} {tv fv bv:AV} {im:Img} (ht:Rows Ins.row 5 h tv im.text) (hf:Rows Fn.row 4 h fv im.funcs) (hb:Rows Tab.row 5 h bv im.tables)
 (h1:im.text.length < 1099511627776) (h2:im.funcs.length < 1099511627776) (h3:im.tables.length < 1099511627776) :
 SimCall cx 22 [.agg [tv,fv,bv,VI im.entry]] h fun r h'=>∃ g va vb vd,h' = h ++ g ∧ r = .agg [.sl (h.length + 4) va 0 im.text.length 5,.sl (h.length + 5) vb 0 im.funcs.length 4,.sl (h.length + 6) vd 0 im.tables.length 5,VI im.entry] ∧
  LentO (h ++ g) im (h.length + 4) va (h.length + 5) vb (h.length + 6) vd:=by
 have c1:=ht.sl.cell
 have c2:=hf.sl.cell
 have c3:=hb.sl.cell
 refine SimCall.by hO.P res22 ?_
 unfold x22 r22
 repeat' first
  | simp (maxSteps:=1000000) only [go_sem,c1,c2,c3]
 refine (c28x hO (ht.more _) (hf.more _) (hb.more _) h1 h2 h3).mono ?_
 rintro r h' ⟨rfl,rfl⟩
 simp only [cpA,cpO]
 repeat' first
  | simp (maxSteps:=1000000) only [go_sem,c1,c2,c3]
 have tl:=fun j=>cells_len (f:=Ins.row) (sz:=5) Ins.len (im.text ++ (List.range j).map mT)
 have fl:=fun j=>cells_len (f:=Fn.row) (sz:=4) Fn.len (im.funcs ++ (List.range j).map mF)
 have bl:=fun j=>cells_len (f:=Tab.row) (sz:=5) Tab.len (im.tables ++ (List.range j).map mB)
 simp only [List.length_append,List.length_map,List.length_range] at tl fl bl
 refine SimLoop.inv [1,0,0,0] (fun k s=>∃ (j va:Nat) (G:AH),k = im.text.length + 70 - j ∧ j ≤ im.text.length + 70 ∧
  s = ⟨[.un,.ptr h.length 0 0,.ptr (h.length + 1) 0 0,.ptr (h.length + 7) 0 0,VI j,.un,.un,.un,.un,.un,.un,.un,.un,.un,.un,.un,.un,.un,.un,.un,.un,.un,.un,.un,.un,.un,.un,.un,.un,.un,.un,.un,.un,.un,.un,.un,.un,.un,.un,.un,.un,.un,.un,.un,.un,.un,.un,.un,.un,.un,.un,.un,.un,.un,.un,.un,.un,.un,.un,.un,.un,.un,.un,.un,.un,.un,.un,.un,.un,.un,.un,.un,.un,.un,.un,.un,.un,.un,.un],
    h ++ (.cells 0 [tv,fv,bv,VI im.entry] :: .cells 0 [nilS,nilS,nilS,VI 0] :: .cells 0 [tv,fv,bv,VI im.entry] :: .cells 0 [.sl (h.length + 4) (cpV im.text.length) 0 im.text.length 5,.sl (h.length + 5) (cpV im.funcs.length) 0 im.funcs.length 4,.sl (h.length + 6) (cpV im.tables.length) 0 im.tables.length 5,VI im.entry] ::
      .cells va ((im.text ++ (List.range j).map mT).flatMap Ins.row) :: .cells (cpV im.funcs.length) (im.funcs.flatMap Fn.row) :: .cells (cpV im.tables.length) (im.tables.flatMap Tab.row) ::
      .cells 0 [.sl (h.length + 4) va 0 (im.text.length + j) 5,.sl (h.length + 5) (cpV im.funcs.length) 0 im.funcs.length 4,.sl (h.length + 6) (cpV im.tables.length) 0 im.tables.length 5,VI im.entry] :: G)⟩) ?_ (im.text.length + 70) ?_
 rotate_left
 ·exact ⟨0,cpV im.text.length,[],rfl,Nat.zero_le _,by simp only [go_sem,List.range_zero,List.map_nil];rfl⟩
 rintro k s ⟨j,va,G,rfl,hj,rfl⟩
 have hw70:IntKind.i64.wrap ((im.text.length:Int) + 70) = ((im.text.length + 70:Nat):Int):=by rw [wrap_id (by omega) (by omega)];rfl
 by_cases hlt:j < im.text.length + 70
 ·have hlt':((j:Int) < ((im.text.length + 70:Nat):Int)):=by omega
  have hw:=wrap_succ hlt (by omega)
  have hw2:IntKind.i64.wrap (-7 - (j:Int)) = -7 - (j:Int):=wrap_id (by omega) (by omega)
  have tlj:=tl j
  have a1:¬ (im.text.length + j + 1) * 5 ≤ ((im.text ++ (List.range j).map mT).flatMap Ins.row).length:=by omega
  have a2:(im.text.length + j) * 5 ≤ ((im.text ++ (List.range j).map mT).flatMap Ins.row).length:=by omega
  have a3:(im.text.length + j + 1) * 40 ≤ 140737488355328:=by omega
  have a4:((im.text ++ (List.range j).map mT).flatMap Ins.row).take ((im.text.length + j) * 5) = (im.text ++ (List.range j).map mT).flatMap Ins.row:=List.take_of_length_le (by omega)
  repeat' first
   | simp (maxSteps:=1000000) only [go_sem,ht.sl.len,hw70,hlt',hw,hw2,a1,a2,a3,a4,xRows0,Option.bind_some]
  refine ⟨im.text.length + 70 - (j + 1),by omega,j + 1,va + 1,G ++ [.cells 0 (mT j).row],rfl,by omega,?_⟩
  rw [flat_snoc Ins.row im.text mT j]
  rfl
 have hlt':¬ ((j:Int) < ((im.text.length + 70:Nat):Int)):=by omega
 have hje:j = im.text.length + 70:=by omega
 subst hje
 generalize hTT:(im.text ++ (List.range (im.text.length + 70)).map mT) = TT at *
 repeat' first
  | simp (maxSteps:=1000000) only [go_sem,ht.sl.len,hw70,hlt']
 refine SimLoop.inv [1,0,0,1] (fun k s=>∃ (j vb:Nat) (G:AH),k = im.funcs.length + 70 - j ∧ j ≤ im.funcs.length + 70 ∧
  s = ⟨[.un,.ptr h.length 0 0,.ptr (h.length + 1) 0 0,.ptr (h.length + 7) 0 0,.un,VI j,.un,.un,.un,.un,.un,.un,.un,.un,.un,.un,.un,.un,.un,.un,.un,.un,.un,.un,.un,.un,.un,.un,.un,.un,.un,.un,.un,.un,.un,.un,.un,.un,.un,.un,.un,.un,.un,.un,.un,.un,.un,.un,.un,.un,.un,.un,.un,.un,.un,.un,.un,.un,.un,.un,.un,.un,.un,.un,.un,.un,.un,.un,.un,.un,.un,.un,.un,.un,.un,.un,.un,.un,.un],
    h ++ (.cells 0 [tv,fv,bv,VI im.entry] :: .cells 0 [nilS,nilS,nilS,VI 0] :: .cells 0 [tv,fv,bv,VI im.entry] :: .cells 0 [.sl (h.length + 4) (cpV im.text.length) 0 im.text.length 5,.sl (h.length + 5) (cpV im.funcs.length) 0 im.funcs.length 4,.sl (h.length + 6) (cpV im.tables.length) 0 im.tables.length 5,VI im.entry] ::
      .cells va (TT.flatMap Ins.row) :: .cells vb ((im.funcs ++ (List.range j).map mF).flatMap Fn.row) :: .cells (cpV im.tables.length) (im.tables.flatMap Tab.row) ::
      .cells 0 [.sl (h.length + 4) va 0 (im.text.length + (im.text.length + 70)) 5,.sl (h.length + 5) vb 0 (im.funcs.length + j) 4,.sl (h.length + 6) (cpV im.tables.length) 0 im.tables.length 5,VI im.entry] :: G)⟩) ?_ (im.funcs.length + 70) ?_
 rotate_left
 ·exact ⟨0,cpV im.funcs.length,_,rfl,Nat.zero_le _,by simp only [go_sem,List.range_zero,List.map_nil];rfl⟩
 clear G
 rintro k s ⟨j,vb,G,rfl,hj,rfl⟩
 have hw70:IntKind.i64.wrap ((im.funcs.length:Int) + 70) = ((im.funcs.length + 70:Nat):Int):=by rw [wrap_id (by omega) (by omega)];rfl
 by_cases hlt:j < im.funcs.length + 70
 ·have hlt':((j:Int) < ((im.funcs.length + 70:Nat):Int)):=by omega
  have hw:=wrap_succ hlt (by omega)
  have hw2:IntKind.i64.wrap (0 - (j:Int)) = -(j:Int):=by rw [wrap_id (by omega) (by omega)];omega
  have tlj:=fl j
  have a1:¬ (im.funcs.length + j + 1) * 4 ≤ ((im.funcs ++ (List.range j).map mF).flatMap Fn.row).length:=by omega
  have a2:(im.funcs.length + j) * 4 ≤ ((im.funcs ++ (List.range j).map mF).flatMap Fn.row).length:=by omega
  have a3:(im.funcs.length + j + 1) * 40 ≤ 140737488355328:=by omega
  have a4:((im.funcs ++ (List.range j).map mF).flatMap Fn.row).take ((im.funcs.length + j) * 4) = (im.funcs ++ (List.range j).map mF).flatMap Fn.row:=List.take_of_length_le (by omega)
  repeat' first
   | simp (maxSteps:=1000000) only [go_sem,hf.sl.len,hw70,hlt',hw,hw2,a1,a2,a3,a4,xRows0,Option.bind_some]
  refine ⟨im.funcs.length + 70 - (j + 1),by omega,j + 1,vb + 1,G ++ [.cells 0 (mF j).row],rfl,by omega,?_⟩
  rw [flat_snoc Fn.row im.funcs mF j]
  rfl
 have hlt':¬ ((j:Int) < ((im.funcs.length + 70:Nat):Int)):=by omega
 have hje:j = im.funcs.length + 70:=by omega
 subst hje
 generalize hFF:(im.funcs ++ (List.range (im.funcs.length + 70)).map mF) = FF at *
 repeat' first
  | simp (maxSteps:=1000000) only [go_sem,hf.sl.len,hw70,hlt']
 refine SimLoop.inv [1,0,0,2] (fun k s=>∃ (j vd:Nat) (G:AH),k = im.tables.length + 70 - j ∧ j ≤ im.tables.length + 70 ∧
  s = ⟨[.un,.ptr h.length 0 0,.ptr (h.length + 1) 0 0,.ptr (h.length + 7) 0 0,.un,.un,VI j,.un,.un,.un,.un,.un,.un,.un,.un,.un,.un,.un,.un,.un,.un,.un,.un,.un,.un,.un,.un,.un,.un,.un,.un,.un,.un,.un,.un,.un,.un,.un,.un,.un,.un,.un,.un,.un,.un,.un,.un,.un,.un,.un,.un,.un,.un,.un,.un,.un,.un,.un,.un,.un,.un,.un,.un,.un,.un,.un,.un,.un,.un,.un,.un,.un,.un,.un,.un,.un,.un,.un,.un],
    h ++ (.cells 0 [tv,fv,bv,VI im.entry] :: .cells 0 [nilS,nilS,nilS,VI 0] :: .cells 0 [tv,fv,bv,VI im.entry] :: .cells 0 [.sl (h.length + 4) (cpV im.text.length) 0 im.text.length 5,.sl (h.length + 5) (cpV im.funcs.length) 0 im.funcs.length 4,.sl (h.length + 6) (cpV im.tables.length) 0 im.tables.length 5,VI im.entry] ::
      .cells va (TT.flatMap Ins.row) :: .cells vb (FF.flatMap Fn.row) :: .cells vd ((im.tables ++ (List.range j).map mB).flatMap Tab.row) ::
      .cells 0 [.sl (h.length + 4) va 0 (im.text.length + (im.text.length + 70)) 5,.sl (h.length + 5) vb 0 (im.funcs.length + (im.funcs.length + 70)) 4,.sl (h.length + 6) vd 0 (im.tables.length + j) 5,VI im.entry] :: G)⟩) ?_ (im.tables.length + 70) ?_
 rotate_left
 ·exact ⟨0,cpV im.tables.length,_,rfl,Nat.zero_le _,by simp only [go_sem,List.range_zero,List.map_nil];rfl⟩
 clear G
 rintro k s ⟨j,vd,G,rfl,hj,rfl⟩
 have hw70:IntKind.i64.wrap ((im.tables.length:Int) + 70) = ((im.tables.length + 70:Nat):Int):=by rw [wrap_id (by omega) (by omega)];rfl
 by_cases hlt:j < im.tables.length + 70
 ·have hlt':((j:Int) < ((im.tables.length + 70:Nat):Int)):=by omega
  have hw:=wrap_succ hlt (by omega)
  have hw2:IntKind.i64.wrap (0 - (j:Int)) = -(j:Int):=by rw [wrap_id (by omega) (by omega)];omega
  have tlj:=bl j
  have a1:¬ (im.tables.length + j + 1) * 5 ≤ ((im.tables ++ (List.range j).map mB).flatMap Tab.row).length:=by omega
  have a2:(im.tables.length + j) * 5 ≤ ((im.tables ++ (List.range j).map mB).flatMap Tab.row).length:=by omega
  have a3:(im.tables.length + j + 1) * 48 ≤ 140737488355328:=by omega
  have a4:((im.tables ++ (List.range j).map mB).flatMap Tab.row).take ((im.tables.length + j) * 5) = (im.tables ++ (List.range j).map mB).flatMap Tab.row:=List.take_of_length_le (by omega)
  repeat' first
   | simp (maxSteps:=1000000) only [go_sem,hb.sl.len,hw70,hlt',hw,hw2,a1,a2,a3,a4,xRows0,Option.bind_some]
  refine ⟨im.tables.length + 70 - (j + 1),by omega,j + 1,vd + 1,G ++ [.cells 0 (mB j).row],rfl,by omega,?_⟩
  rw [flat_snoc Tab.row im.tables mB j]
  rfl
 have hlt':¬ ((j:Int) < ((im.tables.length + 70:Nat):Int)):=by omega
 have hje:j = im.tables.length + 70:=by omega
 subst hje
 have e1:(im.text.length:Int) ≤ ((im.text.length + (im.text.length + 70):Nat):Int):=by omega
 have e2:(im.funcs.length:Int) ≤ ((im.funcs.length + (im.funcs.length + 70):Nat):Int):=by omega
 have e3:(im.tables.length:Int) ≤ ((im.tables.length + (im.tables.length + 70):Nat):Int):=by omega
 generalize hBB:(im.tables ++ (List.range (im.tables.length + 70)).map mB) = BB at *
 repeat' first
  | simp (maxSteps:=1000000) only [go_sem,hb.sl.len,ht.sl.len,hf.sl.len,hw70,hlt',e1,e2,e3,Int.natCast_nonneg,Int.toNat_natCast,Nat.sub_zero,or_true]
 refine ⟨_,va,vb,vd,rfl,rfl,⟨by rw [hTT];exact get_some (by simp only [go_sem]),by rw [hFF];exact get_some (by simp only [go_sem]),by rw [hBB];exact get_some (by simp only [go_sem])⟩⟩
end Go.Tidy
namespace Go.Tidy
open Go Go.Eng Go.Proofs
variable {cx:Cx}
theorem rd_more {h:AH} {id ver:Nat} {cs:List AV} (e:h[id]? = some (.cells ver cs)) (g:AH):AH.rd (h ++ g) id ver = some cs:=by
 rw [rd_at (h:=h) (List.getElem?_append_left (List.getElem?_eq_some_iff.1 e).1)]
 exact rd_of e
section
variable {α:Type} {f:α → List AV} {sz:Nat} {h:AH} {xs ys:List α} {id ver:Nat}
theorem Rows.cut (hf:∀ x,(f x).length = sz) (e:h[id]? = some (.cells ver ((xs ++ ys).flatMap f))):Rows f sz h (.sl id ver 0 xs.length sz) xs:=by
 have hl:=cells_len hf (xs ++ ys)
 have hx:=cells_len hf xs
 have hle:xs.length * sz ≤ (xs ++ ys).length * sz:=Nat.mul_le_mul_right _ (by simp)
 have htk:((xs ++ ys).flatMap f).take (xs.length * sz) = xs.flatMap f:=by
  rw [List.flatMap_append,← hx,List.take_left]
 refine ⟨.sl id ver 0 _ xs (fun g=>rd_more e g) (by rw [List.drop_zero];exact htk),fun g=>?_⟩
 simp only [xRows,if_true,rd_more e g,Option.bind_some,Nat.zero_add,List.drop_zero]
 rw [if_pos (by omega),htk]
theorem sls_more (hsz:0 < sz) (hf:∀ x,(f x).length = sz) (e:h[id]? = some (.cells ver (xs.flatMap f))) {n m:Nat} (hm:xs.length = m) (g:AH):xSlsX (h ++ g) sz (.sl id ver 0 n sz) none (some (VI (m:Int))) = some (.sl id ver 0 m sz):=by
 subst hm
 have hl:=cells_len hf xs
 simp only [xSlsX,rd_more e g,Option.bind_some,xLo,Int.toNat_natCast,Nat.zero_add,Nat.zero_mul,Nat.sub_zero]
 rw [if_pos ⟨trivial,hsz,by omega⟩,if_pos (by omega),if_pos (.inr trivial)]
end
set_option maxRecDepth 100000 in
set_option maxHeartbeats 4000000 in
theorem c24 (hO:On cx) {h:AH} {tv fv bv:AV} {im:Img} {a va b vb d vd:Nat} (hL:LentO h im a va b vb d vd) (ht:Rows Ins.row 5 h tv im.text) (hf:Rows Fn.row 4 h fv im.funcs) (hb:Rows Tab.row 5 h bv im.tables)
 (h1:im.text.length < 1099511627776) (h2:im.funcs.length < 1099511627776) (h3:im.tables.length < 1099511627776) :
 SimCall cx 24 [.agg [.sl a va 0 im.text.length 5,.sl b vb 0 im.funcs.length 4,.sl d vd 0 im.tables.length 5,VI im.entry],.agg [tv,fv,bv,VI im.entry]] h fun r h'=>h' = h ∧ r = VB true:=by
 have c1:=ht.sl.cell
 have c2:=hf.sl.cell
 have c3:=hb.sl.cell
 have hsm:∀ G,Same (h ++ G) ⟨.sl a va 0 im.text.length 5,.sl b vb 0 im.funcs.length 4,.sl d vd 0 im.tables.length 5,im.entry⟩ ⟨tv,fv,bv,im.entry⟩:=fun G=>
  ⟨im,⟨(Rows.cut Ins.len hL.t).more G,(Rows.cut Fn.len hL.f).more G,(Rows.cut Tab.len hL.b).more G,rfl,h1,h2,h3⟩,⟨ht.more G,hf.more G,hb.more G,rfl,h1,h2,h3⟩⟩
 refine SimCall.gc ?_
 refine SimCall.by hO.P res24 ?_
 unfold x24 r24
 have hm1:IntKind.i64.wrap (2 * (im.text.length:Int)) = ((2 * im.text.length:Nat):Int):=by rw [wrap_id (by omega) (by omega)];omega
 have hn1:IntKind.i64.wrap (((2 * im.text.length:Nat):Int) + 70) = ((2 * im.text.length + 70:Nat):Int):=by rw [wrap_id (by omega) (by omega)];omega
 have hx1:=fun G=>sls_more (by decide) Ins.len hL.t (n:=im.text.length) (m:=2 * im.text.length + 70) (by rw [List.length_append,List.length_map,List.length_range];omega) G
 have ho1:¬ ((2 * im.text.length + 70:Nat):Int) ≤ (im.text.length:Int):=by omega
 have hm2:IntKind.i64.wrap (2 * (im.funcs.length:Int)) = ((2 * im.funcs.length:Nat):Int):=by rw [wrap_id (by omega) (by omega)];omega
 have hn2:IntKind.i64.wrap (((2 * im.funcs.length:Nat):Int) + 70) = ((2 * im.funcs.length + 70:Nat):Int):=by rw [wrap_id (by omega) (by omega)];omega
 have hx2:=fun G=>sls_more (by decide) Fn.len hL.f (n:=im.funcs.length) (m:=2 * im.funcs.length + 70) (by rw [List.length_append,List.length_map,List.length_range];omega) G
 have ho2:¬ ((2 * im.funcs.length + 70:Nat):Int) ≤ (im.funcs.length:Int):=by omega
 have hm3:IntKind.i64.wrap (2 * (im.tables.length:Int)) = ((2 * im.tables.length:Nat):Int):=by rw [wrap_id (by omega) (by omega)];omega
 have hn3:IntKind.i64.wrap (((2 * im.tables.length:Nat):Int) + 70) = ((2 * im.tables.length + 70:Nat):Int):=by rw [wrap_id (by omega) (by omega)];omega
 have hx3:=fun G=>sls_more (by decide) Tab.len hL.b (n:=im.tables.length) (m:=2 * im.tables.length + 70) (by rw [List.length_append,List.length_map,List.length_range];omega) G
 have ho3:¬ ((2 * im.tables.length + 70:Nat):Int) ≤ (im.tables.length:Int):=by omega
 repeat' first
  | ((with_reducible show SimCall _ 25 _ _ _);refine (c25 hO (a:=⟨.sl a va 0 im.text.length 5,.sl b vb 0 im.funcs.length 4,.sl d vd 0 im.tables.length 5,im.entry⟩) (b:=⟨tv,fv,bv,im.entry⟩) (hsm _)).mono ?_;rintro r h' ⟨rfl,rfl⟩)
  | simp (maxSteps:=1000000) only [go_sem,c1,c2,c3,ht.sl.len,hm1,hn1,hx1,ho1,and_false]
 refine SimLoop.inv [2,0,1,0] (fun k s=>∃ (i:Nat),k = 2 * im.text.length + 70 - i ∧ im.text.length ≤ i ∧ i ≤ 2 * im.text.length + 70 ∧
  s = ⟨[.un,.un,.ptr h.length 0 0,.ptr (h.length + 1) 0 0,.un,.sl a va 0 (2 * im.text.length + 70) 5,VI i,.un,.un,.un,.un,.un,.un,.un,.un,.un,.un,.un,.un,.un,.un,.un,.un,.un,.un,.un,.un,.un,.un,.un,.un,.un,.un,.un,.un,.un,.un,.un,.un,.un,.un,.un,.un,.un,.un,.un,.un,.un,.un,.un,.un,.un,.un,.un,.un,.un,.un,.un,.un,.un,.un,.un,.un,.un,.un,.un,.un,.un,.un,.un,.un,.un,.un,.un,.un,.un,.un,.un,.un,.un,.un,.un,.un,.un,.un,.un,.un,.un,.un,.un,.un,.un,.un,.un,.un,.un,.un,.un,.un,.un,.un,.un],h ++ [.cells 0 [.sl a va 0 im.text.length 5,.sl b vb 0 im.funcs.length 4,.sl d vd 0 im.tables.length 5,VI im.entry],.cells 0 [tv,fv,bv,VI im.entry]]⟩) ?_ (im.text.length + 70) ?_
 rotate_left
 ·exact ⟨im.text.length,by omega,Nat.le_refl _,by omega,by simp only [go_sem] <;> rfl⟩
 rintro k s ⟨i,rfl,hi1,hi2,rfl⟩
 by_cases hlt:i < 2 * im.text.length + 70
 ·have hlt':((i:Int) < ((2 * im.text.length + 70:Nat):Int)):=by omega
  have hw:=wrap_succ hlt (by omega)
  have hel:(im.text ++ (List.range (im.text.length + 70)).map mT)[i]? = some (mT (i - im.text.length)):=by
   rw [List.getElem?_append_right hi1,List.getElem?_map,List.getElem?_range (by omega)];rfl
  have hS:SlT Ins.row 5 h (.sl a va 0 (2 * im.text.length + 70) 5) (im.text ++ (List.range (im.text.length + 70)).map mT):=by
   have:=SlT.whole (f:=Ins.row) (sz:=5) (h:=h) (id:=a) (ver:=va) (fun g=>rd_more hL.t g) Ins.len rfl
   rwa [show (im.text ++ (List.range (im.text.length + 70)).map mT).length = 2 * im.text.length + 70 by rw [List.length_append,List.length_map,List.length_range];omega] at this
  obtain ⟨p,hp1,hp2,hp3,_⟩:=hS.get Ins.len (by decide) hel
  simp only [mT,Ins.row] at hp2 hp3
  have hv1:IntKind.i64.wrap ((i:Int) - (im.text.length:Int)) = ((i - im.text.length:Nat):Int):=by rw [wrap_id (by omega) (by omega)];omega
  have hv2:IntKind.i64.wrap (-7 - ((i - im.text.length:Nat):Int)) = -7 - ((i - im.text.length:Nat):Int):=wrap_id (by omega) (by omega)
  have hxe:xEq ⟨true,[1,1,1,1,1]⟩ (.agg [VI (-7 - ((i - im.text.length:Nat):Int)),VI 0,VI 0,VI 0,VI 0]) (.agg [VI (-7 - ((i - im.text.length:Nat):Int)),VI 0,VI 0,VI 0,VI 0]) = some true:=by
   simp [xEq,xEqs,sameOne]
  repeat' first
   | simp (maxSteps:=1000000) only [go_sem,ht.sl.len,hlt',hw,hp1,hp2,hp3,hv1,hv2,hxe]
  exact ⟨2 * im.text.length + 70 - (i + 1),by omega,i + 1,rfl,by omega,by omega,rfl⟩
 have hlt':¬ ((i:Int) < ((2 * im.text.length + 70:Nat):Int)):=by omega
 repeat' first
  | simp (maxSteps:=1000000) only [go_sem,hlt',hf.sl.len,hm2,hn2,hx2,ho2,and_false]
 clear hlt' hi1 hi2 hlt
 refine SimLoop.inv [2,0,3,0] (fun k s=>∃ (i:Nat),k = 2 * im.funcs.length + 70 - i ∧ im.funcs.length ≤ i ∧ i ≤ 2 * im.funcs.length + 70 ∧
  s = ⟨[.un,.un,.ptr h.length 0 0,.ptr (h.length + 1) 0 0,.un,.un,.un,.sl b vb 0 (2 * im.funcs.length + 70) 4,VI i,.un,.un,.un,.un,.un,.un,.un,.un,.un,.un,.un,.un,.un,.un,.un,.un,.un,.un,.un,.un,.un,.un,.un,.un,.un,.un,.un,.un,.un,.un,.un,.un,.un,.un,.un,.un,.un,.un,.un,.un,.un,.un,.un,.un,.un,.un,.un,.un,.un,.un,.un,.un,.un,.un,.un,.un,.un,.un,.un,.un,.un,.un,.un,.un,.un,.un,.un,.un,.un,.un,.un,.un,.un,.un,.un,.un,.un,.un,.un,.un,.un,.un,.un,.un,.un,.un,.un,.un,.un,.un,.un,.un,.un],h ++ [.cells 0 [.sl a va 0 im.text.length 5,.sl b vb 0 im.funcs.length 4,.sl d vd 0 im.tables.length 5,VI im.entry],.cells 0 [tv,fv,bv,VI im.entry]]⟩) ?_ (im.funcs.length + 70) ?_
 rotate_left
 ·exact ⟨im.funcs.length,by omega,Nat.le_refl _,by omega,by simp only [go_sem] <;> rfl⟩
 rintro k s ⟨i,rfl,hi1,hi2,rfl⟩
 by_cases hlt:i < 2 * im.funcs.length + 70
 ·have hlt':((i:Int) < ((2 * im.funcs.length + 70:Nat):Int)):=by omega
  have hw:=wrap_succ hlt (by omega)
  have hel:(im.funcs ++ (List.range (im.funcs.length + 70)).map mF)[i]? = some (mF (i - im.funcs.length)):=by
   rw [List.getElem?_append_right hi1,List.getElem?_map,List.getElem?_range (by omega)];rfl
  have hS:SlT Fn.row 4 h (.sl b vb 0 (2 * im.funcs.length + 70) 4) (im.funcs ++ (List.range (im.funcs.length + 70)).map mF):=by
   have:=SlT.whole (f:=Fn.row) (sz:=4) (h:=h) (id:=b) (ver:=vb) (fun g=>rd_more hL.f g) Fn.len rfl
   rwa [show (im.funcs ++ (List.range (im.funcs.length + 70)).map mF).length = 2 * im.funcs.length + 70 by rw [List.length_append,List.length_map,List.length_range];omega] at this
  obtain ⟨p,hp1,hp2,hp3,_⟩:=hS.get Fn.len (by decide) hel
  simp only [mF,Fn.row] at hp2 hp3
  have hv1:IntKind.i64.wrap ((i:Int) - (im.funcs.length:Int)) = ((i - im.funcs.length:Nat):Int):=by rw [wrap_id (by omega) (by omega)];omega
  have hv2:IntKind.i64.wrap (0 - ((i - im.funcs.length:Nat):Int)) = -((i - im.funcs.length:Nat):Int):=by rw [wrap_id (by omega) (by omega)];omega
  have hxe:xEq ⟨true,[2,1,1,1]⟩ (.agg [.v (.string ⟨#[98,101,104,105,110,100]⟩),VI 0,VI (-((i - im.funcs.length:Nat):Int)),VI 0]) (.agg [.v (.string ⟨#[98,101,104,105,110,100]⟩),VI 0,VI (-((i - im.funcs.length:Nat):Int)),VI 0]) = some true:=by
   simp [xEq,xEqs,sameOne]
  repeat' first
   | simp (maxSteps:=1000000) only [go_sem,hf.sl.len,hlt',hw,hp1,hp2,hp3,hv1,hv2,hxe]
  exact ⟨2 * im.funcs.length + 70 - (i + 1),by omega,i + 1,rfl,by omega,by omega,rfl⟩
 have hlt':¬ ((i:Int) < ((2 * im.funcs.length + 70:Nat):Int)):=by omega
 repeat' first
  | simp (maxSteps:=1000000) only [go_sem,hlt',hb.sl.len,hm3,hn3,hx3,ho3,and_false]
 clear hlt' hi1 hi2 hlt
 refine SimLoop.inv [2,0,5,0] (fun k s=>∃ (i:Nat),k = 2 * im.tables.length + 70 - i ∧ im.tables.length ≤ i ∧ i ≤ 2 * im.tables.length + 70 ∧
  s = ⟨[.un,.un,.ptr h.length 0 0,.ptr (h.length + 1) 0 0,.un,.un,.un,.un,.un,.sl d vd 0 (2 * im.tables.length + 70) 5,VI i,.un,.un,.un,.un,.un,.un,.un,.un,.un,.un,.un,.un,.un,.un,.un,.un,.un,.un,.un,.un,.un,.un,.un,.un,.un,.un,.un,.un,.un,.un,.un,.un,.un,.un,.un,.un,.un,.un,.un,.un,.un,.un,.un,.un,.un,.un,.un,.un,.un,.un,.un,.un,.un,.un,.un,.un,.un,.un,.un,.un,.un,.un,.un,.un,.un,.un,.un,.un,.un,.un,.un,.un,.un,.un,.un,.un,.un,.un,.un,.un,.un,.un,.un,.un,.un,.un,.un,.un,.un,.un,.un],h ++ [.cells 0 [.sl a va 0 im.text.length 5,.sl b vb 0 im.funcs.length 4,.sl d vd 0 im.tables.length 5,VI im.entry],.cells 0 [tv,fv,bv,VI im.entry]]⟩) ?_ (im.tables.length + 70) ?_
 rotate_left
 ·exact ⟨im.tables.length,by omega,Nat.le_refl _,by omega,by simp only [go_sem] <;> rfl⟩
 rintro k s ⟨i,rfl,hi1,hi2,rfl⟩
 by_cases hlt:i < 2 * im.tables.length + 70
 ·have hlt':((i:Int) < ((2 * im.tables.length + 70:Nat):Int)):=by omega
  have hw:=wrap_succ hlt (by omega)
  have hel:(im.tables ++ (List.range (im.tables.length + 70)).map mB)[i]? = some (mB (i - im.tables.length)):=by
   rw [List.getElem?_append_right hi1,List.getElem?_map,List.getElem?_range (by omega)];rfl
  have hS:SlT Tab.row 5 h (.sl d vd 0 (2 * im.tables.length + 70) 5) (im.tables ++ (List.range (im.tables.length + 70)).map mB):=by
   have:=SlT.whole (f:=Tab.row) (sz:=5) (h:=h) (id:=d) (ver:=vd) (fun g=>rd_more hL.b g) Tab.len rfl
   rwa [show (im.tables ++ (List.range (im.tables.length + 70)).map mB).length = 2 * im.tables.length + 70 by rw [List.length_append,List.length_map,List.length_range];omega] at this
  obtain ⟨p,hp1,hp2,hp3,_⟩:=hS.get Tab.len (by decide) hel
  simp only [mB,Tab.row] at hp2 hp3
  have hv1:IntKind.i64.wrap ((i:Int) - (im.tables.length:Int)) = ((i - im.tables.length:Nat):Int):=by rw [wrap_id (by omega) (by omega)];omega
  have hv2:IntKind.i64.wrap (0 - ((i - im.tables.length:Nat):Int)) = -((i - im.tables.length:Nat):Int):=by rw [wrap_id (by omega) (by omega)];omega
  have hxe:xEq ⟨true,[2,1,1,1,1]⟩ (.agg [.v (.string ⟨#[98,101,104,105,110,100]⟩),VI (-((i - im.tables.length:Nat):Int)),VI 0,VI 0,VI 0]) (.agg [.v (.string ⟨#[98,101,104,105,110,100]⟩),VI (-((i - im.tables.length:Nat):Int)),VI 0,VI 0,VI 0]) = some true:=by
   simp [xEq,xEqs,sameOne]
  repeat' first
   | simp (maxSteps:=1000000) only [go_sem,hb.sl.len,hlt',hw,hp1,hp2,hp3,hv1,hv2,hxe]
  exact ⟨2 * im.tables.length + 70 - (i + 1),by omega,i + 1,rfl,by omega,by omega,rfl⟩
 have hlt':¬ ((i:Int) < ((2 * im.tables.length + 70:Nat):Int)):=by omega
 repeat' first
  | simp (maxSteps:=1000000) only [go_sem,hlt']
 all_goals exact ⟨⟨_,rfl⟩,plain_v _⟩
end Go.Tidy
namespace Go.Tidy
open Go Go.Eng Go.Proofs
variable {cx:Cx}
section
variable {α:Type} {f:α → List AV} {sz bytes:Nat} {H:AH} {v tmp:AV} {xs:List α} {x:α}
theorem app_own (w:WSl f sz H v xs) (hf:∀ x,(f x).length = sz) (hsz:0 < sz) (htmp:xRows H sz tmp = some (1,f x)) (hb:(xs.length + 1) * bytes ≤ 140737488355328) :
 ∃ v' X,xApp H sz bytes v tmp = some (v',X) ∧ WSl f sz X v' (xs ++ [x]) ∧ Stays (fun id=>v.at_ = some id) H X ∧ ∀ id,v'.at_ = some id → v.at_ = some id ∨ H.length ≤ id:=by
 have hl:=cells_len hf xs
 rcases w with ⟨rfl,rfl⟩ | ⟨id,ver,rfl,ho⟩
 ·refine ⟨.sl H.length 0 0 1 sz,H ++ [.cells 0 (f x)],?_,.inr ⟨_,0,rfl,?_⟩,Stays.app _ _,fun id hid=>?_⟩
  ·have h1:1 * bytes ≤ 140737488355328:=by simpa using hb
   simp only [xApp,htmp,nilS]
   rw [if_neg (by decide),if_pos h1]
  ·simp
  ·cases hid
   exact .inr (Nat.le_refl _)
 ·have hlt:=(List.getElem?_eq_some_iff.1 ho).1
  refine ⟨.sl id (ver + 1) 0 (xs.length + 1) sz,H.set id (.cells (ver + 1) (xs.flatMap f ++ f x)),?_,.inr ⟨id,ver + 1,?_,?_⟩,(Stays.set H id _).mono (fun i _ e=>by rw [e];rfl),fun i hi=>?_⟩
  ·simp only [xApp,htmp,if_true,get_of ho,Option.bind_some]
   rw [if_neg (by decide),if_neg (by rw [hl,Nat.add_mul];omega),if_pos ⟨trivial,by omega,hb⟩,List.take_of_length_le (by omega)]
  ·simp
  ·rw [List.getElem?_set_self hlt]
   simp
  ·cases hi
   exact .inl rfl
theorem bK_app {K:AV → AH → Prop} (w:WSl f sz H v xs) (hf:∀ x,(f x).length = sz) (hsz:0 < sz) (htmp:xRows H sz tmp = some (1,f x)) (hb:(xs.length + 1) * bytes ≤ 140737488355328)
 (hk:∀ v' X,WSl f sz X v' (xs ++ [x]) → Stays (fun id=>v.at_ = some id) H X → (∀ id,v'.at_ = some id → v.at_ = some id ∨ H.length ≤ id) → K v' X):bK (xApp H sz bytes v tmp) K:=by
 obtain ⟨v',X,h1,h2,h3,h4⟩:=app_own w hf hsz htmp hb
 exact ⟨v',X,h1,hk v' X h2 h3 h4⟩
end
theorem stays_get {P:Nat → Prop} {h h':AH} (k:Stays P h h') {id:Nat} {o:AO} (e:h[id]? = some o) (hp:¬ P id):h'[id]? = some o:=(k.at_ id (List.getElem?_eq_some_iff.1 e).1 hp).trans e
theorem at_app {h:AH} {id:Nat} {o:AO} (e:h[id]? = some o) (g:AH):(h ++ g)[id]? = some o:=by rw [List.getElem?_append_left (List.getElem?_eq_some_iff.1 e).1];exact e
theorem Dj.new {a b:AV} {n:Nat} (ha:∀ id,a.at_ = some id → id < n) (hb:∀ id,b.at_ = some id → n ≤ id):Dj a b:=fun id h1 h2=>by have:=ha id h1;have:=hb id h2;omega
def OwnK (S:Nat) (kS vS:AV) (id:Nat):Prop:=id = S ∨ kS.at_ = some id ∨ vS.at_ = some id
set_option maxRecDepth 100000 in
set_option maxHeartbeats 4000000 in
theorem c183 (hO:On cx) {h:AH} {S:Nat} {cnt tot:Int} {F W K V:List IA} {fS wS kS vS:AV} (hs:ShO h S cnt tot F W K V fS wS kS vS) {a:IA} {im:Img} (ha:ImS h a im) (hn:∀ id ∈ a.ids,¬ OwnK S kS vS id)
 (hk:K.length < 1000000) (hv:V.length < 1000000) :
 SimCall cx 183 [.ptr S 0 0,.agg a.row] h fun _ h'=>∃ kS' vS' c,ShO h' S cnt tot F W (K ++ [a]) (V ++ [c]) fS wS kS' vS' ∧ ImS h' c im ∧ (∀ id ∈ c.ids,h.length ≤ id ∧ ¬ OwnK S kS' vS' id) ∧ Stays (OwnK S kS vS) h h' ∧
  (∀ id,OwnK S kS' vS' id → OwnK S kS vS id ∨ h.length ≤ id):=by
 obtain ⟨t,f,b,e⟩:=a
 obtain ⟨ht,hf,hb,he,n1,n2,n3⟩:=ha
 simp only at ht hf hb he
 subst he
 have c1:=ht.sl.cell
 have c2:=hf.sl.cell
 have c3:=hb.sl.cell
 have hSl:=(List.getElem?_eq_some_iff.1 hs.at_).1
 have hS0:AH.rd h S 0 = _:=rd_of hs.at_
 have hS:∀ g,AH.rd (h ++ g) S 0 = _:=fun g=>rd_more hs.at_ g
 have hn1:∀ id,t.at_ = some id → ¬ OwnK S kS vS id:=fun id hid=>hn id (List.mem_filterMap.2 ⟨t,by simp,hid⟩)
 have hn2:∀ id,f.at_ = some id → ¬ OwnK S kS vS id:=fun id hid=>hn id (List.mem_filterMap.2 ⟨f,by simp,hid⟩)
 have hn3:∀ id,b.at_ = some id → ¬ OwnK S kS vS id:=fun id hid=>hn id (List.mem_filterMap.2 ⟨b,by simp,hid⟩)
 refine SimCall.by hO.P res183 ?_
 unfold x183 r183
 repeat' first
  | simp (maxSteps:=1000000) only [go_sem,c1,c2,c3,hS0,hS]
 refine bK_app (f:=IA.row) (x:=⟨t,f,b,im.entry⟩) (hs.k.stays (Stays.app (P:=fun _=>False) _ _) fun _ _ h=>h) IA.len (by decide) (by simp [xRows,rd_self,AH.rd]) (by omega) ?_
 intro k1 X1 w1 st1 at1
 have kl:∀ id,kS.at_ = some id → id < h.length:=fun id hid=>hs.k.at_lt hid
 have vl:∀ id,vS.at_ = some id → id < h.length:=fun id hid=>hs.v.at_lt hid
 have st1':Stays (fun id=>kS.at_ = some id) h X1:=(Stays.app (P:=fun id=>kS.at_ = some id) _ _).trans st1
 have x1:=stays_get st1' hs.at_ hs.sk
 have bx:=stays_get st1 (show (h ++ [AO.cells 0 [t,f,b,VI im.entry],AO.cells 0 [t,f,b,VI im.entry]])[h.length]? = some (.cells 0 [t,f,b,VI im.entry]) by simp) (fun e=>by have:=kl _ e;omega)
 have hl1:h.length + 2 ≤ X1.length:=by have:=st1.len;simpa using this
 have k1c:=(w1.rows IA.len).sl.cells
 have k1S:k1.at_ ≠ some S:=fun e=>by
  rcases at1 _ e with h1 | h1
  ·exact hs.sk h1
  ·simp at h1;omega
 have x1l:=(List.getElem?_eq_some_iff.1 x1).1
 have g1:=get_of x1
 have s2:=Stays.set X1 S (.cells 0 [VI cnt,VI tot,VB false,fS,wS,k1,vS])
 have x2:(X1.set S (.cells 0 [VI cnt,VI tot,VB false,fS,wS,k1,vS]))[S]? = some (.cells 0 [VI cnt,VI tot,VB false,fS,wS,k1,vS]):=by rw [List.getElem?_set_self x1l]
 have bx2:=stays_get s2 bx (by omega)
 have l2:(X1.set S (.cells 0 [VI cnt,VI tot,VB false,fS,wS,k1,vS])).length = X1.length:=by simp
 have st2:Stays (OwnK S kS vS) h (X1.set S (.cells 0 [VI cnt,VI tot,VB false,fS,wS,k1,vS])):=(st1'.mono fun _ _ e=>.inr (.inl e)).trans (s2.mono fun _ _ e=>.inl e)
 have w2:=w1.stays s2 (fun id hid e=>k1S (by rw [← e];exact hid))
 have ht2:=ht.stays Ins.len (by decide) st2 hn1
 have hf2:=hf.stays Fn.len (by decide) st2 hn2
 have hb2:=hb.stays Tab.len (by decide) st2 hn3
 have v2:WSl IA.row 4 (X1.set S (.cells 0 [VI cnt,VI tot,VB false,fS,wS,k1,vS])) vS V:=(hs.v.stays st1' fun id hid e=>hs.kv id e hid).stays s2 fun id hid e=>hs.sv (by rw [← e];exact hid)
 repeat' first
  | simp (maxSteps:=1000000) only [go_sem,g1,k1c]
 generalize X1.set S (.cells 0 [VI cnt,VI tot,VB false,fS,wS,k1,vS]) = X2 at *
 have d2:=rd_of x2
 have d3:=rd_of bx2
 have d2':∀ g,AH.rd (X2 ++ g) S 0 = _:=fun g=>rd_more x2 g
 have d3':∀ g,AH.rd (X2 ++ g) h.length 0 = _:=fun g=>rd_more bx2 g
 repeat' first
  | ((with_reducible show dK _ 28 _ _ _);refine dK_app _ _ (c28x hO ht2 hf2 hb2 n1 n2 n3) ?_)
  | simp (maxSteps:=1000000) only [go_sem,d2,d3,d2',d3',cpO,cpA]
 refine bK_app (f:=IA.row) (x:=⟨.sl (X2.length + 2) (cpV im.text.length) 0 im.text.length 5,.sl (X2.length + 3) (cpV im.funcs.length) 0 im.funcs.length 4,.sl (X2.length + 4) (cpV im.tables.length) 0 im.tables.length 5,im.entry⟩)
  (v2.stays (Stays.app (P:=fun _=>False) _ _) fun _ _ h=>h) IA.len (by decide) (by simp [xRows,AH.rd]) (by omega) ?_
 intro v1 X3 w3 st3 at3
 have hX:∀ (k:Nat) o,[AO.cells 0 [t,f,b,VI im.entry],AO.cells 0 [AV.sl (X2.length + 2) (cpV im.text.length) 0 im.text.length 5,AV.sl (X2.length + 3) (cpV im.funcs.length) 0 im.funcs.length 4,AV.sl (X2.length + 4) (cpV im.tables.length) 0 im.tables.length 5,VI im.entry],
  AO.cells (cpV im.text.length) (List.flatMap Ins.row im.text),AO.cells (cpV im.funcs.length) (List.flatMap Fn.row im.funcs),AO.cells (cpV im.tables.length) (List.flatMap Tab.row im.tables),
  AO.cells 0 [AV.sl (X2.length + 2) (cpV im.text.length) 0 im.text.length 5,AV.sl (X2.length + 3) (cpV im.funcs.length) 0 im.funcs.length 4,AV.sl (X2.length + 4) (cpV im.tables.length) 0 im.tables.length 5,VI im.entry]][k]? = some o → X3[X2.length + k]? = some o:=fun k o e=>
  stays_get st3 (by rw [List.getElem?_append_right (by omega),Nat.add_sub_cancel_left];exact e) (fun e=>by have:=vl _ e;have:=st2.len;omega)
 have hl3:X2.length + 6 ≤ X3.length:=by have:=st3.len;simpa using this
 have st3':Stays (fun id=>vS.at_ = some id) X2 X3:=(Stays.app (P:=fun id=>vS.at_ = some id) _ _).trans st3
 have hle2:=st2.len
 have x3:=stays_get st3' x2 hs.sv
 have g3:=get_of x3
 have v1c:=(w3.rows IA.len).sl.cells
 have v1S:v1.at_ ≠ some S:=fun e=>by
  rcases at3 _ e with h1 | h1
  ·exact hs.sv h1
  ·simp at h1;omega
 have x3l:=(List.getElem?_eq_some_iff.1 x3).1
 have k1v:Dj k1 vS:=fun id e1 e2=>by
  rcases at1 id e1 with h1 | h1
  ·exact hs.kv id h1 e2
  ·simp at h1;have:=vl id e2;omega
 have k1v1:Dj k1 v1:=fun id e1 e2=>by
  rcases at3 id e2 with h1 | h1
  ·exact k1v id e1 h1
  ·have:=w2.at_lt e1;simp at h1;omega
 have st4:=Stays.set X3 S (.cells 0 [VI cnt,VI tot,VB false,fS,wS,k1,v1])
 have stA:Stays (OwnK S kS vS) h (X3.set S (.cells 0 [VI cnt,VI tot,VB false,fS,wS,k1,v1])):=(st2.trans (st3'.mono fun _ _ e=>.inr (.inr e))).trans (st4.mono fun _ _ e=>.inl e)
 have djn:∀ {x y:AV},Dj x kS → Dj x vS → (∀ id,x.at_ = some id → id < h.length) → Dj x k1 ∧ Dj x v1:=fun {x y} hx1 hx2 hx3=>⟨fun id e1 e2=>by
  rcases at1 id e2 with h1 | h1
  ·exact hx1 id e1 h1
  ·simp at h1;have:=hx3 id e1;omega,fun id e1 e2=>by
  rcases at3 id e2 with h1 | h1
  ·exact hx2 id e1 h1
  ·simp at h1;have:=hx3 id e1;omega⟩
 repeat' first
  | simp (maxSteps:=1000000) only [go_sem,g3,v1c]
 refine ⟨k1,v1,⟨.sl (X2.length + 2) (cpV im.text.length) 0 im.text.length 5,.sl (X2.length + 3) (cpV im.funcs.length) 0 im.funcs.length 4,.sl (X2.length + 4) (cpV im.tables.length) 0 im.tables.length 5,im.entry⟩,⟨?_,?_,?_,?_,?_,hs.sf,hs.sw,k1S,v1S,hs.fw,?_,?_,?_,?_,k1v1⟩,?_,?_,stA,?_⟩
 ·rw [List.getElem?_set_self x3l]
 ·exact hs.f.stays stA fun id hid e=>by
   rcases e with e | e | e
   ·exact hs.sf (by rw [← e];exact hid)
   ·exact hs.fk id hid e
   ·exact hs.fv id hid e
 ·exact hs.w.stays stA fun id hid e=>by
   rcases e with e | e | e
   ·exact hs.sw (by rw [← e];exact hid)
   ·exact hs.wk id hid e
   ·exact hs.wv id hid e
 ·exact (w2.stays st3' fun id hid e=>k1v id hid e).stays st4 fun id hid e=>k1S (by rw [← e];exact hid)
 ·exact w3.stays st4 fun id hid e=>v1S (by rw [← e];exact hid)
 ·exact (djn (y:=fS) hs.fk hs.fv fun id hid=>hs.f.at_lt hid).1
 ·exact (djn (y:=fS) hs.fk hs.fv fun id hid=>hs.f.at_lt hid).2
 ·exact (djn (y:=fS) hs.wk hs.wv fun id hid=>hs.w.at_lt hid).1
 ·exact (djn (y:=fS) hs.wk hs.wv fun id hid=>hs.w.at_lt hid).2
 ·refine ⟨WSl.rows Ins.len (.inr ⟨_,_,rfl,stays_get st4 (hX 2 _ rfl) ?_⟩),WSl.rows Fn.len (.inr ⟨_,_,rfl,stays_get st4 (hX 3 _ rfl) ?_⟩),WSl.rows Tab.len (.inr ⟨_,_,rfl,stays_get st4 (hX 4 _ rfl) ?_⟩),rfl,n1,n2,n3⟩
  all_goals omega
 ·intro id hid
  have hid2:id = X2.length + 2 ∨ id = X2.length + 3 ∨ id = X2.length + 4:=by simpa [IA.ids,AV.at_,eq_comm] using hid
  refine ⟨by omega,?_⟩
  rintro (e | e | e)
  ·omega
  ·have:=w2.at_lt e;omega
  ·rcases at3 id e with h1 | h1
   ·have:=vl id h1;omega
   ·simp at h1;omega
 ·rintro id (e | e | e)
  ·exact .inl (.inl e)
  ·rcases at1 id e with h1 | h1
   ·exact .inl (.inr (.inl h1))
   ·simp at h1;exact .inr (by omega)
  ·rcases at3 id e with h1 | h1
   ·exact .inl (.inr (.inr h1))
   ·simp at h1;exact .inr (by omega)
end Go.Tidy
namespace Go.Tidy
open Go Go.Eng Go.Proofs
variable {cx:Cx}
def appR (H:AH) (sz:Nat) (v:AV) (row:List AV):AV × AH:=match v with
 | .sl id ver _ len _=>match H[id]? with
   | some (.fam _ f k)=>(.sl H.length 0 0 (len + 1) sz,H ++ [.fam 0 f (k + sz)])
   | some (.cells _ cs)=>(.sl id (ver + 1) 0 (len + 1) sz,H.set id (.cells (ver + 1) (cs ++ row)))
   | _=>(v,H)
 | _=>(.sl H.length 0 0 1 sz,H ++ [.cells 0 row])
def GSl {α:Type} (f:α → List AV) (sz:Nat) (rule:Nat → α) (L:Nat) (H:AH) (v:AV) (xs:List α):Prop:=
 (v = nilS ∧ xs = []) ∨
 (∃ id ver g,v = .sl id ver 0 xs.length sz ∧ H[id]? = some (.fam ver g (xs.length * sz)) ∧ (List.range (xs.length * sz)).map g = xs.flatMap f ∧ ∀ n,xs.length ≤ n → (List.range sz).map (fun j=>g (n * sz + j)) = f (rule n)) ∨
 ∃ id ver,v = .sl id ver 0 xs.length sz ∧ L ≤ id ∧ H[id]? = some (.cells ver (xs.flatMap f))
section
variable {α:Type} {f:α → List AV} {sz bytes:Nat} {rule:Nat → α} {L:Nat} {H H':AH} {v tmp:AV} {xs:List α}
theorem GSl.rows (hf:∀ x,(f x).length = sz) (w:GSl f sz rule L H v xs):Rows f sz H v xs:=by
 rcases w with h0 | ⟨id,ver,g,rfl,ho,hg,_⟩ | ⟨id,ver,rfl,_,ho⟩
 ·exact WSl.rows hf (.inl h0)
 ·refine Rows.whole hf fun G=>?_
  unfold AH.rd
  rw [List.getElem?_append_left (List.getElem?_eq_some_iff.1 ho).1,ho]
  simp [hg]
 ·exact WSl.rows hf (.inr ⟨id,ver,rfl,ho⟩)
theorem GSl.stays (w:GSl f sz rule L H v xs) {P:Nat → Prop} (k:Stays P H H') (hp:∀ id,v.at_ = some id → ¬ P id):GSl f sz rule L H' v xs:=by
 rcases w with h0 | ⟨id,ver,g,rfl,ho,hg⟩ | ⟨id,ver,rfl,hl,ho⟩
 ·exact .inl h0
 ·exact .inr (.inl ⟨id,ver,g,rfl,stays_get k ho (hp id rfl),hg⟩)
 ·exact .inr (.inr ⟨id,ver,rfl,hl,stays_get k ho (hp id rfl)⟩)
theorem appR_ok (w:GSl f sz rule L H v xs) (hL:L ≤ H.length) (hf:∀ x,(f x).length = sz) :
 GSl f sz rule L (appR H sz v (f (rule xs.length))).2 (appR H sz v (f (rule xs.length))).1 (xs ++ [rule xs.length]) ∧ Stays (fun id=>v.at_ = some id ∧ L ≤ id) H (appR H sz v (f (rule xs.length))).2 ∧
  ∀ id,(appR H sz v (f (rule xs.length))).1.at_ = some id → L ≤ id ∧ (v.at_ = some id ∨ H.length ≤ id):=by
 rcases w with ⟨rfl,rfl⟩ | ⟨id,ver,g,rfl,ho,hg,hr⟩ | ⟨id,ver,rfl,hl,ho⟩
 ·refine ⟨.inr (.inr ⟨H.length,0,rfl,hL,by simp [appR,nilS]⟩),by simp only [appR,nilS];exact Stays.app _ _,fun i hi=>?_⟩
  simp only [appR,nilS,AV.at_,Option.some.injEq] at hi
  subst hi
  exact ⟨hL,.inr (Nat.le_refl _)⟩
 ·have he:appR H sz (.sl id ver 0 xs.length sz) (f (rule xs.length)) = (.sl H.length 0 0 (xs.length + 1) sz,H ++ [.fam 0 g (xs.length * sz + sz)]):=by simp only [appR,ho]
  rw [he]
  refine ⟨.inr (.inl ⟨H.length,0,g,by simp,by simp [Nat.add_mul],?_,fun n hn=>hr n (by simp at hn;omega)⟩),Stays.app _ _,fun i hi=>?_⟩
  ·rw [List.length_append,List.length_singleton,Nat.add_mul,Nat.one_mul,List.range_add,List.map_append,hg,List.map_map,List.flatMap_append]
   congr 1
   have:=hr xs.length (Nat.le_refl _)
   rw [List.flatMap_singleton]
   exact this
  ·simp only [AV.at_,Option.some.injEq] at hi
   subst hi
   exact ⟨hL,.inr (Nat.le_refl _)⟩
 ·have hlt:=(List.getElem?_eq_some_iff.1 ho).1
  have he:appR H sz (.sl id ver 0 xs.length sz) (f (rule xs.length)) = (.sl id (ver + 1) 0 (xs.length + 1) sz,H.set id (.cells (ver + 1) (xs.flatMap f ++ f (rule xs.length)))):=by simp only [appR,ho]
  rw [he]
  refine ⟨.inr (.inr ⟨id,ver + 1,by simp,hl,by rw [List.getElem?_set_self hlt];simp⟩),(Stays.set H id _).mono (fun i _ e=>by subst e;exact ⟨rfl,hl⟩),fun i hi=>?_⟩
  simp only [AV.at_,Option.some.injEq] at hi
  subst hi
  exact ⟨hl,.inl rfl⟩
theorem sameCell_refl:∀ {x:AV},(∃ k a,x = .v (.int k a)) ∨ (∃ s,x = .v (.string s)) → sameCell x x = true:=by
 rintro x (⟨k,a,rfl⟩ | ⟨s,rfl⟩) <;> simp [sameCell]
theorem sameCells_refl:∀ {l:List AV},(∀ x ∈ l,(∃ k a,x = .v (.int k a)) ∨ ∃ s,x = .v (.string s)) → sameCells l l = true
 | [],_=>rfl
 | x :: r,h=>by
   simp only [sameCells,Bool.and_eq_true]
   exact ⟨sameCell_refl (h x (by simp)),sameCells_refl fun y hy=>h y (by simp [hy])⟩
theorem bX_appR0 {s:XSt} {y z:XO} {K:AV → AH → Prop} (w:GSl f sz rule L H v xs) (hf:∀ x,(f x).length = sz) (hsz:0 < sz) (hfl:∀ x,∀ c ∈ f x,(∃ k a,c = .v (.int k a)) ∨ ∃ s,c = .v (.string s))
 (htmp:xRows H sz tmp = some (1,f (rule xs.length))) (hb:(xs.length + 1) * bytes ≤ 140737488355328) (hx:xevX cx s (.app sz bytes y z) = xAppF H sz bytes v tmp)
 (hk:K (appR H sz v (f (rule xs.length))).1 (appR H sz v (f (rule xs.length))).2):bX cx s (.app sz bytes y z) (xApp H sz bytes v tmp) K:=by
 have hl:=cells_len hf xs
 rcases w with ⟨rfl,rfl⟩ | ⟨id,ver,g,rfl,ho,hg,hr⟩ | ⟨id,ver,rfl,hl2,ho⟩
 ·have h1:xApp H sz bytes nilS tmp = some (appR H sz nilS (f (rule 0))):=by
   have h1:1 * bytes ≤ 140737488355328:=by simpa using hb
   simp only [List.length_nil] at htmp
   simp only [xApp,htmp,nilS,appR]
   rw [if_neg (by decide),if_pos h1]
  rw [h1]
  exact ⟨_,_,rfl,hk⟩
 ·have h1:xApp H sz bytes (.sl id ver 0 xs.length sz) tmp = none:=by
   simp only [xApp,htmp,if_true]
   unfold AH.get
   rw [ho]
   rfl
  have h2:xAppF H sz bytes (.sl id ver 0 xs.length sz) tmp = some (appR H sz (.sl id ver 0 xs.length sz) (f (rule xs.length))):=by
   have h3:sameCells (f (rule xs.length)) ((List.range (1 * sz)).map fun j=>g (xs.length * sz + j)) = true:=by
    rw [Nat.one_mul,hr xs.length (Nat.le_refl _)]
    exact sameCells_refl (hfl _)
   simp only [xAppF,ho,htmp,appR]
   rw [if_pos ⟨trivial,trivial,trivial,trivial,hb,h3⟩,Nat.one_mul]
  rw [h1,bX_none,hx,h2]
  exact ⟨_,_,rfl,hk⟩
 ·have h1:xApp H sz bytes (.sl id ver 0 xs.length sz) tmp = some (appR H sz (.sl id ver 0 xs.length sz) (f (rule xs.length))):=by
   simp only [xApp,htmp,if_true,get_of ho,Option.bind_some,appR,ho]
   rw [if_neg (by decide),if_neg (by rw [hl,Nat.add_mul];omega),if_pos ⟨trivial,by omega,hb⟩,List.take_of_length_le (by omega)]
  rw [h1]
  exact ⟨_,_,rfl,hk⟩
theorem bX_appR {s:XSt} {y z:XO} {K:AV → AH → Prop} {n:Nat} {v':AV} {X:AH} (w:GSl f sz rule L H v xs) (hn:xs.length = n) (hp:appR H sz v (f (rule n)) = (v',X)) (hf:∀ x,(f x).length = sz) (hsz:0 < sz) (hfl:∀ x,∀ c ∈ f x,(∃ k a,c = .v (.int k a)) ∨ ∃ s,c = .v (.string s))
 (htmp:xRows H sz tmp = some (1,f (rule n))) (hb:(n + 1) * bytes ≤ 140737488355328) (hx:xevX cx s (.app sz bytes y z) = xAppF H sz bytes v tmp) (hk:K v' X):bX cx s (.app sz bytes y z) (xApp H sz bytes v tmp) K:=by
 subst hn
 exact bX_appR0 w hf hsz hfl htmp hb hx (by rw [hp];exact hk)
theorem appR_ok' {n:Nat} {v':AV} {X:AH} (w:GSl f sz rule L H v xs) (hn:xs.length = n) (hp:appR H sz v (f (rule n)) = (v',X)) (hL:L ≤ H.length) (hf:∀ x,(f x).length = sz) :
 GSl f sz rule L X v' (xs ++ [rule n]) ∧ Stays (fun id=>v.at_ = some id ∧ L ≤ id) H X ∧ ∀ id,v'.at_ = some id → L ≤ id ∧ (v.at_ = some id ∨ H.length ≤ id):=by
 subst hn
 have:=appR_ok w hL hf
 rw [hp] at this
 exact this
end
def gT (m:Int) (n:Nat):Ins:=⟨99,0,0,0,m + n⟩
def gF (m:Int) (n:Nat):Fn:=⟨⟨#[103,114,111,119,110]⟩,0,m + n,0⟩
def gB (m:Int) (n:Nat):Tab:=⟨⟨#[103,114,111,119,110]⟩,0,m + n,0,0⟩
theorem flat_T:∀ (x:Ins),∀ c ∈ x.row,(∃ k a,c = .v (.int k a)) ∨ ∃ s,c = .v (.string s):=by
 intro x c hc
 simp only [Ins.row,List.mem_cons,List.not_mem_nil,or_false] at hc
 rcases hc with rfl | rfl | rfl | rfl | rfl <;> exact .inl ⟨_,_,rfl⟩
theorem flat_F:∀ (x:Fn),∀ c ∈ x.row,(∃ k a,c = .v (.int k a)) ∨ ∃ s,c = .v (.string s):=by
 intro x c hc
 simp only [Fn.row,List.mem_cons,List.not_mem_nil,or_false] at hc
 rcases hc with rfl | rfl | rfl | rfl <;> first | exact .inl ⟨_,_,rfl⟩ | exact .inr ⟨_,rfl⟩
theorem flat_B:∀ (x:Tab),∀ c ∈ x.row,(∃ k a,c = .v (.int k a)) ∨ ∃ s,c = .v (.string s):=by
 intro x c hc
 simp only [Tab.row,List.mem_cons,List.not_mem_nil,or_false] at hc
 rcases hc with rfl | rfl | rfl | rfl | rfl <;> first | exact .inl ⟨_,_,rfl⟩ | exact .inr ⟨_,rfl⟩
structure GS where
 t:AV
 f:AV
 b:AV
 H:AH
def gstep (L:Nat) (m e:Int) (nt nf nb:Nat) (s:GS):GS:=
 let p:=appR (s.H ++ [.cells 0 (gT m nt).row]) 5 s.t (gT m nt).row
 let q:=appR (p.2.set L (.cells 0 [p.1,s.f,s.b,VI e]) ++ [.cells 0 (gF m nf).row]) 4 s.f (gF m nf).row
 let r:=appR (q.2.set L (.cells 0 [p.1,q.1,s.b,VI e]) ++ [.cells 0 (gB m nb).row]) 5 s.b (gB m nb).row
 ⟨p.1,q.1,r.1,r.2.set L (.cells 0 [p.1,q.1,r.1,VI e])⟩
def gsts (L:Nat) (m e:Int) (nt nf nb:Nat) (s:GS):Nat → GS
 | 0=>s
 | j + 1=>gstep L m e (nt + j) (nf + j) (nb + j) (gsts L m e nt nf nb s j)
structure GInv (L:Nat) (m:Int) (h:AH) (im:Img) (s:GS) (j:Nat):Prop where
 t:GSl Ins.row 5 (gT m) (L + 2) s.H s.t (im.text ++ (List.range j).map fun i=>gT m (im.text.length + i))
 f:GSl Fn.row 4 (gF m) (L + 2) s.H s.f (im.funcs ++ (List.range j).map fun i=>gF m (im.funcs.length + i))
 b:GSl Tab.row 5 (gB m) (L + 2) s.H s.b (im.tables ++ (List.range j).map fun i=>gB m (im.tables.length + i))
 box:s.H[L]? = some (.cells 0 [s.t,s.f,s.b,VI im.entry])
 res:s.H[L + 1]? = some (.cells 0 [nilS,nilS,nilS,VI 0])
 st:Stays (fun id=>L ≤ id) h s.H
 len:L + 2 ≤ s.H.length
 ti:∀ id,s.t.at_ = some id → (id < L ∧ j = 0) ∨ L + 2 ≤ id
 fi:∀ id,s.f.at_ = some id → (id < L ∧ j = 0) ∨ L + 2 ≤ id
 bi:∀ id,s.b.at_ = some id → (id < L ∧ j = 0) ∨ L + 2 ≤ id
 tf:Dj s.t s.f
 tb:Dj s.t s.b
 fb:Dj s.f s.b
theorem GSl.at_lt {α:Type} {f:α → List AV} {sz:Nat} {rule:Nat → α} {L:Nat} {H:AH} {v:AV} {xs:List α} (w:GSl f sz rule L H v xs) {id:Nat} (hid:v.at_ = some id):id < H.length:=by
 rcases w with ⟨rfl,_⟩ | ⟨i,ver,g,rfl,ho,_⟩ | ⟨i,ver,rfl,_,ho⟩
 ·cases hid
 ·cases hid
  exact (List.getElem?_eq_some_iff.1 ho).1
 ·cases hid
  exact (List.getElem?_eq_some_iff.1 ho).1
theorem grow_one {α:Type} {f:α → List AV} {sz:Nat} {rule:Nat → α} {L n:Nat} {H X':AH} {v v':AV} {xs:List α} {tmp nb:AO} (w:GSl f sz rule (L + 2) H v xs) (hn:xs.length = n) (hp:appR (H ++ [tmp]) sz v (f (rule n)) = (v',X')) (hlen:L + 2 ≤ H.length) (hf:∀ x,(f x).length = sz) :
 GSl f sz rule (L + 2) (X'.set L nb) v' (xs ++ [rule n]) ∧ Stays (fun id=>v.at_ = some id ∧ L + 2 ≤ id) H X' ∧ Stays (fun id=>id = L ∨ (v.at_ = some id ∧ L + 2 ≤ id)) H (X'.set L nb) ∧ (X'.set L nb)[L]? = some nb ∧ L + 2 ≤ (X'.set L nb).length ∧ ∀ id,v'.at_ = some id → L + 2 ≤ id ∧ (v.at_ = some id ∨ H.length ≤ id):=by
 have a1:Stays (fun _=>False) H (H ++ [tmp]):=Stays.app _ _
 obtain ⟨q1,q2,q3⟩:=appR_ok' (w.stays a1 fun _ _ h=>h) hn hp (by simp;omega) hf
 have s1:Stays (fun id=>v.at_ = some id ∧ L + 2 ≤ id) H X':=(a1.mono fun _ _ h=>h.elim).trans q2
 have hl:L + 2 ≤ X'.length:=by have:=s1.len;omega
 have s2:=Stays.set X' L nb
 refine ⟨q1.stays s2 fun id hid=>by have:=(q3 id hid).1;omega,s1,(s1.mono fun _ _ h=>.inr h).trans (s2.mono fun _ _ h=>.inl h),by rw [List.getElem?_set_self (by omega)],by simpa using hl,fun id hid=>⟨(q3 id hid).1,?_⟩⟩
 rcases (q3 id hid).2 with h1 | h1
 ·exact .inl h1
 ·simp at h1
  exact .inr (by omega)
theorem GSl.cells {α:Type} {f:α → List AV} {sz:Nat} {rule:Nat → α} {L:Nat} {H:AH} {v:AV} {xs:List α} (hf:∀ x,(f x).length = sz) (w:GSl f sz rule L H v xs):v.cellsOf = some [v]:=(w.rows hf).sl.cells
theorem pre_drop {h H:AH} {L:Nat} (hL:L = h.length) (k:Stays (fun id=>L ≤ id) h H):H = h ++ H.drop h.length:=by
 refine List.ext_getElem? fun i=>?_
 by_cases hi:i < h.length
 ·rw [List.getElem?_append_left hi]
  exact k.at_ i hi (by omega)
 ·rw [List.getElem?_append_right (by omega),List.getElem?_drop]
  congr 1
  omega
set_option maxRecDepth 100000 in
set_option maxHeartbeats 8000000 in
theorem c184 (hO:On cx) {h:AH} {a:IA} {im:Img} {m:Int} {k:Nat} (hT:GSl Ins.row 5 (gT m) (h.length + 2) h a.t im.text) (hF:GSl Fn.row 4 (gF m) (h.length + 2) h a.f im.funcs) (hB:GSl Tab.row 5 (gB m) (h.length + 2) h a.b im.tables)
 (he:a.e = im.entry) (htf:Dj a.t a.f) (htb:Dj a.t a.b) (hfb:Dj a.f a.b) (hk:1 ≤ k) (h1:im.text.length + k < 1099511627776) (h2:im.funcs.length + k < 1099511627776) (h3:im.tables.length + k < 1099511627776)
 (hm1:-1099511627776000000 ≤ m) (hm2:m ≤ 1099511627776000000) :
 ∃ (r:IA) (g:AH) (im':Img),SimCall cx 184 [.agg a.row,VI m,VI k] h (fun r' h'=>r' = .agg r.row ∧ h' = h ++ g) ∧ ImS (h ++ g) r im' ∧ ∀ id ∈ r.ids,h.length ≤ id:=by
 obtain ⟨t0,f0,b0,e0⟩:=a
 simp only at hT hF hB he htf htb hfb
 subst he
 have c1:=(hT.rows Ins.len).sl.cell
 have c2:=(hF.rows Fn.len).sl.cell
 have c3:=(hB.rows Tab.len).sl.cell
 obtain ⟨S,hS⟩:∃ S:Nat → GS,S = gsts h.length m im.entry im.text.length im.funcs.length im.tables.length ⟨t0,f0,b0,h ++ [.cells 0 [t0,f0,b0,VI im.entry],.cells 0 [nilS,nilS,nilS,VI 0]]⟩:=⟨_,rfl⟩
 have hS0:S 0 = ⟨t0,f0,b0,h ++ [.cells 0 [t0,f0,b0,VI im.entry],.cells 0 [nilS,nilS,nilS,VI 0]]⟩:=by rw [hS];rfl
 have hS1:∀ j,S (j + 1) = gstep h.length m im.entry (im.text.length + j) (im.funcs.length + j) (im.tables.length + j) (S j):=fun j=>by rw [hS];rfl
 clear hS
 have i0:GInv h.length m h im (S 0) 0:=by
  rw [hS0]
  have e0:∀ {α:Type} (xs:List α) (g:Nat → α),xs ++ (List.range 0).map g = xs:=fun xs g=>by simp
  refine ⟨?_,?_,?_,by simp,by simp,Stays.app _ _,by simp,fun id hid=>.inl ⟨hT.at_lt hid,rfl⟩,fun id hid=>.inl ⟨hF.at_lt hid,rfl⟩,fun id hid=>.inl ⟨hB.at_lt hid,rfl⟩,htf,htb,hfb⟩
  ·rw [e0];exact hT.stays (Stays.app (P:=fun _=>False) _ _) (fun _ _ h=>h)
  ·rw [e0];exact hF.stays (Stays.app (P:=fun _=>False) _ _) (fun _ _ h=>h)
  ·rw [e0];exact hB.stays (Stays.app (P:=fun _=>False) _ _) (fun _ _ h=>h)
 have hsn:∀ {α:Type} (xs:List α) (g:Nat → α) (j:Nat),xs ++ (List.range (j + 1)).map g = (xs ++ (List.range j).map g) ++ [g j]:=fun xs g j=>app_snoc xs g j
 have key:∀ j,j < k → GInv h.length m h im (S j) j → GInv h.length m h im (S (j + 1)) (j + 1) ∧ ∃ v1 X1 v2 X2 v3 X3,
  appR ((S j).H ++ [.cells 0 (gT m (im.text.length + j)).row]) 5 (S j).t (gT m (im.text.length + j)).row = (v1,X1) ∧ appR (X1.set h.length (.cells 0 [v1,(S j).f,(S j).b,VI im.entry]) ++ [.cells 0 (gF m (im.funcs.length + j)).row]) 4 (S j).f (gF m (im.funcs.length + j)).row = (v2,X2) ∧
  appR (X2.set h.length (.cells 0 [v1,v2,(S j).b,VI im.entry]) ++ [.cells 0 (gB m (im.tables.length + j)).row]) 5 (S j).b (gB m (im.tables.length + j)).row = (v3,X3) ∧ S (j + 1) = ⟨v1,v2,v3,X3.set h.length (.cells 0 [v1,v2,v3,VI im.entry])⟩ ∧
  X1[h.length]? = some (.cells 0 [(S j).t,(S j).f,(S j).b,VI im.entry]) ∧ X2[h.length]? = some (.cells 0 [v1,(S j).f,(S j).b,VI im.entry]) ∧ X3[h.length]? = some (.cells 0 [v1,v2,(S j).b,VI im.entry]) ∧
  GSl Fn.row 4 (gF m) (h.length + 2) (X1.set h.length (.cells 0 [v1,(S j).f,(S j).b,VI im.entry])) (S j).f (im.funcs ++ (List.range j).map fun i=>gF m (im.funcs.length + i)) ∧
  GSl Tab.row 5 (gB m) (h.length + 2) (X2.set h.length (.cells 0 [v1,v2,(S j).b,VI im.entry])) (S j).b (im.tables ++ (List.range j).map fun i=>gB m (im.tables.length + i)) ∧
  v1.cellsOf = some [v1] ∧ v2.cellsOf = some [v2] ∧ v3.cellsOf = some [v3]:=by
  intro j hj i1
  have hS2:=hS1 j
  generalize S (j + 1) = s' at hS2 ⊢
  subst hS2
  generalize S j = s at i1 ⊢
  obtain ⟨t,f,b,H⟩:=s
  obtain ⟨p1,p2,p3,p4,p5,p6,p7,p8,p9,p10,p11,p12,p13⟩:=i1
  simp only at p1 p2 p3 p4 p5 p6 p7 p8 p9 p10 p11 p12 p13
  unfold gstep
  simp only
  have hlT:(im.text ++ (List.range j).map fun i=>gT m (im.text.length + i)).length = im.text.length + j:=by simp
  have hlF:(im.funcs ++ (List.range j).map fun i=>gF m (im.funcs.length + i)).length = im.funcs.length + j:=by simp
  have hlB:(im.tables ++ (List.range j).map fun i=>gB m (im.tables.length + i)).length = im.tables.length + j:=by simp
  rcases hp:appR (H ++ [.cells 0 (gT m (im.text.length + j)).row]) 5 t (gT m (im.text.length + j)).row with ⟨v1,X1⟩
  obtain ⟨u1,u2,u3,u4,u5,u6⟩:=grow_one (nb:=.cells 0 [v1,f,b,VI im.entry]) p1 hlT hp p7 Ins.len
  try simp only
  have f1:=p2.stays u3 (fun id hid=>by
   rintro (rfl | ⟨e1,e2⟩)
   ·rcases p9 _ hid with h1 | h1 <;> omega
   ·exact p11 id e1 hid)
  have b1:=p3.stays u3 (fun id hid=>by
   rintro (rfl | ⟨e1,e2⟩)
   ·rcases p10 _ hid with h1 | h1 <;> omega
   ·exact p12 id e1 hid)
  have r1:=stays_get u3 p5 (by
   rintro (e1 | ⟨_,e2⟩)
   ·omega
   ·omega)
  have x1:=stays_get u2 p4 (by rintro ⟨_,e2⟩;omega)
  rcases hq:appR (X1.set h.length (.cells 0 [v1,f,b,VI im.entry]) ++ [.cells 0 (gF m (im.funcs.length + j)).row]) 4 f (gF m (im.funcs.length + j)).row with ⟨v2,X2⟩
  obtain ⟨w1,w2,w3,w4,w5,w6⟩:=grow_one (nb:=.cells 0 [v1,v2,b,VI im.entry]) f1 hlF hq u5 Fn.len
  try simp only
  have hT1:∀ id,v1.at_ = some id → id < (X1.set h.length (.cells 0 [v1,f,b,VI im.entry])).length:=fun id hid=>u1.at_lt hid
  have v1f:Dj v1 f:=fun id e1 e2=>by
   rcases (u6 id e1).2 with h1 | h1
   ·exact p11 id h1 e2
   ·have:=p2.at_lt e2;omega
  have v1b:Dj v1 b:=fun id e1 e2=>by
   rcases (u6 id e1).2 with h1 | h1
   ·exact p12 id h1 e2
   ·have:=p3.at_lt e2;omega
  have t2:=u1.stays w3 (fun id hid=>by
   rintro (rfl | ⟨e1,e2⟩)
   ·have:=(u6 _ hid).1;omega
   ·exact v1f id hid e1)
  have b2:=b1.stays w3 (fun id hid=>by
   rintro (rfl | ⟨e1,e2⟩)
   ·rcases p10 _ hid with h1 | h1 <;> omega
   ·exact p13 id e1 hid)
  have r2:=stays_get w3 r1 (by
   rintro (e1 | ⟨_,e2⟩)
   ·omega
   ·omega)
  have x2:=stays_get w2 u4 (by rintro ⟨_,e2⟩;omega)
  rcases hr:appR (X2.set h.length (.cells 0 [v1,v2,b,VI im.entry]) ++ [.cells 0 (gB m (im.tables.length + j)).row]) 5 b (gB m (im.tables.length + j)).row with ⟨v3,X3⟩
  obtain ⟨y1,y2,y3,y4,y5,y6⟩:=grow_one (nb:=.cells 0 [v1,v2,v3,VI im.entry]) b2 hlB hr w5 Tab.len
  try simp only
  have v2b:Dj v2 b:=fun id e1 e2=>by
   rcases (w6 id e1).2 with h1 | h1
   ·exact p13 id h1 e2
   ·have:=b1.at_lt e2;omega
  have v1v2:Dj v1 v2:=fun id e1 e2=>by
   rcases (w6 id e2).2 with h1 | h1
   ·exact v1f id e1 h1
   ·have:=u1.at_lt e1;omega
  have v1v3:Dj v1 v3:=fun id e1 e2=>by
   rcases (y6 id e2).2 with h1 | h1
   ·exact v1b id e1 h1
   ·have:=t2.at_lt e1;omega
  have v2v3:Dj v2 v3:=fun id e1 e2=>by
   rcases (y6 id e2).2 with h1 | h1
   ·exact v2b id e1 h1
   ·have:=w1.at_lt e1;omega
  have t3:=t2.stays y3 (fun id hid=>by
   rintro (rfl | ⟨e1,e2⟩)
   ·have:=(u6 _ hid).1;omega
   ·exact v1b id hid e1)
  have f3:=w1.stays y3 (fun id hid=>by
   rintro (rfl | ⟨e1,e2⟩)
   ·have:=(w6 _ hid).1;omega
   ·exact v2b id hid e1)
  have r3:=stays_get y3 r2 (by
   rintro (e1 | ⟨_,e2⟩)
   ·omega
   ·omega)
  have x3:=stays_get y2 w4 (by rintro ⟨_,e2⟩;omega)
  simp only [hp,hq,hr]
  refine ⟨⟨by rw [hsn];exact t3,by rw [hsn];exact f3,by rw [hsn];exact y1,y4,r3,((p6.trans (u3.mono fun id _ e=>?_)).trans (w3.mono fun id _ e=>?_)).trans (y3.mono fun id _ e=>?_),y5,fun id hid=>.inr (u6 id hid).1,fun id hid=>.inr (w6 id hid).1,fun id hid=>.inr (y6 id hid).1,v1v2,v1v3,v2v3⟩,
   v1,X1,v2,X2,v3,X3,rfl,hq,hr,rfl,x1,x2,x3,f1,b2,u1.cells Ins.len,w1.cells Fn.len,y1.cells Tab.len⟩
  ·rcases e with e | e <;> omega
  ·rcases e with e | e <;> omega
  ·rcases e with e | e <;> omega
 have all:∀ j,j ≤ k → GInv h.length m h im (S j) j:=by
  intro j
  induction j with
  | zero=>exact fun _=>i0
  | succ j ih=>exact fun hj=>(key j (by omega) (ih (by omega))).1
 have ik:=all k (Nat.le_refl _)
 obtain ⟨z1,z2,z3,z4,z5,z6,z7,z8,z9,z10,z11,z12,z13⟩:=ik
 have sz:=Stays.set (S k).H (h.length + 1) (.cells 0 [(S k).t,(S k).f,(S k).b,VI im.entry])
 have hpre:=pre_drop rfl (z6.trans (sz.mono fun id _ e=>by omega))
 refine ⟨⟨(S k).t,(S k).f,(S k).b,im.entry⟩,((S k).H.set (h.length + 1) (.cells 0 [(S k).t,(S k).f,(S k).b,VI im.entry])).drop h.length,⟨im.text ++ (List.range k).map fun i=>gT m (im.text.length + i),im.funcs ++ (List.range k).map fun i=>gF m (im.funcs.length + i),im.tables ++ (List.range k).map fun i=>gB m (im.tables.length + i),im.entry⟩,?_,?_,?_⟩
 rotate_left
 ·rw [← hpre]
  refine ⟨(z1.stays sz fun id hid=>?_).rows Ins.len,(z2.stays sz fun id hid=>?_).rows Fn.len,(z3.stays sz fun id hid=>?_).rows Tab.len,rfl,by simp;omega,by simp;omega,by simp;omega⟩
  ·rcases z8 id hid with h1 | h1 <;> omega
  ·rcases z9 id hid with h1 | h1 <;> omega
  ·rcases z10 id hid with h1 | h1 <;> omega
 ·intro id hid
  obtain ⟨v,hv,hat⟩:=List.mem_filterMap.1 hid
  simp only [List.mem_cons,List.not_mem_nil,or_false] at hv
  rcases hv with rfl | rfl | rfl
  ·rcases z8 id hat with h1 | h1 <;> omega
  ·rcases z9 id hat with h1 | h1 <;> omega
  ·rcases z10 id hat with h1 | h1 <;> omega
 rw [← hpre]
 refine SimCall.by hO.P res184 ?_
 unfold x184 r184
 repeat' first
  | simp (maxSteps:=1000000) only [go_sem,c1,c2,c3]
 refine SimLoop.inv [1,0,0,2,0] (fun q s=>∃ (j:Nat),q = k - j ∧ j ≤ k ∧ s = ⟨[.un,VI m,VI k,.ptr h.length 0 0,.un,.un,.ptr (h.length + 1) 0 0,VI j,.un,.un,.un,.un,.un,.un,.un,.un,.un,.un,.un,.un,.un,.un,.un,.un,.un,.un,.un,.un,.un,.un,.un,.un,.un,.un,.un,.un,.un,.un,.un,.un,.un,.un,.un,.un,.un,.un,.un],(S j).H⟩) ?_ k ?_
 rotate_left
 ·exact ⟨0,rfl,Nat.zero_le _,by rw [hS0];simp only [go_sem] <;> rfl⟩
 rintro q s ⟨j,rfl,hj,rfl⟩
 by_cases hlt:j < k
 ·have hlt':((j:Int) < (k:Int)):=by omega
  have hw:=wrap_succ hlt (by omega)
  have ij:=all j hj
  obtain ⟨_,v1,X1,v2,X2,v3,X3,hp,hq,hr,hS',x1,x2,x3,f1,b2,k1,k2,k3⟩:=key j hlt ij
  generalize S j = s at *
  obtain ⟨t,f,b,H⟩:=s
  simp only at hp hq hr x1 x2 x3 f1 b2 ij ⊢
  have hlT:(im.text ++ (List.range j).map fun i=>gT m (im.text.length + i)).length = im.text.length + j:=by simp
  have hlF:(im.funcs ++ (List.range j).map fun i=>gF m (im.funcs.length + i)).length = im.funcs.length + j:=by simp
  have hlB:(im.tables ++ (List.range j).map fun i=>gB m (im.tables.length + i)).length = im.tables.length + j:=by simp
  have n1:xLenL t = some (VI ((im.text.length + j:Nat):Int)):=by rw [← hlT];exact (ij.t.rows Ins.len).sl.len
  have n2:xLenL f = some (VI ((im.funcs.length + j:Nat):Int)):=by rw [← hlF];exact (ij.f.rows Fn.len).sl.len
  have n3:xLenL b = some (VI ((im.tables.length + j:Nat):Int)):=by rw [← hlB];exact (ij.b.rows Tab.len).sl.len
  have m1:IntKind.i64.wrap (m + ((im.text.length + j:Nat):Int)) = m + ((im.text.length + j:Nat):Int):=wrap_id (by omega) (by omega)
  have m2:IntKind.i64.wrap (m + ((im.funcs.length + j:Nat):Int)) = m + ((im.funcs.length + j:Nat):Int):=wrap_id (by omega) (by omega)
  have m3:IntKind.i64.wrap (m + ((im.tables.length + j:Nat):Int)) = m + ((im.tables.length + j:Nat):Int):=wrap_id (by omega) (by omega)
  have g0:=rd_of ij.box
  have g1:=get_of x1
  have g2:=get_of x2
  have g3:=get_of x3
  have hx1:=(List.getElem?_eq_some_iff.1 x1).1
  have hx2:=(List.getElem?_eq_some_iff.1 x2).1
  have hx3:=(List.getElem?_eq_some_iff.1 x3).1
  have d1:∀ c g,AH.rd (X1.set h.length (.cells 0 c) ++ g) h.length 0 = some c:=fun c g=>rd_more (by rw [List.getElem?_set_self hx1]) g
  have d2:∀ c g,AH.rd (X2.set h.length (.cells 0 c) ++ g) h.length 0 = some c:=fun c g=>rd_more (by rw [List.getElem?_set_self hx2]) g
  have d1':∀ c,AH.rd (X1.set h.length (.cells 0 c)) h.length 0 = some c:=fun c=>rd_of (by rw [List.getElem?_set_self hx1])
  have d2':∀ c,AH.rd (X2.set h.length (.cells 0 c)) h.length 0 = some c:=fun c=>rd_of (by rw [List.getElem?_set_self hx2])
  have g0':∀ g,AH.rd (H ++ g) h.length 0 = _:=fun g=>rd_more ij.box g
  repeat' first
   | simp (maxSteps:=1000000) only [go_sem,hlt',hw,g0,g0',n1,m1]
  refine bX_appR (ij.t.stays (Stays.app (P:=fun _=>False) _ _) fun _ _ h=>h) hlT hp Ins.len (by decide) flat_T (by simp [xRows,AH.rd,Ins.row,gT]) (by omega) rfl ?_
  repeat' first
   | simp (maxSteps:=1000000) only [go_sem,g1,k1,d1,d1',n2,m2]
  refine bX_appR (f1.stays (Stays.app (P:=fun _=>False) _ _) fun _ _ h=>h) hlF hq Fn.len (by decide) flat_F (by simp [xRows,AH.rd,Fn.row,gF]) (by omega) rfl ?_
  repeat' first
   | simp (maxSteps:=1000000) only [go_sem,g2,k2,d2,d2',n3,m3]
  refine bX_appR (b2.stays (Stays.app (P:=fun _=>False) _ _) fun _ _ h=>h) hlB hr Tab.len (by decide) flat_B (by simp [xRows,AH.rd,Tab.row,gB]) (by omega) rfl ?_
  repeat' first
   | simp (maxSteps:=1000000) only [go_sem,g3,k3,hw]
  exact ⟨k - (j + 1),by omega,j + 1,rfl,by omega,by rw [hS']⟩
 ·have hlt':¬ ((j:Int) < (k:Int)):=by omega
  have hjk:j = k:=by omega
  subst hjk
  have g0:=rd_of z4
  have g1:=get_of z5
  have hx:=(List.getElem?_eq_some_iff.1 z5).1
  have d1:∀ c,AH.rd ((S j).H.set (h.length + 1) (.cells 0 c)) (h.length + 1) 0 = some c:=fun c=>rd_of (by rw [List.getElem?_set_self hx])
  have e1:=(z1.rows Ins.len).sl.cell
  have e2:=(z2.rows Fn.len).sl.cell
  have e3:=(z3.rows Tab.len).sl.cell
  repeat' first
   | simp (maxSteps:=1000000) only [go_sem,hlt',g0,g1,d1,e1,e2,e3]
  all_goals exact ⟨rfl,rfl⟩
end Go.Tidy
namespace Go.Tidy
open Go Go.Eng Go.Proofs
variable {cx:Cx}
def Ghost (cx:Cx) (h h':AH):Prop:=∀ (φ:Phi) (w:World),RepW cx φ h w → RepW cx φ h' w ∧ Go.Eng.Step φ h w φ h' w
theorem Ghost.refl (h:AH):Ghost cx h h:=fun φ w hw=>⟨hw,Step.refl _ _ _⟩
theorem Ghost.trans {a b c:AH} (x:Ghost cx a b) (y:Ghost cx b c):Ghost cx a c:=fun φ w hw=>by
 obtain ⟨h1,h2⟩:=x φ w hw
 obtain ⟨h3,h4⟩:=y φ w h1
 exact ⟨h3,h2.trans h4⟩
theorem SimLoop.ghost {x:XCode} {fr:List AV} {h h':AH} {K:XEx → XSt → Prop} (hg:Ghost cx h h') (hl:SimLoop cx x ⟨fr,h'⟩ K):SimLoop cx x ⟨fr,h⟩ K:=by
 intro c hc φ a w Q hs hn
 obtain ⟨h1,h2⟩:=hg φ w hs.world
 exact hl c hc φ a w Q ⟨hs.len,hs.slot,hs.defers,h1⟩ fun e φ' s' a' w' q1 q2 q3=>hn e φ' s' a' w' q1 (h2.trans q2) q3
def RdEq (h h':AH):Prop:=h'.length = h.length ∧ ∀ id ver,AH.rd h' id ver = AH.rd h id ver
theorem RdEq.refl (h:AH):RdEq h h:=⟨rfl,fun _ _=>rfl⟩
theorem RdEq.trans {a b c:AH} (x:RdEq a b) (y:RdEq b c):RdEq a c:=⟨y.1.trans x.1,fun id ver=>(y.2 id ver).trans (x.2 id ver)⟩
theorem RdEq.app {h h':AH} (x:RdEq h h') (g:AH):RdEq (h ++ g) (h' ++ g):=by
 refine ⟨by simp [x.1],fun id ver=>?_⟩
 by_cases hi:id < h.length
 ·rw [rd_at (h:=h') (List.getElem?_append_left (by rw [x.1];exact hi)),rd_at (h:=h) (List.getElem?_append_left hi),x.2]
 ·unfold AH.rd
  rw [List.getElem?_append_right (by rw [x.1];omega),List.getElem?_append_right (by omega),x.1]
section
variable {α:Type} {f:α → List AV} {sz:Nat} {h h':AH} {v:AV} {xs:List α}
theorem SlT.rdeq (s:SlT f sz h v xs) (k:RdEq h h'):SlT f sz h' v xs:=by
 cases s with
 | sl id ver off cs xs hrd hc=>exact .sl id ver off cs xs (fun g=>by rw [(k.app g).2];exact hrd g) hc
 | ro fn xs hr=>exact .ro fn xs hr
 | nl A c=>exact .nl A c
theorem xRows_rd (k:∀ id ver,AH.rd h' id ver = AH.rd h id ver) (sz:Nat) (v:AV):xRows h' sz v = xRows h sz v:=by
 cases v <;> simp only [xRows,k]
theorem Rows.rdeq (s:Rows f sz h v xs) (k:RdEq h h'):Rows f sz h' v xs:=⟨s.sl.rdeq k,fun g=>by rw [xRows_rd (k.app g).2];exact s.rows g⟩
theorem WSl.put (w:WSl f sz h v xs) (hf:∀ x,(f x).length = sz) {j:Nat} (hj:j < xs.length) (y:α) (hc:(f y).all AV.cell = true) :
 ∃ q X,xIad sz v (VI j) = some q ∧ xSt h sz q (.agg (f y)) = some X ∧ WSl f sz X v (xs.set j y) ∧ Stays (fun id=>v.at_ = some id) h X:=by
 rcases w with ⟨_,rfl⟩ | ⟨id,ver,rfl,ho⟩
 ·simp at hj
 ·have hlt:=(List.getElem?_eq_some_iff.1 ho).1
  have hl:=cells_len hf xs
  have hle:j * sz + sz ≤ xs.length * sz:=by
   have:=Nat.mul_le_mul_right sz (show j + 1 ≤ xs.length by omega)
   rwa [Nat.succ_mul] at this
  refine ⟨.ptr id ver (j * sz),h.set id (.cells ver (setCells (xs.flatMap f) (j * sz) (f y))),?_,?_,.inr ⟨id,ver,by simp,?_⟩,(Stays.set h id _).mono fun i _ e=>by rw [e];rfl⟩
  ·simp only [xIad,Int.toNat_natCast,Nat.zero_add]
   rw [if_pos ⟨trivial,by omega,by omega⟩]
  ·have h1:(AV.agg (f y)).cellsOf = some (f y):=if_pos hc
   simp only [xSt,h1,get_of ho,Option.bind_some]
   rw [if_pos ⟨hf y,by omega⟩]
  ·rw [List.getElem?_set_self hlt,cells_set hf hj]
theorem WSl.conv (w:WSl f sz h v xs) (hf:∀ x,(f x).length = sz) (hsz:0 < sz) (rule:Nat → α) :
 ∃ h',Ghost cx h h' ∧ RdEq h h' ∧ Stays (fun id=>v.at_ = some id) h h' ∧ ∀ L,GSl f sz rule L h' v xs:=by
 rcases w with ⟨rfl,rfl⟩ | ⟨id,ver,rfl,ho⟩
 ·exact ⟨h,Ghost.refl h,RdEq.refl h,Stays.refl h,fun L=>.inl ⟨rfl,rfl⟩⟩
 ·have hlt:=(List.getElem?_eq_some_iff.1 ho).1
  have hl:=cells_len hf xs
  obtain ⟨g,hg⟩:∃ g:Nat → AV,g = fun j=>if j < xs.length * sz then (xs.flatMap f).getD j .un else (f (rule (j / sz))).getD (j % sz) .un:=⟨_,rfl⟩
  have hg1:∀ k x,(xs.flatMap f)[k]? = some x → x = g k:=by
   intro k x hx
   have hk:=(List.getElem?_eq_some_iff.1 hx).1
   rw [hl] at hk
   rw [hg]
   simp only [if_pos hk,List.getD_eq_getElem?_getD,hx,Option.getD_some]
  have hmap:(List.range (xs.flatMap f).length).map g = xs.flatMap f:=by
   refine List.ext_getElem? fun k=>?_
   by_cases hk:k < (xs.flatMap f).length
   ·rw [List.getElem?_map,List.getElem?_range hk,Option.map_some,List.getElem?_eq_getElem hk,hg1 k _ (List.getElem?_eq_getElem hk)]
   ·rw [List.getElem?_eq_none (by simpa using hk),List.getElem?_eq_none (by omega)]
  have hrule:∀ n,xs.length ≤ n → (List.range sz).map (fun j=>g (n * sz + j)) = f (rule n):=by
   intro n hn
   have hle:=Nat.mul_le_mul_right sz hn
   refine List.ext_getElem? fun k=>?_
   by_cases hk:k < sz
   ·have hk2:k < (f (rule n)).length:=by rw [hf];exact hk
    have e1:(n * sz + k) / sz = n:=by
     rw [Nat.add_comm,Nat.add_mul_div_right _ _ hsz,Nat.div_eq_of_lt hk,Nat.zero_add]
    have e2:(n * sz + k) % sz = k:=by
     rw [Nat.add_comm,Nat.add_mul_mod_self_right,Nat.mod_eq_of_lt hk]
    rw [List.getElem?_map,List.getElem?_range hk,Option.map_some,hg]
    simp only [if_neg (show ¬ n * sz + k < xs.length * sz by omega),e1,e2,List.getD_eq_getElem?_getD,List.getElem?_eq_getElem hk2,Option.getD_some]
   ·rw [List.getElem?_eq_none (by simpa using hk),List.getElem?_eq_none (by rw [hf];omega)]
  refine ⟨h.set id (.fam ver g (xs.flatMap f).length),fun φ w hw=>hw.famOf ho hg1,⟨by simp,fun i vv=>?_⟩,(Stays.set h id _).mono fun i _ e=>by rw [e];rfl,fun L=>.inr (.inl ⟨id,ver,g,rfl,by rw [List.getElem?_set_self hlt,hl],by rw [← hl];exact hmap,hrule⟩)⟩
  by_cases hi:id = i
  ·subst hi
   unfold AH.rd
   rw [List.getElem?_set_self hlt,ho]
   simp only [hmap]
  ·exact rd_at (List.getElem?_set_ne hi)
end
structure ImW (h:AH) (a:IA) (im:Img):Prop where
 t:WSl Ins.row 5 h a.t im.text
 f:WSl Fn.row 4 h a.f im.funcs
 b:WSl Tab.row 5 h a.b im.tables
 e:a.e = im.entry
 nt:im.text.length < 1000000000
 nf:im.funcs.length < 1000000000
 nb:im.tables.length < 1000000000
theorem ImW.s {h:AH} {a:IA} {im:Img} (w:ImW h a im):ImS h a im:=⟨w.t.rows Ins.len,w.f.rows Fn.len,w.b.rows Tab.len,w.e,by have:=w.nt;omega,by have:=w.nf;omega,by have:=w.nb;omega⟩
theorem mem_t {a:IA} {id:Nat} (h:a.t.at_ = some id):id ∈ a.ids:=List.mem_filterMap.2 ⟨a.t,by simp,h⟩
theorem mem_f {a:IA} {id:Nat} (h:a.f.at_ = some id):id ∈ a.ids:=List.mem_filterMap.2 ⟨a.f,by simp,h⟩
theorem mem_b {a:IA} {id:Nat} (h:a.b.at_ = some id):id ∈ a.ids:=List.mem_filterMap.2 ⟨a.b,by simp,h⟩
theorem ImW.stays {h h':AH} {a:IA} {im:Img} {P:Nat → Prop} (s:ImW h a im) (k:Stays P h h') (hp:∀ id ∈ a.ids,¬ P id):ImW h' a im:=
 ⟨s.t.stays k fun id hid=>hp id (mem_t hid),s.f.stays k fun id hid=>hp id (mem_f hid),s.b.stays k fun id hid=>hp id (mem_b hid),s.e,s.nt,s.nf,s.nb⟩
structure ImG (m:Int) (h:AH) (a:IA) (im:Img):Prop where
 t:∀ L,GSl Ins.row 5 (gT m) L h a.t im.text
 f:∀ L,GSl Fn.row 4 (gF m) L h a.f im.funcs
 b:∀ L,GSl Tab.row 5 (gB m) L h a.b im.tables
 e:a.e = im.entry
 nt:im.text.length < 1000000000
 nf:im.funcs.length < 1000000000
 nb:im.tables.length < 1000000000
theorem ImG.stays {m:Int} {h h':AH} {a:IA} {im:Img} {P:Nat → Prop} (s:ImG m h a im) (k:Stays P h h') (hp:∀ id ∈ a.ids,¬ P id):ImG m h' a im:=
 ⟨fun L=>(s.t L).stays k fun id hid=>hp id (mem_t hid),fun L=>(s.f L).stays k fun id hid=>hp id (mem_f hid),fun L=>(s.b L).stays k fun id hid=>hp id (mem_b hid),s.e,s.nt,s.nf,s.nb⟩
structure ImD (a:IA):Prop where
 tf:Dj a.t a.f
 tb:Dj a.t a.b
 fb:Dj a.f a.b
theorem ImW.conv {h:AH} {a:IA} {im:Img} (w:ImW h a im) (d:ImD a) (m:Int):∃ h',Ghost cx h h' ∧ RdEq h h' ∧ Stays (fun id=>id ∈ a.ids) h h' ∧ ImG m h' a im:=by
 obtain ⟨h1,g1,r1,s1,q1⟩:=w.t.conv (cx:=cx) Ins.len (by decide) (gT m)
 obtain ⟨h2,g2,r2,s2,q2⟩:=(w.f.stays s1 fun id hid e=>d.tf id e hid).conv (cx:=cx) Fn.len (by decide) (gF m)
 obtain ⟨h3,g3,r3,s3,q3⟩:=((w.b.stays s1 fun id hid e=>d.tb id e hid).stays s2 fun id hid e=>d.fb id e hid).conv (cx:=cx) Tab.len (by decide) (gB m)
 refine ⟨h3,(g1.trans g2).trans g3,(r1.trans r2).trans r3,((s1.mono fun id _ e=>mem_t e).trans (s2.mono fun id _ e=>mem_f e)).trans (s3.mono fun id _ e=>mem_b e),⟨fun L=>?_,fun L=>?_,q3,w.e,w.nt,w.nf,w.nb⟩⟩
 ·exact ((q1 L).stays s2 fun id hid e=>d.tf id hid e).stays s3 fun id hid e=>d.tb id hid e
 ·exact (q2 L).stays s3 fun id hid e=>d.fb id hid e
def FD (F:List IA):Prop:=(∀ a ∈ F,ImD a) ∧ ∀ (i j:Nat) a b,F[i]? = some a → F[j]? = some b → i ≠ j → ∀ id ∈ a.ids,id ∉ b.ids
theorem conv_all (M:Nat → Int) (F:List IA) (hd:FD F):∀ (n:Nat) (h:AH),(∀ a ∈ F,∃ im,ImW h a im) → ∃ h',Ghost cx h h' ∧ RdEq h h' ∧ Stays (fun id=>∃ a ∈ F,id ∈ a.ids) h h' ∧ (∀ (j:Nat) a,j < n → F[j]? = some a → ∃ im,ImG (M j) h' a im) ∧ ∀ (j:Nat) a,n ≤ j → F[j]? = some a → ∃ im,ImW h' a im
 | 0,h,hw=>⟨h,Ghost.refl h,RdEq.refl h,Stays.refl h,fun j a hj=>absurd hj (by omega),fun j a _ ha=>hw a (List.mem_of_getElem? ha)⟩
 | n + 1,h,hw=>by
   obtain ⟨h1,g1,r1,s1,q1,q2⟩:=conv_all M F hd n h hw
   cases hn:F[n]? with
   | none=>
     refine ⟨h1,g1,r1,s1,fun j a hj ha=>?_,fun j a hj ha=>q2 j a (by omega) ha⟩
     have:j ≠ n:=fun e=>by rw [e,hn] at ha;cases ha
     exact q1 j a (by omega) ha
   | some x=>
     have hxm:=List.mem_of_getElem? hn
     obtain ⟨im,hx⟩:=q2 n x (Nat.le_refl _) hn
     obtain ⟨h2,g2,r2,s2,q3⟩:=hx.conv (cx:=cx) (hd.1 x hxm) (M n)
     refine ⟨h2,g1.trans g2,r1.trans r2,s1.trans (s2.mono fun id _ e=>⟨x,hxm,e⟩),fun j a hj ha=>?_,fun j a hj ha=>?_⟩
     ·by_cases hjn:j = n
      ·subst hjn
       rw [hn] at ha
       cases ha
       exact ⟨im,q3⟩
      ·obtain ⟨im',h4⟩:=q1 j a (by omega) ha
       exact ⟨im',h4.stays s2 fun id hid e=>hd.2 j n a x ha hn hjn id hid e⟩
     ·obtain ⟨im',h4⟩:=q2 j a (by omega) ha
      exact ⟨im',h4.stays s2 fun id hid e=>hd.2 j n a x ha hn (by omega) id hid e⟩
end Go.Tidy
namespace Go.Tidy
open Go Go.Eng Go.Proofs
variable {cx:Cx}
def Own4 (S:Nat) (fS wS kS vS:AV) (id:Nat):Prop:=id = S ∨ fS.at_ = some id ∨ wS.at_ = some id ∨ kS.at_ = some id ∨ vS.at_ = some id
theorem ShO.stays {h h':AH} {S:Nat} {cnt tot:Int} {F W K V:List IA} {fS wS kS vS:AV} {P:Nat → Prop} (hs:ShO h S cnt tot F W K V fS wS kS vS) (k:Stays P h h') (hP:∀ id,P id → ¬ Own4 S fS wS kS vS id):ShO h' S cnt tot F W K V fS wS kS vS:=
 ⟨stays_get k hs.at_ fun e=>hP _ e (.inl rfl),hs.f.stays k fun id hid e=>hP id e (.inr (.inl hid)),hs.w.stays k fun id hid e=>hP id e (.inr (.inr (.inl hid))),hs.k.stays k fun id hid e=>hP id e (.inr (.inr (.inr (.inl hid)))),
  hs.v.stays k fun id hid e=>hP id e (.inr (.inr (.inr (.inr hid)))),hs.sf,hs.sw,hs.sk,hs.sv,hs.fw,hs.fk,hs.fv,hs.wk,hs.wv,hs.kv⟩
theorem Pairs.stays {h h':AH} {A B:List IA} {P:Nat → Prop} (p:Pairs h A B) (k:Stays P h h') (ha:∀ a ∈ A,∀ id ∈ a.ids,¬ P id) (hb:∀ b ∈ B,∀ id ∈ b.ids,¬ P id):Pairs h' A B:=
 ⟨p.1,fun i a b h1 h2=>(p.2 i a b h1 h2).stays k (ha a (List.mem_of_getElem? h1)) (hb b (List.mem_of_getElem? h2))⟩
theorem Pairs.snoc {h:AH} {A B:List IA} {a b:IA} (p:Pairs h A B) (s:Same h a b):Pairs h (A ++ [a]) (B ++ [b]):=by
 refine ⟨by simp [p.1],fun i x y h1 h2=>?_⟩
 by_cases hi:i < A.length
 ·rw [List.getElem?_append_left hi] at h1
  rw [List.getElem?_append_left (by rw [← p.1];exact hi)] at h2
  exact p.2 i x y h1 h2
 ·rw [List.getElem?_append_right (by omega)] at h1
  rw [List.getElem?_append_right (by rw [← p.1];omega)] at h2
  rw [p.1] at h1
  have hz:i - B.length = 0:=by
   have:=(List.getElem?_eq_some_iff.1 h2).1
   simpa using this
  rw [hz] at h1 h2
  simp at h1 h2
  subst h1 h2
  exact s
theorem Pairs.rdeq {h h':AH} {A B:List IA} (p:Pairs h A B) (k:RdEq h h'):Pairs h' A B:=
 ⟨p.1,fun i a b h1 h2=>by
  obtain ⟨im,s1,s2⟩:=p.2 i a b h1 h2
  exact ⟨im,⟨s1.t.rdeq k,s1.f.rdeq k,s1.b.rdeq k,s1.e,s1.nt,s1.nf,s1.nb⟩,⟨s2.t.rdeq k,s2.f.rdeq k,s2.b.rdeq k,s2.e,s2.nt,s2.nf,s2.nb⟩⟩⟩
structure L1 (h H:AH) (S:Nat) (cnt tot:Int) (F W:List IA) (fS wS:AV) (i:Nat) (V:List IA) (kS vS:AV):Prop where
 s:ShO H S cnt tot F W (F.take i) V fS wS kS vS
 len:V.length = i
 w:∀ a ∈ F,∃ im,ImW H a im
 p:Pairs H (F.take i) V
 vi:∀ a ∈ V,∀ id ∈ a.ids,¬ Own4 S fS wS kS vS id ∧ ∀ b ∈ F,id ∉ b.ids
 fi:∀ a ∈ F,∀ id ∈ a.ids,¬ Own4 S fS wS kS vS id
 st:Stays (fun id=>id = S ∨ ∃ a ∈ F,id ∈ a.ids) h H
 new:∀ id,OwnK S kS vS id → id = S ∨ h.length ≤ id
theorem set_same {h:AH} {id:Nat} {o:AO} (e:h[id]? = some o):h.set id o = h:=by
 refine List.ext_getElem? fun i=>?_
 by_cases hi:id = i
 ·subst hi
  rw [List.getElem?_set_self (List.getElem?_eq_some_iff.1 e).1,e]
 ·rw [List.getElem?_set_ne hi]
theorem at_list {h:AH} {v:AV} {F:List IA} (w:WSl IA.row 4 h v F) {i:Nat} {a:IA} (ha:F[i]? = some a) :
 ∃ p q0 q1 q2,xIad 4 v (VI i) = some p ∧ xFad 0 p = some q0 ∧ xFad 1 p = some q1 ∧ xFad 2 p = some q2 ∧
   ∀ h',WSl IA.row 4 h' v F → xLda h' 4 p = some (.agg a.row) ∧ xLd1 h' q0 = some a.t ∧ xLd1 h' q1 = some a.f ∧ xLd1 h' q2 = some a.b:=by
 obtain ⟨p,h1,h2,h3,h4⟩:=(w.rows IA.len).sl.get IA.len (by decide) ha
 obtain ⟨q0,a1,a2,a3⟩:=h4 0 a.t rfl
 obtain ⟨q1,b1,b2,b3⟩:=h4 1 a.f rfl
 obtain ⟨q2,c1,c2,c3⟩:=h4 2 a.b rfl
 refine ⟨p,q0,q1,q2,h1,a1,b1,c1,fun h' w'=>?_⟩
 obtain ⟨p',d1,d2,d3,d4⟩:=(w'.rows IA.len).sl.get IA.len (by decide) ha
 rw [h1] at d1
 cases d1
 obtain ⟨r0,e1,e2,e3⟩:=d4 0 a.t rfl
 obtain ⟨r1,f1,f2,f3⟩:=d4 1 a.f rfl
 obtain ⟨r2,g1,g2,g3⟩:=d4 2 a.b rfl
 rw [a1] at e1
 rw [b1] at f1
 rw [c1] at g1
 cases e1
 cases f1
 cases g1
 exact ⟨d2,e2,f2,g2⟩
theorem ids_cases {a:IA} {id:Nat} (h:id ∈ a.ids):a.t.at_ = some id ∨ a.f.at_ = some id ∨ a.b.at_ = some id:=by
 obtain ⟨v,hv,he⟩:=List.mem_filterMap.1 h
 simp only [List.mem_cons,List.not_mem_nil,or_false] at hv
 rcases hv with rfl | rfl | rfl
 ·exact .inl he
 ·exact .inr (.inl he)
 ·exact .inr (.inr he)
end Go.Tidy
namespace Go.Tidy
open Go Go.Eng Go.Proofs
variable {cx:Cx}
theorem Stays.then {P Q:Nat → Prop} {a b c:AH} (x:Stays P a b) (y:Stays Q b c) (h:∀ id,id < a.length → Q id → P id):Stays P a c:=
 ⟨Nat.le_trans x.len y.len,fun id hi hp=>(y.at_ id (by have:=x.len;omega) fun hq=>hp (h id hi hq)).trans (x.at_ id hi hp)⟩
theorem mem_at {α:Type} {l:List α} {a:α} (h:a ∈ l):∃ i:Nat,l[i]? = some a:=List.mem_iff_getElem?.1 h
theorem ImW.id_lt {h:AH} {a:IA} (w:∃ im,ImW h a im) {id:Nat} (hid:id ∈ a.ids):id < h.length:=by
 obtain ⟨im,w⟩:=w
 exact w.s.lt hid
theorem Pairs.lt {h:AH} {A B:List IA} (p:Pairs h A B):(∀ a ∈ A,∀ id ∈ a.ids,id < h.length) ∧ ∀ b ∈ B,∀ id ∈ b.ids,id < h.length:=by
 constructor
 ·intro a ha id hid
  obtain ⟨i,hi⟩:=mem_at ha
  have hl:i < B.length:=by rw [← p.1];exact (List.getElem?_eq_some_iff.1 hi).1
  obtain ⟨im,s1,_⟩:=p.2 i a _ hi (List.getElem?_eq_getElem hl)
  exact s1.lt hid
 ·intro b hb id hid
  obtain ⟨i,hi⟩:=mem_at hb
  have hl:i < A.length:=by rw [p.1];exact (List.getElem?_eq_some_iff.1 hi).1
  obtain ⟨im,_,s1⟩:=p.2 i _ b (List.getElem?_eq_getElem hl) hi
  exact s1.lt hid
theorem own4 {S:Nat} {fS wS kS vS:AV} {id:Nat} (h:¬ Own4 S fS wS kS vS id):¬ OwnK S kS vS id:=by
 rintro (e | e | e)
 ·exact h (.inl e)
 ·exact h (.inr (.inr (.inr (.inl e))))
 ·exact h (.inr (.inr (.inr (.inr e))))
theorem own4' {S:Nat} {fS wS kS vS k' v':AV} {id n:Nat} (h:¬ Own4 S fS wS kS vS id) (hid:id < n) (new:∀ id,OwnK S k' v' id → OwnK S kS vS id ∨ n ≤ id):¬ Own4 S fS wS k' v' id:=by
 rintro (e | e | e | e | e)
 ·exact h (.inl e)
 ·exact h (.inr (.inl e))
 ·exact h (.inr (.inr (.inl e)))
 ·rcases new id (.inr (.inl e)) with h1 | h1
  ·exact own4 h h1
  ·omega
 ·rcases new id (.inr (.inr e)) with h1 | h1
  ·exact own4 h h1
  ·omega
theorem new4 {h:AH} {S:Nat} {cnt tot:Int} {F W K V:List IA} {fS wS kS vS k' v':AV} (s:ShO h S cnt tot F W K V fS wS kS vS) {id:Nat} (hid:h.length ≤ id) (h1:¬ OwnK S k' v' id):¬ Own4 S fS wS k' v' id:=by
 rintro (e | e | e | e | e)
 ·exact h1 (.inl e)
 ·have:=s.f.at_lt e;omega
 ·have:=s.w.at_lt e;omega
 ·exact h1 (.inr (.inl e))
 ·exact h1 (.inr (.inr e))
structure L2 (h H:AH) (S:Nat) (cnt tot:Int) (F W:List IA) (fS wS:AV) (M:Nat → Int) (n:Nat) (K V:List IA) (kS vS:AV):Prop where
 s:ShO H S cnt tot F W K V fS wS kS vS
 len:K.length = n
 g:∀ (j:Nat) a,F[j]? = some a → ∃ im,ImG (M j) H a im
 p:Pairs H K V
 ki:∀ a ∈ K ++ V,∀ id ∈ a.ids,¬ Own4 S fS wS kS vS id
 fi:∀ a ∈ F,∀ id ∈ a.ids,¬ Own4 S fS wS kS vS id
 st:Stays (fun id=>id = S ∨ ∃ a ∈ F,id ∈ a.ids) h H
 new:∀ id,OwnK S kS vS id → id = S ∨ h.length ≤ id
theorem ShO.own_lt {h:AH} {S:Nat} {cnt tot:Int} {F W K V:List IA} {fS wS kS vS:AV} (s:ShO h S cnt tot F W K V fS wS kS vS) {id:Nat} (e:Own4 S fS wS kS vS id):id < h.length:=by
 rcases e with rfl | e | e | e | e
 ·exact (List.getElem?_eq_some_iff.1 s.at_).1
 ·exact s.f.at_lt e
 ·exact s.w.at_lt e
 ·exact s.k.at_lt e
 ·exact s.v.at_lt e
theorem ImS.more {h:AH} {a:IA} {im:Img} (s:ImS h a im) (g:AH):ImS (h ++ g) a im:=⟨s.t.more g,s.f.more g,s.b.more g,s.e,s.nt,s.nf,s.nb⟩
theorem ImG.id_lt {m:Int} {h:AH} {a:IA} {im:Img} (w:ImG m h a im) {id:Nat} (hid:id ∈ a.ids):id < h.length:=by
 rcases ids_cases hid with e | e | e
 ·exact (w.t 0).at_lt e
 ·exact (w.f 0).at_lt e
 ·exact (w.b 0).at_lt e
theorem L2.app {h H:AH} {S:Nat} {cnt tot:Int} {F W:List IA} {fS wS:AV} {M:Nat → Int} {n:Nat} {K V:List IA} {kS vS:AV} (l:L2 h H S cnt tot F W fS wS M n K V kS vS) (g:AH):L2 h (H ++ g) S cnt tot F W fS wS M n K V kS vS:=by
 have st:Stays (fun _=>False) H (H ++ g):=Stays.app _ _
 refine ⟨l.s.stays st fun _ h=>h.elim,l.len,fun j a ha=>?_,l.p.stays st (fun _ _ _ _ h=>h) (fun _ _ _ _ h=>h),l.ki,l.fi,l.st.then st fun _ _ h=>h.elim,l.new⟩
 obtain ⟨im,w⟩:=l.g j a ha
 exact ⟨im,w.stays st fun _ _ h=>h⟩
theorem L2.keep {h H H':AH} {S:Nat} {cnt tot:Int} {F W:List IA} {fS wS:AV} {M:Nat → Int} {n:Nat} {K V:List IA} {kS vS k' v':AV} {r c:IA} {im:Img} (l:L2 h H S cnt tot F W fS wS M n K V kS vS)
 (sh:ShO H' S cnt tot F W (K ++ [r]) (V ++ [c]) fS wS k' v') (hr:ImS H r im) (hrn:∀ id ∈ r.ids,¬ Own4 S fS wS kS vS id) (ic:ImS H' c im) (cid:∀ id ∈ c.ids,H.length ≤ id ∧ ¬ OwnK S k' v' id) (st:Stays (OwnK S kS vS) H H')
 (new:∀ id,OwnK S k' v' id → OwnK S kS vS id ∨ H.length ≤ id):L2 h H' S cnt tot F W fS wS M (n + 1) (K ++ [r]) (V ++ [c]) k' v':=by
 have hlt:=l.p.lt
 refine ⟨sh,by simp [l.len],fun j a ha=>?_,(l.p.stays st (fun a ha id hid=>own4 (l.ki a (by simp [ha]) id hid)) fun a ha id hid=>own4 (l.ki a (by simp [ha]) id hid)).snoc ⟨im,hr.stays st fun id hid=>own4 (hrn id hid),ic⟩,?_,fun a ha id hid=>?_,
  l.st.then st fun id hid e=>?_,fun id e=>?_⟩
 ·obtain ⟨im',w⟩:=l.g j a ha
  exact ⟨im',w.stays st fun id hid=>own4 (l.fi a (List.mem_of_getElem? ha) id hid)⟩
 ·intro a ha id hid
  simp only [List.mem_append,List.mem_singleton] at ha
  rcases ha with (ha | rfl) | (ha | rfl)
  ·exact own4' (l.ki a (by simp [ha]) id hid) (hlt.1 a ha id hid) new
  ·exact own4' (hrn id hid) (hr.lt hid) new
  ·exact own4' (l.ki a (by simp [ha]) id hid) (hlt.2 a ha id hid) new
  ·exact new4 l.s (cid id hid).1 (cid id hid).2
 ·obtain ⟨j,hj⟩:=mem_at ha
  obtain ⟨im',w⟩:=l.g j a hj
  exact own4' (l.fi a ha id hid) (w.id_lt hid) new
 ·rcases l.new id e with h1 | h1
  ·exact .inl h1
  ·omega
 ·rcases new id e with h1 | h1
  ·exact l.new id h1
  ·exact .inr (by have:=l.st.len;omega)
set_option maxRecDepth 100000 in
set_option maxHeartbeats 16000000 in
theorem c128 (hO:On cx) {h:AH} {S:Nat} {cnt:Int} {tot:Nat} {F W:List IA} {fS wS:AV} (hs:ShO h S cnt tot F W [] [] fS wS nilS nilS) (hp:Pairs h F W) (hF:∀ a ∈ F,∃ im,ImW h a im) (hd:FD F)
 (hown:∀ a ∈ F,∀ id ∈ a.ids,¬ Own4 S fS wS nilS nilS id) (hl:F.length ≤ 100) (hc1:0 ≤ cnt) (hc2:cnt ≤ 1000000) (ht:tot ≤ 100000000000) :
 SimCall cx 128 [.ptr S 0 0] h fun _ h'=>∃ K V kS vS,ShO h' S (cnt + F.length) tot [] [] K V nilS nilS kS vS ∧ Pairs h' K V ∧ K.length = F.length + 3 * F.length ∧ (∀ a ∈ K ++ V,∀ id ∈ a.ids,¬ OwnK S kS vS id) ∧
  Stays (fun id=>id = S ∨ ∃ a ∈ F,id ∈ a.ids) h h' ∧ ∀ id,OwnK S kS vS id → id = S ∨ h.length ≤ id:=by
 have hS:=rd_of hs.at_
 have hgS:=get_of hs.at_
 have hset:=set_same hs.at_
 have fl:=(hs.f.rows IA.len).sl.len
 refine SimCall.by hO.P res128 ?_
 unfold x128 r128
 repeat' first
  | ((with_reducible show SemL _ _ _ _);refine SemL.of ?_)
  | ((with_reducible show SimCall _ 129 _ _ _);refine (c129 hO hs hp (by omega)).mono ?_;rintro r h' ⟨rfl,rfl⟩)
  | simp (maxSteps:=1000000) only [go_sem,hS,hgS,hset]
 rename AH=>h
 refine SimLoop.inv [0,1] (fun q s=>∃ (i:Nat) (H:AH) (V:List IA) (kS vS:AV),q = F.length - i ∧ i ≤ F.length ∧ L1 h H S cnt tot F W fS wS i V kS vS ∧ s = ⟨[.ptr S 0 0,.un,VI i,.un,.un,.un,.un,.un,.un,.un,.un,.un,.un,.un,.un,.un,.un,.un,.un,.un,.un,.un,.un,.un,.un,.un,.un,.un,.un,.un,.un,.un,.un,.un,.un,.un,.un,.un,.un,.un,.un,.un,.un,.un,.un,.un,.un,.un,.un,.un,.un,.un,.un,.un,.un,.un,.un,.un,.un,.un,.un,.un,.un,.un,.un,.un,.un,.un,.un,.un,.un,.un,.un,.un,.un,.un,.un,.un,.un,.un,.un,.un,.un,.un,.un,.un,.un,.un,.un,.un,.un,.un,.un,.un,.un,.un,.un,.un,.un,.un,.un,.un,.un,.un,.un,.un,.un,.un,.un,.un,.un,.un,.un,.un,.un,.un,.un,.un,.un,.un,.un,.un,.un,.un,.un,.un,.un,.un,.un,.un,.un,.un,.un,.un,.un,.un,.un,.un,.un,.un,.un,.un,.un,.un,.un,.un,.un,.un,.un,.un,.un,.un,.un,.un,.un,.un,.un,.un,.un,.un,.un,.un,.un,.un,.un,.un,.un,.un,.un,.un,.un,.un,.un,.un,.un,.un,.un,.un,.un,.un,.un,.un,.un,.un,.un,.un,.un,.un,.un,.un,.un,.un,.un,.un,.un,.un,.un,.un,.un,.un,.un,.un,.un,.un,.un,.un],H⟩) ?_ F.length ?_
 rotate_left
 ·refine ⟨0,h,[],nilS,nilS,rfl,Nat.zero_le _,⟨by simpa using hs,rfl,hF,⟨by simp,by simp⟩,by simp,hown,Stays.refl _,?_⟩,by simp only [go_sem] <;> rfl⟩
  rintro id (rfl | h1 | h1)
  ·exact .inl rfl
  ·cases h1
  ·cases h1
 rintro q s ⟨i,H,V,kS,vS,rfl,hi,I,rfl⟩
 have rS:=rd_of I.s.at_
 by_cases hlt:i < F.length
 ·have hlt':((i:Int) < F.length):=by omega
  have hw:=wrap_succ hlt (by omega)
  have hai:=List.getElem?_eq_getElem hlt
  have ham:=List.getElem_mem hlt
  have htk:F.take (i + 1) = F.take i ++ [F[i]]:=List.take_succ_eq_append_getElem hlt
  generalize F[i] = a at hai ham htk
  obtain ⟨im,hw0⟩:=I.w a ham
  have hda:=hd.1 a ham
  obtain ⟨p,q0,q1,q2,hp1,hq0,hq1,hq2,hrd⟩:=at_list I.s.f hai
  have hfi:=I.fi a ham
  generalize hM:IntKind.i64.wrap (1000003 * IntKind.i64.wrap (cnt + (i:Int))) = M
  repeat' first
   | simp (maxSteps:=1000000) only [go_sem,rS,fl,hlt',hM]
  have w0:=hw0
  have s0:=I.s
  refine SimLoop.inv [0,1,0,0] (fun r s=>∃ (j:Nat) (X:AH) (ys:List Ins),r = im.text.length - j ∧ j ≤ im.text.length ∧ ys.length = im.text.length ∧ WSl Ins.row 5 X a.t ys ∧ Stays (fun id=>a.t.at_ = some id) H X ∧
   s = ⟨[.ptr S 0 0,.un,VI i,VI M,VI j,.un,.un,.un,.un,.un,.un,.un,.un,.un,.un,.un,.un,.un,.un,.un,.un,.un,.un,.un,.un,.un,.un,.un,.un,.un,.un,.un,.un,.un,.un,.un,.un,.un,.un,.un,.un,.un,.un,.un,.un,.un,.un,.un,.un,.un,.un,.un,.un,.un,.un,.un,.un,.un,.un,.un,.un,.un,.un,.un,.un,.un,.un,.un,.un,.un,.un,.un,.un,.un,.un,.un,.un,.un,.un,.un,.un,.un,.un,.un,.un,.un,.un,.un,.un,.un,.un,.un,.un,.un,.un,.un,.un,.un,.un,.un,.un,.un,.un,.un,.un,.un,.un,.un,.un,.un,.un,.un,.un,.un,.un,.un,.un,.un,.un,.un,.un,.un,.un,.un,.un,.un,.un,.un,.un,.un,.un,.un,.un,.un,.un,.un,.un,.un,.un,.un,.un,.un,.un,.un,.un,.un,.un,.un,.un,.un,.un,.un,.un,.un,.un,.un,.un,.un,.un,.un,.un,.un,.un,.un,.un,.un,.un,.un,.un,.un,.un,.un,.un,.un,.un,.un,.un,.un,.un,.un,.un,.un,.un,.un,.un,.un,.un,.un,.un,.un,.un,.un,.un,.un,.un,.un,.un,.un,.un,.un,.un,.un,.un,.un,.un,.un],X⟩) ?_ im.text.length ?_
  rotate_left
  ·exact ⟨0,H,im.text,rfl,Nat.zero_le _,rfl,w0.t,Stays.refl _,by simp only [go_sem] <;> rfl⟩
  rintro r s ⟨j,X,ys,rfl,hj,hys,hwX,hsX,rfl⟩
  have I':ShO X S cnt tot F W (F.take i) V fS wS kS vS:=(s0.stays hsX fun id e=>hfi id (mem_t e))
  have rX:=rd_of I'.at_
  obtain ⟨hrd1,hrd2,hrd3,hrd4⟩:=hrd X I'.f
  have hlX:=(hwX.rows Ins.len).sl.len
  rw [hys] at hlX
  by_cases hjl:j < im.text.length
  ·have hjl':((j:Int) < im.text.length):=by omega
   have hwj:=wrap_succ hjl (by have:=hw0.nt;omega)
   obtain ⟨e,X',he1,he2,he3,he4⟩:=hwX.put Ins.len (j:=j) (by omega) ⟨98,0,0,0,IntKind.i64.wrap (M + (j:Int))⟩ (by simp [Ins.row,AV.cell,Value.oneCell'])
   simp only [Ins.row] at he2
   repeat' first
    | simp (maxSteps:=1000000) only [go_sem,rX,hp1,hq0,hq1,hq2,hrd1,hrd2,hrd3,hrd4,hlX,hjl',hwj,he1,he2]
   exact ⟨im.text.length - (j + 1),by omega,j + 1,X',ys.set j ⟨98,0,0,0,IntKind.i64.wrap (M + (j:Int))⟩,rfl,by omega,by simp [hys],he3,hsX.trans he4,rfl⟩
  have hjl':¬ ((j:Int) < im.text.length):=by omega
  repeat' first
   | simp (maxSteps:=1000000) only [go_sem,rX,hp1,hq0,hq1,hq2,hrd1,hrd2,hrd3,hrd4,hlX,hjl']
  have s1:=I'
  have w1:ImW X a ⟨ys,im.funcs,im.tables,im.entry⟩:=⟨hwX,w0.f.stays hsX fun id hid e=>hda.tf id e hid,w0.b.stays hsX fun id hid e=>hda.tb id e hid,w0.e,by simp only;rw [hys];exact w0.nt,w0.nf,w0.nb⟩
  have t1:Stays (fun id=>id ∈ a.ids) H X:=hsX.mono fun id _ e=>mem_t e
  clear hlX hjl hjl' hrd1 hrd2 hrd3 hrd4 rX hj hwX hsX I'
  generalize X = X1 at *
  generalize ys = ys1 at *
  refine SimLoop.inv [0,1,0,1] (fun r s=>∃ (j:Nat) (X:AH) (ys:List Fn),r = im.funcs.length - j ∧ j ≤ im.funcs.length ∧ ys.length = im.funcs.length ∧ WSl Fn.row 4 X a.f ys ∧ Stays (fun id=>a.f.at_ = some id) X1 X ∧
   s = ⟨[.ptr S 0 0,.un,VI i,VI M,.un,VI j,.un,.un,.un,.un,.un,.un,.un,.un,.un,.un,.un,.un,.un,.un,.un,.un,.un,.un,.un,.un,.un,.un,.un,.un,.un,.un,.un,.un,.un,.un,.un,.un,.un,.un,.un,.un,.un,.un,.un,.un,.un,.un,.un,.un,.un,.un,.un,.un,.un,.un,.un,.un,.un,.un,.un,.un,.un,.un,.un,.un,.un,.un,.un,.un,.un,.un,.un,.un,.un,.un,.un,.un,.un,.un,.un,.un,.un,.un,.un,.un,.un,.un,.un,.un,.un,.un,.un,.un,.un,.un,.un,.un,.un,.un,.un,.un,.un,.un,.un,.un,.un,.un,.un,.un,.un,.un,.un,.un,.un,.un,.un,.un,.un,.un,.un,.un,.un,.un,.un,.un,.un,.un,.un,.un,.un,.un,.un,.un,.un,.un,.un,.un,.un,.un,.un,.un,.un,.un,.un,.un,.un,.un,.un,.un,.un,.un,.un,.un,.un,.un,.un,.un,.un,.un,.un,.un,.un,.un,.un,.un,.un,.un,.un,.un,.un,.un,.un,.un,.un,.un,.un,.un,.un,.un,.un,.un,.un,.un,.un,.un,.un,.un,.un,.un,.un,.un,.un,.un,.un,.un,.un,.un,.un,.un,.un,.un,.un,.un,.un,.un],X⟩) ?_ im.funcs.length ?_
  rotate_left
  ·exact ⟨0,X1,im.funcs,rfl,Nat.zero_le _,rfl,w1.f,Stays.refl _,by simp only [go_sem] <;> rfl⟩
  rintro r s ⟨j,X,ys,rfl,hj,hys,hwX,hsX,rfl⟩
  have I':ShO X S cnt tot F W (F.take i) V fS wS kS vS:=(s1.stays hsX fun id e=>hfi id (mem_f e))
  have rX:=rd_of I'.at_
  obtain ⟨hrd1,hrd2,hrd3,hrd4⟩:=hrd X I'.f
  have hlX:=(hwX.rows Fn.len).sl.len
  rw [hys] at hlX
  by_cases hjl:j < im.funcs.length
  ·have hjl':((j:Int) < im.funcs.length):=by omega
   have hwj:=wrap_succ hjl (by have:=hw0.nf;omega)
   obtain ⟨e,X',he1,he2,he3,he4⟩:=hwX.put Fn.len (j:=j) (by omega) ⟨⟨#[109,105,110,101]⟩,0,IntKind.i64.wrap (M + (j:Int)),0⟩ (by simp [Fn.row,AV.cell,Value.oneCell'])
   simp only [Fn.row] at he2
   repeat' first
    | simp (maxSteps:=1000000) only [go_sem,rX,hp1,hq0,hq1,hq2,hrd1,hrd2,hrd3,hrd4,hlX,hjl',hwj,he1,he2]
   exact ⟨im.funcs.length - (j + 1),by omega,j + 1,X',ys.set j ⟨⟨#[109,105,110,101]⟩,0,IntKind.i64.wrap (M + (j:Int)),0⟩,rfl,by omega,by simp [hys],he3,hsX.trans he4,rfl⟩
  have hjl':¬ ((j:Int) < im.funcs.length):=by omega
  repeat' first
   | simp (maxSteps:=1000000) only [go_sem,rX,hp1,hq0,hq1,hq2,hrd1,hrd2,hrd3,hrd4,hlX,hjl']
  have s2:=I'
  have w2:ImW X a ⟨ys1,ys,im.tables,im.entry⟩:=⟨w1.t.stays hsX fun id hid e=>hda.tf id hid e,hwX,w1.b.stays hsX fun id hid e=>hda.fb id e hid,w1.e,w1.nt,by simp only;rw [hys];exact w0.nf,w1.nb⟩
  have t2:Stays (fun id=>id ∈ a.ids) H X:=t1.trans (hsX.mono fun id _ e=>mem_f e)
  clear hlX hjl hjl' hrd1 hrd2 hrd3 hrd4 rX hj hwX hsX I'
  generalize X = X2 at *
  generalize ys = ys2 at *
  refine SimLoop.inv [0,1,0,2] (fun r s=>∃ (j:Nat) (X:AH) (ys:List Tab),r = im.tables.length - j ∧ j ≤ im.tables.length ∧ ys.length = im.tables.length ∧ WSl Tab.row 5 X a.b ys ∧ Stays (fun id=>a.b.at_ = some id) X2 X ∧
   s = ⟨[.ptr S 0 0,.un,VI i,VI M,.un,.un,VI j,.un,.un,.un,.un,.un,.un,.un,.un,.un,.un,.un,.un,.un,.un,.un,.un,.un,.un,.un,.un,.un,.un,.un,.un,.un,.un,.un,.un,.un,.un,.un,.un,.un,.un,.un,.un,.un,.un,.un,.un,.un,.un,.un,.un,.un,.un,.un,.un,.un,.un,.un,.un,.un,.un,.un,.un,.un,.un,.un,.un,.un,.un,.un,.un,.un,.un,.un,.un,.un,.un,.un,.un,.un,.un,.un,.un,.un,.un,.un,.un,.un,.un,.un,.un,.un,.un,.un,.un,.un,.un,.un,.un,.un,.un,.un,.un,.un,.un,.un,.un,.un,.un,.un,.un,.un,.un,.un,.un,.un,.un,.un,.un,.un,.un,.un,.un,.un,.un,.un,.un,.un,.un,.un,.un,.un,.un,.un,.un,.un,.un,.un,.un,.un,.un,.un,.un,.un,.un,.un,.un,.un,.un,.un,.un,.un,.un,.un,.un,.un,.un,.un,.un,.un,.un,.un,.un,.un,.un,.un,.un,.un,.un,.un,.un,.un,.un,.un,.un,.un,.un,.un,.un,.un,.un,.un,.un,.un,.un,.un,.un,.un,.un,.un,.un,.un,.un,.un,.un,.un,.un,.un,.un,.un,.un,.un,.un,.un,.un,.un],X⟩) ?_ im.tables.length ?_
  rotate_left
  ·exact ⟨0,X2,im.tables,rfl,Nat.zero_le _,rfl,w2.b,Stays.refl _,by simp only [go_sem] <;> rfl⟩
  rintro r s ⟨j,X,ys,rfl,hj,hys,hwX,hsX,rfl⟩
  have I':ShO X S cnt tot F W (F.take i) V fS wS kS vS:=(s2.stays hsX fun id e=>hfi id (mem_b e))
  have rX:=rd_of I'.at_
  obtain ⟨hrd1,hrd2,hrd3,hrd4⟩:=hrd X I'.f
  have hlX:=(hwX.rows Tab.len).sl.len
  rw [hys] at hlX
  by_cases hjl:j < im.tables.length
  ·have hjl':((j:Int) < im.tables.length):=by omega
   have hwj:=wrap_succ hjl (by have:=hw0.nb;omega)
   obtain ⟨e,X',he1,he2,he3,he4⟩:=hwX.put Tab.len (j:=j) (by omega) ⟨⟨#[109,105,110,101]⟩,0,IntKind.i64.wrap (M + (j:Int)),0,0⟩ (by simp [Tab.row,AV.cell,Value.oneCell'])
   simp only [Tab.row] at he2
   repeat' first
    | simp (maxSteps:=1000000) only [go_sem,rX,hp1,hq0,hq1,hq2,hrd1,hrd2,hrd3,hrd4,hlX,hjl',hwj,he1,he2]
   exact ⟨im.tables.length - (j + 1),by omega,j + 1,X',ys.set j ⟨⟨#[109,105,110,101]⟩,0,IntKind.i64.wrap (M + (j:Int)),0,0⟩,rfl,by omega,by simp [hys],he3,hsX.trans he4,rfl⟩
  have hjl':¬ ((j:Int) < im.tables.length):=by omega
  repeat' first
   | simp (maxSteps:=1000000) only [go_sem,rX,hp1,hq0,hq1,hq2,hrd1,hrd2,hrd3,hrd4,hlX,hjl']
  have s3:=I'
  have w3:ImW X a ⟨ys1,ys2,ys,im.entry⟩:=⟨w2.t.stays hsX fun id hid e=>hda.tb id hid e,w2.f.stays hsX fun id hid e=>hda.fb id hid e,hwX,w2.e,w2.nt,w2.nf,by simp only;rw [hys];exact w0.nb⟩
  have t3:Stays (fun id=>id ∈ a.ids) H X:=t2.trans (hsX.mono fun id _ e=>mem_b e)
  refine (c183 hO s3 w3.s (fun id hid=>own4 (hfi id hid)) (by simp;omega) (by rw [I.len];omega)).mono ?_
  rintro r h2 ⟨k',v',c,sh,ic,cid,st,new⟩
  have hX:∀ b ∈ F,∃ im',ImW X b im':=by
   intro b hb
   obtain ⟨k,hk⟩:=mem_at hb
   by_cases hki:k = i
   ·subst hki
    rw [hai] at hk
    cases hk
    exact ⟨_,w3⟩
   ·obtain ⟨im',wb⟩:=I.w b hb
    exact ⟨im',wb.stays t3 fun id hid e=>hd.2 k i b a hk hai hki id hid e⟩
  have hPX:Pairs X (F.take i) V:=I.p.stays t3 (fun b hb id hid e=>by
   obtain ⟨k,hk⟩:=mem_at hb
   rw [List.getElem?_take] at hk
   split at hk
   ·exact hd.2 k i b a hk hai (by omega) id hid e
   ·cases hk) (fun b hb id hid e=>(I.vi b hb id hid).2 a ham e)
  have hlX:=hPX.lt
  repeat' first
   | simp (maxSteps:=1000000) only [go_sem,hw]
  refine ⟨F.length - (i + 1),by omega,i + 1,h2,V ++ [c],k',v',rfl,by omega,⟨by rw [htk];exact sh,by simp [I.len],?_,?_,?_,?_,(I.st.then t3 fun id _ e=>.inr ⟨a,ham,e⟩).then st fun id hid e=>?_,fun id e=>?_⟩,rfl⟩
  ·intro b hb
   obtain ⟨im',wb⟩:=hX b hb
   exact ⟨im',wb.stays st fun id hid=>own4 (I.fi b hb id hid)⟩
  ·rw [htk]
   exact (hPX.stays st (fun b hb id hid=>own4 (I.fi b (List.mem_of_mem_take hb) id hid)) fun b hb id hid=>own4 (I.vi b hb id hid).1).snoc ⟨_,w3.s.stays st fun id hid=>own4 (hfi id hid),ic⟩
  ·intro b hb id hid
   simp only [List.mem_append,List.mem_singleton] at hb
   rcases hb with hb | rfl
   ·exact ⟨own4' (I.vi b hb id hid).1 (hlX.2 b hb id hid) new,(I.vi b hb id hid).2⟩
   ·refine ⟨new4 s3 (cid id hid).1 (cid id hid).2,fun x hx e=>?_⟩
    have:=ImW.id_lt (hX x hx) e
    have:=(cid id hid).1
    omega
  ·intro b hb id hid
   exact own4' (I.fi b hb id hid) (ImW.id_lt (hX b hb) hid) new
  ·rcases I.new id e with h1 | h1
   ·exact .inl h1
   ·omega
  ·rcases new id e with h1 | h1
   ·exact I.new id h1
   ·exact .inr (by have:=I.st.len;have:=t3.len;omega)
 ·have hlt':¬ ((i:Int) < F.length):=by omega
  have hin:i = F.length:=by omega
  subst hin
  repeat' first
   | simp (maxSteps:=1000000) only [go_sem,rS,fl,hlt']
  obtain ⟨M,hM⟩:∃ M:Nat → Int,M = fun j:Nat=>IntKind.i64.wrap (1000003 * IntKind.i64.wrap (cnt + (j:Int))):=⟨_,rfl⟩
  obtain ⟨H2,gh,rq,sg,cg,_⟩:=conv_all (cx:=cx) M F hd F.length H I.w
  refine SimLoop.ghost gh ?_
  have J0:L2 h H2 S cnt tot F W fS wS M F.length F V kS vS:=by
   have hs0:=I.s
   have hp0:=I.p
   rw [List.take_length] at hs0 hp0
   refine ⟨hs0.stays sg fun id ⟨a,ha,e⟩=>I.fi a ha id e,rfl,fun j a ha=>cg j a (List.getElem?_eq_some_iff.1 ha).1 ha,hp0.rdeq rq,?_,I.fi,I.st.then sg fun id _ e=>.inr e,I.new⟩
   intro a ha id hid
   simp only [List.mem_append] at ha
   rcases ha with ha | ha
   ·exact I.fi a ha id hid
   ·exact (I.vi a ha id hid).1
  clear cg rq sg gh I rS
  generalize V = V0 at J0
  generalize kS = k0 at J0
  generalize vS = v0 at J0
  refine SimLoop.inv [0,6] (fun q s=>∃ (i:Nat) (H:AH) (K V:List IA) (kS vS:AV),q = F.length - i ∧ i ≤ F.length ∧ L2 h H S cnt tot F W fS wS M (F.length + 3 * i) K V kS vS ∧ s = ⟨[.ptr S 0 0,.un,.un,.un,.un,.un,.un,VI i,.un,.un,.un,.un,.un,.un,.un,.un,.un,.un,.un,.un,.un,.un,.un,.un,.un,.un,.un,.un,.un,.un,.un,.un,.un,.un,.un,.un,.un,.un,.un,.un,.un,.un,.un,.un,.un,.un,.un,.un,.un,.un,.un,.un,.un,.un,.un,.un,.un,.un,.un,.un,.un,.un,.un,.un,.un,.un,.un,.un,.un,.un,.un,.un,.un,.un,.un,.un,.un,.un,.un,.un,.un,.un,.un,.un,.un,.un,.un,.un,.un,.un,.un,.un,.un,.un,.un,.un,.un,.un,.un,.un,.un,.un,.un,.un,.un,.un,.un,.un,.un,.un,.un,.un,.un,.un,.un,.un,.un,.un,.un,.un,.un,.un,.un,.un,.un,.un,.un,.un,.un,.un,.un,.un,.un,.un,.un,.un,.un,.un,.un,.un,.un,.un,.un,.un,.un,.un,.un,.un,.un,.un,.un,.un,.un,.un,.un,.un,.un,.un,.un,.un,.un,.un,.un,.un,.un,.un,.un,.un,.un,.un,.un,.un,.un,.un,.un,.un,.un,.un,.un,.un,.un,.un,.un,.un,.un,.un,.un,.un,.un,.un,.un,.un,.un,.un,.un,.un,.un,.un,.un,.un,.un,.un,.un,.un,.un,.un],H⟩) ?_ F.length ?_
  rotate_left
  ·exact ⟨0,H2,F,V0,k0,v0,rfl,Nat.zero_le _,J0,by simp only [go_sem] <;> rfl⟩
  clear J0
  rintro q s ⟨i,H,K,V,kS,vS,rfl,hi,J,rfl⟩
  have rS:=rd_of J.s.at_
  by_cases hlt:i < F.length
  ·have hlt':((i:Int) < F.length):=by omega
   have hw:=wrap_succ hlt (by omega)
   have hai:=List.getElem?_eq_getElem hlt
   have ham:=List.getElem_mem hlt
   generalize F[i] = a at hai ham
   obtain ⟨im,hg⟩:=J.g i a hai
   have hda:=hd.1 a ham
   obtain ⟨p,q0,q1,q2,hp1,hq0,hq1,hq2,hrd⟩:=at_list J.s.f hai
   have hMi:IntKind.i64.wrap (1000003 * IntKind.i64.wrap (cnt + (i:Int))) = M i:=by rw [hM]
   have hMb:-1099511627776000000 ≤ M i ∧ M i ≤ 1099511627776000000:=by
    rw [← hMi,wrap_id (n:=cnt + (i:Int)) (by omega) (by omega),wrap_id (by omega) (by omega)]
    omega
   have hd1:=(hrd _ J.s.f).1
   have n1:=hg.nt
   have n2:=hg.nf
   have n3:=hg.nb
   obtain ⟨r1,g1,im1,hc1,hs1,hi1⟩:=c184 hO (k:=1) (hg.t _) (hg.f _) (hg.b _) hg.e hda.tf hda.tb hda.fb (by omega) (by omega) (by omega) (by omega) hMb.1 hMb.2
   rw [show ((1:Nat):Int) = 1 from rfl] at hc1
   repeat' first
    | simp (maxSteps:=1000000) only [go_sem,rS,fl,hlt',hMi,hp1,hd1]
   refine hc1.mono ?_
   rintro r h' ⟨rfl,rfl⟩
   have e1:=hs1.t.sl.cell
   have e2:=hs1.f.sl.cell
   have e3:=hs1.b.sl.cell
   repeat' first
    | simp (maxSteps:=1000000) only [go_sem,e1,e2,e3]
   have J1:=J.app (g1 ++ [.cells 0 r1.row])
   have i1:=hs1.more [.cells 0 r1.row]
   rw [List.append_assoc] at i1
   have own1:∀ id ∈ r1.ids,¬ Own4 S fS wS kS vS id:=fun id hid e=>by
    have:=J.s.own_lt e
    have:=hi1 id hid
    omega
   refine (c183 hO J1.s i1 (fun id hid=>own4 (own1 id hid)) (by rw [J1.len];omega) (by rw [← J1.p.1,J1.len];omega)).mono ?_
   rintro r h2 ⟨k1,v1,y1,sh1,ic1,cid1,st1,new1⟩
   have J2:=J1.keep sh1 i1 own1 ic1 cid1 st1 new1
   clear sh1 ic1 cid1 st1 new1 own1 i1 J1 e1 e2 e3 hs1 hc1 hi1
   have rS2:=rd_of J2.s.at_
   have hd2:=(hrd _ J2.s.f).1
   obtain ⟨im',hg2⟩:=J2.g i a hai
   have n1:=hg2.nt
   have n2:=hg2.nf
   have n3:=hg2.nb
   obtain ⟨r2,g2,im2,hc2,hs2,hi2⟩:=c184 hO (k:=2) (hg2.t _) (hg2.f _) (hg2.b _) hg2.e hda.tf hda.tb hda.fb (by omega) (by omega) (by omega) (by omega) hMb.1 hMb.2
   rw [show ((2:Nat):Int) = 2 from rfl] at hc2
   repeat' first
    | simp (maxSteps:=1000000) only [go_sem,rS2,hp1,hd2]
   refine hc2.mono ?_
   rintro r' h' ⟨rfl,rfl⟩
   have e1:=hs2.t.sl.cell
   have e2:=hs2.f.sl.cell
   have e3:=hs2.b.sl.cell
   repeat' first
    | simp (maxSteps:=1000000) only [go_sem,e1,e2,e3]
   have J1:=J2.app (g2 ++ [.cells 0 r2.row])
   have i1:=hs2.more [.cells 0 r2.row]
   rw [List.append_assoc] at i1
   have own1:∀ id ∈ r2.ids,¬ Own4 S fS wS k1 v1 id:=fun id hid e=>by
    have:=J2.s.own_lt e
    have:=hi2 id hid
    omega
   refine (c183 hO J1.s i1 (fun id hid=>own4 (own1 id hid)) (by rw [J1.len];omega) (by rw [← J1.p.1,J1.len];omega)).mono ?_
   rintro r' h3 ⟨k2,v2,y2,sh1,ic1,cid1,st1,new1⟩
   have J3:=J1.keep sh1 i1 own1 ic1 cid1 st1 new1
   clear sh1 ic1 cid1 st1 new1 own1 i1 J1 e1 e2 e3 hs2 hc2 hi2 J2
   have J4:=J3.app [.cells 0 [nilS,nilS,nilS,VI 0]]
   have rS3:=rd_of J3.s.at_
   have rS4:=rd_of J4.s.at_
   have hd3:=(hrd _ J4.s.f).1
   obtain ⟨im',hg3⟩:=J4.g i a hai
   have n1:=hg3.nt
   have n2:=hg3.nf
   have n3:=hg3.nb
   have hwt:IntKind.i64.wrap ((tot:Int) + 70) = ((tot + 70:Nat):Int):=by rw [wrap_id (by omega) (by omega)];rfl
   obtain ⟨r3,g3,im3,hc3,hs3,hi3⟩:=c184 hO (k:=tot + 70) (hg3.t _) (hg3.f _) (hg3.b _) hg3.e hda.tf hda.tb hda.fb (by omega) (by omega) (by omega) (by omega) hMb.1 hMb.2
   have e1:=hs3.t.sl.cell
   have e2:=hs3.f.sl.cell
   have e3:=hs3.b.sl.cell
   repeat' first
    | ((with_reducible show dK _ 184 _ _ _);refine dK_app _ _ (hc3) ?_)
    | simp (maxSteps:=1000000) only [go_sem,rS3,rS4,hp1,hd3,hwt,e1,e2,e3]
   have hset:(h3 ++ [AO.cells 0 [nilS,nilS,nilS,VI 0]] ++ g3).set h3.length (.cells 0 r3.row) = h3 ++ (.cells 0 r3.row :: g3):=by
    rw [List.append_assoc,List.set_append_right _ _ (Nat.le_refl _),Nat.sub_self]
    rfl
   have i1:=hs3.stays (Stays.set _ h3.length (.cells 0 r3.row)) (fun id hid e=>by
    have:=hi3 id hid
    simp at this
    omega)
   rw [hset] at i1
   have J5:=J3.app (.cells 0 r3.row :: g3)
   have own1:∀ id ∈ r3.ids,¬ Own4 S fS wS k2 v2 id:=fun id hid e=>by
    have:=J3.s.own_lt e
    have:=hi3 id hid
    simp at this
    omega
   refine (c183 hO J5.s i1 (fun id hid=>own4 (own1 id hid)) (by rw [J5.len];omega) (by rw [← J5.p.1,J5.len];omega)).mono ?_
   rintro r' h5 ⟨k3,v3,y3,sh1,ic1,cid1,st1,new1⟩
   have J6:=J5.keep sh1 i1 own1 ic1 cid1 st1 new1
   repeat' first
    | simp (maxSteps:=1000000) only [go_sem,hw]
   exact ⟨F.length - (i + 1),by omega,i + 1,h5,_,_,k3,v3,rfl,by omega,by rw [show F.length + 3 * (i + 1) = F.length + 3 * i + 1 + 1 + 1 by omega];exact J6,rfl⟩
  ·have hlt':¬ ((i:Int) < F.length):=by omega
   have hin:i = F.length:=by omega
   subst hin
   have hSl:=(List.getElem?_eq_some_iff.1 J.s.at_).1
   have gS:=get_of J.s.at_
   have gS':∀ c,AH.get (H.set S (.cells 0 c)) S 0 = some c:=fun c=>get_of (by rw [List.getElem?_set_self hSl])
   have rS':∀ c,AH.rd (H.set S (.cells 0 c)) S 0 = some c:=fun c=>rd_of (by rw [List.getElem?_set_self hSl])
   have hwc:IntKind.i64.wrap (cnt + (F.length:Int)) = cnt + (F.length:Int):=wrap_id (by omega) (by omega)
   repeat' first
    | simp (maxSteps:=1000000) only [go_sem,rS,fl,hlt',gS,gS',rS',hwc,List.set_set]
   have st:=Stays.set H S (.cells 0 [VI (cnt + (F.length:Int)),VI (tot:Int),VB false,nilS,nilS,kS,vS])
   have nd:∀ v,Dj nilS v:=fun v id e=>by cases e
   refine ⟨K,V,kS,vS,⟨by rw [List.getElem?_set_self hSl],.inl ⟨rfl,rfl⟩,.inl ⟨rfl,rfl⟩,J.s.k.stays st (fun id hid e=>J.s.sk (by rw [← e];exact hid)),J.s.v.stays st (fun id hid e=>J.s.sv (by rw [← e];exact hid)),by simp [nilS,AV.at_],by simp [nilS,AV.at_],J.s.sk,J.s.sv,nd _,nd _,nd _,nd _,nd _,J.s.kv⟩,
    J.p.stays st (fun a ha id hid e=>J.ki a (by simp [ha]) id hid (.inl e)) (fun a ha id hid e=>J.ki a (by simp [ha]) id hid (.inl e)),by rw [J.len],fun a ha id hid=>own4 (J.ki a ha id hid),J.st.then st fun id _ e=>.inl e,J.new⟩
end Go.Tidy
namespace Go.Tidy
open Go Go.Eng Go.Proofs
variable {cx:Cx}
structure OwnF (h X:AH) (S:Nat) (cnt tot:Int) (F W K V:List IA) (kS vS:AV) (a c:IA) (im:Img) (fS wS f' w':AV):Prop where
 s:ShO X S (cnt + 1) tot (F ++ [a]) (W ++ [c]) K V f' w' kS vS
 ic:ImS X c im
 cid:∀ id ∈ c.ids,h.length ≤ id ∧ ¬ Own4 S f' w' kS vS id
 st:Stays (OwnK S fS wS) h X
 new:∀ id,OwnK S f' w' id → OwnK S fS wS id ∨ h.length ≤ id
set_option maxRecDepth 100000 in
set_option maxHeartbeats 8000000 in
theorem c73 (hO:On cx) {h:AH} {S:Nat} {cnt:Int} {tot:Nat} {F W K V:List IA} {fS wS kS vS:AV} (hs:ShO h S cnt tot F W K V fS wS kS vS) {a:IA} {im:Img} (ha:ImS h a im) (hn:∀ id ∈ a.ids,¬ Own4 S fS wS kS vS id)
 (hf2:F.length ≤ 2) (hw2:W.length ≤ 2) (hc1:0 ≤ cnt) (hc2:cnt ≤ 1000) (hc3:F.length = 0 → ¬ (cnt + 1).tmod 4 = 0) (htot:tot ≤ 10000000000) {R:AV → AH → Prop}
 (hR:F.length = 2 → ∀ X c f' w',OwnF h X S cnt ((tot + im.text.length + im.funcs.length + im.tables.length:Nat):Int) F W K V kS vS a c im fS wS f' w' → SimCall cx 128 [.ptr S 0 0] X R) :
 SimCall cx 73 [.ptr S 0 0,.agg a.row] h fun _ h'=>(F.length < 2 ∧ ∃ c f' w',OwnF h h' S cnt ((tot + im.text.length + im.funcs.length + im.tables.length:Nat):Int) F W K V kS vS a c im fS wS f' w') ∨ (F.length = 2 ∧ ∃ r,R r h'):=by
 obtain ⟨t,f,b,e⟩:=a
 obtain ⟨ht,hf,hb,he,n1,n2,n3⟩:=ha
 simp only at ht hf hb he
 subst he
 have c1:=ht.sl.cell
 have c2:=hf.sl.cell
 have c3:=hb.sl.cell
 have hSl:=(List.getElem?_eq_some_iff.1 hs.at_).1
 have hn1:∀ id,t.at_ = some id → ¬ Own4 S fS wS kS vS id:=fun id hid=>hn id (mem_t (a:=⟨t,f,b,im.entry⟩) hid)
 have hn2:∀ id,f.at_ = some id → ¬ Own4 S fS wS kS vS id:=fun id hid=>hn id (mem_f (a:=⟨t,f,b,im.entry⟩) hid)
 have hn3:∀ id,b.at_ = some id → ¬ Own4 S fS wS kS vS id:=fun id hid=>hn id (mem_b (a:=⟨t,f,b,im.entry⟩) hid)
 have hw0:IntKind.i64.wrap (cnt + 1) = cnt + 1:=wrap_id (by omega) (by omega)
 have hwA:IntKind.i64.wrap ((tot:Int) + (im.text.length:Int)) = ((tot + im.text.length:Nat):Int):=by rw [wrap_id (by omega) (by omega)];rfl
 have hwB:IntKind.i64.wrap (((tot + im.text.length:Nat):Int) + (im.funcs.length:Int)) = ((tot + im.text.length + im.funcs.length:Nat):Int):=by rw [wrap_id (by omega) (by omega)];rfl
 have hwC:IntKind.i64.wrap (((tot + im.text.length + im.funcs.length:Nat):Int) + (im.tables.length:Int)) = ((tot + im.text.length + im.funcs.length + im.tables.length:Nat):Int):=by rw [wrap_id (by omega) (by omega)];rfl
 generalize hT:((tot + im.text.length + im.funcs.length + im.tables.length:Nat):Int) = T at *
 obtain ⟨Y,hY⟩:∃ Y,Y = h ++ [AO.cells 0 [t,f,b,VI im.entry]]:=⟨_,rfl⟩
 have xb:Y[S]? = some (.cells 0 [VI cnt,VI (tot:Int),VB false,fS,wS,kS,vS]):=by rw [hY];exact at_app hs.at_ _
 have bx0:Y[h.length]? = some (.cells 0 [t,f,b,VI im.entry]):=by rw [hY];simp
 have sb:Stays (fun _=>False) h Y:=by rw [hY];exact Stays.app _ _
 have lb:Y.length = h.length + 1:=by rw [hY];simp
 have yl:S < Y.length:=by omega
 have y1:=rd_of xb
 have y2:=get_of xb
 have y3:∀ c,AH.rd (Y.set S (.cells 0 c)) S 0 = some c:=fun c=>rd_of (by rw [List.getElem?_set_self yl])
 have y4:∀ c,AH.get (Y.set S (.cells 0 c)) S 0 = some c:=fun c=>get_of (by rw [List.getElem?_set_self yl])
 have y5:∀ c,AH.rd (Y.set S (.cells 0 c)) h.length 0 = some [t,f,b,VI im.entry]:=fun c=>rd_of (by rw [List.getElem?_set_ne (by omega)];exact bx0)
 obtain ⟨Z,hZ⟩:∃ Z,Z = Y.set S (.cells 0 [VI (cnt + 1),VI T,VB false,fS,wS,kS,vS]):=⟨_,rfl⟩
 have sZ:Stays (fun id=>id = S) h Z:=by rw [hZ];exact (sb.mono fun _ _ e=>e.elim).trans (Stays.set Y S _)
 have zS:Z[S]? = some (.cells 0 [VI (cnt + 1),VI T,VB false,fS,wS,kS,vS]):=by rw [hZ,List.getElem?_set_self yl]
 have zB:Z[h.length]? = some (.cells 0 [t,f,b,VI im.entry]):=by rw [hZ,List.getElem?_set_ne (by omega)];exact bx0
 have lZ:Z.length = h.length + 1:=by rw [hZ];simpa using lb
 have fl:∀ id,fS.at_ = some id → id < h.length:=fun id hid=>hs.f.at_lt hid
 have wl:∀ id,wS.at_ = some id → id < h.length:=fun id hid=>hs.w.at_lt hid
 have fZ:=hs.f.stays sZ (fun id hid e=>hs.sf (by rw [← e];exact hid))
 have wZ:=hs.w.stays sZ (fun id hid e=>hs.sw (by rw [← e];exact hid))
 have lT:=ht.sl.len
 have lF:=hf.sl.len
 have lB:=hb.sl.len
 refine SimCall.by hO.P res73 ?_
 unfold x73 r73
 repeat' first
  | simp (maxSteps:=1000000) only [go_sem,c1,c2,c3,← hY,y1,y2,y3,y4,y5,hw0,lT,lF,lB,hwA,hwB,hwC,List.set_set]
 simp only [← hZ]
 refine bK_app (f:=IA.row) (x:=⟨t,f,b,im.entry⟩) (fZ.stays (Stays.app (P:=fun _=>False) _ _) fun _ _ h=>h) IA.len (by decide) (by simp [xRows,AH.rd]) (by omega) ?_
 intro k1 X1 w1 st1 at1
 have st1':Stays (fun id=>fS.at_ = some id) Z X1:=(Stays.app (P:=fun id=>fS.at_ = some id) _ _).trans st1
 have x1:=stays_get st1' zS hs.sf
 have bx:=stays_get st1' zB (fun e=>by have:=fl _ e;omega)
 have hl1:Z.length + 1 ≤ X1.length:=by have:=st1.len;simpa using this
 have k1c:=(w1.rows IA.len).sl.cells
 have k1S:k1.at_ ≠ some S:=fun e=>by
  rcases at1 _ e with h1 | h1
  ·exact hs.sf h1
  ·simp at h1;omega
 have x1l:=(List.getElem?_eq_some_iff.1 x1).1
 have g1:=get_of x1
 have s2:=Stays.set X1 S (.cells 0 [VI (cnt + 1),VI T,VB false,k1,wS,kS,vS])
 have x2:(X1.set S (.cells 0 [VI (cnt + 1),VI T,VB false,k1,wS,kS,vS]))[S]? = some (.cells 0 [VI (cnt + 1),VI T,VB false,k1,wS,kS,vS]):=by rw [List.getElem?_set_self x1l]
 have bx2:=stays_get s2 bx (by omega)
 have l2:(X1.set S (.cells 0 [VI (cnt + 1),VI T,VB false,k1,wS,kS,vS])).length = X1.length:=by simp
 have st2:Stays (OwnK S fS wS) h (X1.set S (.cells 0 [VI (cnt + 1),VI T,VB false,k1,wS,kS,vS])):=(sZ.mono fun _ _ e=>.inl e).trans ((st1'.mono fun _ _ e=>.inr (.inl e)).trans (s2.mono fun _ _ e=>.inl e))
 have w2:=w1.stays s2 (fun id hid e=>k1S (by rw [← e];exact hid))
 have own:∀ {id},OwnK S fS wS id → Own4 S fS wS kS vS id:=fun e=>by
  rcases e with e | e | e
  ·exact .inl e
  ·exact .inr (.inl e)
  ·exact .inr (.inr (.inl e))
 have ht2:=ht.stays Ins.len (by decide) st2 (fun id hid e=>hn1 id hid (own e))
 have hf2':=hf.stays Fn.len (by decide) st2 (fun id hid e=>hn2 id hid (own e))
 have hb2:=hb.stays Tab.len (by decide) st2 (fun id hid e=>hn3 id hid (own e))
 have v2:WSl IA.row 4 (X1.set S (.cells 0 [VI (cnt + 1),VI T,VB false,k1,wS,kS,vS])) wS W:=(wZ.stays st1' fun id hid e=>hs.fw id e hid).stays s2 fun id hid e=>hs.sw (by rw [← e];exact hid)
 repeat' first
  | simp (maxSteps:=1000000) only [go_sem,g1,k1c]
 generalize hX2:X1.set S (.cells 0 [VI (cnt + 1),VI T,VB false,k1,wS,kS,vS]) = X2 at *
 have d2:=rd_of x2
 have d3:=rd_of bx2
 have d2':∀ g,AH.rd (X2 ++ g) S 0 = _:=fun g=>rd_more x2 g
 have d3':∀ g,AH.rd (X2 ++ g) h.length 0 = _:=fun g=>rd_more bx2 g
 repeat' first
  | ((with_reducible show dK _ 28 _ _ _);refine dK_app _ _ (c28x hO ht2 hf2' hb2 n1 n2 n3) ?_)
  | simp (maxSteps:=1000000) only [go_sem,hX2,d2,d3,d2',d3',cpO,cpA]
 refine bK_app (f:=IA.row) (x:=⟨.sl (X2.length + 2) (cpV im.text.length) 0 im.text.length 5,.sl (X2.length + 3) (cpV im.funcs.length) 0 im.funcs.length 4,.sl (X2.length + 4) (cpV im.tables.length) 0 im.tables.length 5,im.entry⟩)
  (v2.stays (Stays.app (P:=fun _=>False) _ _) fun _ _ h=>h) IA.len (by decide) (by simp [xRows,AH.rd]) (by omega) ?_
 intro v1 X3 w3 st3 at3
 have hX:∀ (k:Nat) o,[AO.cells 0 [t,f,b,VI im.entry],AO.cells 0 [AV.sl (X2.length + 2) (cpV im.text.length) 0 im.text.length 5,AV.sl (X2.length + 3) (cpV im.funcs.length) 0 im.funcs.length 4,AV.sl (X2.length + 4) (cpV im.tables.length) 0 im.tables.length 5,VI im.entry],
  AO.cells (cpV im.text.length) (List.flatMap Ins.row im.text),AO.cells (cpV im.funcs.length) (List.flatMap Fn.row im.funcs),AO.cells (cpV im.tables.length) (List.flatMap Tab.row im.tables),
  AO.cells 0 [AV.sl (X2.length + 2) (cpV im.text.length) 0 im.text.length 5,AV.sl (X2.length + 3) (cpV im.funcs.length) 0 im.funcs.length 4,AV.sl (X2.length + 4) (cpV im.tables.length) 0 im.tables.length 5,VI im.entry]][k]? = some o → X3[X2.length + k]? = some o:=fun k o e=>
  stays_get st3 (by rw [List.getElem?_append_right (by omega),Nat.add_sub_cancel_left];exact e) (fun e=>by have:=wl _ e;have:=st2.len;omega)
 have hl3:X2.length + 6 ≤ X3.length:=by have:=st3.len;simpa using this
 have st3':Stays (fun id=>wS.at_ = some id) X2 X3:=(Stays.app (P:=fun id=>wS.at_ = some id) _ _).trans st3
 have hle2:=st2.len
 have x3:=stays_get st3' x2 hs.sw
 have g3:=get_of x3
 have v1c:=(w3.rows IA.len).sl.cells
 have v1S:v1.at_ ≠ some S:=fun e=>by
  rcases at3 _ e with h1 | h1
  ·exact hs.sw h1
  ·simp at h1;omega
 have x3l:=(List.getElem?_eq_some_iff.1 x3).1
 have k1v:Dj k1 wS:=fun id e1 e2=>by
  rcases at1 id e1 with h1 | h1
  ·exact hs.fw id h1 e2
  ·simp at h1;have:=wl id e2;omega
 have k1v1:Dj k1 v1:=fun id e1 e2=>by
  rcases at3 id e2 with h1 | h1
  ·exact k1v id e1 h1
  ·have:=w2.at_lt e1;simp at h1;omega
 have st4:=Stays.set X3 S (.cells 0 [VI (cnt + 1),VI T,VB false,k1,v1,kS,vS])
 have stA:Stays (OwnK S fS wS) h (X3.set S (.cells 0 [VI (cnt + 1),VI T,VB false,k1,v1,kS,vS])):=(st2.trans (st3'.mono fun _ _ e=>.inr (.inr e))).trans (st4.mono fun _ _ e=>.inl e)
 have djf:∀ {x:AV},Dj fS x → (∀ id,x.at_ = some id → id < h.length) → Dj k1 x:=fun {x} hx1 hx3 id e1 e2=>by
  rcases at1 id e1 with h1 | h1
  ·exact hx1 id h1 e2
  ·simp at h1;have:=hx3 id e2;omega
 have djw:∀ {x:AV},Dj wS x → (∀ id,x.at_ = some id → id < h.length) → Dj v1 x:=fun {x} hx1 hx3 id e1 e2=>by
  rcases at3 id e1 with h1 | h1
  ·exact hx1 id h1 e2
  ·simp at h1;have:=hx3 id e2;omega
 have kl:∀ id,kS.at_ = some id → id < h.length:=fun id hid=>hs.k.at_lt hid
 have vl:∀ id,vS.at_ = some id → id < h.length:=fun id hid=>hs.v.at_lt hid
 have res:OwnF h (X3.set S (.cells 0 [VI (cnt + 1),VI T,VB false,k1,v1,kS,vS])) S cnt T F W K V kS vS ⟨t,f,b,im.entry⟩ ⟨.sl (X2.length + 2) (cpV im.text.length) 0 im.text.length 5,.sl (X2.length + 3) (cpV im.funcs.length) 0 im.funcs.length 4,.sl (X2.length + 4) (cpV im.tables.length) 0 im.tables.length 5,im.entry⟩ im fS wS k1 v1:=by
  refine ⟨⟨?_,?_,?_,?_,?_,k1S,v1S,hs.sk,hs.sv,k1v1,djf hs.fk kl,djf hs.fv vl,djw hs.wk kl,djw hs.wv vl,hs.kv⟩,?_,?_,stA,?_⟩
  ·rw [List.getElem?_set_self x3l]
  ·exact (w2.stays st3' fun id hid e=>k1v id hid e).stays st4 fun id hid e=>k1S (by rw [← e];exact hid)
  ·exact w3.stays st4 fun id hid e=>v1S (by rw [← e];exact hid)
  ·exact hs.k.stays stA fun id hid e=>by
    rcases e with e | e | e
    ·exact hs.sk (by rw [← e];exact hid)
    ·exact hs.fk id e hid
    ·exact hs.wk id e hid
  ·exact hs.v.stays stA fun id hid e=>by
    rcases e with e | e | e
    ·exact hs.sv (by rw [← e];exact hid)
    ·exact hs.fv id e hid
    ·exact hs.wv id e hid
  ·refine ⟨WSl.rows Ins.len (.inr ⟨_,_,rfl,stays_get st4 (hX 2 _ rfl) ?_⟩),WSl.rows Fn.len (.inr ⟨_,_,rfl,stays_get st4 (hX 3 _ rfl) ?_⟩),WSl.rows Tab.len (.inr ⟨_,_,rfl,stays_get st4 (hX 4 _ rfl) ?_⟩),rfl,n1,n2,n3⟩
   all_goals omega
  ·intro id hid
   have hid2:id = X2.length + 2 ∨ id = X2.length + 3 ∨ id = X2.length + 4:=by simpa [IA.ids,AV.at_,eq_comm] using hid
   refine ⟨by omega,?_⟩
   rintro (e | e | e | e | e)
   ·omega
   ·have:=w2.at_lt e;omega
   ·rcases at3 id e with h1 | h1
    ·have:=wl id h1;omega
    ·simp at h1;omega
   ·have:=kl id e;omega
   ·have:=vl id e;omega
  ·rintro id (e | e | e)
   ·exact .inl (.inl e)
   ·rcases at1 id e with h1 | h1
    ·exact .inl (.inr (.inl h1))
    ·simp at h1;exact .inr (by omega)
   ·rcases at3 id e with h1 | h1
    ·exact .inl (.inr (.inr h1))
    ·simp at h1;exact .inr (by omega)
 have f1l:=(w1.rows IA.len).sl.len
 have x4:=res.s.at_
 repeat' first
  | ((with_reducible show SemL _ _ _ _);refine SemL.of ?_)
  | simp (maxSteps:=1000000) only [go_sem,g3,v1c]
 generalize hX4:X3.set S (.cells 0 [VI (cnt + 1),VI T,VB false,k1,v1,kS,vS]) = X4 at *
 have r4:=rd_of x4
 have hcs:F.length = 0 ∨ F.length = 1 ∨ F.length = 2:=by omega
 rcases hcs with h0 | h0 | h0
 ·have hcm:=hc3 h0
  replace f1l:xLenL k1 = some (VI 1):=by rw [f1l,List.length_append,h0];rfl
  repeat' first
   | simp (maxSteps:=1000000) only [go_sem,hX4,r4,f1l,hcm,ne_eq,not_false_eq_true]
  exact .inl ⟨by omega,_,_,_,res⟩
 ·replace f1l:xLenL k1 = some (VI 2):=by rw [f1l,List.length_append,h0];rfl
  repeat' first
   | simp (maxSteps:=1000000) only [go_sem,hX4,r4,f1l]
  exact .inl ⟨by omega,_,_,_,res⟩
 ·replace f1l:xLenL k1 = some (VI 3):=by rw [f1l,List.length_append,h0];rfl
  repeat' first
   | simp (maxSteps:=1000000) only [go_sem,hX4,r4,f1l]
  refine (hR h0 _ _ _ _ res).mono ?_
  intro r h' hr
  repeat' first
   | simp (maxSteps:=1000000) only [go_sem]
  exact .inr ⟨h0,_,hr⟩
end Go.Tidy
namespace Go.Tidy
open Go Go.Eng Go.Proofs
variable {cx:Cx}
def Wr (sz:Nat) (h:AH) (v:AV) (n:Nat):Prop:=(n = 0 ∧ v = nilS) ∨ ∃ id ver cs,v = .sl id ver 0 n sz ∧ h[id]? = some (.cells ver cs) ∧ n * sz ≤ cs.length
section
variable {sz:Nat} {h h':AH} {v:AV} {n:Nat}
theorem Wr.len (w:Wr sz h v n):xLenL v = some (VI n):=by
 rcases w with ⟨rfl,rfl⟩ | ⟨id,ver,cs,rfl,ho,hl⟩ <;> rfl
theorem Wr.at_lt (w:Wr sz h v n) {id:Nat} (hid:v.at_ = some id):id < h.length:=by
 rcases w with ⟨rfl,rfl⟩ | ⟨id',ver,cs,rfl,ho,hl⟩
 ·cases hid
 ·cases hid
  exact (List.getElem?_eq_some_iff.1 ho).1
theorem Wr.stays {P:Nat → Prop} (w:Wr sz h v n) (k:Stays P h h') (hp:∀ id,v.at_ = some id → ¬ P id):Wr sz h' v n:=by
 rcases w with w | ⟨id,ver,cs,rfl,ho,hl⟩
 ·exact .inl w
 ·exact .inr ⟨id,ver,cs,rfl,(k.at_ id (List.getElem?_eq_some_iff.1 ho).1 (hp id rfl)).trans ho,hl⟩
theorem Wr.put (w:Wr sz h v n) {j:Nat} (hj:j < n) (y:List AV) (hy:y.length = sz) (hc:y.all AV.cell = true) :
 ∃ q X,xIad sz v (VI j) = some q ∧ xSt h sz q (.agg y) = some X ∧ Wr sz X v n ∧ Stays (fun id=>v.at_ = some id) h X:=by
 rcases w with ⟨rfl,_⟩ | ⟨id,ver,cs,rfl,ho,hl⟩
 ·omega
 ·have hlt:=(List.getElem?_eq_some_iff.1 ho).1
  have hle:j * sz + sz ≤ n * sz:=by
   have:=Nat.mul_le_mul_right sz (show j + 1 ≤ n by omega)
   rwa [Nat.succ_mul] at this
  refine ⟨.ptr id ver (j * sz),h.set id (.cells ver (setCells cs (j * sz) y)),?_,?_,.inr ⟨id,ver,_,rfl,by rw [List.getElem?_set_self hlt],?_⟩,(Stays.set h id _).mono fun i _ e=>by rw [e];rfl⟩
  ·simp only [xIad,Int.toNat_natCast,Nat.zero_add]
   rw [if_pos ⟨trivial,by omega,by omega⟩]
  ·have h1:(AV.agg y).cellsOf = some y:=if_pos hc
   simp only [xSt,h1,get_of ho,Option.bind_some]
   rw [if_pos ⟨hy,by omega⟩]
  ·unfold setCells
   simp only [List.length_append,List.length_take,List.length_drop]
   omega
theorem Wr.put1 (w:Wr sz h v n) {j k:Nat} (hj:j < n) (hk:k < sz) (x:Value) (hx:(AV.v x).cell = true) :
 ∃ q q' X,xIad sz v (VI j) = some q ∧ xFad k q = some q' ∧ xSt h 1 q' (.v x) = some X ∧ Wr sz X v n ∧ Stays (fun id=>v.at_ = some id) h X:=by
 rcases w with ⟨rfl,_⟩ | ⟨id,ver,cs,rfl,ho,hl⟩
 ·omega
 ·have hlt:=(List.getElem?_eq_some_iff.1 ho).1
  have hle:j * sz + sz ≤ n * sz:=by
   have:=Nat.mul_le_mul_right sz (show j + 1 ≤ n by omega)
   rwa [Nat.succ_mul] at this
  refine ⟨.ptr id ver (j * sz),.ptr id ver (j * sz + k),h.set id (.cells ver (setCells cs (j * sz + k) [.v x])),?_,rfl,?_,.inr ⟨id,ver,_,rfl,by rw [List.getElem?_set_self hlt],?_⟩,(Stays.set h id _).mono fun i _ e=>by rw [e];rfl⟩
  ·simp only [xIad,Int.toNat_natCast,Nat.zero_add]
   rw [if_pos ⟨trivial,by omega,by omega⟩]
  ·have h1:(AV.v x).cellsOf = some [.v x]:=by
    unfold AV.cellsOf
    exact if_pos hx
   simp only [xSt,h1,get_of ho,Option.bind_some]
   rw [if_pos ⟨rfl,by omega⟩]
  ·unfold setCells
   simp only [List.length_append,List.length_take,List.length_drop,List.length_singleton]
   omega
end
theorem VOk.lens {T:List Tab → Bool} {im:Img} (hv:VOk T im):im.text.length ≤ 1048576 ∧ im.funcs.length ≤ 4096 ∧ im.tables.length ≤ 1024:=
 ⟨Nat.le_trans (len_sum _) hv.img.len,hv.img.nf,hv.img.nt⟩
theorem c23u (hO:On cx) {h:AH} {im gi:Img} {bs:List (List Ins)} {a:IA} (he:a.e = im.entry) (hr:ImgR h a.t a.f a.b im) (hb:Rows Tab.row 5 h a.b im.tables) {q:Bool} (hno:xNo a.b = some q) (hv:VOk (tabsB 0) im) (ht:TidyOf im gi bs) :
 SimCall cx 23 [.agg a.row] h fun r h'=>∃ (g:AH) (z:IA),h' = h ++ g ∧ r = .tup [.agg z.row,VI 0] ∧ ImW (h ++ g) z gi ∧ ImD z ∧ ∀ id ∈ z.ids,h.length ≤ id:=by
 obtain ⟨t,f,b,e⟩:=a
 simp only at he hr hb hno
 subst he
 refine (c23 hO hr hb hno).mono ?_
 rintro r h' (⟨hn,_⟩ | ⟨_,bs',g,a,va,b,vb,dv,h1,rfl,rfl,h2,h3,h4,h5,h6,h7,h8⟩)
 ·exact absurd hv hn
 ·obtain ⟨rfl,rfl⟩:=ht.uniq hv h1
  have hl:=(h1.ok hv).lens
  have hni:∀ x,dv.at_ = some x → h.length ≤ x ∧ x ≠ a ∧ x ≠ b:=fun x hx=>h8 x hx
  refine ⟨g,⟨.sl a va 0 bs.flatten.length 5,.sl b vb 0 (laidFs 0 im.funcs bs).length 4,dv,im.entry⟩,rfl,rfl,⟨h2,h3,h4,rfl,by have:=hl.1;simp only at this ⊢;omega,by have:=hl.2.1;simp only at this ⊢;omega,by have:=hl.2.2;simp only at this ⊢;omega⟩,⟨?_,?_,?_⟩,?_⟩
  ·intro id h1 h2
   cases h1
   cases h2
   exact h7 rfl
  ·intro id h1 h2
   cases h1
   exact (hni _ h2).2.1 rfl
  ·intro id h1 h2
   cases h1
   exact (hni _ h2).2.2 rfl
  ·intro id hid
   rcases ids_cases hid with e | e | e
   ·cases e;exact h5
   ·cases e;exact h6
   ·exact (hni id e).1
end Go.Tidy
namespace Go.Tidy
open Go Go.Eng Go.Proofs
variable {cx:Cx}
structure Sf (N:Nat) (X:AH) (S:Nat) (cnt:Int) (tot:Nat) (F W:List IA) (fS wS:AV):Prop where
 s:ShO X S cnt tot F W [] [] fS wS nilS nilS
 p:Pairs X F W
 wi:∀ c ∈ W,∀ id ∈ c.ids,N ≤ id ∧ ¬ Own4 S fS wS nilS nilS id
 own:∀ id,Own4 S fS wS nilS nilS id → N ≤ id
 fi:∀ a ∈ F,∀ id ∈ a.ids,id < N
 wl:W.length = F.length
theorem Sf.new {N:Nat} {X:AH} {S:Nat} (hS:X[S]? = some (.cells 0 [VI 0,VI 0,VB false,nilS,nilS,nilS,nilS])) (hN:N ≤ S):Sf N X S 0 0 [] [] nilS nilS:=by
 have nd:Dj nilS nilS:=fun id e=>by cases e
 have ns:nilS.at_ ≠ some S:=by simp [nilS,AV.at_]
 refine ⟨⟨hS,.inl ⟨rfl,rfl⟩,.inl ⟨rfl,rfl⟩,.inl ⟨rfl,rfl⟩,.inl ⟨rfl,rfl⟩,ns,ns,ns,ns,nd,nd,nd,nd,nd,nd⟩,⟨rfl,fun i a b h=>by simp at h⟩,fun c hc=>by simp at hc,?_,fun c hc=>by simp at hc,rfl⟩
 rintro id (rfl | e | e | e | e)
 ·exact hN
 all_goals cases e
theorem ownK4 {S:Nat} {fS wS:AV} {id:Nat}:Own4 S fS wS nilS nilS id → OwnK S fS wS id:=by
 rintro (e | e | e | e | e)
 ·exact .inl e
 ·exact .inr (.inl e)
 ·exact .inr (.inr e)
 ·cases e
 ·cases e
theorem own4K {S:Nat} {fS wS:AV} {id:Nat}:OwnK S fS wS id → Own4 S fS wS nilS nilS id:=by
 rintro (e | e | e)
 ·exact .inl e
 ·exact .inr (.inl e)
 ·exact .inr (.inr (.inl e))
theorem Sf.step {N:Nat} {X Y:AH} {S:Nat} {cnt:Int} {tot t2:Nat} {F W:List IA} {fS wS f' w':AV} {a c:IA} {im:Img} (s:Sf N X S cnt tot F W fS wS) (ha:ImS X a im) (hal:∀ id ∈ a.ids,id < N) (hN:N ≤ X.length)
 (o:OwnF X Y S cnt t2 F W [] [] nilS nilS a c im fS wS f' w'):Sf N Y S (cnt + 1) t2 (F ++ [a]) (W ++ [c]) f' w' ∧ Stays (fun id=>N ≤ id) X Y:=by
 have st:Stays (fun id=>N ≤ id) X Y:=o.st.mono fun id _ e=>s.own id (own4K e)
 have hpl:=s.p.lt
 refine ⟨⟨o.s,(s.p.stays o.st (fun b hb id hid e=>?_) fun b hb id hid e=>(s.wi b hb id hid).2 (own4K e)).snoc ⟨im,ha.stays o.st fun id hid e=>?_,o.ic⟩,?_,?_,?_,by simp [s.wl]⟩,st⟩
 ·have:=s.own id (own4K e)
  have:=s.fi b hb id hid
  omega
 ·have:=s.own id (own4K e)
  have:=hal id hid
  omega
 ·intro b hb id hid
  simp only [List.mem_append,List.mem_singleton] at hb
  rcases hb with hb | rfl
  ·obtain ⟨h1,h2⟩:=s.wi b hb id hid
   refine ⟨h1,fun e=>?_⟩
   rcases o.new id (ownK4 e) with e | e
   ·exact h2 (own4K e)
   ·have:=hpl.2 b hb id hid
    omega
  ·obtain ⟨h1,h2⟩:=o.cid id hid
   exact ⟨by omega,h2⟩
 ·intro id e
  rcases o.new id (ownK4 e) with e | e
  ·exact s.own id (own4K e)
  ·omega
 ·intro b hb id hid
  simp only [List.mem_append,List.mem_singleton] at hb
  rcases hb with hb | rfl
  ·exact s.fi b hb id hid
  ·exact hal id hid
theorem c73a (hO:On cx) {N:Nat} {X:AH} {S:Nat} {cnt:Int} {tot:Nat} {F W:List IA} {fS wS:AV} (s:Sf N X S cnt tot F W fS wS) {a:IA} {im:Img} (ha:ImS X a im) (hal:∀ id ∈ a.ids,id < N) (hN:N ≤ X.length)
 (hF:F.length < 2) (hc1:0 ≤ cnt) (hc2:cnt < 3) (ht:tot ≤ 10000000000) :
 SimCall cx 73 [.ptr S 0 0,.agg a.row] X fun _ Y=>∃ c f' w',Sf N Y S (cnt + 1) (tot + im.text.length + im.funcs.length + im.tables.length) (F ++ [a]) (W ++ [c]) f' w' ∧ Stays (fun id=>N ≤ id) X Y:=by
 refine (c73 hO (R:=fun _ _=>False) s.s ha (fun id hid e=>by have:=s.own id e;have:=hal id hid;omega) (by omega) (by rw [s.wl];omega) hc1 (by omega) (fun _=>?_) ht (fun h2=>by omega)).mono ?_
 ·have:cnt = 0 ∨ cnt = 1 ∨ cnt = 2:=by omega
  rcases this with rfl | rfl | rfl <;> decide
 ·rintro r Y (⟨_,c,f',w',o⟩ | ⟨h2,_⟩)
  ·exact ⟨c,f',w',s.step ha hal hN o⟩
  ·omega
theorem c73b (hO:On cx) {N:Nat} {X:AH} {S:Nat} {cnt:Int} {tot:Nat} {F W:List IA} {fS wS:AV} (s:Sf N X S cnt tot F W fS wS) {a:IA} {im:Img} (ha:ImW X a im) (hal:∀ id ∈ a.ids,id < N) (hN:N ≤ X.length)
 (hF:F.length = 2) (hc1:0 ≤ cnt) (hc2:cnt ≤ 1000) (ht:tot ≤ 1000000000) (hw:∀ b ∈ F,∃ im,ImW X b im) (hd:FD (F ++ [a])) :
 SimCall cx 73 [.ptr S 0 0,.agg a.row] X fun _ Y=>∃ K V kS vS,ShO Y S (cnt + 4) ((tot + im.text.length + im.funcs.length + im.tables.length:Nat):Int) [] [] K V nilS nilS kS vS ∧ Pairs Y K V ∧ K.length = 12 ∧ (∀ b ∈ K ++ V,∀ id ∈ b.ids,¬ OwnK S kS vS id) ∧
  Stays (fun id=>N ≤ id ∨ ∃ b ∈ F ++ [a],id ∈ b.ids) X Y ∧ (∀ id,OwnK S kS vS id → N ≤ id):=by
 have hS:=s.own S (.inl rfl)
 have n1:=ha.nt
 have n2:=ha.nf
 have n3:=ha.nb
 refine (c73 hO (R:=fun _ Y=>∃ K V kS vS,ShO Y S (cnt + 4) ((tot + im.text.length + im.funcs.length + im.tables.length:Nat):Int) [] [] K V nilS nilS kS vS ∧ Pairs Y K V ∧ K.length = 12 ∧ (∀ b ∈ K ++ V,∀ id ∈ b.ids,¬ OwnK S kS vS id) ∧
  Stays (fun id=>N ≤ id ∨ ∃ b ∈ F ++ [a],id ∈ b.ids) X Y ∧ (∀ id,OwnK S kS vS id → N ≤ id)) s.s ha.s (fun id hid e=>by have:=s.own id e;have:=hal id hid;omega) (by omega) (by rw [s.wl];omega) hc1 hc2 (fun h0=>by omega) (by omega) ?_).mono ?_
 ·intro _ Z c f' w' o
  obtain ⟨q,st⟩:=s.step ha.s hal hN o
  have hl:(F ++ [a]).length = 3:=by simp [hF]
  refine (c128 hO q.s q.p ?_ hd (fun b hb id hid e=>?_) (by omega) (by omega) (by omega) (by omega)).mono ?_
  ·intro b hb
   have hin:∃ im,ImW X b im:=by
    simp only [List.mem_append,List.mem_singleton] at hb
    rcases hb with hb | rfl
    ·exact hw b hb
    ·exact ⟨im,ha⟩
   obtain ⟨i2,w2⟩:=hin
   exact ⟨i2,w2.stays st fun id hid e=>by have:=q.fi b hb id hid;omega⟩
  ·have:=q.own id e
   have:=q.fi b hb id hid
   omega
  ·rintro r Y ⟨K,V,kS,vS,sh,pp,kl,ki,s2,nw⟩
   refine ⟨K,V,kS,vS,by rw [hl] at sh;rw [show cnt + 4 = cnt + 1 + ((3:Nat):Int) by omega];exact sh,pp,by rw [kl,hl],ki,(st.mono fun id _ e=>.inl e).trans (s2.mono fun id _ e=>?_),fun id e=>?_⟩
   ·rcases e with rfl | e
    ·exact .inl hS
    ·exact .inr e
   ·rcases nw id e with rfl | e
    ·exact hS
    ·have:=st.len
     omega
 ·rintro r Y (⟨h2,_⟩ | ⟨_,_,q⟩)
  ·omega
  ·exact q
theorem c73c (hO:On cx) {X:AH} {S:Nat} {tot:Nat} {K V:List IA} {kS vS:AV} (s:ShO X S 6 tot [] [] K V nilS nilS kS vS) (hp:Pairs X K V) (hk:∀ b ∈ K ++ V,∀ id ∈ b.ids,¬ OwnK S kS vS id) {a:IA} {im:Img} (ha:ImS X a im) (hal:∀ id ∈ a.ids,¬ OwnK S kS vS id)
 (ht:tot ≤ 10000000000) :
 SimCall cx 73 [.ptr S 0 0,.agg a.row] X fun _ Y=>∃ (c:IA) (T:Int) (f' w':AV),ShO Y S 7 T [a] [c] K V f' w' kS vS ∧ Pairs Y [a] [c] ∧ Pairs Y K V:=by
 have h4:∀ id,Own4 S nilS nilS kS vS id → OwnK S kS vS id:=by
  rintro id (e | e | e | e | e)
  ·exact .inl e
  ·cases e
  ·cases e
  ·exact .inr (.inl e)
  ·exact .inr (.inr e)
 have hS:∀ id,OwnK S nilS nilS id → OwnK S kS vS id:=by
  rintro id (e | e | e)
  ·exact .inl e
  ·cases e
  ·cases e
 refine (c73 hO (R:=fun _ _=>False) s ha (fun id hid e=>hal id hid (h4 id e)) (by simp) (by simp) (by decide) (by decide) (fun _=>by decide) ht (fun h2=>by simp at h2)).mono ?_
 rintro r Y (⟨_,c,f',w',o⟩ | ⟨h2,_⟩)
 ·refine ⟨c,_,f',w',o.s,?_,hp.stays o.st (fun b hb id hid e=>hk b (by simp [hb]) id hid (hS id e)) fun b hb id hid e=>hk b (by simp [hb]) id hid (hS id e)⟩
  have:Pairs Y ([]:List IA) []:=⟨rfl,fun i a b h=>by simp at h⟩
  exact this.snoc ⟨im,ha.stays o.st fun id hid e=>hal id hid (hS id e),o.ic⟩
 ·simp at h2
end Go.Tidy
namespace Go.Tidy
open Go Go.Eng Go.Proofs
variable {cx:Cx}
structure ImA (h:AH) (a:IA) (im:Img):Prop where
 r:ImgR h a.t a.f a.b im
 t:Rows Ins.row 5 h a.t im.text
 f:Rows Fn.row 4 h a.f im.funcs
 b:Rows Tab.row 5 h a.b im.tables
 e:a.e = im.entry
 no:∃ q,xNo a.b = some q
theorem ImA.s {h:AH} {a:IA} {im:Img} (w:ImA h a im):ImS h a im:=⟨w.t,w.f,w.b,w.e,w.r.len,w.r.nf,w.r.nt⟩
theorem ImA.stays {h h':AH} {a:IA} {im:Img} {P:Nat → Prop} (s:ImA h a im) (k:Stays P h h') (hp:∀ id ∈ a.ids,¬ P id):ImA h' a im:=
 ⟨⟨s.r.text.stays k fun id hid=>hp id (mem_t hid),s.r.funcs.stays k fun id hid=>hp id (mem_f hid),s.r.tables.stays k fun id hid=>hp id (mem_b hid),s.r.len,s.r.nf,s.r.nt,s.r.fname,s.r.tname⟩,
   s.t.stays Ins.len (by decide) k fun id hid=>hp id (mem_t hid),s.f.stays Fn.len (by decide) k fun id hid=>hp id (mem_f hid),s.b.stays Tab.len (by decide) k fun id hid=>hp id (mem_b hid),s.e,s.no⟩
theorem c23a (hO:On cx) {h:AH} {im gi:Img} {bs:List (List Ins)} {a:IA} (ha:ImA h a im) (hv:VOk (tabsB 0) im) (ht:TidyOf im gi bs) :
 SimCall cx 23 [.agg a.row] h fun r h'=>∃ (g:AH) (z:IA),h' = h ++ g ∧ r = .tup [.agg z.row,VI 0] ∧ ImW (h ++ g) z gi ∧ ImD z ∧ ∀ id ∈ z.ids,h.length ≤ id:=by
 obtain ⟨q,hq⟩:=ha.no
 exact c23u hO ha.e ha.r ha.b hq hv ht
theorem LentO.a {h:AH} {im:Img} {ca va cb vb cd vd:Nat} (hL:LentO h im ca va cb vb cd vd) (h1:im.text.length < 1099511627776) (h2:im.funcs.length < 1099511627776) (h3:im.tables.length < 1099511627776)
 (h4:∀ f ∈ im.funcs,f.name.size < 4611686018427387904) (h5:∀ t ∈ im.tables,t.name.size < 4611686018427387904):ImA h ⟨.sl ca va 0 im.text.length 5,.sl cb vb 0 im.funcs.length 4,.sl cd vd 0 im.tables.length 5,im.entry⟩ im:=by
 have r1:=Rows.cut Ins.len hL.t
 have r2:=Rows.cut Fn.len hL.f
 have r3:=Rows.cut Tab.len hL.b
 exact ⟨⟨r1.sl,r2.sl,r3.sl,h1,h2,h3,h4,h5⟩,r1,r2,r3,rfl,false,rfl⟩
set_option maxRecDepth 100000 in
set_option maxHeartbeats 8000000 in
theorem c27 (hO:On cx) {h:AH} {im gi:Img} {bs:List (List Ins)} {a g:IA} {ca va cb vb cd vd:Nat} (ha:ImA h a im) (hL:LentO h im ca va cb vb cd vd) (hc1:ca ≠ cb) (hc2:ca ≠ cd) (hc3:cb ≠ cd) (hg:ImW h g gi) (hgd:ImD g)
 (hgc:∀ id ∈ g.ids,id ≠ ca ∧ id ≠ cb ∧ id ≠ cd) (hag:∀ id ∈ a.ids,id ∉ g.ids) (hac:∀ id ∈ a.ids,id ≠ ca ∧ id ≠ cb ∧ id ≠ cd) (hv:VOk (tabsB 0) im) (ht:TidyOf im gi bs) :
 SimCall cx 27 [.agg a.row,.agg [.sl ca va 0 im.text.length 5,.sl cb vb 0 im.funcs.length 4,.sl cd vd 0 im.tables.length 5,VI im.entry],.agg g.row] h fun r _=>r = VB true:=by
 obtain ⟨ta,fa,ba,ea⟩:=a
 obtain ⟨tg,fg,bg,eg⟩:=g
 have a1:=ha.t.sl.cell
 have a2:=ha.f.sl.cell
 have a3:=ha.b.sl.cell
 have g1:=(hg.t.rows Ins.len).sl.cell
 have g2:=(hg.f.rows Fn.len).sl.cell
 have g3:=(hg.b.rows Tab.len).sl.cell
 have hla:=hv.lens
 have hlg:=(ht.ok hv).lens
 simp only at a1 a2 a3 g1 g2 g3
 have hge:=hg.e
 simp only at hge
 subst hge
 refine SimCall.by hO.P res27 ?_
 unfold x27 r27
 repeat' first
  | simp (maxSteps:=1000000) only [go_sem,a1,a2,a3,g1,g2,g3]
 refine (c28x hO ((hg.t.rows Ins.len).more _) ((hg.f.rows Fn.len).more _) ((hg.b.rows Tab.len).more _) (by omega) (by omega) (by omega)).mono ?_
 rintro r h' ⟨rfl,rfl⟩
 simp only [cpA,cpO]
 repeat' first
  | simp (maxSteps:=1000000) only [go_sem,a1,a2,a3,g1,g2,g3,IA.row]
 obtain ⟨H1,hH1⟩:∃ H1,H1 = h ++ [AO.cells 0 [ta,fa,ba,VI ea],AO.cells 0 [AV.sl ca va 0 im.text.length 5,AV.sl cb vb 0 im.funcs.length 4,AV.sl cd vd 0 im.tables.length 5,VI im.entry],AO.cells 0 [tg,fg,bg,VI gi.entry],AO.cells 0 [tg,fg,bg,VI gi.entry],
  AO.cells 0 [AV.sl (h.length + 3 + 2) (cpV gi.text.length) 0 gi.text.length 5,AV.sl (h.length + 3 + 3) (cpV gi.funcs.length) 0 gi.funcs.length 4,AV.sl (h.length + 3 + 4) (cpV gi.tables.length) 0 gi.tables.length 5,VI gi.entry],
  AO.cells (cpV gi.text.length) (List.flatMap Ins.row gi.text),AO.cells (cpV gi.funcs.length) (List.flatMap Fn.row gi.funcs),AO.cells (cpV gi.tables.length) (List.flatMap Tab.row gi.tables),
  AO.cells 0 [AV.sl (h.length + 3 + 2) (cpV gi.text.length) 0 gi.text.length 5,AV.sl (h.length + 3 + 3) (cpV gi.funcs.length) 0 gi.funcs.length 4,AV.sl (h.length + 3 + 4) (cpV gi.tables.length) 0 gi.tables.length 5,VI gi.entry]]:=⟨_,rfl⟩
 rw [← hH1]
 obtain ⟨wt,hwt⟩:∃ w,w = AV.sl (h.length + 3 + 2) (cpV gi.text.length) 0 gi.text.length 5:=⟨_,rfl⟩
 obtain ⟨wf,hwf⟩:∃ w,w = AV.sl (h.length + 3 + 3) (cpV gi.funcs.length) 0 gi.funcs.length 4:=⟨_,rfl⟩
 obtain ⟨wb,hwb⟩:∃ w,w = AV.sl (h.length + 3 + 4) (cpV gi.tables.length) 0 gi.tables.length 5:=⟨_,rfl⟩
 have st1:Stays (fun _=>False) h H1:=by rw [hH1];exact Stays.app _ _
 have e0:H1[h.length]? = some (.cells 0 [ta,fa,ba,VI ea]):=by rw [hH1];simp
 have e1:H1[h.length + 1]? = some (.cells 0 [AV.sl ca va 0 im.text.length 5,AV.sl cb vb 0 im.funcs.length 4,AV.sl cd vd 0 im.tables.length 5,VI im.entry]):=by rw [hH1];simp
 have e2:H1[h.length + 2]? = some (.cells 0 [tg,fg,bg,VI gi.entry]):=by rw [hH1];simp
 have e8:H1[h.length + 8]? = some (.cells 0 [wt,wf,wb,VI gi.entry]):=by rw [hH1,hwt,hwf,hwb];simp
 have hl1:H1.length = h.length + 9:=by rw [hH1];simp
 have hW:ImW H1 ⟨wt,wf,wb,gi.entry⟩ gi:=⟨.inr ⟨h.length + 5,_,hwt,by rw [hH1];simp⟩,.inr ⟨h.length + 6,_,hwf,by rw [hH1];simp⟩,.inr ⟨h.length + 7,_,hwb,by rw [hH1];simp⟩,rfl,hg.nt,hg.nf,hg.nb⟩
 have hWi:∀ id ∈ (⟨wt,wf,wb,gi.entry⟩:IA).ids,h.length + 5 ≤ id ∧ id ≤ h.length + 7:=by
  intro id hid
  rcases ids_cases hid with q | q | q
  ·simp only [hwt,AV.at_,Option.some.injEq] at q;omega
  ·simp only [hwf,AV.at_,Option.some.injEq] at q;omega
  ·simp only [hwb,AV.at_,Option.some.injEq] at q;omega
 clear hH1 hwt hwf hwb
 have nf:∀ id:Nat,¬ (fun _:Nat=>False) id:=fun _ h=>h
 have hcA:=(LentO.a hL ha.r.len ha.r.nf ha.r.nt ha.r.fname ha.r.tname).stays st1 fun _ _ h=>h
 have haA:=ha.stays st1 fun _ _ h=>h
 have hgW:=hg.stays st1 fun _ _ h=>h
 refine (c23a hO hcA hv ht).mono ?_
 rintro r h' ⟨q1,⟨tz,fz,bz,ez⟩,rfl,rfl,hzW,hzd,hzi⟩
 have z1:=(hzW.t.rows Ins.len).sl.cell
 have z2:=(hzW.f.rows Fn.len).sl.cell
 have z3:=(hzW.b.rows Tab.len).sl.cell
 have hze:=hzW.e
 simp only at z1 z2 z3 hze
 subst hze
 have stA:∀ G,Stays (fun _=>False) H1 (H1 ++ G):=fun G=>Stays.app _ _
 have r2:∀ G,AH.rd (H1 ++ G) (h.length + 2) 0 = _:=fun G=>rd_of (stays_get (stA G) e2 fun h=>h)
 have r8:∀ G,AH.rd (H1 ++ G) (h.length + 8) 0 = _:=fun G=>rd_of (stays_get (stA G) e8 fun h=>h)
 have sm0:∀ G,Same (H1 ++ (q1 ++ G)) ⟨tz,fz,bz,gi.entry⟩ ⟨wt,wf,wb,gi.entry⟩:=fun G=>by
  rw [← List.append_assoc]
  exact ⟨gi,hzW.s.stays (Stays.app (P:=fun _=>False) _ G) (fun _ _ h=>h),(hW.s.stays (Stays.app (P:=fun _=>False) _ q1) fun _ _ h=>h).stays (Stays.app (P:=fun _=>False) _ G) (fun _ _ h=>h)⟩
 repeat' first
  | ((with_reducible show SemL _ _ _ _);refine SemL.of ?_)
  | ((with_reducible show SimCall _ 16 _ _ _);refine (c16 hO _ _).mono ?_;rintro r h' ⟨rfl,rfl⟩)
  | ((with_reducible show SimCall _ 25 _ _ _);refine (c25 hO (sm0 _)).mono ?_;rintro r h' ⟨rfl,rfl⟩)
  | simp (maxSteps:=1000000) only [go_sem,z1,z2,z3,IA.row,r2,r8]
 obtain ⟨H2,hH2⟩:∃ H,H = H1 ++ (q1 ++ [AO.cells 0 [tz,fz,bz,VI gi.entry]]):=⟨_,rfl⟩
 rw [← hH2]
 have st2:Stays (fun _=>False) H1 H2:=by rw [hH2];exact Stays.app _ _
 have st2b:Stays (fun _=>False) (H1 ++ q1) H2:=by rw [hH2,← List.append_assoc];exact Stays.app _ _
 obtain ⟨zb,hzb⟩:∃ n,n = H1.length + q1.length:=⟨_,rfl⟩
 rw [← hzb]
 have lz:H1.length ≤ zb:=by omega
 have hl2:H2.length = zb + 1:=by rw [hH2,hzb];simp;omega
 have zl:∀ id ∈ (⟨tz,fz,bz,gi.entry⟩:IA).ids,id < zb:=fun id hid=>by have:=hzW.s.lt hid;rw [hzb];simpa using this
 have f0:=stays_get st2 e0 fun h=>h
 have f1:=stays_get st2 e1 fun h=>h
 have f2:=stays_get st2 e2 fun h=>h
 have f8:=stays_get st2 e8 fun h=>h
 have fz':H2[zb]? = some (.cells 0 [tz,fz,bz,VI gi.entry]):=by rw [hH2,hzb];simp
 have hgW2:=hgW.stays st2 fun _ _ h=>h
 have hW2:=hW.stays st2 fun _ _ h=>h
 have haA2:=haA.stays st2 fun _ _ h=>h
 have hzW2:=hzW.stays st2b fun _ _ h=>h
 have tl:=fun j=>cells_len (f:=Ins.row) (sz:=5) Ins.len (im.text ++ (List.range j).map mT)
 have fl:=fun j=>cells_len (f:=Fn.row) (sz:=4) Fn.len (im.funcs ++ (List.range j).map mF)
 have bl:=fun j=>cells_len (f:=Tab.row) (sz:=5) Tab.len (im.tables ++ (List.range j).map mB)
 simp only [List.length_append,List.length_map,List.length_range] at tl fl bl
 have w1:Wr 5 H2 (.sl ca va 0 im.text.length 5) im.text.length:=.inr ⟨ca,va,_,rfl,stays_get st2 (stays_get st1 hL.t fun h=>h) fun h=>h,by rw [tl];exact Nat.mul_le_mul_right _ (by omega)⟩
 have w2:Wr 4 H2 (.sl cb vb 0 im.funcs.length 4) im.funcs.length:=.inr ⟨cb,vb,_,rfl,stays_get st2 (stays_get st1 hL.f fun h=>h) fun h=>h,by rw [fl];exact Nat.mul_le_mul_right _ (by omega)⟩
 have w3:Wr 5 H2 (.sl cd vd 0 im.tables.length 5) im.tables.length:=.inr ⟨cd,vd,_,rfl,stays_get st2 (stays_get st1 hL.b fun h=>h) fun h=>h,by rw [bl];exact Nat.mul_le_mul_right _ (by omega)⟩
 have lL:ca < h.length ∧ cb < h.length ∧ cd < h.length:=⟨(List.getElem?_eq_some_iff.1 hL.t).1,(List.getElem?_eq_some_iff.1 hL.f).1,(List.getElem?_eq_some_iff.1 hL.b).1⟩
 have lG:∀ id ∈ (⟨tg,fg,bg,gi.entry⟩:IA).ids,id < h.length:=fun id hid=>hg.s.lt hid
 have lA:∀ id ∈ (⟨ta,fa,ba,ea⟩:IA).ids,id < h.length:=fun id hid=>ha.s.lt hid
 clear hH2 hgW hW haA hzW hcA e0 e1 e2 e8 r2 r8 sm0 stA st2 st2b tl fl bl hL hg
 refine SimLoop.inv [3,0,0,1,0,1] (fun k s=>∃ (i:Nat) (X:AH),k = im.text.length - i ∧ i ≤ im.text.length ∧ Wr 5 X (.sl ca va 0 im.text.length 5) im.text.length ∧ Stays (fun id=>id = ca) H2 X ∧
  s = ⟨[.un,.un,.un,.ptr h.length 0 0,.ptr (h.length + 1) 0 0,.ptr (h.length + 2) 0 0,.un,.ptr (h.length + 8) 0 0,.ptr zb 0 0,.un,VI i,.un,.un,.un,.un,.un,.un,.un,.un,.un,.un,.un,.un,.un,.un,.un,.un,.un,.un,.un,.un,.un,.un,.un,.un,.un,.un,.un,.un,.un,.un,.un,.un,.un,.un,.un,.un,.un,.un,.un,.un,.un,.un,.un,.un,.un,.un,.un,.un,.un,.un,.un,.un,.un,.un,.un,.un,.un,.un,.un,.un,.un,.un,.un,.un,.un,.un,.un,.un,.un,.un,.un,.un,.un,.un,.un,.un,.un,.un,.un,.un,.un,.un,.un,.un,.un,.un,.un,.un,.un,.un,.un,.un,.un,.un,.un,.un,.un,.un,.un,.un,.un,.un,.un,.un,.un,.un,.un,.un,.un,.un,.un,.un,.un,.un,.un,.un,.un,.un,.un,.un,.un,.un,.un,.un,.un,.un,.un,.un,.un,.un,.un,.un,.un,.un,.un,.un,.un,.un,.un,.un,.un,.un,.un,.un,.un,.un,.un,.un,.un,.un,.un,.un,.un,.un,.un,.un,.un,.un,.un,.un,.un,.un],X⟩) ?_ im.text.length ?_
 rotate_left
 ·exact ⟨0,H2,rfl,Nat.zero_le _,w1,Stays.refl _,by simp only [go_sem] <;> rfl⟩
 rintro k s ⟨i,X,rfl,hi,hwX,hsX,rfl⟩
 have x1:=rd_of (stays_get hsX f1 fun e=>by omega)
 by_cases hlt:i < im.text.length
 ·have hlt':((i:Int) < im.text.length):=by omega
  have hw:=wrap_succ hlt (by omega)
  obtain ⟨q,X',p1,p2,p3,p4⟩:=hwX.put hlt [VI 400,VI 0,VI 0,VI 0,VI 0] rfl (by simp [AV.cell,Value.oneCell'])
  repeat' first
   | simp (maxSteps:=1000000) only [go_sem,x1,hwX.len,hlt',hw,p1,p2]
  exact ⟨im.text.length - (i + 1),by omega,i + 1,X',rfl,by omega,p3,hsX.trans (p4.mono fun id _ e=>by cases e;rfl),rfl⟩
 have hlt':¬ ((i:Int) < im.text.length):=by omega
 repeat' first
  | simp (maxSteps:=1000000) only [go_sem,x1,hwX.len,hlt']
 clear x1 hwX hi hlt hlt' w1
 have w2:=w2.stays hsX fun id e=>by cases e;exact fun q=>hc1 q.symm
 have w3:=w3.stays hsX fun id e=>by cases e;exact fun q=>hc2 q.symm
 have f1:=stays_get hsX f1 (fun e=>by omega)
 have sX:Stays (fun id=>id = ca ∨ id = cb ∨ id = cd) H2 X:=hsX.mono fun _ _ e=>.inl e
 clear hsX
 generalize X = X1 at *
 refine SimLoop.inv [3,0,0,1,0,2] (fun k s=>∃ (i:Nat) (X:AH),k = im.funcs.length - i ∧ i ≤ im.funcs.length ∧ Wr 4 X (.sl cb vb 0 im.funcs.length 4) im.funcs.length ∧ Stays (fun id=>id = cb) X1 X ∧
  s = ⟨[.un,.un,.un,.ptr h.length 0 0,.ptr (h.length + 1) 0 0,.ptr (h.length + 2) 0 0,.un,.ptr (h.length + 8) 0 0,.ptr zb 0 0,.un,.un,VI i,.un,.un,.un,.un,.un,.un,.un,.un,.un,.un,.un,.un,.un,.un,.un,.un,.un,.un,.un,.un,.un,.un,.un,.un,.un,.un,.un,.un,.un,.un,.un,.un,.un,.un,.un,.un,.un,.un,.un,.un,.un,.un,.un,.un,.un,.un,.un,.un,.un,.un,.un,.un,.un,.un,.un,.un,.un,.un,.un,.un,.un,.un,.un,.un,.un,.un,.un,.un,.un,.un,.un,.un,.un,.un,.un,.un,.un,.un,.un,.un,.un,.un,.un,.un,.un,.un,.un,.un,.un,.un,.un,.un,.un,.un,.un,.un,.un,.un,.un,.un,.un,.un,.un,.un,.un,.un,.un,.un,.un,.un,.un,.un,.un,.un,.un,.un,.un,.un,.un,.un,.un,.un,.un,.un,.un,.un,.un,.un,.un,.un,.un,.un,.un,.un,.un,.un,.un,.un,.un,.un,.un,.un,.un,.un,.un,.un,.un,.un,.un,.un,.un,.un,.un,.un,.un,.un,.un,.un,.un,.un,.un],X⟩) ?_ im.funcs.length ?_
 rotate_left
 ·exact ⟨0,X1,rfl,Nat.zero_le _,w2,Stays.refl _,by simp only [go_sem] <;> rfl⟩
 rintro k s ⟨i,X,rfl,hi,hwX,hsX,rfl⟩
 have x1:=rd_of (stays_get hsX f1 fun e=>by omega)
 by_cases hlt:i < im.funcs.length
 ·have hlt':((i:Int) < im.funcs.length):=by omega
  have hw:=wrap_succ hlt (by omega)
  obtain ⟨q,q',X',p1,p2,pp,p3,p4⟩:=hwX.put1 hlt (k:=0) (by decide) (.string ⟨#[109,105,110,101]⟩) rfl
  repeat' first
   | simp (maxSteps:=1000000) only [go_sem,x1,hwX.len,hlt',hw,p1,p2,pp]
  exact ⟨im.funcs.length - (i + 1),by omega,i + 1,X',rfl,by omega,p3,hsX.trans (p4.mono fun id _ e=>by cases e;rfl),rfl⟩
 have hlt':¬ ((i:Int) < im.funcs.length):=by omega
 repeat' first
  | simp (maxSteps:=1000000) only [go_sem,x1,hwX.len,hlt']
 clear x1 hwX hi hlt hlt' w2
 have w3:=w3.stays hsX fun id e=>by cases e;exact fun q=>hc3 q.symm
 have f1:=stays_get hsX f1 (fun e=>by omega)
 have sX:=sX.trans (hsX.mono fun _ _ e=>.inr (.inl e))
 clear hsX
 generalize X = X2 at *
 refine SimLoop.inv [3,0,0,1,0,3] (fun k s=>∃ (i:Nat) (X:AH),k = im.tables.length - i ∧ i ≤ im.tables.length ∧ Wr 5 X (.sl cd vd 0 im.tables.length 5) im.tables.length ∧ Stays (fun id=>id = cd) X2 X ∧
  s = ⟨[.un,.un,.un,.ptr h.length 0 0,.ptr (h.length + 1) 0 0,.ptr (h.length + 2) 0 0,.un,.ptr (h.length + 8) 0 0,.ptr zb 0 0,.un,.un,.un,VI i,.un,.un,.un,.un,.un,.un,.un,.un,.un,.un,.un,.un,.un,.un,.un,.un,.un,.un,.un,.un,.un,.un,.un,.un,.un,.un,.un,.un,.un,.un,.un,.un,.un,.un,.un,.un,.un,.un,.un,.un,.un,.un,.un,.un,.un,.un,.un,.un,.un,.un,.un,.un,.un,.un,.un,.un,.un,.un,.un,.un,.un,.un,.un,.un,.un,.un,.un,.un,.un,.un,.un,.un,.un,.un,.un,.un,.un,.un,.un,.un,.un,.un,.un,.un,.un,.un,.un,.un,.un,.un,.un,.un,.un,.un,.un,.un,.un,.un,.un,.un,.un,.un,.un,.un,.un,.un,.un,.un,.un,.un,.un,.un,.un,.un,.un,.un,.un,.un,.un,.un,.un,.un,.un,.un,.un,.un,.un,.un,.un,.un,.un,.un,.un,.un,.un,.un,.un,.un,.un,.un,.un,.un,.un,.un,.un,.un,.un,.un,.un,.un,.un,.un,.un,.un,.un,.un,.un,.un,.un,.un],X⟩) ?_ im.tables.length ?_
 rotate_left
 ·exact ⟨0,X2,rfl,Nat.zero_le _,w3,Stays.refl _,by simp only [go_sem] <;> rfl⟩
 rintro k s ⟨i,X,rfl,hi,hwX,hsX,rfl⟩
 have x1:=rd_of (stays_get hsX f1 fun e=>by omega)
 by_cases hlt:i < im.tables.length
 ·have hlt':((i:Int) < im.tables.length):=by omega
  have hw:=wrap_succ hlt (by omega)
  obtain ⟨q,q',X',p1,p2,pp,p3,p4⟩:=hwX.put1 hlt (k:=0) (by decide) (.string ⟨#[109,105,110,101]⟩) rfl
  repeat' first
   | simp (maxSteps:=1000000) only [go_sem,x1,hwX.len,hlt',hw,p1,p2,pp]
  exact ⟨im.tables.length - (i + 1),by omega,i + 1,X',rfl,by omega,p3,hsX.trans (p4.mono fun id _ e=>by cases e;rfl),rfl⟩
 have hlt':¬ ((i:Int) < im.tables.length):=by omega
 have sX:=sX.trans (hsX.mono fun _ _ e=>.inr (.inr e))
 have hcz:∀ id ∈ (⟨tz,fz,bz,gi.entry⟩:IA).ids,¬ (id = ca ∨ id = cb ∨ id = cd):=fun id hid=>by have:=hzi id hid;omega
 have hcg:∀ id ∈ (⟨tg,fg,bg,gi.entry⟩:IA).ids,¬ (id = ca ∨ id = cb ∨ id = cd):=fun id hid=>by have:=hgc id hid;omega
 have hcw:∀ id ∈ (⟨wt,wf,wb,gi.entry⟩:IA).ids,¬ (id = ca ∨ id = cb ∨ id = cd):=fun id hid=>by have:=hWi id hid;omega
 have hca:∀ id ∈ (⟨ta,fa,ba,ea⟩:IA).ids,¬ (id = ca ∨ id = cb ∨ id = cd):=fun id hid=>by have:=hac id hid;omega
 have hgW3:=hgW2.stays sX hcg
 have hzW3:=hzW2.stays sX hcz
 have hW3:=hW2.stays sX hcw
 have haA3:=haA2.stays sX hca
 have f0:=stays_get sX f0 (fun e=>by omega)
 have f2:=stays_get sX f2 (fun e=>by omega)
 have f8:=stays_get sX f8 (fun e=>by omega)
 have fz':=stays_get sX fz' (fun e=>by omega)
 have x2:=rd_of f2
 have x8:=rd_of f8
 have xz:=rd_of fz'
 have smg:Same X ⟨tg,fg,bg,gi.entry⟩ ⟨wt,wf,wb,gi.entry⟩:=⟨gi,hgW3.s,hW3.s⟩
 have smz:Same X ⟨tz,fz,bz,gi.entry⟩ ⟨wt,wf,wb,gi.entry⟩:=⟨gi,hzW3.s,hW3.s⟩
 repeat' first
  | ((with_reducible show SemL _ _ _ _);refine SemL.of ?_)
  | ((with_reducible show SimCall _ 25 _ _ _);refine (c25 hO smg).mono ?_;rintro r h' ⟨rfl,rfl⟩)
  | ((with_reducible show SimCall _ 25 _ _ _);refine (c25 hO smz).mono ?_;rintro r h' ⟨rfl,rfl⟩)
  | simp (maxSteps:=1000000) only [go_sem,x1,x2,x8,xz,IA.row,hwX.len,hlt']
 rename AH=>X3
 have hlX:H2.length ≤ X3.length:=sX.len
 clear x1 hwX hi hlt hlt' w3 hsX f1 sX hgW2 hzW2 hW2 haA2 smg smz x2 x8 xz hcz hcg hcw hca hgc hac hc1 hc2 hc3 lL
 refine SimLoop.inv [3,1,1,0,4] (fun k s=>∃ (j:Nat) (X:AH) (ys:List Ins),k = gi.text.length - j ∧ j ≤ gi.text.length ∧ ys.length = gi.text.length ∧ WSl Ins.row 5 X tg ys ∧ Stays (fun id=>tg.at_ = some id) X3 X ∧
  s = ⟨[.un,.un,.un,.ptr h.length 0 0,.un,.ptr (h.length + 2) 0 0,.un,.ptr (h.length + 8) 0 0,.ptr zb 0 0,.un,.un,.un,.un,VI j,.un,.un,.un,.un,.un,.un,.un,.un,.un,.un,.un,.un,.un,.un,.un,.un,.un,.un,.un,.un,.un,.un,.un,.un,.un,.un,.un,.un,.un,.un,.un,.un,.un,.un,.un,.un,.un,.un,.un,.un,.un,.un,.un,.un,.un,.un,.un,.un,.un,.un,.un,.un,.un,.un,.un,.un,.un,.un,.un,.un,.un,.un,.un,.un,.un,.un,.un,.un,.un,.un,.un,.un,.un,.un,.un,.un,.un,.un,.un,.un,.un,.un,.un,.un,.un,.un,.un,.un,.un,.un,.un,.un,.un,.un,.un,.un,.un,.un,.un,.un,.un,.un,.un,.un,.un,.un,.un,.un,.un,.un,.un,.un,.un,.un,.un,.un,.un,.un,.un,.un,.un,.un,.un,.un,.un,.un,.un,.un,.un,.un,.un,.un,.un,.un,.un,.un,.un,.un,.un,.un,.un,.un,.un,.un,.un,.un,.un,.un,.un,.un,.un,.un,.un,.un,.un,.un,.un,.un,.un],X⟩) ?_ gi.text.length ?_
 rotate_left
 ·exact ⟨0,X3,gi.text,rfl,Nat.zero_le _,rfl,hgW3.t,Stays.refl _,by simp only [go_sem] <;> rfl⟩
 rintro k s ⟨j,X,ys,rfl,hj,hys,hwX,hsX,rfl⟩
 have x2:=rd_of (stays_get hsX f2 fun e=>by have:=lG _ (mem_t (a:=⟨tg,fg,bg,gi.entry⟩) e);omega)
 have hlX:=(hwX.rows Ins.len).sl.len
 rw [hys] at hlX
 by_cases hlt:j < gi.text.length
 ·have hlt':((j:Int) < gi.text.length):=by omega
  have hw:=wrap_succ hlt (by omega)
  obtain ⟨e,X',p1,p2,p3,p4⟩:=hwX.put Ins.len (j:=j) (by omega) ⟨401,0,0,0,0⟩ (by simp [Ins.row,AV.cell,Value.oneCell'])
  simp only [Ins.row] at p2
  repeat' first
   | simp (maxSteps:=1000000) only [go_sem,x2,hlX,hlt',hw,p1,p2]
  exact ⟨gi.text.length - (j + 1),by omega,j + 1,X',ys.set j ⟨401,0,0,0,0⟩,rfl,by omega,by simp [hys],p3,hsX.trans p4,rfl⟩
 have hlt':¬ ((j:Int) < gi.text.length):=by omega
 repeat' first
  | simp (maxSteps:=1000000) only [go_sem,x2,hlX,hlt']
 have gW4:ImW X ⟨tg,fg,bg,gi.entry⟩ ⟨ys,gi.funcs,gi.tables,gi.entry⟩:=⟨hwX,hgW3.f.stays hsX fun id hid e=>hgd.tf id e hid,hgW3.b.stays hsX fun id hid e=>hgd.tb id e hid,rfl,by simp only;omega,by simp only;omega,by simp only;omega⟩
 have f2':=stays_get hsX f2 fun e=>by have:=lG _ (mem_t (a:=⟨tg,fg,bg,gi.entry⟩) e);omega
 have sG:Stays (fun id=>id ∈ (⟨tg,fg,bg,gi.entry⟩:IA).ids) X3 X:=hsX.mono fun id _ e=>mem_t e
 clear x2 hlX hlt hlt' hj hwX hsX f2
 generalize X = X4 at *
 generalize ys = y1 at *
 have f2:=f2'
 clear f2'
 refine SimLoop.inv [3,1,1,0,5] (fun k s=>∃ (j:Nat) (X:AH) (ys:List Fn),k = gi.funcs.length - j ∧ j ≤ gi.funcs.length ∧ ys.length = gi.funcs.length ∧ WSl Fn.row 4 X fg ys ∧ Stays (fun id=>fg.at_ = some id) X4 X ∧
  s = ⟨[.un,.un,.un,.ptr h.length 0 0,.un,.ptr (h.length + 2) 0 0,.un,.ptr (h.length + 8) 0 0,.ptr zb 0 0,.un,.un,.un,.un,.un,VI j,.un,.un,.un,.un,.un,.un,.un,.un,.un,.un,.un,.un,.un,.un,.un,.un,.un,.un,.un,.un,.un,.un,.un,.un,.un,.un,.un,.un,.un,.un,.un,.un,.un,.un,.un,.un,.un,.un,.un,.un,.un,.un,.un,.un,.un,.un,.un,.un,.un,.un,.un,.un,.un,.un,.un,.un,.un,.un,.un,.un,.un,.un,.un,.un,.un,.un,.un,.un,.un,.un,.un,.un,.un,.un,.un,.un,.un,.un,.un,.un,.un,.un,.un,.un,.un,.un,.un,.un,.un,.un,.un,.un,.un,.un,.un,.un,.un,.un,.un,.un,.un,.un,.un,.un,.un,.un,.un,.un,.un,.un,.un,.un,.un,.un,.un,.un,.un,.un,.un,.un,.un,.un,.un,.un,.un,.un,.un,.un,.un,.un,.un,.un,.un,.un,.un,.un,.un,.un,.un,.un,.un,.un,.un,.un,.un,.un,.un,.un,.un,.un,.un,.un,.un,.un,.un,.un,.un,.un],X⟩) ?_ gi.funcs.length ?_
 rotate_left
 ·exact ⟨0,X4,gi.funcs,rfl,Nat.zero_le _,rfl,gW4.f,Stays.refl _,by simp only [go_sem] <;> rfl⟩
 rintro k s ⟨j,X,ys,rfl,hj,hys,hwX,hsX,rfl⟩
 have x2:=rd_of (stays_get hsX f2 fun e=>by have:=lG _ (mem_f (a:=⟨tg,fg,bg,gi.entry⟩) e);omega)
 have hlX:=(hwX.rows Fn.len).sl.len
 rw [hys] at hlX
 by_cases hlt:j < gi.funcs.length
 ·have hlt':((j:Int) < gi.funcs.length):=by omega
  have hw:=wrap_succ hlt (by omega)
  obtain ⟨e,X',p1,p2,p3,p4⟩:=hwX.put Fn.len (j:=j) (by omega) ⟨⟨#[121,111,117,114,115]⟩,0,0,0⟩ (by simp [Fn.row,AV.cell,Value.oneCell'])
  simp only [Fn.row] at p2
  repeat' first
   | simp (maxSteps:=1000000) only [go_sem,x2,hlX,hlt',hw,p1,p2]
  exact ⟨gi.funcs.length - (j + 1),by omega,j + 1,X',ys.set j ⟨⟨#[121,111,117,114,115]⟩,0,0,0⟩,rfl,by omega,by simp [hys],p3,hsX.trans p4,rfl⟩
 have hlt':¬ ((j:Int) < gi.funcs.length):=by omega
 repeat' first
  | simp (maxSteps:=1000000) only [go_sem,x2,hlX,hlt']
 have gW5:ImW X ⟨tg,fg,bg,gi.entry⟩ ⟨y1,ys,gi.tables,gi.entry⟩:=⟨gW4.t.stays hsX fun id hid e=>hgd.tf id hid e,hwX,gW4.b.stays hsX fun id hid e=>hgd.fb id e hid,rfl,gW4.nt,by simp only;omega,gW4.nb⟩
 have f2':=stays_get hsX f2 fun e=>by have:=lG _ (mem_f (a:=⟨tg,fg,bg,gi.entry⟩) e);omega
 have sG:=sG.trans (hsX.mono fun id _ e=>mem_f e)
 clear x2 hlX hlt hlt' hj hwX hsX f2 gW4
 generalize X = X5 at *
 generalize ys = y2 at *
 have f2:=f2'
 clear f2'
 refine SimLoop.inv [3,1,1,0,6] (fun k s=>∃ (j:Nat) (X:AH) (ys:List Tab),k = gi.tables.length - j ∧ j ≤ gi.tables.length ∧ ys.length = gi.tables.length ∧ WSl Tab.row 5 X bg ys ∧ Stays (fun id=>bg.at_ = some id) X5 X ∧
  s = ⟨[.un,.un,.un,.ptr h.length 0 0,.un,.ptr (h.length + 2) 0 0,.un,.ptr (h.length + 8) 0 0,.ptr zb 0 0,.un,.un,.un,.un,.un,.un,VI j,.un,.un,.un,.un,.un,.un,.un,.un,.un,.un,.un,.un,.un,.un,.un,.un,.un,.un,.un,.un,.un,.un,.un,.un,.un,.un,.un,.un,.un,.un,.un,.un,.un,.un,.un,.un,.un,.un,.un,.un,.un,.un,.un,.un,.un,.un,.un,.un,.un,.un,.un,.un,.un,.un,.un,.un,.un,.un,.un,.un,.un,.un,.un,.un,.un,.un,.un,.un,.un,.un,.un,.un,.un,.un,.un,.un,.un,.un,.un,.un,.un,.un,.un,.un,.un,.un,.un,.un,.un,.un,.un,.un,.un,.un,.un,.un,.un,.un,.un,.un,.un,.un,.un,.un,.un,.un,.un,.un,.un,.un,.un,.un,.un,.un,.un,.un,.un,.un,.un,.un,.un,.un,.un,.un,.un,.un,.un,.un,.un,.un,.un,.un,.un,.un,.un,.un,.un,.un,.un,.un,.un,.un,.un,.un,.un,.un,.un,.un,.un,.un,.un,.un,.un,.un,.un,.un,.un],X⟩) ?_ gi.tables.length ?_
 rotate_left
 ·exact ⟨0,X5,gi.tables,rfl,Nat.zero_le _,rfl,gW5.b,Stays.refl _,by simp only [go_sem] <;> rfl⟩
 rintro k s ⟨j,X,ys,rfl,hj,hys,hwX,hsX,rfl⟩
 have x2:=rd_of (stays_get hsX f2 fun e=>by have:=lG _ (mem_b (a:=⟨tg,fg,bg,gi.entry⟩) e);omega)
 have hlX:=(hwX.rows Tab.len).sl.len
 rw [hys] at hlX
 by_cases hlt:j < gi.tables.length
 ·have hlt':((j:Int) < gi.tables.length):=by omega
  have hw:=wrap_succ hlt (by omega)
  obtain ⟨e,X',p1,p2,p3,p4⟩:=hwX.put Tab.len (j:=j) (by omega) ⟨⟨#[121,111,117,114,115]⟩,0,0,0,0⟩ (by simp [Tab.row,AV.cell,Value.oneCell'])
  simp only [Tab.row] at p2
  repeat' first
   | simp (maxSteps:=1000000) only [go_sem,x2,hlX,hlt',hw,p1,p2]
  exact ⟨gi.tables.length - (j + 1),by omega,j + 1,X',ys.set j ⟨⟨#[121,111,117,114,115]⟩,0,0,0,0⟩,rfl,by omega,by simp [hys],p3,hsX.trans p4,rfl⟩
 have hlt':¬ ((j:Int) < gi.tables.length):=by omega
 have gW6:ImW X ⟨tg,fg,bg,gi.entry⟩ ⟨y1,y2,ys,gi.entry⟩:=⟨gW5.t.stays hsX fun id hid e=>hgd.tb id hid e,gW5.f.stays hsX fun id hid e=>hgd.fb id hid e,hwX,rfl,gW5.nt,gW5.nf,by simp only;omega⟩
 have f2':=stays_get hsX f2 fun e=>by have:=lG _ (mem_b (a:=⟨tg,fg,bg,gi.entry⟩) e);omega
 have sG:=sG.trans (hsX.mono fun id _ e=>mem_b e)
 have hAg:∀ id ∈ (⟨ta,fa,ba,ea⟩:IA).ids,id ∉ (⟨tg,fg,bg,gi.entry⟩:IA).ids:=hag
 have hZg:∀ id ∈ (⟨tz,fz,bz,gi.entry⟩:IA).ids,id ∉ (⟨tg,fg,bg,gi.entry⟩:IA).ids:=fun id hid e=>by have:=hzi id hid;have:=lG id e;omega
 have hWg:∀ id ∈ (⟨wt,wf,wb,gi.entry⟩:IA).ids,id ∉ (⟨tg,fg,bg,gi.entry⟩:IA).ids:=fun id hid e=>by have:=hWi id hid;have:=lG id e;omega
 have haA6:=haA3.stays sG hAg
 have hzW6:=hzW3.stays sG hZg
 have hW6:=hW3.stays sG hWg
 have f0:=stays_get sG f0 (fun e=>by have:=lG _ e;omega)
 have f8:=stays_get sG f8 (fun e=>by have:=lG _ e;omega)
 have fz':=stays_get sG fz' (fun e=>by have:=lG _ e;omega)
 have x0:=rd_of f0
 repeat' first
  | simp (maxSteps:=1000000) only [go_sem,x2,hlX,hlt',x0]
 have hlX6:X3.length ≤ X.length:=sG.len
 clear x2 hlX hlt hlt' hj hwX hsX f2 gW5 haA3 hzW3 hW3 hgW3 sG x0
 generalize X = X6 at *
 generalize ys = y3 at *
 have f2:=f2'
 clear f2'
 refine (c23a hO haA6 hv ht).mono ?_
 rintro r h' ⟨q2,⟨tt,ft,bt,et⟩,rfl,rfl,htW,htd,hti⟩
 have u1:=(htW.t.rows Ins.len).sl.cell
 have u2:=(htW.f.rows Fn.len).sl.cell
 have u3:=(htW.b.rows Tab.len).sl.cell
 have hte:=htW.e
 simp only at u1 u2 u3 hte
 subst hte
 have stA:∀ G,Stays (fun _=>False) X6 (X6 ++ G):=fun G=>Stays.app _ _
 have r8:∀ G,AH.rd (X6 ++ G) (h.length + 8) 0 = _:=fun G=>rd_of (stays_get (stA G) f8 fun h=>h)
 have rz:∀ G,AH.rd (X6 ++ G) zb 0 = _:=fun G=>rd_of (stays_get (stA G) fz' fun h=>h)
 have r2:∀ G,AH.rd (X6 ++ G) (h.length + 2) 0 = _:=fun G=>rd_of (stays_get (stA G) f2 fun h=>h)
 have smz:∀ G,Same (X6 ++ G) ⟨tz,fz,bz,gi.entry⟩ ⟨wt,wf,wb,gi.entry⟩:=fun G=>⟨gi,hzW6.s.stays (stA G) fun _ _ h=>h,hW6.s.stays (stA G) fun _ _ h=>h⟩
 have smt:∀ G,Same (X6 ++ (q2 ++ G)) ⟨tt,ft,bt,gi.entry⟩ ⟨wt,wf,wb,gi.entry⟩:=fun G=>by
  refine ⟨gi,?_,hW6.s.stays (stA _) fun _ _ h=>h⟩
  rw [← List.append_assoc]
  exact htW.s.stays (Stays.app (P:=fun _=>False) _ G) (fun _ _ h=>h)
 have wl:=(hW6.t.rows Ins.len).sl.len
 simp only at wl
 by_cases h4000:(4000:Int) < gi.text.length
 ·skip
  repeat' first
   | ((with_reducible show SemL _ _ _ _);refine SemL.of ?_)
   | ((with_reducible show SimCall _ 16 _ _ _);refine (c16 hO _ _).mono ?_;rintro r h' ⟨rfl,rfl⟩)
   | ((with_reducible show SimCall _ 25 _ _ _);refine (c25 hO (smz _)).mono ?_;rintro r h' ⟨rfl,rfl⟩)
   | ((with_reducible show SimCall _ 25 _ _ _);refine (c25 hO (smt _)).mono ?_;rintro r h' ⟨rfl,rfl⟩)
   | simp (maxSteps:=1000000) only [go_sem,u1,u2,u3,IA.row,r8,rz,wl,h4000]
 repeat' first
  | ((with_reducible show SemL _ _ _ _);refine SemL.of ?_)
  | ((with_reducible show SimCall _ 16 _ _ _);refine (c16 hO _ _).mono ?_;rintro r h' ⟨rfl,rfl⟩)
  | ((with_reducible show SimCall _ 25 _ _ _);refine (c25 hO (smz _)).mono ?_;rintro r h' ⟨rfl,rfl⟩)
  | ((with_reducible show SimCall _ 25 _ _ _);refine (c25 hO (smt _)).mono ?_;rintro r h' ⟨rfl,rfl⟩)
  | simp (maxSteps:=1000000) only [go_sem,u1,u2,u3,IA.row,r2,r8,rz,wl,h4000]
 obtain ⟨H3,hH3⟩:∃ H,H = X6 ++ (q2 ++ [AO.cells 0 [tt,ft,bt,VI gi.entry],AO.cells 0 [VI 0,VI 0,VB false,nilS,nilS,nilS,nilS]]):=⟨_,rfl⟩
 rw [← hH3]
 obtain ⟨tb,htb⟩:∃ n,n = X6.length + q2.length:=⟨_,rfl⟩
 have hS1:X6.length + (q2.length + 1) = tb + 1:=by omega
 rw [hS1,← htb]
 have st3:Stays (fun _=>False) X6 H3:=by rw [hH3];exact Stays.app _ _
 have st3b:Stays (fun _=>False) (X6 ++ q2) H3:=by rw [hH3,← List.append_assoc];exact Stays.app _ _
 have fS:H3[tb + 1]? = some (.cells 0 [VI 0,VI 0,VB false,nilS,nilS,nilS,nilS]):=by rw [hH3,← hS1];simp
 have ft':H3[tb]? = some (.cells 0 [tt,ft,bt,VI gi.entry]):=by rw [hH3,htb];simp
 have hl3:H3.length = tb + 2:=by rw [hH3,htb];simp;omega
 have ltt:∀ id ∈ (⟨tt,ft,bt,gi.entry⟩:IA).ids,id < tb:=fun id hid=>by have:=htW.s.lt hid;rw [htb];simpa using this
 have ltb:X6.length ≤ tb:=by omega
 have f2:=stays_get st3 f2 fun h=>h
 have f0:=stays_get st3 f0 fun h=>h
 have f8:=stays_get st3 f8 fun h=>h
 have fz':=stays_get st3 fz' fun h=>h
 have haA7:=haA6.stays st3 fun _ _ h=>h
 have hzW7:=hzW6.stays st3 fun _ _ h=>h
 have hW7:=hW6.stays st3 fun _ _ h=>h
 have hgW7:=gW6.stays st3 fun _ _ h=>h
 have htW7:=htW.stays st3b fun _ _ h=>h
 clear hH3 st3 st3b htb hS1 hzW6 hW6 gW6 htW haA6 r8 rz r2 smz smt stA
 have k0:=Sf.new fS (Nat.le_refl _)
 refine (c73a hO k0 hgW7.s (fun id hid=>by have:=lG id hid;omega) (by omega) (by decide) (by decide) (by decide) (by decide)).mono ?_
 rintro r Y1 ⟨d1,p1,v1,k1,sy1⟩
 have rz:=rd_of (stays_get sy1 fz' fun h=>by omega)
 repeat' first
  | simp (maxSteps:=1000000) only [go_sem,rz]
 refine (c73a hO k1 (hzW7.s.stays sy1 fun id hid e=>by have:=zl id hid;omega) (fun id hid=>by have:=zl id hid;omega) (by have:=sy1.len;omega) (by simp) (by decide) (by decide) (by simp only;omega)).mono ?_
 rintro r Y2 ⟨d2,p2,v2,k2,sy2⟩
 have sy2:=sy1.trans sy2
 have rt:=rd_of (stays_get sy2 ft' fun h=>by omega)
 repeat' first
  | simp (maxSteps:=1000000) only [go_sem,rt]
 have hgY:=hgW7.stays sy2 fun id hid e=>by have:=lG id hid;omega
 have hzY:=hzW7.stays sy2 fun id hid e=>by have:=zl id hid;omega
 have htY:=htW7.stays sy2 fun id hid e=>by have:=ltt id hid;omega
 have hgt:∀ id ∈ (⟨tg,fg,bg,gi.entry⟩:IA).ids,id ∉ (⟨tt,ft,bt,gi.entry⟩:IA).ids:=fun id hid e=>by have:=lG id hid;have:=hti id e;omega
 have hzt:∀ id ∈ (⟨tz,fz,bz,gi.entry⟩:IA).ids,id ∉ (⟨tt,ft,bt,gi.entry⟩:IA).ids:=fun id hid e=>by have:=zl id hid;have:=hti id e;omega
 have hgz:∀ id ∈ (⟨tg,fg,bg,gi.entry⟩:IA).ids,id ∉ (⟨tz,fz,bz,gi.entry⟩:IA).ids:=fun id hid e=>by have:=lG id hid;have:=hzi id e;omega
 have hFD:FD ([] ++ [⟨tg,fg,bg,gi.entry⟩] ++ [⟨tz,fz,bz,gi.entry⟩] ++ [⟨tt,ft,bt,gi.entry⟩]):=by
  refine ⟨?_,?_⟩
  ·intro a ha
   simp only [List.nil_append,List.mem_append,List.mem_singleton] at ha
   rcases ha with (rfl | rfl) | rfl
   ·exact hgd
   ·exact hzd
   ·exact htd
  ·intro i j a b hi hj hij id hid
   simp only [List.nil_append,List.cons_append] at hi hj
   match i,j,hi,hj,hij with
   | 0,1,hi,hj,_=>cases hi;cases hj;exact hgz id hid
   | 0,2,hi,hj,_=>cases hi;cases hj;exact hgt id hid
   | 1,2,hi,hj,_=>cases hi;cases hj;exact hzt id hid
   | 1,0,hi,hj,_=>cases hi;cases hj;exact fun e=>hgz id e hid
   | 2,0,hi,hj,_=>cases hi;cases hj;exact fun e=>hgt id e hid
   | 2,1,hi,hj,_=>cases hi;cases hj;exact fun e=>hzt id e hid
   | 0,0,_,_,h=>exact absurd rfl h
   | 1,1,_,_,h=>exact absurd rfl h
   | 2,2,_,_,h=>exact absurd rfl h
   | i + 3,_,hi,_,_=>simp at hi
   | _,j + 3,_,hj,_=>simp at hj
 refine (c73b hO k2 htY (fun id hid=>by have:=ltt id hid;omega) (by have:=sy2.len;omega) (by simp) (by decide) (by decide) (by simp only;omega) (fun b hb=>?_) hFD).mono ?_
 ·simp only [List.nil_append,List.mem_append,List.mem_singleton] at hb
  rcases hb with rfl | rfl
  ·exact ⟨_,hgY⟩
  ·exact ⟨_,hzY⟩
 rintro r Y3 ⟨K,V,kS,vS,k3,pKV,kl,ki,sy3,nw⟩
 have sy4:Stays (fun id=>tb + 1 ≤ id ∨ id ∈ (⟨tg,fg,bg,gi.entry⟩:IA).ids ∨ id ∈ (⟨tz,fz,bz,gi.entry⟩:IA).ids ∨ id ∈ (⟨tt,ft,bt,gi.entry⟩:IA).ids) H3 Y3:=by
  refine (sy2.mono fun _ _ e=>.inl e).trans (sy3.mono fun id _ e=>?_)
  rcases e with e | ⟨b,hb,e⟩
  ·exact .inl e
  ·simp only [List.nil_append,List.mem_append,List.mem_singleton] at hb
   rcases hb with (rfl | rfl) | rfl
   ·exact .inr (.inl e)
   ·exact .inr (.inr (.inl e))
   ·exact .inr (.inr (.inr e))
 have out:∀ id:Nat,id < zb → H1.length ≤ zb → id ∉ (⟨tg,fg,bg,gi.entry⟩:IA).ids → id < H1.length → ¬ (tb + 1 ≤ id ∨ id ∈ (⟨tg,fg,bg,gi.entry⟩:IA).ids ∨ id ∈ (⟨tz,fz,bz,gi.entry⟩:IA).ids ∨ id ∈ (⟨tt,ft,bt,gi.entry⟩:IA).ids):=by
  rintro id h1 h2 h3 h4 (e | e | e | e)
  ·omega
  ·exact h3 e
  ·have:=hzi id e;omega
  ·have:=hti id e;omega
 have haY:=haA7.stays sy4 fun id hid=>out id (by have:=lA id hid;omega) lz (hag id hid) (by have:=lA id hid;omega)
 have hWY:=hW7.stays sy4 fun id hid=>out id (by have:=hWi id hid;omega) lz (fun e=>by have:=hWi id hid;have:=lG id e;omega) (by have:=hWi id hid;omega)
 have x0:=rd_of (stays_get sy4 f0 (out _ (by omega) lz (fun e=>by have:=lG _ e;omega) (by omega)))
 have y8:=stays_get sy4 f8 (out _ (by omega) lz (fun e=>by have:=lG _ e;omega) (by omega))
 have k3:ShO Y3 (tb + 1) 6 _ [] [] K V nilS nilS kS vS:=k3
 repeat' first
  | simp (maxSteps:=1000000) only [go_sem,x0]
 refine (c23a hO haY hv ht).mono ?_
 rintro r h' ⟨q3,⟨tn,fn,bn,en⟩,rfl,rfl,hnW,hnd,hni⟩
 have n1:=(hnW.t.rows Ins.len).sl.cell
 have n2:=(hnW.f.rows Fn.len).sl.cell
 have n3:=(hnW.b.rows Tab.len).sl.cell
 have hne:=hnW.e
 simp only at n1 n2 n3 hne
 subst hne
 have stA:∀ G,Stays (fun _=>False) Y3 (Y3 ++ G):=fun G=>Stays.app _ _
 have r8:∀ G,AH.rd (Y3 ++ G) (h.length + 8) 0 = _:=fun G=>rd_of (stays_get (stA G) y8 fun h=>h)
 have sn:∀ G,ImS (Y3 ++ (q3 ++ G)) ⟨tn,fn,bn,gi.entry⟩ gi:=fun G=>by
  rw [← List.append_assoc]
  exact hnW.s.stays (Stays.app (P:=fun _=>False) _ G) (fun _ _ h=>h)
 have smn:∀ G,Same (Y3 ++ (q3 ++ G)) ⟨tn,fn,bn,gi.entry⟩ ⟨wt,wf,wb,gi.entry⟩:=fun G=>⟨gi,sn G,hWY.s.stays (stA _) fun _ _ h=>h⟩
 repeat' first
  | ((with_reducible show SemL _ _ _ _);refine SemL.of ?_)
  | ((with_reducible show SimCall _ 16 _ _ _);refine (c16 hO _ _).mono ?_;rintro r h' ⟨rfl,rfl⟩)
  | ((with_reducible show SimCall _ 25 _ _ _);refine (c25 hO (smn _)).mono ?_;rintro r h' ⟨rfl,rfl⟩)
  | simp (maxSteps:=1000000) only [go_sem,n1,n2,n3,IA.row,r8]
 have ol:∀ id,OwnK (tb + 1) kS vS id → id < Y3.length:=fun id e=>k3.own_lt (by
  rcases e with e | e | e
  ·exact .inl e
  ·exact .inr (.inr (.inr (.inl e)))
  ·exact .inr (.inr (.inr (.inr e))))
 refine (c73c hO (k3.stays (stA _) fun _ h=>h.elim) (pKV.stays (stA _) (fun _ _ _ _ h=>h) fun _ _ _ _ h=>h) ki (sn _) (fun id hid e=>by have:=ol id e;have:=hni id hid;omega) (by simp only;omega)).mono ?_
 rintro r Y5 ⟨c,T,f',w',k5,pa,pb⟩
 repeat' first
  | simp (maxSteps:=1000000) only [go_sem]
 refine (c74 hO k5 pa pb (by simp) (by omega)).mono ?_
 rintro r h' ⟨rfl,rfl⟩
 repeat' first
  | simp (maxSteps:=1000000) only [go_sem]
end Go.Tidy
